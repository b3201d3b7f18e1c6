/- The law ShapePass holds of the given program: for every input the call answers true, and each argument reads as it did. The condition: the listed variables of Go's library hold what the program's text lays, which the card ties to that text. No other condition. -/
import Derived.Test.YtigfggfbpdhmfaaDoorUWalkSL2
import Derived.Test.YtigfggfbpdhmfaaDoorUSM
import Derived.Test.YtigfggfbpdhmfaaDoorUJoin
import Derived.Test.YtigfggfbpdhmfaaDoorCards
set_option linter.all false
namespace Go.Proofs.YtigfggfbpdhmfaaDoor
open Go Go.Vx Go.ChangeShapes Go.WideShapes Go.ChangeAt Go.RowKit
set_option maxRecDepth 100000
theorem shapePass_lifted (os : Os) (started : os.Started) (H : Type) (enc : TypeId × Value → H) :
    ReturnsInHanded {} Tryd.checked os 13 .any (fun w args => (Rows.shapePassSpec.pre enc Tryd.prog Tryd.f13 Rows.shapePassRow.domain false w args ∧ laidMetH Tryd.prog Rows.shapePassRow.laid w) ∧ sizedMet enc Tryd.prog Tryd.f13 (OpenSpec.ofChange Rows.shapePassSpec) false w args)
      (Rows.shapePassSpec.post enc Tryd.prog Tryd.f13 false true false false) := by
  refine returnsInHanded_of_change_and (C := Tryd.checked) (X := fun w _ => laidMetH Tryd.prog Rows.shapePassRow.laid w) (fun _ _ _ hh h => h.of_heap hh) Tryd.own started (by kernel_rfl) Tryd.func13
    (ChangeSpec.witness_shaped (enc := enc) (C := Tryd.checked) (os := os) (X := fun w _ => laidMetH Tryd.prog Rows.shapePassRow.laid w) false (World.laidAll Tryd.prog os laidL) #[.slice none 0 0] 8 (World.laidAll_os _ _ _)
      (wit_shaped os) (by kernel_rfl) (by kernel_rfl) (by kernel_rfl) (wit_met os _)) ?_
  intro W base args ds gs before hval0 hW _ _ hL _
  have hval : ∀ (j : Nat) t v, Tryd.f13.params[j]? = some t → args[j]? = some v → Value.okWide Tryd.prog W .any base t v := hval0
  have hW' := hW
  obtain ⟨p, q, hA0, hV, rfl, hfz, hnd⟩ := hW
  have hA : DataW.TrodAll enc Tryd.prog W 0 (fun _ => true) true Tryd.f13.params.toList args.toList ds p := hA0
  rw [Tryd.params13] at hA hval
  obtain ⟨v0, vs0, d0, ds0, p0, q0, ha0, rfl, rfl, h0, hA⟩ := trodAll_cons hA
  obtain ⟨rfl, rfl, rfl⟩ := trodAll_nil hA
  obtain ⟨rfl, rfl⟩ := trodVars_none hV
  have ha : args = #[v0] := by cases args; simp_all
  subst ha
  obtain ⟨x0, w0, r0⟩ := open_one opens41 (cells_slice und41 (hval 0 41 v0 rfl rfl)) h0
  refine ((lapwinglaw20_ShapePass_ok x0 true (shapePass_true x0)).2 W (fun b => b < W.heap.size) 1 [v0] (by decide) (fun b h => h) (glob_of hL) rfl (fun t d ht => ?_)).mono ?_
  · match t, ht with
    | 0, ht => cases ht; exact ⟨v0, rfl, r0⟩
  · rintro e W' ⟨v, I', rfl, _, _, hsame, _, hwo, hres⟩
    have hres : v = .bool true := hres
    subst hres
    exact ⟨_, rfl, law_post Tryd.laidOut und4 rfl (by kernel_rfl) rfl rfl hW' hsame hwo⟩

theorem shapePass_holds : Rows.ShapePassSaid :=
  OpenClaim.holds_of_wide 13 Tryd.f13 rfl rfl rfl rfl rfl rfl rfl ⟨rfl, rfl, rfl, rfl, rfl⟩ rfl rfl rfl rfl rfl (by kernel_rfl) Tryd.func13 (by kernel_rfl)
    (of_decide_eq_true (by kernel_rfl)) (by unfold Func.isWrapper; first | (rw [if_pos (by decide +kernel)]; kernel_rfl) | (rw [if_neg (by decide +kernel)]; exact ⟨rfl, rfl⟩))
    (fun os started H enc _ => shapePass_lifted os started H enc)
theorem shapePass_card_holds : Rows.ShapePassCardSaid :=
  Claim7.holds_tied_plain_at .later [] [.data, .data, .data, .data, .sentinel, .sentinel, .listed, .data, .pinned] true (true, "04281d9fca1b4afafab9c826984c70c86bf496820d8678eb5547b43ca991c4c5") true
    shapePass_holds (fun _ h => by cases h) (by kernel_rfl) (fun _ h => by cases h) shapePass_row_tie rfl ⟨rfl, rfl⟩ (by kernel_rfl) rfl
    (fun f fn hf hfn => by
      obtain rfl : f = 13 := Option.some.inj ((show Tryd.prog.funcNamed "lapwing/lapwinglaw20.ShapePass" = some 13 by kernel_rfl).symm.trans hf) |>.symm
      obtain rfl : fn = Tryd.f13 := (Option.some.inj (Tryd.func13.symm.trans hfn)).symm
      exact ⟨by kernel_rfl, fun j t ht => by
        rw [Tryd.params13] at ht
        have hm : t ∈ [41] := by simpa using Array.mem_of_getElem? ht
        have hall : ([41].all fun u => !Tryd.prog.wantsStandIn u) = true := by kernel_rfl
        exact (show Tryd.prog.wantsStandIn t = false by simpa using List.all_eq_true.1 hall t hm)⟩)
    (by kernel_rfl)
end Go.Proofs.YtigfggfbpdhmfaaDoor
