/- The law ShapeKeeps holds of the given program: for every input the call answers true, and each argument reads as it did. The condition: the listed variables of Go's library hold what the program's text lays, which the card ties to that text. No other condition. -/
import Derived.Test.YtigfggfbpdhmfaaDoorUWalkSL1
import Derived.Test.YtigfggfbpdhmfaaDoorUSK
import Derived.Test.YtigfggfbpdhmfaaDoorUJoin
import Derived.Test.YtigfggfbpdhmfaaDoorCards
set_option linter.all false
namespace Go.Proofs.YtigfggfbpdhmfaaDoor
open Go Go.Vx Go.ChangeShapes Go.WideShapes Go.ChangeAt Go.RowKit
set_option maxRecDepth 100000
theorem shapeKeeps_lifted (os : Os) (started : os.Started) (H : Type) (enc : TypeId × Value → H) :
    ReturnsInHanded {} Tryd.checked os 10 .any (fun w args => (Rows.shapeKeepsSpec.pre enc Tryd.prog Tryd.f10 Rows.shapeKeepsRow.domain false w args ∧ laidMetH Tryd.prog Rows.shapeKeepsRow.laid w) ∧ sizedMet enc Tryd.prog Tryd.f10 (OpenSpec.ofChange Rows.shapeKeepsSpec) false w args)
      (Rows.shapeKeepsSpec.post enc Tryd.prog Tryd.f10 false true false false) := by
  refine returnsInHanded_of_change_and (C := Tryd.checked) (X := fun w _ => laidMetH Tryd.prog Rows.shapeKeepsRow.laid w) (fun _ _ _ hh h => h.of_heap hh) Tryd.own started (by kernel_rfl) Tryd.func10
    (ChangeSpec.witness_shaped (enc := enc) (C := Tryd.checked) (os := os) (X := fun w _ => laidMetH Tryd.prog Rows.shapeKeepsRow.laid w) false (World.laidAll Tryd.prog os laidL) #[.slice none 0 0, .slice none 0 0, .bool false] 8 (World.laidAll_os _ _ _)
      (wit_shaped os) (by kernel_rfl) (by kernel_rfl) (by kernel_rfl) (wit_met os _)) ?_
  intro W base args ds gs before hval0 hW _ _ hL _
  have hval : ∀ (j : Nat) t v, Tryd.f10.params[j]? = some t → args[j]? = some v → Value.okWide Tryd.prog W .any base t v := hval0
  have hW' := hW
  obtain ⟨p, q, hA0, hV, rfl, hfz, hnd⟩ := hW
  have hA : DataW.TrodAll enc Tryd.prog W 0 (fun _ => true) true Tryd.f10.params.toList args.toList ds p := hA0
  rw [Tryd.params10] at hA hval
  obtain ⟨v0, vs0, d0, ds0, p0, q0, ha0, rfl, rfl, h0, hA⟩ := trodAll_cons hA
  obtain ⟨v1, vs1, d1, ds1, p1, q1, ha1, rfl, rfl, h1, hA⟩ := trodAll_cons hA
  obtain ⟨v2, vs2, d2, ds2, p2, q2, ha2, rfl, rfl, h2, hA⟩ := trodAll_cons hA
  obtain ⟨rfl, rfl, rfl⟩ := trodAll_nil hA
  obtain ⟨rfl, rfl⟩ := trodVars_none hV
  have ha : args = #[v0, v1, v2] := by cases args; simp_all
  subst ha
  obtain ⟨x0, w0, r0⟩ := open_one opens41 (cells_slice und41 (hval 0 41 v0 rfl rfl)) h0
  obtain ⟨x1, w1, r1⟩ := open_one opens41 (cells_slice und41 (hval 1 41 v1 rfl rfl)) h1
  obtain ⟨x2, w2, r2⟩ := open_one opens4 (cells_bool und4 (hval 2 4 v2 rfl rfl)) h2
  refine ((lapwinglaw20_ShapeKeeps_ok x0 x1 x2 true (shapeKeeps_true x0 x1 x2)).2 W (fun b => b < W.heap.size) 1 [v0, v1, v2] (by decide) (fun b h => h) (glob_of hL) rfl (fun t d ht => ?_)).mono ?_
  · match t, ht with
    | 0, ht => cases ht; exact ⟨v0, rfl, r0⟩
    | 1, ht => cases ht; exact ⟨v1, rfl, r1⟩
    | 2, ht => cases ht; exact ⟨v2, rfl, r2⟩
  · rintro e W' ⟨v, I', rfl, _, _, hsame, _, hwo, hres⟩
    have hres : v = .bool true := hres
    subst hres
    exact ⟨_, rfl, law_post Tryd.laidOut und4 rfl (by kernel_rfl) rfl rfl hW' hsame hwo⟩

theorem shapeKeeps_holds : Rows.ShapeKeepsSaid :=
  OpenClaim.holds_of_wide 10 Tryd.f10 rfl rfl rfl rfl rfl rfl rfl ⟨rfl, rfl, rfl, rfl, rfl⟩ rfl rfl rfl rfl rfl (by kernel_rfl) Tryd.func10 (by kernel_rfl)
    (of_decide_eq_true (by kernel_rfl)) (by unfold Func.isWrapper; first | (rw [if_pos (by decide +kernel)]; kernel_rfl) | (rw [if_neg (by decide +kernel)]; exact ⟨rfl, rfl⟩))
    (fun os started H enc _ => shapeKeeps_lifted os started H enc)
theorem shapeKeeps_card_holds : Rows.ShapeKeepsCardSaid :=
  Claim7.holds_tied_plain_at .later [] [.data, .data, .data, .data, .sentinel, .sentinel, .listed, .data, .pinned] true (true, "04281d9fca1b4afafab9c826984c70c86bf496820d8678eb5547b43ca991c4c5") true
    shapeKeeps_holds (fun _ h => by cases h) (by kernel_rfl) (fun _ h => by cases h) shapeKeeps_row_tie rfl ⟨rfl, rfl⟩ (by kernel_rfl) rfl
    (fun f fn hf hfn => by
      obtain rfl : f = 10 := Option.some.inj ((show Tryd.prog.funcNamed "lapwing/lapwinglaw20.ShapeKeeps" = some 10 by kernel_rfl).symm.trans hf) |>.symm
      obtain rfl : fn = Tryd.f10 := (Option.some.inj (Tryd.func10.symm.trans hfn)).symm
      exact ⟨by kernel_rfl, fun j t ht => by
        rw [Tryd.params10] at ht
        have hm : t ∈ [41, 41, 4] := by simpa using Array.mem_of_getElem? ht
        have hall : ([41, 41, 4].all fun u => !Tryd.prog.wantsStandIn u) = true := by kernel_rfl
        exact (show Tryd.prog.wantsStandIn t = false by simpa using List.all_eq_true.1 hall t hm)⟩)
    (by kernel_rfl)
end Go.Proofs.YtigfggfbpdhmfaaDoor
