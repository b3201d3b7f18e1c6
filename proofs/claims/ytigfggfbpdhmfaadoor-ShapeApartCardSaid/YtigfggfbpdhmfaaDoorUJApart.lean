/- The law ShapeApart holds of the given program: for every input the call answers true, and each argument reads as it did. The condition: the listed variables of Go's library hold what the program's text lays, which the card ties to that text. No other condition. -/
import Derived.Test.YtigfggfbpdhmfaaDoorUWalkSL2
import Derived.Test.YtigfggfbpdhmfaaDoorUSM
import Derived.Test.YtigfggfbpdhmfaaDoorUJoin
import Derived.Test.YtigfggfbpdhmfaaDoorCards
set_option linter.all false
namespace Go.Proofs.YtigfggfbpdhmfaaDoor
open Go Go.Vx Go.ChangeShapes Go.WideShapes Go.ChangeAt Go.RowKit
set_option maxRecDepth 100000
theorem shapeApart_lifted (os : Os) (started : os.Started) (H : Type) (enc : TypeId × Value → H) :
    ReturnsInHanded {} Tryd.checked os 12 .any (fun w args => (Rows.shapeApartSpec.pre enc Tryd.prog Tryd.f12 Rows.shapeApartRow.domain false w args ∧ laidMetH Tryd.prog Rows.shapeApartRow.laid w) ∧ sizedMet enc Tryd.prog Tryd.f12 (OpenSpec.ofChange Rows.shapeApartSpec) false w args)
      (Rows.shapeApartSpec.post enc Tryd.prog Tryd.f12 false true false false) := by
  refine returnsInHanded_of_change_and (C := Tryd.checked) (X := fun w _ => laidMetH Tryd.prog Rows.shapeApartRow.laid w) (fun _ _ _ hh h => h.of_heap hh) Tryd.own started (by kernel_rfl) Tryd.func12
    (ChangeSpec.witness_shaped (enc := enc) (C := Tryd.checked) (os := os) (X := fun w _ => laidMetH Tryd.prog Rows.shapeApartRow.laid w) false (World.laidAll Tryd.prog os laidL) #[.slice none 0 0, .slice none 0 0] 8 (World.laidAll_os _ _ _)
      (wit_shaped os) (by kernel_rfl) (by kernel_rfl) (by kernel_rfl) (wit_met os _)) ?_
  intro W base args ds gs before hval0 hW _ _ hL _
  have hval : ∀ (j : Nat) t v, Tryd.f12.params[j]? = some t → args[j]? = some v → Value.okWide Tryd.prog W .any base t v := hval0
  have hW' := hW
  obtain ⟨p, q, hA0, hV, rfl, hfz, hnd⟩ := hW
  have hA : DataW.TrodAll enc Tryd.prog W 0 (fun _ => true) true Tryd.f12.params.toList args.toList ds p := hA0
  rw [Tryd.params12] at hA hval
  obtain ⟨v0, vs0, d0, ds0, p0, q0, ha0, rfl, rfl, h0, hA⟩ := trodAll_cons hA
  obtain ⟨v1, vs1, d1, ds1, p1, q1, ha1, rfl, rfl, h1, hA⟩ := trodAll_cons hA
  obtain ⟨rfl, rfl, rfl⟩ := trodAll_nil hA
  obtain ⟨rfl, rfl⟩ := trodVars_none hV
  have ha : args = #[v0, v1] := by cases args; simp_all
  subst ha
  obtain ⟨x0, w0, r0⟩ := open_one opens41 (cells_slice und41 (hval 0 41 v0 rfl rfl)) h0
  obtain ⟨x1, w1, r1⟩ := open_one opens41 (cells_slice und41 (hval 1 41 v1 rfl rfl)) h1
  refine ((lapwinglaw20_ShapeApart_ok x0 x1 true (shapeApart_true x0 x1)).2 W (fun b => b < W.heap.size) 1 [v0, v1] (by decide) (fun b h => h) (glob_of hL) rfl (fun t d ht => ?_)).mono ?_
  · match t, ht with
    | 0, ht => cases ht; exact ⟨v0, rfl, r0⟩
    | 1, ht => cases ht; exact ⟨v1, rfl, r1⟩
  · rintro e W' ⟨v, I', rfl, _, _, hsame, _, hwo, hres⟩
    have hres : v = .bool true := hres
    subst hres
    exact ⟨_, rfl, law_post Tryd.laidOut und4 rfl (by kernel_rfl) rfl rfl hW' hsame hwo⟩

theorem shapeApart_holds : Rows.ShapeApartSaid :=
  OpenClaim.holds_of_wide 12 Tryd.f12 rfl rfl rfl rfl rfl rfl rfl ⟨rfl, rfl, rfl, rfl, rfl⟩ rfl rfl rfl rfl rfl (by kernel_rfl) Tryd.func12 (by kernel_rfl)
    (of_decide_eq_true (by kernel_rfl)) (by unfold Func.isWrapper; first | (rw [if_pos (by decide +kernel)]; kernel_rfl) | (rw [if_neg (by decide +kernel)]; exact ⟨rfl, rfl⟩))
    (fun os started H enc _ => shapeApart_lifted os started H enc)
theorem shapeApart_card_holds : Rows.ShapeApartCardSaid :=
  Claim7.holds_tied_plain_at .later [] [.data, .data, .data, .data, .sentinel, .sentinel, .listed, .data, .pinned] true (true, "04281d9fca1b4afafab9c826984c70c86bf496820d8678eb5547b43ca991c4c5") true
    shapeApart_holds (fun _ h => by cases h) (by kernel_rfl) (fun _ h => by cases h) shapeApart_row_tie rfl ⟨rfl, rfl⟩ (by kernel_rfl) rfl
    (fun f fn hf hfn => by
      obtain rfl : f = 12 := Option.some.inj ((show Tryd.prog.funcNamed "lapwing/lapwinglaw20.ShapeApart" = some 12 by kernel_rfl).symm.trans hf) |>.symm
      obtain rfl : fn = Tryd.f12 := (Option.some.inj (Tryd.func12.symm.trans hfn)).symm
      exact ⟨by kernel_rfl, fun j t ht => by
        rw [Tryd.params12] at ht
        have hm : t ∈ [41, 41] := by simpa using Array.mem_of_getElem? ht
        have hall : ([41, 41].all fun u => !Tryd.prog.wantsStandIn u) = true := by kernel_rfl
        exact (show Tryd.prog.wantsStandIn t = false by simpa using List.all_eq_true.1 hall t hm)⟩)
    (by kernel_rfl)
end Go.Proofs.YtigfggfbpdhmfaaDoor
