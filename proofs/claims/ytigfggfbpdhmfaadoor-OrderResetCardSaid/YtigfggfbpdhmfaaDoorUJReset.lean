/- The law OrderReset holds of the given program: for every input the call answers true, and each argument reads as it did. The condition: the listed variables of Go's library hold what the program's text lays, which the card ties to that text. No other condition. -/
import Derived.Test.YtigfggfbpdhmfaaDoorUWalkOL
import Derived.Test.YtigfggfbpdhmfaaDoorUO
import Derived.Test.YtigfggfbpdhmfaaDoorUJoin
import Derived.Test.YtigfggfbpdhmfaaDoorCards
set_option linter.all false
namespace Go.Proofs.YtigfggfbpdhmfaaDoor
open Go Go.Vx Go.ChangeShapes Go.WideShapes Go.ChangeAt Go.RowKit
set_option maxRecDepth 100000
theorem orderReset_lifted (os : Os) (started : os.Started) (H : Type) (enc : TypeId × Value → H) :
    ReturnsInHanded {} Tryd.checked os 8 .any (fun w args => (Rows.orderResetSpec.pre enc Tryd.prog Tryd.f8 Rows.orderResetRow.domain false w args ∧ laidMetH Tryd.prog Rows.orderResetRow.laid w) ∧ sizedMet enc Tryd.prog Tryd.f8 (OpenSpec.ofChange Rows.orderResetSpec) false w args)
      (Rows.orderResetSpec.post enc Tryd.prog Tryd.f8 false true false false) := by
  refine returnsInHanded_of_change_and (C := Tryd.checked) (X := fun w _ => laidMetH Tryd.prog Rows.orderResetRow.laid w) (fun _ _ _ hh h => h.of_heap hh) Tryd.own started (by kernel_rfl) Tryd.func8
    (ChangeSpec.witness_shaped (enc := enc) (C := Tryd.checked) (os := os) (X := fun w _ => laidMetH Tryd.prog Rows.orderResetRow.laid w) false (World.laidAll Tryd.prog os laidL) #[.slice none 0 0, .slice none 0 0, .int .i64 0, .int .i64 0] 8 (World.laidAll_os _ _ _)
      (wit_shaped os) (by kernel_rfl) (by kernel_rfl) (by kernel_rfl) (wit_met os _)) ?_
  intro W base args ds gs before hval0 hW _ _ hL _
  have hval : ∀ (j : Nat) t v, Tryd.f8.params[j]? = some t → args[j]? = some v → Value.okWide Tryd.prog W .any base t v := hval0
  have hW' := hW
  obtain ⟨p, q, hA0, hV, rfl, hfz, hnd⟩ := hW
  have hA : DataW.TrodAll enc Tryd.prog W 0 (fun _ => true) true Tryd.f8.params.toList args.toList ds p := hA0
  rw [Tryd.params8] at hA hval
  obtain ⟨v0, vs0, d0, ds0, p0, q0, ha0, rfl, rfl, h0, hA⟩ := trodAll_cons hA
  obtain ⟨v1, vs1, d1, ds1, p1, q1, ha1, rfl, rfl, h1, hA⟩ := trodAll_cons hA
  obtain ⟨v2, vs2, d2, ds2, p2, q2, ha2, rfl, rfl, h2, hA⟩ := trodAll_cons hA
  obtain ⟨v3, vs3, d3, ds3, p3, q3, ha3, rfl, rfl, h3, hA⟩ := trodAll_cons hA
  obtain ⟨rfl, rfl, rfl⟩ := trodAll_nil hA
  obtain ⟨rfl, rfl⟩ := trodVars_none hV
  have ha : args = #[v0, v1, v2, v3] := by cases args; simp_all
  subst ha
  obtain ⟨x0, w0, r0⟩ := open_one opens41 (cells_slice und41 (hval 0 41 v0 rfl rfl)) h0
  obtain ⟨x1, w1, r1⟩ := open_one opens41 (cells_slice und41 (hval 1 41 v1 rfl rfl)) h1
  obtain ⟨x2, w2, r2⟩ := open_one opens3 (cells_int und3 (hval 2 3 v2 rfl rfl)) h2
  obtain ⟨x3, w3, r3⟩ := open_one opens3 (cells_int und3 (hval 3 3 v3 rfl rfl)) h3
  refine ((lapwinglaw19_OrderReset_ok x0 x1 x2 x3 true (orderReset_true x0 x1 x2 x3)).2 W (fun b => b < W.heap.size) 1 [v0, v1, v2, v3] (by decide) (fun b h => h) (glob_of hL) rfl (fun t d ht => ?_)).mono ?_
  · match t, ht with
    | 0, ht => cases ht; exact ⟨v0, rfl, r0⟩
    | 1, ht => cases ht; exact ⟨v1, rfl, r1⟩
    | 2, ht => cases ht; exact ⟨v2, rfl, r2⟩
    | 3, ht => cases ht; exact ⟨v3, rfl, r3⟩
  · rintro e W' ⟨v, I', rfl, _, _, hsame, _, hwo, hres⟩
    have hres : v = .bool true := hres
    subst hres
    exact ⟨_, rfl, law_post Tryd.laidOut und4 rfl (by kernel_rfl) rfl rfl hW' hsame hwo⟩

theorem orderReset_holds : Rows.OrderResetSaid :=
  OpenClaim.holds_of_wide 8 Tryd.f8 rfl rfl rfl rfl rfl rfl rfl ⟨rfl, rfl, rfl, rfl, rfl⟩ rfl rfl rfl rfl rfl (by kernel_rfl) Tryd.func8 (by kernel_rfl)
    (of_decide_eq_true (by kernel_rfl)) (by unfold Func.isWrapper; first | (rw [if_pos (by decide +kernel)]; kernel_rfl) | (rw [if_neg (by decide +kernel)]; exact ⟨rfl, rfl⟩))
    (fun os started H enc _ => orderReset_lifted os started H enc)
theorem orderReset_card_holds : Rows.OrderResetCardSaid :=
  Claim7.holds_tied_plain_at .later [] [.data, .data, .data, .data, .sentinel, .sentinel, .listed, .data, .pinned] true (true, "04281d9fca1b4afafab9c826984c70c86bf496820d8678eb5547b43ca991c4c5") true
    orderReset_holds (fun _ h => by cases h) (by kernel_rfl) (fun _ h => by cases h) orderReset_row_tie rfl ⟨rfl, rfl⟩ (by kernel_rfl) rfl
    (fun f fn hf hfn => by
      obtain rfl : f = 8 := Option.some.inj ((show Tryd.prog.funcNamed "lapwing/lapwinglaw19.OrderReset" = some 8 by kernel_rfl).symm.trans hf) |>.symm
      obtain rfl : fn = Tryd.f8 := (Option.some.inj (Tryd.func8.symm.trans hfn)).symm
      exact ⟨by kernel_rfl, fun j t ht => by
        rw [Tryd.params8] at ht
        have hm : t ∈ [41, 41, 3, 3] := by simpa using Array.mem_of_getElem? ht
        have hall : ([41, 41, 3, 3].all fun u => !Tryd.prog.wantsStandIn u) = true := by kernel_rfl
        exact (show Tryd.prog.wantsStandIn t = false by simpa using List.all_eq_true.1 hall t hm)⟩)
    (by kernel_rfl)
end Go.Proofs.YtigfggfbpdhmfaaDoor
