/- Walks, by program (lift.py). -/
import Derived.Test.YtigfggfbpdhmfaaDoorUWalk
import Derived.Test.YtigfggfbpdhmfaaDoorUWalkS
set_option linter.all false
namespace Go.Vx
open Go.Proofs
set_option maxRecDepth 100000
set_option linter.unusedVariables false
set_option linter.unusedSimpArgs false

theorem lapwinglaw20_ShapeApart_ok (a : (List Int)) (b : (List Int)) (r : Bool) (h : lapwinglaw20_ShapeApart a b = some r) : PureFn Tryd.prog 12 [(.sl 1 (nvS.len a) false (fun i j => (.v (.int .i64 (nvS.get 0 a i))))), (.sl 1 (nvS.len b) false (fun i j => (.v (.int .i64 (nvS.get 0 b i)))))] ((.v (.bool r))) := by
  unfold lapwinglaw20_ShapeApart at h
  refine fn_tr tt0_ok Tryd.func12 (by kernel_rfl) (c := bodyOf Tryd.f12) (by kernel_rfl) ?_
  intro ctr hc
  obtain ⟨v, h1⟩ : ∃ v, valO false (lapwinglaw20_awake) = v := ⟨_, rfl⟩
  obtain ⟨v1, h3⟩ : ∃ v1, valO d_ucd_Data (ucd_Load) = v1 := ⟨_, rfl⟩
  obtain ⟨v2, h8⟩ : ∃ v2, valO [] (shape_Glyphs v1 ((a ++ ([32] : List Int)) ++ b) (repL (((lenL a) + 1) + (lenL b)) 0) false) = v2 := ⟨_, rfl⟩
  obtain ⟨v3, h10⟩ : ∃ v3, valO [] (shape_Glyphs v1 a (repL (lenL a) 0) false) = v3 := ⟨_, rfl⟩
  obtain ⟨v4, h12⟩ : ∃ v4, valO [] (shape_Glyphs v1 b (repL (lenL b) 0) false) = v4 := ⟨_, rfl⟩
  obtain ⟨v5, h15⟩ : ∃ v5, valO false (if v = true then lapwingref03_Ints (subL v2 (0 + 0) ((0 + 0) + ((lenL a) - 0))) v3 else some false) = v5 := ⟨_, rfl⟩
  obtain ⟨v6, h18⟩ : ∃ v6, valO false (if (if v = true then v5 else false) = true then lapwingref03_Ints (subL v2 (0 + ((lenL a) + 1)) ((0 + ((lenL a) + 1)) + ((lenL v2) - ((lenL a) + 1)))) v4 else some false) = v6 := ⟨_, rfl⟩
  refine Tr.chunk (cx := ⟨tt0, ⟨fun f => kOf [(26, 3), (30, 3)] f, fun k _ _ _ => orcL [(11, .plain (.v (.bool v))), (21, .plain (.agg 6 (fun j => (D_ucd_Data nvS v1 j)))), (36, .own 1 (nvS.len v2) false (fun i j => (.v (.int .i64 (nvS.get 0 v2 i))))), (42, .own 1 (nvS.len v3) false (fun i j => (.v (.int .i64 (nvS.get 0 v3 i))))), (48, .own 1 (nvS.len v4) false (fun i j => (.v (.int .i64 (nvS.get 0 v4 i))))), (61, .plain (.v (.bool v5))), (70, .plain (.v (.bool v6)))] k, fun t => memN [22, 24, 26] t⟩, 0, fun r => ghL [] r⟩) tt0_ok hPm fun N hN => ?_
  generalize hp : std Tryd.prog = p
  generalize hv : nvS = nv
  cbv
  subst hp
  subst hv
  replace h := bindO_val h1 h; clear h1; obtain ⟨h1, h⟩ := h
  refine ⟨(Or.inl (PureFn.arg (lapwinglaw20_awake_ok  v h1) trivial)), ?_⟩
  refine ⟨(fun hg => hg), (fun hg => hg), (fun hg => hg), ?_⟩
  refine ⟨fun h2 => ?_, fun h2 => ?_⟩
  · replace h := iteO_t h h2
    subst hN
    have hr := Option.some.inj h
    subst hr
    try dsimp only [noGoto, inBlockQ, thenQ]
    repeat (first | refine (if_pos rfl).mpr ?_ | refine (if_neg (by decide)).mpr ?_)
    refine retQ_ret rfl ?_ ?_
    · exact trivial
    · exact rfl
  · replace h := iteO_f h h2
    replace h := bindO_val h3 h; clear h3; obtain ⟨h3, h⟩ := h
    refine ⟨(Or.inl (PureFn.arg (ucd_Load_ok  v1 h3) trivial)), rfl, ?_⟩
    replace h := chk_some h; obtain ⟨h4, h⟩ := h
    refine ⟨h4, rfl, rfl, ?_⟩
    replace h := chk_some h; obtain ⟨h5, h⟩ := h
    refine ⟨rfl, h5, ?_⟩
    replace h := chk_some h; obtain ⟨h6, h⟩ := h
    refine ⟨rfl, h6, ?_⟩
    replace h := chk_some h; obtain ⟨h7, h⟩ := h
    have h7' := h7.1; have h7'' := h7.2.1
    replace h := bindO_val h8 h; clear h8; obtain ⟨h8, h⟩ := h
    refine ⟨rfl, h7, rfl, rfl, (fun _ _ _ _ _ => trivial), (PureFn.arg (shape_Glyphs_ok v1 ((a ++ ([32] : List Int)) ++ b) (repL (((lenL a) + 1) + (lenL b)) 0) false v2 h8) (And.intro (LeD.agg fun j hj => by
          have hj2 : j < 6 := hj
          rcases (show j = 0 ∨ j = 1 ∨ j = 2 ∨ j = 3 ∨ j = 4 ∨ j = 5 by omega) with rfl | rfl | rfl | rfl | rfl | rfl
          · exact LeD.refl _
          · exact LeD.refl _
          · exact LeD.refl _
          · exact LeD.refl _
          · exact LeD.refl _
          · exact LeD.refl _)
        (And.intro (LeD.slE (by first | rfl | assumption | (symm; assumption) | ((try dsimp only [std_eq, stdN, nvS]) <;> first | rfl | omega | (simp (disch := first | omega | (simp only [lenL_set, lenL_app, lenL_cons, lenL_nil] <;> omega)) only [lenL_bytes, lenL_set, lenL_app, lenL_cons, lenL_nil, lenL_rep, lenL_sub, lenL_cpy, Int.ofNat_eq_natCast, Int.zero_add, Int.sub_zero] <;> try omega))) (fun i i0 i1 j hj => by (try dsimp only [std_eq, stdN, nvS] at i1); (try simp only [Int.ofNat_eq_natCast] at i1); (obtain rfl : j = 0 := (by omega)) <;> (conv => lhs; whnf) <;> (conv => rhs; whnf) <;> (try dsimp only [std_eq, stdN, nvS]) <;> (first | rfl | (simp (disch := first | omega | (simp only [lenL_set, lenL_app, lenL_cons, lenL_nil] <;> omega)) only [getL_bytes, getL_put, getL_app, getL_rep, getL_sub, getL_cpy, Int.zero_add, Int.sub_zero, beq_iff_eq, decide_eq_true_eq, Bool.and_eq_true] <;> first | rfl | (split <;> first | rfl | (simp (disch := first | omega | (simp only [lenL_set, lenL_app, lenL_cons, lenL_nil] <;> omega)) only [getL_one, getL_zero] <;> rfl)) | ((simp only [lenL_app, lenL_cons, lenL_nil, Int.ofNat_eq_natCast]) <;> (repeat' split) <;> first | rfl | (exfalso; omega) | (simp (disch := omega) only [getL_one, getL_zero] <;> rfl) | (congr 3; omega))))))
        (And.intro (LeD.slE (by first | rfl | assumption | (symm; assumption) | ((try dsimp only [std_eq, stdN, nvS]) <;> first | rfl | omega | (simp (disch := first | omega | (simp only [lenL_set, lenL_app, lenL_cons, lenL_nil] <;> omega)) only [lenL_bytes, lenL_set, lenL_app, lenL_cons, lenL_nil, lenL_rep, lenL_sub, lenL_cpy, Int.ofNat_eq_natCast, Int.zero_add, Int.sub_zero] <;> try omega))) (fun i i0 i1 j hj => by (try dsimp only [std_eq, stdN, nvS] at i1); (try simp only [Int.ofNat_eq_natCast] at i1); (obtain rfl : j = 0 := (by omega)) <;> (conv => lhs; whnf) <;> (conv => rhs; whnf) <;> (try dsimp only [std_eq, stdN, nvS]) <;> (first | rfl | (simp (disch := first | omega | (simp only [lenL_set, lenL_app, lenL_cons, lenL_nil] <;> omega)) only [getL_bytes, getL_put, getL_app, getL_rep, getL_sub, getL_cpy, Int.zero_add, Int.sub_zero, beq_iff_eq, decide_eq_true_eq, Bool.and_eq_true] <;> first | rfl | (split <;> first | rfl | (simp (disch := first | omega | (simp only [lenL_set, lenL_app, lenL_cons, lenL_nil] <;> omega)) only [getL_one, getL_zero] <;> rfl)) | ((simp only [lenL_app, lenL_cons, lenL_nil, Int.ofNat_eq_natCast]) <;> (repeat' split) <;> first | rfl | (exfalso; omega) | (simp (disch := omega) only [getL_one, getL_zero] <;> rfl) | (congr 3; omega))))))
        (And.intro (LeD.refl _)
        trivial))))), (show drOk _ _ = true by kernel_rfl), ?_⟩
    replace h := chk_some h; obtain ⟨h9, h⟩ := h
    have h9' := h9.1; have h9'' := h9.2.1
    replace h := bindO_val h10 h; clear h10; obtain ⟨h10, h⟩ := h
    refine ⟨rfl, h9, rfl, (fun _ _ _ _ _ => trivial), (PureFn.arg (shape_Glyphs_ok v1 a (repL (lenL a) 0) false v3 h10) (And.intro (LeD.agg fun j hj => by
          have hj2 : j < 6 := hj
          rcases (show j = 0 ∨ j = 1 ∨ j = 2 ∨ j = 3 ∨ j = 4 ∨ j = 5 by omega) with rfl | rfl | rfl | rfl | rfl | rfl
          · exact LeD.refl _
          · exact LeD.refl _
          · exact LeD.refl _
          · exact LeD.refl _
          · exact LeD.refl _
          · exact LeD.refl _)
        (And.intro (LeD.refl _)
        (And.intro (LeD.slE (by first | rfl | assumption | (symm; assumption) | ((try dsimp only [std_eq, stdN, nvS]) <;> first | rfl | omega | (simp (disch := first | omega | (simp only [lenL_set, lenL_app, lenL_cons, lenL_nil] <;> omega)) only [lenL_bytes, lenL_set, lenL_app, lenL_cons, lenL_nil, lenL_rep, lenL_sub, lenL_cpy, Int.ofNat_eq_natCast, Int.zero_add, Int.sub_zero] <;> try omega))) (fun i i0 i1 j hj => by (try dsimp only [std_eq, stdN, nvS] at i1); (try simp only [Int.ofNat_eq_natCast] at i1); (obtain rfl : j = 0 := (by omega)) <;> (conv => lhs; whnf) <;> (conv => rhs; whnf) <;> (try dsimp only [std_eq, stdN, nvS]) <;> (first | rfl | (simp (disch := first | omega | (simp only [lenL_set, lenL_app, lenL_cons, lenL_nil] <;> omega)) only [getL_bytes, getL_put, getL_app, getL_rep, getL_sub, getL_cpy, Int.zero_add, Int.sub_zero, beq_iff_eq, decide_eq_true_eq, Bool.and_eq_true] <;> first | rfl | (split <;> first | rfl | (simp (disch := first | omega | (simp only [lenL_set, lenL_app, lenL_cons, lenL_nil] <;> omega)) only [getL_one, getL_zero] <;> rfl)) | ((simp only [lenL_app, lenL_cons, lenL_nil, Int.ofNat_eq_natCast]) <;> (repeat' split) <;> first | rfl | (exfalso; omega) | (simp (disch := omega) only [getL_one, getL_zero] <;> rfl) | (congr 3; omega))))))
        (And.intro (LeD.refl _)
        trivial))))), (show drOk _ _ = true by kernel_rfl), ?_⟩
    replace h := chk_some h; obtain ⟨h11, h⟩ := h
    have h11' := h11.1; have h11'' := h11.2.1
    replace h := bindO_val h12 h; clear h12; obtain ⟨h12, h⟩ := h
    refine ⟨rfl, h11, rfl, (fun _ _ _ _ _ => trivial), (PureFn.arg (shape_Glyphs_ok v1 b (repL (lenL b) 0) false v4 h12) (And.intro (LeD.agg fun j hj => by
          have hj2 : j < 6 := hj
          rcases (show j = 0 ∨ j = 1 ∨ j = 2 ∨ j = 3 ∨ j = 4 ∨ j = 5 by omega) with rfl | rfl | rfl | rfl | rfl | rfl
          · exact LeD.refl _
          · exact LeD.refl _
          · exact LeD.refl _
          · exact LeD.refl _
          · exact LeD.refl _
          · exact LeD.refl _)
        (And.intro (LeD.refl _)
        (And.intro (LeD.slE (by first | rfl | assumption | (symm; assumption) | ((try dsimp only [std_eq, stdN, nvS]) <;> first | rfl | omega | (simp (disch := first | omega | (simp only [lenL_set, lenL_app, lenL_cons, lenL_nil] <;> omega)) only [lenL_bytes, lenL_set, lenL_app, lenL_cons, lenL_nil, lenL_rep, lenL_sub, lenL_cpy, Int.ofNat_eq_natCast, Int.zero_add, Int.sub_zero] <;> try omega))) (fun i i0 i1 j hj => by (try dsimp only [std_eq, stdN, nvS] at i1); (try simp only [Int.ofNat_eq_natCast] at i1); (obtain rfl : j = 0 := (by omega)) <;> (conv => lhs; whnf) <;> (conv => rhs; whnf) <;> (try dsimp only [std_eq, stdN, nvS]) <;> (first | rfl | (simp (disch := first | omega | (simp only [lenL_set, lenL_app, lenL_cons, lenL_nil] <;> omega)) only [getL_bytes, getL_put, getL_app, getL_rep, getL_sub, getL_cpy, Int.zero_add, Int.sub_zero, beq_iff_eq, decide_eq_true_eq, Bool.and_eq_true] <;> first | rfl | (split <;> first | rfl | (simp (disch := first | omega | (simp only [lenL_set, lenL_app, lenL_cons, lenL_nil] <;> omega)) only [getL_one, getL_zero] <;> rfl)) | ((simp only [lenL_app, lenL_cons, lenL_nil, Int.ofNat_eq_natCast]) <;> (repeat' split) <;> first | rfl | (exfalso; omega) | (simp (disch := omega) only [getL_one, getL_zero] <;> rfl) | (congr 3; omega))))))
        (And.intro (LeD.refl _)
        trivial))))), (show drOk _ _ = true by kernel_rfl), ?_⟩
    refine ⟨fun h13 => ?_, fun h13 => ?_⟩
    · replace h := iteO_t h h13
      subst hN
      have hr := Option.some.inj h
      subst hr
      try dsimp only [noGoto, inBlockQ, thenQ]
      repeat (first | refine (if_pos rfl).mpr ?_ | refine (if_neg (by decide)).mpr ?_)
      refine retQ_ret rfl ?_ ?_
      · exact trivial
      · exact rfl
    · replace h := iteO_f h h13
      replace h := chk_some h; obtain ⟨h14, h⟩ := h
      replace h := bindO_val h15 h; clear h15; obtain ⟨h15, h⟩ := h
      replace h := chk_some h; obtain ⟨h16, h⟩ := h
      replace h := chk_some h; obtain ⟨h17, h⟩ := h
      replace h := bindO_val h18 h; clear h18; obtain ⟨h18, h⟩ := h
      replace h := chk_some h; obtain ⟨h19, h⟩ := h
      refine ⟨(fun hg => hg), (fun hg => hg), (fun hg => hg), h14, (fun hg => hg), (fun hg => hg), (fun _ => rfl), (fun _ => rfl), (fun _ => trivial), (fun hg => by have h15 := guardO h15 hg; have h14 := h14 hg; exact (PureFn.arg (lapwingref03_Ints_ok (subL v2 (0 + 0) ((0 + 0) + ((lenL a) - 0))) v3 v5 h15) (And.intro (LeD.slE (by first | rfl | assumption | (symm; assumption) | ((try dsimp only [std_eq, stdN, nvS]) <;> first | rfl | omega | (simp (disch := first | omega | (simp only [lenL_set, lenL_app, lenL_cons, lenL_nil] <;> omega)) only [lenL_bytes, lenL_set, lenL_app, lenL_cons, lenL_nil, lenL_rep, lenL_sub, lenL_cpy, Int.ofNat_eq_natCast, Int.zero_add, Int.sub_zero] <;> try omega))) (fun i i0 i1 j hj => by (try dsimp only [std_eq, stdN, nvS] at i1); (try simp only [Int.ofNat_eq_natCast] at i1); (obtain rfl : j = 0 := (by omega)) <;> (conv => lhs; whnf) <;> (conv => rhs; whnf) <;> (try dsimp only [std_eq, stdN, nvS]) <;> (first | rfl | (simp (disch := first | omega | (simp only [lenL_set, lenL_app, lenL_cons, lenL_nil] <;> omega)) only [getL_bytes, getL_put, getL_app, getL_rep, getL_sub, getL_cpy, Int.zero_add, Int.sub_zero, beq_iff_eq, decide_eq_true_eq, Bool.and_eq_true] <;> first | rfl | (split <;> first | rfl | (simp (disch := first | omega | (simp only [lenL_set, lenL_app, lenL_cons, lenL_nil] <;> omega)) only [getL_one, getL_zero] <;> rfl)) | ((simp only [lenL_app, lenL_cons, lenL_nil, Int.ofNat_eq_natCast]) <;> (repeat' split) <;> first | rfl | (exfalso; omega) | (simp (disch := omega) only [getL_one, getL_zero] <;> rfl) | (congr 3; omega))))))
          (And.intro (LeD.slE (by first | rfl | assumption | (symm; assumption) | ((try dsimp only [std_eq, stdN, nvS]) <;> first | rfl | omega | (simp (disch := first | omega | (simp only [lenL_set, lenL_app, lenL_cons, lenL_nil] <;> omega)) only [lenL_bytes, lenL_set, lenL_app, lenL_cons, lenL_nil, lenL_rep, lenL_sub, lenL_cpy, Int.ofNat_eq_natCast, Int.zero_add, Int.sub_zero] <;> try omega))) (fun i i0 i1 j hj => by (try dsimp only [std_eq, stdN, nvS] at i1); (try simp only [Int.ofNat_eq_natCast] at i1); (obtain rfl : j = 0 := (by omega)) <;> (conv => lhs; whnf) <;> (conv => rhs; whnf) <;> (try dsimp only [std_eq, stdN, nvS]) <;> (first | rfl | (simp (disch := first | omega | (simp only [lenL_set, lenL_app, lenL_cons, lenL_nil] <;> omega)) only [getL_bytes, getL_put, getL_app, getL_rep, getL_sub, getL_cpy, Int.zero_add, Int.sub_zero, beq_iff_eq, decide_eq_true_eq, Bool.and_eq_true] <;> first | rfl | (split <;> first | rfl | (simp (disch := first | omega | (simp only [lenL_set, lenL_app, lenL_cons, lenL_nil] <;> omega)) only [getL_one, getL_zero] <;> rfl)) | ((simp only [lenL_app, lenL_cons, lenL_nil, Int.ofNat_eq_natCast]) <;> (repeat' split) <;> first | rfl | (exfalso; omega) | (simp (disch := omega) only [getL_one, getL_zero] <;> rfl) | (congr 3; omega))))))
          trivial)))), (fun hg => hg), (fun hg => hg), (fun hg => hg), h16, (fun hg => hg), (fun hg => hg), h17, (fun hg => hg), (fun hg => hg), (fun _ => rfl), (fun _ => rfl), (fun _ => trivial), (fun hg => by have h18 := guardO h18 hg; have h16 := h16 hg; have h17 := h17 hg; exact (PureFn.arg (lapwingref03_Ints_ok (subL v2 (0 + ((lenL a) + 1)) ((0 + ((lenL a) + 1)) + ((lenL v2) - ((lenL a) + 1)))) v4 v6 h18) (And.intro (LeD.slE (by first | rfl | assumption | (symm; assumption) | ((try dsimp only [std_eq, stdN, nvS]) <;> first | rfl | omega | (simp (disch := first | omega | (simp only [lenL_set, lenL_app, lenL_cons, lenL_nil] <;> omega)) only [lenL_bytes, lenL_set, lenL_app, lenL_cons, lenL_nil, lenL_rep, lenL_sub, lenL_cpy, Int.ofNat_eq_natCast, Int.zero_add, Int.sub_zero] <;> try omega))) (fun i i0 i1 j hj => by (try dsimp only [std_eq, stdN, nvS] at i1); (try simp only [Int.ofNat_eq_natCast] at i1); (obtain rfl : j = 0 := (by omega)) <;> (conv => lhs; whnf) <;> (conv => rhs; whnf) <;> (try dsimp only [std_eq, stdN, nvS]) <;> (first | rfl | (simp (disch := first | omega | (simp only [lenL_set, lenL_app, lenL_cons, lenL_nil] <;> omega)) only [getL_bytes, getL_put, getL_app, getL_rep, getL_sub, getL_cpy, Int.zero_add, Int.sub_zero, beq_iff_eq, decide_eq_true_eq, Bool.and_eq_true] <;> first | rfl | (split <;> first | rfl | (simp (disch := first | omega | (simp only [lenL_set, lenL_app, lenL_cons, lenL_nil] <;> omega)) only [getL_one, getL_zero] <;> rfl)) | ((simp only [lenL_app, lenL_cons, lenL_nil, Int.ofNat_eq_natCast]) <;> (repeat' split) <;> first | rfl | (exfalso; omega) | (simp (disch := omega) only [getL_one, getL_zero] <;> rfl) | (congr 3; omega))))))
          (And.intro (LeD.slE (by first | rfl | assumption | (symm; assumption) | ((try dsimp only [std_eq, stdN, nvS]) <;> first | rfl | omega | (simp (disch := first | omega | (simp only [lenL_set, lenL_app, lenL_cons, lenL_nil] <;> omega)) only [lenL_bytes, lenL_set, lenL_app, lenL_cons, lenL_nil, lenL_rep, lenL_sub, lenL_cpy, Int.ofNat_eq_natCast, Int.zero_add, Int.sub_zero] <;> try omega))) (fun i i0 i1 j hj => by (try dsimp only [std_eq, stdN, nvS] at i1); (try simp only [Int.ofNat_eq_natCast] at i1); (obtain rfl : j = 0 := (by omega)) <;> (conv => lhs; whnf) <;> (conv => rhs; whnf) <;> (try dsimp only [std_eq, stdN, nvS]) <;> (first | rfl | (simp (disch := first | omega | (simp only [lenL_set, lenL_app, lenL_cons, lenL_nil] <;> omega)) only [getL_bytes, getL_put, getL_app, getL_rep, getL_sub, getL_cpy, Int.zero_add, Int.sub_zero, beq_iff_eq, decide_eq_true_eq, Bool.and_eq_true] <;> first | rfl | (split <;> first | rfl | (simp (disch := first | omega | (simp only [lenL_set, lenL_app, lenL_cons, lenL_nil] <;> omega)) only [getL_one, getL_zero] <;> rfl)) | ((simp only [lenL_app, lenL_cons, lenL_nil, Int.ofNat_eq_natCast]) <;> (repeat' split) <;> first | rfl | (exfalso; omega) | (simp (disch := omega) only [getL_one, getL_zero] <;> rfl) | (congr 3; omega))))))
          trivial)))), (fun hg => hg), (fun hg => hg), (fun hg => hg), (fun hg => hg), h19, (fun hg => hg), (fun _ => rfl), (fun hg => hg), (fun hg => hg), ?_⟩
      subst hN
      have hr := Option.some.inj h
      subst hr
      try dsimp only [noGoto, inBlockQ, thenQ]
      repeat (first | refine (if_pos rfl).mpr ?_ | refine (if_neg (by decide)).mpr ?_)
      refine retQ_ret rfl ?_ ?_
      · exact trivial
      · exact rfl

theorem lapwinglaw20_ShapePass_ok (r' : (List Int)) (r : Bool) (h : lapwinglaw20_ShapePass r' = some r) : PureFn Tryd.prog 13 [(.sl 1 (nvS.len r') false (fun i j => (.v (.int .i64 (nvS.get 0 r' i)))))] ((.v (.bool r))) := by
  unfold lapwinglaw20_ShapePass at h
  refine fn_tr tt0_ok Tryd.func13 (by kernel_rfl) (c := bodyOf Tryd.f13) (by kernel_rfl) ?_
  intro ctr hc
  obtain ⟨v, h1⟩ : ∃ v, valO false (lapwinglaw20_awake) = v := ⟨_, rfl⟩
  obtain ⟨v1, h3⟩ : ∃ v1, valO d_ucd_Data (ucd_Load) = v1 := ⟨_, rfl⟩
  refine Tr.pre (cx := ⟨tt0, ⟨fun f => kOf [] f, fun k _ _ _ => orcL [(11, .plain (.v (.bool v))), (16, .plain (.agg 6 (fun j => (D_ucd_Data nvS v1 j))))] k, fun t => memN [] t⟩, 0, fun r => ghL [] r⟩) tt0_ok hPm 5 fun N hN => ?_
  generalize hp : std Tryd.prog = p
  generalize hv : nvS = nv
  cbv
  subst hp
  subst hv
  replace h := bindO_val h1 h; clear h1; obtain ⟨h1, h⟩ := h
  refine ⟨(Or.inl (PureFn.arg (lapwinglaw20_awake_ok  v h1) trivial)), ?_⟩
  refine ⟨fun h2 => ?_, fun h2 => ?_⟩
  · replace h := iteO_t h h2
    subst hN
    have hr := Option.some.inj h
    subst hr
    try dsimp only [noGoto, inBlockQ, thenQ]
    repeat (first | refine (if_pos rfl).mpr ?_ | refine (if_neg (by decide)).mpr ?_)
    refine retQ_ret rfl ?_ ?_
    · exact trivial
    · exact rfl
  · replace h := iteO_f h h2
    replace h := bindO_val h3 h; clear h3; obtain ⟨h3, h⟩ := h
    refine ⟨(Or.inl (PureFn.arg (ucd_Load_ok  v1 h3) trivial)), rfl, ?_⟩
    subst hN
    show Tr _ _ _ _
    refine Tr.cutSeq (α := List Int) h (fun bare t' => ⟨frm 95 [(0, .sl 1 (nvS.len r') false (fun i j => (.v (.int .i64 (nvS.get 0 r' i))))), (3, .v (.bool v)), (4, .bref 4 (t'.g 4) 0), (5, .vec 36 (t'.g 36) 1 0 (nvS.len bare))] 0, frO 95 [(4, .box (t'.g 4) [.sl 3 (nvS.len v1.fClass.fL) false (fun i j => (D_ranges_Row nvS (nvS.get d_ranges_Row v1.fClass.fL i) j)), .sl 3 (nvS.len v1.fWide.fL) false (fun i j => (D_ranges_Row nvS (nvS.get d_ranges_Row v1.fWide.fL i) j)), .sl 3 (nvS.len v1.fJoin.fL) false (fun i j => (D_ranges_Row nvS (nvS.get d_ranges_Row v1.fJoin.fL i) j)), .sl 2 (nvS.len v1.fMirror) false (fun i j => (D_ucd_Pair nvS (nvS.get d_ucd_Pair v1.fMirror i) j)), .sl 2 (nvS.len v1.fBrackets) false (fun i j => (D_ucd_Pair nvS (nvS.get d_ucd_Pair v1.fBrackets i) j)), .sl 3 (nvS.len v1.fForms) false (fun i j => (D_ucd_Form nvS (nvS.get d_ucd_Form v1.fForms i) j))]), (36, .arr (t'.g 36) 1 (nvS.len bare) (t'.t 36) (fun i j => (.v (.int .i64 (nvS.get 0 bare i)))))] 0, t'.c⟩) (fun _ t => Hid.ok t) (fun x t' ht' h => ?_) (fun f h => ?_)
    · revert h; revert ht'; revert x; intro bare ht' h
      obtain ⟨t'_c, t'_g, t'_t⟩ := t'
      have ht'_c : 0 < t'_c := ht'.1
      have ht'_g : ∀ k, t'_g k < t'_c := ht'.2
      obtain ⟨v2, h21⟩ : ∃ v2, valO [] (shape_Glyphs v1 r' (repL (lenL r') 0) false) = v2 := ⟨_, rfl⟩
      obtain ⟨v3, h23⟩ : ∃ v3, valO [] (shape_Glyphs v1 bare (repL (lenL bare) 0) false) = v3 := ⟨_, rfl⟩
      refine Tr.pre (cx := ⟨tt0, ⟨fun f => kOf [(30, 3)] f, fun k _ _ _ => orcL [(42, .own 1 (nvS.len v2) false (fun i j => (.v (.int .i64 (nvS.get 0 v2 i))))), (48, .own 1 (nvS.len v3) false (fun i j => (.v (.int .i64 (nvS.get 0 v3 i)))))] k, fun t => memN [] t⟩, 0, fun r => ghL [] r⟩) tt0_ok hPm 4 fun N hN => ?_
      generalize hp : std Tryd.prog = p
      generalize hv : nvS = nv
      cbv
      subst hp
      subst hv
      replace h := chk_some h; obtain ⟨h20, h⟩ := h
      have h20' := h20.1; have h20'' := h20.2.1
      replace h := bindO_val h21 h; clear h21; obtain ⟨h21, h⟩ := h
      refine ⟨rfl, h20, rfl, (fun _ _ _ _ _ => trivial), (PureFn.arg (shape_Glyphs_ok v1 r' (repL (lenL r') 0) false v2 h21) (And.intro (LeD.agg fun j hj => by
            have hj2 : j < 6 := hj
            rcases (show j = 0 ∨ j = 1 ∨ j = 2 ∨ j = 3 ∨ j = 4 ∨ j = 5 by omega) with rfl | rfl | rfl | rfl | rfl | rfl
            · exact LeD.refl _
            · exact LeD.refl _
            · exact LeD.refl _
            · exact LeD.refl _
            · exact LeD.refl _
            · exact LeD.refl _)
          (And.intro (LeD.refl _)
          (And.intro (LeD.slE (by first | rfl | assumption | (symm; assumption) | ((try dsimp only [std_eq, stdN, nvS]) <;> first | rfl | omega | (simp (disch := first | omega | (simp only [lenL_set, lenL_app, lenL_cons, lenL_nil] <;> omega)) only [lenL_bytes, lenL_set, lenL_app, lenL_cons, lenL_nil, lenL_rep, lenL_sub, lenL_cpy, Int.ofNat_eq_natCast, Int.zero_add, Int.sub_zero] <;> try omega))) (fun i i0 i1 j hj => by (try dsimp only [std_eq, stdN, nvS] at i1); (try simp only [Int.ofNat_eq_natCast] at i1); (obtain rfl : j = 0 := (by omega)) <;> (conv => lhs; whnf) <;> (conv => rhs; whnf) <;> (try dsimp only [std_eq, stdN, nvS]) <;> (first | rfl | (simp (disch := first | omega | (simp only [lenL_set, lenL_app, lenL_cons, lenL_nil] <;> omega)) only [getL_bytes, getL_put, getL_app, getL_rep, getL_sub, getL_cpy, Int.zero_add, Int.sub_zero, beq_iff_eq, decide_eq_true_eq, Bool.and_eq_true] <;> first | rfl | (split <;> first | rfl | (simp (disch := first | omega | (simp only [lenL_set, lenL_app, lenL_cons, lenL_nil] <;> omega)) only [getL_one, getL_zero] <;> rfl)) | ((simp only [lenL_app, lenL_cons, lenL_nil, Int.ofNat_eq_natCast]) <;> (repeat' split) <;> first | rfl | (exfalso; omega) | (simp (disch := omega) only [getL_one, getL_zero] <;> rfl) | (congr 3; omega))))))
          (And.intro (LeD.refl _)
          trivial))))), (show drOk _ _ = true by kernel_rfl), ?_⟩
      replace h := chk_some h; obtain ⟨h22, h⟩ := h
      have h22' := h22.1; have h22'' := h22.2.1
      replace h := bindO_val h23 h; clear h23; obtain ⟨h23, h⟩ := h
      refine ⟨rfl, h22, rfl, rfl, (fun _ _ _ _ _ => trivial), (PureFn.arg (shape_Glyphs_ok v1 bare (repL (lenL bare) 0) false v3 h23) (And.intro (LeD.agg fun j hj => by
            have hj2 : j < 6 := hj
            rcases (show j = 0 ∨ j = 1 ∨ j = 2 ∨ j = 3 ∨ j = 4 ∨ j = 5 by omega) with rfl | rfl | rfl | rfl | rfl | rfl
            · exact LeD.refl _
            · exact LeD.refl _
            · exact LeD.refl _
            · exact LeD.refl _
            · exact LeD.refl _
            · exact LeD.refl _)
          (And.intro (LeD.slE (by first | rfl | assumption | (symm; assumption) | ((try dsimp only [std_eq, stdN, nvS]) <;> first | rfl | omega | (simp (disch := first | omega | (simp only [lenL_set, lenL_app, lenL_cons, lenL_nil] <;> omega)) only [lenL_bytes, lenL_set, lenL_app, lenL_cons, lenL_nil, lenL_rep, lenL_sub, lenL_cpy, Int.ofNat_eq_natCast, Int.zero_add, Int.sub_zero] <;> try omega))) (fun i i0 i1 j hj => by (try dsimp only [std_eq, stdN, nvS] at i1); (try simp only [Int.ofNat_eq_natCast] at i1); (obtain rfl : j = 0 := (by omega)) <;> (conv => lhs; whnf) <;> (conv => rhs; whnf) <;> (try dsimp only [std_eq, stdN, nvS]) <;> (first | rfl | (simp (disch := first | omega | (simp only [lenL_set, lenL_app, lenL_cons, lenL_nil] <;> omega)) only [getL_bytes, getL_put, getL_app, getL_rep, getL_sub, getL_cpy, Int.zero_add, Int.sub_zero, beq_iff_eq, decide_eq_true_eq, Bool.and_eq_true] <;> first | rfl | (split <;> first | rfl | (simp (disch := first | omega | (simp only [lenL_set, lenL_app, lenL_cons, lenL_nil] <;> omega)) only [getL_one, getL_zero] <;> rfl)) | ((simp only [lenL_app, lenL_cons, lenL_nil, Int.ofNat_eq_natCast]) <;> (repeat' split) <;> first | rfl | (exfalso; omega) | (simp (disch := omega) only [getL_one, getL_zero] <;> rfl) | (congr 3; omega))))))
          (And.intro (LeD.slE (by first | rfl | assumption | (symm; assumption) | ((try dsimp only [std_eq, stdN, nvS]) <;> first | rfl | omega | (simp (disch := first | omega | (simp only [lenL_set, lenL_app, lenL_cons, lenL_nil] <;> omega)) only [lenL_bytes, lenL_set, lenL_app, lenL_cons, lenL_nil, lenL_rep, lenL_sub, lenL_cpy, Int.ofNat_eq_natCast, Int.zero_add, Int.sub_zero] <;> try omega))) (fun i i0 i1 j hj => by (try dsimp only [std_eq, stdN, nvS] at i1); (try simp only [Int.ofNat_eq_natCast] at i1); (obtain rfl : j = 0 := (by omega)) <;> (conv => lhs; whnf) <;> (conv => rhs; whnf) <;> (try dsimp only [std_eq, stdN, nvS]) <;> (first | rfl | (simp (disch := first | omega | (simp only [lenL_set, lenL_app, lenL_cons, lenL_nil] <;> omega)) only [getL_bytes, getL_put, getL_app, getL_rep, getL_sub, getL_cpy, Int.zero_add, Int.sub_zero, beq_iff_eq, decide_eq_true_eq, Bool.and_eq_true] <;> first | rfl | (split <;> first | rfl | (simp (disch := first | omega | (simp only [lenL_set, lenL_app, lenL_cons, lenL_nil] <;> omega)) only [getL_one, getL_zero] <;> rfl)) | ((simp only [lenL_app, lenL_cons, lenL_nil, Int.ofNat_eq_natCast]) <;> (repeat' split) <;> first | rfl | (exfalso; omega) | (simp (disch := omega) only [getL_one, getL_zero] <;> rfl) | (congr 3; omega))))))
          (And.intro (LeD.refl _)
          trivial))))), (show drOk _ _ = true by kernel_rfl), ?_⟩
      refine ⟨(fun hg => hg), (fun hg => hg), (fun hg => hg), (fun hg => hg), (fun hg => hg), ?_⟩
      refine ⟨fun h24 => ?_, fun h24 => ?_⟩
      · replace h := iteO_t h h24
        subst hN
        have hr := Option.some.inj h
        subst hr
        try dsimp only [noGoto, inBlockQ, thenQ]
        repeat (first | refine (if_pos rfl).mpr ?_ | refine (if_neg (by decide)).mpr ?_)
        refine retQ_ret rfl ?_ ?_
        · exact trivial
        · exact rfl
      · replace h := iteO_f h h24
        subst hN
        show Tr _ _ _ _
        refine Tr.cutSeq (α := Unit) h (fun _ t'1 => ⟨frm 95 [(3, .v (.bool v))] 0, frO 95 [] 0, t'1.c⟩) (fun _ t => Hid.ok t) (fun x t'1 ht'1 h => ?_) (fun f h => ?_)
        · obtain ⟨t'1_c, t'1_g, t'1_t⟩ := t'1
          have ht'1_c : 0 < t'1_c := ht'1.1
          have ht'1_g : ∀ k, t'1_g k < t'1_c := ht'1.2
          refine Tr.chunk (cx := ⟨tt0, ⟨fun f => kOf [] f, fun k _ _ _ => orcL [] k, fun t => memN [] t⟩, 0, fun r => ghL [] r⟩) tt0_ok hPm fun N hN => ?_
          generalize hp : std Tryd.prog = p
          generalize hv : nvS = nv
          cbv
          subst hp
          subst hv
          subst hN
          have hr := Option.some.inj h
          subst hr
          try dsimp only [noGoto, inBlockQ, thenQ]
          repeat (first | refine (if_pos rfl).mpr ?_ | refine (if_neg (by decide)).mpr ?_)
          refine retQ_ret rfl ?_ ?_
          · exact trivial
          · exact rfl
        · refine Tr.pre (cx := ⟨tt0, ⟨fun f => kOf [] f, fun k _ _ _ => orcL [] k, fun t => memN [] t⟩, 0, fun r => ghL [] r⟩) tt0_ok hPm 1 fun N hN => ?_
          generalize hp : std Tryd.prog = p
          generalize hv : nvS = nv
          cbv
          subst hp
          subst hv
          subst hN
          show Tr _ _ _ _
          refine Tr.block ?_
          refine Tr.loopO (α := Int × Int) (fun (k', i) t'2 => ⟨frm 95 [(0, .sl 1 (nvS.len r') false (fun i j => (.v (.int .i64 (nvS.get 0 r' i))))), (3, .v (.bool v)), (4, .bref 4 (t'2.g 4) 0), (7, .vec 42 (t'2.g 42) 1 0 (nvS.len v2)), (8, .vec 48 (t'2.g 48) 1 0 (nvS.len v3)), (9, .v (.int .i64 k')), (10, .v (.int .i64 i))] 0, frO 95 [(4, .box (t'2.g 4) [.sl 3 (nvS.len v1.fClass.fL) false (fun i j => (D_ranges_Row nvS (nvS.get d_ranges_Row v1.fClass.fL i) j)), .sl 3 (nvS.len v1.fWide.fL) false (fun i j => (D_ranges_Row nvS (nvS.get d_ranges_Row v1.fWide.fL i) j)), .sl 3 (nvS.len v1.fJoin.fL) false (fun i j => (D_ranges_Row nvS (nvS.get d_ranges_Row v1.fJoin.fL i) j)), .sl 2 (nvS.len v1.fMirror) false (fun i j => (D_ucd_Pair nvS (nvS.get d_ucd_Pair v1.fMirror i) j)), .sl 2 (nvS.len v1.fBrackets) false (fun i j => (D_ucd_Pair nvS (nvS.get d_ucd_Pair v1.fBrackets i) j)), .sl 3 (nvS.len v1.fForms) false (fun i j => (D_ucd_Form nvS (nvS.get d_ucd_Form v1.fForms i) j))]), (42, .arr (t'2.g 42) 1 (nvS.len v2) (t'2.t 42) (fun i j => (.v (.int .i64 (nvS.get 0 v2 i))))), (48, .arr (t'2.g 48) 1 (nvS.len v3) (t'2.t 48) (fun i j => (.v (.int .i64 (nvS.get 0 v3 i)))))] 0, t'2.c⟩) (fun _ t => Hid.ok t) ⟨t'_c + 14, gfn [(4, t'_g 4), (42, t'_c + 0), (48, t'_c + 1)], tfn [(4, false), (42, false), (48, false)]⟩ h ?_ ?_ (fun x t'2 f ht'2 h => ?_)
          · exact Hid.mk_ok (by omega) (And.intro (by have := ht'_g 4; omega)
                (And.intro (by omega)
                (And.intro (by omega)
                trivial)))
          · exact GeSt.of (LeSt.frame (by show (_ : Nat) < _; (try dsimp only [std_eq, stdN]); omega) rfl rfl (And.intro ⟨_, rfl, LeD.refl _⟩
                (And.intro ⟨_, rfl, LeD.refl _⟩
                (And.intro ⟨_, rfl, LeD.refl _⟩
                (And.intro ⟨_, rfl, LeD.refl _⟩
                (And.intro ⟨_, rfl, LeD.refl _⟩
                (And.intro ⟨_, rfl, LeD.refl _⟩
                (And.intro ⟨_, rfl, LeD.refl _⟩
                trivial))))))) (And.intro ⟨_, rfl, LeOb.box (And.intro (LeD.refl _)
                (And.intro (LeD.refl _)
                (And.intro (LeD.refl _)
                (And.intro (LeD.refl _)
                (And.intro (LeD.refl _)
                (And.intro (LeD.refl _)
                trivial))))))⟩
                (And.intro ⟨_, rfl, LeOb.refl _⟩
                (And.intro ⟨_, rfl, LeOb.refl _⟩
                trivial))))
          · obtain ⟨k', i⟩ := x
            obtain ⟨t'2_c, t'2_g, t'2_t⟩ := t'2
            have ht'2_c : 0 < t'2_c := ht'2.1
            have ht'2_g : ∀ k, t'2_g k < t'2_c := ht'2.2
            obtain ⟨v4, h79⟩ : ∃ v4, valO 0 (ucd_Join v1 (getL 0 r' i)) = v4 := ⟨_, rfl⟩
            refine Tr.chunk (cx := ⟨tt0, ⟨fun f => kOf [] f, fun k _ _ _ => orcL [(72, .plain (.v (.int .i64 v4)))] k, fun t => memN [] t⟩, 0, fun r => ghL [] r⟩) tt0_ok hPm fun N hN => ?_
            generalize hp : std Tryd.prog = p
            generalize hv : nvS = nv
            cbv
            subst hp
            subst hv
            refine ⟨fun h77 => ?_, fun h77 => ?_⟩
            · replace h := iteO_t h h77
              replace h := chk_some h; obtain ⟨h78, h⟩ := h
              replace h := bindO_val h79 h; clear h79; obtain ⟨h79, h⟩ := h
              refine ⟨rfl, h78, (Or.inl (PureFn.arg (ucd_Join_ok v1 (getL 0 r' i) v4 h79) (And.intro (LeD.agg fun j hj => by
                    have hj2 : j < 6 := hj
                    rcases (show j = 0 ∨ j = 1 ∨ j = 2 ∨ j = 3 ∨ j = 4 ∨ j = 5 by omega) with rfl | rfl | rfl | rfl | rfl | rfl
                    · exact LeD.refl _
                    · exact LeD.refl _
                    · exact LeD.refl _
                    · exact LeD.refl _
                    · exact LeD.refl _
                    · exact LeD.refl _)
                  (And.intro (LeD.refl _)
                  trivial)))), (show drOk _ _ = true by kernel_rfl), ?_⟩
              refine ⟨fun h80 => ?_, fun h80 => ?_⟩
              · replace h := iteO_t h h80
                replace h := chk_some h; obtain ⟨h81, h⟩ := h
                replace h := chk_some h; obtain ⟨h82, h⟩ := h
                refine ⟨h81, rfl, h82, (show drOk _ _ = true by kernel_rfl), ?_⟩
                refine ⟨fun h83 => ?_, fun h83 => ?_⟩
                · replace h := iteO_t h h83
                  subst hN
                  cases h
                  intro he; cases he
                  intro hr
                  subst hr
                  try dsimp only [noGoto, inBlockQ, thenQ]
                  repeat (first | refine (if_pos rfl).mpr ?_ | refine (if_neg (by decide)).mpr ?_)
                  refine retQ_ret rfl ?_ ?_
                  · exact trivial
                  · exact rfl
                · replace h := iteO_f h h83
                  replace h := chk_some h; obtain ⟨h84, h⟩ := h
                  refine ⟨h84, ?_⟩
                  subst hN
                  cases h
                  show ∃ t', _ ∧ GeSt _ _ _
                  refine ⟨⟨t'2_c + 13, gfn [(4, t'2_g 4), (42, t'2_g 42), (48, t'2_g 48)], tfn [(4, false), (42, t'2_t 42), (48, t'2_t 48)]⟩, Hid.mk_ok (by omega) (And.intro (by have := ht'2_g 4; omega)
                      (And.intro (by have := ht'2_g 42; omega)
                      (And.intro (by have := ht'2_g 48; omega)
                      trivial))), ?_⟩
                  exact GeSt.of (LeSt.frame (by show (_ : Nat) < _; (try dsimp only [std_eq, stdN]); omega) rfl rfl (And.intro ⟨_, rfl, LeD.refl _⟩
                      (And.intro ⟨_, rfl, LeD.refl _⟩
                      (And.intro ⟨_, rfl, LeD.refl _⟩
                      (And.intro ⟨_, rfl, LeD.refl _⟩
                      (And.intro ⟨_, rfl, LeD.refl _⟩
                      (And.intro ⟨_, rfl, LeD.refl _⟩
                      (And.intro ⟨_, rfl, LeD.refl _⟩
                      trivial))))))) (And.intro ⟨_, rfl, LeOb.box (And.intro (LeD.refl _)
                      (And.intro (LeD.refl _)
                      (And.intro (LeD.refl _)
                      (And.intro (LeD.refl _)
                      (And.intro (LeD.refl _)
                      (And.intro (LeD.refl _)
                      trivial))))))⟩
                      (And.intro ⟨_, rfl, LeOb.refl _⟩
                      (And.intro ⟨_, rfl, LeOb.refl _⟩
                      trivial))))
              · replace h := iteO_f h h80
                replace h := chk_some h; obtain ⟨h85, h⟩ := h
                replace h := chk_some h; obtain ⟨h86, h⟩ := h
                refine ⟨h85, rfl, h86, rfl, (show drOk _ _ = true by kernel_rfl), ?_⟩
                refine ⟨fun h87 => ?_, fun h87 => ?_⟩
                · replace h := iteO_t h h87
                  subst hN
                  cases h
                  intro he; cases he
                  intro hr
                  subst hr
                  try dsimp only [noGoto, inBlockQ, thenQ]
                  repeat (first | refine (if_pos rfl).mpr ?_ | refine (if_neg (by decide)).mpr ?_)
                  refine retQ_ret rfl ?_ ?_
                  · exact trivial
                  · exact rfl
                · replace h := iteO_f h h87
                  replace h := chk_some h; obtain ⟨h88, h⟩ := h
                  refine ⟨h88, ?_⟩
                  replace h := chk_some h; obtain ⟨h89, h⟩ := h
                  refine ⟨h89, ?_⟩
                  subst hN
                  cases h
                  show ∃ t', _ ∧ GeSt _ _ _
                  refine ⟨⟨t'2_c + 14, gfn [(4, t'2_g 4), (42, t'2_g 42), (48, t'2_g 48)], tfn [(4, false), (42, t'2_t 42), (48, t'2_t 48)]⟩, Hid.mk_ok (by omega) (And.intro (by have := ht'2_g 4; omega)
                      (And.intro (by have := ht'2_g 42; omega)
                      (And.intro (by have := ht'2_g 48; omega)
                      trivial))), ?_⟩
                  exact GeSt.of (LeSt.frame (by show (_ : Nat) < _; (try dsimp only [std_eq, stdN]); omega) rfl rfl (And.intro ⟨_, rfl, LeD.refl _⟩
                      (And.intro ⟨_, rfl, LeD.refl _⟩
                      (And.intro ⟨_, rfl, LeD.refl _⟩
                      (And.intro ⟨_, rfl, LeD.refl _⟩
                      (And.intro ⟨_, rfl, LeD.refl _⟩
                      (And.intro ⟨_, rfl, LeD.refl _⟩
                      (And.intro ⟨_, rfl, LeD.refl _⟩
                      trivial))))))) (And.intro ⟨_, rfl, LeOb.box (And.intro (LeD.refl _)
                      (And.intro (LeD.refl _)
                      (And.intro (LeD.refl _)
                      (And.intro (LeD.refl _)
                      (And.intro (LeD.refl _)
                      (And.intro (LeD.refl _)
                      trivial))))))⟩
                      (And.intro ⟨_, rfl, LeOb.refl _⟩
                      (And.intro ⟨_, rfl, LeOb.refl _⟩
                      trivial))))
            · replace h := iteO_f h h77
              subst hN
              cases h
              intro he; cases he
              show ∃ t', _ ∧ GeSt _ _ _
              refine ⟨⟨t'2_c + 10, gfn [], tfn []⟩, Hid.mk_ok (by omega) trivial, ?_⟩
              exact GeSt.of (LeSt.frame (by show (_ : Nat) < _; (try dsimp only [std_eq, stdN]); omega) rfl rfl (And.intro ⟨_, rfl, LeD.refl _⟩
                  trivial) trivial)
    · refine Tr.pre (cx := ⟨tt0, ⟨fun f => kOf [] f, fun k _ _ _ => orcL [] k, fun t => memN [] t⟩, 0, fun r => ghL [] r⟩) tt0_ok hPm 1 fun N hN => ?_
      generalize hp : std Tryd.prog = p
      generalize hv : nvS = nv
      cbv
      subst hp
      subst hv
      subst hN
      show Tr _ _ _ _
      refine Tr.block ?_
      refine Tr.loopO (α := Int × List Int) (fun (i3, bare1) t'3 => ⟨frm 95 [(0, .sl 1 (nvS.len r') false (fun i j => (.v (.int .i64 (nvS.get 0 r' i))))), (3, .v (.bool v)), (4, .bref 4 (t'3.g 4) 0), (5, .vec 36 (t'3.g 36) 1 0 (nvS.len bare1)), (6, .v (.int .i64 i3))] 0, frO 95 [(4, .box (t'3.g 4) [.sl 3 (nvS.len v1.fClass.fL) false (fun i j => (D_ranges_Row nvS (nvS.get d_ranges_Row v1.fClass.fL i) j)), .sl 3 (nvS.len v1.fWide.fL) false (fun i j => (D_ranges_Row nvS (nvS.get d_ranges_Row v1.fWide.fL i) j)), .sl 3 (nvS.len v1.fJoin.fL) false (fun i j => (D_ranges_Row nvS (nvS.get d_ranges_Row v1.fJoin.fL i) j)), .sl 2 (nvS.len v1.fMirror) false (fun i j => (D_ucd_Pair nvS (nvS.get d_ucd_Pair v1.fMirror i) j)), .sl 2 (nvS.len v1.fBrackets) false (fun i j => (D_ucd_Pair nvS (nvS.get d_ucd_Pair v1.fBrackets i) j)), .sl 3 (nvS.len v1.fForms) false (fun i j => (D_ucd_Form nvS (nvS.get d_ucd_Form v1.fForms i) j))]), (36, .arr (t'3.g 36) 1 (nvS.len bare1) (t'3.t 36) (fun i j => (.v (.int .i64 (nvS.get 0 bare1 i)))))] 0, t'3.c⟩) (fun _ t => Hid.ok t) ⟨ctr + 16, gfn [(4, ctr + 3), (36, ctr + 6)], tfn [(4, false), (36, false)]⟩ h ?_ ?_ (fun x t'3 f ht'3 h => ?_)
      · exact Hid.mk_ok (by omega) (And.intro (by omega)
            (And.intro (by omega)
            trivial))
      · refine GeSt.by [.thaw (.slot 5) 36 1] rfl ?_ ?_
        · exact trivial
        · exact LeSt.frame (show ctr + 7 < ctr + 16 by omega) rfl rfl (And.intro ⟨_, rfl, LeD.refl _⟩
              (And.intro ⟨_, rfl, LeD.refl _⟩
              (And.intro ⟨_, rfl, LeD.refl _⟩
              (And.intro ⟨_, rfl, LeD.refl _⟩
              (And.intro ⟨_, rfl, LeD.refl _⟩
              trivial))))) (And.intro ⟨_, rfl, LeOb.box (And.intro (LeD.refl _)
              (And.intro (LeD.refl _)
              (And.intro (LeD.refl _)
              (And.intro (LeD.refl _)
              (And.intro (LeD.refl _)
              (And.intro (LeD.refl _)
              trivial))))))⟩
              (And.intro ⟨_, rfl, LeOb.arr' rfl (fun i i0 i1 j hj => by exfalso; revert i1; show i < (0 : Int) → False; omega)⟩
              trivial))
      · obtain ⟨i3, bare1⟩ := x
        obtain ⟨t'3_c, t'3_g, t'3_t⟩ := t'3
        have ht'3_c : 0 < t'3_c := ht'3.1
        have ht'3_g : ∀ k, t'3_g k < t'3_c := ht'3.2
        obtain ⟨v5, h108⟩ : ∃ v5, valO 0 (ucd_Join v1 (getL 0 r' i3)) = v5 := ⟨_, rfl⟩
        refine Tr.chunk (cx := ⟨tt0, ⟨fun f => kOf [] f, fun k _ _ _ => orcL [(28, .plain (.v (.int .i64 v5)))] k, fun t => memN [35] t⟩, 0, fun r => ghL [] r⟩) tt0_ok hPm fun N hN => ?_
        generalize hp : std Tryd.prog = p
        generalize hv : nvS = nv
        cbv
        subst hp
        subst hv
        refine ⟨fun h106 => ?_, fun h106 => ?_⟩
        · replace h := iteO_t h h106
          replace h := chk_some h; obtain ⟨h107, h⟩ := h
          replace h := bindO_val h108 h; clear h108; obtain ⟨h108, h⟩ := h
          refine ⟨rfl, h107, (Or.inl (PureFn.arg (ucd_Join_ok v1 (getL 0 r' i3) v5 h108) (And.intro (LeD.agg fun j hj => by
                have hj2 : j < 6 := hj
                rcases (show j = 0 ∨ j = 1 ∨ j = 2 ∨ j = 3 ∨ j = 4 ∨ j = 5 by omega) with rfl | rfl | rfl | rfl | rfl | rfl
                · exact LeD.refl _
                · exact LeD.refl _
                · exact LeD.refl _
                · exact LeD.refl _
                · exact LeD.refl _
                · exact LeD.refl _)
              (And.intro (LeD.refl _)
              trivial)))), (show drOk _ _ = true by kernel_rfl), ?_⟩
          refine ⟨fun h109 => ?_, fun h109 => ?_⟩
          · replace h := iteO_t h h109
            replace h := chk_some h; obtain ⟨h110, h⟩ := h
            replace h := chk_some h; obtain ⟨h111, h⟩ := h
            refine ⟨h110, rfl, (by have := ht'3_g 36; show (_ : Nat) < _; try dsimp only [std_eq, stdN]; omega), h111, ?_⟩
            replace h := chk_some h; obtain ⟨h112, h⟩ := h
            refine ⟨h112, ?_⟩
            subst hN
            cases h
            show ∃ t', _ ∧ GeSt _ _ _
            refine ⟨⟨t'3_c + 13, gfn [(4, t'3_g 4), (36, t'3_c + 2)], tfn [(4, false), (36, false)]⟩, Hid.mk_ok (by omega) (And.intro (by have := ht'3_g 4; omega)
                (And.intro (by omega)
                trivial)), ?_⟩
            exact GeSt.of (LeSt.frame (by show (_ : Nat) < _; (try dsimp only [std_eq, stdN]); omega) rfl rfl (And.intro ⟨_, rfl, LeD.refl _⟩
                (And.intro ⟨_, rfl, LeD.refl _⟩
                (And.intro ⟨_, rfl, LeD.refl _⟩
                (And.intro ⟨_, rfl, LeD.vec rfl (by first | rfl | assumption | (symm; assumption) | ((try dsimp only [std_eq, stdN, nvS]) <;> first | rfl | omega | (simp (disch := first | omega | (simp only [lenL_set, lenL_app, lenL_cons, lenL_nil] <;> omega)) only [lenL_bytes, lenL_set, lenL_app, lenL_cons, lenL_nil, lenL_rep, lenL_sub, lenL_cpy, Int.ofNat_eq_natCast, Int.zero_add, Int.sub_zero] <;> try omega)))⟩
                (And.intro ⟨_, rfl, LeD.refl _⟩
                trivial))))) (And.intro ⟨_, rfl, LeOb.box (And.intro (LeD.refl _)
                (And.intro (LeD.refl _)
                (And.intro (LeD.refl _)
                (And.intro (LeD.refl _)
                (And.intro (LeD.refl _)
                (And.intro (LeD.refl _)
                trivial))))))⟩
                (And.intro ⟨_, rfl, LeOb.arrE (by first | rfl | assumption | (symm; assumption) | ((try dsimp only [std_eq, stdN, nvS]) <;> first | rfl | omega | (simp (disch := first | omega | (simp only [lenL_set, lenL_app, lenL_cons, lenL_nil] <;> omega)) only [lenL_bytes, lenL_set, lenL_app, lenL_cons, lenL_nil, lenL_rep, lenL_sub, lenL_cpy, Int.ofNat_eq_natCast, Int.zero_add, Int.sub_zero] <;> try omega))) (fun i i0 i1 j hj => by (try dsimp only [std_eq, stdN, nvS] at i1); (try simp only [Int.ofNat_eq_natCast] at i1); (obtain rfl : j = 0 := (by omega)) <;> (conv => lhs; whnf) <;> (conv => rhs; whnf) <;> (try dsimp only [std_eq, stdN, nvS]) <;> (first | rfl | (simp (disch := first | omega | (simp only [lenL_set, lenL_app, lenL_cons, lenL_nil] <;> omega)) only [getL_bytes, getL_put, getL_app, getL_rep, getL_sub, getL_cpy, Int.zero_add, Int.sub_zero, beq_iff_eq, decide_eq_true_eq, Bool.and_eq_true] <;> first | rfl | (split <;> first | rfl | (simp (disch := first | omega | (simp only [lenL_set, lenL_app, lenL_cons, lenL_nil] <;> omega)) only [getL_one, getL_zero] <;> rfl)) | ((simp only [lenL_app, lenL_cons, lenL_nil, Int.ofNat_eq_natCast]) <;> (repeat' split) <;> first | rfl | (exfalso; omega) | (simp (disch := omega) only [getL_one, getL_zero] <;> rfl) | (congr 3; omega)))))⟩
                trivial)))
          · replace h := iteO_f h h109
            replace h := chk_some h; obtain ⟨h113, h⟩ := h
            refine ⟨h113, ?_⟩
            subst hN
            cases h
            show ∃ t', _ ∧ GeSt _ _ _
            refine ⟨⟨t'3_c + 12, gfn [(4, t'3_g 4), (36, t'3_g 36)], tfn [(4, false), (36, t'3_t 36)]⟩, Hid.mk_ok (by omega) (And.intro (by have := ht'3_g 4; omega)
                (And.intro (by have := ht'3_g 36; omega)
                trivial)), ?_⟩
            exact GeSt.of (LeSt.frame (by show (_ : Nat) < _; (try dsimp only [std_eq, stdN]); omega) rfl rfl (And.intro ⟨_, rfl, LeD.refl _⟩
                (And.intro ⟨_, rfl, LeD.refl _⟩
                (And.intro ⟨_, rfl, LeD.refl _⟩
                (And.intro ⟨_, rfl, LeD.refl _⟩
                (And.intro ⟨_, rfl, LeD.refl _⟩
                trivial))))) (And.intro ⟨_, rfl, LeOb.box (And.intro (LeD.refl _)
                (And.intro (LeD.refl _)
                (And.intro (LeD.refl _)
                (And.intro (LeD.refl _)
                (And.intro (LeD.refl _)
                (And.intro (LeD.refl _)
                trivial))))))⟩
                (And.intro ⟨_, rfl, LeOb.refl _⟩
                trivial)))
        · replace h := iteO_f h h106
          subst hN
          cases h
          intro he; cases he
          show ∃ t', _ ∧ GeSt _ _ _
          refine ⟨⟨t'3_c + 10, gfn [(4, t'3_g 4), (36, t'3_g 36)], tfn [(4, false), (36, t'3_t 36)]⟩, Hid.mk_ok (by omega) (And.intro (by have := ht'3_g 4; omega)
              (And.intro (by have := ht'3_g 36; omega)
              trivial)), ?_⟩
          exact GeSt.of (LeSt.frame (by show (_ : Nat) < _; (try dsimp only [std_eq, stdN]); omega) rfl rfl (And.intro ⟨_, rfl, LeD.refl _⟩
              (And.intro ⟨_, rfl, LeD.refl _⟩
              (And.intro ⟨_, rfl, LeD.refl _⟩
              (And.intro ⟨_, rfl, LeD.vec rfl (by first | rfl | assumption | (symm; assumption) | ((try dsimp only [std_eq, stdN, nvS]) <;> first | rfl | omega | (simp (disch := first | omega | (simp only [lenL_set, lenL_app, lenL_cons, lenL_nil] <;> omega)) only [lenL_bytes, lenL_set, lenL_app, lenL_cons, lenL_nil, lenL_rep, lenL_sub, lenL_cpy, Int.ofNat_eq_natCast, Int.zero_add, Int.sub_zero] <;> try omega)))⟩
              trivial)))) (And.intro ⟨_, rfl, LeOb.box (And.intro (LeD.refl _)
              (And.intro (LeD.refl _)
              (And.intro (LeD.refl _)
              (And.intro (LeD.refl _)
              (And.intro (LeD.refl _)
              (And.intro (LeD.refl _)
              trivial))))))⟩
              (And.intro ⟨_, rfl, LeOb.arrE (by first | rfl | assumption | (symm; assumption) | ((try dsimp only [std_eq, stdN, nvS]) <;> first | rfl | omega | (simp (disch := first | omega | (simp only [lenL_set, lenL_app, lenL_cons, lenL_nil] <;> omega)) only [lenL_bytes, lenL_set, lenL_app, lenL_cons, lenL_nil, lenL_rep, lenL_sub, lenL_cpy, Int.ofNat_eq_natCast, Int.zero_add, Int.sub_zero] <;> try omega))) (fun i i0 i1 j hj => by (try dsimp only [std_eq, stdN, nvS] at i1); (try simp only [Int.ofNat_eq_natCast] at i1); (obtain rfl : j = 0 := (by omega)) <;> (conv => lhs; whnf) <;> (conv => rhs; whnf) <;> (try dsimp only [std_eq, stdN, nvS]) <;> (first | rfl | (simp (disch := first | omega | (simp only [lenL_set, lenL_app, lenL_cons, lenL_nil] <;> omega)) only [getL_bytes, getL_put, getL_app, getL_rep, getL_sub, getL_cpy, Int.zero_add, Int.sub_zero, beq_iff_eq, decide_eq_true_eq, Bool.and_eq_true] <;> first | rfl | (split <;> first | rfl | (simp (disch := first | omega | (simp only [lenL_set, lenL_app, lenL_cons, lenL_nil] <;> omega)) only [getL_one, getL_zero] <;> rfl)) | ((simp only [lenL_app, lenL_cons, lenL_nil, Int.ofNat_eq_natCast]) <;> (repeat' split) <;> first | rfl | (exfalso; omega) | (simp (disch := omega) only [getL_one, getL_zero] <;> rfl) | (congr 3; omega)))))⟩
              trivial)))
end Go.Vx
