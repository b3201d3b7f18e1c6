/- Walks, by program (lift.py). -/
import Derived.Test.YtgkpmoapkjlopaaWalk
set_option linter.all false
namespace Go.Vx
open Go.Proofs
set_option maxRecDepth 100000
set_option linter.unusedVariables false
set_option linter.unusedSimpArgs false

theorem lapwinglaw19_OrderOne_ok (n : Int) (level : Int) (ahead : (List Int)) (r : Bool) (h : lapwinglaw19_OrderOne n level ahead = some r) : PureFn Try.prog 3 [(.v (.int .i64 n)), (.v (.int .i64 level)), (.sl 1 (nvS.len ahead) false (fun i j => (.v (.int .i64 (nvS.get 0 ahead i)))))] ((.v (.bool r))) := by
  unfold lapwinglaw19_OrderOne at h
  refine fn_tr Try.func3 (by kernel_rfl) (c := bodyOf Try.f3) (by kernel_rfl) ?_
  intro ctr hc
  obtain ⟨v, h1⟩ : ∃ v, valO false (lapwinglaw19_awake) = v := ⟨_, rfl⟩
  refine Tr.pre (cx := ⟨tt0, ⟨fun f => kOf [] f, fun k _ _ _ => orcL [(18, .plain (.v (.bool v)))] k, fun t => memN [] t⟩, 0, fun r => ghL [] r⟩) tt0_ok hPm 6 fun N hN => ?_
  generalize hp : std Try.prog = p
  generalize hv : nvS = nv
  cbv
  subst hp
  subst hv
  replace h := bindO_val h1 h; clear h1; obtain ⟨h1, h⟩ := h
  refine ⟨(PureFn.arg (lapwinglaw19_awake_ok  v h1) trivial), ?_⟩
  refine ⟨fun h2 => ?_, fun h2 => ?_⟩
  · replace h := iteO_t h h2
    subst hN
    have hr := Option.some.inj h
    subst hr
    try dsimp only [noGoto, inBlockQ, thenQ]
    repeat (first | refine (if_pos rfl).mpr ?_ | refine (if_neg (by decide)).mpr ?_)
    refine retQ_ret rfl ?_
    exact rfl
  · replace h := iteO_f h h2
    subst hN
    show Tr _ _ _ _
    refine Tr.cutSeq (α := List Int) h (fun levels t' => ⟨frm 125 [(7, .v (.bool v)), (8, .v (.int .i64 ((std Try.prog).bnd .i64 n 63))), (9, .v (.int .i64 ((std Try.prog).bnd .i64 level 127))), (10, .vec 40 (t'.g 40) 1 0 (nvS.len levels))] 0, frO 125 [(40, .arr (t'.g 40) 1 (nvS.len levels) (t'.t 40) (fun i j => (.v (.int .i64 (nvS.get 0 levels i)))))] 0, t'.c⟩) (fun _ t => Hid.ok t) (fun x t' ht' h => ?_) (fun f h => ?_)
    · revert h; revert ht'; revert x; intro levels ht' h
      obtain ⟨t'_c, t'_g, t'_t⟩ := t'
      have ht'_c : 0 < t'_c := ht'.1
      have ht'_g : ∀ k, t'_g k < t'_c := ht'.2
      refine Tr.pre (cx := ⟨tt0, ⟨fun f => kOf [] f, fun k _ _ _ => orcL [] k, fun t => memN [] t⟩, 0, fun r => ghL [] r⟩) tt0_ok hPm 1 fun N hN => ?_
      generalize hp : std Try.prog = p
      generalize hv : nvS = nv
      cbv
      subst hp
      subst hv
      replace h := chk_some h; obtain ⟨h11, h⟩ := h
      have h11' := h11.1; have h11'' := h11.2.1
      refine ⟨h11, ?_⟩
      subst hN
      show Tr _ _ _ _
      refine Tr.cutSeq (α := List Int) h (fun same t'1 => ⟨frm 125 [(7, .v (.bool v)), (8, .v (.int .i64 ((std Try.prog).bnd .i64 n 63))), (9, .v (.int .i64 ((std Try.prog).bnd .i64 level 127))), (10, .vec 40 (t'1.g 40) 1 0 (nvS.len levels)), (12, .vec 42 (t'1.g 42) 1 0 ((std Try.prog).bnd .i64 n 63))] 0, frO 125 [(40, .arr (t'1.g 40) 1 (nvS.len levels) (t'1.t 40) (fun i j => (.v (.int .i64 (nvS.get 0 levels i))))), (42, .arr (t'1.g 42) 1 ((std Try.prog).bnd .i64 n 63) (t'1.t 42) (fun i j => (.v (.int .i64 (nvS.get 0 same i)))))] 0, t'1.c⟩) (fun same t => Hid.ok t ∧ lenL same = (bndI .i64 n 63)) (fun x t'1 ht'1 h => ?_) (fun f h => ?_)
      · revert h; revert ht'1; revert x; intro same ht'1 h
        obtain ⟨ht'1, ht'1_f0⟩ := ht'1
        obtain ⟨t'1_c, t'1_g, t'1_t⟩ := t'1
        have ht'1_c : 0 < t'1_c := ht'1.1
        have ht'1_g : ∀ k, t'1_g k < t'1_c := ht'1.2
        obtain ⟨v1, h18⟩ : ∃ v1, valO [] (order_Visual same) = v1 := ⟨_, rfl⟩
        refine Tr.pre (cx := ⟨tt0, ⟨fun f => kOf [(9, 3)] f, fun k _ _ _ => orcL [(53, .own 1 (nvS.len v1) false (fun i j => (.v (.int .i64 (nvS.get 0 v1 i)))))] k, fun t => memN [] t⟩, 0, fun r => ghL [] r⟩) tt0_ok hPm 2 fun N hN => ?_
        generalize hp : std Try.prog = p
        generalize hv : nvS = nv
        cbv
        subst hp
        subst hv
        replace h := bindO_val h18 h; clear h18; obtain ⟨h18, h⟩ := h
        refine ⟨rfl, (fun _ _ _ _ _ => trivial), (PureFn.arg (order_Visual_ok same v1 h18) (And.intro (LeD.slE (by first | rfl | assumption | (symm; assumption) | ((try dsimp only [std_eq, stdN, nvS]) <;> first | rfl | omega | (simp (disch := first | omega | (simp only [lenL_set, lenL_app, lenL_cons, lenL_nil] <;> omega)) only [lenL_set, lenL_app, lenL_cons, lenL_nil, lenL_rep, lenL_sub, lenL_cpy, Int.ofNat_eq_natCast, Int.zero_add, Int.sub_zero] <;> try omega))) (fun i i0 i1 j hj => by (try dsimp only [std_eq, stdN, nvS] at i1); (try simp only [Int.ofNat_eq_natCast] at i1); (obtain rfl : j = 0 := (by omega)) <;> (conv => lhs; whnf) <;> (conv => rhs; whnf) <;> (try dsimp only [std_eq, stdN, nvS]) <;> (first | rfl | (simp (disch := first | omega | (simp only [lenL_set, lenL_app, lenL_cons, lenL_nil] <;> omega)) only [getL_put, getL_app, getL_rep, getL_sub, getL_cpy, Int.zero_add, Int.sub_zero, beq_iff_eq, decide_eq_true_eq, Bool.and_eq_true] <;> first | rfl | (split <;> first | rfl | (simp (disch := first | omega | (simp only [lenL_set, lenL_app, lenL_cons, lenL_nil] <;> omega)) only [getL_one, getL_zero] <;> rfl))))))
            trivial)), ?_⟩
        refine ⟨fun h19 => ?_, fun h19 => ?_⟩
        · replace h := iteO_t h h19
          subst hN
          have hr := Option.some.inj h
          subst hr
          try dsimp only [noGoto, inBlockQ, thenQ]
          repeat (first | refine (if_pos rfl).mpr ?_ | refine (if_neg (by decide)).mpr ?_)
          refine retQ_ret rfl ?_
          exact rfl
        · replace h := iteO_f h h19
          subst hN
          show Tr _ _ _ _
          refine Tr.cutSeq (α := Unit) h (fun _ t'2 => ⟨frm 125 [(7, .v (.bool v)), (10, .vec 40 (t'2.g 40) 1 0 (nvS.len levels))] 0, frO 125 [(40, .arr (t'2.g 40) 1 (nvS.len levels) (t'2.t 40) (fun i j => (.v (.int .i64 (nvS.get 0 levels i)))))] 0, t'2.c⟩) (fun _ t => Hid.ok t) (fun x t'2 ht'2 h => ?_) (fun f h => ?_)
          · obtain ⟨t'2_c, t'2_g, t'2_t⟩ := t'2
            have ht'2_c : 0 < t'2_c := ht'2.1
            have ht'2_g : ∀ k, t'2_g k < t'2_c := ht'2.2
            obtain ⟨v2, h34⟩ : ∃ v2, valO [] (order_Visual levels) = v2 := ⟨_, rfl⟩
            obtain ⟨v3, h37⟩ : ∃ v3, valO [] (order_Visual (levels ++ ([0] : List Int))) = v3 := ⟨_, rfl⟩
            obtain ⟨v4, h40⟩ : ∃ v4, valO false (if (if v = true then ((lenL v3) == ((lenL levels) + 1)) else false) = true then lapwingref03_Ints (subL v3 (0 + 0) ((0 + 0) + ((lenL levels) - 0))) v2 else some false) = v4 := ⟨_, rfl⟩
            refine Tr.chunk (cx := ⟨tt0, ⟨fun f => kOf [(9, 3), (10, 3)] f, fun k _ _ _ => orcL [(91, .own 1 (nvS.len v2) false (fun i j => (.v (.int .i64 (nvS.get 0 v2 i))))), (97, .own 1 (nvS.len v3) false (fun i j => (.v (.int .i64 (nvS.get 0 v3 i))))), (113, .plain (.v (.bool v4)))] k, fun t => memN [92, 94, 95] t⟩, 0, fun r => ghL [] r⟩) tt0_ok hPm fun N hN => ?_
            generalize hp : std Try.prog = p
            generalize hv : nvS = nv
            cbv
            subst hp
            subst hv
            replace h := bindO_val h34 h; clear h34; obtain ⟨h34, h⟩ := h
            refine ⟨rfl, (fun _ _ _ _ _ => trivial), (PureFn.arg (order_Visual_ok levels v2 h34) (And.intro (LeD.slE (by first | rfl | assumption | (symm; assumption) | ((try dsimp only [std_eq, stdN, nvS]) <;> first | rfl | omega | (simp (disch := first | omega | (simp only [lenL_set, lenL_app, lenL_cons, lenL_nil] <;> omega)) only [lenL_set, lenL_app, lenL_cons, lenL_nil, lenL_rep, lenL_sub, lenL_cpy, Int.ofNat_eq_natCast, Int.zero_add, Int.sub_zero] <;> try omega))) (fun i i0 i1 j hj => by (try dsimp only [std_eq, stdN, nvS] at i1); (try simp only [Int.ofNat_eq_natCast] at i1); (obtain rfl : j = 0 := (by omega)) <;> (conv => lhs; whnf) <;> (conv => rhs; whnf) <;> (try dsimp only [std_eq, stdN, nvS]) <;> (first | rfl | (simp (disch := first | omega | (simp only [lenL_set, lenL_app, lenL_cons, lenL_nil] <;> omega)) only [getL_put, getL_app, getL_rep, getL_sub, getL_cpy, Int.zero_add, Int.sub_zero, beq_iff_eq, decide_eq_true_eq, Bool.and_eq_true] <;> first | rfl | (split <;> first | rfl | (simp (disch := first | omega | (simp only [lenL_set, lenL_app, lenL_cons, lenL_nil] <;> omega)) only [getL_one, getL_zero] <;> rfl))))))
                trivial)), ?_⟩
            replace h := chk_some h; obtain ⟨h35, h⟩ := h
            replace h := chk_some h; obtain ⟨h36, h⟩ := h
            replace h := bindO_val h37 h; clear h37; obtain ⟨h37, h⟩ := h
            refine ⟨rfl, h35, rfl, rfl, rfl, h36, rfl, (fun _ _ _ _ _ => trivial), (PureFn.arg (order_Visual_ok (levels ++ ([0] : List Int)) v3 h37) (And.intro (LeD.slE (by first | rfl | assumption | (symm; assumption) | ((try dsimp only [std_eq, stdN, nvS]) <;> first | rfl | omega | (simp (disch := first | omega | (simp only [lenL_set, lenL_app, lenL_cons, lenL_nil] <;> omega)) only [lenL_set, lenL_app, lenL_cons, lenL_nil, lenL_rep, lenL_sub, lenL_cpy, Int.ofNat_eq_natCast, Int.zero_add, Int.sub_zero] <;> try omega))) (fun i i0 i1 j hj => by (try dsimp only [std_eq, stdN, nvS] at i1); (try simp only [Int.ofNat_eq_natCast] at i1); (obtain rfl : j = 0 := (by omega)) <;> (conv => lhs; whnf) <;> (conv => rhs; whnf) <;> (try dsimp only [std_eq, stdN, nvS]) <;> (first | rfl | (simp (disch := first | omega | (simp only [lenL_set, lenL_app, lenL_cons, lenL_nil] <;> omega)) only [getL_put, getL_app, getL_rep, getL_sub, getL_cpy, Int.zero_add, Int.sub_zero, beq_iff_eq, decide_eq_true_eq, Bool.and_eq_true] <;> first | rfl | (split <;> first | rfl | (simp (disch := first | omega | (simp only [lenL_set, lenL_app, lenL_cons, lenL_nil] <;> omega)) only [getL_one, getL_zero] <;> rfl))))))
                trivial)), ?_⟩
            replace h := chk_some h; obtain ⟨h38, h⟩ := h
            replace h := chk_some h; obtain ⟨h39, h⟩ := h
            replace h := bindO_val h40 h; clear h40; obtain ⟨h40, h⟩ := h
            replace h := chk_some h; obtain ⟨h41, h⟩ := h
            refine ⟨(fun hg => hg), (fun hg => hg), (fun hg => hg), h38, (fun hg => hg), (fun hg => hg), (fun hg => hg), (fun hg => hg), (fun hg => hg), (fun hg => hg), h39, (fun hg => hg), (fun hg => hg), (fun _ => rfl), (fun _ => rfl), (fun _ => trivial), (fun hg => by have h40 := guardO h40 hg; have h39 := h39 hg; exact (PureFn.arg (lapwingref03_Ints_ok (subL v3 (0 + 0) ((0 + 0) + ((lenL levels) - 0))) v2 v4 h40) (And.intro (LeD.slE (by first | rfl | assumption | (symm; assumption) | ((try dsimp only [std_eq, stdN, nvS]) <;> first | rfl | omega | (simp (disch := first | omega | (simp only [lenL_set, lenL_app, lenL_cons, lenL_nil] <;> omega)) only [lenL_set, lenL_app, lenL_cons, lenL_nil, lenL_rep, lenL_sub, lenL_cpy, Int.ofNat_eq_natCast, Int.zero_add, Int.sub_zero] <;> try omega))) (fun i i0 i1 j hj => by (try dsimp only [std_eq, stdN, nvS] at i1); (try simp only [Int.ofNat_eq_natCast] at i1); (obtain rfl : j = 0 := (by omega)) <;> (conv => lhs; whnf) <;> (conv => rhs; whnf) <;> (try dsimp only [std_eq, stdN, nvS]) <;> (first | rfl | (simp (disch := first | omega | (simp only [lenL_set, lenL_app, lenL_cons, lenL_nil] <;> omega)) only [getL_put, getL_app, getL_rep, getL_sub, getL_cpy, Int.zero_add, Int.sub_zero, beq_iff_eq, decide_eq_true_eq, Bool.and_eq_true] <;> first | rfl | (split <;> first | rfl | (simp (disch := first | omega | (simp only [lenL_set, lenL_app, lenL_cons, lenL_nil] <;> omega)) only [getL_one, getL_zero] <;> rfl))))))
                (And.intro (LeD.slE (by first | rfl | assumption | (symm; assumption) | ((try dsimp only [std_eq, stdN, nvS]) <;> first | rfl | omega | (simp (disch := first | omega | (simp only [lenL_set, lenL_app, lenL_cons, lenL_nil] <;> omega)) only [lenL_set, lenL_app, lenL_cons, lenL_nil, lenL_rep, lenL_sub, lenL_cpy, Int.ofNat_eq_natCast, Int.zero_add, Int.sub_zero] <;> try omega))) (fun i i0 i1 j hj => by (try dsimp only [std_eq, stdN, nvS] at i1); (try simp only [Int.ofNat_eq_natCast] at i1); (obtain rfl : j = 0 := (by omega)) <;> (conv => lhs; whnf) <;> (conv => rhs; whnf) <;> (try dsimp only [std_eq, stdN, nvS]) <;> (first | rfl | (simp (disch := first | omega | (simp only [lenL_set, lenL_app, lenL_cons, lenL_nil] <;> omega)) only [getL_put, getL_app, getL_rep, getL_sub, getL_cpy, Int.zero_add, Int.sub_zero, beq_iff_eq, decide_eq_true_eq, Bool.and_eq_true] <;> first | rfl | (split <;> first | rfl | (simp (disch := first | omega | (simp only [lenL_set, lenL_app, lenL_cons, lenL_nil] <;> omega)) only [getL_one, getL_zero] <;> rfl))))))
                trivial)))), (fun hg => hg), (fun hg => hg), (fun hg => hg), (fun hg => hg), h41, (fun hg => hg), (fun _ => rfl), (fun hg => hg), (fun hg => hg), (fun hg => hg), (fun hg => hg), ?_⟩
            subst hN
            have hr := Option.some.inj h
            subst hr
            try dsimp only [noGoto, inBlockQ, thenQ]
            repeat (first | refine (if_pos rfl).mpr ?_ | refine (if_neg (by decide)).mpr ?_)
            refine retQ_ret rfl ?_
            exact rfl
          · refine Tr.pre (cx := ⟨tt0, ⟨fun f => kOf [] f, fun k _ _ _ => orcL [] k, fun t => memN [] t⟩, 0, fun r => ghL [] r⟩) tt0_ok hPm 1 fun N hN => ?_
            generalize hp : std Try.prog = p
            generalize hv : nvS = nv
            cbv
            subst hp
            subst hv
            subst hN
            show Tr _ _ _ _
            refine Tr.block ?_
            refine Tr.loopO (α := Int) (fun i t'3 => ⟨frm 125 [(7, .v (.bool v)), (8, .v (.int .i64 ((std Try.prog).bnd .i64 n 63))), (9, .v (.int .i64 ((std Try.prog).bnd .i64 level 127))), (10, .vec 40 (t'3.g 40) 1 0 (nvS.len levels)), (14, .vec 53 (t'3.g 53) 1 0 (nvS.len v1)), (15, .v (.int .i64 i))] 0, frO 125 [(40, .arr (t'3.g 40) 1 (nvS.len levels) (t'3.t 40) (fun i j => (.v (.int .i64 (nvS.get 0 levels i))))), (53, .arr (t'3.g 53) 1 (nvS.len v1) (t'3.t 53) (fun i j => (.v (.int .i64 (nvS.get 0 v1 i)))))] 0, t'3.c⟩) (fun _ t => Hid.ok t) ⟨t'1_c + 12, gfn [(40, t'1_g 40), (53, t'1_c + 0)], tfn [(40, t'1_t 40), (53, false)]⟩ h ?_ ?_ (fun x t'3 f ht'3 h => ?_)
            · exact Hid.mk_ok (by omega) (And.intro (by have := ht'1_g 40; omega)
                  (And.intro (by omega)
                  trivial))
            · exact GeSt.of (LeSt.frame (by show (_ : Nat) < _; (try dsimp only [std_eq, stdN]); omega) rfl rfl (And.intro ⟨_, rfl, LeD.refl _⟩
                  (And.intro ⟨_, rfl, LeD.refl _⟩
                  (And.intro ⟨_, rfl, LeD.refl _⟩
                  (And.intro ⟨_, rfl, LeD.refl _⟩
                  (And.intro ⟨_, rfl, LeD.refl _⟩
                  (And.intro ⟨_, rfl, LeD.refl _⟩
                  trivial)))))) (And.intro ⟨_, rfl, LeOb.refl _⟩
                  (And.intro ⟨_, rfl, LeOb.refl _⟩
                  trivial)))
            · revert h; revert ht'3; revert x; intro i ht'3 h
              obtain ⟨t'3_c, t'3_g, t'3_t⟩ := t'3
              have ht'3_c : 0 < t'3_c := ht'3.1
              have ht'3_g : ∀ k, t'3_g k < t'3_c := ht'3.2
              refine Tr.chunk (cx := ⟨tt0, ⟨fun f => kOf [] f, fun k _ _ _ => orcL [] k, fun t => memN [] t⟩, 0, fun r => ghL [] r⟩) tt0_ok hPm fun N hN => ?_
              generalize hp : std Try.prog = p
              generalize hv : nvS = nv
              cbv
              subst hp
              subst hv
              refine ⟨fun h56 => ?_, fun h56 => ?_⟩
              · replace h := iteO_t h h56
                replace h := chk_some h; obtain ⟨h57, h⟩ := h
                replace h := chk_some h; obtain ⟨h58, h⟩ := h
                replace h := chk_some h; obtain ⟨h59, h⟩ := h
                replace h := chk_some h; obtain ⟨h60, h⟩ := h
                refine ⟨(fun hg => hg), (fun hg => hg), h57, (fun hg => hg), (fun _ => rfl), (fun hg => hg), (fun hg => hg), (fun hg => hg), (fun hg => hg), (fun hg => hg), (fun hg => hg), (fun hg => hg), h58, (fun hg => hg), (fun _ => rfl), (fun hg => hg), h59, (fun hg => hg), (fun hg => hg), h60, (fun hg => hg), (fun hg => hg), (fun hg => hg), (fun hg => hg), (fun hg0 => (fun hg => (and_t hg0 (and_t hg0 hg)))), (fun hg => hg), ?_⟩
                refine ⟨fun h61 => ?_, fun h61 => ?_⟩
                · replace h := iteO_t h h61
                  subst hN
                  cases h
                  intro he; cases he
                  intro hr
                  subst hr
                  try dsimp only [noGoto, inBlockQ, thenQ]
                  repeat (first | refine (if_pos rfl).mpr ?_ | refine (if_neg (by decide)).mpr ?_)
                  refine retQ_ret rfl ?_
                  exact rfl
                · replace h := iteO_f h h61
                  replace h := chk_some h; obtain ⟨h62, h⟩ := h
                  refine ⟨h62, ?_⟩
                  subst hN
                  cases h
                  show ∃ t', _ ∧ GeSt _ _ _
                  refine ⟨⟨t'3_c + 12, gfn [(40, t'3_g 40), (53, t'3_g 53)], tfn [(40, t'3_t 40), (53, t'3_t 53)]⟩, Hid.mk_ok (by omega) (And.intro (by have := ht'3_g 40; omega)
                      (And.intro (by have := ht'3_g 53; omega)
                      trivial)), ?_⟩
                  exact GeSt.of (LeSt.frame (by show (_ : Nat) < _; (try dsimp only [std_eq, stdN]); omega) rfl rfl (And.intro ⟨_, rfl, LeD.refl _⟩
                      (And.intro ⟨_, rfl, LeD.refl _⟩
                      (And.intro ⟨_, rfl, LeD.refl _⟩
                      (And.intro ⟨_, rfl, LeD.refl _⟩
                      (And.intro ⟨_, rfl, LeD.refl _⟩
                      (And.intro ⟨_, rfl, LeD.refl _⟩
                      trivial)))))) (And.intro ⟨_, rfl, LeOb.refl _⟩
                      (And.intro ⟨_, rfl, LeOb.refl _⟩
                      trivial)))
              · replace h := iteO_f h h56
                subst hN
                cases h
                intro he; cases he
                show ∃ t', _ ∧ GeSt _ _ _
                refine ⟨⟨t'3_c + 10, gfn [(40, t'3_g 40)], tfn [(40, t'3_t 40)]⟩, Hid.mk_ok (by omega) (And.intro (by have := ht'3_g 40; omega)
                    trivial), ?_⟩
                exact GeSt.of (LeSt.frame (by show (_ : Nat) < _; (try dsimp only [std_eq, stdN]); omega) rfl rfl (And.intro ⟨_, rfl, LeD.refl _⟩
                    (And.intro ⟨_, rfl, LeD.refl _⟩
                    trivial)) (And.intro ⟨_, rfl, LeOb.refl _⟩
                    trivial))
      · refine Tr.pre (cx := ⟨tt0, ⟨fun f => kOf [] f, fun k _ _ _ => orcL [] k, fun t => memN [] t⟩, 0, fun r => ghL [] r⟩) tt0_ok hPm 1 fun N hN => ?_
        generalize hp : std Try.prog = p
        generalize hv : nvS = nv
        cbv
        subst hp
        subst hv
        subst hN
        show Tr _ _ _ _
        refine Tr.block ?_
        refine Tr.loopO (α := Int × List Int) (fun (i2, same1) t'4 => ⟨frm 125 [(7, .v (.bool v)), (8, .v (.int .i64 ((std Try.prog).bnd .i64 n 63))), (9, .v (.int .i64 ((std Try.prog).bnd .i64 level 127))), (10, .vec 40 (t'4.g 40) 1 0 (nvS.len levels)), (12, .vec 42 (t'4.g 42) 1 0 ((std Try.prog).bnd .i64 n 63)), (13, .v (.int .i64 i2))] 0, frO 125 [(40, .arr (t'4.g 40) 1 (nvS.len levels) (t'4.t 40) (fun i j => (.v (.int .i64 (nvS.get 0 levels i))))), (42, .arr (t'4.g 42) 1 ((std Try.prog).bnd .i64 n 63) (t'4.t 42) (fun i j => (.v (.int .i64 (nvS.get 0 same1 i)))))] 0, t'4.c⟩) (fun (i2, same1) t => Hid.ok t ∧ lenL same1 = (bndI .i64 n 63)) ⟨t'_c + 11, gfn [(40, t'_g 40), (42, t'_c + 0)], tfn [(40, t'_t 40), (42, ((std Try.prog).eq ((std Try.prog).bnd .i64 n 63) ((std Try.prog).bnd .i64 n 63)))]⟩ h ?_ ?_ (fun x t'4 f ht'4 h => ?_)
        · exact (And.intro (Hid.mk_ok (by omega) (And.intro (by have := ht'_g 40; omega)
              (And.intro (by omega)
              trivial)))
              (by first | rfl | assumption | (symm; assumption) | ((try dsimp only [std_eq, stdN, nvS]) <;> first | rfl | omega | (simp (disch := first | omega | (simp only [lenL_set, lenL_app, lenL_cons, lenL_nil] <;> omega)) only [lenL_set, lenL_app, lenL_cons, lenL_nil, lenL_rep, lenL_sub, lenL_cpy, Int.ofNat_eq_natCast, Int.zero_add, Int.sub_zero] <;> try omega))))
        · exact GeSt.of (LeSt.frame (by show (_ : Nat) < _; (try dsimp only [std_eq, stdN]); omega) rfl rfl (And.intro ⟨_, rfl, LeD.refl _⟩
              (And.intro ⟨_, rfl, LeD.refl _⟩
              (And.intro ⟨_, rfl, LeD.refl _⟩
              (And.intro ⟨_, rfl, LeD.refl _⟩
              (And.intro ⟨_, rfl, LeD.refl _⟩
              (And.intro ⟨_, rfl, LeD.refl _⟩
              trivial)))))) (And.intro ⟨_, rfl, LeOb.refl _⟩
              (And.intro ⟨_, rfl, LeOb.arrE (by first | rfl | assumption | (symm; assumption) | ((try dsimp only [std_eq, stdN, nvS]) <;> first | rfl | omega | (simp (disch := first | omega | (simp only [lenL_set, lenL_app, lenL_cons, lenL_nil] <;> omega)) only [lenL_set, lenL_app, lenL_cons, lenL_nil, lenL_rep, lenL_sub, lenL_cpy, Int.ofNat_eq_natCast, Int.zero_add, Int.sub_zero] <;> try omega))) (fun i i0 i1 j hj => by (try dsimp only [std_eq, stdN, nvS] at i1); (try simp only [Int.ofNat_eq_natCast] at i1); (obtain rfl : j = 0 := (by omega)) <;> (conv => lhs; whnf) <;> (conv => rhs; whnf) <;> (try dsimp only [std_eq, stdN, nvS]) <;> (first | rfl | (simp (disch := first | omega | (simp only [lenL_set, lenL_app, lenL_cons, lenL_nil] <;> omega)) only [getL_put, getL_app, getL_rep, getL_sub, getL_cpy, Int.zero_add, Int.sub_zero, beq_iff_eq, decide_eq_true_eq, Bool.and_eq_true] <;> first | rfl | (split <;> first | rfl | (simp (disch := first | omega | (simp only [lenL_set, lenL_app, lenL_cons, lenL_nil] <;> omega)) only [getL_one, getL_zero] <;> rfl)))))⟩
              trivial)))
        · obtain ⟨i2, same1⟩ := x
          obtain ⟨ht'4, ht'4_f0⟩ := ht'4
          obtain ⟨t'4_c, t'4_g, t'4_t⟩ := t'4
          have ht'4_c : 0 < t'4_c := ht'4.1
          have ht'4_g : ∀ k, t'4_g k < t'4_c := ht'4.2
          refine Tr.chunk (cx := ⟨tt0, ⟨fun f => kOf [] f, fun k _ _ _ => orcL [] k, fun t => memN [] t⟩, 0, fun r => ghL [] r⟩) tt0_ok hPm fun N hN => ?_
          generalize hp : std Try.prog = p
          generalize hv : nvS = nv
          cbv
          subst hp
          subst hv
          refine ⟨fun h69 => ?_, fun h69 => ?_⟩
          · replace h := iteO_t h h69
            replace h := chk_some h; obtain ⟨h70, h⟩ := h
            refine ⟨h70, rfl, ?_⟩
            replace h := chk_some h; obtain ⟨h71, h⟩ := h
            refine ⟨h71, ?_⟩
            subst hN
            cases h
            show ∃ t', _ ∧ GeSt _ _ _
            refine ⟨⟨t'4_c + 12, gfn [(40, t'4_g 40), (42, t'4_g 42)], tfn [(40, t'4_t 40), (42, t'4_t 42)]⟩, (And.intro (Hid.mk_ok (by omega) (And.intro (by have := ht'4_g 40; omega)
                (And.intro (by have := ht'4_g 42; omega)
                trivial)))
                (by first | rfl | assumption | (symm; assumption) | ((try dsimp only [std_eq, stdN, nvS]) <;> first | rfl | omega | (simp (disch := first | omega | (simp only [lenL_set, lenL_app, lenL_cons, lenL_nil] <;> omega)) only [lenL_set, lenL_app, lenL_cons, lenL_nil, lenL_rep, lenL_sub, lenL_cpy, Int.ofNat_eq_natCast, Int.zero_add, Int.sub_zero] <;> try omega)))), ?_⟩
            exact GeSt.of (LeSt.frame (by show (_ : Nat) < _; (try dsimp only [std_eq, stdN]); omega) rfl rfl (And.intro ⟨_, rfl, LeD.refl _⟩
                (And.intro ⟨_, rfl, LeD.refl _⟩
                (And.intro ⟨_, rfl, LeD.refl _⟩
                (And.intro ⟨_, rfl, LeD.refl _⟩
                (And.intro ⟨_, rfl, LeD.refl _⟩
                (And.intro ⟨_, rfl, LeD.refl _⟩
                trivial)))))) (And.intro ⟨_, rfl, LeOb.refl _⟩
                (And.intro ⟨_, rfl, LeOb.arrE (by first | rfl | assumption | (symm; assumption) | ((try dsimp only [std_eq, stdN, nvS]) <;> first | rfl | omega | (simp (disch := first | omega | (simp only [lenL_set, lenL_app, lenL_cons, lenL_nil] <;> omega)) only [lenL_set, lenL_app, lenL_cons, lenL_nil, lenL_rep, lenL_sub, lenL_cpy, Int.ofNat_eq_natCast, Int.zero_add, Int.sub_zero] <;> try omega))) (fun i i0 i1 j hj => by (try dsimp only [std_eq, stdN, nvS] at i1); (try simp only [Int.ofNat_eq_natCast] at i1); (obtain rfl : j = 0 := (by omega)) <;> (conv => lhs; whnf) <;> (conv => rhs; whnf) <;> (try dsimp only [std_eq, stdN, nvS]) <;> (first | rfl | (simp (disch := first | omega | (simp only [lenL_set, lenL_app, lenL_cons, lenL_nil] <;> omega)) only [getL_put, getL_app, getL_rep, getL_sub, getL_cpy, Int.zero_add, Int.sub_zero, beq_iff_eq, decide_eq_true_eq, Bool.and_eq_true] <;> first | rfl | (split <;> first | rfl | (simp (disch := first | omega | (simp only [lenL_set, lenL_app, lenL_cons, lenL_nil] <;> omega)) only [getL_one, getL_zero] <;> rfl)))))⟩
                trivial)))
          · replace h := iteO_f h h69
            subst hN
            cases h
            intro he; cases he
            show ∃ t', _ ∧ GeSt _ _ _
            refine ⟨⟨t'4_c + 10, gfn [(40, t'4_g 40), (42, t'4_g 42)], tfn [(40, t'4_t 40), (42, t'4_t 42)]⟩, (And.intro (Hid.mk_ok (by omega) (And.intro (by have := ht'4_g 40; omega)
                (And.intro (by have := ht'4_g 42; omega)
                trivial)))
                (by first | rfl | assumption | (symm; assumption) | ((try dsimp only [std_eq, stdN, nvS]) <;> first | rfl | omega | (simp (disch := first | omega | (simp only [lenL_set, lenL_app, lenL_cons, lenL_nil] <;> omega)) only [lenL_set, lenL_app, lenL_cons, lenL_nil, lenL_rep, lenL_sub, lenL_cpy, Int.ofNat_eq_natCast, Int.zero_add, Int.sub_zero] <;> try omega)))), ?_⟩
            exact GeSt.of (LeSt.frame (by show (_ : Nat) < _; (try dsimp only [std_eq, stdN]); omega) rfl rfl (And.intro ⟨_, rfl, LeD.refl _⟩
                (And.intro ⟨_, rfl, LeD.refl _⟩
                (And.intro ⟨_, rfl, LeD.refl _⟩
                (And.intro ⟨_, rfl, LeD.refl _⟩
                (And.intro ⟨_, rfl, LeD.refl _⟩
                trivial))))) (And.intro ⟨_, rfl, LeOb.refl _⟩
                (And.intro ⟨_, rfl, LeOb.refl _⟩
                trivial)))
    · refine Tr.pre (cx := ⟨tt0, ⟨fun f => kOf [] f, fun k _ _ _ => orcL [] k, fun t => memN [] t⟩, 0, fun r => ghL [] r⟩) tt0_ok hPm 1 fun N hN => ?_
      generalize hp : std Try.prog = p
      generalize hv : nvS = nv
      cbv
      subst hp
      subst hv
      subst hN
      show Tr _ _ _ _
      refine Tr.block ?_
      refine Tr.loopO (α := Int × List Int) (fun (i4, levels1) t'5 => ⟨frm 125 [(2, .sl 1 (nvS.len ahead) false (fun i j => (.v (.int .i64 (nvS.get 0 ahead i))))), (7, .v (.bool v)), (8, .v (.int .i64 ((std Try.prog).bnd .i64 n 63))), (9, .v (.int .i64 ((std Try.prog).bnd .i64 level 127))), (10, .vec 40 (t'5.g 40) 1 0 (nvS.len levels1)), (11, .v (.int .i64 i4))] 0, frO 125 [(40, .arr (t'5.g 40) 1 (nvS.len levels1) (t'5.t 40) (fun i j => (.v (.int .i64 (nvS.get 0 levels1 i)))))] 0, t'5.c⟩) (fun _ t => Hid.ok t) ⟨ctr + 17, gfn [(40, ctr + 7)], tfn [(40, false)]⟩ h ?_ ?_ (fun x t'5 f ht'5 h => ?_)
      · exact Hid.mk_ok (by omega) (And.intro (by omega)
            trivial)
      · refine GeSt.by [.thaw 10 40 1] rfl ?_ ?_
        · exact trivial
        · exact LeSt.frame (by show (_ : Nat) < _; (try dsimp only [std_eq, stdN]); omega) rfl rfl (And.intro ⟨_, rfl, LeD.refl _⟩
              (And.intro ⟨_, rfl, LeD.refl _⟩
              (And.intro ⟨_, rfl, LeD.refl _⟩
              (And.intro ⟨_, rfl, LeD.refl _⟩
              (And.intro ⟨_, rfl, LeD.refl _⟩
              (And.intro ⟨_, rfl, LeD.refl _⟩
              trivial)))))) (And.intro ⟨_, rfl, LeOb.arr' rfl (fun i i0 i1 j hj => by exfalso; revert i1; show i < (0 : Int) → False; omega)⟩
              trivial)
      · obtain ⟨i4, levels1⟩ := x
        obtain ⟨t'5_c, t'5_g, t'5_t⟩ := t'5
        have ht'5_c : 0 < t'5_c := ht'5.1
        have ht'5_g : ∀ k, t'5_g k < t'5_c := ht'5.2
        refine Tr.chunk (cx := ⟨tt0, ⟨fun f => kOf [] f, fun k _ _ _ => orcL [] k, fun t => memN [39] t⟩, 0, fun r => ghL [] r⟩) tt0_ok hPm fun N hN => ?_
        generalize hp : std Try.prog = p
        generalize hv : nvS = nv
        cbv
        subst hp
        subst hv
        refine ⟨fun h80 => ?_, fun h80 => ?_⟩
        · replace h := iteO_t h h80
          replace h := chk_some h; obtain ⟨h81, h⟩ := h
          replace h := chk_some h; obtain ⟨h82, h⟩ := h
          refine ⟨h81, rfl, (by have := ht'5_g 40; show (_ : Nat) < _; try dsimp only [std_eq, stdN]; omega), h82, ?_⟩
          replace h := chk_some h; obtain ⟨h83, h⟩ := h
          refine ⟨h83, ?_⟩
          subst hN
          cases h
          show ∃ t', _ ∧ GeSt _ _ _
          refine ⟨⟨t'5_c + 12, gfn [(40, t'5_c + 1)], tfn [(40, false)]⟩, Hid.mk_ok (by omega) (And.intro (by omega)
              trivial), ?_⟩
          exact GeSt.of (LeSt.frame (by show (_ : Nat) < _; (try dsimp only [std_eq, stdN]); omega) rfl rfl (And.intro ⟨_, rfl, LeD.refl _⟩
              (And.intro ⟨_, rfl, LeD.refl _⟩
              (And.intro ⟨_, rfl, LeD.refl _⟩
              (And.intro ⟨_, rfl, LeD.refl _⟩
              (And.intro ⟨_, rfl, LeD.vec rfl (by first | rfl | assumption | (symm; assumption) | ((try dsimp only [std_eq, stdN, nvS]) <;> first | rfl | omega | (simp (disch := first | omega | (simp only [lenL_set, lenL_app, lenL_cons, lenL_nil] <;> omega)) only [lenL_set, lenL_app, lenL_cons, lenL_nil, lenL_rep, lenL_sub, lenL_cpy, Int.ofNat_eq_natCast, Int.zero_add, Int.sub_zero] <;> try omega)))⟩
              (And.intro ⟨_, rfl, LeD.refl _⟩
              trivial)))))) (And.intro ⟨_, rfl, LeOb.arrE (by first | rfl | assumption | (symm; assumption) | ((try dsimp only [std_eq, stdN, nvS]) <;> first | rfl | omega | (simp (disch := first | omega | (simp only [lenL_set, lenL_app, lenL_cons, lenL_nil] <;> omega)) only [lenL_set, lenL_app, lenL_cons, lenL_nil, lenL_rep, lenL_sub, lenL_cpy, Int.ofNat_eq_natCast, Int.zero_add, Int.sub_zero] <;> try omega))) (fun i i0 i1 j hj => by (try dsimp only [std_eq, stdN, nvS] at i1); (try simp only [Int.ofNat_eq_natCast] at i1); (obtain rfl : j = 0 := (by omega)) <;> (conv => lhs; whnf) <;> (conv => rhs; whnf) <;> (try dsimp only [std_eq, stdN, nvS]) <;> (first | rfl | (simp (disch := first | omega | (simp only [lenL_set, lenL_app, lenL_cons, lenL_nil] <;> omega)) only [getL_put, getL_app, getL_rep, getL_sub, getL_cpy, Int.zero_add, Int.sub_zero, beq_iff_eq, decide_eq_true_eq, Bool.and_eq_true] <;> first | rfl | (split <;> first | rfl | (simp (disch := first | omega | (simp only [lenL_set, lenL_app, lenL_cons, lenL_nil] <;> omega)) only [getL_one, getL_zero] <;> rfl)))))⟩
              trivial))
        · replace h := iteO_f h h80
          subst hN
          cases h
          intro he; cases he
          show ∃ t', _ ∧ GeSt _ _ _
          refine ⟨⟨t'5_c + 10, gfn [(40, t'5_g 40)], tfn [(40, t'5_t 40)]⟩, Hid.mk_ok (by omega) (And.intro (by have := ht'5_g 40; omega)
              trivial), ?_⟩
          exact GeSt.of (LeSt.frame (by show (_ : Nat) < _; (try dsimp only [std_eq, stdN]); omega) rfl rfl (And.intro ⟨_, rfl, LeD.refl _⟩
              (And.intro ⟨_, rfl, LeD.refl _⟩
              (And.intro ⟨_, rfl, LeD.refl _⟩
              (And.intro ⟨_, rfl, LeD.vec rfl (by first | rfl | assumption | (symm; assumption) | ((try dsimp only [std_eq, stdN, nvS]) <;> first | rfl | omega | (simp (disch := first | omega | (simp only [lenL_set, lenL_app, lenL_cons, lenL_nil] <;> omega)) only [lenL_set, lenL_app, lenL_cons, lenL_nil, lenL_rep, lenL_sub, lenL_cpy, Int.ofNat_eq_natCast, Int.zero_add, Int.sub_zero] <;> try omega)))⟩
              trivial)))) (And.intro ⟨_, rfl, LeOb.arrE (by first | rfl | assumption | (symm; assumption) | ((try dsimp only [std_eq, stdN, nvS]) <;> first | rfl | omega | (simp (disch := first | omega | (simp only [lenL_set, lenL_app, lenL_cons, lenL_nil] <;> omega)) only [lenL_set, lenL_app, lenL_cons, lenL_nil, lenL_rep, lenL_sub, lenL_cpy, Int.ofNat_eq_natCast, Int.zero_add, Int.sub_zero] <;> try omega))) (fun i i0 i1 j hj => by (try dsimp only [std_eq, stdN, nvS] at i1); (try simp only [Int.ofNat_eq_natCast] at i1); (obtain rfl : j = 0 := (by omega)) <;> (conv => lhs; whnf) <;> (conv => rhs; whnf) <;> (try dsimp only [std_eq, stdN, nvS]) <;> (first | rfl | (simp (disch := first | omega | (simp only [lenL_set, lenL_app, lenL_cons, lenL_nil] <;> omega)) only [getL_put, getL_app, getL_rep, getL_sub, getL_cpy, Int.zero_add, Int.sub_zero, beq_iff_eq, decide_eq_true_eq, Bool.and_eq_true] <;> first | rfl | (split <;> first | rfl | (simp (disch := first | omega | (simp only [lenL_set, lenL_app, lenL_cons, lenL_nil] <;> omega)) only [getL_one, getL_zero] <;> rfl)))))⟩
              trivial))
end Go.Vx
