/- Walks, by program (lift.py). -/
import Derived.Test.YtgkpmoapkjlopaaWalk
set_option linter.all false
namespace Go.Vx
open Go.Proofs
set_option maxRecDepth 100000
set_option linter.unusedVariables false
set_option linter.unusedSimpArgs false

theorem lapwinglaw19_OrderTurns_ok (levels : (List Int)) (r : Bool) (h : lapwinglaw19_OrderTurns levels = some r) : PureFn Try.prog 4 [(.sl 1 (nvS.len levels) false (fun i j => (.v (.int .i64 (nvS.get 0 levels i)))))] ((.v (.bool r))) := by
  unfold lapwinglaw19_OrderTurns at h
  refine fn_tr Try.func4 (by kernel_rfl) (c := bodyOf Try.f4) (by kernel_rfl) ?_
  intro ctr hc
  obtain ⟨v, h1⟩ : ∃ v, valO false (lapwinglaw19_awake) = v := ⟨_, rfl⟩
  refine Tr.pre (cx := ⟨tt0, ⟨fun f => kOf [] f, fun k _ _ _ => orcL [(6, .plain (.v (.bool v)))] k, fun t => memN [] t⟩, 0, fun r => ghL [] r⟩) tt0_ok hPm 4 fun N hN => ?_
  generalize hp : std Try.prog = p
  generalize hv : nvS = nv
  cbv
  subst hp
  subst hv
  replace h := bindO_val h1 h; clear h1; obtain ⟨h1, h⟩ := h
  refine ⟨(PureFn.arg (lapwinglaw19_awake_ok  v h1) trivial), ?_⟩
  refine ⟨fun h2 => ?_, fun h2 => ?_⟩
  · replace h := iteO_t h h2
    subst hN
    have hr := Option.some.inj h
    subst hr
    try dsimp only [noGoto, inBlockQ, thenQ]
    repeat (first | refine (if_pos rfl).mpr ?_ | refine (if_neg (by decide)).mpr ?_)
    refine retQ_ret rfl ?_
    exact rfl
  · replace h := iteO_f h h2
    subst hN
    show Tr _ _ _ _
    refine Tr.cutSeq (α := List Int) h (fun more t' => ⟨frm 46 [(0, .sl 1 (nvS.len levels) false (fun i j => (.v (.int .i64 (nvS.get 0 levels i))))), (3, .v (.bool v)), (4, .vec 37 (t'.g 37) 1 0 (nvS.len more))] 0, frO 46 [(37, .arr (t'.g 37) 1 (nvS.len more) (t'.t 37) (fun i j => (.v (.int .i64 (nvS.get 0 more i)))))] 0, t'.c⟩) (fun _ t => Hid.ok t) (fun x t' ht' h => ?_) (fun f h => ?_)
    · revert h; revert ht'; revert x; intro more ht' h
      obtain ⟨t'_c, t'_g, t'_t⟩ := t'
      have ht'_c : 0 < t'_c := ht'.1
      have ht'_g : ∀ k, t'_g k < t'_c := ht'.2
      obtain ⟨v1, h19⟩ : ∃ v1, valO [] (if v = true then order_Visual levels else some []) = v1 := ⟨_, rfl⟩
      obtain ⟨v2, h20⟩ : ∃ v2, valO [] (if v = true then order_Visual more else some []) = v2 := ⟨_, rfl⟩
      obtain ⟨v3, h21⟩ : ∃ v3, valO false (if v = true then lapwingref03_Ints v1 v2 else some false) = v3 := ⟨_, rfl⟩
      refine Tr.chunk (cx := ⟨tt0, ⟨fun f => kOf [] f, fun k _ _ _ => orcL [(41, .plain (.sl 1 (nvS.len v1) false (fun i j => (.v (.int .i64 (nvS.get 0 v1 i)))))), (43, .plain (.sl 1 (nvS.len v2) false (fun i j => (.v (.int .i64 (nvS.get 0 v2 i)))))), (44, .plain (.v (.bool v3)))] k, fun t => memN [] t⟩, 0, fun r => ghL [(11, [.freeze 4])] r⟩) tt0_ok hPm fun N hN => ?_
      generalize hp : std Try.prog = p
      generalize hv : nvS = nv
      cbv
      subst hp
      subst hv
      replace h := bindO_val h19 h; clear h19; obtain ⟨h19, h⟩ := h
      replace h := bindO_val h20 h; clear h20; obtain ⟨h20, h⟩ := h
      replace h := bindO_val h21 h; clear h21; obtain ⟨h21, h⟩ := h
      refine ⟨rfl, (fun hg => hg), (fun hg => by have h19 := guardO h19 hg; exact (PureFn.arg (PureFn.sl (order_Visual_ok levels v1 h19)) (And.intro (LeD.refl _)
          trivial))), (fun hg => hg), (fun hg => by have h20 := guardO h20 hg; exact (PureFn.arg (PureFn.sl (order_Visual_ok more v2 h20)) (And.intro (LeD.slE (by first | rfl | assumption | (symm; assumption) | ((try dsimp only [std_eq, stdN, nvS]) <;> first | rfl | omega | (simp (disch := first | omega | (simp only [lenL_set, lenL_app, lenL_cons, lenL_nil] <;> omega)) only [lenL_set, lenL_app, lenL_cons, lenL_nil, lenL_rep, lenL_sub, lenL_cpy, Int.ofNat_eq_natCast, Int.zero_add, Int.sub_zero] <;> try omega))) (fun i i0 i1 j hj => by (try dsimp only [std_eq, stdN, nvS] at i1); (try simp only [Int.ofNat_eq_natCast] at i1); (obtain rfl : j = 0 := (by omega)) <;> (conv => lhs; whnf) <;> (conv => rhs; whnf) <;> (try dsimp only [std_eq, stdN, nvS]) <;> (first | rfl | (simp (disch := first | omega | (simp only [lenL_set, lenL_app, lenL_cons, lenL_nil] <;> omega)) only [getL_put, getL_app, getL_rep, getL_sub, getL_cpy, Int.zero_add, Int.sub_zero, beq_iff_eq, decide_eq_true_eq, Bool.and_eq_true] <;> first | rfl | (split <;> first | rfl | (simp (disch := first | omega | (simp only [lenL_set, lenL_app, lenL_cons, lenL_nil] <;> omega)) only [getL_one, getL_zero] <;> rfl))))))
          trivial))), (fun hg => hg), (fun hg => hg), (fun hg => by have h21 := guardO h21 hg; exact (PureFn.arg (lapwingref03_Ints_ok v1 v2 v3 h21) (And.intro (LeD.refl _)
          (And.intro (LeD.refl _)
          trivial)))), (fun hg => hg), ?_⟩
      subst hN
      have hr := Option.some.inj h
      subst hr
      try dsimp only [noGoto, inBlockQ, thenQ]
      repeat (first | refine (if_pos rfl).mpr ?_ | refine (if_neg (by decide)).mpr ?_)
      refine retQ_ret rfl ?_
      exact rfl
    · refine Tr.pre (cx := ⟨tt0, ⟨fun f => kOf [] f, fun k _ _ _ => orcL [] k, fun t => memN [] t⟩, 0, fun r => ghL [] r⟩) tt0_ok hPm 1 fun N hN => ?_
      generalize hp : std Try.prog = p
      generalize hv : nvS = nv
      cbv
      subst hp
      subst hv
      subst hN
      show Tr _ _ _ _
      refine Tr.block ?_
      refine Tr.loopO (α := Int × List Int) (fun (i, more1) t'1 => ⟨frm 46 [(0, .sl 1 (nvS.len levels) false (fun i j => (.v (.int .i64 (nvS.get 0 levels i))))), (3, .v (.bool v)), (4, .vec 37 (t'1.g 37) 1 0 (nvS.len more1)), (5, .v (.int .i64 i))] 0, frO 46 [(37, .arr (t'1.g 37) 1 (nvS.len more1) (t'1.t 37) (fun i j => (.v (.int .i64 (nvS.get 0 more1 i)))))] 0, t'1.c⟩) (fun _ t => Hid.ok t) ⟨ctr + 15, gfn [(37, ctr + 5)], tfn [(37, false)]⟩ h ?_ ?_ (fun x t'1 f ht'1 h => ?_)
      · exact Hid.mk_ok (by omega) (And.intro (by omega)
            trivial)
      · refine GeSt.by [.thaw 4 37 1] rfl ?_ ?_
        · exact trivial
        · exact LeSt.frame (by show (_ : Nat) < _; (try dsimp only [std_eq, stdN]); omega) rfl rfl (And.intro ⟨_, rfl, LeD.refl _⟩
              (And.intro ⟨_, rfl, LeD.refl _⟩
              (And.intro ⟨_, rfl, LeD.refl _⟩
              (And.intro ⟨_, rfl, LeD.refl _⟩
              trivial)))) (And.intro ⟨_, rfl, LeOb.arr' rfl (fun i i0 i1 j hj => by exfalso; revert i1; show i < (0 : Int) → False; omega)⟩
              trivial)
      · obtain ⟨i, more1⟩ := x
        obtain ⟨t'1_c, t'1_g, t'1_t⟩ := t'1
        have ht'1_c : 0 < t'1_c := ht'1.1
        have ht'1_g : ∀ k, t'1_g k < t'1_c := ht'1.2
        refine Tr.chunk (cx := ⟨tt0, ⟨fun f => kOf [] f, fun k _ _ _ => orcL [] k, fun t => memN [36] t⟩, 0, fun r => ghL [] r⟩) tt0_ok hPm fun N hN => ?_
        generalize hp : std Try.prog = p
        generalize hv : nvS = nv
        cbv
        subst hp
        subst hv
        refine ⟨fun h38 => ?_, fun h38 => ?_⟩
        · replace h := iteO_t h h38
          replace h := chk_some h; obtain ⟨h39, h⟩ := h
          replace h := chk_some h; obtain ⟨h40, h⟩ := h
          refine ⟨h39, (fun hg => hg), (fun hg => hg), h40, (fun hg => hg), (fun hg => hg), (fun hg => hg), ?_⟩
          refine ⟨fun h41 => ?_, fun h41 => ?_⟩
          · replace h := iteO_t h h41
            subst hN
            cases h
            intro he; cases he
            intro hr
            subst hr
            try dsimp only [noGoto, inBlockQ, thenQ]
            repeat (first | refine (if_pos rfl).mpr ?_ | refine (if_neg (by decide)).mpr ?_)
            refine retQ_ret rfl ?_
            exact rfl
          · replace h := iteO_f h h41
            replace h := chk_some h; obtain ⟨h42, h⟩ := h
            replace h := chk_some h; obtain ⟨h43, h⟩ := h
            replace h := chk_some h; obtain ⟨h44, h⟩ := h
            refine ⟨h42, h43, rfl, (by have := ht'1_g 37; show (_ : Nat) < _; try dsimp only [std_eq, stdN]; omega), h44, ?_⟩
            replace h := chk_some h; obtain ⟨h45, h⟩ := h
            refine ⟨h45, ?_⟩
            subst hN
            cases h
            show ∃ t', _ ∧ GeSt _ _ _
            refine ⟨⟨t'1_c + 13, gfn [(37, t'1_c + 2)], tfn [(37, false)]⟩, Hid.mk_ok (by omega) (And.intro (by omega)
                trivial), ?_⟩
            exact GeSt.of (LeSt.frame (by show (_ : Nat) < _; (try dsimp only [std_eq, stdN]); omega) rfl rfl (And.intro ⟨_, rfl, LeD.refl _⟩
                (And.intro ⟨_, rfl, LeD.refl _⟩
                (And.intro ⟨_, rfl, LeD.vec rfl (by first | rfl | assumption | (symm; assumption) | ((try dsimp only [std_eq, stdN, nvS]) <;> first | rfl | omega | (simp (disch := first | omega | (simp only [lenL_set, lenL_app, lenL_cons, lenL_nil] <;> omega)) only [lenL_set, lenL_app, lenL_cons, lenL_nil, lenL_rep, lenL_sub, lenL_cpy, Int.ofNat_eq_natCast, Int.zero_add, Int.sub_zero] <;> try omega)))⟩
                (And.intro ⟨_, rfl, LeD.refl _⟩
                trivial)))) (And.intro ⟨_, rfl, LeOb.arrE (by first | rfl | assumption | (symm; assumption) | ((try dsimp only [std_eq, stdN, nvS]) <;> first | rfl | omega | (simp (disch := first | omega | (simp only [lenL_set, lenL_app, lenL_cons, lenL_nil] <;> omega)) only [lenL_set, lenL_app, lenL_cons, lenL_nil, lenL_rep, lenL_sub, lenL_cpy, Int.ofNat_eq_natCast, Int.zero_add, Int.sub_zero] <;> try omega))) (fun i i0 i1 j hj => by (try dsimp only [std_eq, stdN, nvS] at i1); (try simp only [Int.ofNat_eq_natCast] at i1); (obtain rfl : j = 0 := (by omega)) <;> (conv => lhs; whnf) <;> (conv => rhs; whnf) <;> (try dsimp only [std_eq, stdN, nvS]) <;> (first | rfl | (simp (disch := first | omega | (simp only [lenL_set, lenL_app, lenL_cons, lenL_nil] <;> omega)) only [getL_put, getL_app, getL_rep, getL_sub, getL_cpy, Int.zero_add, Int.sub_zero, beq_iff_eq, decide_eq_true_eq, Bool.and_eq_true] <;> first | rfl | (split <;> first | rfl | (simp (disch := first | omega | (simp only [lenL_set, lenL_app, lenL_cons, lenL_nil] <;> omega)) only [getL_one, getL_zero] <;> rfl)))))⟩
                trivial))
        · replace h := iteO_f h h38
          subst hN
          cases h
          intro he; cases he
          show ∃ t', _ ∧ GeSt _ _ _
          refine ⟨⟨t'1_c + 10, gfn [(37, t'1_g 37)], tfn [(37, t'1_t 37)]⟩, Hid.mk_ok (by omega) (And.intro (by have := ht'1_g 37; omega)
              trivial), ?_⟩
          exact GeSt.of (LeSt.frame (by show (_ : Nat) < _; (try dsimp only [std_eq, stdN]); omega) rfl rfl (And.intro ⟨_, rfl, LeD.refl _⟩
              (And.intro ⟨_, rfl, LeD.refl _⟩
              (And.intro ⟨_, rfl, LeD.vec rfl (by first | rfl | assumption | (symm; assumption) | ((try dsimp only [std_eq, stdN, nvS]) <;> first | rfl | omega | (simp (disch := first | omega | (simp only [lenL_set, lenL_app, lenL_cons, lenL_nil] <;> omega)) only [lenL_set, lenL_app, lenL_cons, lenL_nil, lenL_rep, lenL_sub, lenL_cpy, Int.ofNat_eq_natCast, Int.zero_add, Int.sub_zero] <;> try omega)))⟩
              trivial))) (And.intro ⟨_, rfl, LeOb.arrE (by first | rfl | assumption | (symm; assumption) | ((try dsimp only [std_eq, stdN, nvS]) <;> first | rfl | omega | (simp (disch := first | omega | (simp only [lenL_set, lenL_app, lenL_cons, lenL_nil] <;> omega)) only [lenL_set, lenL_app, lenL_cons, lenL_nil, lenL_rep, lenL_sub, lenL_cpy, Int.ofNat_eq_natCast, Int.zero_add, Int.sub_zero] <;> try omega))) (fun i i0 i1 j hj => by (try dsimp only [std_eq, stdN, nvS] at i1); (try simp only [Int.ofNat_eq_natCast] at i1); (obtain rfl : j = 0 := (by omega)) <;> (conv => lhs; whnf) <;> (conv => rhs; whnf) <;> (try dsimp only [std_eq, stdN, nvS]) <;> (first | rfl | (simp (disch := first | omega | (simp only [lenL_set, lenL_app, lenL_cons, lenL_nil] <;> omega)) only [getL_put, getL_app, getL_rep, getL_sub, getL_cpy, Int.zero_add, Int.sub_zero, beq_iff_eq, decide_eq_true_eq, Bool.and_eq_true] <;> first | rfl | (split <;> first | rfl | (simp (disch := first | omega | (simp only [lenL_set, lenL_app, lenL_cons, lenL_nil] <;> omega)) only [getL_one, getL_zero] <;> rfl)))))⟩
              trivial))
end Go.Vx
