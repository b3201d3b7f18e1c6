/- Walks, by program (lift.py). -/
import Derived.Test.YtigfggfbpdhmfaaDoorUWalk
import Derived.Test.YtigfggfbpdhmfaaDoorUWalkU
set_option linter.all false
namespace Go.Vx
open Go.Proofs
set_option maxRecDepth 100000
set_option linter.unusedVariables false
set_option linter.unusedSimpArgs false

theorem order_Invert_ok (l' : (List Int)) (r : ((List Int) × Bool)) (h : order_Invert l' = some r) : PureFn Tryd.prog 42 [(.sl 1 (nvS.len l') false (fun i j => (.v (.int .i64 (nvS.get 0 l' i)))))] (.tup 2 (fun j => match j with | 0 => (.sl 1 (nvS.len r.1) false (fun i j => (.v (.int .i64 (nvS.get 0 r.1 i))))) | 1 => (.v (.bool r.2)) | _ => .junk)) := by
  unfold order_Invert at h
  refine fn_tr tt0_ok Tryd.func42 (by kernel_rfl) (c := bodyOf Tryd.f42) (by kernel_rfl) ?_
  intro ctr hc
  refine Tr.pre (cx := ⟨tt0, ⟨fun f => kOf [] f, fun k _ _ _ => orcL [] k, fun t => memN [] t⟩, 0, fun r => ghL [] r⟩) tt0_ok hPm 2 fun N hN => ?_
  generalize hp : std Tryd.prog = p
  generalize hv : nvS = nv
  cbv
  subst hp
  subst hv
  replace h := chk_some h; obtain ⟨h1, h⟩ := h
  have h1' := h1.1; have h1'' := h1.2.1
  refine ⟨h1, ?_⟩
  subst hN
  show Tr _ _ _ _
  refine Tr.cutSeq (α := List Int) h (fun out t' => ⟨frm 48 [(0, .sl 1 (nvS.len l') false (fun i j => (.v (.int .i64 (nvS.get 0 l' i))))), (4, .vec 10 (t'.g 10) 1 0 (nvS.len l'))] 0, frO 48 [(10, .arr (t'.g 10) 1 (nvS.len l') (t'.t 10) (fun i j => (.v (.int .i64 (nvS.get 0 out i)))))] 0, t'.c⟩) (fun out t => Hid.ok t ∧ lenL out = (lenL l')) (fun x t' ht' h => ?_) (fun f h => ?_)
  · revert h; revert ht'; revert x; intro out ht' h
    obtain ⟨ht', ht'_f0⟩ := ht'
    obtain ⟨t'_c, t'_g, t'_t⟩ := t'
    have ht'_c : 0 < t'_c := ht'.1
    have ht'_g : ∀ k, t'_g k < t'_c := ht'.2
    refine Tr.cutSeq (α := List Int) h (fun out1 t'1 => ⟨frm 48 [(4, .vec 10 (t'1.g 10) 1 0 (nvS.len l'))] 0, frO 48 [(10, .arr (t'1.g 10) 1 (nvS.len l') (t'1.t 10) (fun i j => (.v (.int .i64 (nvS.get 0 out1 i)))))] 0, t'1.c⟩) (fun out1 t => Hid.ok t ∧ lenL out1 = (lenL l')) (fun x t'1 ht'1 h => ?_) (fun f h => ?_)
    · revert h; revert ht'1; revert x; intro out1 ht'1 h
      obtain ⟨ht'1, ht'1_f0⟩ := ht'1
      obtain ⟨t'1_c, t'1_g, t'1_t⟩ := t'1
      have ht'1_c : 0 < t'1_c := ht'1.1
      have ht'1_g : ∀ k, t'1_g k < t'1_c := ht'1.2
      refine Tr.chunk (cx := ⟨tt0, ⟨fun f => kOf [] f, fun k _ _ _ => orcL [] k, fun t => memN [] t⟩, 0, fun r => ghL [] r⟩) tt0_ok hPm fun N hN => ?_
      generalize hp : std Tryd.prog = p
      generalize hv : nvS = nv
      cbv
      subst hp
      subst hv
      subst hN
      have hr := Option.some.inj h
      subst hr
      try dsimp only [noGoto, inBlockQ, thenQ]
      repeat (first | refine (if_pos rfl).mpr ?_ | refine (if_neg (by decide)).mpr ?_)
      refine retQ_ret rfl ?_ ?_
      · exact trivial
      · exact (And.intro (And.intro (rfl)
            (And.intro (by first | rfl | assumption | (symm; assumption) | ((try dsimp only [std_eq, stdN, nvS]) <;> first | rfl | omega | (simp (disch := first | omega | (simp only [lenL_set, lenL_app, lenL_cons, lenL_nil] <;> omega)) only [lenL_bytes, lenL_set, lenL_app, lenL_cons, lenL_nil, lenL_rep, lenL_sub, lenL_cpy, Int.ofNat_eq_natCast, Int.zero_add, Int.sub_zero] <;> try omega)))
            (And.intro (fun h => by cases h)
            (out0_all (fun i j => out0_int _ _) (fun i i0 i1 j hj => by (try dsimp only [std_eq, stdN, nvS] at i1); (try simp only [Int.ofNat_eq_natCast] at i1); (obtain rfl : j = 0 := (by omega)) <;> (conv => lhs; whnf) <;> (conv => rhs; whnf) <;> (try dsimp only [std_eq, stdN, nvS]) <;> (first | rfl | (simp (disch := first | omega | (simp only [lenL_set, lenL_app, lenL_cons, lenL_nil] <;> omega)) only [getL_bytes, getL_put, getL_app, getL_rep, getL_sub, getL_cpy, Int.zero_add, Int.sub_zero, beq_iff_eq, decide_eq_true_eq, Bool.and_eq_true] <;> first | rfl | (split <;> first | rfl | (simp (disch := first | omega | (simp only [lenL_set, lenL_app, lenL_cons, lenL_nil] <;> omega)) only [getL_one, getL_zero] <;> rfl)) | ((simp only [lenL_app, lenL_cons, lenL_nil, Int.ofNat_eq_natCast]) <;> (repeat' split) <;> first | rfl | (exfalso; omega) | (simp (disch := omega) only [getL_one, getL_zero] <;> rfl) | (congr 3; omega)))))))))
            rfl)
    · refine Tr.pre (cx := ⟨tt0, ⟨fun f => kOf [] f, fun k _ _ _ => orcL [] k, fun t => memN [] t⟩, 0, fun r => ghL [] r⟩) tt0_ok hPm 1 fun N hN => ?_
      generalize hp : std Tryd.prog = p
      generalize hv : nvS = nv
      cbv
      subst hp
      subst hv
      subst hN
      show Tr _ _ _ _
      refine Tr.block ?_
      refine Tr.loopO (α := Int × List Int) (fun (v, out2) t'2 => ⟨frm 48 [(0, .sl 1 (nvS.len l') false (fun i j => (.v (.int .i64 (nvS.get 0 l' i))))), (4, .vec 10 (t'2.g 10) 1 0 (nvS.len l')), (20, .sl 1 (nvS.len l') false (fun i j => (.v (.int .i64 (nvS.get 0 l' i))))), (21, .v (.int .i64 (nvS.len l'))), (22, .v (.int .i64 v))] 0, frO 48 [(10, .arr (t'2.g 10) 1 (nvS.len l') (t'2.t 10) (fun i j => (.v (.int .i64 (nvS.get 0 out2 i)))))] 0, t'2.c⟩) (fun (v, out2) t => Hid.ok t ∧ lenL out2 = (lenL l')) ⟨t'_c + 10, gfn [(10, t'_g 10)], tfn [(10, t'_t 10)]⟩ h ?_ ?_ (fun x t'2 f ht'2 h => ?_)
      · exact (And.intro (Hid.mk_ok (by omega) (And.intro (by have := ht'_g 10; omega)
            trivial))
            (by first | rfl | assumption | (symm; assumption) | ((try dsimp only [std_eq, stdN, nvS]) <;> first | rfl | omega | (simp (disch := first | omega | (simp only [lenL_set, lenL_app, lenL_cons, lenL_nil] <;> omega)) only [lenL_bytes, lenL_set, lenL_app, lenL_cons, lenL_nil, lenL_rep, lenL_sub, lenL_cpy, Int.ofNat_eq_natCast, Int.zero_add, Int.sub_zero] <;> try omega))))
      · exact GeSt.of (LeSt.frame (by show (_ : Nat) < _; (try dsimp only [std_eq, stdN]); omega) rfl rfl (And.intro ⟨_, rfl, LeD.refl _⟩
            (And.intro ⟨_, rfl, LeD.refl _⟩
            (And.intro ⟨_, rfl, LeD.refl _⟩
            (And.intro ⟨_, rfl, LeD.refl _⟩
            (And.intro ⟨_, rfl, LeD.refl _⟩
            trivial))))) (And.intro ⟨_, rfl, LeOb.refl _⟩
            trivial))
      · obtain ⟨v, out2⟩ := x
        obtain ⟨ht'2, ht'2_f0⟩ := ht'2
        obtain ⟨t'2_c, t'2_g, t'2_t⟩ := t'2
        have ht'2_c : 0 < t'2_c := ht'2.1
        have ht'2_g : ∀ k, t'2_g k < t'2_c := ht'2.2
        refine Tr.chunk (cx := ⟨tt0, ⟨fun f => kOf [] f, fun k _ _ _ => orcL [] k, fun t => memN [] t⟩, 0, fun r => ghL [] r⟩) tt0_ok hPm fun N hN => ?_
        generalize hp : std Tryd.prog = p
        generalize hv : nvS = nv
        cbv
        subst hp
        subst hv
        refine ⟨fun h32 => ?_, fun h32 => ?_⟩
        · replace h := iteO_t h h32
          replace h := chk_some h; obtain ⟨h33, h⟩ := h
          refine ⟨h33, ?_⟩
          replace h := chk_some h; obtain ⟨h34, h⟩ := h
          refine ⟨(fun hg => hg), (fun hg => hg), (fun hg => hg), (fun hg => hg), (fun hg => hg), (fun hg => hg), h34, (fun hg => hg), (fun _ => rfl), (fun hg => hg), (fun hg => hg), ?_⟩
          refine ⟨fun h35 => ?_, fun h35 => ?_⟩
          · replace h := iteO_t h h35
            subst hN
            cases h
            intro he; cases he
            intro hr
            subst hr
            try dsimp only [noGoto, inBlockQ, thenQ]
            repeat (first | refine (if_pos rfl).mpr ?_ | refine (if_neg (by decide)).mpr ?_)
            refine retQ_ret rfl ?_ ?_
            · exact trivial
            · exact (And.intro (rfl)
                  rfl)
          · replace h := iteO_f h h35
            replace h := chk_some h; obtain ⟨h36, h⟩ := h
            refine ⟨h36, rfl, ?_⟩
            replace h := chk_some h; obtain ⟨h37, h⟩ := h
            refine ⟨h37, ?_⟩
            subst hN
            cases h
            show ∃ t', _ ∧ GeSt _ _ _
            refine ⟨⟨t'2_c + 14, gfn [(10, t'2_g 10)], tfn [(10, t'2_t 10)]⟩, (And.intro (Hid.mk_ok (by omega) (And.intro (by have := ht'2_g 10; omega)
                trivial))
                (by first | rfl | assumption | (symm; assumption) | ((try dsimp only [std_eq, stdN, nvS]) <;> first | rfl | omega | (simp (disch := first | omega | (simp only [lenL_set, lenL_app, lenL_cons, lenL_nil] <;> omega)) only [lenL_bytes, lenL_set, lenL_app, lenL_cons, lenL_nil, lenL_rep, lenL_sub, lenL_cpy, Int.ofNat_eq_natCast, Int.zero_add, Int.sub_zero] <;> try omega)))), ?_⟩
            exact GeSt.of (LeSt.frame (by show (_ : Nat) < _; (try dsimp only [std_eq, stdN]); omega) rfl rfl (And.intro ⟨_, rfl, LeD.refl _⟩
                (And.intro ⟨_, rfl, LeD.refl _⟩
                (And.intro ⟨_, rfl, LeD.refl _⟩
                (And.intro ⟨_, rfl, LeD.refl _⟩
                (And.intro ⟨_, rfl, LeD.refl _⟩
                trivial))))) (And.intro ⟨_, rfl, LeOb.arrE (by first | rfl | assumption | (symm; assumption) | ((try dsimp only [std_eq, stdN, nvS]) <;> first | rfl | omega | (simp (disch := first | omega | (simp only [lenL_set, lenL_app, lenL_cons, lenL_nil] <;> omega)) only [lenL_bytes, lenL_set, lenL_app, lenL_cons, lenL_nil, lenL_rep, lenL_sub, lenL_cpy, Int.ofNat_eq_natCast, Int.zero_add, Int.sub_zero] <;> try omega))) (fun i i0 i1 j hj => by (try dsimp only [std_eq, stdN, nvS] at i1); (try simp only [Int.ofNat_eq_natCast] at i1); (obtain rfl : j = 0 := (by omega)) <;> (conv => lhs; whnf) <;> (conv => rhs; whnf) <;> (try dsimp only [std_eq, stdN, nvS]) <;> (first | rfl | (simp (disch := first | omega | (simp only [lenL_set, lenL_app, lenL_cons, lenL_nil] <;> omega)) only [getL_bytes, getL_put, getL_app, getL_rep, getL_sub, getL_cpy, Int.zero_add, Int.sub_zero, beq_iff_eq, decide_eq_true_eq, Bool.and_eq_true] <;> first | rfl | (split <;> first | rfl | (simp (disch := first | omega | (simp only [lenL_set, lenL_app, lenL_cons, lenL_nil] <;> omega)) only [getL_one, getL_zero] <;> rfl)) | ((simp only [lenL_app, lenL_cons, lenL_nil, Int.ofNat_eq_natCast]) <;> (repeat' split) <;> first | rfl | (exfalso; omega) | (simp (disch := omega) only [getL_one, getL_zero] <;> rfl) | (congr 3; omega)))))⟩
                trivial))
        · replace h := iteO_f h h32
          subst hN
          cases h
          intro he; cases he
          show ∃ t', _ ∧ GeSt _ _ _
          refine ⟨⟨t'2_c + 10, gfn [(10, t'2_g 10)], tfn [(10, t'2_t 10)]⟩, (And.intro (Hid.mk_ok (by omega) (And.intro (by have := ht'2_g 10; omega)
              trivial))
              (by first | rfl | assumption | (symm; assumption) | ((try dsimp only [std_eq, stdN, nvS]) <;> first | rfl | omega | (simp (disch := first | omega | (simp only [lenL_set, lenL_app, lenL_cons, lenL_nil] <;> omega)) only [lenL_bytes, lenL_set, lenL_app, lenL_cons, lenL_nil, lenL_rep, lenL_sub, lenL_cpy, Int.ofNat_eq_natCast, Int.zero_add, Int.sub_zero] <;> try omega)))), ?_⟩
          exact GeSt.of (LeSt.frame (by show (_ : Nat) < _; (try dsimp only [std_eq, stdN]); omega) rfl rfl (And.intro ⟨_, rfl, LeD.refl _⟩
              trivial) (And.intro ⟨_, rfl, LeOb.refl _⟩
              trivial))
  · refine Tr.pre (cx := ⟨tt0, ⟨fun f => kOf [] f, fun k _ _ _ => orcL [] k, fun t => memN [] t⟩, 0, fun r => ghL [] r⟩) tt0_ok hPm 1 fun N hN => ?_
    generalize hp : std Tryd.prog = p
    generalize hv : nvS = nv
    cbv
    subst hp
    subst hv
    subst hN
    show Tr _ _ _ _
    refine Tr.block ?_
    refine Tr.loopO (α := Int × List Int) (fun (v1, out3) t'3 => ⟨frm 48 [(0, .sl 1 (nvS.len l') false (fun i j => (.v (.int .i64 (nvS.get 0 l' i))))), (4, .vec 10 (t'3.g 10) 1 0 (nvS.len l')), (12, .v (.int .i64 (nvS.len l'))), (13, .v (.int .i64 v1))] 0, frO 48 [(10, .arr (t'3.g 10) 1 (nvS.len l') (t'3.t 10) (fun i j => (.v (.int .i64 (nvS.get 0 out3 i)))))] 0, t'3.c⟩) (fun (v1, out3) t => Hid.ok t ∧ lenL out3 = (lenL l')) ⟨ctr + 12, gfn [(10, ctr + 1)], tfn [(10, ((std Tryd.prog).eq (nvS.len l') (nvS.len l')))]⟩ h ?_ ?_ (fun x t'3 f ht'3 h => ?_)
    · exact (And.intro (Hid.mk_ok (by omega) (And.intro (by omega)
          trivial))
          (by first | rfl | assumption | (symm; assumption) | ((try dsimp only [std_eq, stdN, nvS]) <;> first | rfl | omega | (simp (disch := first | omega | (simp only [lenL_set, lenL_app, lenL_cons, lenL_nil] <;> omega)) only [lenL_bytes, lenL_set, lenL_app, lenL_cons, lenL_nil, lenL_rep, lenL_sub, lenL_cpy, Int.ofNat_eq_natCast, Int.zero_add, Int.sub_zero] <;> try omega))))
    · exact GeSt.of (LeSt.frame (by show (_ : Nat) < _; (try dsimp only [std_eq, stdN]); omega) rfl rfl (And.intro ⟨_, rfl, LeD.refl _⟩
          (And.intro ⟨_, rfl, LeD.refl _⟩
          (And.intro ⟨_, rfl, LeD.refl _⟩
          (And.intro ⟨_, rfl, LeD.refl _⟩
          trivial)))) (And.intro ⟨_, rfl, LeOb.arrE (by first | rfl | assumption | (symm; assumption) | ((try dsimp only [std_eq, stdN, nvS]) <;> first | rfl | omega | (simp (disch := first | omega | (simp only [lenL_set, lenL_app, lenL_cons, lenL_nil] <;> omega)) only [lenL_bytes, lenL_set, lenL_app, lenL_cons, lenL_nil, lenL_rep, lenL_sub, lenL_cpy, Int.ofNat_eq_natCast, Int.zero_add, Int.sub_zero] <;> try omega))) (fun i i0 i1 j hj => by (try dsimp only [std_eq, stdN, nvS] at i1); (try simp only [Int.ofNat_eq_natCast] at i1); (obtain rfl : j = 0 := (by omega)) <;> (conv => lhs; whnf) <;> (conv => rhs; whnf) <;> (try dsimp only [std_eq, stdN, nvS]) <;> (first | rfl | (simp (disch := first | omega | (simp only [lenL_set, lenL_app, lenL_cons, lenL_nil] <;> omega)) only [getL_bytes, getL_put, getL_app, getL_rep, getL_sub, getL_cpy, Int.zero_add, Int.sub_zero, beq_iff_eq, decide_eq_true_eq, Bool.and_eq_true] <;> first | rfl | (split <;> first | rfl | (simp (disch := first | omega | (simp only [lenL_set, lenL_app, lenL_cons, lenL_nil] <;> omega)) only [getL_one, getL_zero] <;> rfl)) | ((simp only [lenL_app, lenL_cons, lenL_nil, Int.ofNat_eq_natCast]) <;> (repeat' split) <;> first | rfl | (exfalso; omega) | (simp (disch := omega) only [getL_one, getL_zero] <;> rfl) | (congr 3; omega)))))⟩
          trivial))
    · obtain ⟨v1, out3⟩ := x
      obtain ⟨ht'3, ht'3_f0⟩ := ht'3
      obtain ⟨t'3_c, t'3_g, t'3_t⟩ := t'3
      have ht'3_c : 0 < t'3_c := ht'3.1
      have ht'3_g : ∀ k, t'3_g k < t'3_c := ht'3.2
      refine Tr.chunk (cx := ⟨tt0, ⟨fun f => kOf [] f, fun k _ _ _ => orcL [] k, fun t => memN [] t⟩, 0, fun r => ghL [] r⟩) tt0_ok hPm fun N hN => ?_
      generalize hp : std Tryd.prog = p
      generalize hv : nvS = nv
      cbv
      subst hp
      subst hv
      refine ⟨fun h44 => ?_, fun h44 => ?_⟩
      · replace h := iteO_t h h44
        replace h := chk_some h; obtain ⟨h45, h⟩ := h
        refine ⟨h45, rfl, ?_⟩
        replace h := chk_some h; obtain ⟨h46, h⟩ := h
        refine ⟨h46, ?_⟩
        subst hN
        cases h
        show ∃ t', _ ∧ GeSt _ _ _
        refine ⟨⟨t'3_c + 13, gfn [(10, t'3_g 10)], tfn [(10, t'3_t 10)]⟩, (And.intro (Hid.mk_ok (by omega) (And.intro (by have := ht'3_g 10; omega)
            trivial))
            (by first | rfl | assumption | (symm; assumption) | ((try dsimp only [std_eq, stdN, nvS]) <;> first | rfl | omega | (simp (disch := first | omega | (simp only [lenL_set, lenL_app, lenL_cons, lenL_nil] <;> omega)) only [lenL_bytes, lenL_set, lenL_app, lenL_cons, lenL_nil, lenL_rep, lenL_sub, lenL_cpy, Int.ofNat_eq_natCast, Int.zero_add, Int.sub_zero] <;> try omega)))), ?_⟩
        exact GeSt.of (LeSt.frame (by show (_ : Nat) < _; (try dsimp only [std_eq, stdN]); omega) rfl rfl (And.intro ⟨_, rfl, LeD.refl _⟩
            (And.intro ⟨_, rfl, LeD.refl _⟩
            (And.intro ⟨_, rfl, LeD.refl _⟩
            (And.intro ⟨_, rfl, LeD.refl _⟩
            trivial)))) (And.intro ⟨_, rfl, LeOb.arrE (by first | rfl | assumption | (symm; assumption) | ((try dsimp only [std_eq, stdN, nvS]) <;> first | rfl | omega | (simp (disch := first | omega | (simp only [lenL_set, lenL_app, lenL_cons, lenL_nil] <;> omega)) only [lenL_bytes, lenL_set, lenL_app, lenL_cons, lenL_nil, lenL_rep, lenL_sub, lenL_cpy, Int.ofNat_eq_natCast, Int.zero_add, Int.sub_zero] <;> try omega))) (fun i i0 i1 j hj => by (try dsimp only [std_eq, stdN, nvS] at i1); (try simp only [Int.ofNat_eq_natCast] at i1); (obtain rfl : j = 0 := (by omega)) <;> (conv => lhs; whnf) <;> (conv => rhs; whnf) <;> (try dsimp only [std_eq, stdN, nvS]) <;> (first | rfl | (simp (disch := first | omega | (simp only [lenL_set, lenL_app, lenL_cons, lenL_nil] <;> omega)) only [getL_bytes, getL_put, getL_app, getL_rep, getL_sub, getL_cpy, Int.zero_add, Int.sub_zero, beq_iff_eq, decide_eq_true_eq, Bool.and_eq_true] <;> first | rfl | (split <;> first | rfl | (simp (disch := first | omega | (simp only [lenL_set, lenL_app, lenL_cons, lenL_nil] <;> omega)) only [getL_one, getL_zero] <;> rfl)) | ((simp only [lenL_app, lenL_cons, lenL_nil, Int.ofNat_eq_natCast]) <;> (repeat' split) <;> first | rfl | (exfalso; omega) | (simp (disch := omega) only [getL_one, getL_zero] <;> rfl) | (congr 3; omega)))))⟩
            trivial))
      · replace h := iteO_f h h44
        subst hN
        cases h
        intro he; cases he
        show ∃ t', _ ∧ GeSt _ _ _
        refine ⟨⟨t'3_c + 10, gfn [(10, t'3_g 10)], tfn [(10, t'3_t 10)]⟩, (And.intro (Hid.mk_ok (by omega) (And.intro (by have := ht'3_g 10; omega)
            trivial))
            (by first | rfl | assumption | (symm; assumption) | ((try dsimp only [std_eq, stdN, nvS]) <;> first | rfl | omega | (simp (disch := first | omega | (simp only [lenL_set, lenL_app, lenL_cons, lenL_nil] <;> omega)) only [lenL_bytes, lenL_set, lenL_app, lenL_cons, lenL_nil, lenL_rep, lenL_sub, lenL_cpy, Int.ofNat_eq_natCast, Int.zero_add, Int.sub_zero] <;> try omega)))), ?_⟩
        exact GeSt.of (LeSt.frame (by show (_ : Nat) < _; (try dsimp only [std_eq, stdN]); omega) rfl rfl (And.intro ⟨_, rfl, LeD.refl _⟩
            (And.intro ⟨_, rfl, LeD.refl _⟩
            trivial)) (And.intro ⟨_, rfl, LeOb.refl _⟩
            trivial))

theorem slices_Reverse___int_int__ok (s : List Int) (s_off : Int) (s_n : Int) (r : (List Int)) (h : slices_Reverse___int_int_ s s_off s_n = some r) (s_N : Int) (hs_N : lenL s = s_N) (tg0 : Bool) : LentFn Tryd.prog 52 [.vec 0 0 1 s_off s_n] [.arr 0 1 s_N tg0 (fun i j => (.v (.int .i64 (nvS.get 0 s i))))] [.arr 0 1 s_N tg0 (fun i j => (.v (.int .i64 (nvS.get 0 r i))))] (.tup 0 (fun _ => .junk)) := by
  unfold slices_Reverse___int_int_ at h
  refine lent_tr tt0_ok Tryd.func52 (by kernel_rfl) (c := bodyOf Tryd.f52) (by kernel_rfl) rfl ?_
  intro ctr hc
  replace h := chk_some h; obtain ⟨h23, h⟩ := h
  refine Tr.pre (cx := ⟨tt0, ⟨fun f => kOf [] f, fun k _ _ _ => orcL [] k, fun t => memN [] t⟩, 1, fun r => ghL [] r⟩) tt0_ok hPm 1 fun N hN => ?_
  generalize hp : std Tryd.prog = p
  generalize hv : nvS = nv
  cbv
  subst hp
  subst hv
  replace h := chk_some h; obtain ⟨h1, h⟩ := h
  refine ⟨h1, ?_⟩
  subst hN
  show Tr _ _ _ _
  refine Tr.block ?_
  refine Tr.loopO (α := Int × Int × List Int) (fun (i, j1, s1) t' => ⟨frm 28 [(0, .vec 0 (0) 1 s_off s_n), (2, .v (.int .i64 i)), (3, .v (.int .i64 j1))] 0, frO 29 [(0, .arr (0) 1 s_N (tg0) (fun i j => (.v (.int .i64 (nvS.get 0 s1 i)))))] 0, t'.c⟩) (fun (i, j1, s1) t => Hid.ok t ∧ lenL s1 = s_N) ⟨ctr + 10, gfn [], tfn []⟩ h ?_ ?_ (fun x t' f ht' h => ?_)
  · exact (And.intro (Hid.mk_ok (by omega) trivial)
        (by first | rfl | assumption | (symm; assumption) | ((try dsimp only [std_eq, stdN, nvS]) <;> first | rfl | omega | (simp (disch := first | omega | (simp only [lenL_set, lenL_app, lenL_cons, lenL_nil] <;> omega)) only [lenL_bytes, lenL_set, lenL_app, lenL_cons, lenL_nil, lenL_rep, lenL_sub, lenL_cpy, Int.ofNat_eq_natCast, Int.zero_add, Int.sub_zero] <;> try omega))))
  · exact GeSt.of (LeSt.frame (by show (_ : Nat) < _; (try dsimp only [std_eq, stdN]); omega) rfl rfl (And.intro ⟨_, rfl, LeD.refl _⟩
        (And.intro ⟨_, rfl, LeD.refl _⟩
        (And.intro ⟨_, rfl, LeD.refl _⟩
        trivial))) (And.intro ⟨_, rfl, LeOb.refl _⟩
        trivial))
  · obtain ⟨i, j1, s1⟩ := x
    obtain ⟨ht', ht'_f0⟩ := ht'
    obtain ⟨t'_c, t'_g, t'_t⟩ := t'
    have ht'_c : 0 < t'_c := ht'.1
    have ht'_g : ∀ k, t'_g k < t'_c := ht'.2
    refine Tr.chunk (cx := ⟨tt0, ⟨fun f => kOf [] f, fun k _ _ _ => orcL [] k, fun t => memN [] t⟩, 1, fun r => ghL [] r⟩) tt0_ok hPm fun N hN => ?_
    generalize hp : std Tryd.prog = p
    generalize hv : nvS = nv
    cbv
    subst hp
    subst hv
    refine ⟨fun h16 => ?_, fun h16 => ?_⟩
    · replace h := iteO_t h h16
      replace h := chk_some h; obtain ⟨h17, h⟩ := h
      replace h := chk_some h; obtain ⟨h18, h⟩ := h
      replace h := chk_some h; obtain ⟨h19, h⟩ := h
      replace h := chk_some h; obtain ⟨h20, h⟩ := h
      refine ⟨h17, rfl, h18, rfl, h19, rfl, h20, rfl, (show drOk _ _ = true by kernel_rfl), ?_⟩
      replace h := chk_some h; obtain ⟨h21, h⟩ := h
      replace h := chk_some h; obtain ⟨h22, h⟩ := h
      refine ⟨h21, h22, ?_⟩
      subst hN
      cases h
      show ∃ t', _ ∧ GeSt _ _ _
      refine ⟨⟨t'_c + 12, gfn [], tfn []⟩, (And.intro (Hid.mk_ok (by omega) trivial)
          (by first | rfl | assumption | (symm; assumption) | ((try dsimp only [std_eq, stdN, nvS]) <;> first | rfl | omega | (simp (disch := first | omega | (simp only [lenL_set, lenL_app, lenL_cons, lenL_nil] <;> omega)) only [lenL_bytes, lenL_set, lenL_app, lenL_cons, lenL_nil, lenL_rep, lenL_sub, lenL_cpy, Int.ofNat_eq_natCast, Int.zero_add, Int.sub_zero] <;> try omega)))), ?_⟩
      exact GeSt.of (LeSt.frame (by show (_ : Nat) < _; (try dsimp only [std_eq, stdN]); omega) rfl rfl (And.intro ⟨_, rfl, LeD.refl _⟩
          (And.intro ⟨_, rfl, LeD.refl _⟩
          (And.intro ⟨_, rfl, LeD.refl _⟩
          trivial))) (And.intro ⟨_, rfl, LeOb.arrE (by first | rfl | assumption | (symm; assumption) | ((try dsimp only [std_eq, stdN, nvS]) <;> first | rfl | omega | (simp (disch := first | omega | (simp only [lenL_set, lenL_app, lenL_cons, lenL_nil] <;> omega)) only [lenL_bytes, lenL_set, lenL_app, lenL_cons, lenL_nil, lenL_rep, lenL_sub, lenL_cpy, Int.ofNat_eq_natCast, Int.zero_add, Int.sub_zero] <;> try omega))) (fun i i0 i1 j hj => by (try dsimp only [std_eq, stdN, nvS] at i1); (try simp only [Int.ofNat_eq_natCast] at i1); (obtain rfl : j = 0 := (by omega)) <;> (conv => lhs; whnf) <;> (conv => rhs; whnf) <;> (try dsimp only [std_eq, stdN, nvS]) <;> (first | rfl | (simp (disch := first | omega | (simp only [lenL_set, lenL_app, lenL_cons, lenL_nil] <;> omega)) only [getL_bytes, getL_put, getL_app, getL_rep, getL_sub, getL_cpy, Int.zero_add, Int.sub_zero, beq_iff_eq, decide_eq_true_eq, Bool.and_eq_true] <;> first | rfl | (split <;> first | rfl | (simp (disch := first | omega | (simp only [lenL_set, lenL_app, lenL_cons, lenL_nil] <;> omega)) only [getL_one, getL_zero] <;> rfl)) | ((simp only [lenL_app, lenL_cons, lenL_nil, Int.ofNat_eq_natCast]) <;> (repeat' split) <;> first | rfl | (exfalso; omega) | (simp (disch := omega) only [getL_one, getL_zero] <;> rfl) | (congr 3; omega)))))⟩
          trivial))
    · replace h := iteO_f h h16
      subst hN
      cases h
      intro hr
      subst hr
      try dsimp only [noGoto, inBlockQ, thenQ]
      repeat (first | refine (if_pos rfl).mpr ?_ | refine (if_neg (by decide)).mpr ?_)
      refine lentQ_normal rfl ?_ ?_ ?_
      · exact trivial
      · exact trivial
      · exact (And.intro (rfl)
            (And.intro (rfl)
            (And.intro (by first | rfl | assumption | (symm; assumption) | ((try dsimp only [std_eq, stdN, nvS]) <;> first | rfl | omega | (simp (disch := first | omega | (simp only [lenL_set, lenL_app, lenL_cons, lenL_nil] <;> omega)) only [lenL_bytes, lenL_set, lenL_app, lenL_cons, lenL_nil, lenL_rep, lenL_sub, lenL_cpy, Int.ofNat_eq_natCast, Int.zero_add, Int.sub_zero] <;> try omega)))
            (And.intro (rfl)
            (And.intro (out0_all (fun i j => out0_int _ _) (fun i i0 i1 j hj => by (try dsimp only [std_eq, stdN, nvS] at i1); (try simp only [Int.ofNat_eq_natCast] at i1); (obtain rfl : j = 0 := (by omega)) <;> (conv => lhs; whnf) <;> (conv => rhs; whnf) <;> (try dsimp only [std_eq, stdN, nvS]) <;> (first | rfl | (simp (disch := first | omega | (simp only [lenL_set, lenL_app, lenL_cons, lenL_nil] <;> omega)) only [getL_bytes, getL_put, getL_app, getL_rep, getL_sub, getL_cpy, Int.zero_add, Int.sub_zero, beq_iff_eq, decide_eq_true_eq, Bool.and_eq_true] <;> first | rfl | (split <;> first | rfl | (simp (disch := first | omega | (simp only [lenL_set, lenL_app, lenL_cons, lenL_nil] <;> omega)) only [getL_one, getL_zero] <;> rfl)) | ((simp only [lenL_app, lenL_cons, lenL_nil, Int.ofNat_eq_natCast]) <;> (repeat' split) <;> first | rfl | (exfalso; omega) | (simp (disch := omega) only [getL_one, getL_zero] <;> rfl) | (congr 3; omega))))))
            trivial)))))

theorem order_Visual_ok (levels : (List Int)) (r : (List Int)) (h : order_Visual levels = some r) : PureFn Tryd.prog 43 [(.sl 1 (nvS.len levels) false (fun i j => (.v (.int .i64 (nvS.get 0 levels i)))))] (.own 1 (nvS.len r) false (fun i j => (.v (.int .i64 (nvS.get 0 r i))))) := by
  unfold order_Visual at h
  refine fn_tr tt0_ok Tryd.func43 (by kernel_rfl) (c := bodyOf Tryd.f43) (by kernel_rfl) ?_
  intro ctr hc
  refine Tr.pre (cx := ⟨tt0, ⟨fun f => kOf [] f, fun k _ _ _ => orcL [] k, fun t => memN [] t⟩, 0, fun r => ghL [] r⟩) tt0_ok hPm 4 fun N hN => ?_
  generalize hp : std Tryd.prog = p
  generalize hv : nvS = nv
  cbv
  subst hp
  subst hv
  replace h := chk_some h; obtain ⟨h1, h⟩ := h
  have h1' := h1.1; have h1'' := h1.2.1
  refine ⟨h1, ?_⟩
  replace h := chk_some h; obtain ⟨h2, h⟩ := h
  have h2' := h2.1; have h2'' := h2.2.1
  refine ⟨h2, ?_⟩
  subst hN
  show Tr _ _ _ _
  refine Tr.cutSeq (α := Int × Int × List Int × List Int) h (fun (most, least, l', out) t' => ⟨frm 79 [(3, .vec 14 (t'.g 14) 1 0 (nvS.len levels)), (4, .vec 17 (t'.g 17) 1 0 (nvS.len levels)), (5, .v (.int .i64 most)), (6, .v (.int .i64 least))] 0, frO 79 [(14, .arr (t'.g 14) 1 (nvS.len levels) (t'.t 14) (fun i j => (.v (.int .i64 (nvS.get 0 l' i))))), (17, .arr (t'.g 17) 1 (nvS.len levels) (t'.t 17) (fun i j => (.v (.int .i64 (nvS.get 0 out i)))))] 0, t'.c⟩) (fun (most, least, l', out) t => Hid.ok t ∧ lenL l' = (lenL levels) ∧ lenL out = (lenL levels)) (fun x t' ht' h => ?_) (fun f h => ?_)
  · obtain ⟨most, least, l', out⟩ := x
    obtain ⟨ht', ht'_f0, ht'_f1⟩ := ht'
    obtain ⟨t'_c, t'_g, t'_t⟩ := t'
    have ht'_c : 0 < t'_c := ht'.1
    have ht'_g : ∀ k, t'_g k < t'_c := ht'.2
    refine Tr.cutSeq (α := List Int) h (fun out1 t'1 => ⟨frm 79 [(4, .vec 17 (t'1.g 17) 1 0 (nvS.len levels))] 0, frO 79 [(17, .arr (t'1.g 17) 1 (nvS.len levels) (t'1.t 17) (fun i j => (.v (.int .i64 (nvS.get 0 out1 i)))))] 0, t'1.c⟩) (fun out1 t => Hid.ok t ∧ lenL out1 = (lenL levels)) (fun x t'1 ht'1 h => ?_) (fun f h => ?_)
    · revert h; revert ht'1; revert x; intro out1 ht'1 h
      obtain ⟨ht'1, ht'1_f0⟩ := ht'1
      obtain ⟨t'1_c, t'1_g, t'1_t⟩ := t'1
      have ht'1_c : 0 < t'1_c := ht'1.1
      have ht'1_g : ∀ k, t'1_g k < t'1_c := ht'1.2
      refine Tr.chunk (cx := ⟨tt0, ⟨fun f => kOf [] f, fun k _ _ _ => orcL [] k, fun t => memN [] t⟩, 0, fun r => ghL [] r⟩) tt0_ok hPm fun N hN => ?_
      generalize hp : std Tryd.prog = p
      generalize hv : nvS = nv
      cbv
      subst hp
      subst hv
      subst hN
      have hr := Option.some.inj h
      subst hr
      try dsimp only [noGoto, inBlockQ, thenQ]
      repeat (first | refine (if_pos rfl).mpr ?_ | refine (if_neg (by decide)).mpr ?_)
      refine retQ_ret rfl ?_ ?_
      · exact trivial
      · exact (And.intro (rfl)
            (And.intro (by first | rfl | assumption | (symm; assumption) | ((try dsimp only [std_eq, stdN, nvS]) <;> first | rfl | omega | (simp (disch := first | omega | (simp only [lenL_set, lenL_app, lenL_cons, lenL_nil] <;> omega)) only [lenL_bytes, lenL_set, lenL_app, lenL_cons, lenL_nil, lenL_rep, lenL_sub, lenL_cpy, Int.ofNat_eq_natCast, Int.zero_add, Int.sub_zero] <;> try omega)))
            (And.intro (fun h => by cases h)
            (out0_all (fun i j => out0_int _ _) (fun i i0 i1 j hj => by (try dsimp only [std_eq, stdN, nvS] at i1); (try simp only [Int.ofNat_eq_natCast] at i1); (obtain rfl : j = 0 := (by omega)) <;> (conv => lhs; whnf) <;> (conv => rhs; whnf) <;> (try dsimp only [std_eq, stdN, nvS]) <;> (first | rfl | (simp (disch := first | omega | (simp only [lenL_set, lenL_app, lenL_cons, lenL_nil] <;> omega)) only [getL_bytes, getL_put, getL_app, getL_rep, getL_sub, getL_cpy, Int.zero_add, Int.sub_zero, beq_iff_eq, decide_eq_true_eq, Bool.and_eq_true] <;> first | rfl | (split <;> first | rfl | (simp (disch := first | omega | (simp only [lenL_set, lenL_app, lenL_cons, lenL_nil] <;> omega)) only [getL_one, getL_zero] <;> rfl)) | ((simp only [lenL_app, lenL_cons, lenL_nil, Int.ofNat_eq_natCast]) <;> (repeat' split) <;> first | rfl | (exfalso; omega) | (simp (disch := omega) only [getL_one, getL_zero] <;> rfl) | (congr 3; omega)))))))))
    · refine Tr.pre (cx := ⟨tt0, ⟨fun f => kOf [] f, fun k _ _ _ => orcL [] k, fun t => memN [] t⟩, 0, fun r => ghL [] r⟩) tt0_ok hPm 1 fun N hN => ?_
      generalize hp : std Tryd.prog = p
      generalize hv : nvS = nv
      cbv
      subst hp
      subst hv
      subst hN
      show Tr _ _ _ _
      refine Tr.block ?_
      refine Tr.loopO (α := Int × List Int) (fun (level, out2) t'2 => ⟨frm 79 [(3, .vec 14 (t'2.g 14) 1 0 (nvS.len levels)), (4, .vec 17 (t'2.g 17) 1 0 (nvS.len levels)), (6, .v (.int .i64 least)), (9, .v (.int .i64 level))] 0, frO 79 [(14, .arr (t'2.g 14) 1 (nvS.len levels) (t'2.t 14) (fun i j => (.v (.int .i64 (nvS.get 0 l' i))))), (17, .arr (t'2.g 17) 1 (nvS.len levels) (t'2.t 17) (fun i j => (.v (.int .i64 (nvS.get 0 out2 i)))))] 0, t'2.c⟩) (fun (level, out2) t => Hid.ok t ∧ lenL out2 = (lenL levels)) ⟨t'_c + 10, gfn [(14, t'_g 14), (17, t'_g 17)], tfn [(14, t'_t 14), (17, t'_t 17)]⟩ h ?_ ?_ (fun x t'2 f ht'2 h => ?_)
      · exact (And.intro (Hid.mk_ok (by omega) (And.intro (by have := ht'_g 14; omega)
            (And.intro (by have := ht'_g 17; omega)
            trivial)))
            (by first | rfl | assumption | (symm; assumption) | ((try dsimp only [std_eq, stdN, nvS]) <;> first | rfl | omega | (simp (disch := first | omega | (simp only [lenL_set, lenL_app, lenL_cons, lenL_nil] <;> omega)) only [lenL_bytes, lenL_set, lenL_app, lenL_cons, lenL_nil, lenL_rep, lenL_sub, lenL_cpy, Int.ofNat_eq_natCast, Int.zero_add, Int.sub_zero] <;> try omega))))
      · exact GeSt.of (LeSt.frame (by show (_ : Nat) < _; (try dsimp only [std_eq, stdN]); omega) rfl rfl (And.intro ⟨_, rfl, LeD.refl _⟩
            (And.intro ⟨_, rfl, LeD.refl _⟩
            (And.intro ⟨_, rfl, LeD.refl _⟩
            (And.intro ⟨_, rfl, LeD.refl _⟩
            trivial)))) (And.intro ⟨_, rfl, LeOb.refl _⟩
            (And.intro ⟨_, rfl, LeOb.refl _⟩
            trivial)))
      · obtain ⟨level, out2⟩ := x
        obtain ⟨ht'2, ht'2_f0⟩ := ht'2
        obtain ⟨t'2_c, t'2_g, t'2_t⟩ := t'2
        have ht'2_c : 0 < t'2_c := ht'2.1
        have ht'2_g : ∀ k, t'2_g k < t'2_c := ht'2.2
        refine Tr.pre (cx := ⟨tt0, ⟨fun f => kOf [] f, fun k _ _ _ => orcL [] k, fun t => memN [] t⟩, 0, fun r => ghL [] r⟩) tt0_ok hPm 1 fun N hN => ?_
        generalize hp : std Tryd.prog = p
        generalize hv : nvS = nv
        cbv
        subst hp
        subst hv
        refine ⟨fun h115 => ?_, fun h115 => ?_⟩
        · replace h := iteO_t h h115
          subst hN
          show Tr _ _ _ _
          refine Tr.cutSeq (α := List Int) h (fun out3 t'3 => ⟨frm 79 [(3, .vec 14 (t'3.g 14) 1 0 (nvS.len levels)), (4, .vec 17 (t'3.g 17) 1 0 (nvS.len levels)), (6, .v (.int .i64 least)), (9, .v (.int .i64 level))] 0, frO 79 [(14, .arr (t'3.g 14) 1 (nvS.len levels) (t'3.t 14) (fun i j => (.v (.int .i64 (nvS.get 0 l' i))))), (17, .arr (t'3.g 17) 1 (nvS.len levels) (t'3.t 17) (fun i j => (.v (.int .i64 (nvS.get 0 out3 i)))))] 0, t'3.c⟩) (fun out3 t => Hid.ok t ∧ lenL out3 = (lenL levels)) (fun x t'3 ht'3 h => ?_) (fun f h => ?_)
          · revert h; revert ht'3; revert x; intro out3 ht'3 h
            obtain ⟨ht'3, ht'3_f0⟩ := ht'3
            obtain ⟨t'3_c, t'3_g, t'3_t⟩ := t'3
            have ht'3_c : 0 < t'3_c := ht'3.1
            have ht'3_g : ∀ k, t'3_g k < t'3_c := ht'3.2
            refine Tr.chunk (cx := ⟨tt0, ⟨fun f => kOf [] f, fun k _ _ _ => orcL [] k, fun t => memN [] t⟩, 0, fun r => ghL [] r⟩) tt0_ok hPm fun N hN => ?_
            generalize hp : std Tryd.prog = p
            generalize hv : nvS = nv
            cbv
            subst hp
            subst hv
            replace h := chk_some h; obtain ⟨h138, h⟩ := h
            refine ⟨h138, ?_⟩
            subst hN
            cases h
            show ∃ t', _ ∧ GeSt _ _ _
            refine ⟨⟨t'3_c + 10, gfn [(14, t'3_g 14), (17, t'3_g 17)], tfn [(14, t'3_t 14), (17, t'3_t 17)]⟩, (And.intro (Hid.mk_ok (by omega) (And.intro (by have := ht'3_g 14; omega)
                (And.intro (by have := ht'3_g 17; omega)
                trivial)))
                (by first | rfl | assumption | (symm; assumption) | ((try dsimp only [std_eq, stdN, nvS]) <;> first | rfl | omega | (simp (disch := first | omega | (simp only [lenL_set, lenL_app, lenL_cons, lenL_nil] <;> omega)) only [lenL_bytes, lenL_set, lenL_app, lenL_cons, lenL_nil, lenL_rep, lenL_sub, lenL_cpy, Int.ofNat_eq_natCast, Int.zero_add, Int.sub_zero] <;> try omega)))), ?_⟩
            exact GeSt.of (LeSt.frame (by show (_ : Nat) < _; (try dsimp only [std_eq, stdN]); omega) rfl rfl (And.intro ⟨_, rfl, LeD.refl _⟩
                (And.intro ⟨_, rfl, LeD.refl _⟩
                (And.intro ⟨_, rfl, LeD.refl _⟩
                (And.intro ⟨_, rfl, LeD.refl _⟩
                trivial)))) (And.intro ⟨_, rfl, LeOb.refl _⟩
                (And.intro ⟨_, rfl, LeOb.refl _⟩
                trivial)))
          · refine Tr.block ?_
            refine Tr.pre (cx := ⟨tt0, ⟨fun f => kOf [] f, fun k _ _ _ => orcL [] k, fun t => memN [] t⟩, 0, fun r => ghL [] r⟩) tt0_ok hPm 1 fun N hN => ?_
            generalize hp : std Tryd.prog = p
            generalize hv : nvS = nv
            cbv
            subst hp
            subst hv
            subst hN
            show Tr _ _ _ _
            refine Tr.block ?_
            refine Tr.loopO (α := Int × List Int) (fun (from', out4) t'4 => ⟨frm 79 [(3, .vec 14 (t'4.g 14) 1 0 (nvS.len levels)), (4, .vec 17 (t'4.g 17) 1 0 (nvS.len levels)), (6, .v (.int .i64 least)), (9, .v (.int .i64 level)), (10, .v (.int .i64 from'))] 0, frO 79 [(14, .arr (t'4.g 14) 1 (nvS.len levels) (t'4.t 14) (fun i j => (.v (.int .i64 (nvS.get 0 l' i))))), (17, .arr (t'4.g 17) 1 (nvS.len levels) (t'4.t 17) (fun i j => (.v (.int .i64 (nvS.get 0 out4 i)))))] 0, t'4.c⟩) (fun (from', out4) t => Hid.ok t ∧ lenL out4 = (lenL levels)) ⟨t'2_c + 11, gfn [(14, t'2_g 14), (17, t'2_g 17)], tfn [(14, t'2_t 14), (17, t'2_t 17)]⟩ h ?_ ?_ (fun x t'4 f ht'4 h => ?_)
            · exact (And.intro (Hid.mk_ok (by omega) (And.intro (by have := ht'2_g 14; omega)
                  (And.intro (by have := ht'2_g 17; omega)
                  trivial)))
                  (by first | rfl | assumption | (symm; assumption) | ((try dsimp only [std_eq, stdN, nvS]) <;> first | rfl | omega | (simp (disch := first | omega | (simp only [lenL_set, lenL_app, lenL_cons, lenL_nil] <;> omega)) only [lenL_bytes, lenL_set, lenL_app, lenL_cons, lenL_nil, lenL_rep, lenL_sub, lenL_cpy, Int.ofNat_eq_natCast, Int.zero_add, Int.sub_zero] <;> try omega))))
            · exact GeSt.of (LeSt.frame (by show (_ : Nat) < _; (try dsimp only [std_eq, stdN]); omega) rfl rfl (And.intro ⟨_, rfl, LeD.refl _⟩
                  (And.intro ⟨_, rfl, LeD.refl _⟩
                  (And.intro ⟨_, rfl, LeD.refl _⟩
                  (And.intro ⟨_, rfl, LeD.refl _⟩
                  (And.intro ⟨_, rfl, LeD.refl _⟩
                  trivial))))) (And.intro ⟨_, rfl, LeOb.refl _⟩
                  (And.intro ⟨_, rfl, LeOb.refl _⟩
                  trivial)))
            · obtain ⟨from', out4⟩ := x
              obtain ⟨ht'4, ht'4_f0⟩ := ht'4
              obtain ⟨t'4_c, t'4_g, t'4_t⟩ := t'4
              have ht'4_c : 0 < t'4_c := ht'4.1
              have ht'4_g : ∀ k, t'4_g k < t'4_c := ht'4.2
              refine Tr.pre (cx := ⟨tt0, ⟨fun f => kOf [] f, fun k _ _ _ => orcL [] k, fun t => memN [] t⟩, 0, fun r => ghL [] r⟩) tt0_ok hPm 1 fun N hN => ?_
              generalize hp : std Tryd.prog = p
              generalize hv : nvS = nv
              cbv
              subst hp
              subst hv
              refine ⟨fun h161 => ?_, fun h161 => ?_⟩
              · replace h := iteO_t h h161
                subst hN
                show Tr _ _ _ _
                refine Tr.block ?_
                refine Tr.pre (cx := ⟨tt0, ⟨fun f => kOf [] f, fun k _ _ _ => orcL [] k, fun t => memN [] t⟩, 0, fun r => ghL [] r⟩) tt0_ok hPm 1 fun N hN => ?_
                generalize hp : std Tryd.prog = p
                generalize hv : nvS = nv
                cbv
                subst hp
                subst hv
                subst hN
                show Tr _ _ _ _
                refine Tr.cutSeq (α := Int) h (fun to t'5 => ⟨frm 79 [(3, .vec 14 (t'5.g 14) 1 0 (nvS.len levels)), (4, .vec 17 (t'5.g 17) 1 0 (nvS.len levels)), (6, .v (.int .i64 least)), (9, .v (.int .i64 level)), (10, .v (.int .i64 from')), (11, .v (.int .i64 to))] 0, frO 79 [(14, .arr (t'5.g 14) 1 (nvS.len levels) (t'5.t 14) (fun i j => (.v (.int .i64 (nvS.get 0 l' i))))), (17, .arr (t'5.g 17) 1 (nvS.len levels) (t'5.t 17) (fun i j => (.v (.int .i64 (nvS.get 0 out4 i)))))] 0, t'5.c⟩) (fun _ t => Hid.ok t) (fun x t'5 ht'5 h => ?_) (fun f h => ?_)
                · revert h; revert ht'5; revert x; intro to ht'5 h
                  obtain ⟨t'5_c, t'5_g, t'5_t⟩ := t'5
                  have ht'5_c : 0 < t'5_c := ht'5.1
                  have ht'5_g : ∀ k, t'5_g k < t'5_c := ht'5.2
                  obtain ⟨v, h169⟩ : ∃ v, valO [] (slices_Reverse___int_int_ out4 (0 + from') (to - from')) = v := ⟨_, rfl⟩
                  refine Tr.chunk (cx := ⟨tt0, ⟨fun f => kOf [(52, 2)] f, fun k _ _ _ => orcL [(75, .lent [.arr 0 1 (nvS.len levels) (t'5_t 17) (fun i j => (.v (.int .i64 (nvS.get 0 v i))))] (.tup 0 (fun _ => .junk)))] k, fun t => memN [] t⟩, 0, fun r => ghL [] r⟩) tt0_ok hPm fun N hN => ?_
                  generalize hp : std Tryd.prog = p
                  generalize hv : nvS = nv
                  cbv
                  subst hp
                  subst hv
                  replace h := chk_some h; obtain ⟨h168, h⟩ := h
                  replace h := bindO_val h169 h; clear h169; obtain ⟨h169, h⟩ := h
                  replace h := chk_some h; obtain ⟨h170, h⟩ := h
                  refine ⟨h168, rfl, (fun i _ _ j _ => trivial), (fun i _ _ j _ => trivial), rfl, rfl, (slices_Reverse___int_int__ok out4 (0 + from') (to - from') v h169 (lenL levels) (by first | rfl | omega) _), ?_⟩
                  replace h := chk_some h; obtain ⟨h171, h⟩ := h
                  refine ⟨h171, ?_⟩
                  subst hN
                  cases h
                  show ∃ t', _ ∧ GeSt _ _ _
                  refine ⟨⟨t'5_c + 11, gfn [(14, t'5_g 14), (17, t'5_g 17)], tfn [(14, t'5_t 14), (17, t'5_t 17)]⟩, (And.intro (Hid.mk_ok (by omega) (And.intro (by have := ht'5_g 14; omega)
                      (And.intro (by have := ht'5_g 17; omega)
                      trivial)))
                      (by first | rfl | assumption | (symm; assumption) | ((try dsimp only [std_eq, stdN, nvS]) <;> first | rfl | omega | (simp (disch := first | omega | (simp only [lenL_set, lenL_app, lenL_cons, lenL_nil] <;> omega)) only [lenL_bytes, lenL_set, lenL_app, lenL_cons, lenL_nil, lenL_rep, lenL_sub, lenL_cpy, Int.ofNat_eq_natCast, Int.zero_add, Int.sub_zero] <;> try omega)))), ?_⟩
                  exact GeSt.of (LeSt.frame (by show (_ : Nat) < _; (try dsimp only [std_eq, stdN]); omega) rfl rfl (And.intro ⟨_, rfl, LeD.refl _⟩
                      (And.intro ⟨_, rfl, LeD.refl _⟩
                      (And.intro ⟨_, rfl, LeD.refl _⟩
                      (And.intro ⟨_, rfl, LeD.refl _⟩
                      (And.intro ⟨_, rfl, LeD.refl _⟩
                      trivial))))) (And.intro ⟨_, rfl, LeOb.refl _⟩
                      (And.intro ⟨_, rfl, LeOb.arrE (by first | rfl | assumption | (symm; assumption) | ((try dsimp only [std_eq, stdN, nvS]) <;> first | rfl | omega | (simp (disch := first | omega | (simp only [lenL_set, lenL_app, lenL_cons, lenL_nil] <;> omega)) only [lenL_bytes, lenL_set, lenL_app, lenL_cons, lenL_nil, lenL_rep, lenL_sub, lenL_cpy, Int.ofNat_eq_natCast, Int.zero_add, Int.sub_zero] <;> try omega))) (fun i i0 i1 j hj => by (try dsimp only [std_eq, stdN, nvS] at i1); (try simp only [Int.ofNat_eq_natCast] at i1); (obtain rfl : j = 0 := (by omega)) <;> (conv => lhs; whnf) <;> (conv => rhs; whnf) <;> (try dsimp only [std_eq, stdN, nvS]) <;> (first | rfl | (simp (disch := first | omega | (simp only [lenL_set, lenL_app, lenL_cons, lenL_nil] <;> omega)) only [getL_bytes, getL_put, getL_app, getL_rep, getL_sub, getL_cpy, Int.zero_add, Int.sub_zero, beq_iff_eq, decide_eq_true_eq, Bool.and_eq_true] <;> first | rfl | (split <;> first | rfl | (simp (disch := first | omega | (simp only [lenL_set, lenL_app, lenL_cons, lenL_nil] <;> omega)) only [getL_one, getL_zero] <;> rfl)) | ((simp only [lenL_app, lenL_cons, lenL_nil, Int.ofNat_eq_natCast]) <;> (repeat' split) <;> first | rfl | (exfalso; omega) | (simp (disch := omega) only [getL_one, getL_zero] <;> rfl) | (congr 3; omega)))))⟩
                      trivial)))
                · refine Tr.block ?_
                  refine Tr.loopO (α := Int) (fun to1 t'6 => ⟨frm 79 [(3, .vec 14 (t'6.g 14) 1 0 (nvS.len levels)), (4, .vec 17 (t'6.g 17) 1 0 (nvS.len levels)), (6, .v (.int .i64 least)), (9, .v (.int .i64 level)), (10, .v (.int .i64 from')), (11, .v (.int .i64 to1))] 0, frO 79 [(14, .arr (t'6.g 14) 1 (nvS.len levels) (t'6.t 14) (fun i j => (.v (.int .i64 (nvS.get 0 l' i))))), (17, .arr (t'6.g 17) 1 (nvS.len levels) (t'6.t 17) (fun i j => (.v (.int .i64 (nvS.get 0 out4 i)))))] 0, t'6.c⟩) (fun _ t => Hid.ok t) ⟨t'4_c + 11, gfn [(14, t'4_g 14), (17, t'4_g 17)], tfn [(14, t'4_t 14), (17, t'4_t 17)]⟩ h ?_ ?_ (fun x t'6 f ht'6 h => ?_)
                  · exact Hid.mk_ok (by omega) (And.intro (by have := ht'4_g 14; omega)
                        (And.intro (by have := ht'4_g 17; omega)
                        trivial))
                  · exact GeSt.of (LeSt.frame (by show (_ : Nat) < _; (try dsimp only [std_eq, stdN]); omega) rfl rfl (And.intro ⟨_, rfl, LeD.refl _⟩
                        (And.intro ⟨_, rfl, LeD.refl _⟩
                        (And.intro ⟨_, rfl, LeD.refl _⟩
                        (And.intro ⟨_, rfl, LeD.refl _⟩
                        (And.intro ⟨_, rfl, LeD.refl _⟩
                        (And.intro ⟨_, rfl, LeD.refl _⟩
                        trivial)))))) (And.intro ⟨_, rfl, LeOb.refl _⟩
                        (And.intro ⟨_, rfl, LeOb.refl _⟩
                        trivial)))
                  · revert h; revert ht'6; revert x; intro to1 ht'6 h
                    obtain ⟨t'6_c, t'6_g, t'6_t⟩ := t'6
                    have ht'6_c : 0 < t'6_c := ht'6.1
                    have ht'6_g : ∀ k, t'6_g k < t'6_c := ht'6.2
                    refine Tr.chunk (cx := ⟨tt0, ⟨fun f => kOf [] f, fun k _ _ _ => orcL [] k, fun t => memN [] t⟩, 0, fun r => ghL [] r⟩) tt0_ok hPm fun N hN => ?_
                    generalize hp : std Tryd.prog = p
                    generalize hv : nvS = nv
                    cbv
                    subst hp
                    subst hv
                    replace h := chk_some h; obtain ⟨h178, h⟩ := h
                    refine ⟨(fun hg => hg), (fun hg => hg), h178, (fun hg => hg), (fun _ => rfl), (fun hg => hg), (fun hg => hg), (fun hg => hg), ?_⟩
                    refine ⟨fun h179 => ?_, fun h179 => ?_⟩
                    · replace h := iteO_t h h179
                      replace h := chk_some h; obtain ⟨h180, h⟩ := h
                      refine ⟨h180, ?_⟩
                      subst hN
                      cases h
                      show ∃ t', _ ∧ GeSt _ _ _
                      refine ⟨⟨t'6_c + 11, gfn [(14, t'6_g 14), (17, t'6_g 17)], tfn [(14, t'6_t 14), (17, t'6_t 17)]⟩, Hid.mk_ok (by omega) (And.intro (by have := ht'6_g 14; omega)
                          (And.intro (by have := ht'6_g 17; omega)
                          trivial)), ?_⟩
                      exact GeSt.of (LeSt.frame (by show (_ : Nat) < _; (try dsimp only [std_eq, stdN]); omega) rfl rfl (And.intro ⟨_, rfl, LeD.refl _⟩
                          (And.intro ⟨_, rfl, LeD.refl _⟩
                          (And.intro ⟨_, rfl, LeD.refl _⟩
                          (And.intro ⟨_, rfl, LeD.refl _⟩
                          (And.intro ⟨_, rfl, LeD.refl _⟩
                          (And.intro ⟨_, rfl, LeD.refl _⟩
                          trivial)))))) (And.intro ⟨_, rfl, LeOb.refl _⟩
                          (And.intro ⟨_, rfl, LeOb.refl _⟩
                          trivial)))
                    · replace h := iteO_f h h179
                      subst hN
                      cases h
                      intro he; cases he
                      show ∃ t', _ ∧ GeSt _ _ _
                      refine ⟨⟨t'6_c + 10, gfn [(14, t'6_g 14), (17, t'6_g 17)], tfn [(14, t'6_t 14), (17, t'6_t 17)]⟩, Hid.mk_ok (by omega) (And.intro (by have := ht'6_g 14; omega)
                          (And.intro (by have := ht'6_g 17; omega)
                          trivial)), ?_⟩
                      exact GeSt.of (LeSt.frame (by show (_ : Nat) < _; (try dsimp only [std_eq, stdN]); omega) rfl rfl (And.intro ⟨_, rfl, LeD.refl _⟩
                          (And.intro ⟨_, rfl, LeD.refl _⟩
                          (And.intro ⟨_, rfl, LeD.refl _⟩
                          (And.intro ⟨_, rfl, LeD.refl _⟩
                          (And.intro ⟨_, rfl, LeD.refl _⟩
                          (And.intro ⟨_, rfl, LeD.refl _⟩
                          trivial)))))) (And.intro ⟨_, rfl, LeOb.refl _⟩
                          (And.intro ⟨_, rfl, LeOb.refl _⟩
                          trivial)))
              · replace h := iteO_f h h161
                subst hN
                cases h
                intro he; cases he
                show ∃ t', _ ∧ GeSt _ _ _
                refine ⟨⟨t'4_c + 10, gfn [(14, t'4_g 14), (17, t'4_g 17)], tfn [(14, t'4_t 14), (17, t'4_t 17)]⟩, (And.intro (Hid.mk_ok (by omega) (And.intro (by have := ht'4_g 14; omega)
                    (And.intro (by have := ht'4_g 17; omega)
                    trivial)))
                    (by first | rfl | assumption | (symm; assumption) | ((try dsimp only [std_eq, stdN, nvS]) <;> first | rfl | omega | (simp (disch := first | omega | (simp only [lenL_set, lenL_app, lenL_cons, lenL_nil] <;> omega)) only [lenL_bytes, lenL_set, lenL_app, lenL_cons, lenL_nil, lenL_rep, lenL_sub, lenL_cpy, Int.ofNat_eq_natCast, Int.zero_add, Int.sub_zero] <;> try omega)))), ?_⟩
                exact GeSt.of (LeSt.frame (by show (_ : Nat) < _; (try dsimp only [std_eq, stdN]); omega) rfl rfl (And.intro ⟨_, rfl, LeD.refl _⟩
                    (And.intro ⟨_, rfl, LeD.refl _⟩
                    (And.intro ⟨_, rfl, LeD.refl _⟩
                    (And.intro ⟨_, rfl, LeD.refl _⟩
                    trivial)))) (And.intro ⟨_, rfl, LeOb.refl _⟩
                    (And.intro ⟨_, rfl, LeOb.refl _⟩
                    trivial)))
        · replace h := iteO_f h h115
          subst hN
          cases h
          intro he; cases he
          show ∃ t', _ ∧ GeSt _ _ _
          refine ⟨⟨t'2_c + 10, gfn [(17, t'2_g 17)], tfn [(17, t'2_t 17)]⟩, (And.intro (Hid.mk_ok (by omega) (And.intro (by have := ht'2_g 17; omega)
              trivial))
              (by first | rfl | assumption | (symm; assumption) | ((try dsimp only [std_eq, stdN, nvS]) <;> first | rfl | omega | (simp (disch := first | omega | (simp only [lenL_set, lenL_app, lenL_cons, lenL_nil] <;> omega)) only [lenL_bytes, lenL_set, lenL_app, lenL_cons, lenL_nil, lenL_rep, lenL_sub, lenL_cpy, Int.ofNat_eq_natCast, Int.zero_add, Int.sub_zero] <;> try omega)))), ?_⟩
          exact GeSt.of (LeSt.frame (by show (_ : Nat) < _; (try dsimp only [std_eq, stdN]); omega) rfl rfl (And.intro ⟨_, rfl, LeD.refl _⟩
              trivial) (And.intro ⟨_, rfl, LeOb.refl _⟩
              trivial))
  · refine Tr.pre (cx := ⟨tt0, ⟨fun f => kOf [] f, fun k _ _ _ => orcL [] k, fun t => memN [] t⟩, 0, fun r => ghL [] r⟩) tt0_ok hPm 1 fun N hN => ?_
    generalize hp : std Tryd.prog = p
    generalize hv : nvS = nv
    cbv
    subst hp
    subst hv
    subst hN
    show Tr _ _ _ _
    refine Tr.block ?_
    refine Tr.loopO (α := Int × Int × Int × List Int × List Int) (fun (most1, least1, v1, l'1, out5) t'7 => ⟨frm 79 [(3, .vec 14 (t'7.g 14) 1 0 (nvS.len levels)), (4, .vec 17 (t'7.g 17) 1 0 (nvS.len levels)), (5, .v (.int .i64 most1)), (6, .v (.int .i64 least1)), (18, .sl 1 (nvS.len levels) false (fun i j => (.v (.int .i64 (nvS.get 0 levels i))))), (19, .v (.int .i64 (nvS.len levels))), (20, .v (.int .i64 v1))] 0, frO 79 [(14, .arr (t'7.g 14) 1 (nvS.len levels) (t'7.t 14) (fun i j => (.v (.int .i64 (nvS.get 0 l'1 i))))), (17, .arr (t'7.g 17) 1 (nvS.len levels) (t'7.t 17) (fun i j => (.v (.int .i64 (nvS.get 0 out5 i)))))] 0, t'7.c⟩) (fun (most1, least1, v1, l'1, out5) t => Hid.ok t ∧ lenL l'1 = (lenL levels) ∧ lenL out5 = (lenL levels)) ⟨ctr + 14, gfn [(14, ctr + 1), (17, ctr + 2)], tfn [(14, ((std Tryd.prog).eq (nvS.len levels) (nvS.len levels))), (17, ((std Tryd.prog).eq (nvS.len levels) (nvS.len levels)))]⟩ h ?_ ?_ (fun x t'7 f ht'7 h => ?_)
    · exact (And.intro (Hid.mk_ok (by omega) (And.intro (by omega)
          (And.intro (by omega)
          trivial)))
          (And.intro (by first | rfl | assumption | (symm; assumption) | ((try dsimp only [std_eq, stdN, nvS]) <;> first | rfl | omega | (simp (disch := first | omega | (simp only [lenL_set, lenL_app, lenL_cons, lenL_nil] <;> omega)) only [lenL_bytes, lenL_set, lenL_app, lenL_cons, lenL_nil, lenL_rep, lenL_sub, lenL_cpy, Int.ofNat_eq_natCast, Int.zero_add, Int.sub_zero] <;> try omega)))
          (by first | rfl | assumption | (symm; assumption) | ((try dsimp only [std_eq, stdN, nvS]) <;> first | rfl | omega | (simp (disch := first | omega | (simp only [lenL_set, lenL_app, lenL_cons, lenL_nil] <;> omega)) only [lenL_bytes, lenL_set, lenL_app, lenL_cons, lenL_nil, lenL_rep, lenL_sub, lenL_cpy, Int.ofNat_eq_natCast, Int.zero_add, Int.sub_zero] <;> try omega)))))
    · exact GeSt.of (LeSt.frame (by show (_ : Nat) < _; (try dsimp only [std_eq, stdN]); omega) rfl rfl (And.intro ⟨_, rfl, LeD.refl _⟩
          (And.intro ⟨_, rfl, LeD.refl _⟩
          (And.intro ⟨_, rfl, LeD.refl _⟩
          (And.intro ⟨_, rfl, LeD.refl _⟩
          (And.intro ⟨_, rfl, LeD.refl _⟩
          (And.intro ⟨_, rfl, LeD.refl _⟩
          (And.intro ⟨_, rfl, LeD.refl _⟩
          trivial))))))) (And.intro ⟨_, rfl, LeOb.arrE (by first | rfl | assumption | (symm; assumption) | ((try dsimp only [std_eq, stdN, nvS]) <;> first | rfl | omega | (simp (disch := first | omega | (simp only [lenL_set, lenL_app, lenL_cons, lenL_nil] <;> omega)) only [lenL_bytes, lenL_set, lenL_app, lenL_cons, lenL_nil, lenL_rep, lenL_sub, lenL_cpy, Int.ofNat_eq_natCast, Int.zero_add, Int.sub_zero] <;> try omega))) (fun i i0 i1 j hj => by (try dsimp only [std_eq, stdN, nvS] at i1); (try simp only [Int.ofNat_eq_natCast] at i1); (obtain rfl : j = 0 := (by omega)) <;> (conv => lhs; whnf) <;> (conv => rhs; whnf) <;> (try dsimp only [std_eq, stdN, nvS]) <;> (first | rfl | (simp (disch := first | omega | (simp only [lenL_set, lenL_app, lenL_cons, lenL_nil] <;> omega)) only [getL_bytes, getL_put, getL_app, getL_rep, getL_sub, getL_cpy, Int.zero_add, Int.sub_zero, beq_iff_eq, decide_eq_true_eq, Bool.and_eq_true] <;> first | rfl | (split <;> first | rfl | (simp (disch := first | omega | (simp only [lenL_set, lenL_app, lenL_cons, lenL_nil] <;> omega)) only [getL_one, getL_zero] <;> rfl)) | ((simp only [lenL_app, lenL_cons, lenL_nil, Int.ofNat_eq_natCast]) <;> (repeat' split) <;> first | rfl | (exfalso; omega) | (simp (disch := omega) only [getL_one, getL_zero] <;> rfl) | (congr 3; omega)))))⟩
          (And.intro ⟨_, rfl, LeOb.arrE (by first | rfl | assumption | (symm; assumption) | ((try dsimp only [std_eq, stdN, nvS]) <;> first | rfl | omega | (simp (disch := first | omega | (simp only [lenL_set, lenL_app, lenL_cons, lenL_nil] <;> omega)) only [lenL_bytes, lenL_set, lenL_app, lenL_cons, lenL_nil, lenL_rep, lenL_sub, lenL_cpy, Int.ofNat_eq_natCast, Int.zero_add, Int.sub_zero] <;> try omega))) (fun i i0 i1 j hj => by (try dsimp only [std_eq, stdN, nvS] at i1); (try simp only [Int.ofNat_eq_natCast] at i1); (obtain rfl : j = 0 := (by omega)) <;> (conv => lhs; whnf) <;> (conv => rhs; whnf) <;> (try dsimp only [std_eq, stdN, nvS]) <;> (first | rfl | (simp (disch := first | omega | (simp only [lenL_set, lenL_app, lenL_cons, lenL_nil] <;> omega)) only [getL_bytes, getL_put, getL_app, getL_rep, getL_sub, getL_cpy, Int.zero_add, Int.sub_zero, beq_iff_eq, decide_eq_true_eq, Bool.and_eq_true] <;> first | rfl | (split <;> first | rfl | (simp (disch := first | omega | (simp only [lenL_set, lenL_app, lenL_cons, lenL_nil] <;> omega)) only [getL_one, getL_zero] <;> rfl)) | ((simp only [lenL_app, lenL_cons, lenL_nil, Int.ofNat_eq_natCast]) <;> (repeat' split) <;> first | rfl | (exfalso; omega) | (simp (disch := omega) only [getL_one, getL_zero] <;> rfl) | (congr 3; omega)))))⟩
          trivial)))
    · obtain ⟨most1, least1, v1, l'1, out5⟩ := x
      obtain ⟨ht'7, ht'7_f0, ht'7_f1⟩ := ht'7
      obtain ⟨t'7_c, t'7_g, t'7_t⟩ := t'7
      have ht'7_c : 0 < t'7_c := ht'7.1
      have ht'7_g : ∀ k, t'7_g k < t'7_c := ht'7.2
      refine Tr.chunk (cx := ⟨tt0, ⟨fun f => kOf [] f, fun k _ _ _ => orcL [] k, fun t => memN [] t⟩, 0, fun r => ghL [] r⟩) tt0_ok hPm fun N hN => ?_
      generalize hp : std Tryd.prog = p
      generalize hv : nvS = nv
      cbv
      subst hp
      subst hv
      refine ⟨fun h197 => ?_, fun h197 => ?_⟩
      · replace h := iteO_t h h197
        replace h := chk_some h; obtain ⟨h198, h⟩ := h
        refine ⟨h198, ?_⟩
        replace h := chk_some h; obtain ⟨h199, h⟩ := h
        replace h := chk_some h; obtain ⟨h200, h⟩ := h
        refine ⟨h199, rfl, h200, rfl, ?_⟩
        replace h := chk_some h; obtain ⟨h201, h⟩ := h
        refine ⟨h201, ?_⟩
        refine ⟨fun h202 => ?_, fun h202 => ?_⟩
        · replace h := iteO_t h h202
          replace h := chk_some h; obtain ⟨h203, h⟩ := h
          refine ⟨h203, ?_⟩
          subst hN
          cases h
          show ∃ t', _ ∧ GeSt _ _ _
          refine ⟨⟨t'7_c + 17, gfn [(14, t'7_g 14), (17, t'7_g 17)], tfn [(14, t'7_t 14), (17, t'7_t 17)]⟩, (And.intro (Hid.mk_ok (by omega) (And.intro (by have := ht'7_g 14; omega)
              (And.intro (by have := ht'7_g 17; omega)
              trivial)))
              (And.intro (by first | rfl | assumption | (symm; assumption) | ((try dsimp only [std_eq, stdN, nvS]) <;> first | rfl | omega | (simp (disch := first | omega | (simp only [lenL_set, lenL_app, lenL_cons, lenL_nil] <;> omega)) only [lenL_bytes, lenL_set, lenL_app, lenL_cons, lenL_nil, lenL_rep, lenL_sub, lenL_cpy, Int.ofNat_eq_natCast, Int.zero_add, Int.sub_zero] <;> try omega)))
              (by first | rfl | assumption | (symm; assumption) | ((try dsimp only [std_eq, stdN, nvS]) <;> first | rfl | omega | (simp (disch := first | omega | (simp only [lenL_set, lenL_app, lenL_cons, lenL_nil] <;> omega)) only [lenL_bytes, lenL_set, lenL_app, lenL_cons, lenL_nil, lenL_rep, lenL_sub, lenL_cpy, Int.ofNat_eq_natCast, Int.zero_add, Int.sub_zero] <;> try omega))))), ?_⟩
          exact GeSt.of (LeSt.frame (by show (_ : Nat) < _; (try dsimp only [std_eq, stdN]); omega) rfl rfl (And.intro ⟨_, rfl, LeD.refl _⟩
              (And.intro ⟨_, rfl, LeD.refl _⟩
              (And.intro ⟨_, rfl, LeD.refl _⟩
              (And.intro ⟨_, rfl, LeD.refl _⟩
              (And.intro ⟨_, rfl, LeD.refl _⟩
              (And.intro ⟨_, rfl, LeD.refl _⟩
              (And.intro ⟨_, rfl, LeD.refl _⟩
              trivial))))))) (And.intro ⟨_, rfl, LeOb.arrE (by first | rfl | assumption | (symm; assumption) | ((try dsimp only [std_eq, stdN, nvS]) <;> first | rfl | omega | (simp (disch := first | omega | (simp only [lenL_set, lenL_app, lenL_cons, lenL_nil] <;> omega)) only [lenL_bytes, lenL_set, lenL_app, lenL_cons, lenL_nil, lenL_rep, lenL_sub, lenL_cpy, Int.ofNat_eq_natCast, Int.zero_add, Int.sub_zero] <;> try omega))) (fun i i0 i1 j hj => by (try dsimp only [std_eq, stdN, nvS] at i1); (try simp only [Int.ofNat_eq_natCast] at i1); (obtain rfl : j = 0 := (by omega)) <;> (conv => lhs; whnf) <;> (conv => rhs; whnf) <;> (try dsimp only [std_eq, stdN, nvS]) <;> (first | rfl | (simp (disch := first | omega | (simp only [lenL_set, lenL_app, lenL_cons, lenL_nil] <;> omega)) only [getL_bytes, getL_put, getL_app, getL_rep, getL_sub, getL_cpy, Int.zero_add, Int.sub_zero, beq_iff_eq, decide_eq_true_eq, Bool.and_eq_true] <;> first | rfl | (split <;> first | rfl | (simp (disch := first | omega | (simp only [lenL_set, lenL_app, lenL_cons, lenL_nil] <;> omega)) only [getL_one, getL_zero] <;> rfl)) | ((simp only [lenL_app, lenL_cons, lenL_nil, Int.ofNat_eq_natCast]) <;> (repeat' split) <;> first | rfl | (exfalso; omega) | (simp (disch := omega) only [getL_one, getL_zero] <;> rfl) | (congr 3; omega)))))⟩
              (And.intro ⟨_, rfl, LeOb.arrE (by first | rfl | assumption | (symm; assumption) | ((try dsimp only [std_eq, stdN, nvS]) <;> first | rfl | omega | (simp (disch := first | omega | (simp only [lenL_set, lenL_app, lenL_cons, lenL_nil] <;> omega)) only [lenL_bytes, lenL_set, lenL_app, lenL_cons, lenL_nil, lenL_rep, lenL_sub, lenL_cpy, Int.ofNat_eq_natCast, Int.zero_add, Int.sub_zero] <;> try omega))) (fun i i0 i1 j hj => by (try dsimp only [std_eq, stdN, nvS] at i1); (try simp only [Int.ofNat_eq_natCast] at i1); (obtain rfl : j = 0 := (by omega)) <;> (conv => lhs; whnf) <;> (conv => rhs; whnf) <;> (try dsimp only [std_eq, stdN, nvS]) <;> (first | rfl | (simp (disch := first | omega | (simp only [lenL_set, lenL_app, lenL_cons, lenL_nil] <;> omega)) only [getL_bytes, getL_put, getL_app, getL_rep, getL_sub, getL_cpy, Int.zero_add, Int.sub_zero, beq_iff_eq, decide_eq_true_eq, Bool.and_eq_true] <;> first | rfl | (split <;> first | rfl | (simp (disch := first | omega | (simp only [lenL_set, lenL_app, lenL_cons, lenL_nil] <;> omega)) only [getL_one, getL_zero] <;> rfl)) | ((simp only [lenL_app, lenL_cons, lenL_nil, Int.ofNat_eq_natCast]) <;> (repeat' split) <;> first | rfl | (exfalso; omega) | (simp (disch := omega) only [getL_one, getL_zero] <;> rfl) | (congr 3; omega)))))⟩
              trivial)))
        · replace h := iteO_f h h202
          replace h := chk_some h; obtain ⟨h204, h⟩ := h
          refine ⟨h204, ?_⟩
          subst hN
          cases h
          show ∃ t', _ ∧ GeSt _ _ _
          refine ⟨⟨t'7_c + 16, gfn [(14, t'7_g 14), (17, t'7_g 17)], tfn [(14, t'7_t 14), (17, t'7_t 17)]⟩, (And.intro (Hid.mk_ok (by omega) (And.intro (by have := ht'7_g 14; omega)
              (And.intro (by have := ht'7_g 17; omega)
              trivial)))
              (And.intro (by first | rfl | assumption | (symm; assumption) | ((try dsimp only [std_eq, stdN, nvS]) <;> first | rfl | omega | (simp (disch := first | omega | (simp only [lenL_set, lenL_app, lenL_cons, lenL_nil] <;> omega)) only [lenL_bytes, lenL_set, lenL_app, lenL_cons, lenL_nil, lenL_rep, lenL_sub, lenL_cpy, Int.ofNat_eq_natCast, Int.zero_add, Int.sub_zero] <;> try omega)))
              (by first | rfl | assumption | (symm; assumption) | ((try dsimp only [std_eq, stdN, nvS]) <;> first | rfl | omega | (simp (disch := first | omega | (simp only [lenL_set, lenL_app, lenL_cons, lenL_nil] <;> omega)) only [lenL_bytes, lenL_set, lenL_app, lenL_cons, lenL_nil, lenL_rep, lenL_sub, lenL_cpy, Int.ofNat_eq_natCast, Int.zero_add, Int.sub_zero] <;> try omega))))), ?_⟩
          exact GeSt.of (LeSt.frame (by show (_ : Nat) < _; (try dsimp only [std_eq, stdN]); omega) rfl rfl (And.intro ⟨_, rfl, LeD.refl _⟩
              (And.intro ⟨_, rfl, LeD.refl _⟩
              (And.intro ⟨_, rfl, LeD.refl _⟩
              (And.intro ⟨_, rfl, LeD.refl _⟩
              (And.intro ⟨_, rfl, LeD.refl _⟩
              (And.intro ⟨_, rfl, LeD.refl _⟩
              (And.intro ⟨_, rfl, LeD.refl _⟩
              trivial))))))) (And.intro ⟨_, rfl, LeOb.arrE (by first | rfl | assumption | (symm; assumption) | ((try dsimp only [std_eq, stdN, nvS]) <;> first | rfl | omega | (simp (disch := first | omega | (simp only [lenL_set, lenL_app, lenL_cons, lenL_nil] <;> omega)) only [lenL_bytes, lenL_set, lenL_app, lenL_cons, lenL_nil, lenL_rep, lenL_sub, lenL_cpy, Int.ofNat_eq_natCast, Int.zero_add, Int.sub_zero] <;> try omega))) (fun i i0 i1 j hj => by (try dsimp only [std_eq, stdN, nvS] at i1); (try simp only [Int.ofNat_eq_natCast] at i1); (obtain rfl : j = 0 := (by omega)) <;> (conv => lhs; whnf) <;> (conv => rhs; whnf) <;> (try dsimp only [std_eq, stdN, nvS]) <;> (first | rfl | (simp (disch := first | omega | (simp only [lenL_set, lenL_app, lenL_cons, lenL_nil] <;> omega)) only [getL_bytes, getL_put, getL_app, getL_rep, getL_sub, getL_cpy, Int.zero_add, Int.sub_zero, beq_iff_eq, decide_eq_true_eq, Bool.and_eq_true] <;> first | rfl | (split <;> first | rfl | (simp (disch := first | omega | (simp only [lenL_set, lenL_app, lenL_cons, lenL_nil] <;> omega)) only [getL_one, getL_zero] <;> rfl)) | ((simp only [lenL_app, lenL_cons, lenL_nil, Int.ofNat_eq_natCast]) <;> (repeat' split) <;> first | rfl | (exfalso; omega) | (simp (disch := omega) only [getL_one, getL_zero] <;> rfl) | (congr 3; omega)))))⟩
              (And.intro ⟨_, rfl, LeOb.arrE (by first | rfl | assumption | (symm; assumption) | ((try dsimp only [std_eq, stdN, nvS]) <;> first | rfl | omega | (simp (disch := first | omega | (simp only [lenL_set, lenL_app, lenL_cons, lenL_nil] <;> omega)) only [lenL_bytes, lenL_set, lenL_app, lenL_cons, lenL_nil, lenL_rep, lenL_sub, lenL_cpy, Int.ofNat_eq_natCast, Int.zero_add, Int.sub_zero] <;> try omega))) (fun i i0 i1 j hj => by (try dsimp only [std_eq, stdN, nvS] at i1); (try simp only [Int.ofNat_eq_natCast] at i1); (obtain rfl : j = 0 := (by omega)) <;> (conv => lhs; whnf) <;> (conv => rhs; whnf) <;> (try dsimp only [std_eq, stdN, nvS]) <;> (first | rfl | (simp (disch := first | omega | (simp only [lenL_set, lenL_app, lenL_cons, lenL_nil] <;> omega)) only [getL_bytes, getL_put, getL_app, getL_rep, getL_sub, getL_cpy, Int.zero_add, Int.sub_zero, beq_iff_eq, decide_eq_true_eq, Bool.and_eq_true] <;> first | rfl | (split <;> first | rfl | (simp (disch := first | omega | (simp only [lenL_set, lenL_app, lenL_cons, lenL_nil] <;> omega)) only [getL_one, getL_zero] <;> rfl)) | ((simp only [lenL_app, lenL_cons, lenL_nil, Int.ofNat_eq_natCast]) <;> (repeat' split) <;> first | rfl | (exfalso; omega) | (simp (disch := omega) only [getL_one, getL_zero] <;> rfl) | (congr 3; omega)))))⟩
              trivial)))
      · replace h := iteO_f h h197
        subst hN
        cases h
        intro he; cases he
        show ∃ t', _ ∧ GeSt _ _ _
        refine ⟨⟨t'7_c + 10, gfn [(14, t'7_g 14), (17, t'7_g 17)], tfn [(14, t'7_t 14), (17, t'7_t 17)]⟩, (And.intro (Hid.mk_ok (by omega) (And.intro (by have := ht'7_g 14; omega)
            (And.intro (by have := ht'7_g 17; omega)
            trivial)))
            (And.intro (by first | rfl | assumption | (symm; assumption) | ((try dsimp only [std_eq, stdN, nvS]) <;> first | rfl | omega | (simp (disch := first | omega | (simp only [lenL_set, lenL_app, lenL_cons, lenL_nil] <;> omega)) only [lenL_bytes, lenL_set, lenL_app, lenL_cons, lenL_nil, lenL_rep, lenL_sub, lenL_cpy, Int.ofNat_eq_natCast, Int.zero_add, Int.sub_zero] <;> try omega)))
            (by first | rfl | assumption | (symm; assumption) | ((try dsimp only [std_eq, stdN, nvS]) <;> first | rfl | omega | (simp (disch := first | omega | (simp only [lenL_set, lenL_app, lenL_cons, lenL_nil] <;> omega)) only [lenL_bytes, lenL_set, lenL_app, lenL_cons, lenL_nil, lenL_rep, lenL_sub, lenL_cpy, Int.ofNat_eq_natCast, Int.zero_add, Int.sub_zero] <;> try omega))))), ?_⟩
        exact GeSt.of (LeSt.frame (by show (_ : Nat) < _; (try dsimp only [std_eq, stdN]); omega) rfl rfl (And.intro ⟨_, rfl, LeD.refl _⟩
            (And.intro ⟨_, rfl, LeD.refl _⟩
            (And.intro ⟨_, rfl, LeD.refl _⟩
            (And.intro ⟨_, rfl, LeD.refl _⟩
            trivial)))) (And.intro ⟨_, rfl, LeOb.refl _⟩
            (And.intro ⟨_, rfl, LeOb.refl _⟩
            trivial)))

theorem lapwingref03_Ints_ok (a : (List Int)) (b : (List Int)) (r : Bool) (h : lapwingref03_Ints a b = some r) : PureFn Tryd.prog 26 [(.sl 1 (nvS.len a) false (fun i j => (.v (.int .i64 (nvS.get 0 a i))))), (.sl 1 (nvS.len b) false (fun i j => (.v (.int .i64 (nvS.get 0 b i)))))] ((.v (.bool r))) := by
  unfold lapwingref03_Ints at h
  refine fn_tr tt0_ok Tryd.func26 (by kernel_rfl) (c := bodyOf Tryd.f26) (by kernel_rfl) ?_
  intro ctr hc
  refine Tr.pre (cx := ⟨tt0, ⟨fun f => kOf [] f, fun k _ _ _ => orcL [] k, fun t => memN [] t⟩, 0, fun r => ghL [] r⟩) tt0_ok hPm 2 fun N hN => ?_
  generalize hp : std Tryd.prog = p
  generalize hv : nvS = nv
  cbv
  subst hp
  subst hv
  refine ⟨fun h1 => ?_, fun h1 => ?_⟩
  · replace h := iteO_t h h1
    subst hN
    have hr := Option.some.inj h
    subst hr
    try dsimp only [noGoto, inBlockQ, thenQ]
    repeat (first | refine (if_pos rfl).mpr ?_ | refine (if_neg (by decide)).mpr ?_)
    refine retQ_ret rfl ?_ ?_
    · exact trivial
    · exact rfl
  · replace h := iteO_f h h1
    subst hN
    show Tr _ _ _ _
    refine Tr.cutSeq (α := Unit) h (fun _ t' => ⟨frm 26 [] 0, frO 26 [] 0, t'.c⟩) (fun _ t => Hid.ok t) (fun x t' ht' h => ?_) (fun f h => ?_)
    · obtain ⟨t'_c, t'_g, t'_t⟩ := t'
      have ht'_c : 0 < t'_c := ht'.1
      have ht'_g : ∀ k, t'_g k < t'_c := ht'.2
      refine Tr.chunk (cx := ⟨tt0, ⟨fun f => kOf [] f, fun k _ _ _ => orcL [] k, fun t => memN [] t⟩, 0, fun r => ghL [] r⟩) tt0_ok hPm fun N hN => ?_
      generalize hp : std Tryd.prog = p
      generalize hv : nvS = nv
      cbv
      subst hp
      subst hv
      subst hN
      have hr := Option.some.inj h
      subst hr
      try dsimp only [noGoto, inBlockQ, thenQ]
      repeat (first | refine (if_pos rfl).mpr ?_ | refine (if_neg (by decide)).mpr ?_)
      refine retQ_ret rfl ?_ ?_
      · exact trivial
      · exact rfl
    · refine Tr.pre (cx := ⟨tt0, ⟨fun f => kOf [] f, fun k _ _ _ => orcL [] k, fun t => memN [] t⟩, 0, fun r => ghL [] r⟩) tt0_ok hPm 1 fun N hN => ?_
      generalize hp : std Tryd.prog = p
      generalize hv : nvS = nv
      cbv
      subst hp
      subst hv
      subst hN
      show Tr _ _ _ _
      refine Tr.block ?_
      refine Tr.loopO (α := Int) (fun i t'1 => ⟨frm 26 [(0, .sl 1 (nvS.len a) false (fun i j => (.v (.int .i64 (nvS.get 0 a i))))), (1, .sl 1 (nvS.len b) false (fun i j => (.v (.int .i64 (nvS.get 0 b i))))), (5, .v (.int .i64 i))] 0, frO 26 [] 0, t'1.c⟩) (fun _ t => Hid.ok t) ⟨ctr + 12, gfn [], tfn []⟩ h ?_ ?_ (fun x t'1 f ht'1 h => ?_)
      · exact Hid.mk_ok (by omega) trivial
      · exact GeSt.of (LeSt.frame (by show (_ : Nat) < _; (try dsimp only [std_eq, stdN]); omega) rfl rfl (And.intro ⟨_, rfl, LeD.refl _⟩
            (And.intro ⟨_, rfl, LeD.refl _⟩
            (And.intro ⟨_, rfl, LeD.refl _⟩
            trivial))) trivial)
      · revert h; revert ht'1; revert x; intro i ht'1 h
        obtain ⟨t'1_c, t'1_g, t'1_t⟩ := t'1
        have ht'1_c : 0 < t'1_c := ht'1.1
        have ht'1_g : ∀ k, t'1_g k < t'1_c := ht'1.2
        refine Tr.chunk (cx := ⟨tt0, ⟨fun f => kOf [] f, fun k _ _ _ => orcL [] k, fun t => memN [] t⟩, 0, fun r => ghL [] r⟩) tt0_ok hPm fun N hN => ?_
        generalize hp : std Tryd.prog = p
        generalize hv : nvS = nv
        cbv
        subst hp
        subst hv
        refine ⟨fun h22 => ?_, fun h22 => ?_⟩
        · replace h := iteO_t h h22
          replace h := chk_some h; obtain ⟨h23, h⟩ := h
          replace h := chk_some h; obtain ⟨h24, h⟩ := h
          refine ⟨h23, h24, (show drOk _ _ = true by kernel_rfl), ?_⟩
          refine ⟨fun h25 => ?_, fun h25 => ?_⟩
          · replace h := iteO_t h h25
            subst hN
            cases h
            intro he; cases he
            intro hr
            subst hr
            try dsimp only [noGoto, inBlockQ, thenQ]
            repeat (first | refine (if_pos rfl).mpr ?_ | refine (if_neg (by decide)).mpr ?_)
            refine retQ_ret rfl ?_ ?_
            · exact trivial
            · exact rfl
          · replace h := iteO_f h h25
            replace h := chk_some h; obtain ⟨h26, h⟩ := h
            refine ⟨h26, ?_⟩
            subst hN
            cases h
            show ∃ t', _ ∧ GeSt _ _ _
            refine ⟨⟨t'1_c + 12, gfn [], tfn []⟩, Hid.mk_ok (by omega) trivial, ?_⟩
            exact GeSt.of (LeSt.frame (by show (_ : Nat) < _; (try dsimp only [std_eq, stdN]); omega) rfl rfl (And.intro ⟨_, rfl, LeD.refl _⟩
                (And.intro ⟨_, rfl, LeD.refl _⟩
                (And.intro ⟨_, rfl, LeD.refl _⟩
                trivial))) trivial)
        · replace h := iteO_f h h22
          subst hN
          cases h
          intro he; cases he
          show ∃ t', _ ∧ GeSt _ _ _
          refine ⟨⟨t'1_c + 10, gfn [], tfn []⟩, Hid.mk_ok (by omega) trivial, ?_⟩
          exact GeSt.of (LeSt.frame (by show (_ : Nat) < _; (try dsimp only [std_eq, stdN]); omega) rfl rfl trivial trivial)

theorem slices_Clone___int_int__ok (s : (List Int)) (r : (List Int)) (h : slices_Clone___int_int_ s = some r) : PureFn Tryd.prog 44 [(.sl 1 (nvS.len s) false (fun i j => (.v (.int .i64 (nvS.get 0 s i)))))] (.own 1 (nvS.len r) false (fun i j => (.v (.int .i64 (nvS.get 0 r i))))) := by
  unfold slices_Clone___int_int_ at h
  refine fn_tr tt0_ok Tryd.func44 (by kernel_rfl) (c := bodyOf Tryd.f44) (by kernel_rfl) ?_
  intro ctr hc
  refine Tr.pre (cx := ⟨tt0, ⟨fun f => kOf [] f, fun k _ _ _ => orcL [] k, fun t => memN [] t⟩, 0, fun r => ghL [] r⟩) tt0_ok hPm 1 fun N hN => ?_
  generalize hp : std Tryd.prog = p
  generalize hv : nvS = nv
  cbv
  subst hp
  subst hv
  subst hN
  show Tr _ _ _ _
  refine Tr.cutNil (tt := tt0) tt0_ok (t := 41) rfl rfl (x := 0) (a := 3) (d := 4) (by exact ⟨rfl, rfl, rfl⟩) (by exact ⟨rfl, rfl, rfl⟩) (by exact rfl) (by exact (show (3 : Nat) < 8 by decide)) (α := Unit) h (fun _ t' => ⟨frm 8 [(0, .sl 1 (nvS.len s) false (fun i j => (.v (.int .i64 (nvS.get 0 s i)))))] 0, frO 8 [] 0, t'.c⟩) (fun _ t => Hid.ok t) (fun x t' ht' h => ?_) (fun h5 f h => ?_) (fun f h => ?_)
  · obtain ⟨t'_c, t'_g, t'_t⟩ := t'
    have ht'_c : 0 < t'_c := ht'.1
    have ht'_g : ∀ k, t'_g k < t'_c := ht'.2
    refine Tr.chunk (cx := ⟨tt0, ⟨fun f => kOf [] f, fun k _ _ _ => orcL [] k, fun t => memN [5, 7] t⟩, 0, fun r => ghL [] r⟩) tt0_ok hPm fun N hN => ?_
    generalize hp : std Tryd.prog = p
    generalize hv : nvS = nv
    cbv
    subst hp
    subst hv
    replace h := chk_some h; obtain ⟨h4, h⟩ := h
    refine ⟨h4, rfl, rfl, ?_⟩
    subst hN
    have hr := Option.some.inj h
    subst hr
    try dsimp only [noGoto, inBlockQ, thenQ]
    repeat (first | refine (if_pos rfl).mpr ?_ | refine (if_neg (by decide)).mpr ?_)
    refine retQ_ret rfl ?_ ?_
    · exact trivial
    · exact (And.intro (rfl)
          (And.intro (by first | rfl | assumption | (symm; assumption) | ((try dsimp only [std_eq, stdN, nvS]) <;> first | rfl | omega | (simp (disch := first | omega | (simp only [lenL_set, lenL_app, lenL_cons, lenL_nil] <;> omega)) only [lenL_bytes, lenL_set, lenL_app, lenL_cons, lenL_nil, lenL_rep, lenL_sub, lenL_cpy, Int.ofNat_eq_natCast, Int.zero_add, Int.sub_zero] <;> try omega)))
          (And.intro (fun h => by cases h)
          (out0_all (fun i j => out0_int _ _) (fun i i0 i1 j hj => by (try dsimp only [std_eq, stdN, nvS] at i1); (try simp only [Int.ofNat_eq_natCast] at i1); (obtain rfl : j = 0 := (by omega)) <;> (conv => lhs; whnf) <;> (conv => rhs; whnf) <;> (try dsimp only [std_eq, stdN, nvS]) <;> (first | rfl | (simp (disch := first | omega | (simp only [lenL_set, lenL_app, lenL_cons, lenL_nil] <;> omega)) only [getL_bytes, getL_put, getL_app, getL_rep, getL_sub, getL_cpy, Int.zero_add, Int.sub_zero, beq_iff_eq, decide_eq_true_eq, Bool.and_eq_true] <;> first | rfl | (split <;> first | rfl | (simp (disch := first | omega | (simp only [lenL_set, lenL_app, lenL_cons, lenL_nil] <;> omega)) only [getL_one, getL_zero] <;> rfl)) | ((simp only [lenL_app, lenL_cons, lenL_nil, Int.ofNat_eq_natCast]) <;> (repeat' split) <;> first | rfl | (exfalso; omega) | (simp (disch := omega) only [getL_one, getL_zero] <;> rfl) | (congr 3; omega)))))))))
  · show Tr _ _ _ _
    refine Tr.chunk (cx := ⟨tt0, ⟨fun f => kOf [] f, fun k _ _ _ => orcL [] k, fun t => memN [] t⟩, 0, fun r => ghL [] r⟩) tt0_ok hPm fun N hN => ?_
    generalize hp : std Tryd.prog = p
    generalize hv : nvS = nv
    cbv
    subst hp
    subst hv
    refine ⟨fun h6 => ?_, fun h6 => ?_⟩
    · subst hN
      cases h
      intro hr
      subst hr
      try dsimp only [noGoto, inBlockQ, thenQ]
      repeat (first | refine (if_pos rfl).mpr ?_ | refine (if_neg (by decide)).mpr ?_)
      refine retQ_ret rfl ?_ ?_
      · exact trivial
      · exact rfl
    · cases h6
  · show Tr _ _ _ _
    refine Tr.chunk (cx := ⟨tt0, ⟨fun f => kOf [] f, fun k _ _ _ => orcL [] k, fun t => memN [] t⟩, 0, fun r => ghL [] r⟩) tt0_ok hPm fun N hN => ?_
    generalize hp : std Tryd.prog = p
    generalize hv : nvS = nv
    cbv
    subst hp
    subst hv
    refine ⟨fun h7 => ?_, fun h7 => ?_⟩
    · cases h7
    · subst hN
      cases h
      show ∃ t', _ ∧ GeSt _ _ _
      refine ⟨⟨ctr + 10, gfn [], tfn []⟩, Hid.mk_ok (by omega) trivial, ?_⟩
      exact GeSt.of (LeSt.frame (by show (_ : Nat) < _; (try dsimp only [std_eq, stdN]); omega) rfl rfl (And.intro ⟨_, rfl, LeD.refl _⟩
          trivial) trivial)

theorem order_passed_ok (c' : Int) (r : Bool) (h : order_passed c' = some r) : PureFn Tryd.prog 45 [(.v (.int .i64 c'))] ((.v (.bool r))) := by
  unfold order_passed at h
  refine fn_tr tt0_ok Tryd.func45 (by kernel_rfl) (c := bodyOf Tryd.f45) (by kernel_rfl) ?_
  intro ctr hc
  refine Tr.pre (cx := ⟨tt0, ⟨fun f => kOf [] f, fun k _ _ _ => orcL [] k, fun t => memN [] t⟩, 0, fun r => ghL [] r⟩) tt0_ok hPm 1 fun N hN => ?_
  generalize hp : std Tryd.prog = p
  generalize hv : nvS = nv
  cbv
  subst hp
  subst hv
  subst hN
  show Tr _ _ _ _
  refine Tr.cutSeq (α := Unit) h (fun _ t' => ⟨frm 16 [] 0, frO 16 [] 0, t'.c⟩) (fun _ t => Hid.ok t) (fun x t' ht' h => ?_) (fun f h => ?_)
  · obtain ⟨t'_c, t'_g, t'_t⟩ := t'
    have ht'_c : 0 < t'_c := ht'.1
    have ht'_g : ∀ k, t'_g k < t'_c := ht'.2
    refine Tr.chunk (cx := ⟨tt0, ⟨fun f => kOf [] f, fun k _ _ _ => orcL [] k, fun t => memN [] t⟩, 0, fun r => ghL [] r⟩) tt0_ok hPm fun N hN => ?_
    generalize hp : std Tryd.prog = p
    generalize hv : nvS = nv
    cbv
    subst hp
    subst hv
    subst hN
    have hr := Option.some.inj h
    subst hr
    try dsimp only [noGoto, inBlockQ, thenQ]
    repeat (first | refine (if_pos rfl).mpr ?_ | refine (if_neg (by decide)).mpr ?_)
    refine retQ_ret rfl ?_ ?_
    · exact trivial
    · exact rfl
  · refine Tr.pre (cx := ⟨tt0, ⟨fun f => kOf [] f, fun k _ _ _ => orcL [] k, fun t => memN [] t⟩, 0, fun r => ghL [] r⟩) tt0_ok hPm 1 fun N hN => ?_
    generalize hp : std Tryd.prog = p
    generalize hv : nvS = nv
    cbv
    subst hp
    subst hv
    subst hN
    show Tr _ _ _ _
    refine Tr.block ?_
    refine Tr.cutSeq (α := Bool) h (fun v t'1 => ⟨frm 16 [(4, .v (.bool v))] 0, frO 16 [] 0, t'1.c⟩) (fun _ t => Hid.ok t) (fun x t'1 ht'1 h => ?_) (fun f h => ?_)
    · revert h; revert ht'1; revert x; intro v ht'1 h
      obtain ⟨t'1_c, t'1_g, t'1_t⟩ := t'1
      have ht'1_c : 0 < t'1_c := ht'1.1
      have ht'1_g : ∀ k, t'1_g k < t'1_c := ht'1.2
      refine Tr.chunk (cx := ⟨tt0, ⟨fun f => kOf [] f, fun k _ _ _ => orcL [] k, fun t => memN [] t⟩, 0, fun r => ghL [] r⟩) tt0_ok hPm fun N hN => ?_
      generalize hp : std Tryd.prog = p
      generalize hv : nvS = nv
      cbv
      subst hp
      subst hv
      refine ⟨fun h22 => ?_, fun h22 => ?_⟩
      · replace h := iteO_t h h22
        subst hN
        cases h
        intro hr
        subst hr
        try dsimp only [noGoto, inBlockQ, thenQ]
        repeat (first | refine (if_pos rfl).mpr ?_ | refine (if_neg (by decide)).mpr ?_)
        refine retQ_ret rfl ?_ ?_
        · exact trivial
        · exact rfl
      · replace h := iteO_f h h22
        subst hN
        cases h
        show ∃ t', _ ∧ GeSt _ _ _
        refine ⟨⟨t'1_c + 9, gfn [], tfn []⟩, Hid.mk_ok (by omega) trivial, ?_⟩
        exact GeSt.of (LeSt.frame (by show (_ : Nat) < _; (try dsimp only [std_eq, stdN]); omega) rfl rfl trivial trivial)
    · refine Tr.pre (cx := ⟨tt0, ⟨fun f => kOf [] f, fun k _ _ _ => orcL [] k, fun t => memN [] t⟩, 0, fun r => ghL [] r⟩) tt0_ok hPm 1 fun N hN => ?_
      generalize hp : std Tryd.prog = p
      generalize hv : nvS = nv
      cbv
      subst hp
      subst hv
      subst hN
      show Tr _ _ _ _
      refine Tr.cond rfl (fun q hq => by cases hq) (fun h23 => ?_) (fun h23 => ?_)
      · replace h := iteO_t h h23
        refine Tr.chunk (cx := ⟨tt0, ⟨fun f => kOf [] f, fun k _ _ _ => orcL [] k, fun t => memN [] t⟩, 0, fun r => ghL [] r⟩) tt0_ok hPm fun N hN => ?_
        generalize hp : std Tryd.prog = p
        generalize hv : nvS = nv
        cbv
        subst hp
        subst hv
        subst hN
        cases h
        show ∃ t', _ ∧ GeSt _ _ _
        refine ⟨⟨ctr + 12, gfn [], tfn []⟩, Hid.mk_ok (by omega) trivial, ?_⟩
        exact GeSt.of (LeSt.frame (by show (_ : Nat) < _; (try dsimp only [std_eq, stdN]); omega) rfl rfl (And.intro ⟨_, rfl, LeD.refl _⟩
            trivial) trivial)
      · replace h := iteO_f h h23
        refine Tr.pre (cx := ⟨tt0, ⟨fun f => kOf [] f, fun k _ _ _ => orcL [] k, fun t => memN [] t⟩, 0, fun r => ghL [] r⟩) tt0_ok hPm 1 fun N hN => ?_
        generalize hp : std Tryd.prog = p
        generalize hv : nvS = nv
        cbv
        subst hp
        subst hv
        subst hN
        show Tr _ _ _ _
        refine Tr.cond rfl (fun q hq => by cases hq) (fun h24 => ?_) (fun h24 => ?_)
        · replace h := iteO_t h h24
          refine Tr.chunk (cx := ⟨tt0, ⟨fun f => kOf [] f, fun k _ _ _ => orcL [] k, fun t => memN [] t⟩, 0, fun r => ghL [] r⟩) tt0_ok hPm fun N hN => ?_
          generalize hp : std Tryd.prog = p
          generalize hv : nvS = nv
          cbv
          subst hp
          subst hv
          subst hN
          cases h
          show ∃ t', _ ∧ GeSt _ _ _
          refine ⟨⟨ctr + 13, gfn [], tfn []⟩, Hid.mk_ok (by omega) trivial, ?_⟩
          exact GeSt.of (LeSt.frame (by show (_ : Nat) < _; (try dsimp only [std_eq, stdN]); omega) rfl rfl (And.intro ⟨_, rfl, LeD.refl _⟩
              trivial) trivial)
        · replace h := iteO_f h h24
          refine Tr.chunk (cx := ⟨tt0, ⟨fun f => kOf [] f, fun k _ _ _ => orcL [] k, fun t => memN [] t⟩, 0, fun r => ghL [] r⟩) tt0_ok hPm fun N hN => ?_
          generalize hp : std Tryd.prog = p
          generalize hv : nvS = nv
          cbv
          subst hp
          subst hv
          refine ⟨fun h25 => ?_, fun h25 => ?_⟩
          · replace h := iteO_t h h25
            subst hN
            cases h
            show ∃ t', _ ∧ GeSt _ _ _
            refine ⟨⟨ctr + 14, gfn [], tfn []⟩, Hid.mk_ok (by omega) trivial, ?_⟩
            exact GeSt.of (LeSt.frame (by show (_ : Nat) < _; (try dsimp only [std_eq, stdN]); omega) rfl rfl (And.intro ⟨_, rfl, LeD.refl _⟩
                trivial) trivial)
          · replace h := iteO_f h h25
            refine ⟨fun h26 => ?_, fun h26 => ?_⟩
            · replace h := iteO_t h h26
              subst hN
              cases h
              show ∃ t', _ ∧ GeSt _ _ _
              refine ⟨⟨ctr + 15, gfn [], tfn []⟩, Hid.mk_ok (by omega) trivial, ?_⟩
              exact GeSt.of (LeSt.frame (by show (_ : Nat) < _; (try dsimp only [std_eq, stdN]); omega) rfl rfl (And.intro ⟨_, rfl, LeD.refl _⟩
                  trivial) trivial)
            · replace h := iteO_f h h26
              refine ⟨fun h27 => ?_, fun h27 => ?_⟩
              · replace h := iteO_t h h27
                subst hN
                cases h
                show ∃ t', _ ∧ GeSt _ _ _
                refine ⟨⟨ctr + 16, gfn [], tfn []⟩, Hid.mk_ok (by omega) trivial, ?_⟩
                exact GeSt.of (LeSt.frame (by show (_ : Nat) < _; (try dsimp only [std_eq, stdN]); omega) rfl rfl (And.intro ⟨_, rfl, LeD.refl _⟩
                    trivial) trivial)
              · replace h := iteO_f h h27
                refine ⟨fun h28 => ?_, fun h28 => ?_⟩
                · replace h := iteO_t h h28
                  subst hN
                  cases h
                  show ∃ t', _ ∧ GeSt _ _ _
                  refine ⟨⟨ctr + 17, gfn [], tfn []⟩, Hid.mk_ok (by omega) trivial, ?_⟩
                  exact GeSt.of (LeSt.frame (by show (_ : Nat) < _; (try dsimp only [std_eq, stdN]); omega) rfl rfl (And.intro ⟨_, rfl, LeD.refl _⟩
                      trivial) trivial)
                · replace h := iteO_f h h28
                  refine ⟨fun h29 => ?_, fun h29 => ?_⟩
                  · replace h := iteO_t h h29
                    subst hN
                    cases h
                    show ∃ t', _ ∧ GeSt _ _ _
                    refine ⟨⟨ctr + 18, gfn [], tfn []⟩, Hid.mk_ok (by omega) trivial, ?_⟩
                    exact GeSt.of (LeSt.frame (by show (_ : Nat) < _; (try dsimp only [std_eq, stdN]); omega) rfl rfl (And.intro ⟨_, rfl, LeD.refl _⟩
                        trivial) trivial)
                  · replace h := iteO_f h h29
                    refine ⟨fun h30 => ?_, fun h30 => ?_⟩
                    · replace h := iteO_t h h30
                      subst hN
                      cases h
                      show ∃ t', _ ∧ GeSt _ _ _
                      refine ⟨⟨ctr + 19, gfn [], tfn []⟩, Hid.mk_ok (by omega) trivial, ?_⟩
                      exact GeSt.of (LeSt.frame (by show (_ : Nat) < _; (try dsimp only [std_eq, stdN]); omega) rfl rfl (And.intro ⟨_, rfl, LeD.refl _⟩
                          trivial) trivial)
                    · replace h := iteO_f h h30
                      refine ⟨fun h31 => ?_, fun h31 => ?_⟩
                      · replace h := iteO_t h h31
                        subst hN
                        cases h
                        show ∃ t', _ ∧ GeSt _ _ _
                        refine ⟨⟨ctr + 20, gfn [], tfn []⟩, Hid.mk_ok (by omega) trivial, ?_⟩
                        exact GeSt.of (LeSt.frame (by show (_ : Nat) < _; (try dsimp only [std_eq, stdN]); omega) rfl rfl (And.intro ⟨_, rfl, LeD.refl _⟩
                            trivial) trivial)
                      · replace h := iteO_f h h31
                        refine ⟨fun h32 => ?_, fun h32 => ?_⟩
                        · replace h := iteO_t h h32
                          subst hN
                          cases h
                          show ∃ t', _ ∧ GeSt _ _ _
                          refine ⟨⟨ctr + 21, gfn [], tfn []⟩, Hid.mk_ok (by omega) trivial, ?_⟩
                          exact GeSt.of (LeSt.frame (by show (_ : Nat) < _; (try dsimp only [std_eq, stdN]); omega) rfl rfl (And.intro ⟨_, rfl, LeD.refl _⟩
                              trivial) trivial)
                        · replace h := iteO_f h h32
                          subst hN
                          cases h
                          show ∃ t', _ ∧ GeSt _ _ _
                          refine ⟨⟨ctr + 22, gfn [], tfn []⟩, Hid.mk_ok (by omega) trivial, ?_⟩
                          exact GeSt.of (LeSt.frame (by show (_ : Nat) < _; (try dsimp only [std_eq, stdN]); omega) rfl rfl (And.intro ⟨_, rfl, LeD.refl _⟩
                              trivial) trivial)

theorem order_Reset_ok (d' : T_ucd_Data) (r' : (List Int)) (levels : (List Int)) (base : Int) (r : (List Int)) (h : order_Reset d' r' levels base = some r) : PureFn Tryd.prog 25 [(.agg 6 (fun j => (D_ucd_Data nvS d' j))), (.sl 1 (nvS.len r') false (fun i j => (.v (.int .i64 (nvS.get 0 r' i))))), (.sl 1 (nvS.len levels) false (fun i j => (.v (.int .i64 (nvS.get 0 levels i))))), (.v (.int .i64 base))] (.own 1 (nvS.len r) false (fun i j => (.v (.int .i64 (nvS.get 0 r i))))) := by
  unfold order_Reset at h
  refine fn_tr tt0_ok Tryd.func25 (by kernel_rfl) (c := bodyOf Tryd.f25) (by kernel_rfl) ?_
  intro ctr hc
  obtain ⟨v, h1⟩ : ∃ v, valO [] (slices_Clone___int_int_ levels) = v := ⟨_, rfl⟩
  refine Tr.pre (cx := ⟨tt0, ⟨fun f => kOf [(44, 1)] f, fun k _ _ _ => orcL [(14, .own 1 (nvS.len v) false (fun i j => (.v (.int .i64 (nvS.get 0 v i)))))] k, fun t => memN [] t⟩, 0, fun r => ghL [] r⟩) tt0_ok hPm 4 fun N hN => ?_
  generalize hp : std Tryd.prog = p
  generalize hv : nvS = nv
  cbv
  subst hp
  subst hv
  replace h := bindO_val h1 h; clear h1; obtain ⟨h1, h⟩ := h
  refine ⟨(Or.inl (PureFn.arg (slices_Clone___int_int__ok levels v h1) (And.intro (LeD.refl _)
      trivial))), ?_⟩
  refine ⟨fun h2 => ?_, fun h2 => ?_⟩
  · replace h := iteO_t h h2
    subst hN
    have hr := Option.some.inj h
    subst hr
    try dsimp only [noGoto, inBlockQ, thenQ]
    repeat (first | refine (if_pos rfl).mpr ?_ | refine (if_neg (by decide)).mpr ?_)
    refine retQ_ret rfl ?_ ?_
    · exact trivial
    · exact (And.intro (rfl)
          (And.intro (by first | rfl | assumption | (symm; assumption) | ((try dsimp only [std_eq, stdN, nvS]) <;> first | rfl | omega | (simp (disch := first | omega | (simp only [lenL_set, lenL_app, lenL_cons, lenL_nil] <;> omega)) only [lenL_bytes, lenL_set, lenL_app, lenL_cons, lenL_nil, lenL_rep, lenL_sub, lenL_cpy, Int.ofNat_eq_natCast, Int.zero_add, Int.sub_zero] <;> try omega)))
          (And.intro (fun h => by cases h)
          (out0_all (fun i j => out0_int _ _) (fun i i0 i1 j hj => by (try dsimp only [std_eq, stdN, nvS] at i1); (try simp only [Int.ofNat_eq_natCast] at i1); (obtain rfl : j = 0 := (by omega)) <;> (conv => lhs; whnf) <;> (conv => rhs; whnf) <;> (try dsimp only [std_eq, stdN, nvS]) <;> (first | rfl | (simp (disch := first | omega | (simp only [lenL_set, lenL_app, lenL_cons, lenL_nil] <;> omega)) only [getL_bytes, getL_put, getL_app, getL_rep, getL_sub, getL_cpy, Int.zero_add, Int.sub_zero, beq_iff_eq, decide_eq_true_eq, Bool.and_eq_true] <;> first | rfl | (split <;> first | rfl | (simp (disch := first | omega | (simp only [lenL_set, lenL_app, lenL_cons, lenL_nil] <;> omega)) only [getL_one, getL_zero] <;> rfl)) | ((simp only [lenL_app, lenL_cons, lenL_nil, Int.ofNat_eq_natCast]) <;> (repeat' split) <;> first | rfl | (exfalso; omega) | (simp (disch := omega) only [getL_one, getL_zero] <;> rfl) | (congr 3; omega)))))))))
  · replace h := iteO_f h h2
    subst hN
    show Tr _ _ _ _
    refine Tr.cutSeq (α := List Int) h (fun out t' => ⟨frm 56 [(9, .vec 14 (t'.g 14) 1 0 (nvS.len v))] 0, frO 56 [(14, .arr (t'.g 14) 1 (nvS.len v) (t'.t 14) (fun i j => (.v (.int .i64 (nvS.get 0 out i)))))] 0, t'.c⟩) (fun out t => Hid.ok t ∧ lenL out = (lenL v)) (fun x t' ht' h => ?_) (fun f h => ?_)
    · revert h; revert ht'; revert x; intro out ht' h
      obtain ⟨ht', ht'_f0⟩ := ht'
      obtain ⟨t'_c, t'_g, t'_t⟩ := t'
      have ht'_c : 0 < t'_c := ht'.1
      have ht'_g : ∀ k, t'_g k < t'_c := ht'.2
      refine Tr.chunk (cx := ⟨tt0, ⟨fun f => kOf [] f, fun k _ _ _ => orcL [] k, fun t => memN [] t⟩, 0, fun r => ghL [] r⟩) tt0_ok hPm fun N hN => ?_
      generalize hp : std Tryd.prog = p
      generalize hv : nvS = nv
      cbv
      subst hp
      subst hv
      subst hN
      have hr := Option.some.inj h
      subst hr
      try dsimp only [noGoto, inBlockQ, thenQ]
      repeat (first | refine (if_pos rfl).mpr ?_ | refine (if_neg (by decide)).mpr ?_)
      refine retQ_ret rfl ?_ ?_
      · exact trivial
      · exact (And.intro (rfl)
            (And.intro (by first | rfl | assumption | (symm; assumption) | ((try dsimp only [std_eq, stdN, nvS]) <;> first | rfl | omega | (simp (disch := first | omega | (simp only [lenL_set, lenL_app, lenL_cons, lenL_nil] <;> omega)) only [lenL_bytes, lenL_set, lenL_app, lenL_cons, lenL_nil, lenL_rep, lenL_sub, lenL_cpy, Int.ofNat_eq_natCast, Int.zero_add, Int.sub_zero] <;> try omega)))
            (And.intro (fun h => by cases h)
            (out0_all (fun i j => out0_int _ _) (fun i i0 i1 j hj => by (try dsimp only [std_eq, stdN, nvS] at i1); (try simp only [Int.ofNat_eq_natCast] at i1); (obtain rfl : j = 0 := (by omega)) <;> (conv => lhs; whnf) <;> (conv => rhs; whnf) <;> (try dsimp only [std_eq, stdN, nvS]) <;> (first | rfl | (simp (disch := first | omega | (simp only [lenL_set, lenL_app, lenL_cons, lenL_nil] <;> omega)) only [getL_bytes, getL_put, getL_app, getL_rep, getL_sub, getL_cpy, Int.zero_add, Int.sub_zero, beq_iff_eq, decide_eq_true_eq, Bool.and_eq_true] <;> first | rfl | (split <;> first | rfl | (simp (disch := first | omega | (simp only [lenL_set, lenL_app, lenL_cons, lenL_nil] <;> omega)) only [getL_one, getL_zero] <;> rfl)) | ((simp only [lenL_app, lenL_cons, lenL_nil, Int.ofNat_eq_natCast]) <;> (repeat' split) <;> first | rfl | (exfalso; omega) | (simp (disch := omega) only [getL_one, getL_zero] <;> rfl) | (congr 3; omega)))))))))
    · refine Tr.pre (cx := ⟨tt0, ⟨fun f => kOf [] f, fun k _ _ _ => orcL [] k, fun t => memN [] t⟩, 0, fun r => ghL [] r⟩) tt0_ok hPm 1 fun N hN => ?_
      generalize hp : std Tryd.prog = p
      generalize hv : nvS = nv
      cbv
      subst hp
      subst hv
      replace h := chk_some h; obtain ⟨h29, h⟩ := h
      refine ⟨h29, ?_⟩
      subst hN
      show Tr _ _ _ _
      refine Tr.block ?_
      refine Tr.loopO (α := Bool × Int × List Int) (fun (end', i1, out1) t'1 => ⟨frm 56 [(1, .sl 1 (nvS.len r') false (fun i j => (.v (.int .i64 (nvS.get 0 r' i))))), (3, .v (.int .i64 base)), (4, .bref 4 (t'1.g 4) 0), (9, .vec 14 (t'1.g 14) 1 0 (nvS.len v)), (10, .v (.bool end')), (11, .v (.int .i64 i1))] 0, frO 56 [(4, .box (t'1.g 4) [.sl 3 (nvS.len d'.fClass.fL) false (fun i j => (D_ranges_Row nvS (nvS.get d_ranges_Row d'.fClass.fL i) j)), .sl 3 (nvS.len d'.fWide.fL) false (fun i j => (D_ranges_Row nvS (nvS.get d_ranges_Row d'.fWide.fL i) j)), .sl 3 (nvS.len d'.fJoin.fL) false (fun i j => (D_ranges_Row nvS (nvS.get d_ranges_Row d'.fJoin.fL i) j)), .sl 2 (nvS.len d'.fMirror) false (fun i j => (D_ucd_Pair nvS (nvS.get d_ucd_Pair d'.fMirror i) j)), .sl 2 (nvS.len d'.fBrackets) false (fun i j => (D_ucd_Pair nvS (nvS.get d_ucd_Pair d'.fBrackets i) j)), .sl 3 (nvS.len d'.fForms) false (fun i j => (D_ucd_Form nvS (nvS.get d_ucd_Form d'.fForms i) j))]), (14, .arr (t'1.g 14) 1 (nvS.len v) (t'1.t 14) (fun i j => (.v (.int .i64 (nvS.get 0 out1 i)))))] 0, t'1.c⟩) (fun (end', i1, out1) t => Hid.ok t ∧ lenL out1 = (lenL v)) ⟨ctr + 14, gfn [(4, ctr + 0), (14, ctr + 1)], tfn [(4, false), (14, false)]⟩ h ?_ ?_ (fun x t'1 f ht'1 h => ?_)
      · exact (And.intro (Hid.mk_ok (by omega) (And.intro (by omega)
            (And.intro (by omega)
            trivial)))
            (by first | rfl | assumption | (symm; assumption) | ((try dsimp only [std_eq, stdN, nvS]) <;> first | rfl | omega | (simp (disch := first | omega | (simp only [lenL_set, lenL_app, lenL_cons, lenL_nil] <;> omega)) only [lenL_bytes, lenL_set, lenL_app, lenL_cons, lenL_nil, lenL_rep, lenL_sub, lenL_cpy, Int.ofNat_eq_natCast, Int.zero_add, Int.sub_zero] <;> try omega))))
      · exact GeSt.of (LeSt.frame (by show (_ : Nat) < _; (try dsimp only [std_eq, stdN]); omega) rfl rfl (And.intro ⟨_, rfl, LeD.refl _⟩
            (And.intro ⟨_, rfl, LeD.refl _⟩
            (And.intro ⟨_, rfl, LeD.refl _⟩
            (And.intro ⟨_, rfl, LeD.refl _⟩
            (And.intro ⟨_, rfl, LeD.refl _⟩
            (And.intro ⟨_, rfl, LeD.refl _⟩
            trivial)))))) (And.intro ⟨_, rfl, LeOb.box (And.intro (LeD.refl _)
            (And.intro (LeD.refl _)
            (And.intro (LeD.refl _)
            (And.intro (LeD.refl _)
            (And.intro (LeD.refl _)
            (And.intro (LeD.refl _)
            trivial))))))⟩
            (And.intro ⟨_, rfl, LeOb.refl _⟩
            trivial)))
      · obtain ⟨end', i1, out1⟩ := x
        obtain ⟨ht'1, ht'1_f0⟩ := ht'1
        obtain ⟨t'1_c, t'1_g, t'1_t⟩ := t'1
        have ht'1_c : 0 < t'1_c := ht'1.1
        have ht'1_g : ∀ k, t'1_g k < t'1_c := ht'1.2
        obtain ⟨v1, h57⟩ : ∃ v1, valO 0 (ucd_Class d' (getL 0 r' i1)) = v1 := ⟨_, rfl⟩
        obtain ⟨v2, h61⟩ : ∃ v2, valO false (order_passed v1) = v2 := ⟨_, rfl⟩
        refine Tr.chunk (cx := ⟨tt0, ⟨fun f => kOf [] f, fun k _ _ _ => orcL [(33, .plain (.v (.int .i64 v1))), (47, .plain (.v (.bool v2)))] k, fun t => memN [] t⟩, 0, fun r => ghL [] r⟩) tt0_ok hPm fun N hN => ?_
        generalize hp : std Tryd.prog = p
        generalize hv : nvS = nv
        cbv
        subst hp
        subst hv
        refine ⟨fun h55 => ?_, fun h55 => ?_⟩
        · replace h := iteO_t h h55
          replace h := chk_some h; obtain ⟨h56, h⟩ := h
          replace h := bindO_val h57 h; clear h57; obtain ⟨h57, h⟩ := h
          refine ⟨rfl, h56, (Or.inl (PureFn.arg (ucd_Class_ok d' (getL 0 r' i1) v1 h57) (And.intro (LeD.agg fun j hj => by
                have hj2 : j < 6 := hj
                rcases (show j = 0 ∨ j = 1 ∨ j = 2 ∨ j = 3 ∨ j = 4 ∨ j = 5 by omega) with rfl | rfl | rfl | rfl | rfl | rfl
                · exact LeD.refl _
                · exact LeD.refl _
                · exact LeD.refl _
                · exact LeD.refl _
                · exact LeD.refl _
                · exact LeD.refl _)
              (And.intro (LeD.refl _)
              trivial)))), (show drOk _ _ = true by kernel_rfl), ?_⟩
          refine ⟨(fun hg => hg), (fun hg => hg), ?_⟩
          refine ⟨fun h58 => ?_, fun h58 => ?_⟩
          · replace h := iteO_t h h58
            replace h := chk_some h; obtain ⟨h59, h⟩ := h
            refine ⟨h59, rfl, ?_⟩
            replace h := chk_some h; obtain ⟨h60, h⟩ := h
            refine ⟨h60, ?_⟩
            subst hN
            cases h
            show ∃ t', _ ∧ GeSt _ _ _
            refine ⟨⟨t'1_c + 15, gfn [(4, t'1_g 4), (14, t'1_g 14)], tfn [(4, false), (14, t'1_t 14)]⟩, (And.intro (Hid.mk_ok (by omega) (And.intro (by have := ht'1_g 4; omega)
                (And.intro (by have := ht'1_g 14; omega)
                trivial)))
                (by first | rfl | assumption | (symm; assumption) | ((try dsimp only [std_eq, stdN, nvS]) <;> first | rfl | omega | (simp (disch := first | omega | (simp only [lenL_set, lenL_app, lenL_cons, lenL_nil] <;> omega)) only [lenL_bytes, lenL_set, lenL_app, lenL_cons, lenL_nil, lenL_rep, lenL_sub, lenL_cpy, Int.ofNat_eq_natCast, Int.zero_add, Int.sub_zero] <;> try omega)))), ?_⟩
            exact GeSt.of (LeSt.frame (by show (_ : Nat) < _; (try dsimp only [std_eq, stdN]); omega) rfl rfl (And.intro ⟨_, rfl, LeD.refl _⟩
                (And.intro ⟨_, rfl, LeD.refl _⟩
                (And.intro ⟨_, rfl, LeD.refl _⟩
                (And.intro ⟨_, rfl, LeD.refl _⟩
                (And.intro ⟨_, rfl, LeD.refl _⟩
                (And.intro ⟨_, rfl, LeD.refl _⟩
                trivial)))))) (And.intro ⟨_, rfl, LeOb.box (And.intro (LeD.refl _)
                (And.intro (LeD.refl _)
                (And.intro (LeD.refl _)
                (And.intro (LeD.refl _)
                (And.intro (LeD.refl _)
                (And.intro (LeD.refl _)
                trivial))))))⟩
                (And.intro ⟨_, rfl, LeOb.arrE (by first | rfl | assumption | (symm; assumption) | ((try dsimp only [std_eq, stdN, nvS]) <;> first | rfl | omega | (simp (disch := first | omega | (simp only [lenL_set, lenL_app, lenL_cons, lenL_nil] <;> omega)) only [lenL_bytes, lenL_set, lenL_app, lenL_cons, lenL_nil, lenL_rep, lenL_sub, lenL_cpy, Int.ofNat_eq_natCast, Int.zero_add, Int.sub_zero] <;> try omega))) (fun i i0 i1 j hj => by (try dsimp only [std_eq, stdN, nvS] at i1); (try simp only [Int.ofNat_eq_natCast] at i1); (obtain rfl : j = 0 := (by omega)) <;> (conv => lhs; whnf) <;> (conv => rhs; whnf) <;> (try dsimp only [std_eq, stdN, nvS]) <;> (first | rfl | (simp (disch := first | omega | (simp only [lenL_set, lenL_app, lenL_cons, lenL_nil] <;> omega)) only [getL_bytes, getL_put, getL_app, getL_rep, getL_sub, getL_cpy, Int.zero_add, Int.sub_zero, beq_iff_eq, decide_eq_true_eq, Bool.and_eq_true] <;> first | rfl | (split <;> first | rfl | (simp (disch := first | omega | (simp only [lenL_set, lenL_app, lenL_cons, lenL_nil] <;> omega)) only [getL_one, getL_zero] <;> rfl)) | ((simp only [lenL_app, lenL_cons, lenL_nil, Int.ofNat_eq_natCast]) <;> (repeat' split) <;> first | rfl | (exfalso; omega) | (simp (disch := omega) only [getL_one, getL_zero] <;> rfl) | (congr 3; omega)))))⟩
                trivial)))
          · replace h := iteO_f h h58
            replace h := bindO_val h61 h; clear h61; obtain ⟨h61, h⟩ := h
            refine ⟨(Or.inl (PureFn.arg (order_passed_ok v1 v2 h61) (And.intro (LeD.refl _)
                trivial))), ?_⟩
            refine ⟨fun h62 => ?_, fun h62 => ?_⟩
            · replace h := iteO_t h h62
              replace h := chk_some h; obtain ⟨h63, h⟩ := h
              refine ⟨h63, ?_⟩
              subst hN
              cases h
              show ∃ t', _ ∧ GeSt _ _ _
              refine ⟨⟨t'1_c + 15, gfn [(4, t'1_g 4), (14, t'1_g 14)], tfn [(4, false), (14, t'1_t 14)]⟩, (And.intro (Hid.mk_ok (by omega) (And.intro (by have := ht'1_g 4; omega)
                  (And.intro (by have := ht'1_g 14; omega)
                  trivial)))
                  (by first | rfl | assumption | (symm; assumption) | ((try dsimp only [std_eq, stdN, nvS]) <;> first | rfl | omega | (simp (disch := first | omega | (simp only [lenL_set, lenL_app, lenL_cons, lenL_nil] <;> omega)) only [lenL_bytes, lenL_set, lenL_app, lenL_cons, lenL_nil, lenL_rep, lenL_sub, lenL_cpy, Int.ofNat_eq_natCast, Int.zero_add, Int.sub_zero] <;> try omega)))), ?_⟩
              exact GeSt.of (LeSt.frame (by show (_ : Nat) < _; (try dsimp only [std_eq, stdN]); omega) rfl rfl (And.intro ⟨_, rfl, LeD.refl _⟩
                  (And.intro ⟨_, rfl, LeD.refl _⟩
                  (And.intro ⟨_, rfl, LeD.refl _⟩
                  (And.intro ⟨_, rfl, LeD.refl _⟩
                  (And.intro ⟨_, rfl, LeD.refl _⟩
                  (And.intro ⟨_, rfl, LeD.refl _⟩
                  trivial)))))) (And.intro ⟨_, rfl, LeOb.box (And.intro (LeD.refl _)
                  (And.intro (LeD.refl _)
                  (And.intro (LeD.refl _)
                  (And.intro (LeD.refl _)
                  (And.intro (LeD.refl _)
                  (And.intro (LeD.refl _)
                  trivial))))))⟩
                  (And.intro ⟨_, rfl, LeOb.refl _⟩
                  trivial)))
            · replace h := iteO_f h h62
              refine ⟨fun h64 => ?_, fun h64 => ?_⟩
              · replace h := iteO_t h h64
                replace h := chk_some h; obtain ⟨h65, h⟩ := h
                refine ⟨h65, rfl, ?_⟩
                replace h := chk_some h; obtain ⟨h66, h⟩ := h
                refine ⟨h66, ?_⟩
                subst hN
                cases h
                show ∃ t', _ ∧ GeSt _ _ _
                refine ⟨⟨t'1_c + 16, gfn [(4, t'1_g 4), (14, t'1_g 14)], tfn [(4, false), (14, t'1_t 14)]⟩, (And.intro (Hid.mk_ok (by omega) (And.intro (by have := ht'1_g 4; omega)
                    (And.intro (by have := ht'1_g 14; omega)
                    trivial)))
                    (by first | rfl | assumption | (symm; assumption) | ((try dsimp only [std_eq, stdN, nvS]) <;> first | rfl | omega | (simp (disch := first | omega | (simp only [lenL_set, lenL_app, lenL_cons, lenL_nil] <;> omega)) only [lenL_bytes, lenL_set, lenL_app, lenL_cons, lenL_nil, lenL_rep, lenL_sub, lenL_cpy, Int.ofNat_eq_natCast, Int.zero_add, Int.sub_zero] <;> try omega)))), ?_⟩
                exact GeSt.of (LeSt.frame (by show (_ : Nat) < _; (try dsimp only [std_eq, stdN]); omega) rfl rfl (And.intro ⟨_, rfl, LeD.refl _⟩
                    (And.intro ⟨_, rfl, LeD.refl _⟩
                    (And.intro ⟨_, rfl, LeD.refl _⟩
                    (And.intro ⟨_, rfl, LeD.refl _⟩
                    (And.intro ⟨_, rfl, LeD.refl _⟩
                    (And.intro ⟨_, rfl, LeD.refl _⟩
                    trivial)))))) (And.intro ⟨_, rfl, LeOb.box (And.intro (LeD.refl _)
                    (And.intro (LeD.refl _)
                    (And.intro (LeD.refl _)
                    (And.intro (LeD.refl _)
                    (And.intro (LeD.refl _)
                    (And.intro (LeD.refl _)
                    trivial))))))⟩
                    (And.intro ⟨_, rfl, LeOb.arrE (by first | rfl | assumption | (symm; assumption) | ((try dsimp only [std_eq, stdN, nvS]) <;> first | rfl | omega | (simp (disch := first | omega | (simp only [lenL_set, lenL_app, lenL_cons, lenL_nil] <;> omega)) only [lenL_bytes, lenL_set, lenL_app, lenL_cons, lenL_nil, lenL_rep, lenL_sub, lenL_cpy, Int.ofNat_eq_natCast, Int.zero_add, Int.sub_zero] <;> try omega))) (fun i i0 i1 j hj => by (try dsimp only [std_eq, stdN, nvS] at i1); (try simp only [Int.ofNat_eq_natCast] at i1); (obtain rfl : j = 0 := (by omega)) <;> (conv => lhs; whnf) <;> (conv => rhs; whnf) <;> (try dsimp only [std_eq, stdN, nvS]) <;> (first | rfl | (simp (disch := first | omega | (simp only [lenL_set, lenL_app, lenL_cons, lenL_nil] <;> omega)) only [getL_bytes, getL_put, getL_app, getL_rep, getL_sub, getL_cpy, Int.zero_add, Int.sub_zero, beq_iff_eq, decide_eq_true_eq, Bool.and_eq_true] <;> first | rfl | (split <;> first | rfl | (simp (disch := first | omega | (simp only [lenL_set, lenL_app, lenL_cons, lenL_nil] <;> omega)) only [getL_one, getL_zero] <;> rfl)) | ((simp only [lenL_app, lenL_cons, lenL_nil, Int.ofNat_eq_natCast]) <;> (repeat' split) <;> first | rfl | (exfalso; omega) | (simp (disch := omega) only [getL_one, getL_zero] <;> rfl) | (congr 3; omega)))))⟩
                    trivial)))
              · replace h := iteO_f h h64
                replace h := chk_some h; obtain ⟨h67, h⟩ := h
                refine ⟨h67, ?_⟩
                subst hN
                cases h
                show ∃ t', _ ∧ GeSt _ _ _
                refine ⟨⟨t'1_c + 15, gfn [(4, t'1_g 4), (14, t'1_g 14)], tfn [(4, false), (14, t'1_t 14)]⟩, (And.intro (Hid.mk_ok (by omega) (And.intro (by have := ht'1_g 4; omega)
                    (And.intro (by have := ht'1_g 14; omega)
                    trivial)))
                    (by first | rfl | assumption | (symm; assumption) | ((try dsimp only [std_eq, stdN, nvS]) <;> first | rfl | omega | (simp (disch := first | omega | (simp only [lenL_set, lenL_app, lenL_cons, lenL_nil] <;> omega)) only [lenL_bytes, lenL_set, lenL_app, lenL_cons, lenL_nil, lenL_rep, lenL_sub, lenL_cpy, Int.ofNat_eq_natCast, Int.zero_add, Int.sub_zero] <;> try omega)))), ?_⟩
                exact GeSt.of (LeSt.frame (by show (_ : Nat) < _; (try dsimp only [std_eq, stdN]); omega) rfl rfl (And.intro ⟨_, rfl, LeD.refl _⟩
                    (And.intro ⟨_, rfl, LeD.refl _⟩
                    (And.intro ⟨_, rfl, LeD.refl _⟩
                    (And.intro ⟨_, rfl, LeD.refl _⟩
                    (And.intro ⟨_, rfl, LeD.refl _⟩
                    (And.intro ⟨_, rfl, LeD.refl _⟩
                    trivial)))))) (And.intro ⟨_, rfl, LeOb.box (And.intro (LeD.refl _)
                    (And.intro (LeD.refl _)
                    (And.intro (LeD.refl _)
                    (And.intro (LeD.refl _)
                    (And.intro (LeD.refl _)
                    (And.intro (LeD.refl _)
                    trivial))))))⟩
                    (And.intro ⟨_, rfl, LeOb.refl _⟩
                    trivial)))
        · replace h := iteO_f h h55
          subst hN
          cases h
          intro he; cases he
          show ∃ t', _ ∧ GeSt _ _ _
          refine ⟨⟨t'1_c + 10, gfn [(14, t'1_g 14)], tfn [(14, t'1_t 14)]⟩, (And.intro (Hid.mk_ok (by omega) (And.intro (by have := ht'1_g 14; omega)
              trivial))
              (by first | rfl | assumption | (symm; assumption) | ((try dsimp only [std_eq, stdN, nvS]) <;> first | rfl | omega | (simp (disch := first | omega | (simp only [lenL_set, lenL_app, lenL_cons, lenL_nil] <;> omega)) only [lenL_bytes, lenL_set, lenL_app, lenL_cons, lenL_nil, lenL_rep, lenL_sub, lenL_cpy, Int.ofNat_eq_natCast, Int.zero_add, Int.sub_zero] <;> try omega)))), ?_⟩
          exact GeSt.of (LeSt.frame (by show (_ : Nat) < _; (try dsimp only [std_eq, stdN]); omega) rfl rfl (And.intro ⟨_, rfl, LeD.refl _⟩
              trivial) (And.intro ⟨_, rfl, LeOb.refl _⟩
              trivial))

theorem lapwinglaw19_awake_ok  (r : Bool) (h : lapwinglaw19_awake = some r) : PureFn Tryd.prog 24 [] ((.v (.bool r))) := by
  unfold lapwinglaw19_awake at h
  refine fn_tr tt0_ok Tryd.func24 (by kernel_rfl) (c := bodyOf Tryd.f24) (by kernel_rfl) ?_
  intro ctr hc
  obtain ⟨v, h1⟩ : ∃ v, valO ([], false) (order_Invert ([2, 0, 1] : List Int)) = v := ⟨_, rfl⟩
  obtain ⟨v1, h2⟩ : ∃ v1, valO [] (if v.2 = true then order_Visual ([0, 1, 1, 0] : List Int) else some []) = v1 := ⟨_, rfl⟩
  obtain ⟨v2, h3⟩ : ∃ v2, valO false (if v.2 = true then lapwingref03_Ints v1 ([0, 2, 1, 3] : List Int) else some false) = v2 := ⟨_, rfl⟩
  obtain ⟨v3, h4⟩ : ∃ v3, valO false (if (if v.2 = true then v2 else false) = true then lapwingref03_Ints v.1 ([1, 2, 0] : List Int) else some false) = v3 := ⟨_, rfl⟩
  refine Tr.chunk (cx := ⟨tt0, ⟨fun f => kOf [] f, fun k _ _ _ => orcL [(5, .plain (.tup 2 (fun j => match j with | 0 => (.sl 1 (nvS.len v.1) false (fun i j => (.v (.int .i64 (nvS.get 0 v.1 i))))) | 1 => (.v (.bool v.2)) | _ => .junk))), (11, .plain (.sl 1 (nvS.len v1) false (fun i j => (.v (.int .i64 (nvS.get 0 v1 i)))))), (13, .plain (.v (.bool v2))), (18, .plain (.v (.bool v3)))] k, fun t => memN [4, 10, 12, 17] t⟩, 0, fun r => ghL [] r⟩) tt0_ok hPm fun N hN => ?_
  generalize hp : std Tryd.prog = p
  generalize hv : nvS = nv
  cbv
  subst hp
  subst hv
  replace h := bindO_val h1 h; clear h1; obtain ⟨h1, h⟩ := h
  refine ⟨(Or.inl (PureFn.arg (order_Invert_ok ([2, 0, 1] : List Int) v h1) (And.intro (LeD.slE (by first | rfl | assumption | (symm; assumption) | ((try dsimp only [std_eq, stdN, nvS]) <;> first | rfl | omega | (simp (disch := first | omega | (simp only [lenL_set, lenL_app, lenL_cons, lenL_nil] <;> omega)) only [lenL_bytes, lenL_set, lenL_app, lenL_cons, lenL_nil, lenL_rep, lenL_sub, lenL_cpy, Int.ofNat_eq_natCast, Int.zero_add, Int.sub_zero] <;> try omega))) (fun i i0 i1 j hj => by have i2 : i < 3 := i1; (rcases (show i = 0 ∨ i = 1 ∨ i = 2 by omega) with rfl | rfl | rfl) <;> (obtain rfl : j = 0 := (by omega)) <;> rfl))
      trivial))), ?_⟩
  replace h := bindO_val h2 h; clear h2; obtain ⟨h2, h⟩ := h
  replace h := bindO_val h3 h; clear h3; obtain ⟨h3, h⟩ := h
  replace h := bindO_val h4 h; clear h4; obtain ⟨h4, h⟩ := h
  refine ⟨(fun hg => hg), (fun hg => by have h2 := guardO h2 hg; exact (Or.inl (PureFn.arg (PureFn.sl (order_Visual_ok ([0, 1, 1, 0] : List Int) v1 h2)) (And.intro (LeD.slE (by first | rfl | assumption | (symm; assumption) | ((try dsimp only [std_eq, stdN, nvS]) <;> first | rfl | omega | (simp (disch := first | omega | (simp only [lenL_set, lenL_app, lenL_cons, lenL_nil] <;> omega)) only [lenL_bytes, lenL_set, lenL_app, lenL_cons, lenL_nil, lenL_rep, lenL_sub, lenL_cpy, Int.ofNat_eq_natCast, Int.zero_add, Int.sub_zero] <;> try omega))) (fun i i0 i1 j hj => by have i2 : i < 4 := i1; (rcases (show i = 0 ∨ i = 1 ∨ i = 2 ∨ i = 3 by omega) with rfl | rfl | rfl | rfl) <;> (obtain rfl : j = 0 := (by omega)) <;> rfl))
      trivial)))), (fun hg => hg), (fun hg => hg), (fun hg => by have h3 := guardO h3 hg; exact (Or.inl (PureFn.arg (lapwingref03_Ints_ok v1 ([0, 2, 1, 3] : List Int) v2 h3) (And.intro (LeD.refl _)
      (And.intro (LeD.slE (by first | rfl | assumption | (symm; assumption) | ((try dsimp only [std_eq, stdN, nvS]) <;> first | rfl | omega | (simp (disch := first | omega | (simp only [lenL_set, lenL_app, lenL_cons, lenL_nil] <;> omega)) only [lenL_bytes, lenL_set, lenL_app, lenL_cons, lenL_nil, lenL_rep, lenL_sub, lenL_cpy, Int.ofNat_eq_natCast, Int.zero_add, Int.sub_zero] <;> try omega))) (fun i i0 i1 j hj => by have i2 : i < 4 := i1; (rcases (show i = 0 ∨ i = 1 ∨ i = 2 ∨ i = 3 by omega) with rfl | rfl | rfl | rfl) <;> (obtain rfl : j = 0 := (by omega)) <;> rfl))
      trivial))))), (fun hg => hg), (fun hg => hg), (fun hg => hg), (fun hg => by have h4 := guardO h4 hg; exact (Or.inl (PureFn.arg (lapwingref03_Ints_ok v.1 ([1, 2, 0] : List Int) v3 h4) (And.intro (LeD.refl _)
      (And.intro (LeD.slE (by first | rfl | assumption | (symm; assumption) | ((try dsimp only [std_eq, stdN, nvS]) <;> first | rfl | omega | (simp (disch := first | omega | (simp only [lenL_set, lenL_app, lenL_cons, lenL_nil] <;> omega)) only [lenL_bytes, lenL_set, lenL_app, lenL_cons, lenL_nil, lenL_rep, lenL_sub, lenL_cpy, Int.ofNat_eq_natCast, Int.zero_add, Int.sub_zero] <;> try omega))) (fun i i0 i1 j hj => by have i2 : i < 3 := i1; (rcases (show i = 0 ∨ i = 1 ∨ i = 2 by omega) with rfl | rfl | rfl) <;> (obtain rfl : j = 0 := (by omega)) <;> rfl))
      trivial))))), (fun hg => hg), ?_⟩
  subst hN
  have hr := Option.some.inj h
  subst hr
  try dsimp only [noGoto, inBlockQ, thenQ]
  repeat (first | refine (if_pos rfl).mpr ?_ | refine (if_neg (by decide)).mpr ?_)
  refine retQ_ret rfl ?_ ?_
  · exact trivial
  · exact rfl
end Go.Vx
