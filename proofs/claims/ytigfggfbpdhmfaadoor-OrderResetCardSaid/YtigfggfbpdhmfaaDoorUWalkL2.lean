/- Walks, by program (lift.py). -/
import Derived.Test.YtigfggfbpdhmfaaDoorUWalk
import Derived.Test.YtigfggfbpdhmfaaDoorUWalkL1
set_option linter.all false
namespace Go.Vx
open Go.Proofs
set_option maxRecDepth 100000
set_option linter.unusedVariables false
set_option linter.unusedSimpArgs false

theorem strings_Fields_ok (s : ByteArray) (r : (List ByteArray)) (h : strings_Fields s = some r) : PureFn Tryd.prog 51 [(.v (.string s))] (.own 1 (nvS.len r) false (fun i j => (.v (.string (nvS.get ByteArray.empty r i))))) := by
  unfold strings_Fields at h
  refine fn_tr tt0_ok Tryd.func51 (by kernel_rfl) (c := bodyOf Tryd.f51) (by kernel_rfl) ?_
  intro ctr hc
  refine Tr.pre (cx := ⟨tt0, ⟨fun f => kOf [] f, fun k _ _ _ => orcL [] k, fun t => memN [] t⟩, 0, fun r => ghL [] r⟩) tt0_ok hPm 4 fun N hN => ?_
  generalize hp : std Tryd.prog = p
  generalize hv : nvS = nv
  cbv
  subst hp
  subst hv
  subst hN
  show Tr _ _ _ _
  refine Tr.cutSeq (α := Int × Int) h (fun (n, setBits) t' => ⟨frm 106 [(0, .v (.string s)), (3, .v (.int .i64 n)), (5, .v (.int .u8 setBits))] 0, frO 106 [] 0, t'.c⟩) (fun _ t => Hid.ok t) (fun x t' ht' h => ?_) (fun f h => ?_)
  · obtain ⟨n, setBits⟩ := x
    obtain ⟨t'_c, t'_g, t'_t⟩ := t'
    have ht'_c : 0 < t'_c := ht'.1
    have ht'_g : ∀ k, t'_g k < t'_c := ht'.2
    refine Tr.pre (cx := ⟨tt0, ⟨fun f => kOf [] f, fun k _ _ _ => orcL [] k, fun t => memN [] t⟩, 0, fun r => ghL [] r⟩) tt0_ok hPm 5 fun N hN => ?_
    generalize hp : std Tryd.prog = p
    generalize hv : nvS = nv
    cbv
    subst hp
    subst hv
    refine ⟨fun h11 => ?_, fun h11 => ?_⟩
    · replace h := iteO_t h h11
      cases h
    · replace h := iteO_f h h11
      replace h := chk_some h; obtain ⟨h12, h⟩ := h
      have h12' := h12.1; have h12'' := h12.2.1
      refine ⟨h12, ?_⟩
      subst hN
      show Tr _ _ _ _
      refine Tr.cutSeq (α := Int) h (fun i t'1 => ⟨frm 106 [(0, .v (.string s)), (9, .vec 41 (t'1.g 41) 1 0 n), (10, .v (.int .i64 0)), (12, .v (.int .i64 i))] 0, frO 106 [(41, .arr (t'1.g 41) 1 n (t'1.t 41) (fun i j => (.v (.string (nvS.get ByteArray.empty (nvS.rep n ByteArray.empty) i)))))] 0, t'1.c⟩) (fun _ t => Hid.ok t) (fun x t'1 ht'1 h => ?_) (fun f h => ?_)
      · revert h; revert ht'1; revert x; intro i ht'1 h
        obtain ⟨t'1_c, t'1_g, t'1_t⟩ := t'1
        have ht'1_c : 0 < t'1_c := ht'1.1
        have ht'1_g : ∀ k, t'1_g k < t'1_c := ht'1.2
        refine Tr.pre (cx := ⟨tt0, ⟨fun f => kOf [] f, fun k _ _ _ => orcL [] k, fun t => memN [] t⟩, 0, fun r => ghL [] r⟩) tt0_ok hPm 1 fun N hN => ?_
        generalize hp : std Tryd.prog = p
        generalize hv : nvS = nv
        cbv
        subst hp
        subst hv
        subst hN
        show Tr _ _ _ _
        refine Tr.cutSeq (α := Int × Int × List ByteArray) h (fun (na, fieldStart, a) t'2 => ⟨frm 106 [(0, .v (.string s)), (9, .vec 41 (t'2.g 41) 1 0 n), (10, .v (.int .i64 na)), (11, .v (.int .i64 fieldStart))] 0, frO 106 [(41, .arr (t'2.g 41) 1 n (t'2.t 41) (fun i j => (.v (.string (nvS.get ByteArray.empty a i)))))] 0, t'2.c⟩) (fun (na, fieldStart, a) t => Hid.ok t ∧ lenL a = n) (fun x t'2 ht'2 h => ?_) (fun f h => ?_)
        · obtain ⟨na, fieldStart, a⟩ := x
          obtain ⟨ht'2, ht'2_f0⟩ := ht'2
          obtain ⟨t'2_c, t'2_g, t'2_t⟩ := t'2
          have ht'2_c : 0 < t'2_c := ht'2.1
          have ht'2_g : ∀ k, t'2_g k < t'2_c := ht'2.2
          refine Tr.chunk (cx := ⟨tt0, ⟨fun f => kOf [] f, fun k _ _ _ => orcL [] k, fun t => memN [] t⟩, 0, fun r => ghL [] r⟩) tt0_ok hPm fun N hN => ?_
          generalize hp : std Tryd.prog = p
          generalize hv : nvS = nv
          cbv
          subst hp
          subst hv
          refine ⟨fun h55 => ?_, fun h55 => ?_⟩
          · replace h := iteO_t h h55
            replace h := chk_some h; obtain ⟨h56, h⟩ := h
            replace h := chk_some h; obtain ⟨h57, h⟩ := h
            refine ⟨h56, h57, rfl, ?_⟩
            subst hN
            have hr := Option.some.inj h
            subst hr
            try dsimp only [noGoto, inBlockQ, thenQ]
            repeat (first | refine (if_pos rfl).mpr ?_ | refine (if_neg (by decide)).mpr ?_)
            refine retQ_ret rfl ?_ ?_
            · exact trivial
            · exact (And.intro (rfl)
                  (And.intro (by first | rfl | assumption | (symm; assumption) | ((try dsimp only [std_eq, stdN, nvS]) <;> first | rfl | omega | (simp (disch := first | omega | (simp only [lenL_set, lenL_app, lenL_cons, lenL_nil] <;> omega)) only [lenL_bytes, lenL_set, lenL_app, lenL_cons, lenL_nil, lenL_rep, lenL_sub, lenL_cpy, Int.ofNat_eq_natCast, Int.zero_add, Int.sub_zero] <;> try omega)))
                  (And.intro (fun h => by cases h)
                  (out0_all (fun i j => out0_str _) (fun i i0 i1 j hj => by (try dsimp only [std_eq, stdN, nvS] at i1); (try simp only [Int.ofNat_eq_natCast] at i1); (obtain rfl : j = 0 := (by omega)) <;> (conv => lhs; whnf) <;> (conv => rhs; whnf) <;> (try dsimp only [std_eq, stdN, nvS]) <;> (first | rfl | (simp (disch := first | omega | (simp only [lenL_set, lenL_app, lenL_cons, lenL_nil] <;> omega)) only [getL_bytes, getL_put, getL_app, getL_rep, getL_sub, getL_cpy, Int.zero_add, Int.sub_zero, beq_iff_eq, decide_eq_true_eq, Bool.and_eq_true] <;> first | rfl | (split <;> first | rfl | (simp (disch := first | omega | (simp only [lenL_set, lenL_app, lenL_cons, lenL_nil] <;> omega)) only [getL_one, getL_zero] <;> rfl)) | ((simp only [lenL_app, lenL_cons, lenL_nil, Int.ofNat_eq_natCast]) <;> (repeat' split) <;> first | rfl | (exfalso; omega) | (simp (disch := omega) only [getL_one, getL_zero] <;> rfl) | (congr 3; omega)))))))))
          · replace h := iteO_f h h55
            subst hN
            have hr := Option.some.inj h
            subst hr
            try dsimp only [noGoto, inBlockQ, thenQ]
            repeat (first | refine (if_pos rfl).mpr ?_ | refine (if_neg (by decide)).mpr ?_)
            refine retQ_ret rfl ?_ ?_
            · exact trivial
            · exact (And.intro (rfl)
                  (And.intro (by first | rfl | assumption | (symm; assumption) | ((try dsimp only [std_eq, stdN, nvS]) <;> first | rfl | omega | (simp (disch := first | omega | (simp only [lenL_set, lenL_app, lenL_cons, lenL_nil] <;> omega)) only [lenL_bytes, lenL_set, lenL_app, lenL_cons, lenL_nil, lenL_rep, lenL_sub, lenL_cpy, Int.ofNat_eq_natCast, Int.zero_add, Int.sub_zero] <;> try omega)))
                  (And.intro (fun h => by cases h)
                  (out0_all (fun i j => out0_str _) (fun i i0 i1 j hj => by (try dsimp only [std_eq, stdN, nvS] at i1); (try simp only [Int.ofNat_eq_natCast] at i1); (obtain rfl : j = 0 := (by omega)) <;> (conv => lhs; whnf) <;> (conv => rhs; whnf) <;> (try dsimp only [std_eq, stdN, nvS]) <;> (first | rfl | (simp (disch := first | omega | (simp only [lenL_set, lenL_app, lenL_cons, lenL_nil] <;> omega)) only [getL_bytes, getL_put, getL_app, getL_rep, getL_sub, getL_cpy, Int.zero_add, Int.sub_zero, beq_iff_eq, decide_eq_true_eq, Bool.and_eq_true] <;> first | rfl | (split <;> first | rfl | (simp (disch := first | omega | (simp only [lenL_set, lenL_app, lenL_cons, lenL_nil] <;> omega)) only [getL_one, getL_zero] <;> rfl)) | ((simp only [lenL_app, lenL_cons, lenL_nil, Int.ofNat_eq_natCast]) <;> (repeat' split) <;> first | rfl | (exfalso; omega) | (simp (disch := omega) only [getL_one, getL_zero] <;> rfl) | (congr 3; omega)))))))))
        · refine Tr.block ?_
          refine Tr.loopO (α := Int × Int × Int × List ByteArray) (fun (na1, fieldStart1, i1, a1) t'3 => ⟨frm 106 [(0, .v (.string s)), (9, .vec 41 (t'3.g 41) 1 0 n), (10, .v (.int .i64 na1)), (11, .v (.int .i64 fieldStart1)), (12, .v (.int .i64 i1))] 0, frO 106 [(41, .arr (t'3.g 41) 1 n (t'3.t 41) (fun i j => (.v (.string (nvS.get ByteArray.empty a1 i)))))] 0, t'3.c⟩) (fun (na1, fieldStart1, i1, a1) t => Hid.ok t ∧ lenL a1 = n) ⟨t'1_c + 10, gfn [(41, t'1_g 41)], tfn [(41, t'1_t 41)]⟩ h ?_ ?_ (fun x t'3 f ht'3 h => ?_)
          · exact (And.intro (Hid.mk_ok (by omega) (And.intro (by have := ht'1_g 41; omega)
                trivial))
                (by first | rfl | assumption | (symm; assumption) | ((try dsimp only [std_eq, stdN, nvS]) <;> first | rfl | omega | (simp (disch := first | omega | (simp only [lenL_set, lenL_app, lenL_cons, lenL_nil] <;> omega)) only [lenL_bytes, lenL_set, lenL_app, lenL_cons, lenL_nil, lenL_rep, lenL_sub, lenL_cpy, Int.ofNat_eq_natCast, Int.zero_add, Int.sub_zero] <;> try omega))))
          · exact GeSt.of (LeSt.frame (by show (_ : Nat) < _; (try dsimp only [std_eq, stdN]); omega) rfl rfl (And.intro ⟨_, rfl, LeD.refl _⟩
                (And.intro ⟨_, rfl, LeD.refl _⟩
                (And.intro ⟨_, rfl, LeD.refl _⟩
                (And.intro ⟨_, rfl, LeD.refl _⟩
                (And.intro ⟨_, rfl, LeD.refl _⟩
                trivial))))) (And.intro ⟨_, rfl, LeOb.refl _⟩
                trivial))
          · obtain ⟨na1, fieldStart1, i1, a1⟩ := x
            obtain ⟨ht'3, ht'3_f0⟩ := ht'3
            obtain ⟨t'3_c, t'3_g, t'3_t⟩ := t'3
            have ht'3_c : 0 < t'3_c := ht'3.1
            have ht'3_g : ∀ k, t'3_g k < t'3_c := ht'3.2
            refine Tr.pre (cx := ⟨tt0, ⟨fun f => kOf [] f, fun k _ _ _ => orcL [] k, fun t => memN [] t⟩, 0, fun r => ghL [] r⟩) tt0_ok hPm 1 fun N hN => ?_
            generalize hp : std Tryd.prog = p
            generalize hv : nvS = nv
            cbv
            subst hp
            subst hv
            refine ⟨fun h92 => ?_, fun h92 => ?_⟩
            · replace h := iteO_t h h92
              subst hN
              show Tr _ _ _ _
              refine Tr.block ?_
              refine Tr.pre (cx := ⟨tt0, ⟨fun f => kOf [] f, fun k _ _ _ => orcL [] k, fun t => memN [] t⟩, 0, fun r => ghL [] r⟩) tt0_ok hPm 4 fun N hN => ?_
              generalize hp : std Tryd.prog = p
              generalize hv : nvS = nv
              cbv
              subst hp
              subst hv
              replace h := chk_some h; obtain ⟨h93, h⟩ := h
              replace h := chk_some h; obtain ⟨h94, h⟩ := h
              refine ⟨h93, h94, ?_⟩
              refine ⟨fun h95 => ?_, fun h95 => ?_⟩
              · replace h := iteO_t h h95
                replace h := chk_some h; obtain ⟨h96, h⟩ := h
                refine ⟨h96, ?_⟩
                subst hN
                cases h
                show ∃ t', _ ∧ GeSt _ _ _
                refine ⟨⟨t'3_c + 12, gfn [(41, t'3_g 41)], tfn [(41, t'3_t 41)]⟩, (And.intro (Hid.mk_ok (by omega) (And.intro (by have := ht'3_g 41; omega)
                    trivial))
                    (by first | rfl | assumption | (symm; assumption) | ((try dsimp only [std_eq, stdN, nvS]) <;> first | rfl | omega | (simp (disch := first | omega | (simp only [lenL_set, lenL_app, lenL_cons, lenL_nil] <;> omega)) only [lenL_bytes, lenL_set, lenL_app, lenL_cons, lenL_nil, lenL_rep, lenL_sub, lenL_cpy, Int.ofNat_eq_natCast, Int.zero_add, Int.sub_zero] <;> try omega)))), ?_⟩
                exact GeSt.of (LeSt.frame (by show (_ : Nat) < _; (try dsimp only [std_eq, stdN]); omega) rfl rfl (And.intro ⟨_, rfl, LeD.refl _⟩
                    (And.intro ⟨_, rfl, LeD.refl _⟩
                    (And.intro ⟨_, rfl, LeD.refl _⟩
                    (And.intro ⟨_, rfl, LeD.refl _⟩
                    (And.intro ⟨_, rfl, LeD.refl _⟩
                    trivial))))) (And.intro ⟨_, rfl, LeOb.refl _⟩
                    trivial))
              · replace h := iteO_f h h95
                replace h := chk_some h; obtain ⟨h97, h⟩ := h
                replace h := chk_some h; obtain ⟨h98, h⟩ := h
                refine ⟨h97, h98, rfl, ?_⟩
                replace h := chk_some h; obtain ⟨h99, h⟩ := h
                refine ⟨h99, ?_⟩
                replace h := chk_some h; obtain ⟨h100, h⟩ := h
                refine ⟨h100, ?_⟩
                subst hN
                show Tr _ _ _ _
                refine Tr.cutSeq (α := Int) h (fun i4 t'4 => ⟨frm 106 [(0, .v (.string s)), (9, .vec 41 (t'4.g 41) 1 0 n), (10, .v (.int .i64 ((std Tryd.prog).add na1 1))), (12, .v (.int .i64 i4))] 0, frO 106 [(41, .arr (t'4.g 41) 1 n (t'4.t 41) (fun i j => (.v (.string (nvS.get ByteArray.empty (nvS.set a1 na1 ((std Tryd.prog).ssub s fieldStart1 i1)) i)))))] 0, t'4.c⟩) (fun _ t => Hid.ok t) (fun x t'4 ht'4 h => ?_) (fun f h => ?_)
                · revert h; revert ht'4; revert x; intro i4 ht'4 h
                  obtain ⟨t'4_c, t'4_g, t'4_t⟩ := t'4
                  have ht'4_c : 0 < t'4_c := ht'4.1
                  have ht'4_g : ∀ k, t'4_g k < t'4_c := ht'4.2
                  refine Tr.chunk (cx := ⟨tt0, ⟨fun f => kOf [] f, fun k _ _ _ => orcL [] k, fun t => memN [] t⟩, 0, fun r => ghL [] r⟩) tt0_ok hPm fun N hN => ?_
                  generalize hp : std Tryd.prog = p
                  generalize hv : nvS = nv
                  cbv
                  subst hp
                  subst hv
                  subst hN
                  cases h
                  show ∃ t', _ ∧ GeSt _ _ _
                  refine ⟨⟨t'4_c + 10, gfn [(41, t'4_g 41)], tfn [(41, t'4_t 41)]⟩, (And.intro (Hid.mk_ok (by omega) (And.intro (by have := ht'4_g 41; omega)
                      trivial))
                      (by first | rfl | assumption | (symm; assumption) | ((try dsimp only [std_eq, stdN, nvS]) <;> first | rfl | omega | (simp (disch := first | omega | (simp only [lenL_set, lenL_app, lenL_cons, lenL_nil] <;> omega)) only [lenL_bytes, lenL_set, lenL_app, lenL_cons, lenL_nil, lenL_rep, lenL_sub, lenL_cpy, Int.ofNat_eq_natCast, Int.zero_add, Int.sub_zero] <;> try omega)))), ?_⟩
                  exact GeSt.of (LeSt.frame (by show (_ : Nat) < _; (try dsimp only [std_eq, stdN]); omega) rfl rfl (And.intro ⟨_, rfl, LeD.refl _⟩
                      (And.intro ⟨_, rfl, LeD.refl _⟩
                      (And.intro ⟨_, rfl, LeD.refl _⟩
                      (And.intro ⟨_, rfl, LeD.refl _⟩
                      (And.intro ⟨_, rfl, LeD.refl _⟩
                      trivial))))) (And.intro ⟨_, rfl, LeOb.refl _⟩
                      trivial))
                · refine Tr.block ?_
                  refine Tr.loopO (α := Int) (fun i5 t'5 => ⟨frm 106 [(0, .v (.string s)), (9, .vec 41 (t'5.g 41) 1 0 n), (10, .v (.int .i64 ((std Tryd.prog).add na1 1))), (12, .v (.int .i64 i5))] 0, frO 106 [(41, .arr (t'5.g 41) 1 n (t'5.t 41) (fun i j => (.v (.string (nvS.get ByteArray.empty (nvS.set a1 na1 ((std Tryd.prog).ssub s fieldStart1 i1)) i)))))] 0, t'5.c⟩) (fun _ t => Hid.ok t) ⟨t'3_c + 14, gfn [(41, t'3_g 41)], tfn [(41, t'3_t 41)]⟩ h ?_ ?_ (fun x t'5 f ht'5 h => ?_)
                  · exact Hid.mk_ok (by omega) (And.intro (by have := ht'3_g 41; omega)
                        trivial)
                  · exact GeSt.of (LeSt.frame (by show (_ : Nat) < _; (try dsimp only [std_eq, stdN]); omega) rfl rfl (And.intro ⟨_, rfl, LeD.refl _⟩
                        (And.intro ⟨_, rfl, LeD.refl _⟩
                        (And.intro ⟨_, rfl, LeD.refl _⟩
                        (And.intro ⟨_, rfl, LeD.refl _⟩
                        trivial)))) (And.intro ⟨_, rfl, LeOb.arrE (by first | rfl | assumption | (symm; assumption) | ((try dsimp only [std_eq, stdN, nvS]) <;> first | rfl | omega | (simp (disch := first | omega | (simp only [lenL_set, lenL_app, lenL_cons, lenL_nil] <;> omega)) only [lenL_bytes, lenL_set, lenL_app, lenL_cons, lenL_nil, lenL_rep, lenL_sub, lenL_cpy, Int.ofNat_eq_natCast, Int.zero_add, Int.sub_zero] <;> try omega))) (fun i i0 i1 j hj => by (try dsimp only [std_eq, stdN, nvS] at i1); (try simp only [Int.ofNat_eq_natCast] at i1); (obtain rfl : j = 0 := (by omega)) <;> (conv => lhs; whnf) <;> (conv => rhs; whnf) <;> (try dsimp only [std_eq, stdN, nvS]) <;> (first | rfl | (simp (disch := first | omega | (simp only [lenL_set, lenL_app, lenL_cons, lenL_nil] <;> omega)) only [getL_bytes, getL_put, getL_app, getL_rep, getL_sub, getL_cpy, Int.zero_add, Int.sub_zero, beq_iff_eq, decide_eq_true_eq, Bool.and_eq_true] <;> first | rfl | (split <;> first | rfl | (simp (disch := first | omega | (simp only [lenL_set, lenL_app, lenL_cons, lenL_nil] <;> omega)) only [getL_one, getL_zero] <;> rfl)) | ((simp only [lenL_app, lenL_cons, lenL_nil, Int.ofNat_eq_natCast]) <;> (repeat' split) <;> first | rfl | (exfalso; omega) | (simp (disch := omega) only [getL_one, getL_zero] <;> rfl) | (congr 3; omega)))))⟩
                        trivial))
                  · revert h; revert ht'5; revert x; intro i5 ht'5 h
                    obtain ⟨t'5_c, t'5_g, t'5_t⟩ := t'5
                    have ht'5_c : 0 < t'5_c := ht'5.1
                    have ht'5_g : ∀ k, t'5_g k < t'5_c := ht'5.2
                    refine Tr.chunk (cx := ⟨tt0, ⟨fun f => kOf [] f, fun k _ _ _ => orcL [] k, fun t => memN [] t⟩, 0, fun r => ghL [] r⟩) tt0_ok hPm fun N hN => ?_
                    generalize hp : std Tryd.prog = p
                    generalize hv : nvS = nv
                    cbv
                    subst hp
                    subst hv
                    replace h := chk_some h; obtain ⟨h117, h⟩ := h
                    replace h := chk_some h; obtain ⟨h118, h⟩ := h
                    refine ⟨(fun hg => hg), (fun hg => hg), h117, (fun hg => hg), h118, (fun hg => hg), (fun hg => hg), (fun hg => hg), ?_⟩
                    refine ⟨fun h119 => ?_, fun h119 => ?_⟩
                    · replace h := iteO_t h h119
                      replace h := chk_some h; obtain ⟨h120, h⟩ := h
                      refine ⟨h120, ?_⟩
                      subst hN
                      cases h
                      show ∃ t', _ ∧ GeSt _ _ _
                      refine ⟨⟨t'5_c + 11, gfn [(41, t'5_g 41)], tfn [(41, t'5_t 41)]⟩, Hid.mk_ok (by omega) (And.intro (by have := ht'5_g 41; omega)
                          trivial), ?_⟩
                      exact GeSt.of (LeSt.frame (by show (_ : Nat) < _; (try dsimp only [std_eq, stdN]); omega) rfl rfl (And.intro ⟨_, rfl, LeD.refl _⟩
                          (And.intro ⟨_, rfl, LeD.refl _⟩
                          (And.intro ⟨_, rfl, LeD.refl _⟩
                          (And.intro ⟨_, rfl, LeD.refl _⟩
                          trivial)))) (And.intro ⟨_, rfl, LeOb.refl _⟩
                          trivial))
                    · replace h := iteO_f h h119
                      subst hN
                      cases h
                      intro he; cases he
                      show ∃ t', _ ∧ GeSt _ _ _
                      refine ⟨⟨t'5_c + 10, gfn [(41, t'5_g 41)], tfn [(41, t'5_t 41)]⟩, Hid.mk_ok (by omega) (And.intro (by have := ht'5_g 41; omega)
                          trivial), ?_⟩
                      exact GeSt.of (LeSt.frame (by show (_ : Nat) < _; (try dsimp only [std_eq, stdN]); omega) rfl rfl (And.intro ⟨_, rfl, LeD.refl _⟩
                          (And.intro ⟨_, rfl, LeD.refl _⟩
                          (And.intro ⟨_, rfl, LeD.refl _⟩
                          (And.intro ⟨_, rfl, LeD.refl _⟩
                          trivial)))) (And.intro ⟨_, rfl, LeOb.refl _⟩
                          trivial))
            · replace h := iteO_f h h92
              subst hN
              cases h
              intro he; cases he
              show ∃ t', _ ∧ GeSt _ _ _
              refine ⟨⟨t'3_c + 10, gfn [(41, t'3_g 41)], tfn [(41, t'3_t 41)]⟩, (And.intro (Hid.mk_ok (by omega) (And.intro (by have := ht'3_g 41; omega)
                  trivial))
                  (by first | rfl | assumption | (symm; assumption) | ((try dsimp only [std_eq, stdN, nvS]) <;> first | rfl | omega | (simp (disch := first | omega | (simp only [lenL_set, lenL_app, lenL_cons, lenL_nil] <;> omega)) only [lenL_bytes, lenL_set, lenL_app, lenL_cons, lenL_nil, lenL_rep, lenL_sub, lenL_cpy, Int.ofNat_eq_natCast, Int.zero_add, Int.sub_zero] <;> try omega)))), ?_⟩
              exact GeSt.of (LeSt.frame (by show (_ : Nat) < _; (try dsimp only [std_eq, stdN]); omega) rfl rfl (And.intro ⟨_, rfl, LeD.refl _⟩
                  (And.intro ⟨_, rfl, LeD.refl _⟩
                  (And.intro ⟨_, rfl, LeD.refl _⟩
                  (And.intro ⟨_, rfl, LeD.refl _⟩
                  trivial)))) (And.intro ⟨_, rfl, LeOb.refl _⟩
                  trivial))
      · refine Tr.block ?_
        refine Tr.loopO (α := Int) (fun i7 t'6 => ⟨frm 106 [(0, .v (.string s)), (9, .vec 41 (t'6.g 41) 1 0 n), (10, .v (.int .i64 0)), (12, .v (.int .i64 i7))] 0, frO 106 [(41, .arr (t'6.g 41) 1 n (t'6.t 41) (fun i j => (.v (.string (nvS.get ByteArray.empty (nvS.rep n ByteArray.empty) i)))))] 0, t'6.c⟩) (fun _ t => Hid.ok t) ⟨t'_c + 14, gfn [(41, t'_c + 1)], tfn [(41, ((std Tryd.prog).eq n n))]⟩ h ?_ ?_ (fun x t'6 f ht'6 h => ?_)
        · exact Hid.mk_ok (by omega) (And.intro (by omega)
              trivial)
        · exact GeSt.of (LeSt.frame (by show (_ : Nat) < _; (try dsimp only [std_eq, stdN]); omega) rfl rfl (And.intro ⟨_, rfl, LeD.refl _⟩
              (And.intro ⟨_, rfl, LeD.refl _⟩
              (And.intro ⟨_, rfl, LeD.refl _⟩
              (And.intro ⟨_, rfl, LeD.refl _⟩
              trivial)))) (And.intro ⟨_, rfl, LeOb.arrE (by first | rfl | assumption | (symm; assumption) | ((try dsimp only [std_eq, stdN, nvS]) <;> first | rfl | omega | (simp (disch := first | omega | (simp only [lenL_set, lenL_app, lenL_cons, lenL_nil] <;> omega)) only [lenL_bytes, lenL_set, lenL_app, lenL_cons, lenL_nil, lenL_rep, lenL_sub, lenL_cpy, Int.ofNat_eq_natCast, Int.zero_add, Int.sub_zero] <;> try omega))) (fun i i0 i1 j hj => by (try dsimp only [std_eq, stdN, nvS] at i1); (try simp only [Int.ofNat_eq_natCast] at i1); (obtain rfl : j = 0 := (by omega)) <;> (conv => lhs; whnf) <;> (conv => rhs; whnf) <;> (try dsimp only [std_eq, stdN, nvS]) <;> (first | rfl | (simp (disch := first | omega | (simp only [lenL_set, lenL_app, lenL_cons, lenL_nil] <;> omega)) only [getL_bytes, getL_put, getL_app, getL_rep, getL_sub, getL_cpy, Int.zero_add, Int.sub_zero, beq_iff_eq, decide_eq_true_eq, Bool.and_eq_true] <;> first | rfl | (split <;> first | rfl | (simp (disch := first | omega | (simp only [lenL_set, lenL_app, lenL_cons, lenL_nil] <;> omega)) only [getL_one, getL_zero] <;> rfl)) | ((simp only [lenL_app, lenL_cons, lenL_nil, Int.ofNat_eq_natCast]) <;> (repeat' split) <;> first | rfl | (exfalso; omega) | (simp (disch := omega) only [getL_one, getL_zero] <;> rfl) | (congr 3; omega)))))⟩
              trivial))
        · revert h; revert ht'6; revert x; intro i7 ht'6 h
          obtain ⟨t'6_c, t'6_g, t'6_t⟩ := t'6
          have ht'6_c : 0 < t'6_c := ht'6.1
          have ht'6_g : ∀ k, t'6_g k < t'6_c := ht'6.2
          refine Tr.chunk (cx := ⟨tt0, ⟨fun f => kOf [] f, fun k _ _ _ => orcL [] k, fun t => memN [] t⟩, 0, fun r => ghL [] r⟩) tt0_ok hPm fun N hN => ?_
          generalize hp : std Tryd.prog = p
          generalize hv : nvS = nv
          cbv
          subst hp
          subst hv
          replace h := chk_some h; obtain ⟨h129, h⟩ := h
          replace h := chk_some h; obtain ⟨h130, h⟩ := h
          refine ⟨(fun hg => hg), (fun hg => hg), h129, (fun hg => hg), h130, (fun hg => hg), (fun hg => hg), (fun hg => hg), ?_⟩
          refine ⟨fun h131 => ?_, fun h131 => ?_⟩
          · replace h := iteO_t h h131
            replace h := chk_some h; obtain ⟨h132, h⟩ := h
            refine ⟨h132, ?_⟩
            subst hN
            cases h
            show ∃ t', _ ∧ GeSt _ _ _
            refine ⟨⟨t'6_c + 11, gfn [(41, t'6_g 41)], tfn [(41, t'6_t 41)]⟩, Hid.mk_ok (by omega) (And.intro (by have := ht'6_g 41; omega)
                trivial), ?_⟩
            exact GeSt.of (LeSt.frame (by show (_ : Nat) < _; (try dsimp only [std_eq, stdN]); omega) rfl rfl (And.intro ⟨_, rfl, LeD.refl _⟩
                (And.intro ⟨_, rfl, LeD.refl _⟩
                (And.intro ⟨_, rfl, LeD.refl _⟩
                (And.intro ⟨_, rfl, LeD.refl _⟩
                trivial)))) (And.intro ⟨_, rfl, LeOb.refl _⟩
                trivial))
          · replace h := iteO_f h h131
            subst hN
            cases h
            intro he; cases he
            show ∃ t', _ ∧ GeSt _ _ _
            refine ⟨⟨t'6_c + 10, gfn [(41, t'6_g 41)], tfn [(41, t'6_t 41)]⟩, Hid.mk_ok (by omega) (And.intro (by have := ht'6_g 41; omega)
                trivial), ?_⟩
            exact GeSt.of (LeSt.frame (by show (_ : Nat) < _; (try dsimp only [std_eq, stdN]); omega) rfl rfl (And.intro ⟨_, rfl, LeD.refl _⟩
                (And.intro ⟨_, rfl, LeD.refl _⟩
                (And.intro ⟨_, rfl, LeD.refl _⟩
                (And.intro ⟨_, rfl, LeD.refl _⟩
                trivial)))) (And.intro ⟨_, rfl, LeOb.refl _⟩
                trivial))
  · refine Tr.pre (cx := ⟨tt0, ⟨fun f => kOf [] f, fun k _ _ _ => orcL [] k, fun t => memN [] t⟩, 0, fun r => ghL [] r⟩) tt0_ok hPm 1 fun N hN => ?_
    generalize hp : std Tryd.prog = p
    generalize hv : nvS = nv
    cbv
    subst hp
    subst hv
    subst hN
    show Tr _ _ _ _
    refine Tr.block ?_
    refine Tr.loopO (α := Int × Int × Int × Int) (fun (n1, wasSpace, setBits1, i9) t'7 => ⟨frm 106 [(0, .v (.string s)), (3, .v (.int .i64 n1)), (4, .v (.int .i64 wasSpace)), (5, .v (.int .u8 setBits1)), (6, .v (.int .i64 i9))] 0, frO 106 [] 0, t'7.c⟩) (fun _ t => Hid.ok t) ⟨ctr + 14, gfn [], tfn []⟩ h ?_ ?_ (fun x t'7 f ht'7 h => ?_)
    · exact Hid.mk_ok (by omega) trivial
    · exact GeSt.of (LeSt.frame (by show (_ : Nat) < _; (try dsimp only [std_eq, stdN]); omega) rfl rfl (And.intro ⟨_, rfl, LeD.refl _⟩
          (And.intro ⟨_, rfl, LeD.refl _⟩
          (And.intro ⟨_, rfl, LeD.refl _⟩
          (And.intro ⟨_, rfl, LeD.refl _⟩
          (And.intro ⟨_, rfl, LeD.refl _⟩
          trivial))))) trivial)
    · obtain ⟨n1, wasSpace, setBits1, i9⟩ := x
      obtain ⟨t'7_c, t'7_g, t'7_t⟩ := t'7
      have ht'7_c : 0 < t'7_c := ht'7.1
      have ht'7_g : ∀ k, t'7_g k < t'7_c := ht'7.2
      refine Tr.chunk (cx := ⟨tt0, ⟨fun f => kOf [] f, fun k _ _ _ => orcL [] k, fun t => memN [] t⟩, 0, fun r => ghL [] r⟩) tt0_ok hPm fun N hN => ?_
      generalize hp : std Tryd.prog = p
      generalize hv : nvS = nv
      cbv
      subst hp
      subst hv
      refine ⟨fun h143 => ?_, fun h143 => ?_⟩
      · replace h := iteO_t h h143
        replace h := chk_some h; obtain ⟨h144, h⟩ := h
        refine ⟨h144, ?_⟩
        replace h := chk_some h; obtain ⟨h145, h⟩ := h
        refine ⟨h145, ?_⟩
        replace h := chk_some h; obtain ⟨h146, h⟩ := h
        refine ⟨h146, ?_⟩
        replace h := chk_some h; obtain ⟨h147, h⟩ := h
        refine ⟨h147, ?_⟩
        subst hN
        cases h
        show ∃ t', _ ∧ GeSt _ _ _
        refine ⟨⟨t'7_c + 16, gfn [], tfn []⟩, Hid.mk_ok (by omega) trivial, ?_⟩
        exact GeSt.of (LeSt.frame (by show (_ : Nat) < _; (try dsimp only [std_eq, stdN]); omega) rfl rfl (And.intro ⟨_, rfl, LeD.refl _⟩
            (And.intro ⟨_, rfl, LeD.refl _⟩
            (And.intro ⟨_, rfl, LeD.refl _⟩
            (And.intro ⟨_, rfl, LeD.refl _⟩
            (And.intro ⟨_, rfl, LeD.refl _⟩
            trivial))))) trivial)
      · replace h := iteO_f h h143
        subst hN
        cases h
        intro he; cases he
        show ∃ t', _ ∧ GeSt _ _ _
        refine ⟨⟨t'7_c + 10, gfn [], tfn []⟩, Hid.mk_ok (by omega) trivial, ?_⟩
        exact GeSt.of (LeSt.frame (by show (_ : Nat) < _; (try dsimp only [std_eq, stdN]); omega) rfl rfl (And.intro ⟨_, rfl, LeD.refl _⟩
            (And.intro ⟨_, rfl, LeD.refl _⟩
            (And.intro ⟨_, rfl, LeD.refl _⟩
            trivial))) trivial)

theorem ucd_className_ok (s : ByteArray) (r : Int) (h : ucd_className s = some r) : PureFn Tryd.prog 34 [(.v (.string s))] ((.v (.int .i64 r))) := by
  unfold ucd_className at h
  refine fn_tr tt0_ok Tryd.func34 (by kernel_rfl) (c := bodyOf Tryd.f34) (by kernel_rfl) ?_
  intro ctr hc
  refine Tr.pre (cx := ⟨tt0, ⟨fun f => kOf [] f, fun k _ _ _ => orcL [] k, fun t => memN [] t⟩, 0, fun r => ghL [] r⟩) tt0_ok hPm 1 fun N hN => ?_
  generalize hp : std Tryd.prog = p
  generalize hv : nvS = nv
  cbv
  subst hp
  subst hv
  subst hN
  show Tr _ _ _ _
  refine Tr.cutSeq (α := Unit) h (fun _ t' => ⟨frm 18 [] 0, frO 18 [] 0, t'.c⟩) (fun _ t => Hid.ok t) (fun x t' ht' h => ?_) (fun f h => ?_)
  · obtain ⟨t'_c, t'_g, t'_t⟩ := t'
    have ht'_c : 0 < t'_c := ht'.1
    have ht'_g : ∀ k, t'_g k < t'_c := ht'.2
    refine Tr.chunk (cx := ⟨tt0, ⟨fun f => kOf [] f, fun k _ _ _ => orcL [] k, fun t => memN [] t⟩, 0, fun r => ghL [] r⟩) tt0_ok hPm fun N hN => ?_
    generalize hp : std Tryd.prog = p
    generalize hv : nvS = nv
    cbv
    subst hp
    subst hv
    subst hN
    have hr := Option.some.inj h
    subst hr
    try dsimp only [noGoto, inBlockQ, thenQ]
    repeat (first | refine (if_pos rfl).mpr ?_ | refine (if_neg (by decide)).mpr ?_)
    refine retQ_ret rfl ?_ ?_
    · exact trivial
    · exact rfl
  · obtain ⟨v, h12⟩ : ∃ v, valO [] (strings_Fields kS0) = v := ⟨_, rfl⟩
    refine Tr.pre (cx := ⟨tt0, ⟨fun f => kOf [(51, 1)] f, fun k _ _ _ => orcL [(5, .own 1 (nvS.len v) false (fun i j => (.v (.string (nvS.get ByteArray.empty v i)))))] k, fun t => memN [] t⟩, 0, fun r => ghL [] r⟩) tt0_ok hPm 1 fun N hN => ?_
    generalize hp : std Tryd.prog = p
    generalize hv : nvS = nv
    cbv
    subst hp
    subst hv
    replace h := bindO_val h12 h; clear h12; obtain ⟨h12, h⟩ := h
    refine ⟨(Or.inl (PureFn.arg (strings_Fields_ok kS0 v h12) (And.intro (LeD.refl _)
        trivial))), ?_⟩
    subst hN
    show Tr _ _ _ _
    refine Tr.block ?_
    refine Tr.loopO (α := Int) (fun v1 t'1 => ⟨frm 18 [(0, .v (.string s)), (5, .vec 5 (t'1.g 5) 1 0 (nvS.len v)), (6, .v (.int .i64 (nvS.len v))), (7, .v (.int .i64 v1))] 0, frO 18 [(5, .arr (t'1.g 5) 1 (nvS.len v) (t'1.t 5) (fun i j => (.v (.string (nvS.get ByteArray.empty v i)))))] 0, t'1.c⟩) (fun _ t => Hid.ok t) ⟨ctr + 11, gfn [(5, ctr + 1)], tfn [(5, false)]⟩ h ?_ ?_ (fun x t'1 f ht'1 h => ?_)
    · exact Hid.mk_ok (by omega) (And.intro (by omega)
          trivial)
    · exact GeSt.of (LeSt.frame (by show (_ : Nat) < _; (try dsimp only [std_eq, stdN]); omega) rfl rfl (And.intro ⟨_, rfl, LeD.refl _⟩
          (And.intro ⟨_, rfl, LeD.refl _⟩
          (And.intro ⟨_, rfl, LeD.refl _⟩
          (And.intro ⟨_, rfl, LeD.refl _⟩
          trivial)))) (And.intro ⟨_, rfl, LeOb.refl _⟩
          trivial))
    · revert h; revert ht'1; revert x; intro v1 ht'1 h
      obtain ⟨t'1_c, t'1_g, t'1_t⟩ := t'1
      have ht'1_c : 0 < t'1_c := ht'1.1
      have ht'1_g : ∀ k, t'1_g k < t'1_c := ht'1.2
      refine Tr.chunk (cx := ⟨tt0, ⟨fun f => kOf [] f, fun k _ _ _ => orcL [] k, fun t => memN [] t⟩, 0, fun r => ghL [] r⟩) tt0_ok hPm fun N hN => ?_
      generalize hp : std Tryd.prog = p
      generalize hv : nvS = nv
      cbv
      subst hp
      subst hv
      refine ⟨fun h23 => ?_, fun h23 => ?_⟩
      · replace h := iteO_t h h23
        replace h := chk_some h; obtain ⟨h24, h⟩ := h
        refine ⟨h24, rfl, ?_⟩
        refine ⟨fun h25 => ?_, fun h25 => ?_⟩
        · replace h := iteO_t h h25
          replace h := chk_some h; obtain ⟨h26, h⟩ := h
          refine ⟨h26, ?_⟩
          subst hN
          cases h
          intro he; cases he
          intro hr
          subst hr
          try dsimp only [noGoto, inBlockQ, thenQ]
          repeat (first | refine (if_pos rfl).mpr ?_ | refine (if_neg (by decide)).mpr ?_)
          refine retQ_ret rfl ?_ ?_
          · exact trivial
          · exact rfl
        · replace h := iteO_f h h25
          replace h := chk_some h; obtain ⟨h27, h⟩ := h
          refine ⟨h27, ?_⟩
          subst hN
          cases h
          show ∃ t', _ ∧ GeSt _ _ _
          refine ⟨⟨t'1_c + 13, gfn [(5, t'1_g 5)], tfn [(5, t'1_t 5)]⟩, Hid.mk_ok (by omega) (And.intro (by have := ht'1_g 5; omega)
              trivial), ?_⟩
          exact GeSt.of (LeSt.frame (by show (_ : Nat) < _; (try dsimp only [std_eq, stdN]); omega) rfl rfl (And.intro ⟨_, rfl, LeD.refl _⟩
              (And.intro ⟨_, rfl, LeD.refl _⟩
              (And.intro ⟨_, rfl, LeD.refl _⟩
              (And.intro ⟨_, rfl, LeD.refl _⟩
              trivial)))) (And.intro ⟨_, rfl, LeOb.refl _⟩
              trivial))
      · replace h := iteO_f h h23
        subst hN
        cases h
        intro he; cases he
        show ∃ t', _ ∧ GeSt _ _ _
        refine ⟨⟨t'1_c + 10, gfn [], tfn []⟩, Hid.mk_ok (by omega) trivial, ?_⟩
        exact GeSt.of (LeSt.frame (by show (_ : Nat) < _; (try dsimp only [std_eq, stdN]); omega) rfl rfl trivial trivial)

theorem ucd_wideName_ok (s : ByteArray) (r : Int) (h : ucd_wideName s = some r) : PureFn Tryd.prog 35 [(.v (.string s))] ((.v (.int .i64 r))) := by
  unfold ucd_wideName at h
  refine fn_tr tt0_ok Tryd.func35 (by kernel_rfl) (c := bodyOf Tryd.f35) (by kernel_rfl) ?_
  intro ctr hc
  obtain ⟨v, h1⟩ : ∃ v, valO 0 (ucd_hex s) = v := ⟨_, rfl⟩
  refine Tr.chunk (cx := ⟨tt0, ⟨fun f => kOf [] f, fun k _ _ _ => orcL [(4, .plain (.v (.int .i64 v)))] k, fun t => memN [] t⟩, 0, fun r => ghL [] r⟩) tt0_ok hPm fun N hN => ?_
  generalize hp : std Tryd.prog = p
  generalize hv : nvS = nv
  cbv
  subst hp
  subst hv
  replace h := bindO_val h1 h; clear h1; obtain ⟨h1, h⟩ := h
  replace h := chk_some h; obtain ⟨h2, h⟩ := h
  refine ⟨(Or.inl (PureFn.arg (ucd_hex_ok s v h1) (And.intro (LeD.refl _)
      trivial))), h2, ?_⟩
  subst hN
  have hr := Option.some.inj h
  subst hr
  try dsimp only [noGoto, inBlockQ, thenQ]
  repeat (first | refine (if_pos rfl).mpr ?_ | refine (if_neg (by decide)).mpr ?_)
  refine retQ_ret rfl ?_ ?_
  · exact trivial
  · exact rfl

theorem ucd_joinName_ok (s : ByteArray) (r : Int) (h : ucd_joinName s = some r) : PureFn Tryd.prog 36 [(.v (.string s))] ((.v (.int .i64 r))) := by
  unfold ucd_joinName at h
  refine fn_tr tt0_ok Tryd.func36 (by kernel_rfl) (c := bodyOf Tryd.f36) (by kernel_rfl) ?_
  intro ctr hc
  refine Tr.chunk (cx := ⟨tt0, ⟨fun f => kOf [] f, fun k _ _ _ => orcL [] k, fun t => memN [] t⟩, 0, fun r => ghL [] r⟩) tt0_ok hPm fun N hN => ?_
  generalize hp : std Tryd.prog = p
  generalize hv : nvS = nv
  cbv
  subst hp
  subst hv
  refine ⟨fun h1 => ?_, fun h1 => ?_⟩
  · replace h := iteO_t h h1
    subst hN
    have hr := Option.some.inj h
    subst hr
    try dsimp only [noGoto, inBlockQ, thenQ]
    repeat (first | refine (if_pos rfl).mpr ?_ | refine (if_neg (by decide)).mpr ?_)
    refine retQ_ret rfl ?_ ?_
    · exact trivial
    · exact rfl
  · replace h := iteO_f h h1
    refine ⟨fun h2 => ?_, fun h2 => ?_⟩
    · replace h := iteO_t h h2
      subst hN
      have hr := Option.some.inj h
      subst hr
      try dsimp only [noGoto, inBlockQ, thenQ]
      repeat (first | refine (if_pos rfl).mpr ?_ | refine (if_neg (by decide)).mpr ?_)
      refine retQ_ret rfl ?_ ?_
      · exact trivial
      · exact rfl
    · replace h := iteO_f h h2
      refine ⟨fun h3 => ?_, fun h3 => ?_⟩
      · replace h := iteO_t h h3
        subst hN
        have hr := Option.some.inj h
        subst hr
        try dsimp only [noGoto, inBlockQ, thenQ]
        repeat (first | refine (if_pos rfl).mpr ?_ | refine (if_neg (by decide)).mpr ?_)
        refine retQ_ret rfl ?_ ?_
        · exact trivial
        · exact rfl
      · replace h := iteO_f h h3
        refine ⟨fun h4 => ?_, fun h4 => ?_⟩
        · replace h := iteO_t h h4
          subst hN
          have hr := Option.some.inj h
          subst hr
          try dsimp only [noGoto, inBlockQ, thenQ]
          repeat (first | refine (if_pos rfl).mpr ?_ | refine (if_neg (by decide)).mpr ?_)
          refine retQ_ret rfl ?_ ?_
          · exact trivial
          · exact rfl
        · replace h := iteO_f h h4
          subst hN
          have hr := Option.some.inj h
          subst hr
          try dsimp only [noGoto, inBlockQ, thenQ]
          repeat (first | refine (if_pos rfl).mpr ?_ | refine (if_neg (by decide)).mpr ?_)
          refine retQ_ret rfl ?_ ?_
          · exact trivial
          · exact rfl

theorem ucd_table_class_ok (text : ByteArray) (r : T_ranges_Table) (h : ucd_table_class text = some r) : PureFn Tryd.prog 33 [(.v (.string text)), .fn (.func 34) 0 (fun _ => .junk)] ((.agg 1 (fun j => (D_ranges_Table nvS r j)))) := by
  unfold ucd_table_class at h
  refine fn_tr tt0_ok Tryd.func33 (by kernel_rfl) (c := bodyOf Tryd.f33) (by kernel_rfl) ?_
  intro ctr hc
  refine Tr.pre (cx := ⟨tt0, ⟨fun f => kOf [] f, fun k _ _ _ => orcL [] k, fun t => memN [] t⟩, 0, fun r => ghL [] r⟩) tt0_ok hPm 2 fun N hN => ?_
  generalize hp : std Tryd.prog = p
  generalize hv : nvS = nv
  cbv
  subst hp
  subst hv
  subst hN
  show Tr _ _ _ _
  refine Tr.cutSeq (α := List T_ranges_Row) h (fun o t' => ⟨frm 58 [(4, .bref 4 (t'.g 4) 0), (5, .bref 5 (t'.g 5) 0)] 0, frO 58 [(4, .box (t'.g 4) [.nilsl]), (5, .box (t'.g 5) [.vec 54 (t'.g 54) 3 0 (nvS.len o)]), (54, .arr (t'.g 54) 3 (nvS.len o) (t'.t 54) (fun i j => (D_ranges_Row nvS (nvS.get d_ranges_Row o i) j)))] 0, t'.c⟩) (fun _ t => Hid.ok t) (fun x t' ht' h => ?_) (fun f h => ?_)
  · revert h; revert ht'; revert x; intro o ht' h
    obtain ⟨t'_c, t'_g, t'_t⟩ := t'
    have ht'_c : 0 < t'_c := ht'.1
    have ht'_g : ∀ k, t'_g k < t'_c := ht'.2
    refine Tr.chunk (cx := ⟨tt0, ⟨fun f => kOf [] f, fun k _ _ _ => orcL [] k, fun t => memN [] t⟩, 0, fun r => ghL [] r⟩) tt0_ok hPm fun N hN => ?_
    generalize hp : std Tryd.prog = p
    generalize hv : nvS = nv
    cbv
    subst hp
    subst hv
    refine ⟨rfl, rfl, ?_⟩
    subst hN
    have hr := Option.some.inj h
    subst hr
    try dsimp only [noGoto, inBlockQ, thenQ]
    repeat (first | refine (if_pos rfl).mpr ?_ | refine (if_neg (by decide)).mpr ?_)
    refine retQ_ret rfl ?_ ?_
    · exact (And.intro (rfl)
          trivial)
    · exact (fun i _ _ j hj => by
            have hj2 : j < 1 := hj
            rcases (show j = 0 by omega) with rfl
            · exact (And.intro (rfl)
          (And.intro (by first | rfl | assumption | (symm; assumption) | ((try dsimp only [std_eq, stdN, nvS]) <;> first | rfl | omega | (simp (disch := first | omega | (simp only [lenL_set, lenL_app, lenL_cons, lenL_nil] <;> omega)) only [lenL_bytes, lenL_set, lenL_app, lenL_cons, lenL_nil, lenL_rep, lenL_sub, lenL_cpy, Int.ofNat_eq_natCast, Int.zero_add, Int.sub_zero] <;> try omega)))
          (And.intro (fun h => by cases h)
          (out0_all (fun i j => out_ranges_Row _ _) (fun i i0 i1 j hj => by (try dsimp only [std_eq, stdN, nvS] at i1); (try simp only [Int.ofNat_eq_natCast] at i1); (rcases (show j = 0 ∨ j = 1 ∨ j = 2 by omega) with rfl | rfl | rfl) <;> (conv => lhs; whnf) <;> (conv => rhs; whnf) <;> (try dsimp only [std_eq, stdN, nvS]) <;> (first | rfl | (simp (disch := first | omega | (simp only [lenL_set, lenL_app, lenL_cons, lenL_nil] <;> omega)) only [getL_bytes, getL_put, getL_app, getL_rep, getL_sub, getL_cpy, Int.zero_add, Int.sub_zero, beq_iff_eq, decide_eq_true_eq, Bool.and_eq_true] <;> first | rfl | (split <;> first | rfl | (simp (disch := first | omega | (simp only [lenL_set, lenL_app, lenL_cons, lenL_nil] <;> omega)) only [getL_one, getL_zero] <;> rfl)) | ((simp only [lenL_app, lenL_cons, lenL_nil, Int.ofNat_eq_natCast]) <;> (repeat' split) <;> first | rfl | (exfalso; omega) | (simp (disch := omega) only [getL_one, getL_zero] <;> rfl) | (congr 3; omega))))))))))
  · obtain ⟨v, h30⟩ : ∃ v, valO [] (strings_Split text (⟨#[44]⟩ : ByteArray)) = v := ⟨_, rfl⟩
    refine Tr.pre (cx := ⟨tt0, ⟨fun f => kOf [(48, 1)] f, fun k _ _ _ => orcL [(11, .own 1 (nvS.len v) false (fun i j => (.v (.string (nvS.get ByteArray.empty v i)))))] k, fun t => memN [] t⟩, 0, fun r => ghL [] r⟩) tt0_ok hPm 1 fun N hN => ?_
    generalize hp : std Tryd.prog = p
    generalize hv : nvS = nv
    cbv
    subst hp
    subst hv
    replace h := bindO_val h30 h; clear h30; obtain ⟨h30, h⟩ := h
    refine ⟨(Or.inl (PureFn.arg (strings_Split_ok text (⟨#[44]⟩ : ByteArray) v h30) (And.intro (LeD.refl _)
        (And.intro (LeD.refl _)
        trivial)))), ?_⟩
    subst hN
    show Tr _ _ _ _
    refine Tr.block ?_
    refine Tr.loopO (α := Int × List T_ranges_Row) (fun (v1, o1) t'1 => ⟨frm 58 [(1, .fn (.func 34) 0 (fun _ => .junk)), (4, .bref 4 (t'1.g 4) 0), (5, .bref 5 (t'1.g 5) 0), (11, .vec 11 (t'1.g 11) 1 0 (nvS.len v)), (12, .v (.int .i64 (nvS.len v))), (13, .v (.int .i64 v1))] 0, frO 58 [(4, .box (t'1.g 4) [.nilsl]), (5, .box (t'1.g 5) [.vec 54 (t'1.g 54) 3 0 (nvS.len o1)]), (11, .arr (t'1.g 11) 1 (nvS.len v) (t'1.t 11) (fun i j => (.v (.string (nvS.get ByteArray.empty v i))))), (54, .arr (t'1.g 54) 3 (nvS.len o1) (t'1.t 54) (fun i j => (D_ranges_Row nvS (nvS.get d_ranges_Row o1 i) j)))] 0, t'1.c⟩) (fun _ t => Hid.ok t) ⟨ctr + 13, gfn [(4, ctr + 0), (5, ctr + 1), (11, ctr + 2), (54, ctr + 3)], tfn [(4, false), (5, false), (11, false), (54, false)]⟩ h ?_ ?_ (fun x t'1 f ht'1 h => ?_)
    · exact Hid.mk_ok (by omega) (And.intro (by omega)
          (And.intro (by omega)
          (And.intro (by omega)
          (And.intro (by omega)
          trivial))))
    · refine GeSt.by [.thaw (.cell 5 0) 54 3] rfl ?_ ?_
      · exact trivial
      · exact LeSt.frame (show ctr + 4 < ctr + 13 by omega) rfl rfl (And.intro ⟨_, rfl, LeD.refl _⟩
            (And.intro ⟨_, rfl, LeD.refl _⟩
            (And.intro ⟨_, rfl, LeD.refl _⟩
            (And.intro ⟨_, rfl, LeD.refl _⟩
            (And.intro ⟨_, rfl, LeD.refl _⟩
            (And.intro ⟨_, rfl, LeD.refl _⟩
            trivial)))))) (And.intro ⟨_, rfl, LeOb.box (And.intro (LeD.refl _)
            trivial)⟩
            (And.intro ⟨_, rfl, LeOb.box (And.intro (LeD.refl _)
            trivial)⟩
            (And.intro ⟨_, rfl, LeOb.refl _⟩
            (And.intro ⟨_, rfl, LeOb.arr' rfl (fun i i0 i1 j hj => by exfalso; revert i1; show i < (0 : Int) → False; omega)⟩
            trivial))))
    · obtain ⟨v1, o1⟩ := x
      obtain ⟨t'1_c, t'1_g, t'1_t⟩ := t'1
      have ht'1_c : 0 < t'1_c := ht'1.1
      have ht'1_g : ∀ k, t'1_g k < t'1_c := ht'1.2
      refine Tr.pre (cx := ⟨tt0, ⟨fun f => kOf [] f, fun k _ _ _ => orcL [] k, fun t => memN [] t⟩, 0, fun r => ghL [] r⟩) tt0_ok hPm 2 fun N hN => ?_
      generalize hp : std Tryd.prog = p
      generalize hv : nvS = nv
      cbv
      subst hp
      subst hv
      refine ⟨fun h59 => ?_, fun h59 => ?_⟩
      · replace h := iteO_t h h59
        subst hN
        show Tr _ _ _ _
        refine Tr.cutSeq (α := List T_ranges_Row) h (fun o2 t'2 => ⟨frm 58 [(1, .fn (.func 34) 0 (fun _ => .junk)), (4, .bref 4 (t'2.g 4) 0), (5, .bref 5 (t'2.g 5) 0), (11, .vec 11 (t'2.g 11) 1 0 (nvS.len v)), (12, .v (.int .i64 (nvS.len v))), (13, .v (.int .i64 v1))] 0, frO 58 [(4, .box (t'2.g 4) [.nilsl]), (5, .box (t'2.g 5) [.vec 54 (t'2.g 54) 3 0 ((std Tryd.prog).add (nvS.len o1) 1)]), (11, .arr (t'2.g 11) 1 (nvS.len v) (t'2.t 11) (fun i j => (.v (.string (nvS.get ByteArray.empty v i))))), (54, .arr (t'2.g 54) 3 ((std Tryd.prog).add (nvS.len o1) 1) (t'2.t 54) (fun i j => (D_ranges_Row nvS (nvS.get d_ranges_Row o2 i) j)))] 0, t'2.c⟩) (fun o2 t => Hid.ok t ∧ lenL o2 = ((lenL o1) + 1)) (fun x t'2 ht'2 h => ?_) (fun f h => ?_)
        · revert h; revert ht'2; revert x; intro o2 ht'2 h
          obtain ⟨ht'2, ht'2_f0⟩ := ht'2
          obtain ⟨t'2_c, t'2_g, t'2_t⟩ := t'2
          have ht'2_c : 0 < t'2_c := ht'2.1
          have ht'2_g : ∀ k, t'2_g k < t'2_c := ht'2.2
          refine Tr.chunk (cx := ⟨tt0, ⟨fun f => kOf [] f, fun k _ _ _ => orcL [] k, fun t => memN [] t⟩, 0, fun r => ghL [] r⟩) tt0_ok hPm fun N hN => ?_
          generalize hp : std Tryd.prog = p
          generalize hv : nvS = nv
          cbv
          subst hp
          subst hv
          replace h := chk_some h; obtain ⟨h72, h⟩ := h
          refine ⟨h72, ?_⟩
          subst hN
          cases h
          show ∃ t', _ ∧ GeSt _ _ _
          refine ⟨⟨t'2_c + 10, gfn [(4, t'2_g 4), (5, t'2_g 5), (11, t'2_g 11), (54, t'2_g 54)], tfn [(4, false), (5, false), (11, t'2_t 11), (54, t'2_t 54)]⟩, Hid.mk_ok (by omega) (And.intro (by have := ht'2_g 4; omega)
              (And.intro (by have := ht'2_g 5; omega)
              (And.intro (by have := ht'2_g 11; omega)
              (And.intro (by have := ht'2_g 54; omega)
              trivial)))), ?_⟩
          exact GeSt.of (LeSt.frame (by show (_ : Nat) < _; (try dsimp only [std_eq, stdN]); omega) rfl rfl (And.intro ⟨_, rfl, LeD.refl _⟩
              (And.intro ⟨_, rfl, LeD.refl _⟩
              (And.intro ⟨_, rfl, LeD.refl _⟩
              (And.intro ⟨_, rfl, LeD.refl _⟩
              (And.intro ⟨_, rfl, LeD.refl _⟩
              (And.intro ⟨_, rfl, LeD.refl _⟩
              trivial)))))) (And.intro ⟨_, rfl, LeOb.box (And.intro (LeD.refl _)
              trivial)⟩
              (And.intro ⟨_, rfl, LeOb.box (And.intro (LeD.vec rfl (by first | rfl | assumption | (symm; assumption) | ((try dsimp only [std_eq, stdN, nvS]) <;> first | rfl | omega | (simp (disch := first | omega | (simp only [lenL_set, lenL_app, lenL_cons, lenL_nil] <;> omega)) only [lenL_bytes, lenL_set, lenL_app, lenL_cons, lenL_nil, lenL_rep, lenL_sub, lenL_cpy, Int.ofNat_eq_natCast, Int.zero_add, Int.sub_zero] <;> try omega))))
              trivial)⟩
              (And.intro ⟨_, rfl, LeOb.refl _⟩
              (And.intro ⟨_, rfl, LeOb.arrE (by first | rfl | assumption | (symm; assumption) | ((try dsimp only [std_eq, stdN, nvS]) <;> first | rfl | omega | (simp (disch := first | omega | (simp only [lenL_set, lenL_app, lenL_cons, lenL_nil] <;> omega)) only [lenL_bytes, lenL_set, lenL_app, lenL_cons, lenL_nil, lenL_rep, lenL_sub, lenL_cpy, Int.ofNat_eq_natCast, Int.zero_add, Int.sub_zero] <;> try omega))) (fun i i0 i1 j hj => by (try dsimp only [std_eq, stdN, nvS] at i1); (try simp only [Int.ofNat_eq_natCast] at i1); (rcases (show j = 0 ∨ j = 1 ∨ j = 2 by omega) with rfl | rfl | rfl) <;> (conv => lhs; whnf) <;> (conv => rhs; whnf) <;> (try dsimp only [std_eq, stdN, nvS]) <;> (first | rfl | (simp (disch := first | omega | (simp only [lenL_set, lenL_app, lenL_cons, lenL_nil] <;> omega)) only [getL_bytes, getL_put, getL_app, getL_rep, getL_sub, getL_cpy, Int.zero_add, Int.sub_zero, beq_iff_eq, decide_eq_true_eq, Bool.and_eq_true] <;> first | rfl | (split <;> first | rfl | (simp (disch := first | omega | (simp only [lenL_set, lenL_app, lenL_cons, lenL_nil] <;> omega)) only [getL_one, getL_zero] <;> rfl)) | ((simp only [lenL_app, lenL_cons, lenL_nil, Int.ofNat_eq_natCast]) <;> (repeat' split) <;> first | rfl | (exfalso; omega) | (simp (disch := omega) only [getL_one, getL_zero] <;> rfl) | (congr 3; omega)))))⟩
              trivial)))))
        · refine Tr.block ?_
          obtain ⟨v2, h74⟩ : ∃ v2, valO [] (ucd_words (getL ByteArray.empty v (0 + v1))) = v2 := ⟨_, rfl⟩
          refine Tr.pre (cx := ⟨tt0, ⟨fun f => kOf [(49, 1)] f, fun k _ _ _ => orcL [(18, .own 1 (nvS.len v2) false (fun i j => (.v (.string (nvS.get ByteArray.empty v2 i)))))] k, fun t => memN [] t⟩, 0, fun r => ghL [] r⟩) tt0_ok hPm 3 fun N hN => ?_
          generalize hp : std Tryd.prog = p
          generalize hv : nvS = nv
          cbv
          subst hp
          subst hv
          replace h := chk_some h; obtain ⟨h73, h⟩ := h
          refine ⟨h73, rfl, ?_⟩
          replace h := bindO_val h74 h; clear h74; obtain ⟨h74, h⟩ := h
          refine ⟨(Or.inl (PureFn.arg (ucd_words_ok (getL ByteArray.empty v (0 + v1)) v2 h74) (And.intro (LeD.refl _)
              trivial))), ?_⟩
          subst hN
          show Tr _ _ _ _
          refine Tr.cutSeq (α := Int × Int × Int) h (fun (b9_0, b9_1, b9_2) t'3 => ⟨frm 58 [(1, .fn (.func 34) 0 (fun _ => .junk)), (4, .bref 4 (t'3.g 4) 0), (5, .bref 5 (t'3.g 5) 0), (9, .bref 9 (t'3.g 9) 0), (11, .vec 11 (t'3.g 11) 1 0 (nvS.len v)), (12, .v (.int .i64 (nvS.len v))), (13, .v (.int .i64 v1))] 0, frO 58 [(4, .box (t'3.g 4) [.nilsl]), (5, .box (t'3.g 5) [.vec 54 (t'3.g 54) 3 0 (nvS.len o1)]), (9, .box (t'3.g 9) [.v (.int .i64 b9_0), .v (.int .i64 b9_1), .v (.int .i64 b9_2)]), (11, .arr (t'3.g 11) 1 (nvS.len v) (t'3.t 11) (fun i j => (.v (.string (nvS.get ByteArray.empty v i))))), (54, .arr (t'3.g 54) 3 (nvS.len o1) (t'3.t 54) (fun i j => (D_ranges_Row nvS (nvS.get d_ranges_Row o1 i) j)))] 0, t'3.c⟩) (fun _ t => Hid.ok t) (fun x t'3 ht'3 h => ?_) (fun f h => ?_)
          · obtain ⟨b9_0, b9_1, b9_2⟩ := x
            obtain ⟨t'3_c, t'3_g, t'3_t⟩ := t'3
            have ht'3_c : 0 < t'3_c := ht'3.1
            have ht'3_g : ∀ k, t'3_g k < t'3_c := ht'3.2
            refine Tr.chunk (cx := ⟨tt0, ⟨fun f => kOf [] f, fun k _ _ _ => orcL [] k, fun t => memN [53] t⟩, 0, fun r => ghL [] r⟩) tt0_ok hPm fun N hN => ?_
            generalize hp : std Tryd.prog = p
            generalize hv : nvS = nv
            cbv
            subst hp
            subst hv
            refine ⟨rfl, rfl, rfl, ?_⟩
            replace h := chk_some h; obtain ⟨h84, h⟩ := h
            refine ⟨rfl, rfl, rfl, (by have := ht'3_g 54; show (_ : Nat) < _; (try dsimp only [std_eq, stdN]); omega), h84, rfl, ?_⟩
            subst hN
            cases h
            show ∃ t', _ ∧ GeSt _ _ _
            refine ⟨⟨t'3_c + 11, gfn [(4, t'3_g 4), (5, t'3_g 5), (11, t'3_g 11), (54, t'3_c + 1)], tfn [(4, false), (5, false), (11, t'3_t 11), (54, false)]⟩, (And.intro (Hid.mk_ok (by omega) (And.intro (by have := ht'3_g 4; omega)
                (And.intro (by have := ht'3_g 5; omega)
                (And.intro (by have := ht'3_g 11; omega)
                (And.intro (by omega)
                trivial)))))
                (by first | rfl | assumption | (symm; assumption) | ((try dsimp only [std_eq, stdN, nvS]) <;> first | rfl | omega | (simp (disch := first | omega | (simp only [lenL_set, lenL_app, lenL_cons, lenL_nil] <;> omega)) only [lenL_bytes, lenL_set, lenL_app, lenL_cons, lenL_nil, lenL_rep, lenL_sub, lenL_cpy, Int.ofNat_eq_natCast, Int.zero_add, Int.sub_zero] <;> try omega)))), ?_⟩
            exact GeSt.of (LeSt.frame (by show (_ : Nat) < _; (try dsimp only [std_eq, stdN]); omega) rfl rfl (And.intro ⟨_, rfl, LeD.refl _⟩
                (And.intro ⟨_, rfl, LeD.refl _⟩
                (And.intro ⟨_, rfl, LeD.refl _⟩
                (And.intro ⟨_, rfl, LeD.refl _⟩
                (And.intro ⟨_, rfl, LeD.refl _⟩
                (And.intro ⟨_, rfl, LeD.refl _⟩
                trivial)))))) (And.intro ⟨_, rfl, LeOb.box (And.intro (LeD.refl _)
                trivial)⟩
                (And.intro ⟨_, rfl, LeOb.box (And.intro (LeD.refl _)
                trivial)⟩
                (And.intro ⟨_, rfl, LeOb.refl _⟩
                (And.intro ⟨_, rfl, LeOb.arrE (by first | rfl | assumption | (symm; assumption) | ((try dsimp only [std_eq, stdN, nvS]) <;> first | rfl | omega | (simp (disch := first | omega | (simp only [lenL_set, lenL_app, lenL_cons, lenL_nil] <;> omega)) only [lenL_bytes, lenL_set, lenL_app, lenL_cons, lenL_nil, lenL_rep, lenL_sub, lenL_cpy, Int.ofNat_eq_natCast, Int.zero_add, Int.sub_zero] <;> try omega))) (fun i i0 i1 j hj => by (try dsimp only [std_eq, stdN, nvS] at i1); (try simp only [Int.ofNat_eq_natCast] at i1); (rcases (show j = 0 ∨ j = 1 ∨ j = 2 by omega) with rfl | rfl | rfl) <;> (conv => lhs; whnf) <;> (conv => rhs; whnf) <;> (try dsimp only [std_eq, stdN, nvS]) <;> (first | rfl | (simp (disch := first | omega | (simp only [lenL_set, lenL_app, lenL_cons, lenL_nil] <;> omega)) only [getL_bytes, getL_put, getL_app, getL_rep, getL_sub, getL_cpy, Int.zero_add, Int.sub_zero, beq_iff_eq, decide_eq_true_eq, Bool.and_eq_true] <;> first | rfl | (split <;> first | rfl | (simp (disch := first | omega | (simp only [lenL_set, lenL_app, lenL_cons, lenL_nil] <;> omega)) only [getL_one, getL_zero] <;> rfl)) | ((simp only [lenL_app, lenL_cons, lenL_nil, Int.ofNat_eq_natCast]) <;> (repeat' split) <;> first | rfl | (exfalso; omega) | (simp (disch := omega) only [getL_one, getL_zero] <;> rfl) | (congr 3; omega)))))⟩
                trivial)))))
          · refine Tr.pre (cx := ⟨tt0, ⟨fun f => kOf [] f, fun k _ _ _ => orcL [] k, fun t => memN [] t⟩, 0, fun r => ghL [] r⟩) tt0_ok hPm 1 fun N hN => ?_
            generalize hp : std Tryd.prog = p
            generalize hv : nvS = nv
            cbv
            subst hp
            subst hv
            subst hN
            show Tr _ _ _ _
            refine Tr.block ?_
            refine Tr.cutSeq (α := Int) h (fun b9_11 t'4 => ⟨frm 58 [(1, .fn (.func 34) 0 (fun _ => .junk)), (4, .bref 4 (t'4.g 4) 0), (5, .bref 5 (t'4.g 5) 0), (8, .vec 18 (t'4.g 18) 1 0 (nvS.len v2)), (9, .bref 9 (t'4.g 9) 0), (11, .vec 11 (t'4.g 11) 1 0 (nvS.len v)), (12, .v (.int .i64 (nvS.len v))), (13, .v (.int .i64 v1))] 0, frO 58 [(4, .box (t'4.g 4) [.nilsl]), (5, .box (t'4.g 5) [.vec 54 (t'4.g 54) 3 0 (nvS.len o1)]), (9, .box (t'4.g 9) [.v (.int .i64 0), .v (.int .i64 b9_11), .v (.int .i64 0)]), (11, .arr (t'4.g 11) 1 (nvS.len v) (t'4.t 11) (fun i j => (.v (.string (nvS.get ByteArray.empty v i))))), (18, .arr (t'4.g 18) 1 (nvS.len v2) (t'4.t 18) (fun i j => (.v (.string (nvS.get ByteArray.empty v2 i))))), (54, .arr (t'4.g 54) 3 (nvS.len o1) (t'4.t 54) (fun i j => (D_ranges_Row nvS (nvS.get d_ranges_Row o1 i) j)))] 0, t'4.c⟩) (fun _ t => Hid.ok t) (fun x t'4 ht'4 h => ?_) (fun f h => ?_)
            · revert h; revert ht'4; revert x; intro b9_11 ht'4 h
              obtain ⟨t'4_c, t'4_g, t'4_t⟩ := t'4
              have ht'4_c : 0 < t'4_c := ht'4.1
              have ht'4_g : ∀ k, t'4_g k < t'4_c := ht'4.2
              obtain ⟨v3, h90⟩ : ∃ v3, valO 0 (ucd_hex (getL ByteArray.empty v2 (0 + 0))) = v3 := ⟨_, rfl⟩
              obtain ⟨v4, h93⟩ : ∃ v4, valO 0 (ucd_className (getL ByteArray.empty v2 (0 + ((lenL v2) - 1)))) = v4 := ⟨_, rfl⟩
              refine Tr.chunk (cx := ⟨tt0, ⟨fun f => kOf [] f, fun k _ _ _ => orcL [(33, .plain (.v (.int .i64 v3))), (41, .plain (.v (.int .i64 v4)))] k, fun t => memN [] t⟩, 0, fun r => ghL [] r⟩) tt0_ok hPm fun N hN => ?_
              generalize hp : std Tryd.prog = p
              generalize hv : nvS = nv
              cbv
              subst hp
              subst hv
              replace h := chk_some h; obtain ⟨h89, h⟩ := h
              replace h := bindO_val h90 h; clear h90; obtain ⟨h90, h⟩ := h
              replace h := chk_some h; obtain ⟨h91, h⟩ := h
              replace h := chk_some h; obtain ⟨h92, h⟩ := h
              replace h := bindO_val h93 h; clear h93; obtain ⟨h93, h⟩ := h
              refine ⟨h89, rfl, (Or.inl (PureFn.arg (ucd_hex_ok (getL ByteArray.empty v2 (0 + 0)) v3 h90) (And.intro (LeD.refl _)
                  trivial))), h91, h92, rfl, (Or.inl (PureFn.arg (ucd_className_ok (getL ByteArray.empty v2 (0 + ((lenL v2) - 1))) v4 h93) (And.intro (LeD.refl _)
                  trivial))), rfl, rfl, (show drOk _ _ = true by kernel_rfl), ?_⟩
              subst hN
              cases h
              show ∃ t', _ ∧ GeSt _ _ _
              refine ⟨⟨t'4_c + 10, gfn [(4, t'4_g 4), (5, t'4_g 5), (9, t'4_g 9), (11, t'4_g 11), (54, t'4_g 54)], tfn [(4, false), (5, false), (9, false), (11, t'4_t 11), (54, t'4_t 54)]⟩, Hid.mk_ok (by omega) (And.intro (by have := ht'4_g 4; omega)
                  (And.intro (by have := ht'4_g 5; omega)
                  (And.intro (by have := ht'4_g 9; omega)
                  (And.intro (by have := ht'4_g 11; omega)
                  (And.intro (by have := ht'4_g 54; omega)
                  trivial))))), ?_⟩
              exact GeSt.of (LeSt.frame (by show (_ : Nat) < _; (try dsimp only [std_eq, stdN]); omega) rfl rfl (And.intro ⟨_, rfl, LeD.refl _⟩
                  (And.intro ⟨_, rfl, LeD.refl _⟩
                  (And.intro ⟨_, rfl, LeD.refl _⟩
                  (And.intro ⟨_, rfl, LeD.refl _⟩
                  (And.intro ⟨_, rfl, LeD.refl _⟩
                  (And.intro ⟨_, rfl, LeD.refl _⟩
                  (And.intro ⟨_, rfl, LeD.refl _⟩
                  trivial))))))) (And.intro ⟨_, rfl, LeOb.box (And.intro (LeD.refl _)
                  trivial)⟩
                  (And.intro ⟨_, rfl, LeOb.box (And.intro (LeD.refl _)
                  trivial)⟩
                  (And.intro ⟨_, rfl, LeOb.box (And.intro (LeD.refl _)
                  (And.intro (LeD.refl _)
                  (And.intro (LeD.refl _)
                  trivial)))⟩
                  (And.intro ⟨_, rfl, LeOb.refl _⟩
                  (And.intro ⟨_, rfl, LeOb.refl _⟩
                  trivial))))))
            · obtain ⟨v5, h96⟩ : ∃ v5, valO 0 (ucd_hex (getL ByteArray.empty v2 (0 + 1))) = v5 := ⟨_, rfl⟩
              refine Tr.chunk (cx := ⟨tt0, ⟨fun f => kOf [] f, fun k _ _ _ => orcL [(28, .plain (.v (.int .i64 v5)))] k, fun t => memN [] t⟩, 0, fun r => ghL [] r⟩) tt0_ok hPm fun N hN => ?_
              generalize hp : std Tryd.prog = p
              generalize hv : nvS = nv
              cbv
              subst hp
              subst hv
              refine ⟨fun h94 => ?_, fun h94 => ?_⟩
              · replace h := iteO_t h h94
                replace h := chk_some h; obtain ⟨h95, h⟩ := h
                replace h := bindO_val h96 h; clear h96; obtain ⟨h96, h⟩ := h
                refine ⟨h95, rfl, (Or.inl (PureFn.arg (ucd_hex_ok (getL ByteArray.empty v2 (0 + 1)) v5 h96) (And.intro (LeD.refl _)
                    trivial))), rfl, ?_⟩
                subst hN
                cases h
                show ∃ t', _ ∧ GeSt _ _ _
                refine ⟨⟨t'1_c + 16, gfn [(4, t'1_g 4), (5, t'1_g 5), (9, t'1_c + 3), (11, t'1_g 11), (18, t'1_c + 2), (54, t'1_g 54)], tfn [(4, false), (5, false), (9, false), (11, t'1_t 11), (18, false), (54, t'1_t 54)]⟩, Hid.mk_ok (by omega) (And.intro (by have := ht'1_g 4; omega)
                    (And.intro (by have := ht'1_g 5; omega)
                    (And.intro (by omega)
                    (And.intro (by have := ht'1_g 11; omega)
                    (And.intro (by omega)
                    (And.intro (by have := ht'1_g 54; omega)
                    trivial)))))), ?_⟩
                exact GeSt.of (LeSt.frame (by show (_ : Nat) < _; (try dsimp only [std_eq, stdN]); omega) rfl rfl (And.intro ⟨_, rfl, LeD.refl _⟩
                    (And.intro ⟨_, rfl, LeD.refl _⟩
                    (And.intro ⟨_, rfl, LeD.refl _⟩
                    (And.intro ⟨_, rfl, LeD.refl _⟩
                    (And.intro ⟨_, rfl, LeD.refl _⟩
                    (And.intro ⟨_, rfl, LeD.refl _⟩
                    (And.intro ⟨_, rfl, LeD.refl _⟩
                    (And.intro ⟨_, rfl, LeD.refl _⟩
                    trivial)))))))) (And.intro ⟨_, rfl, LeOb.box (And.intro (LeD.refl _)
                    trivial)⟩
                    (And.intro ⟨_, rfl, LeOb.box (And.intro (LeD.refl _)
                    trivial)⟩
                    (And.intro ⟨_, rfl, LeOb.box (And.intro (LeD.refl _)
                    (And.intro (LeD.refl _)
                    (And.intro (LeD.refl _)
                    trivial)))⟩
                    (And.intro ⟨_, rfl, LeOb.refl _⟩
                    (And.intro ⟨_, rfl, LeOb.refl _⟩
                    (And.intro ⟨_, rfl, LeOb.refl _⟩
                    trivial)))))))
              · replace h := iteO_f h h94
                refine ⟨fun h97 => ?_, fun h97 => ?_⟩
                · replace h := iteO_t h h97
                  subst hN
                  cases h
                  show ∃ t', _ ∧ GeSt _ _ _
                  refine ⟨⟨t'1_c + 16, gfn [(4, t'1_g 4), (5, t'1_g 5), (9, t'1_c + 3), (11, t'1_g 11), (18, t'1_c + 2), (54, t'1_g 54)], tfn [(4, false), (5, false), (9, false), (11, t'1_t 11), (18, false), (54, t'1_t 54)]⟩, Hid.mk_ok (by omega) (And.intro (by have := ht'1_g 4; omega)
                      (And.intro (by have := ht'1_g 5; omega)
                      (And.intro (by omega)
                      (And.intro (by have := ht'1_g 11; omega)
                      (And.intro (by omega)
                      (And.intro (by have := ht'1_g 54; omega)
                      trivial)))))), ?_⟩
                  exact GeSt.of (LeSt.frame (by show (_ : Nat) < _; (try dsimp only [std_eq, stdN]); omega) rfl rfl (And.intro ⟨_, rfl, LeD.refl _⟩
                      (And.intro ⟨_, rfl, LeD.refl _⟩
                      (And.intro ⟨_, rfl, LeD.refl _⟩
                      (And.intro ⟨_, rfl, LeD.refl _⟩
                      (And.intro ⟨_, rfl, LeD.refl _⟩
                      (And.intro ⟨_, rfl, LeD.refl _⟩
                      (And.intro ⟨_, rfl, LeD.refl _⟩
                      (And.intro ⟨_, rfl, LeD.refl _⟩
                      trivial)))))))) (And.intro ⟨_, rfl, LeOb.box (And.intro (LeD.refl _)
                      trivial)⟩
                      (And.intro ⟨_, rfl, LeOb.box (And.intro (LeD.refl _)
                      trivial)⟩
                      (And.intro ⟨_, rfl, LeOb.box (And.intro (LeD.refl _)
                      (And.intro (LeD.refl _)
                      (And.intro (LeD.refl _)
                      trivial)))⟩
                      (And.intro ⟨_, rfl, LeOb.refl _⟩
                      (And.intro ⟨_, rfl, LeOb.refl _⟩
                      (And.intro ⟨_, rfl, LeOb.refl _⟩
                      trivial)))))))
                · replace h := iteO_f h h97
                  subst hN
                  cases h
                  intro he; cases he
                  show ∃ t', _ ∧ GeSt _ _ _
                  refine ⟨⟨t'1_c + 16, gfn [(4, t'1_g 4), (5, t'1_g 5), (9, t'1_c + 3), (11, t'1_g 11), (54, t'1_g 54)], tfn [(4, false), (5, false), (9, false), (11, t'1_t 11), (54, t'1_t 54)]⟩, Hid.mk_ok (by omega) (And.intro (by have := ht'1_g 4; omega)
                      (And.intro (by have := ht'1_g 5; omega)
                      (And.intro (by omega)
                      (And.intro (by have := ht'1_g 11; omega)
                      (And.intro (by have := ht'1_g 54; omega)
                      trivial))))), ?_⟩
                  exact GeSt.of (LeSt.frame (by show (_ : Nat) < _; (try dsimp only [std_eq, stdN]); omega) rfl rfl (And.intro ⟨_, rfl, LeD.refl _⟩
                      (And.intro ⟨_, rfl, LeD.refl _⟩
                      (And.intro ⟨_, rfl, LeD.refl _⟩
                      (And.intro ⟨_, rfl, LeD.refl _⟩
                      (And.intro ⟨_, rfl, LeD.refl _⟩
                      (And.intro ⟨_, rfl, LeD.refl _⟩
                      (And.intro ⟨_, rfl, LeD.refl _⟩
                      trivial))))))) (And.intro ⟨_, rfl, LeOb.box (And.intro (LeD.refl _)
                      trivial)⟩
                      (And.intro ⟨_, rfl, LeOb.box (And.intro (LeD.refl _)
                      trivial)⟩
                      (And.intro ⟨_, rfl, LeOb.box (And.intro (LeD.refl _)
                      (And.intro (LeD.refl _)
                      (And.intro (LeD.refl _)
                      trivial)))⟩
                      (And.intro ⟨_, rfl, LeOb.refl _⟩
                      (And.intro ⟨_, rfl, LeOb.refl _⟩
                      trivial))))))
      · replace h := iteO_f h h59
        subst hN
        cases h
        intro he; cases he
        show ∃ t', _ ∧ GeSt _ _ _
        refine ⟨⟨t'1_c + 10, gfn [(4, t'1_g 4), (5, t'1_g 5), (54, t'1_g 54)], tfn [(4, false), (5, false), (54, t'1_t 54)]⟩, Hid.mk_ok (by omega) (And.intro (by have := ht'1_g 4; omega)
            (And.intro (by have := ht'1_g 5; omega)
            (And.intro (by have := ht'1_g 54; omega)
            trivial))), ?_⟩
        exact GeSt.of (LeSt.frame (by show (_ : Nat) < _; (try dsimp only [std_eq, stdN]); omega) rfl rfl (And.intro ⟨_, rfl, LeD.refl _⟩
            (And.intro ⟨_, rfl, LeD.refl _⟩
            trivial)) (And.intro ⟨_, rfl, LeOb.box (And.intro (LeD.refl _)
            trivial)⟩
            (And.intro ⟨_, rfl, LeOb.box (And.intro (LeD.vec rfl (by first | rfl | assumption | (symm; assumption) | ((try dsimp only [std_eq, stdN, nvS]) <;> first | rfl | omega | (simp (disch := first | omega | (simp only [lenL_set, lenL_app, lenL_cons, lenL_nil] <;> omega)) only [lenL_bytes, lenL_set, lenL_app, lenL_cons, lenL_nil, lenL_rep, lenL_sub, lenL_cpy, Int.ofNat_eq_natCast, Int.zero_add, Int.sub_zero] <;> try omega))))
            trivial)⟩
            (And.intro ⟨_, rfl, LeOb.arrE (by first | rfl | assumption | (symm; assumption) | ((try dsimp only [std_eq, stdN, nvS]) <;> first | rfl | omega | (simp (disch := first | omega | (simp only [lenL_set, lenL_app, lenL_cons, lenL_nil] <;> omega)) only [lenL_bytes, lenL_set, lenL_app, lenL_cons, lenL_nil, lenL_rep, lenL_sub, lenL_cpy, Int.ofNat_eq_natCast, Int.zero_add, Int.sub_zero] <;> try omega))) (fun i i0 i1 j hj => by (try dsimp only [std_eq, stdN, nvS] at i1); (try simp only [Int.ofNat_eq_natCast] at i1); (rcases (show j = 0 ∨ j = 1 ∨ j = 2 by omega) with rfl | rfl | rfl) <;> (conv => lhs; whnf) <;> (conv => rhs; whnf) <;> (try dsimp only [std_eq, stdN, nvS]) <;> (first | rfl | (simp (disch := first | omega | (simp only [lenL_set, lenL_app, lenL_cons, lenL_nil] <;> omega)) only [getL_bytes, getL_put, getL_app, getL_rep, getL_sub, getL_cpy, Int.zero_add, Int.sub_zero, beq_iff_eq, decide_eq_true_eq, Bool.and_eq_true] <;> first | rfl | (split <;> first | rfl | (simp (disch := first | omega | (simp only [lenL_set, lenL_app, lenL_cons, lenL_nil] <;> omega)) only [getL_one, getL_zero] <;> rfl)) | ((simp only [lenL_app, lenL_cons, lenL_nil, Int.ofNat_eq_natCast]) <;> (repeat' split) <;> first | rfl | (exfalso; omega) | (simp (disch := omega) only [getL_one, getL_zero] <;> rfl) | (congr 3; omega)))))⟩
            trivial))))

theorem ucd_table_wide_ok (text : ByteArray) (r : T_ranges_Table) (h : ucd_table_wide text = some r) : PureFn Tryd.prog 33 [(.v (.string text)), .fn (.func 35) 0 (fun _ => .junk)] ((.agg 1 (fun j => (D_ranges_Table nvS r j)))) := by
  unfold ucd_table_wide at h
  refine fn_tr tt0_ok Tryd.func33 (by kernel_rfl) (c := bodyOf Tryd.f33) (by kernel_rfl) ?_
  intro ctr hc
  refine Tr.pre (cx := ⟨tt0, ⟨fun f => kOf [] f, fun k _ _ _ => orcL [] k, fun t => memN [] t⟩, 0, fun r => ghL [] r⟩) tt0_ok hPm 2 fun N hN => ?_
  generalize hp : std Tryd.prog = p
  generalize hv : nvS = nv
  cbv
  subst hp
  subst hv
  subst hN
  show Tr _ _ _ _
  refine Tr.cutSeq (α := List T_ranges_Row) h (fun o t' => ⟨frm 58 [(4, .bref 4 (t'.g 4) 0), (5, .bref 5 (t'.g 5) 0)] 0, frO 58 [(4, .box (t'.g 4) [.nilsl]), (5, .box (t'.g 5) [.vec 54 (t'.g 54) 3 0 (nvS.len o)]), (54, .arr (t'.g 54) 3 (nvS.len o) (t'.t 54) (fun i j => (D_ranges_Row nvS (nvS.get d_ranges_Row o i) j)))] 0, t'.c⟩) (fun _ t => Hid.ok t) (fun x t' ht' h => ?_) (fun f h => ?_)
  · revert h; revert ht'; revert x; intro o ht' h
    obtain ⟨t'_c, t'_g, t'_t⟩ := t'
    have ht'_c : 0 < t'_c := ht'.1
    have ht'_g : ∀ k, t'_g k < t'_c := ht'.2
    refine Tr.chunk (cx := ⟨tt0, ⟨fun f => kOf [] f, fun k _ _ _ => orcL [] k, fun t => memN [] t⟩, 0, fun r => ghL [] r⟩) tt0_ok hPm fun N hN => ?_
    generalize hp : std Tryd.prog = p
    generalize hv : nvS = nv
    cbv
    subst hp
    subst hv
    refine ⟨rfl, rfl, ?_⟩
    subst hN
    have hr := Option.some.inj h
    subst hr
    try dsimp only [noGoto, inBlockQ, thenQ]
    repeat (first | refine (if_pos rfl).mpr ?_ | refine (if_neg (by decide)).mpr ?_)
    refine retQ_ret rfl ?_ ?_
    · exact (And.intro (rfl)
          trivial)
    · exact (fun i _ _ j hj => by
            have hj2 : j < 1 := hj
            rcases (show j = 0 by omega) with rfl
            · exact (And.intro (rfl)
          (And.intro (by first | rfl | assumption | (symm; assumption) | ((try dsimp only [std_eq, stdN, nvS]) <;> first | rfl | omega | (simp (disch := first | omega | (simp only [lenL_set, lenL_app, lenL_cons, lenL_nil] <;> omega)) only [lenL_bytes, lenL_set, lenL_app, lenL_cons, lenL_nil, lenL_rep, lenL_sub, lenL_cpy, Int.ofNat_eq_natCast, Int.zero_add, Int.sub_zero] <;> try omega)))
          (And.intro (fun h => by cases h)
          (out0_all (fun i j => out_ranges_Row _ _) (fun i i0 i1 j hj => by (try dsimp only [std_eq, stdN, nvS] at i1); (try simp only [Int.ofNat_eq_natCast] at i1); (rcases (show j = 0 ∨ j = 1 ∨ j = 2 by omega) with rfl | rfl | rfl) <;> (conv => lhs; whnf) <;> (conv => rhs; whnf) <;> (try dsimp only [std_eq, stdN, nvS]) <;> (first | rfl | (simp (disch := first | omega | (simp only [lenL_set, lenL_app, lenL_cons, lenL_nil] <;> omega)) only [getL_bytes, getL_put, getL_app, getL_rep, getL_sub, getL_cpy, Int.zero_add, Int.sub_zero, beq_iff_eq, decide_eq_true_eq, Bool.and_eq_true] <;> first | rfl | (split <;> first | rfl | (simp (disch := first | omega | (simp only [lenL_set, lenL_app, lenL_cons, lenL_nil] <;> omega)) only [getL_one, getL_zero] <;> rfl)) | ((simp only [lenL_app, lenL_cons, lenL_nil, Int.ofNat_eq_natCast]) <;> (repeat' split) <;> first | rfl | (exfalso; omega) | (simp (disch := omega) only [getL_one, getL_zero] <;> rfl) | (congr 3; omega))))))))))
  · obtain ⟨v, h30⟩ : ∃ v, valO [] (strings_Split text (⟨#[44]⟩ : ByteArray)) = v := ⟨_, rfl⟩
    refine Tr.pre (cx := ⟨tt0, ⟨fun f => kOf [(48, 1)] f, fun k _ _ _ => orcL [(11, .own 1 (nvS.len v) false (fun i j => (.v (.string (nvS.get ByteArray.empty v i)))))] k, fun t => memN [] t⟩, 0, fun r => ghL [] r⟩) tt0_ok hPm 1 fun N hN => ?_
    generalize hp : std Tryd.prog = p
    generalize hv : nvS = nv
    cbv
    subst hp
    subst hv
    replace h := bindO_val h30 h; clear h30; obtain ⟨h30, h⟩ := h
    refine ⟨(Or.inl (PureFn.arg (strings_Split_ok text (⟨#[44]⟩ : ByteArray) v h30) (And.intro (LeD.refl _)
        (And.intro (LeD.refl _)
        trivial)))), ?_⟩
    subst hN
    show Tr _ _ _ _
    refine Tr.block ?_
    refine Tr.loopO (α := Int × List T_ranges_Row) (fun (v1, o1) t'1 => ⟨frm 58 [(1, .fn (.func 35) 0 (fun _ => .junk)), (4, .bref 4 (t'1.g 4) 0), (5, .bref 5 (t'1.g 5) 0), (11, .vec 11 (t'1.g 11) 1 0 (nvS.len v)), (12, .v (.int .i64 (nvS.len v))), (13, .v (.int .i64 v1))] 0, frO 58 [(4, .box (t'1.g 4) [.nilsl]), (5, .box (t'1.g 5) [.vec 54 (t'1.g 54) 3 0 (nvS.len o1)]), (11, .arr (t'1.g 11) 1 (nvS.len v) (t'1.t 11) (fun i j => (.v (.string (nvS.get ByteArray.empty v i))))), (54, .arr (t'1.g 54) 3 (nvS.len o1) (t'1.t 54) (fun i j => (D_ranges_Row nvS (nvS.get d_ranges_Row o1 i) j)))] 0, t'1.c⟩) (fun _ t => Hid.ok t) ⟨ctr + 13, gfn [(4, ctr + 0), (5, ctr + 1), (11, ctr + 2), (54, ctr + 3)], tfn [(4, false), (5, false), (11, false), (54, false)]⟩ h ?_ ?_ (fun x t'1 f ht'1 h => ?_)
    · exact Hid.mk_ok (by omega) (And.intro (by omega)
          (And.intro (by omega)
          (And.intro (by omega)
          (And.intro (by omega)
          trivial))))
    · refine GeSt.by [.thaw (.cell 5 0) 54 3] rfl ?_ ?_
      · exact trivial
      · exact LeSt.frame (show ctr + 4 < ctr + 13 by omega) rfl rfl (And.intro ⟨_, rfl, LeD.refl _⟩
            (And.intro ⟨_, rfl, LeD.refl _⟩
            (And.intro ⟨_, rfl, LeD.refl _⟩
            (And.intro ⟨_, rfl, LeD.refl _⟩
            (And.intro ⟨_, rfl, LeD.refl _⟩
            (And.intro ⟨_, rfl, LeD.refl _⟩
            trivial)))))) (And.intro ⟨_, rfl, LeOb.box (And.intro (LeD.refl _)
            trivial)⟩
            (And.intro ⟨_, rfl, LeOb.box (And.intro (LeD.refl _)
            trivial)⟩
            (And.intro ⟨_, rfl, LeOb.refl _⟩
            (And.intro ⟨_, rfl, LeOb.arr' rfl (fun i i0 i1 j hj => by exfalso; revert i1; show i < (0 : Int) → False; omega)⟩
            trivial))))
    · obtain ⟨v1, o1⟩ := x
      obtain ⟨t'1_c, t'1_g, t'1_t⟩ := t'1
      have ht'1_c : 0 < t'1_c := ht'1.1
      have ht'1_g : ∀ k, t'1_g k < t'1_c := ht'1.2
      refine Tr.pre (cx := ⟨tt0, ⟨fun f => kOf [] f, fun k _ _ _ => orcL [] k, fun t => memN [] t⟩, 0, fun r => ghL [] r⟩) tt0_ok hPm 2 fun N hN => ?_
      generalize hp : std Tryd.prog = p
      generalize hv : nvS = nv
      cbv
      subst hp
      subst hv
      refine ⟨fun h59 => ?_, fun h59 => ?_⟩
      · replace h := iteO_t h h59
        subst hN
        show Tr _ _ _ _
        refine Tr.cutSeq (α := List T_ranges_Row) h (fun o2 t'2 => ⟨frm 58 [(1, .fn (.func 35) 0 (fun _ => .junk)), (4, .bref 4 (t'2.g 4) 0), (5, .bref 5 (t'2.g 5) 0), (11, .vec 11 (t'2.g 11) 1 0 (nvS.len v)), (12, .v (.int .i64 (nvS.len v))), (13, .v (.int .i64 v1))] 0, frO 58 [(4, .box (t'2.g 4) [.nilsl]), (5, .box (t'2.g 5) [.vec 54 (t'2.g 54) 3 0 ((std Tryd.prog).add (nvS.len o1) 1)]), (11, .arr (t'2.g 11) 1 (nvS.len v) (t'2.t 11) (fun i j => (.v (.string (nvS.get ByteArray.empty v i))))), (54, .arr (t'2.g 54) 3 ((std Tryd.prog).add (nvS.len o1) 1) (t'2.t 54) (fun i j => (D_ranges_Row nvS (nvS.get d_ranges_Row o2 i) j)))] 0, t'2.c⟩) (fun o2 t => Hid.ok t ∧ lenL o2 = ((lenL o1) + 1)) (fun x t'2 ht'2 h => ?_) (fun f h => ?_)
        · revert h; revert ht'2; revert x; intro o2 ht'2 h
          obtain ⟨ht'2, ht'2_f0⟩ := ht'2
          obtain ⟨t'2_c, t'2_g, t'2_t⟩ := t'2
          have ht'2_c : 0 < t'2_c := ht'2.1
          have ht'2_g : ∀ k, t'2_g k < t'2_c := ht'2.2
          refine Tr.chunk (cx := ⟨tt0, ⟨fun f => kOf [] f, fun k _ _ _ => orcL [] k, fun t => memN [] t⟩, 0, fun r => ghL [] r⟩) tt0_ok hPm fun N hN => ?_
          generalize hp : std Tryd.prog = p
          generalize hv : nvS = nv
          cbv
          subst hp
          subst hv
          replace h := chk_some h; obtain ⟨h72, h⟩ := h
          refine ⟨h72, ?_⟩
          subst hN
          cases h
          show ∃ t', _ ∧ GeSt _ _ _
          refine ⟨⟨t'2_c + 10, gfn [(4, t'2_g 4), (5, t'2_g 5), (11, t'2_g 11), (54, t'2_g 54)], tfn [(4, false), (5, false), (11, t'2_t 11), (54, t'2_t 54)]⟩, Hid.mk_ok (by omega) (And.intro (by have := ht'2_g 4; omega)
              (And.intro (by have := ht'2_g 5; omega)
              (And.intro (by have := ht'2_g 11; omega)
              (And.intro (by have := ht'2_g 54; omega)
              trivial)))), ?_⟩
          exact GeSt.of (LeSt.frame (by show (_ : Nat) < _; (try dsimp only [std_eq, stdN]); omega) rfl rfl (And.intro ⟨_, rfl, LeD.refl _⟩
              (And.intro ⟨_, rfl, LeD.refl _⟩
              (And.intro ⟨_, rfl, LeD.refl _⟩
              (And.intro ⟨_, rfl, LeD.refl _⟩
              (And.intro ⟨_, rfl, LeD.refl _⟩
              (And.intro ⟨_, rfl, LeD.refl _⟩
              trivial)))))) (And.intro ⟨_, rfl, LeOb.box (And.intro (LeD.refl _)
              trivial)⟩
              (And.intro ⟨_, rfl, LeOb.box (And.intro (LeD.vec rfl (by first | rfl | assumption | (symm; assumption) | ((try dsimp only [std_eq, stdN, nvS]) <;> first | rfl | omega | (simp (disch := first | omega | (simp only [lenL_set, lenL_app, lenL_cons, lenL_nil] <;> omega)) only [lenL_bytes, lenL_set, lenL_app, lenL_cons, lenL_nil, lenL_rep, lenL_sub, lenL_cpy, Int.ofNat_eq_natCast, Int.zero_add, Int.sub_zero] <;> try omega))))
              trivial)⟩
              (And.intro ⟨_, rfl, LeOb.refl _⟩
              (And.intro ⟨_, rfl, LeOb.arrE (by first | rfl | assumption | (symm; assumption) | ((try dsimp only [std_eq, stdN, nvS]) <;> first | rfl | omega | (simp (disch := first | omega | (simp only [lenL_set, lenL_app, lenL_cons, lenL_nil] <;> omega)) only [lenL_bytes, lenL_set, lenL_app, lenL_cons, lenL_nil, lenL_rep, lenL_sub, lenL_cpy, Int.ofNat_eq_natCast, Int.zero_add, Int.sub_zero] <;> try omega))) (fun i i0 i1 j hj => by (try dsimp only [std_eq, stdN, nvS] at i1); (try simp only [Int.ofNat_eq_natCast] at i1); (rcases (show j = 0 ∨ j = 1 ∨ j = 2 by omega) with rfl | rfl | rfl) <;> (conv => lhs; whnf) <;> (conv => rhs; whnf) <;> (try dsimp only [std_eq, stdN, nvS]) <;> (first | rfl | (simp (disch := first | omega | (simp only [lenL_set, lenL_app, lenL_cons, lenL_nil] <;> omega)) only [getL_bytes, getL_put, getL_app, getL_rep, getL_sub, getL_cpy, Int.zero_add, Int.sub_zero, beq_iff_eq, decide_eq_true_eq, Bool.and_eq_true] <;> first | rfl | (split <;> first | rfl | (simp (disch := first | omega | (simp only [lenL_set, lenL_app, lenL_cons, lenL_nil] <;> omega)) only [getL_one, getL_zero] <;> rfl)) | ((simp only [lenL_app, lenL_cons, lenL_nil, Int.ofNat_eq_natCast]) <;> (repeat' split) <;> first | rfl | (exfalso; omega) | (simp (disch := omega) only [getL_one, getL_zero] <;> rfl) | (congr 3; omega)))))⟩
              trivial)))))
        · refine Tr.block ?_
          obtain ⟨v2, h74⟩ : ∃ v2, valO [] (ucd_words (getL ByteArray.empty v (0 + v1))) = v2 := ⟨_, rfl⟩
          refine Tr.pre (cx := ⟨tt0, ⟨fun f => kOf [(49, 1)] f, fun k _ _ _ => orcL [(18, .own 1 (nvS.len v2) false (fun i j => (.v (.string (nvS.get ByteArray.empty v2 i)))))] k, fun t => memN [] t⟩, 0, fun r => ghL [] r⟩) tt0_ok hPm 3 fun N hN => ?_
          generalize hp : std Tryd.prog = p
          generalize hv : nvS = nv
          cbv
          subst hp
          subst hv
          replace h := chk_some h; obtain ⟨h73, h⟩ := h
          refine ⟨h73, rfl, ?_⟩
          replace h := bindO_val h74 h; clear h74; obtain ⟨h74, h⟩ := h
          refine ⟨(Or.inl (PureFn.arg (ucd_words_ok (getL ByteArray.empty v (0 + v1)) v2 h74) (And.intro (LeD.refl _)
              trivial))), ?_⟩
          subst hN
          show Tr _ _ _ _
          refine Tr.cutSeq (α := Int × Int × Int) h (fun (b9_0, b9_1, b9_2) t'3 => ⟨frm 58 [(1, .fn (.func 35) 0 (fun _ => .junk)), (4, .bref 4 (t'3.g 4) 0), (5, .bref 5 (t'3.g 5) 0), (9, .bref 9 (t'3.g 9) 0), (11, .vec 11 (t'3.g 11) 1 0 (nvS.len v)), (12, .v (.int .i64 (nvS.len v))), (13, .v (.int .i64 v1))] 0, frO 58 [(4, .box (t'3.g 4) [.nilsl]), (5, .box (t'3.g 5) [.vec 54 (t'3.g 54) 3 0 (nvS.len o1)]), (9, .box (t'3.g 9) [.v (.int .i64 b9_0), .v (.int .i64 b9_1), .v (.int .i64 b9_2)]), (11, .arr (t'3.g 11) 1 (nvS.len v) (t'3.t 11) (fun i j => (.v (.string (nvS.get ByteArray.empty v i))))), (54, .arr (t'3.g 54) 3 (nvS.len o1) (t'3.t 54) (fun i j => (D_ranges_Row nvS (nvS.get d_ranges_Row o1 i) j)))] 0, t'3.c⟩) (fun _ t => Hid.ok t) (fun x t'3 ht'3 h => ?_) (fun f h => ?_)
          · obtain ⟨b9_0, b9_1, b9_2⟩ := x
            obtain ⟨t'3_c, t'3_g, t'3_t⟩ := t'3
            have ht'3_c : 0 < t'3_c := ht'3.1
            have ht'3_g : ∀ k, t'3_g k < t'3_c := ht'3.2
            refine Tr.chunk (cx := ⟨tt0, ⟨fun f => kOf [] f, fun k _ _ _ => orcL [] k, fun t => memN [53] t⟩, 0, fun r => ghL [] r⟩) tt0_ok hPm fun N hN => ?_
            generalize hp : std Tryd.prog = p
            generalize hv : nvS = nv
            cbv
            subst hp
            subst hv
            refine ⟨rfl, rfl, rfl, ?_⟩
            replace h := chk_some h; obtain ⟨h84, h⟩ := h
            refine ⟨rfl, rfl, rfl, (by have := ht'3_g 54; show (_ : Nat) < _; (try dsimp only [std_eq, stdN]); omega), h84, rfl, ?_⟩
            subst hN
            cases h
            show ∃ t', _ ∧ GeSt _ _ _
            refine ⟨⟨t'3_c + 11, gfn [(4, t'3_g 4), (5, t'3_g 5), (11, t'3_g 11), (54, t'3_c + 1)], tfn [(4, false), (5, false), (11, t'3_t 11), (54, false)]⟩, (And.intro (Hid.mk_ok (by omega) (And.intro (by have := ht'3_g 4; omega)
                (And.intro (by have := ht'3_g 5; omega)
                (And.intro (by have := ht'3_g 11; omega)
                (And.intro (by omega)
                trivial)))))
                (by first | rfl | assumption | (symm; assumption) | ((try dsimp only [std_eq, stdN, nvS]) <;> first | rfl | omega | (simp (disch := first | omega | (simp only [lenL_set, lenL_app, lenL_cons, lenL_nil] <;> omega)) only [lenL_bytes, lenL_set, lenL_app, lenL_cons, lenL_nil, lenL_rep, lenL_sub, lenL_cpy, Int.ofNat_eq_natCast, Int.zero_add, Int.sub_zero] <;> try omega)))), ?_⟩
            exact GeSt.of (LeSt.frame (by show (_ : Nat) < _; (try dsimp only [std_eq, stdN]); omega) rfl rfl (And.intro ⟨_, rfl, LeD.refl _⟩
                (And.intro ⟨_, rfl, LeD.refl _⟩
                (And.intro ⟨_, rfl, LeD.refl _⟩
                (And.intro ⟨_, rfl, LeD.refl _⟩
                (And.intro ⟨_, rfl, LeD.refl _⟩
                (And.intro ⟨_, rfl, LeD.refl _⟩
                trivial)))))) (And.intro ⟨_, rfl, LeOb.box (And.intro (LeD.refl _)
                trivial)⟩
                (And.intro ⟨_, rfl, LeOb.box (And.intro (LeD.refl _)
                trivial)⟩
                (And.intro ⟨_, rfl, LeOb.refl _⟩
                (And.intro ⟨_, rfl, LeOb.arrE (by first | rfl | assumption | (symm; assumption) | ((try dsimp only [std_eq, stdN, nvS]) <;> first | rfl | omega | (simp (disch := first | omega | (simp only [lenL_set, lenL_app, lenL_cons, lenL_nil] <;> omega)) only [lenL_bytes, lenL_set, lenL_app, lenL_cons, lenL_nil, lenL_rep, lenL_sub, lenL_cpy, Int.ofNat_eq_natCast, Int.zero_add, Int.sub_zero] <;> try omega))) (fun i i0 i1 j hj => by (try dsimp only [std_eq, stdN, nvS] at i1); (try simp only [Int.ofNat_eq_natCast] at i1); (rcases (show j = 0 ∨ j = 1 ∨ j = 2 by omega) with rfl | rfl | rfl) <;> (conv => lhs; whnf) <;> (conv => rhs; whnf) <;> (try dsimp only [std_eq, stdN, nvS]) <;> (first | rfl | (simp (disch := first | omega | (simp only [lenL_set, lenL_app, lenL_cons, lenL_nil] <;> omega)) only [getL_bytes, getL_put, getL_app, getL_rep, getL_sub, getL_cpy, Int.zero_add, Int.sub_zero, beq_iff_eq, decide_eq_true_eq, Bool.and_eq_true] <;> first | rfl | (split <;> first | rfl | (simp (disch := first | omega | (simp only [lenL_set, lenL_app, lenL_cons, lenL_nil] <;> omega)) only [getL_one, getL_zero] <;> rfl)) | ((simp only [lenL_app, lenL_cons, lenL_nil, Int.ofNat_eq_natCast]) <;> (repeat' split) <;> first | rfl | (exfalso; omega) | (simp (disch := omega) only [getL_one, getL_zero] <;> rfl) | (congr 3; omega)))))⟩
                trivial)))))
          · refine Tr.pre (cx := ⟨tt0, ⟨fun f => kOf [] f, fun k _ _ _ => orcL [] k, fun t => memN [] t⟩, 0, fun r => ghL [] r⟩) tt0_ok hPm 1 fun N hN => ?_
            generalize hp : std Tryd.prog = p
            generalize hv : nvS = nv
            cbv
            subst hp
            subst hv
            subst hN
            show Tr _ _ _ _
            refine Tr.block ?_
            refine Tr.cutSeq (α := Int) h (fun b9_11 t'4 => ⟨frm 58 [(1, .fn (.func 35) 0 (fun _ => .junk)), (4, .bref 4 (t'4.g 4) 0), (5, .bref 5 (t'4.g 5) 0), (8, .vec 18 (t'4.g 18) 1 0 (nvS.len v2)), (9, .bref 9 (t'4.g 9) 0), (11, .vec 11 (t'4.g 11) 1 0 (nvS.len v)), (12, .v (.int .i64 (nvS.len v))), (13, .v (.int .i64 v1))] 0, frO 58 [(4, .box (t'4.g 4) [.nilsl]), (5, .box (t'4.g 5) [.vec 54 (t'4.g 54) 3 0 (nvS.len o1)]), (9, .box (t'4.g 9) [.v (.int .i64 0), .v (.int .i64 b9_11), .v (.int .i64 0)]), (11, .arr (t'4.g 11) 1 (nvS.len v) (t'4.t 11) (fun i j => (.v (.string (nvS.get ByteArray.empty v i))))), (18, .arr (t'4.g 18) 1 (nvS.len v2) (t'4.t 18) (fun i j => (.v (.string (nvS.get ByteArray.empty v2 i))))), (54, .arr (t'4.g 54) 3 (nvS.len o1) (t'4.t 54) (fun i j => (D_ranges_Row nvS (nvS.get d_ranges_Row o1 i) j)))] 0, t'4.c⟩) (fun _ t => Hid.ok t) (fun x t'4 ht'4 h => ?_) (fun f h => ?_)
            · revert h; revert ht'4; revert x; intro b9_11 ht'4 h
              obtain ⟨t'4_c, t'4_g, t'4_t⟩ := t'4
              have ht'4_c : 0 < t'4_c := ht'4.1
              have ht'4_g : ∀ k, t'4_g k < t'4_c := ht'4.2
              obtain ⟨v3, h90⟩ : ∃ v3, valO 0 (ucd_hex (getL ByteArray.empty v2 (0 + 0))) = v3 := ⟨_, rfl⟩
              obtain ⟨v4, h93⟩ : ∃ v4, valO 0 (ucd_wideName (getL ByteArray.empty v2 (0 + ((lenL v2) - 1)))) = v4 := ⟨_, rfl⟩
              refine Tr.chunk (cx := ⟨tt0, ⟨fun f => kOf [] f, fun k _ _ _ => orcL [(33, .plain (.v (.int .i64 v3))), (41, .plain (.v (.int .i64 v4)))] k, fun t => memN [] t⟩, 0, fun r => ghL [] r⟩) tt0_ok hPm fun N hN => ?_
              generalize hp : std Tryd.prog = p
              generalize hv : nvS = nv
              cbv
              subst hp
              subst hv
              replace h := chk_some h; obtain ⟨h89, h⟩ := h
              replace h := bindO_val h90 h; clear h90; obtain ⟨h90, h⟩ := h
              replace h := chk_some h; obtain ⟨h91, h⟩ := h
              replace h := chk_some h; obtain ⟨h92, h⟩ := h
              replace h := bindO_val h93 h; clear h93; obtain ⟨h93, h⟩ := h
              refine ⟨h89, rfl, (Or.inl (PureFn.arg (ucd_hex_ok (getL ByteArray.empty v2 (0 + 0)) v3 h90) (And.intro (LeD.refl _)
                  trivial))), h91, h92, rfl, (Or.inl (PureFn.arg (ucd_wideName_ok (getL ByteArray.empty v2 (0 + ((lenL v2) - 1))) v4 h93) (And.intro (LeD.refl _)
                  trivial))), rfl, rfl, (show drOk _ _ = true by kernel_rfl), ?_⟩
              subst hN
              cases h
              show ∃ t', _ ∧ GeSt _ _ _
              refine ⟨⟨t'4_c + 10, gfn [(4, t'4_g 4), (5, t'4_g 5), (9, t'4_g 9), (11, t'4_g 11), (54, t'4_g 54)], tfn [(4, false), (5, false), (9, false), (11, t'4_t 11), (54, t'4_t 54)]⟩, Hid.mk_ok (by omega) (And.intro (by have := ht'4_g 4; omega)
                  (And.intro (by have := ht'4_g 5; omega)
                  (And.intro (by have := ht'4_g 9; omega)
                  (And.intro (by have := ht'4_g 11; omega)
                  (And.intro (by have := ht'4_g 54; omega)
                  trivial))))), ?_⟩
              exact GeSt.of (LeSt.frame (by show (_ : Nat) < _; (try dsimp only [std_eq, stdN]); omega) rfl rfl (And.intro ⟨_, rfl, LeD.refl _⟩
                  (And.intro ⟨_, rfl, LeD.refl _⟩
                  (And.intro ⟨_, rfl, LeD.refl _⟩
                  (And.intro ⟨_, rfl, LeD.refl _⟩
                  (And.intro ⟨_, rfl, LeD.refl _⟩
                  (And.intro ⟨_, rfl, LeD.refl _⟩
                  (And.intro ⟨_, rfl, LeD.refl _⟩
                  trivial))))))) (And.intro ⟨_, rfl, LeOb.box (And.intro (LeD.refl _)
                  trivial)⟩
                  (And.intro ⟨_, rfl, LeOb.box (And.intro (LeD.refl _)
                  trivial)⟩
                  (And.intro ⟨_, rfl, LeOb.box (And.intro (LeD.refl _)
                  (And.intro (LeD.refl _)
                  (And.intro (LeD.refl _)
                  trivial)))⟩
                  (And.intro ⟨_, rfl, LeOb.refl _⟩
                  (And.intro ⟨_, rfl, LeOb.refl _⟩
                  trivial))))))
            · obtain ⟨v5, h96⟩ : ∃ v5, valO 0 (ucd_hex (getL ByteArray.empty v2 (0 + 1))) = v5 := ⟨_, rfl⟩
              refine Tr.chunk (cx := ⟨tt0, ⟨fun f => kOf [] f, fun k _ _ _ => orcL [(28, .plain (.v (.int .i64 v5)))] k, fun t => memN [] t⟩, 0, fun r => ghL [] r⟩) tt0_ok hPm fun N hN => ?_
              generalize hp : std Tryd.prog = p
              generalize hv : nvS = nv
              cbv
              subst hp
              subst hv
              refine ⟨fun h94 => ?_, fun h94 => ?_⟩
              · replace h := iteO_t h h94
                replace h := chk_some h; obtain ⟨h95, h⟩ := h
                replace h := bindO_val h96 h; clear h96; obtain ⟨h96, h⟩ := h
                refine ⟨h95, rfl, (Or.inl (PureFn.arg (ucd_hex_ok (getL ByteArray.empty v2 (0 + 1)) v5 h96) (And.intro (LeD.refl _)
                    trivial))), rfl, ?_⟩
                subst hN
                cases h
                show ∃ t', _ ∧ GeSt _ _ _
                refine ⟨⟨t'1_c + 16, gfn [(4, t'1_g 4), (5, t'1_g 5), (9, t'1_c + 3), (11, t'1_g 11), (18, t'1_c + 2), (54, t'1_g 54)], tfn [(4, false), (5, false), (9, false), (11, t'1_t 11), (18, false), (54, t'1_t 54)]⟩, Hid.mk_ok (by omega) (And.intro (by have := ht'1_g 4; omega)
                    (And.intro (by have := ht'1_g 5; omega)
                    (And.intro (by omega)
                    (And.intro (by have := ht'1_g 11; omega)
                    (And.intro (by omega)
                    (And.intro (by have := ht'1_g 54; omega)
                    trivial)))))), ?_⟩
                exact GeSt.of (LeSt.frame (by show (_ : Nat) < _; (try dsimp only [std_eq, stdN]); omega) rfl rfl (And.intro ⟨_, rfl, LeD.refl _⟩
                    (And.intro ⟨_, rfl, LeD.refl _⟩
                    (And.intro ⟨_, rfl, LeD.refl _⟩
                    (And.intro ⟨_, rfl, LeD.refl _⟩
                    (And.intro ⟨_, rfl, LeD.refl _⟩
                    (And.intro ⟨_, rfl, LeD.refl _⟩
                    (And.intro ⟨_, rfl, LeD.refl _⟩
                    (And.intro ⟨_, rfl, LeD.refl _⟩
                    trivial)))))))) (And.intro ⟨_, rfl, LeOb.box (And.intro (LeD.refl _)
                    trivial)⟩
                    (And.intro ⟨_, rfl, LeOb.box (And.intro (LeD.refl _)
                    trivial)⟩
                    (And.intro ⟨_, rfl, LeOb.box (And.intro (LeD.refl _)
                    (And.intro (LeD.refl _)
                    (And.intro (LeD.refl _)
                    trivial)))⟩
                    (And.intro ⟨_, rfl, LeOb.refl _⟩
                    (And.intro ⟨_, rfl, LeOb.refl _⟩
                    (And.intro ⟨_, rfl, LeOb.refl _⟩
                    trivial)))))))
              · replace h := iteO_f h h94
                refine ⟨fun h97 => ?_, fun h97 => ?_⟩
                · replace h := iteO_t h h97
                  subst hN
                  cases h
                  show ∃ t', _ ∧ GeSt _ _ _
                  refine ⟨⟨t'1_c + 16, gfn [(4, t'1_g 4), (5, t'1_g 5), (9, t'1_c + 3), (11, t'1_g 11), (18, t'1_c + 2), (54, t'1_g 54)], tfn [(4, false), (5, false), (9, false), (11, t'1_t 11), (18, false), (54, t'1_t 54)]⟩, Hid.mk_ok (by omega) (And.intro (by have := ht'1_g 4; omega)
                      (And.intro (by have := ht'1_g 5; omega)
                      (And.intro (by omega)
                      (And.intro (by have := ht'1_g 11; omega)
                      (And.intro (by omega)
                      (And.intro (by have := ht'1_g 54; omega)
                      trivial)))))), ?_⟩
                  exact GeSt.of (LeSt.frame (by show (_ : Nat) < _; (try dsimp only [std_eq, stdN]); omega) rfl rfl (And.intro ⟨_, rfl, LeD.refl _⟩
                      (And.intro ⟨_, rfl, LeD.refl _⟩
                      (And.intro ⟨_, rfl, LeD.refl _⟩
                      (And.intro ⟨_, rfl, LeD.refl _⟩
                      (And.intro ⟨_, rfl, LeD.refl _⟩
                      (And.intro ⟨_, rfl, LeD.refl _⟩
                      (And.intro ⟨_, rfl, LeD.refl _⟩
                      (And.intro ⟨_, rfl, LeD.refl _⟩
                      trivial)))))))) (And.intro ⟨_, rfl, LeOb.box (And.intro (LeD.refl _)
                      trivial)⟩
                      (And.intro ⟨_, rfl, LeOb.box (And.intro (LeD.refl _)
                      trivial)⟩
                      (And.intro ⟨_, rfl, LeOb.box (And.intro (LeD.refl _)
                      (And.intro (LeD.refl _)
                      (And.intro (LeD.refl _)
                      trivial)))⟩
                      (And.intro ⟨_, rfl, LeOb.refl _⟩
                      (And.intro ⟨_, rfl, LeOb.refl _⟩
                      (And.intro ⟨_, rfl, LeOb.refl _⟩
                      trivial)))))))
                · replace h := iteO_f h h97
                  subst hN
                  cases h
                  intro he; cases he
                  show ∃ t', _ ∧ GeSt _ _ _
                  refine ⟨⟨t'1_c + 16, gfn [(4, t'1_g 4), (5, t'1_g 5), (9, t'1_c + 3), (11, t'1_g 11), (54, t'1_g 54)], tfn [(4, false), (5, false), (9, false), (11, t'1_t 11), (54, t'1_t 54)]⟩, Hid.mk_ok (by omega) (And.intro (by have := ht'1_g 4; omega)
                      (And.intro (by have := ht'1_g 5; omega)
                      (And.intro (by omega)
                      (And.intro (by have := ht'1_g 11; omega)
                      (And.intro (by have := ht'1_g 54; omega)
                      trivial))))), ?_⟩
                  exact GeSt.of (LeSt.frame (by show (_ : Nat) < _; (try dsimp only [std_eq, stdN]); omega) rfl rfl (And.intro ⟨_, rfl, LeD.refl _⟩
                      (And.intro ⟨_, rfl, LeD.refl _⟩
                      (And.intro ⟨_, rfl, LeD.refl _⟩
                      (And.intro ⟨_, rfl, LeD.refl _⟩
                      (And.intro ⟨_, rfl, LeD.refl _⟩
                      (And.intro ⟨_, rfl, LeD.refl _⟩
                      (And.intro ⟨_, rfl, LeD.refl _⟩
                      trivial))))))) (And.intro ⟨_, rfl, LeOb.box (And.intro (LeD.refl _)
                      trivial)⟩
                      (And.intro ⟨_, rfl, LeOb.box (And.intro (LeD.refl _)
                      trivial)⟩
                      (And.intro ⟨_, rfl, LeOb.box (And.intro (LeD.refl _)
                      (And.intro (LeD.refl _)
                      (And.intro (LeD.refl _)
                      trivial)))⟩
                      (And.intro ⟨_, rfl, LeOb.refl _⟩
                      (And.intro ⟨_, rfl, LeOb.refl _⟩
                      trivial))))))
      · replace h := iteO_f h h59
        subst hN
        cases h
        intro he; cases he
        show ∃ t', _ ∧ GeSt _ _ _
        refine ⟨⟨t'1_c + 10, gfn [(4, t'1_g 4), (5, t'1_g 5), (54, t'1_g 54)], tfn [(4, false), (5, false), (54, t'1_t 54)]⟩, Hid.mk_ok (by omega) (And.intro (by have := ht'1_g 4; omega)
            (And.intro (by have := ht'1_g 5; omega)
            (And.intro (by have := ht'1_g 54; omega)
            trivial))), ?_⟩
        exact GeSt.of (LeSt.frame (by show (_ : Nat) < _; (try dsimp only [std_eq, stdN]); omega) rfl rfl (And.intro ⟨_, rfl, LeD.refl _⟩
            (And.intro ⟨_, rfl, LeD.refl _⟩
            trivial)) (And.intro ⟨_, rfl, LeOb.box (And.intro (LeD.refl _)
            trivial)⟩
            (And.intro ⟨_, rfl, LeOb.box (And.intro (LeD.vec rfl (by first | rfl | assumption | (symm; assumption) | ((try dsimp only [std_eq, stdN, nvS]) <;> first | rfl | omega | (simp (disch := first | omega | (simp only [lenL_set, lenL_app, lenL_cons, lenL_nil] <;> omega)) only [lenL_bytes, lenL_set, lenL_app, lenL_cons, lenL_nil, lenL_rep, lenL_sub, lenL_cpy, Int.ofNat_eq_natCast, Int.zero_add, Int.sub_zero] <;> try omega))))
            trivial)⟩
            (And.intro ⟨_, rfl, LeOb.arrE (by first | rfl | assumption | (symm; assumption) | ((try dsimp only [std_eq, stdN, nvS]) <;> first | rfl | omega | (simp (disch := first | omega | (simp only [lenL_set, lenL_app, lenL_cons, lenL_nil] <;> omega)) only [lenL_bytes, lenL_set, lenL_app, lenL_cons, lenL_nil, lenL_rep, lenL_sub, lenL_cpy, Int.ofNat_eq_natCast, Int.zero_add, Int.sub_zero] <;> try omega))) (fun i i0 i1 j hj => by (try dsimp only [std_eq, stdN, nvS] at i1); (try simp only [Int.ofNat_eq_natCast] at i1); (rcases (show j = 0 ∨ j = 1 ∨ j = 2 by omega) with rfl | rfl | rfl) <;> (conv => lhs; whnf) <;> (conv => rhs; whnf) <;> (try dsimp only [std_eq, stdN, nvS]) <;> (first | rfl | (simp (disch := first | omega | (simp only [lenL_set, lenL_app, lenL_cons, lenL_nil] <;> omega)) only [getL_bytes, getL_put, getL_app, getL_rep, getL_sub, getL_cpy, Int.zero_add, Int.sub_zero, beq_iff_eq, decide_eq_true_eq, Bool.and_eq_true] <;> first | rfl | (split <;> first | rfl | (simp (disch := first | omega | (simp only [lenL_set, lenL_app, lenL_cons, lenL_nil] <;> omega)) only [getL_one, getL_zero] <;> rfl)) | ((simp only [lenL_app, lenL_cons, lenL_nil, Int.ofNat_eq_natCast]) <;> (repeat' split) <;> first | rfl | (exfalso; omega) | (simp (disch := omega) only [getL_one, getL_zero] <;> rfl) | (congr 3; omega)))))⟩
            trivial))))

theorem ucd_table_join_ok (text : ByteArray) (r : T_ranges_Table) (h : ucd_table_join text = some r) : PureFn Tryd.prog 33 [(.v (.string text)), .fn (.func 36) 0 (fun _ => .junk)] ((.agg 1 (fun j => (D_ranges_Table nvS r j)))) := by
  unfold ucd_table_join at h
  refine fn_tr tt0_ok Tryd.func33 (by kernel_rfl) (c := bodyOf Tryd.f33) (by kernel_rfl) ?_
  intro ctr hc
  refine Tr.pre (cx := ⟨tt0, ⟨fun f => kOf [] f, fun k _ _ _ => orcL [] k, fun t => memN [] t⟩, 0, fun r => ghL [] r⟩) tt0_ok hPm 2 fun N hN => ?_
  generalize hp : std Tryd.prog = p
  generalize hv : nvS = nv
  cbv
  subst hp
  subst hv
  subst hN
  show Tr _ _ _ _
  refine Tr.cutSeq (α := List T_ranges_Row) h (fun o t' => ⟨frm 58 [(4, .bref 4 (t'.g 4) 0), (5, .bref 5 (t'.g 5) 0)] 0, frO 58 [(4, .box (t'.g 4) [.nilsl]), (5, .box (t'.g 5) [.vec 54 (t'.g 54) 3 0 (nvS.len o)]), (54, .arr (t'.g 54) 3 (nvS.len o) (t'.t 54) (fun i j => (D_ranges_Row nvS (nvS.get d_ranges_Row o i) j)))] 0, t'.c⟩) (fun _ t => Hid.ok t) (fun x t' ht' h => ?_) (fun f h => ?_)
  · revert h; revert ht'; revert x; intro o ht' h
    obtain ⟨t'_c, t'_g, t'_t⟩ := t'
    have ht'_c : 0 < t'_c := ht'.1
    have ht'_g : ∀ k, t'_g k < t'_c := ht'.2
    refine Tr.chunk (cx := ⟨tt0, ⟨fun f => kOf [] f, fun k _ _ _ => orcL [] k, fun t => memN [] t⟩, 0, fun r => ghL [] r⟩) tt0_ok hPm fun N hN => ?_
    generalize hp : std Tryd.prog = p
    generalize hv : nvS = nv
    cbv
    subst hp
    subst hv
    refine ⟨rfl, rfl, ?_⟩
    subst hN
    have hr := Option.some.inj h
    subst hr
    try dsimp only [noGoto, inBlockQ, thenQ]
    repeat (first | refine (if_pos rfl).mpr ?_ | refine (if_neg (by decide)).mpr ?_)
    refine retQ_ret rfl ?_ ?_
    · exact (And.intro (rfl)
          trivial)
    · exact (fun i _ _ j hj => by
            have hj2 : j < 1 := hj
            rcases (show j = 0 by omega) with rfl
            · exact (And.intro (rfl)
          (And.intro (by first | rfl | assumption | (symm; assumption) | ((try dsimp only [std_eq, stdN, nvS]) <;> first | rfl | omega | (simp (disch := first | omega | (simp only [lenL_set, lenL_app, lenL_cons, lenL_nil] <;> omega)) only [lenL_bytes, lenL_set, lenL_app, lenL_cons, lenL_nil, lenL_rep, lenL_sub, lenL_cpy, Int.ofNat_eq_natCast, Int.zero_add, Int.sub_zero] <;> try omega)))
          (And.intro (fun h => by cases h)
          (out0_all (fun i j => out_ranges_Row _ _) (fun i i0 i1 j hj => by (try dsimp only [std_eq, stdN, nvS] at i1); (try simp only [Int.ofNat_eq_natCast] at i1); (rcases (show j = 0 ∨ j = 1 ∨ j = 2 by omega) with rfl | rfl | rfl) <;> (conv => lhs; whnf) <;> (conv => rhs; whnf) <;> (try dsimp only [std_eq, stdN, nvS]) <;> (first | rfl | (simp (disch := first | omega | (simp only [lenL_set, lenL_app, lenL_cons, lenL_nil] <;> omega)) only [getL_bytes, getL_put, getL_app, getL_rep, getL_sub, getL_cpy, Int.zero_add, Int.sub_zero, beq_iff_eq, decide_eq_true_eq, Bool.and_eq_true] <;> first | rfl | (split <;> first | rfl | (simp (disch := first | omega | (simp only [lenL_set, lenL_app, lenL_cons, lenL_nil] <;> omega)) only [getL_one, getL_zero] <;> rfl)) | ((simp only [lenL_app, lenL_cons, lenL_nil, Int.ofNat_eq_natCast]) <;> (repeat' split) <;> first | rfl | (exfalso; omega) | (simp (disch := omega) only [getL_one, getL_zero] <;> rfl) | (congr 3; omega))))))))))
  · obtain ⟨v, h30⟩ : ∃ v, valO [] (strings_Split text (⟨#[44]⟩ : ByteArray)) = v := ⟨_, rfl⟩
    refine Tr.pre (cx := ⟨tt0, ⟨fun f => kOf [(48, 1)] f, fun k _ _ _ => orcL [(11, .own 1 (nvS.len v) false (fun i j => (.v (.string (nvS.get ByteArray.empty v i)))))] k, fun t => memN [] t⟩, 0, fun r => ghL [] r⟩) tt0_ok hPm 1 fun N hN => ?_
    generalize hp : std Tryd.prog = p
    generalize hv : nvS = nv
    cbv
    subst hp
    subst hv
    replace h := bindO_val h30 h; clear h30; obtain ⟨h30, h⟩ := h
    refine ⟨(Or.inl (PureFn.arg (strings_Split_ok text (⟨#[44]⟩ : ByteArray) v h30) (And.intro (LeD.refl _)
        (And.intro (LeD.refl _)
        trivial)))), ?_⟩
    subst hN
    show Tr _ _ _ _
    refine Tr.block ?_
    refine Tr.loopO (α := Int × List T_ranges_Row) (fun (v1, o1) t'1 => ⟨frm 58 [(1, .fn (.func 36) 0 (fun _ => .junk)), (4, .bref 4 (t'1.g 4) 0), (5, .bref 5 (t'1.g 5) 0), (11, .vec 11 (t'1.g 11) 1 0 (nvS.len v)), (12, .v (.int .i64 (nvS.len v))), (13, .v (.int .i64 v1))] 0, frO 58 [(4, .box (t'1.g 4) [.nilsl]), (5, .box (t'1.g 5) [.vec 54 (t'1.g 54) 3 0 (nvS.len o1)]), (11, .arr (t'1.g 11) 1 (nvS.len v) (t'1.t 11) (fun i j => (.v (.string (nvS.get ByteArray.empty v i))))), (54, .arr (t'1.g 54) 3 (nvS.len o1) (t'1.t 54) (fun i j => (D_ranges_Row nvS (nvS.get d_ranges_Row o1 i) j)))] 0, t'1.c⟩) (fun _ t => Hid.ok t) ⟨ctr + 13, gfn [(4, ctr + 0), (5, ctr + 1), (11, ctr + 2), (54, ctr + 3)], tfn [(4, false), (5, false), (11, false), (54, false)]⟩ h ?_ ?_ (fun x t'1 f ht'1 h => ?_)
    · exact Hid.mk_ok (by omega) (And.intro (by omega)
          (And.intro (by omega)
          (And.intro (by omega)
          (And.intro (by omega)
          trivial))))
    · refine GeSt.by [.thaw (.cell 5 0) 54 3] rfl ?_ ?_
      · exact trivial
      · exact LeSt.frame (show ctr + 4 < ctr + 13 by omega) rfl rfl (And.intro ⟨_, rfl, LeD.refl _⟩
            (And.intro ⟨_, rfl, LeD.refl _⟩
            (And.intro ⟨_, rfl, LeD.refl _⟩
            (And.intro ⟨_, rfl, LeD.refl _⟩
            (And.intro ⟨_, rfl, LeD.refl _⟩
            (And.intro ⟨_, rfl, LeD.refl _⟩
            trivial)))))) (And.intro ⟨_, rfl, LeOb.box (And.intro (LeD.refl _)
            trivial)⟩
            (And.intro ⟨_, rfl, LeOb.box (And.intro (LeD.refl _)
            trivial)⟩
            (And.intro ⟨_, rfl, LeOb.refl _⟩
            (And.intro ⟨_, rfl, LeOb.arr' rfl (fun i i0 i1 j hj => by exfalso; revert i1; show i < (0 : Int) → False; omega)⟩
            trivial))))
    · obtain ⟨v1, o1⟩ := x
      obtain ⟨t'1_c, t'1_g, t'1_t⟩ := t'1
      have ht'1_c : 0 < t'1_c := ht'1.1
      have ht'1_g : ∀ k, t'1_g k < t'1_c := ht'1.2
      refine Tr.pre (cx := ⟨tt0, ⟨fun f => kOf [] f, fun k _ _ _ => orcL [] k, fun t => memN [] t⟩, 0, fun r => ghL [] r⟩) tt0_ok hPm 2 fun N hN => ?_
      generalize hp : std Tryd.prog = p
      generalize hv : nvS = nv
      cbv
      subst hp
      subst hv
      refine ⟨fun h59 => ?_, fun h59 => ?_⟩
      · replace h := iteO_t h h59
        subst hN
        show Tr _ _ _ _
        refine Tr.cutSeq (α := List T_ranges_Row) h (fun o2 t'2 => ⟨frm 58 [(1, .fn (.func 36) 0 (fun _ => .junk)), (4, .bref 4 (t'2.g 4) 0), (5, .bref 5 (t'2.g 5) 0), (11, .vec 11 (t'2.g 11) 1 0 (nvS.len v)), (12, .v (.int .i64 (nvS.len v))), (13, .v (.int .i64 v1))] 0, frO 58 [(4, .box (t'2.g 4) [.nilsl]), (5, .box (t'2.g 5) [.vec 54 (t'2.g 54) 3 0 ((std Tryd.prog).add (nvS.len o1) 1)]), (11, .arr (t'2.g 11) 1 (nvS.len v) (t'2.t 11) (fun i j => (.v (.string (nvS.get ByteArray.empty v i))))), (54, .arr (t'2.g 54) 3 ((std Tryd.prog).add (nvS.len o1) 1) (t'2.t 54) (fun i j => (D_ranges_Row nvS (nvS.get d_ranges_Row o2 i) j)))] 0, t'2.c⟩) (fun o2 t => Hid.ok t ∧ lenL o2 = ((lenL o1) + 1)) (fun x t'2 ht'2 h => ?_) (fun f h => ?_)
        · revert h; revert ht'2; revert x; intro o2 ht'2 h
          obtain ⟨ht'2, ht'2_f0⟩ := ht'2
          obtain ⟨t'2_c, t'2_g, t'2_t⟩ := t'2
          have ht'2_c : 0 < t'2_c := ht'2.1
          have ht'2_g : ∀ k, t'2_g k < t'2_c := ht'2.2
          refine Tr.chunk (cx := ⟨tt0, ⟨fun f => kOf [] f, fun k _ _ _ => orcL [] k, fun t => memN [] t⟩, 0, fun r => ghL [] r⟩) tt0_ok hPm fun N hN => ?_
          generalize hp : std Tryd.prog = p
          generalize hv : nvS = nv
          cbv
          subst hp
          subst hv
          replace h := chk_some h; obtain ⟨h72, h⟩ := h
          refine ⟨h72, ?_⟩
          subst hN
          cases h
          show ∃ t', _ ∧ GeSt _ _ _
          refine ⟨⟨t'2_c + 10, gfn [(4, t'2_g 4), (5, t'2_g 5), (11, t'2_g 11), (54, t'2_g 54)], tfn [(4, false), (5, false), (11, t'2_t 11), (54, t'2_t 54)]⟩, Hid.mk_ok (by omega) (And.intro (by have := ht'2_g 4; omega)
              (And.intro (by have := ht'2_g 5; omega)
              (And.intro (by have := ht'2_g 11; omega)
              (And.intro (by have := ht'2_g 54; omega)
              trivial)))), ?_⟩
          exact GeSt.of (LeSt.frame (by show (_ : Nat) < _; (try dsimp only [std_eq, stdN]); omega) rfl rfl (And.intro ⟨_, rfl, LeD.refl _⟩
              (And.intro ⟨_, rfl, LeD.refl _⟩
              (And.intro ⟨_, rfl, LeD.refl _⟩
              (And.intro ⟨_, rfl, LeD.refl _⟩
              (And.intro ⟨_, rfl, LeD.refl _⟩
              (And.intro ⟨_, rfl, LeD.refl _⟩
              trivial)))))) (And.intro ⟨_, rfl, LeOb.box (And.intro (LeD.refl _)
              trivial)⟩
              (And.intro ⟨_, rfl, LeOb.box (And.intro (LeD.vec rfl (by first | rfl | assumption | (symm; assumption) | ((try dsimp only [std_eq, stdN, nvS]) <;> first | rfl | omega | (simp (disch := first | omega | (simp only [lenL_set, lenL_app, lenL_cons, lenL_nil] <;> omega)) only [lenL_bytes, lenL_set, lenL_app, lenL_cons, lenL_nil, lenL_rep, lenL_sub, lenL_cpy, Int.ofNat_eq_natCast, Int.zero_add, Int.sub_zero] <;> try omega))))
              trivial)⟩
              (And.intro ⟨_, rfl, LeOb.refl _⟩
              (And.intro ⟨_, rfl, LeOb.arrE (by first | rfl | assumption | (symm; assumption) | ((try dsimp only [std_eq, stdN, nvS]) <;> first | rfl | omega | (simp (disch := first | omega | (simp only [lenL_set, lenL_app, lenL_cons, lenL_nil] <;> omega)) only [lenL_bytes, lenL_set, lenL_app, lenL_cons, lenL_nil, lenL_rep, lenL_sub, lenL_cpy, Int.ofNat_eq_natCast, Int.zero_add, Int.sub_zero] <;> try omega))) (fun i i0 i1 j hj => by (try dsimp only [std_eq, stdN, nvS] at i1); (try simp only [Int.ofNat_eq_natCast] at i1); (rcases (show j = 0 ∨ j = 1 ∨ j = 2 by omega) with rfl | rfl | rfl) <;> (conv => lhs; whnf) <;> (conv => rhs; whnf) <;> (try dsimp only [std_eq, stdN, nvS]) <;> (first | rfl | (simp (disch := first | omega | (simp only [lenL_set, lenL_app, lenL_cons, lenL_nil] <;> omega)) only [getL_bytes, getL_put, getL_app, getL_rep, getL_sub, getL_cpy, Int.zero_add, Int.sub_zero, beq_iff_eq, decide_eq_true_eq, Bool.and_eq_true] <;> first | rfl | (split <;> first | rfl | (simp (disch := first | omega | (simp only [lenL_set, lenL_app, lenL_cons, lenL_nil] <;> omega)) only [getL_one, getL_zero] <;> rfl)) | ((simp only [lenL_app, lenL_cons, lenL_nil, Int.ofNat_eq_natCast]) <;> (repeat' split) <;> first | rfl | (exfalso; omega) | (simp (disch := omega) only [getL_one, getL_zero] <;> rfl) | (congr 3; omega)))))⟩
              trivial)))))
        · refine Tr.block ?_
          obtain ⟨v2, h74⟩ : ∃ v2, valO [] (ucd_words (getL ByteArray.empty v (0 + v1))) = v2 := ⟨_, rfl⟩
          refine Tr.pre (cx := ⟨tt0, ⟨fun f => kOf [(49, 1)] f, fun k _ _ _ => orcL [(18, .own 1 (nvS.len v2) false (fun i j => (.v (.string (nvS.get ByteArray.empty v2 i)))))] k, fun t => memN [] t⟩, 0, fun r => ghL [] r⟩) tt0_ok hPm 3 fun N hN => ?_
          generalize hp : std Tryd.prog = p
          generalize hv : nvS = nv
          cbv
          subst hp
          subst hv
          replace h := chk_some h; obtain ⟨h73, h⟩ := h
          refine ⟨h73, rfl, ?_⟩
          replace h := bindO_val h74 h; clear h74; obtain ⟨h74, h⟩ := h
          refine ⟨(Or.inl (PureFn.arg (ucd_words_ok (getL ByteArray.empty v (0 + v1)) v2 h74) (And.intro (LeD.refl _)
              trivial))), ?_⟩
          subst hN
          show Tr _ _ _ _
          refine Tr.cutSeq (α := Int × Int × Int) h (fun (b9_0, b9_1, b9_2) t'3 => ⟨frm 58 [(1, .fn (.func 36) 0 (fun _ => .junk)), (4, .bref 4 (t'3.g 4) 0), (5, .bref 5 (t'3.g 5) 0), (9, .bref 9 (t'3.g 9) 0), (11, .vec 11 (t'3.g 11) 1 0 (nvS.len v)), (12, .v (.int .i64 (nvS.len v))), (13, .v (.int .i64 v1))] 0, frO 58 [(4, .box (t'3.g 4) [.nilsl]), (5, .box (t'3.g 5) [.vec 54 (t'3.g 54) 3 0 (nvS.len o1)]), (9, .box (t'3.g 9) [.v (.int .i64 b9_0), .v (.int .i64 b9_1), .v (.int .i64 b9_2)]), (11, .arr (t'3.g 11) 1 (nvS.len v) (t'3.t 11) (fun i j => (.v (.string (nvS.get ByteArray.empty v i))))), (54, .arr (t'3.g 54) 3 (nvS.len o1) (t'3.t 54) (fun i j => (D_ranges_Row nvS (nvS.get d_ranges_Row o1 i) j)))] 0, t'3.c⟩) (fun _ t => Hid.ok t) (fun x t'3 ht'3 h => ?_) (fun f h => ?_)
          · obtain ⟨b9_0, b9_1, b9_2⟩ := x
            obtain ⟨t'3_c, t'3_g, t'3_t⟩ := t'3
            have ht'3_c : 0 < t'3_c := ht'3.1
            have ht'3_g : ∀ k, t'3_g k < t'3_c := ht'3.2
            refine Tr.chunk (cx := ⟨tt0, ⟨fun f => kOf [] f, fun k _ _ _ => orcL [] k, fun t => memN [53] t⟩, 0, fun r => ghL [] r⟩) tt0_ok hPm fun N hN => ?_
            generalize hp : std Tryd.prog = p
            generalize hv : nvS = nv
            cbv
            subst hp
            subst hv
            refine ⟨rfl, rfl, rfl, ?_⟩
            replace h := chk_some h; obtain ⟨h84, h⟩ := h
            refine ⟨rfl, rfl, rfl, (by have := ht'3_g 54; show (_ : Nat) < _; (try dsimp only [std_eq, stdN]); omega), h84, rfl, ?_⟩
            subst hN
            cases h
            show ∃ t', _ ∧ GeSt _ _ _
            refine ⟨⟨t'3_c + 11, gfn [(4, t'3_g 4), (5, t'3_g 5), (11, t'3_g 11), (54, t'3_c + 1)], tfn [(4, false), (5, false), (11, t'3_t 11), (54, false)]⟩, (And.intro (Hid.mk_ok (by omega) (And.intro (by have := ht'3_g 4; omega)
                (And.intro (by have := ht'3_g 5; omega)
                (And.intro (by have := ht'3_g 11; omega)
                (And.intro (by omega)
                trivial)))))
                (by first | rfl | assumption | (symm; assumption) | ((try dsimp only [std_eq, stdN, nvS]) <;> first | rfl | omega | (simp (disch := first | omega | (simp only [lenL_set, lenL_app, lenL_cons, lenL_nil] <;> omega)) only [lenL_bytes, lenL_set, lenL_app, lenL_cons, lenL_nil, lenL_rep, lenL_sub, lenL_cpy, Int.ofNat_eq_natCast, Int.zero_add, Int.sub_zero] <;> try omega)))), ?_⟩
            exact GeSt.of (LeSt.frame (by show (_ : Nat) < _; (try dsimp only [std_eq, stdN]); omega) rfl rfl (And.intro ⟨_, rfl, LeD.refl _⟩
                (And.intro ⟨_, rfl, LeD.refl _⟩
                (And.intro ⟨_, rfl, LeD.refl _⟩
                (And.intro ⟨_, rfl, LeD.refl _⟩
                (And.intro ⟨_, rfl, LeD.refl _⟩
                (And.intro ⟨_, rfl, LeD.refl _⟩
                trivial)))))) (And.intro ⟨_, rfl, LeOb.box (And.intro (LeD.refl _)
                trivial)⟩
                (And.intro ⟨_, rfl, LeOb.box (And.intro (LeD.refl _)
                trivial)⟩
                (And.intro ⟨_, rfl, LeOb.refl _⟩
                (And.intro ⟨_, rfl, LeOb.arrE (by first | rfl | assumption | (symm; assumption) | ((try dsimp only [std_eq, stdN, nvS]) <;> first | rfl | omega | (simp (disch := first | omega | (simp only [lenL_set, lenL_app, lenL_cons, lenL_nil] <;> omega)) only [lenL_bytes, lenL_set, lenL_app, lenL_cons, lenL_nil, lenL_rep, lenL_sub, lenL_cpy, Int.ofNat_eq_natCast, Int.zero_add, Int.sub_zero] <;> try omega))) (fun i i0 i1 j hj => by (try dsimp only [std_eq, stdN, nvS] at i1); (try simp only [Int.ofNat_eq_natCast] at i1); (rcases (show j = 0 ∨ j = 1 ∨ j = 2 by omega) with rfl | rfl | rfl) <;> (conv => lhs; whnf) <;> (conv => rhs; whnf) <;> (try dsimp only [std_eq, stdN, nvS]) <;> (first | rfl | (simp (disch := first | omega | (simp only [lenL_set, lenL_app, lenL_cons, lenL_nil] <;> omega)) only [getL_bytes, getL_put, getL_app, getL_rep, getL_sub, getL_cpy, Int.zero_add, Int.sub_zero, beq_iff_eq, decide_eq_true_eq, Bool.and_eq_true] <;> first | rfl | (split <;> first | rfl | (simp (disch := first | omega | (simp only [lenL_set, lenL_app, lenL_cons, lenL_nil] <;> omega)) only [getL_one, getL_zero] <;> rfl)) | ((simp only [lenL_app, lenL_cons, lenL_nil, Int.ofNat_eq_natCast]) <;> (repeat' split) <;> first | rfl | (exfalso; omega) | (simp (disch := omega) only [getL_one, getL_zero] <;> rfl) | (congr 3; omega)))))⟩
                trivial)))))
          · refine Tr.pre (cx := ⟨tt0, ⟨fun f => kOf [] f, fun k _ _ _ => orcL [] k, fun t => memN [] t⟩, 0, fun r => ghL [] r⟩) tt0_ok hPm 1 fun N hN => ?_
            generalize hp : std Tryd.prog = p
            generalize hv : nvS = nv
            cbv
            subst hp
            subst hv
            subst hN
            show Tr _ _ _ _
            refine Tr.block ?_
            refine Tr.cutSeq (α := Int) h (fun b9_11 t'4 => ⟨frm 58 [(1, .fn (.func 36) 0 (fun _ => .junk)), (4, .bref 4 (t'4.g 4) 0), (5, .bref 5 (t'4.g 5) 0), (8, .vec 18 (t'4.g 18) 1 0 (nvS.len v2)), (9, .bref 9 (t'4.g 9) 0), (11, .vec 11 (t'4.g 11) 1 0 (nvS.len v)), (12, .v (.int .i64 (nvS.len v))), (13, .v (.int .i64 v1))] 0, frO 58 [(4, .box (t'4.g 4) [.nilsl]), (5, .box (t'4.g 5) [.vec 54 (t'4.g 54) 3 0 (nvS.len o1)]), (9, .box (t'4.g 9) [.v (.int .i64 0), .v (.int .i64 b9_11), .v (.int .i64 0)]), (11, .arr (t'4.g 11) 1 (nvS.len v) (t'4.t 11) (fun i j => (.v (.string (nvS.get ByteArray.empty v i))))), (18, .arr (t'4.g 18) 1 (nvS.len v2) (t'4.t 18) (fun i j => (.v (.string (nvS.get ByteArray.empty v2 i))))), (54, .arr (t'4.g 54) 3 (nvS.len o1) (t'4.t 54) (fun i j => (D_ranges_Row nvS (nvS.get d_ranges_Row o1 i) j)))] 0, t'4.c⟩) (fun _ t => Hid.ok t) (fun x t'4 ht'4 h => ?_) (fun f h => ?_)
            · revert h; revert ht'4; revert x; intro b9_11 ht'4 h
              obtain ⟨t'4_c, t'4_g, t'4_t⟩ := t'4
              have ht'4_c : 0 < t'4_c := ht'4.1
              have ht'4_g : ∀ k, t'4_g k < t'4_c := ht'4.2
              obtain ⟨v3, h90⟩ : ∃ v3, valO 0 (ucd_hex (getL ByteArray.empty v2 (0 + 0))) = v3 := ⟨_, rfl⟩
              obtain ⟨v4, h93⟩ : ∃ v4, valO 0 (ucd_joinName (getL ByteArray.empty v2 (0 + ((lenL v2) - 1)))) = v4 := ⟨_, rfl⟩
              refine Tr.chunk (cx := ⟨tt0, ⟨fun f => kOf [] f, fun k _ _ _ => orcL [(33, .plain (.v (.int .i64 v3))), (41, .plain (.v (.int .i64 v4)))] k, fun t => memN [] t⟩, 0, fun r => ghL [] r⟩) tt0_ok hPm fun N hN => ?_
              generalize hp : std Tryd.prog = p
              generalize hv : nvS = nv
              cbv
              subst hp
              subst hv
              replace h := chk_some h; obtain ⟨h89, h⟩ := h
              replace h := bindO_val h90 h; clear h90; obtain ⟨h90, h⟩ := h
              replace h := chk_some h; obtain ⟨h91, h⟩ := h
              replace h := chk_some h; obtain ⟨h92, h⟩ := h
              replace h := bindO_val h93 h; clear h93; obtain ⟨h93, h⟩ := h
              refine ⟨h89, rfl, (Or.inl (PureFn.arg (ucd_hex_ok (getL ByteArray.empty v2 (0 + 0)) v3 h90) (And.intro (LeD.refl _)
                  trivial))), h91, h92, rfl, (Or.inl (PureFn.arg (ucd_joinName_ok (getL ByteArray.empty v2 (0 + ((lenL v2) - 1))) v4 h93) (And.intro (LeD.refl _)
                  trivial))), rfl, rfl, (show drOk _ _ = true by kernel_rfl), ?_⟩
              subst hN
              cases h
              show ∃ t', _ ∧ GeSt _ _ _
              refine ⟨⟨t'4_c + 10, gfn [(4, t'4_g 4), (5, t'4_g 5), (9, t'4_g 9), (11, t'4_g 11), (54, t'4_g 54)], tfn [(4, false), (5, false), (9, false), (11, t'4_t 11), (54, t'4_t 54)]⟩, Hid.mk_ok (by omega) (And.intro (by have := ht'4_g 4; omega)
                  (And.intro (by have := ht'4_g 5; omega)
                  (And.intro (by have := ht'4_g 9; omega)
                  (And.intro (by have := ht'4_g 11; omega)
                  (And.intro (by have := ht'4_g 54; omega)
                  trivial))))), ?_⟩
              exact GeSt.of (LeSt.frame (by show (_ : Nat) < _; (try dsimp only [std_eq, stdN]); omega) rfl rfl (And.intro ⟨_, rfl, LeD.refl _⟩
                  (And.intro ⟨_, rfl, LeD.refl _⟩
                  (And.intro ⟨_, rfl, LeD.refl _⟩
                  (And.intro ⟨_, rfl, LeD.refl _⟩
                  (And.intro ⟨_, rfl, LeD.refl _⟩
                  (And.intro ⟨_, rfl, LeD.refl _⟩
                  (And.intro ⟨_, rfl, LeD.refl _⟩
                  trivial))))))) (And.intro ⟨_, rfl, LeOb.box (And.intro (LeD.refl _)
                  trivial)⟩
                  (And.intro ⟨_, rfl, LeOb.box (And.intro (LeD.refl _)
                  trivial)⟩
                  (And.intro ⟨_, rfl, LeOb.box (And.intro (LeD.refl _)
                  (And.intro (LeD.refl _)
                  (And.intro (LeD.refl _)
                  trivial)))⟩
                  (And.intro ⟨_, rfl, LeOb.refl _⟩
                  (And.intro ⟨_, rfl, LeOb.refl _⟩
                  trivial))))))
            · obtain ⟨v5, h96⟩ : ∃ v5, valO 0 (ucd_hex (getL ByteArray.empty v2 (0 + 1))) = v5 := ⟨_, rfl⟩
              refine Tr.chunk (cx := ⟨tt0, ⟨fun f => kOf [] f, fun k _ _ _ => orcL [(28, .plain (.v (.int .i64 v5)))] k, fun t => memN [] t⟩, 0, fun r => ghL [] r⟩) tt0_ok hPm fun N hN => ?_
              generalize hp : std Tryd.prog = p
              generalize hv : nvS = nv
              cbv
              subst hp
              subst hv
              refine ⟨fun h94 => ?_, fun h94 => ?_⟩
              · replace h := iteO_t h h94
                replace h := chk_some h; obtain ⟨h95, h⟩ := h
                replace h := bindO_val h96 h; clear h96; obtain ⟨h96, h⟩ := h
                refine ⟨h95, rfl, (Or.inl (PureFn.arg (ucd_hex_ok (getL ByteArray.empty v2 (0 + 1)) v5 h96) (And.intro (LeD.refl _)
                    trivial))), rfl, ?_⟩
                subst hN
                cases h
                show ∃ t', _ ∧ GeSt _ _ _
                refine ⟨⟨t'1_c + 16, gfn [(4, t'1_g 4), (5, t'1_g 5), (9, t'1_c + 3), (11, t'1_g 11), (18, t'1_c + 2), (54, t'1_g 54)], tfn [(4, false), (5, false), (9, false), (11, t'1_t 11), (18, false), (54, t'1_t 54)]⟩, Hid.mk_ok (by omega) (And.intro (by have := ht'1_g 4; omega)
                    (And.intro (by have := ht'1_g 5; omega)
                    (And.intro (by omega)
                    (And.intro (by have := ht'1_g 11; omega)
                    (And.intro (by omega)
                    (And.intro (by have := ht'1_g 54; omega)
                    trivial)))))), ?_⟩
                exact GeSt.of (LeSt.frame (by show (_ : Nat) < _; (try dsimp only [std_eq, stdN]); omega) rfl rfl (And.intro ⟨_, rfl, LeD.refl _⟩
                    (And.intro ⟨_, rfl, LeD.refl _⟩
                    (And.intro ⟨_, rfl, LeD.refl _⟩
                    (And.intro ⟨_, rfl, LeD.refl _⟩
                    (And.intro ⟨_, rfl, LeD.refl _⟩
                    (And.intro ⟨_, rfl, LeD.refl _⟩
                    (And.intro ⟨_, rfl, LeD.refl _⟩
                    (And.intro ⟨_, rfl, LeD.refl _⟩
                    trivial)))))))) (And.intro ⟨_, rfl, LeOb.box (And.intro (LeD.refl _)
                    trivial)⟩
                    (And.intro ⟨_, rfl, LeOb.box (And.intro (LeD.refl _)
                    trivial)⟩
                    (And.intro ⟨_, rfl, LeOb.box (And.intro (LeD.refl _)
                    (And.intro (LeD.refl _)
                    (And.intro (LeD.refl _)
                    trivial)))⟩
                    (And.intro ⟨_, rfl, LeOb.refl _⟩
                    (And.intro ⟨_, rfl, LeOb.refl _⟩
                    (And.intro ⟨_, rfl, LeOb.refl _⟩
                    trivial)))))))
              · replace h := iteO_f h h94
                refine ⟨fun h97 => ?_, fun h97 => ?_⟩
                · replace h := iteO_t h h97
                  subst hN
                  cases h
                  show ∃ t', _ ∧ GeSt _ _ _
                  refine ⟨⟨t'1_c + 16, gfn [(4, t'1_g 4), (5, t'1_g 5), (9, t'1_c + 3), (11, t'1_g 11), (18, t'1_c + 2), (54, t'1_g 54)], tfn [(4, false), (5, false), (9, false), (11, t'1_t 11), (18, false), (54, t'1_t 54)]⟩, Hid.mk_ok (by omega) (And.intro (by have := ht'1_g 4; omega)
                      (And.intro (by have := ht'1_g 5; omega)
                      (And.intro (by omega)
                      (And.intro (by have := ht'1_g 11; omega)
                      (And.intro (by omega)
                      (And.intro (by have := ht'1_g 54; omega)
                      trivial)))))), ?_⟩
                  exact GeSt.of (LeSt.frame (by show (_ : Nat) < _; (try dsimp only [std_eq, stdN]); omega) rfl rfl (And.intro ⟨_, rfl, LeD.refl _⟩
                      (And.intro ⟨_, rfl, LeD.refl _⟩
                      (And.intro ⟨_, rfl, LeD.refl _⟩
                      (And.intro ⟨_, rfl, LeD.refl _⟩
                      (And.intro ⟨_, rfl, LeD.refl _⟩
                      (And.intro ⟨_, rfl, LeD.refl _⟩
                      (And.intro ⟨_, rfl, LeD.refl _⟩
                      (And.intro ⟨_, rfl, LeD.refl _⟩
                      trivial)))))))) (And.intro ⟨_, rfl, LeOb.box (And.intro (LeD.refl _)
                      trivial)⟩
                      (And.intro ⟨_, rfl, LeOb.box (And.intro (LeD.refl _)
                      trivial)⟩
                      (And.intro ⟨_, rfl, LeOb.box (And.intro (LeD.refl _)
                      (And.intro (LeD.refl _)
                      (And.intro (LeD.refl _)
                      trivial)))⟩
                      (And.intro ⟨_, rfl, LeOb.refl _⟩
                      (And.intro ⟨_, rfl, LeOb.refl _⟩
                      (And.intro ⟨_, rfl, LeOb.refl _⟩
                      trivial)))))))
                · replace h := iteO_f h h97
                  subst hN
                  cases h
                  intro he; cases he
                  show ∃ t', _ ∧ GeSt _ _ _
                  refine ⟨⟨t'1_c + 16, gfn [(4, t'1_g 4), (5, t'1_g 5), (9, t'1_c + 3), (11, t'1_g 11), (54, t'1_g 54)], tfn [(4, false), (5, false), (9, false), (11, t'1_t 11), (54, t'1_t 54)]⟩, Hid.mk_ok (by omega) (And.intro (by have := ht'1_g 4; omega)
                      (And.intro (by have := ht'1_g 5; omega)
                      (And.intro (by omega)
                      (And.intro (by have := ht'1_g 11; omega)
                      (And.intro (by have := ht'1_g 54; omega)
                      trivial))))), ?_⟩
                  exact GeSt.of (LeSt.frame (by show (_ : Nat) < _; (try dsimp only [std_eq, stdN]); omega) rfl rfl (And.intro ⟨_, rfl, LeD.refl _⟩
                      (And.intro ⟨_, rfl, LeD.refl _⟩
                      (And.intro ⟨_, rfl, LeD.refl _⟩
                      (And.intro ⟨_, rfl, LeD.refl _⟩
                      (And.intro ⟨_, rfl, LeD.refl _⟩
                      (And.intro ⟨_, rfl, LeD.refl _⟩
                      (And.intro ⟨_, rfl, LeD.refl _⟩
                      trivial))))))) (And.intro ⟨_, rfl, LeOb.box (And.intro (LeD.refl _)
                      trivial)⟩
                      (And.intro ⟨_, rfl, LeOb.box (And.intro (LeD.refl _)
                      trivial)⟩
                      (And.intro ⟨_, rfl, LeOb.box (And.intro (LeD.refl _)
                      (And.intro (LeD.refl _)
                      (And.intro (LeD.refl _)
                      trivial)))⟩
                      (And.intro ⟨_, rfl, LeOb.refl _⟩
                      (And.intro ⟨_, rfl, LeOb.refl _⟩
                      trivial))))))
      · replace h := iteO_f h h59
        subst hN
        cases h
        intro he; cases he
        show ∃ t', _ ∧ GeSt _ _ _
        refine ⟨⟨t'1_c + 10, gfn [(4, t'1_g 4), (5, t'1_g 5), (54, t'1_g 54)], tfn [(4, false), (5, false), (54, t'1_t 54)]⟩, Hid.mk_ok (by omega) (And.intro (by have := ht'1_g 4; omega)
            (And.intro (by have := ht'1_g 5; omega)
            (And.intro (by have := ht'1_g 54; omega)
            trivial))), ?_⟩
        exact GeSt.of (LeSt.frame (by show (_ : Nat) < _; (try dsimp only [std_eq, stdN]); omega) rfl rfl (And.intro ⟨_, rfl, LeD.refl _⟩
            (And.intro ⟨_, rfl, LeD.refl _⟩
            trivial)) (And.intro ⟨_, rfl, LeOb.box (And.intro (LeD.refl _)
            trivial)⟩
            (And.intro ⟨_, rfl, LeOb.box (And.intro (LeD.vec rfl (by first | rfl | assumption | (symm; assumption) | ((try dsimp only [std_eq, stdN, nvS]) <;> first | rfl | omega | (simp (disch := first | omega | (simp only [lenL_set, lenL_app, lenL_cons, lenL_nil] <;> omega)) only [lenL_bytes, lenL_set, lenL_app, lenL_cons, lenL_nil, lenL_rep, lenL_sub, lenL_cpy, Int.ofNat_eq_natCast, Int.zero_add, Int.sub_zero] <;> try omega))))
            trivial)⟩
            (And.intro ⟨_, rfl, LeOb.arrE (by first | rfl | assumption | (symm; assumption) | ((try dsimp only [std_eq, stdN, nvS]) <;> first | rfl | omega | (simp (disch := first | omega | (simp only [lenL_set, lenL_app, lenL_cons, lenL_nil] <;> omega)) only [lenL_bytes, lenL_set, lenL_app, lenL_cons, lenL_nil, lenL_rep, lenL_sub, lenL_cpy, Int.ofNat_eq_natCast, Int.zero_add, Int.sub_zero] <;> try omega))) (fun i i0 i1 j hj => by (try dsimp only [std_eq, stdN, nvS] at i1); (try simp only [Int.ofNat_eq_natCast] at i1); (rcases (show j = 0 ∨ j = 1 ∨ j = 2 by omega) with rfl | rfl | rfl) <;> (conv => lhs; whnf) <;> (conv => rhs; whnf) <;> (try dsimp only [std_eq, stdN, nvS]) <;> (first | rfl | (simp (disch := first | omega | (simp only [lenL_set, lenL_app, lenL_cons, lenL_nil] <;> omega)) only [getL_bytes, getL_put, getL_app, getL_rep, getL_sub, getL_cpy, Int.zero_add, Int.sub_zero, beq_iff_eq, decide_eq_true_eq, Bool.and_eq_true] <;> first | rfl | (split <;> first | rfl | (simp (disch := first | omega | (simp only [lenL_set, lenL_app, lenL_cons, lenL_nil] <;> omega)) only [getL_one, getL_zero] <;> rfl)) | ((simp only [lenL_app, lenL_cons, lenL_nil, Int.ofNat_eq_natCast]) <;> (repeat' split) <;> first | rfl | (exfalso; omega) | (simp (disch := omega) only [getL_one, getL_zero] <;> rfl) | (congr 3; omega)))))⟩
            trivial))))

theorem ucd_pairs_ok (text : ByteArray) (r : (List T_ucd_Pair)) (h : ucd_pairs text = some r) : PureFn Tryd.prog 37 [(.v (.string text))] (.own 2 (nvS.len r) false (fun i j => (D_ucd_Pair nvS (nvS.get d_ucd_Pair r i) j))) := by
  unfold ucd_pairs at h
  refine fn_tr tt0_ok Tryd.func37 (by kernel_rfl) (c := bodyOf Tryd.f37) (by kernel_rfl) ?_
  intro ctr hc
  refine Tr.pre (cx := ⟨tt0, ⟨fun f => kOf [] f, fun k _ _ _ => orcL [] k, fun t => memN [] t⟩, 0, fun r => ghL [] r⟩) tt0_ok hPm 2 fun N hN => ?_
  generalize hp : std Tryd.prog = p
  generalize hv : nvS = nv
  cbv
  subst hp
  subst hv
  subst hN
  show Tr _ _ _ _
  refine Tr.cutSeq (α := List T_ucd_Pair) h (fun l' t' => ⟨frm 33 [(3, .vec 30 (t'.g 30) 2 0 (nvS.len l'))] 0, frO 33 [(30, .arr (t'.g 30) 2 (nvS.len l') (t'.t 30) (fun i j => (D_ucd_Pair nvS (nvS.get d_ucd_Pair l' i) j)))] 0, t'.c⟩) (fun _ t => Hid.ok t) (fun x t' ht' h => ?_) (fun f h => ?_)
  · revert h; revert ht'; revert x; intro l' ht' h
    obtain ⟨t'_c, t'_g, t'_t⟩ := t'
    have ht'_c : 0 < t'_c := ht'.1
    have ht'_g : ∀ k, t'_g k < t'_c := ht'.2
    refine Tr.chunk (cx := ⟨tt0, ⟨fun f => kOf [] f, fun k _ _ _ => orcL [] k, fun t => memN [] t⟩, 0, fun r => ghL [] r⟩) tt0_ok hPm fun N hN => ?_
    generalize hp : std Tryd.prog = p
    generalize hv : nvS = nv
    cbv
    subst hp
    subst hv
    subst hN
    have hr := Option.some.inj h
    subst hr
    try dsimp only [noGoto, inBlockQ, thenQ]
    repeat (first | refine (if_pos rfl).mpr ?_ | refine (if_neg (by decide)).mpr ?_)
    refine retQ_ret rfl ?_ ?_
    · exact trivial
    · exact (And.intro (rfl)
          (And.intro (by first | rfl | assumption | (symm; assumption) | ((try dsimp only [std_eq, stdN, nvS]) <;> first | rfl | omega | (simp (disch := first | omega | (simp only [lenL_set, lenL_app, lenL_cons, lenL_nil] <;> omega)) only [lenL_bytes, lenL_set, lenL_app, lenL_cons, lenL_nil, lenL_rep, lenL_sub, lenL_cpy, Int.ofNat_eq_natCast, Int.zero_add, Int.sub_zero] <;> try omega)))
          (And.intro (fun h => by cases h)
          (out0_all (fun i j => out_ucd_Pair _ _) (fun i i0 i1 j hj => by (try dsimp only [std_eq, stdN, nvS] at i1); (try simp only [Int.ofNat_eq_natCast] at i1); (rcases (show j = 0 ∨ j = 1 by omega) with rfl | rfl) <;> (conv => lhs; whnf) <;> (conv => rhs; whnf) <;> (try dsimp only [std_eq, stdN, nvS]) <;> (first | rfl | (simp (disch := first | omega | (simp only [lenL_set, lenL_app, lenL_cons, lenL_nil] <;> omega)) only [getL_bytes, getL_put, getL_app, getL_rep, getL_sub, getL_cpy, Int.zero_add, Int.sub_zero, beq_iff_eq, decide_eq_true_eq, Bool.and_eq_true] <;> first | rfl | (split <;> first | rfl | (simp (disch := first | omega | (simp only [lenL_set, lenL_app, lenL_cons, lenL_nil] <;> omega)) only [getL_one, getL_zero] <;> rfl)) | ((simp only [lenL_app, lenL_cons, lenL_nil, Int.ofNat_eq_natCast]) <;> (repeat' split) <;> first | rfl | (exfalso; omega) | (simp (disch := omega) only [getL_one, getL_zero] <;> rfl) | (congr 3; omega)))))))))
  · obtain ⟨v, h24⟩ : ∃ v, valO [] (strings_Split text (⟨#[44]⟩ : ByteArray)) = v := ⟨_, rfl⟩
    refine Tr.pre (cx := ⟨tt0, ⟨fun f => kOf [(48, 1)] f, fun k _ _ _ => orcL [(8, .own 1 (nvS.len v) false (fun i j => (.v (.string (nvS.get ByteArray.empty v i)))))] k, fun t => memN [] t⟩, 0, fun r => ghL [] r⟩) tt0_ok hPm 1 fun N hN => ?_
    generalize hp : std Tryd.prog = p
    generalize hv : nvS = nv
    cbv
    subst hp
    subst hv
    replace h := bindO_val h24 h; clear h24; obtain ⟨h24, h⟩ := h
    refine ⟨(Or.inl (PureFn.arg (strings_Split_ok text (⟨#[44]⟩ : ByteArray) v h24) (And.intro (LeD.refl _)
        (And.intro (LeD.refl _)
        trivial)))), ?_⟩
    subst hN
    show Tr _ _ _ _
    refine Tr.block ?_
    refine Tr.loopO (α := Int × List T_ucd_Pair) (fun (v1, l'1) t'1 => ⟨frm 33 [(3, .vec 30 (t'1.g 30) 2 0 (nvS.len l'1)), (8, .vec 8 (t'1.g 8) 1 0 (nvS.len v)), (9, .v (.int .i64 (nvS.len v))), (10, .v (.int .i64 v1))] 0, frO 33 [(8, .arr (t'1.g 8) 1 (nvS.len v) (t'1.t 8) (fun i j => (.v (.string (nvS.get ByteArray.empty v i))))), (30, .arr (t'1.g 30) 2 (nvS.len l'1) (t'1.t 30) (fun i j => (D_ucd_Pair nvS (nvS.get d_ucd_Pair l'1 i) j)))] 0, t'1.c⟩) (fun _ t => Hid.ok t) ⟨ctr + 13, gfn [(8, ctr + 2), (30, ctr + 3)], tfn [(8, false), (30, false)]⟩ h ?_ ?_ (fun x t'1 f ht'1 h => ?_)
    · exact Hid.mk_ok (by omega) (And.intro (by omega)
          (And.intro (by omega)
          trivial))
    · refine GeSt.by [.thaw (.slot 3) 30 2] rfl ?_ ?_
      · exact trivial
      · exact LeSt.frame (show ctr + 4 < ctr + 13 by omega) rfl rfl (And.intro ⟨_, rfl, LeD.refl _⟩
            (And.intro ⟨_, rfl, LeD.refl _⟩
            (And.intro ⟨_, rfl, LeD.refl _⟩
            (And.intro ⟨_, rfl, LeD.refl _⟩
            trivial)))) (And.intro ⟨_, rfl, LeOb.refl _⟩
            (And.intro ⟨_, rfl, LeOb.arr' rfl (fun i i0 i1 j hj => by exfalso; revert i1; show i < (0 : Int) → False; omega)⟩
            trivial))
    · obtain ⟨v1, l'1⟩ := x
      obtain ⟨t'1_c, t'1_g, t'1_t⟩ := t'1
      have ht'1_c : 0 < t'1_c := ht'1.1
      have ht'1_g : ∀ k, t'1_g k < t'1_c := ht'1.2
      obtain ⟨v2, h49⟩ : ∃ v2, valO [] (ucd_words (getL ByteArray.empty v (0 + v1))) = v2 := ⟨_, rfl⟩
      obtain ⟨v3, h52⟩ : ∃ v3, valO 0 (ucd_hex (getL ByteArray.empty v2 (0 + 0))) = v3 := ⟨_, rfl⟩
      obtain ⟨v4, h54⟩ : ∃ v4, valO 0 (ucd_hex (getL ByteArray.empty v2 (0 + 1))) = v4 := ⟨_, rfl⟩
      refine Tr.chunk (cx := ⟨tt0, ⟨fun f => kOf [(49, 1)] f, fun k _ _ _ => orcL [(15, .own 1 (nvS.len v2) false (fun i j => (.v (.string (nvS.get ByteArray.empty v2 i))))), (23, .plain (.v (.int .i64 v3))), (27, .plain (.v (.int .i64 v4)))] k, fun t => memN [29] t⟩, 0, fun r => ghL [] r⟩) tt0_ok hPm fun N hN => ?_
      generalize hp : std Tryd.prog = p
      generalize hv : nvS = nv
      cbv
      subst hp
      subst hv
      refine ⟨fun h47 => ?_, fun h47 => ?_⟩
      · replace h := iteO_t h h47
        replace h := chk_some h; obtain ⟨h48, h⟩ := h
        refine ⟨h48, rfl, ?_⟩
        replace h := bindO_val h49 h; clear h49; obtain ⟨h49, h⟩ := h
        refine ⟨(Or.inl (PureFn.arg (ucd_words_ok (getL ByteArray.empty v (0 + v1)) v2 h49) (And.intro (LeD.refl _)
            trivial))), ?_⟩
        refine ⟨fun h50 => ?_, fun h50 => ?_⟩
        · replace h := iteO_t h h50
          replace h := chk_some h; obtain ⟨h51, h⟩ := h
          replace h := bindO_val h52 h; clear h52; obtain ⟨h52, h⟩ := h
          replace h := chk_some h; obtain ⟨h53, h⟩ := h
          replace h := bindO_val h54 h; clear h54; obtain ⟨h54, h⟩ := h
          replace h := chk_some h; obtain ⟨h55, h⟩ := h
          refine ⟨h51, rfl, (Or.inl (PureFn.arg (ucd_hex_ok (getL ByteArray.empty v2 (0 + 0)) v3 h52) (And.intro (LeD.refl _)
              trivial))), h53, rfl, (Or.inl (PureFn.arg (ucd_hex_ok (getL ByteArray.empty v2 (0 + 1)) v4 h54) (And.intro (LeD.refl _)
              trivial))), rfl, (by have := ht'1_g 30; show (_ : Nat) < _; (try dsimp only [std_eq, stdN]); omega), h55, (show drOk _ _ = true by kernel_rfl), ?_⟩
          replace h := chk_some h; obtain ⟨h56, h⟩ := h
          refine ⟨h56, ?_⟩
          subst hN
          cases h
          show ∃ t', _ ∧ GeSt _ _ _
          refine ⟨⟨t'1_c + 15, gfn [(8, t'1_g 8), (30, t'1_c + 4)], tfn [(8, t'1_t 8), (30, false)]⟩, Hid.mk_ok (by omega) (And.intro (by have := ht'1_g 8; omega)
              (And.intro (by omega)
              trivial)), ?_⟩
          exact GeSt.of (LeSt.frame (by show (_ : Nat) < _; (try dsimp only [std_eq, stdN]); omega) rfl rfl (And.intro ⟨_, rfl, LeD.vec rfl (by first | rfl | assumption | (symm; assumption) | ((try dsimp only [std_eq, stdN, nvS]) <;> first | rfl | omega | (simp (disch := first | omega | (simp only [lenL_set, lenL_app, lenL_cons, lenL_nil] <;> omega)) only [lenL_bytes, lenL_set, lenL_app, lenL_cons, lenL_nil, lenL_rep, lenL_sub, lenL_cpy, Int.ofNat_eq_natCast, Int.zero_add, Int.sub_zero] <;> try omega)))⟩
              (And.intro ⟨_, rfl, LeD.refl _⟩
              (And.intro ⟨_, rfl, LeD.refl _⟩
              (And.intro ⟨_, rfl, LeD.refl _⟩
              trivial)))) (And.intro ⟨_, rfl, LeOb.refl _⟩
              (And.intro ⟨_, rfl, LeOb.arrE (by first | rfl | assumption | (symm; assumption) | ((try dsimp only [std_eq, stdN, nvS]) <;> first | rfl | omega | (simp (disch := first | omega | (simp only [lenL_set, lenL_app, lenL_cons, lenL_nil] <;> omega)) only [lenL_bytes, lenL_set, lenL_app, lenL_cons, lenL_nil, lenL_rep, lenL_sub, lenL_cpy, Int.ofNat_eq_natCast, Int.zero_add, Int.sub_zero] <;> try omega))) (fun i i0 i1 j hj => by (try dsimp only [std_eq, stdN, nvS] at i1); (try simp only [Int.ofNat_eq_natCast] at i1); (rcases (show j = 0 ∨ j = 1 by omega) with rfl | rfl) <;> (conv => lhs; whnf) <;> (conv => rhs; whnf) <;> (try dsimp only [std_eq, stdN, nvS]) <;> (first | rfl | (simp (disch := first | omega | (simp only [lenL_set, lenL_app, lenL_cons, lenL_nil] <;> omega)) only [getL_bytes, getL_put, getL_app, getL_rep, getL_sub, getL_cpy, Int.zero_add, Int.sub_zero, beq_iff_eq, decide_eq_true_eq, Bool.and_eq_true] <;> first | rfl | (split <;> first | rfl | (simp (disch := first | omega | (simp only [lenL_set, lenL_app, lenL_cons, lenL_nil] <;> omega)) only [getL_one, getL_zero] <;> rfl)) | ((simp only [lenL_app, lenL_cons, lenL_nil, Int.ofNat_eq_natCast]) <;> (repeat' split) <;> first | rfl | (exfalso; omega) | (simp (disch := omega) only [getL_one, getL_zero] <;> rfl) | (congr 3; omega)))))⟩
              trivial)))
        · replace h := iteO_f h h50
          replace h := chk_some h; obtain ⟨h57, h⟩ := h
          refine ⟨h57, ?_⟩
          subst hN
          cases h
          show ∃ t', _ ∧ GeSt _ _ _
          refine ⟨⟨t'1_c + 14, gfn [(8, t'1_g 8), (30, t'1_g 30)], tfn [(8, t'1_t 8), (30, t'1_t 30)]⟩, Hid.mk_ok (by omega) (And.intro (by have := ht'1_g 8; omega)
              (And.intro (by have := ht'1_g 30; omega)
              trivial)), ?_⟩
          exact GeSt.of (LeSt.frame (by show (_ : Nat) < _; (try dsimp only [std_eq, stdN]); omega) rfl rfl (And.intro ⟨_, rfl, LeD.refl _⟩
              (And.intro ⟨_, rfl, LeD.refl _⟩
              (And.intro ⟨_, rfl, LeD.refl _⟩
              (And.intro ⟨_, rfl, LeD.refl _⟩
              trivial)))) (And.intro ⟨_, rfl, LeOb.refl _⟩
              (And.intro ⟨_, rfl, LeOb.refl _⟩
              trivial)))
      · replace h := iteO_f h h47
        subst hN
        cases h
        intro he; cases he
        show ∃ t', _ ∧ GeSt _ _ _
        refine ⟨⟨t'1_c + 10, gfn [(30, t'1_g 30)], tfn [(30, t'1_t 30)]⟩, Hid.mk_ok (by omega) (And.intro (by have := ht'1_g 30; omega)
            trivial), ?_⟩
        exact GeSt.of (LeSt.frame (by show (_ : Nat) < _; (try dsimp only [std_eq, stdN]); omega) rfl rfl (And.intro ⟨_, rfl, LeD.vec rfl (by first | rfl | assumption | (symm; assumption) | ((try dsimp only [std_eq, stdN, nvS]) <;> first | rfl | omega | (simp (disch := first | omega | (simp only [lenL_set, lenL_app, lenL_cons, lenL_nil] <;> omega)) only [lenL_bytes, lenL_set, lenL_app, lenL_cons, lenL_nil, lenL_rep, lenL_sub, lenL_cpy, Int.ofNat_eq_natCast, Int.zero_add, Int.sub_zero] <;> try omega)))⟩
            trivial) (And.intro ⟨_, rfl, LeOb.arrE (by first | rfl | assumption | (symm; assumption) | ((try dsimp only [std_eq, stdN, nvS]) <;> first | rfl | omega | (simp (disch := first | omega | (simp only [lenL_set, lenL_app, lenL_cons, lenL_nil] <;> omega)) only [lenL_bytes, lenL_set, lenL_app, lenL_cons, lenL_nil, lenL_rep, lenL_sub, lenL_cpy, Int.ofNat_eq_natCast, Int.zero_add, Int.sub_zero] <;> try omega))) (fun i i0 i1 j hj => by (try dsimp only [std_eq, stdN, nvS] at i1); (try simp only [Int.ofNat_eq_natCast] at i1); (rcases (show j = 0 ∨ j = 1 by omega) with rfl | rfl) <;> (conv => lhs; whnf) <;> (conv => rhs; whnf) <;> (try dsimp only [std_eq, stdN, nvS]) <;> (first | rfl | (simp (disch := first | omega | (simp only [lenL_set, lenL_app, lenL_cons, lenL_nil] <;> omega)) only [getL_bytes, getL_put, getL_app, getL_rep, getL_sub, getL_cpy, Int.zero_add, Int.sub_zero, beq_iff_eq, decide_eq_true_eq, Bool.and_eq_true] <;> first | rfl | (split <;> first | rfl | (simp (disch := first | omega | (simp only [lenL_set, lenL_app, lenL_cons, lenL_nil] <;> omega)) only [getL_one, getL_zero] <;> rfl)) | ((simp only [lenL_app, lenL_cons, lenL_nil, Int.ofNat_eq_natCast]) <;> (repeat' split) <;> first | rfl | (exfalso; omega) | (simp (disch := omega) only [getL_one, getL_zero] <;> rfl) | (congr 3; omega)))))⟩
            trivial))

theorem ucd_forms_ok (text : ByteArray) (r : (List T_ucd_Form)) (h : ucd_forms text = some r) : PureFn Tryd.prog 38 [(.v (.string text))] (.own 3 (nvS.len r) false (fun i j => (D_ucd_Form nvS (nvS.get d_ucd_Form r i) j))) := by
  unfold ucd_forms at h
  refine fn_tr tt0_ok Tryd.func38 (by kernel_rfl) (c := bodyOf Tryd.f38) (by kernel_rfl) ?_
  intro ctr hc
  refine Tr.pre (cx := ⟨tt0, ⟨fun f => kOf [] f, fun k _ _ _ => orcL [] k, fun t => memN [] t⟩, 0, fun r => ghL [] r⟩) tt0_ok hPm 2 fun N hN => ?_
  generalize hp : std Tryd.prog = p
  generalize hv : nvS = nv
  cbv
  subst hp
  subst hv
  subst hN
  show Tr _ _ _ _
  refine Tr.cutSeq (α := List T_ucd_Form) h (fun l' t' => ⟨frm 37 [(3, .vec 34 (t'.g 34) 3 0 (nvS.len l'))] 0, frO 37 [(34, .arr (t'.g 34) 3 (nvS.len l') (t'.t 34) (fun i j => (D_ucd_Form nvS (nvS.get d_ucd_Form l' i) j)))] 0, t'.c⟩) (fun _ t => Hid.ok t) (fun x t' ht' h => ?_) (fun f h => ?_)
  · revert h; revert ht'; revert x; intro l' ht' h
    obtain ⟨t'_c, t'_g, t'_t⟩ := t'
    have ht'_c : 0 < t'_c := ht'.1
    have ht'_g : ∀ k, t'_g k < t'_c := ht'.2
    refine Tr.chunk (cx := ⟨tt0, ⟨fun f => kOf [] f, fun k _ _ _ => orcL [] k, fun t => memN [] t⟩, 0, fun r => ghL [] r⟩) tt0_ok hPm fun N hN => ?_
    generalize hp : std Tryd.prog = p
    generalize hv : nvS = nv
    cbv
    subst hp
    subst hv
    subst hN
    have hr := Option.some.inj h
    subst hr
    try dsimp only [noGoto, inBlockQ, thenQ]
    repeat (first | refine (if_pos rfl).mpr ?_ | refine (if_neg (by decide)).mpr ?_)
    refine retQ_ret rfl ?_ ?_
    · exact trivial
    · exact (And.intro (rfl)
          (And.intro (by first | rfl | assumption | (symm; assumption) | ((try dsimp only [std_eq, stdN, nvS]) <;> first | rfl | omega | (simp (disch := first | omega | (simp only [lenL_set, lenL_app, lenL_cons, lenL_nil] <;> omega)) only [lenL_bytes, lenL_set, lenL_app, lenL_cons, lenL_nil, lenL_rep, lenL_sub, lenL_cpy, Int.ofNat_eq_natCast, Int.zero_add, Int.sub_zero] <;> try omega)))
          (And.intro (fun h => by cases h)
          (out0_all (fun i j => out_ucd_Form _ _) (fun i i0 i1 j hj => by (try dsimp only [std_eq, stdN, nvS] at i1); (try simp only [Int.ofNat_eq_natCast] at i1); (rcases (show j = 0 ∨ j = 1 ∨ j = 2 by omega) with rfl | rfl | rfl) <;> (conv => lhs; whnf) <;> (conv => rhs; whnf) <;> (try dsimp only [std_eq, stdN, nvS]) <;> (first | rfl | (simp (disch := first | omega | (simp only [lenL_set, lenL_app, lenL_cons, lenL_nil] <;> omega)) only [getL_bytes, getL_put, getL_app, getL_rep, getL_sub, getL_cpy, Int.zero_add, Int.sub_zero, beq_iff_eq, decide_eq_true_eq, Bool.and_eq_true] <;> first | rfl | (split <;> first | rfl | (simp (disch := first | omega | (simp only [lenL_set, lenL_app, lenL_cons, lenL_nil] <;> omega)) only [getL_one, getL_zero] <;> rfl)) | ((simp only [lenL_app, lenL_cons, lenL_nil, Int.ofNat_eq_natCast]) <;> (repeat' split) <;> first | rfl | (exfalso; omega) | (simp (disch := omega) only [getL_one, getL_zero] <;> rfl) | (congr 3; omega)))))))))
  · obtain ⟨v, h28⟩ : ∃ v, valO [] (strings_Split text (⟨#[44]⟩ : ByteArray)) = v := ⟨_, rfl⟩
    refine Tr.pre (cx := ⟨tt0, ⟨fun f => kOf [(48, 1)] f, fun k _ _ _ => orcL [(8, .own 1 (nvS.len v) false (fun i j => (.v (.string (nvS.get ByteArray.empty v i)))))] k, fun t => memN [] t⟩, 0, fun r => ghL [] r⟩) tt0_ok hPm 1 fun N hN => ?_
    generalize hp : std Tryd.prog = p
    generalize hv : nvS = nv
    cbv
    subst hp
    subst hv
    replace h := bindO_val h28 h; clear h28; obtain ⟨h28, h⟩ := h
    refine ⟨(Or.inl (PureFn.arg (strings_Split_ok text (⟨#[44]⟩ : ByteArray) v h28) (And.intro (LeD.refl _)
        (And.intro (LeD.refl _)
        trivial)))), ?_⟩
    subst hN
    show Tr _ _ _ _
    refine Tr.block ?_
    refine Tr.loopO (α := Int × List T_ucd_Form) (fun (v1, l'1) t'1 => ⟨frm 37 [(3, .vec 34 (t'1.g 34) 3 0 (nvS.len l'1)), (8, .vec 8 (t'1.g 8) 1 0 (nvS.len v)), (9, .v (.int .i64 (nvS.len v))), (10, .v (.int .i64 v1))] 0, frO 37 [(8, .arr (t'1.g 8) 1 (nvS.len v) (t'1.t 8) (fun i j => (.v (.string (nvS.get ByteArray.empty v i))))), (34, .arr (t'1.g 34) 3 (nvS.len l'1) (t'1.t 34) (fun i j => (D_ucd_Form nvS (nvS.get d_ucd_Form l'1 i) j)))] 0, t'1.c⟩) (fun _ t => Hid.ok t) ⟨ctr + 13, gfn [(8, ctr + 2), (34, ctr + 3)], tfn [(8, false), (34, false)]⟩ h ?_ ?_ (fun x t'1 f ht'1 h => ?_)
    · exact Hid.mk_ok (by omega) (And.intro (by omega)
          (And.intro (by omega)
          trivial))
    · refine GeSt.by [.thaw (.slot 3) 34 3] rfl ?_ ?_
      · exact trivial
      · exact LeSt.frame (show ctr + 4 < ctr + 13 by omega) rfl rfl (And.intro ⟨_, rfl, LeD.refl _⟩
            (And.intro ⟨_, rfl, LeD.refl _⟩
            (And.intro ⟨_, rfl, LeD.refl _⟩
            (And.intro ⟨_, rfl, LeD.refl _⟩
            trivial)))) (And.intro ⟨_, rfl, LeOb.refl _⟩
            (And.intro ⟨_, rfl, LeOb.arr' rfl (fun i i0 i1 j hj => by exfalso; revert i1; show i < (0 : Int) → False; omega)⟩
            trivial))
    · obtain ⟨v1, l'1⟩ := x
      obtain ⟨t'1_c, t'1_g, t'1_t⟩ := t'1
      have ht'1_c : 0 < t'1_c := ht'1.1
      have ht'1_g : ∀ k, t'1_g k < t'1_c := ht'1.2
      obtain ⟨v2, h57⟩ : ∃ v2, valO [] (ucd_words (getL ByteArray.empty v (0 + v1))) = v2 := ⟨_, rfl⟩
      obtain ⟨v3, h60⟩ : ∃ v3, valO 0 (ucd_hex (getL ByteArray.empty v2 (0 + 0))) = v3 := ⟨_, rfl⟩
      obtain ⟨v4, h62⟩ : ∃ v4, valO 0 (ucd_hex (getL ByteArray.empty v2 (0 + 1))) = v4 := ⟨_, rfl⟩
      obtain ⟨v5, h64⟩ : ∃ v5, valO 0 (ucd_hex (getL ByteArray.empty v2 (0 + 2))) = v5 := ⟨_, rfl⟩
      refine Tr.chunk (cx := ⟨tt0, ⟨fun f => kOf [(49, 1)] f, fun k _ _ _ => orcL [(15, .own 1 (nvS.len v2) false (fun i j => (.v (.string (nvS.get ByteArray.empty v2 i))))), (23, .plain (.v (.int .i64 v3))), (27, .plain (.v (.int .i64 v4))), (31, .plain (.v (.int .i64 v5)))] k, fun t => memN [33] t⟩, 0, fun r => ghL [] r⟩) tt0_ok hPm fun N hN => ?_
      generalize hp : std Tryd.prog = p
      generalize hv : nvS = nv
      cbv
      subst hp
      subst hv
      refine ⟨fun h55 => ?_, fun h55 => ?_⟩
      · replace h := iteO_t h h55
        replace h := chk_some h; obtain ⟨h56, h⟩ := h
        refine ⟨h56, rfl, ?_⟩
        replace h := bindO_val h57 h; clear h57; obtain ⟨h57, h⟩ := h
        refine ⟨(Or.inl (PureFn.arg (ucd_words_ok (getL ByteArray.empty v (0 + v1)) v2 h57) (And.intro (LeD.refl _)
            trivial))), ?_⟩
        refine ⟨fun h58 => ?_, fun h58 => ?_⟩
        · replace h := iteO_t h h58
          replace h := chk_some h; obtain ⟨h59, h⟩ := h
          replace h := bindO_val h60 h; clear h60; obtain ⟨h60, h⟩ := h
          replace h := chk_some h; obtain ⟨h61, h⟩ := h
          replace h := bindO_val h62 h; clear h62; obtain ⟨h62, h⟩ := h
          replace h := chk_some h; obtain ⟨h63, h⟩ := h
          replace h := bindO_val h64 h; clear h64; obtain ⟨h64, h⟩ := h
          replace h := chk_some h; obtain ⟨h65, h⟩ := h
          refine ⟨h59, rfl, (Or.inl (PureFn.arg (ucd_hex_ok (getL ByteArray.empty v2 (0 + 0)) v3 h60) (And.intro (LeD.refl _)
              trivial))), h61, rfl, (Or.inl (PureFn.arg (ucd_hex_ok (getL ByteArray.empty v2 (0 + 1)) v4 h62) (And.intro (LeD.refl _)
              trivial))), h63, rfl, (Or.inl (PureFn.arg (ucd_hex_ok (getL ByteArray.empty v2 (0 + 2)) v5 h64) (And.intro (LeD.refl _)
              trivial))), rfl, (by have := ht'1_g 34; show (_ : Nat) < _; (try dsimp only [std_eq, stdN]); omega), h65, (show drOk _ _ = true by kernel_rfl), ?_⟩
          replace h := chk_some h; obtain ⟨h66, h⟩ := h
          refine ⟨h66, ?_⟩
          subst hN
          cases h
          show ∃ t', _ ∧ GeSt _ _ _
          refine ⟨⟨t'1_c + 15, gfn [(8, t'1_g 8), (34, t'1_c + 4)], tfn [(8, t'1_t 8), (34, false)]⟩, Hid.mk_ok (by omega) (And.intro (by have := ht'1_g 8; omega)
              (And.intro (by omega)
              trivial)), ?_⟩
          exact GeSt.of (LeSt.frame (by show (_ : Nat) < _; (try dsimp only [std_eq, stdN]); omega) rfl rfl (And.intro ⟨_, rfl, LeD.vec rfl (by first | rfl | assumption | (symm; assumption) | ((try dsimp only [std_eq, stdN, nvS]) <;> first | rfl | omega | (simp (disch := first | omega | (simp only [lenL_set, lenL_app, lenL_cons, lenL_nil] <;> omega)) only [lenL_bytes, lenL_set, lenL_app, lenL_cons, lenL_nil, lenL_rep, lenL_sub, lenL_cpy, Int.ofNat_eq_natCast, Int.zero_add, Int.sub_zero] <;> try omega)))⟩
              (And.intro ⟨_, rfl, LeD.refl _⟩
              (And.intro ⟨_, rfl, LeD.refl _⟩
              (And.intro ⟨_, rfl, LeD.refl _⟩
              trivial)))) (And.intro ⟨_, rfl, LeOb.refl _⟩
              (And.intro ⟨_, rfl, LeOb.arrE (by first | rfl | assumption | (symm; assumption) | ((try dsimp only [std_eq, stdN, nvS]) <;> first | rfl | omega | (simp (disch := first | omega | (simp only [lenL_set, lenL_app, lenL_cons, lenL_nil] <;> omega)) only [lenL_bytes, lenL_set, lenL_app, lenL_cons, lenL_nil, lenL_rep, lenL_sub, lenL_cpy, Int.ofNat_eq_natCast, Int.zero_add, Int.sub_zero] <;> try omega))) (fun i i0 i1 j hj => by (try dsimp only [std_eq, stdN, nvS] at i1); (try simp only [Int.ofNat_eq_natCast] at i1); (rcases (show j = 0 ∨ j = 1 ∨ j = 2 by omega) with rfl | rfl | rfl) <;> (conv => lhs; whnf) <;> (conv => rhs; whnf) <;> (try dsimp only [std_eq, stdN, nvS]) <;> (first | rfl | (simp (disch := first | omega | (simp only [lenL_set, lenL_app, lenL_cons, lenL_nil] <;> omega)) only [getL_bytes, getL_put, getL_app, getL_rep, getL_sub, getL_cpy, Int.zero_add, Int.sub_zero, beq_iff_eq, decide_eq_true_eq, Bool.and_eq_true] <;> first | rfl | (split <;> first | rfl | (simp (disch := first | omega | (simp only [lenL_set, lenL_app, lenL_cons, lenL_nil] <;> omega)) only [getL_one, getL_zero] <;> rfl)) | ((simp only [lenL_app, lenL_cons, lenL_nil, Int.ofNat_eq_natCast]) <;> (repeat' split) <;> first | rfl | (exfalso; omega) | (simp (disch := omega) only [getL_one, getL_zero] <;> rfl) | (congr 3; omega)))))⟩
              trivial)))
        · replace h := iteO_f h h58
          replace h := chk_some h; obtain ⟨h67, h⟩ := h
          refine ⟨h67, ?_⟩
          subst hN
          cases h
          show ∃ t', _ ∧ GeSt _ _ _
          refine ⟨⟨t'1_c + 14, gfn [(8, t'1_g 8), (34, t'1_g 34)], tfn [(8, t'1_t 8), (34, t'1_t 34)]⟩, Hid.mk_ok (by omega) (And.intro (by have := ht'1_g 8; omega)
              (And.intro (by have := ht'1_g 34; omega)
              trivial)), ?_⟩
          exact GeSt.of (LeSt.frame (by show (_ : Nat) < _; (try dsimp only [std_eq, stdN]); omega) rfl rfl (And.intro ⟨_, rfl, LeD.refl _⟩
              (And.intro ⟨_, rfl, LeD.refl _⟩
              (And.intro ⟨_, rfl, LeD.refl _⟩
              (And.intro ⟨_, rfl, LeD.refl _⟩
              trivial)))) (And.intro ⟨_, rfl, LeOb.refl _⟩
              (And.intro ⟨_, rfl, LeOb.refl _⟩
              trivial)))
      · replace h := iteO_f h h55
        subst hN
        cases h
        intro he; cases he
        show ∃ t', _ ∧ GeSt _ _ _
        refine ⟨⟨t'1_c + 10, gfn [(34, t'1_g 34)], tfn [(34, t'1_t 34)]⟩, Hid.mk_ok (by omega) (And.intro (by have := ht'1_g 34; omega)
            trivial), ?_⟩
        exact GeSt.of (LeSt.frame (by show (_ : Nat) < _; (try dsimp only [std_eq, stdN]); omega) rfl rfl (And.intro ⟨_, rfl, LeD.vec rfl (by first | rfl | assumption | (symm; assumption) | ((try dsimp only [std_eq, stdN, nvS]) <;> first | rfl | omega | (simp (disch := first | omega | (simp only [lenL_set, lenL_app, lenL_cons, lenL_nil] <;> omega)) only [lenL_bytes, lenL_set, lenL_app, lenL_cons, lenL_nil, lenL_rep, lenL_sub, lenL_cpy, Int.ofNat_eq_natCast, Int.zero_add, Int.sub_zero] <;> try omega)))⟩
            trivial) (And.intro ⟨_, rfl, LeOb.arrE (by first | rfl | assumption | (symm; assumption) | ((try dsimp only [std_eq, stdN, nvS]) <;> first | rfl | omega | (simp (disch := first | omega | (simp only [lenL_set, lenL_app, lenL_cons, lenL_nil] <;> omega)) only [lenL_bytes, lenL_set, lenL_app, lenL_cons, lenL_nil, lenL_rep, lenL_sub, lenL_cpy, Int.ofNat_eq_natCast, Int.zero_add, Int.sub_zero] <;> try omega))) (fun i i0 i1 j hj => by (try dsimp only [std_eq, stdN, nvS] at i1); (try simp only [Int.ofNat_eq_natCast] at i1); (rcases (show j = 0 ∨ j = 1 ∨ j = 2 by omega) with rfl | rfl | rfl) <;> (conv => lhs; whnf) <;> (conv => rhs; whnf) <;> (try dsimp only [std_eq, stdN, nvS]) <;> (first | rfl | (simp (disch := first | omega | (simp only [lenL_set, lenL_app, lenL_cons, lenL_nil] <;> omega)) only [getL_bytes, getL_put, getL_app, getL_rep, getL_sub, getL_cpy, Int.zero_add, Int.sub_zero, beq_iff_eq, decide_eq_true_eq, Bool.and_eq_true] <;> first | rfl | (split <;> first | rfl | (simp (disch := first | omega | (simp only [lenL_set, lenL_app, lenL_cons, lenL_nil] <;> omega)) only [getL_one, getL_zero] <;> rfl)) | ((simp only [lenL_app, lenL_cons, lenL_nil, Int.ofNat_eq_natCast]) <;> (repeat' split) <;> first | rfl | (exfalso; omega) | (simp (disch := omega) only [getL_one, getL_zero] <;> rfl) | (congr 3; omega)))))⟩
            trivial))

theorem ucd_Load_ok  (r : T_ucd_Data) (h : ucd_Load = some r) : PureFn Tryd.prog 15 [] ((.agg 6 (fun j => (D_ucd_Data nvS r j)))) := by
  unfold ucd_Load at h
  refine fn_tr tt0_ok Tryd.func15 (by kernel_rfl) (c := bodyOf Tryd.f15) (by kernel_rfl) ?_
  intro ctr hc
  obtain ⟨v, h1⟩ : ∃ v, valO d_ranges_Table (ucd_table_class kS1) = v := ⟨_, rfl⟩
  obtain ⟨v1, h2⟩ : ∃ v1, valO d_ranges_Table (ucd_table_wide kS2) = v1 := ⟨_, rfl⟩
  obtain ⟨v2, h3⟩ : ∃ v2, valO d_ranges_Table (ucd_table_join kS3) = v2 := ⟨_, rfl⟩
  obtain ⟨v3, h4⟩ : ∃ v3, valO [] (ucd_pairs kS4) = v3 := ⟨_, rfl⟩
  obtain ⟨v4, h5⟩ : ∃ v4, valO [] (ucd_pairs kS5) = v4 := ⟨_, rfl⟩
  obtain ⟨v5, h6⟩ : ∃ v5, valO [] (ucd_forms kS6) = v5 := ⟨_, rfl⟩
  refine Tr.chunk (cx := ⟨tt0, ⟨fun f => kOf [(37, 1), (38, 1)] f, fun k _ _ _ => orcL [(1, .plain (.agg 1 (fun j => (D_ranges_Table nvS v j)))), (2, .plain (.agg 1 (fun j => (D_ranges_Table nvS v1 j)))), (3, .plain (.agg 1 (fun j => (D_ranges_Table nvS v2 j)))), (4, .own 2 (nvS.len v3) false (fun i j => (D_ucd_Pair nvS (nvS.get d_ucd_Pair v3 i) j))), (5, .own 2 (nvS.len v4) false (fun i j => (D_ucd_Pair nvS (nvS.get d_ucd_Pair v4 i) j))), (6, .own 3 (nvS.len v5) false (fun i j => (D_ucd_Form nvS (nvS.get d_ucd_Form v5 i) j)))] k, fun t => memN [] t⟩, 0, fun r => ghL [] r⟩) tt0_ok hPm fun N hN => ?_
  generalize hp : std Tryd.prog = p
  generalize hv : nvS = nv
  cbv
  subst hp
  subst hv
  replace h := bindO_val h1 h; clear h1; obtain ⟨h1, h⟩ := h
  replace h := bindO_val h2 h; clear h2; obtain ⟨h2, h⟩ := h
  replace h := bindO_val h3 h; clear h3; obtain ⟨h3, h⟩ := h
  replace h := bindO_val h4 h; clear h4; obtain ⟨h4, h⟩ := h
  replace h := bindO_val h5 h; clear h5; obtain ⟨h5, h⟩ := h
  replace h := bindO_val h6 h; clear h6; obtain ⟨h6, h⟩ := h
  refine ⟨(Or.inl (PureFn.arg (ucd_table_class_ok kS1 v h1) (And.intro (LeD.refl _)
      (And.intro (LeD.refl _)
      trivial)))), (Or.inl (PureFn.arg (ucd_table_wide_ok kS2 v1 h2) (And.intro (LeD.refl _)
      (And.intro (LeD.refl _)
      trivial)))), (Or.inl (PureFn.arg (ucd_table_join_ok kS3 v2 h3) (And.intro (LeD.refl _)
      (And.intro (LeD.refl _)
      trivial)))), (Or.inl (PureFn.arg (ucd_pairs_ok kS4 v3 h4) (And.intro (LeD.refl _)
      trivial))), (Or.inl (PureFn.arg (ucd_pairs_ok kS5 v4 h5) (And.intro (LeD.refl _)
      trivial))), (Or.inl (PureFn.arg (ucd_forms_ok kS6 v5 h6) (And.intro (LeD.refl _)
      trivial))), rfl, ?_⟩
  subst hN
  have hr := Option.some.inj h
  subst hr
  try dsimp only [noGoto, inBlockQ, thenQ]
  repeat (first | refine (if_pos rfl).mpr ?_ | refine (if_neg (by decide)).mpr ?_)
  refine retQ_ret rfl ?_ ?_
  · exact (And.intro (rfl)
        trivial)
  · exact (fun i _ _ j hj => by
          have hj2 : j < 6 := hj
          rcases (show j = 0 ∨ j = 1 ∨ j = 2 ∨ j = 3 ∨ j = 4 ∨ j = 5 by omega) with rfl | rfl | rfl | rfl | rfl | rfl
          · exact out0_sl (fun i j => out_ranges_Row _ _)
          · exact out0_sl (fun i j => out_ranges_Row _ _)
          · exact out0_sl (fun i j => out_ranges_Row _ _)
          · exact (And.intro (rfl)
        (And.intro (by first | rfl | assumption | (symm; assumption) | ((try dsimp only [std_eq, stdN, nvS]) <;> first | rfl | omega | (simp (disch := first | omega | (simp only [lenL_set, lenL_app, lenL_cons, lenL_nil] <;> omega)) only [lenL_bytes, lenL_set, lenL_app, lenL_cons, lenL_nil, lenL_rep, lenL_sub, lenL_cpy, Int.ofNat_eq_natCast, Int.zero_add, Int.sub_zero] <;> try omega)))
        (And.intro (fun h => by cases h)
        (out0_all (fun i j => out_ucd_Pair _ _) (fun i i0 i1 j hj => by (try dsimp only [std_eq, stdN, nvS] at i1); (try simp only [Int.ofNat_eq_natCast] at i1); (rcases (show j = 0 ∨ j = 1 by omega) with rfl | rfl) <;> (conv => lhs; whnf) <;> (conv => rhs; whnf) <;> (try dsimp only [std_eq, stdN, nvS]) <;> (first | rfl | (simp (disch := first | omega | (simp only [lenL_set, lenL_app, lenL_cons, lenL_nil] <;> omega)) only [getL_bytes, getL_put, getL_app, getL_rep, getL_sub, getL_cpy, Int.zero_add, Int.sub_zero, beq_iff_eq, decide_eq_true_eq, Bool.and_eq_true] <;> first | rfl | (split <;> first | rfl | (simp (disch := first | omega | (simp only [lenL_set, lenL_app, lenL_cons, lenL_nil] <;> omega)) only [getL_one, getL_zero] <;> rfl)) | ((simp only [lenL_app, lenL_cons, lenL_nil, Int.ofNat_eq_natCast]) <;> (repeat' split) <;> first | rfl | (exfalso; omega) | (simp (disch := omega) only [getL_one, getL_zero] <;> rfl) | (congr 3; omega)))))))))
          · exact (And.intro (rfl)
        (And.intro (by first | rfl | assumption | (symm; assumption) | ((try dsimp only [std_eq, stdN, nvS]) <;> first | rfl | omega | (simp (disch := first | omega | (simp only [lenL_set, lenL_app, lenL_cons, lenL_nil] <;> omega)) only [lenL_bytes, lenL_set, lenL_app, lenL_cons, lenL_nil, lenL_rep, lenL_sub, lenL_cpy, Int.ofNat_eq_natCast, Int.zero_add, Int.sub_zero] <;> try omega)))
        (And.intro (fun h => by cases h)
        (out0_all (fun i j => out_ucd_Pair _ _) (fun i i0 i1 j hj => by (try dsimp only [std_eq, stdN, nvS] at i1); (try simp only [Int.ofNat_eq_natCast] at i1); (rcases (show j = 0 ∨ j = 1 by omega) with rfl | rfl) <;> (conv => lhs; whnf) <;> (conv => rhs; whnf) <;> (try dsimp only [std_eq, stdN, nvS]) <;> (first | rfl | (simp (disch := first | omega | (simp only [lenL_set, lenL_app, lenL_cons, lenL_nil] <;> omega)) only [getL_bytes, getL_put, getL_app, getL_rep, getL_sub, getL_cpy, Int.zero_add, Int.sub_zero, beq_iff_eq, decide_eq_true_eq, Bool.and_eq_true] <;> first | rfl | (split <;> first | rfl | (simp (disch := first | omega | (simp only [lenL_set, lenL_app, lenL_cons, lenL_nil] <;> omega)) only [getL_one, getL_zero] <;> rfl)) | ((simp only [lenL_app, lenL_cons, lenL_nil, Int.ofNat_eq_natCast]) <;> (repeat' split) <;> first | rfl | (exfalso; omega) | (simp (disch := omega) only [getL_one, getL_zero] <;> rfl) | (congr 3; omega)))))))))
          · exact (And.intro (rfl)
        (And.intro (by first | rfl | assumption | (symm; assumption) | ((try dsimp only [std_eq, stdN, nvS]) <;> first | rfl | omega | (simp (disch := first | omega | (simp only [lenL_set, lenL_app, lenL_cons, lenL_nil] <;> omega)) only [lenL_bytes, lenL_set, lenL_app, lenL_cons, lenL_nil, lenL_rep, lenL_sub, lenL_cpy, Int.ofNat_eq_natCast, Int.zero_add, Int.sub_zero] <;> try omega)))
        (And.intro (fun h => by cases h)
        (out0_all (fun i j => out_ucd_Form _ _) (fun i i0 i1 j hj => by (try dsimp only [std_eq, stdN, nvS] at i1); (try simp only [Int.ofNat_eq_natCast] at i1); (rcases (show j = 0 ∨ j = 1 ∨ j = 2 by omega) with rfl | rfl | rfl) <;> (conv => lhs; whnf) <;> (conv => rhs; whnf) <;> (try dsimp only [std_eq, stdN, nvS]) <;> (first | rfl | (simp (disch := first | omega | (simp only [lenL_set, lenL_app, lenL_cons, lenL_nil] <;> omega)) only [getL_bytes, getL_put, getL_app, getL_rep, getL_sub, getL_cpy, Int.zero_add, Int.sub_zero, beq_iff_eq, decide_eq_true_eq, Bool.and_eq_true] <;> first | rfl | (split <;> first | rfl | (simp (disch := first | omega | (simp only [lenL_set, lenL_app, lenL_cons, lenL_nil] <;> omega)) only [getL_one, getL_zero] <;> rfl)) | ((simp only [lenL_app, lenL_cons, lenL_nil, Int.ofNat_eq_natCast]) <;> (repeat' split) <;> first | rfl | (exfalso; omega) | (simp (disch := omega) only [getL_one, getL_zero] <;> rfl) | (congr 3; omega))))))))))
end Go.Vx
