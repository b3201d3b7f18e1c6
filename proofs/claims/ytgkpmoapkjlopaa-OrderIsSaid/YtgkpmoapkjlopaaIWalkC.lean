/- Walks, by program (lift.py). -/
import Derived.Test.YtgkpmoapkjlopaaIWalk
import Derived.Test.YtgkpmoapkjlopaaIWalkB
set_option linter.all false
namespace Go.Vx
open Go.Proofs
set_option maxRecDepth 100000
set_option linter.unusedVariables false
set_option linter.unusedSimpArgs false

theorem ranges_Get_ok (t' : T_ranges_Table) (r' : Int) (r : Int) (h : ranges_Get t' r' = some r) : PureFn Try.prog 31 [(.agg 1 (fun j => (D_ranges_Table nvS t' j))), (.v (.int .i64 r'))] ((.v (.int .i64 r))) := by
  unfold ranges_Get at h
  refine fn_tr tt0_ok Try.func31 (by kernel_rfl) (c := bodyOf Try.f31) (by kernel_rfl) ?_
  intro ctr hc
  refine Tr.pre (cx := ⟨tt0, ⟨fun f => kOf [] f, fun k _ _ _ => orcL [] k, fun t => memN [] t⟩, 0, fun r => ghL [] r⟩) tt0_ok hPm 1 fun N hN => ?_
  generalize hp : std Try.prog = p
  generalize hv : nvS = nv
  cbv
  subst hp
  subst hv
  subst hN
  show Tr _ _ _ _
  refine Tr.cutSeq (α := Unit) h (fun _ t'1 => ⟨frm 27 [] 0, frO 27 [] 0, t'1.c⟩) (fun _ t => Hid.ok t) (fun x t'1 ht'1 h => ?_) (fun f h => ?_)
  · obtain ⟨t'1_c, t'1_g, t'1_t⟩ := t'1
    have ht'1_c : 0 < t'1_c := ht'1.1
    have ht'1_g : ∀ k, t'1_g k < t'1_c := ht'1.2
    refine Tr.chunk (cx := ⟨tt0, ⟨fun f => kOf [] f, fun k _ _ _ => orcL [] k, fun t => memN [] t⟩, 0, fun r => ghL [] r⟩) tt0_ok hPm fun N hN => ?_
    generalize hp : std Try.prog = p
    generalize hv : nvS = nv
    cbv
    subst hp
    subst hv
    subst hN
    have hr := Option.some.inj h
    subst hr
    try dsimp only [noGoto, inBlockQ, thenQ]
    repeat (first | refine (if_pos rfl).mpr ?_ | refine (if_neg (by decide)).mpr ?_)
    refine retQ_ret rfl ?_ ?_
    · exact trivial
    · exact rfl
  · refine Tr.pre (cx := ⟨tt0, ⟨fun f => kOf [] f, fun k _ _ _ => orcL [] k, fun t => memN [] t⟩, 0, fun r => ghL [] r⟩) tt0_ok hPm 1 fun N hN => ?_
    generalize hp : std Try.prog = p
    generalize hv : nvS = nv
    cbv
    subst hp
    subst hv
    refine ⟨rfl, ?_⟩
    subst hN
    show Tr _ _ _ _
    refine Tr.block ?_
    refine Tr.loopO (α := Int) (fun v t'2 => ⟨frm 27 [(1, .v (.int .i64 r')), (8, .sl 3 (nvS.len t'.fL) false (fun i j => (D_ranges_Row nvS (nvS.get d_ranges_Row t'.fL i) j))), (9, .v (.int .i64 (nvS.len t'.fL))), (10, .v (.int .i64 v))] 0, frO 27 [] 0, t'2.c⟩) (fun _ t => Hid.ok t) ⟨ctr + 11, gfn [], tfn []⟩ h ?_ ?_ (fun x t'2 f ht'2 h => ?_)
    · exact Hid.mk_ok (by omega) trivial
    · exact GeSt.of (LeSt.frame (by show (_ : Nat) < _; (try dsimp only [std_eq, stdN]); omega) rfl rfl (And.intro ⟨_, rfl, LeD.refl _⟩
          (And.intro ⟨_, rfl, LeD.refl _⟩
          (And.intro ⟨_, rfl, LeD.refl _⟩
          (And.intro ⟨_, rfl, LeD.refl _⟩
          trivial)))) trivial)
    · revert h; revert ht'2; revert x; intro v ht'2 h
      obtain ⟨t'2_c, t'2_g, t'2_t⟩ := t'2
      have ht'2_c : 0 < t'2_c := ht'2.1
      have ht'2_g : ∀ k, t'2_g k < t'2_c := ht'2.2
      refine Tr.chunk (cx := ⟨tt0, ⟨fun f => kOf [] f, fun k _ _ _ => orcL [] k, fun t => memN [] t⟩, 0, fun r => ghL [] r⟩) tt0_ok hPm fun N hN => ?_
      generalize hp : std Try.prog = p
      generalize hv : nvS = nv
      cbv
      subst hp
      subst hv
      refine ⟨fun h17 => ?_, fun h17 => ?_⟩
      · replace h := iteO_t h h17
        replace h := chk_some h; obtain ⟨h18, h⟩ := h
        refine ⟨h18, rfl, ?_⟩
        refine ⟨rfl, (fun hg => hg), (fun _ => rfl), (fun hg => hg), (fun hg => hg), (fun hg => hg), ?_⟩
        refine ⟨fun h19 => ?_, fun h19 => ?_⟩
        · replace h := iteO_t h h19
          refine ⟨rfl, ?_⟩
          subst hN
          cases h
          intro he; cases he
          intro hr
          subst hr
          try dsimp only [noGoto, inBlockQ, thenQ]
          repeat (first | refine (if_pos rfl).mpr ?_ | refine (if_neg (by decide)).mpr ?_)
          refine retQ_ret rfl ?_ ?_
          · exact trivial
          · exact rfl
        · replace h := iteO_f h h19
          replace h := chk_some h; obtain ⟨h20, h⟩ := h
          refine ⟨h20, ?_⟩
          subst hN
          cases h
          show ∃ t', _ ∧ GeSt _ _ _
          refine ⟨⟨t'2_c + 13, gfn [], tfn []⟩, Hid.mk_ok (by omega) trivial, ?_⟩
          exact GeSt.of (LeSt.frame (by show (_ : Nat) < _; (try dsimp only [std_eq, stdN]); omega) rfl rfl (And.intro ⟨_, rfl, LeD.refl _⟩
              (And.intro ⟨_, rfl, LeD.refl _⟩
              (And.intro ⟨_, rfl, LeD.refl _⟩
              (And.intro ⟨_, rfl, LeD.refl _⟩
              trivial)))) trivial)
      · replace h := iteO_f h h17
        subst hN
        cases h
        intro he; cases he
        show ∃ t', _ ∧ GeSt _ _ _
        refine ⟨⟨t'2_c + 10, gfn [], tfn []⟩, Hid.mk_ok (by omega) trivial, ?_⟩
        exact GeSt.of (LeSt.frame (by show (_ : Nat) < _; (try dsimp only [std_eq, stdN]); omega) rfl rfl trivial trivial)

theorem ucd_Class_ok (d' : T_ucd_Data) (r' : Int) (r : Int) (h : ucd_Class d' r' = some r) : PureFn Try.prog 26 [(.agg 6 (fun j => (D_ucd_Data nvS d' j))), (.v (.int .i64 r'))] ((.v (.int .i64 r))) := by
  unfold ucd_Class at h
  refine fn_tr tt0_ok Try.func26 (by kernel_rfl) (c := bodyOf Try.f26) (by kernel_rfl) ?_
  intro ctr hc
  obtain ⟨v, h1⟩ : ∃ v, valO 0 (ranges_Get d'.fClass r') = v := ⟨_, rfl⟩
  refine Tr.chunk (cx := ⟨tt0, ⟨fun f => kOf [] f, fun k _ _ _ => orcL [(9, .plain (.v (.int .i64 v)))] k, fun t => memN [] t⟩, 0, fun r => ghL [] r⟩) tt0_ok hPm fun N hN => ?_
  generalize hp : std Try.prog = p
  generalize hv : nvS = nv
  cbv
  subst hp
  subst hv
  replace h := bindO_val h1 h; clear h1; obtain ⟨h1, h⟩ := h
  refine ⟨rfl, (Or.inl (PureFn.arg (ranges_Get_ok d'.fClass r' v h1) (And.intro (LeD.agg fun j hj => by
        have hj2 : j < 1 := hj
        rcases (show j = 0 by omega) with rfl
        · exact LeD.refl _)
      (And.intro (LeD.refl _)
      trivial)))), ?_⟩
  refine ⟨fun h2 => ?_, fun h2 => ?_⟩
  · replace h := iteO_t h h2
    subst hN
    have hr := Option.some.inj h
    subst hr
    try dsimp only [noGoto, inBlockQ, thenQ]
    repeat (first | refine (if_pos rfl).mpr ?_ | refine (if_neg (by decide)).mpr ?_)
    refine retQ_ret rfl ?_ ?_
    · exact trivial
    · exact rfl
  · replace h := iteO_f h h2
    subst hN
    have hr := Option.some.inj h
    subst hr
    try dsimp only [noGoto, inBlockQ, thenQ]
    repeat (first | refine (if_pos rfl).mpr ?_ | refine (if_neg (by decide)).mpr ?_)
    refine retQ_ret rfl ?_ ?_
    · exact trivial
    · exact rfl

theorem lapwinglaw19_rows_ok (t' : T_lapwingref01_Table) (r : T_ranges_Table) (h : lapwinglaw19_rows t' = some r) : PureFn Try.prog 28 [(.agg 1 (fun j => (D_lapwingref01_Table nvS t' j)))] ((.agg 1 (fun j => (D_ranges_Table nvS r j)))) := by
  unfold lapwinglaw19_rows at h
  refine fn_tr tt0_ok Try.func28 (by kernel_rfl) (c := bodyOf Try.f28) (by kernel_rfl) ?_
  intro ctr hc
  refine Tr.pre (cx := ⟨tt0, ⟨fun f => kOf [] f, fun k _ _ _ => orcL [] k, fun t => memN [] t⟩, 0, fun r => ghL [] r⟩) tt0_ok hPm 2 fun N hN => ?_
  generalize hp : std Try.prog = p
  generalize hv : nvS = nv
  cbv
  subst hp
  subst hv
  refine ⟨rfl, ?_⟩
  subst hN
  show Tr _ _ _ _
  refine Tr.cutSeq (α := List T_ranges_Row) h (fun o t'1 => ⟨frm 38 [(2, .bref 2 (t'1.g 2) 0), (3, .bref 3 (t'1.g 3) 0)] 0, frO 38 [(2, .box (t'1.g 2) [.nilsl]), (3, .box (t'1.g 3) [.vec 35 (t'1.g 35) 3 0 (nvS.len o)]), (35, .arr (t'1.g 35) 3 (nvS.len o) (t'1.t 35) (fun i j => (D_ranges_Row nvS (nvS.get d_ranges_Row o i) j)))] 0, t'1.c⟩) (fun _ t => Hid.ok t) (fun x t'1 ht'1 h => ?_) (fun f h => ?_)
  · revert h; revert ht'1; revert x; intro o ht'1 h
    obtain ⟨t'1_c, t'1_g, t'1_t⟩ := t'1
    have ht'1_c : 0 < t'1_c := ht'1.1
    have ht'1_g : ∀ k, t'1_g k < t'1_c := ht'1.2
    refine Tr.chunk (cx := ⟨tt0, ⟨fun f => kOf [] f, fun k _ _ _ => orcL [] k, fun t => memN [] t⟩, 0, fun r => ghL [] r⟩) tt0_ok hPm fun N hN => ?_
    generalize hp : std Try.prog = p
    generalize hv : nvS = nv
    cbv
    subst hp
    subst hv
    refine ⟨rfl, rfl, ?_⟩
    subst hN
    have hr := Option.some.inj h
    subst hr
    try dsimp only [noGoto, inBlockQ, thenQ]
    repeat (first | refine (if_pos rfl).mpr ?_ | refine (if_neg (by decide)).mpr ?_)
    refine retQ_ret rfl ?_ ?_
    · exact (And.intro (rfl)
          trivial)
    · exact (fun i _ _ j hj => by
            have hj2 : j < 1 := hj
            rcases (show j = 0 by omega) with rfl
            · exact (And.intro (rfl)
          (And.intro (by first | rfl | assumption | (symm; assumption) | ((try dsimp only [std_eq, stdN, nvS]) <;> first | rfl | omega | (simp (disch := first | omega | (simp only [lenL_set, lenL_app, lenL_cons, lenL_nil] <;> omega)) only [lenL_bytes, lenL_set, lenL_app, lenL_cons, lenL_nil, lenL_rep, lenL_sub, lenL_cpy, Int.ofNat_eq_natCast, Int.zero_add, Int.sub_zero] <;> try omega)))
          (And.intro (fun h => by cases h)
          (out0_all (fun i j => out_ranges_Row _ _) (fun i i0 i1 j hj => by (try dsimp only [std_eq, stdN, nvS] at i1); (try simp only [Int.ofNat_eq_natCast] at i1); (rcases (show j = 0 ∨ j = 1 ∨ j = 2 by omega) with rfl | rfl | rfl) <;> (conv => lhs; whnf) <;> (conv => rhs; whnf) <;> (try dsimp only [std_eq, stdN, nvS]) <;> (first | rfl | (simp (disch := first | omega | (simp only [lenL_set, lenL_app, lenL_cons, lenL_nil] <;> omega)) only [getL_bytes, getL_put, getL_app, getL_rep, getL_sub, getL_cpy, Int.zero_add, Int.sub_zero, beq_iff_eq, decide_eq_true_eq, Bool.and_eq_true] <;> first | rfl | (split <;> first | rfl | (simp (disch := first | omega | (simp only [lenL_set, lenL_app, lenL_cons, lenL_nil] <;> omega)) only [getL_one, getL_zero] <;> rfl)) | ((simp only [lenL_app, lenL_cons, lenL_nil, Int.ofNat_eq_natCast]) <;> (repeat' split) <;> first | rfl | (exfalso; omega) | (simp (disch := omega) only [getL_one, getL_zero] <;> rfl) | (congr 3; omega))))))))))
  · refine Tr.pre (cx := ⟨tt0, ⟨fun f => kOf [] f, fun k _ _ _ => orcL [] k, fun t => memN [] t⟩, 0, fun r => ghL [] r⟩) tt0_ok hPm 1 fun N hN => ?_
    generalize hp : std Try.prog = p
    generalize hv : nvS = nv
    cbv
    subst hp
    subst hv
    subst hN
    show Tr _ _ _ _
    refine Tr.block ?_
    refine Tr.loopO (α := Int × List T_ranges_Row) (fun (i, o1) t'2 => ⟨frm 38 [(1, .bref 1 (t'2.g 1) 0), (2, .bref 2 (t'2.g 2) 0), (3, .bref 3 (t'2.g 3) 0), (4, .v (.int .i64 i))] 0, frO 38 [(1, .box (t'2.g 1) [.sl 3 (nvS.len t'.fL) false (fun i j => (D_lapwingref01_Row nvS (nvS.get d_lapwingref01_Row t'.fL i) j))]), (2, .box (t'2.g 2) [.nilsl]), (3, .box (t'2.g 3) [.vec 35 (t'2.g 35) 3 0 (nvS.len o1)]), (35, .arr (t'2.g 35) 3 (nvS.len o1) (t'2.t 35) (fun i j => (D_ranges_Row nvS (nvS.get d_ranges_Row o1 i) j)))] 0, t'2.c⟩) (fun _ t => Hid.ok t) ⟨ctr + 13, gfn [(1, ctr + 0), (2, ctr + 0), (3, ctr + 1), (35, ctr + 3)], tfn [(1, false), (2, false), (3, false), (35, false)]⟩ h ?_ ?_ (fun x t'2 f ht'2 h => ?_)
    · exact Hid.mk_ok (by omega) (And.intro (by omega)
          (And.intro (by omega)
          (And.intro (by omega)
          (And.intro (by omega)
          trivial))))
    · refine GeSt.by [.thaw (.cell 3 0) 35 3] rfl ?_ ?_
      · exact trivial
      · exact LeSt.frame (show ctr + 4 < ctr + 13 by omega) rfl rfl (And.intro ⟨_, rfl, LeD.refl _⟩
            (And.intro ⟨_, rfl, LeD.refl _⟩
            (And.intro ⟨_, rfl, LeD.refl _⟩
            (And.intro ⟨_, rfl, LeD.refl _⟩
            trivial)))) (And.intro ⟨_, rfl, LeOb.box (And.intro (LeD.refl _)
            trivial)⟩
            (And.intro ⟨_, rfl, LeOb.box (And.intro (LeD.refl _)
            trivial)⟩
            (And.intro ⟨_, rfl, LeOb.box (And.intro (LeD.refl _)
            trivial)⟩
            (And.intro ⟨_, rfl, LeOb.arr' rfl (fun i i0 i1 j hj => by exfalso; revert i1; show i < (0 : Int) → False; omega)⟩
            trivial))))
    · obtain ⟨i, o1⟩ := x
      obtain ⟨t'2_c, t'2_g, t'2_t⟩ := t'2
      have ht'2_c : 0 < t'2_c := ht'2.1
      have ht'2_g : ∀ k, t'2_g k < t'2_c := ht'2.2
      refine Tr.chunk (cx := ⟨tt0, ⟨fun f => kOf [] f, fun k _ _ _ => orcL [] k, fun t => memN [34] t⟩, 0, fun r => ghL [] r⟩) tt0_ok hPm fun N hN => ?_
      generalize hp : std Try.prog = p
      generalize hv : nvS = nv
      cbv
      subst hp
      subst hv
      refine ⟨rfl, ?_⟩
      refine ⟨fun h25 => ?_, fun h25 => ?_⟩
      · replace h := iteO_t h h25
        replace h := chk_some h; obtain ⟨h26, h⟩ := h
        replace h := chk_some h; obtain ⟨h27, h⟩ := h
        replace h := chk_some h; obtain ⟨h28, h⟩ := h
        replace h := chk_some h; obtain ⟨h29, h⟩ := h
        refine ⟨rfl, rfl, h26, rfl, h27, rfl, h28, rfl, (by have := ht'2_g 35; show (_ : Nat) < _; try dsimp only [std_eq, stdN]; omega), h29, rfl, (show drOk _ _ = true by kernel_rfl), ?_⟩
        replace h := chk_some h; obtain ⟨h30, h⟩ := h
        refine ⟨h30, ?_⟩
        subst hN
        cases h
        show ∃ t', _ ∧ GeSt _ _ _
        refine ⟨⟨t'2_c + 12, gfn [(1, t'2_g 1), (2, t'2_g 2), (3, t'2_g 3), (35, t'2_c + 1)], tfn [(1, false), (2, false), (3, false), (35, false)]⟩, Hid.mk_ok (by omega) (And.intro (by have := ht'2_g 1; omega)
            (And.intro (by have := ht'2_g 2; omega)
            (And.intro (by have := ht'2_g 3; omega)
            (And.intro (by omega)
            trivial)))), ?_⟩
        exact GeSt.of (LeSt.frame (by show (_ : Nat) < _; (try dsimp only [std_eq, stdN]); omega) rfl rfl (And.intro ⟨_, rfl, LeD.refl _⟩
            (And.intro ⟨_, rfl, LeD.refl _⟩
            (And.intro ⟨_, rfl, LeD.refl _⟩
            (And.intro ⟨_, rfl, LeD.refl _⟩
            trivial)))) (And.intro ⟨_, rfl, LeOb.box (And.intro (LeD.refl _)
            trivial)⟩
            (And.intro ⟨_, rfl, LeOb.box (And.intro (LeD.refl _)
            trivial)⟩
            (And.intro ⟨_, rfl, LeOb.box (And.intro (LeD.vec rfl (by first | rfl | assumption | (symm; assumption) | ((try dsimp only [std_eq, stdN, nvS]) <;> first | rfl | omega | (simp (disch := first | omega | (simp only [lenL_set, lenL_app, lenL_cons, lenL_nil] <;> omega)) only [lenL_bytes, lenL_set, lenL_app, lenL_cons, lenL_nil, lenL_rep, lenL_sub, lenL_cpy, Int.ofNat_eq_natCast, Int.zero_add, Int.sub_zero] <;> try omega))))
            trivial)⟩
            (And.intro ⟨_, rfl, LeOb.arrE (by first | rfl | assumption | (symm; assumption) | ((try dsimp only [std_eq, stdN, nvS]) <;> first | rfl | omega | (simp (disch := first | omega | (simp only [lenL_set, lenL_app, lenL_cons, lenL_nil] <;> omega)) only [lenL_bytes, lenL_set, lenL_app, lenL_cons, lenL_nil, lenL_rep, lenL_sub, lenL_cpy, Int.ofNat_eq_natCast, Int.zero_add, Int.sub_zero] <;> try omega))) (fun i i0 i1 j hj => by (try dsimp only [std_eq, stdN, nvS] at i1); (try simp only [Int.ofNat_eq_natCast] at i1); (rcases (show j = 0 ∨ j = 1 ∨ j = 2 by omega) with rfl | rfl | rfl) <;> (conv => lhs; whnf) <;> (conv => rhs; whnf) <;> (try dsimp only [std_eq, stdN, nvS]) <;> (first | rfl | (simp (disch := first | omega | (simp only [lenL_set, lenL_app, lenL_cons, lenL_nil] <;> omega)) only [getL_bytes, getL_put, getL_app, getL_rep, getL_sub, getL_cpy, Int.zero_add, Int.sub_zero, beq_iff_eq, decide_eq_true_eq, Bool.and_eq_true] <;> first | rfl | (split <;> first | rfl | (simp (disch := first | omega | (simp only [lenL_set, lenL_app, lenL_cons, lenL_nil] <;> omega)) only [getL_one, getL_zero] <;> rfl)) | ((simp only [lenL_app, lenL_cons, lenL_nil, Int.ofNat_eq_natCast]) <;> (repeat' split) <;> first | rfl | (exfalso; omega) | (simp (disch := omega) only [getL_one, getL_zero] <;> rfl) | (congr 3; omega)))))⟩
            trivial)))))
      · replace h := iteO_f h h25
        subst hN
        cases h
        intro he; cases he
        show ∃ t', _ ∧ GeSt _ _ _
        refine ⟨⟨t'2_c + 10, gfn [(2, t'2_g 2), (3, t'2_g 3), (35, t'2_g 35)], tfn [(2, false), (3, false), (35, t'2_t 35)]⟩, Hid.mk_ok (by omega) (And.intro (by have := ht'2_g 2; omega)
            (And.intro (by have := ht'2_g 3; omega)
            (And.intro (by have := ht'2_g 35; omega)
            trivial))), ?_⟩
        exact GeSt.of (LeSt.frame (by show (_ : Nat) < _; (try dsimp only [std_eq, stdN]); omega) rfl rfl (And.intro ⟨_, rfl, LeD.refl _⟩
            (And.intro ⟨_, rfl, LeD.refl _⟩
            trivial)) (And.intro ⟨_, rfl, LeOb.box (And.intro (LeD.refl _)
            trivial)⟩
            (And.intro ⟨_, rfl, LeOb.box (And.intro (LeD.vec rfl (by first | rfl | assumption | (symm; assumption) | ((try dsimp only [std_eq, stdN, nvS]) <;> first | rfl | omega | (simp (disch := first | omega | (simp only [lenL_set, lenL_app, lenL_cons, lenL_nil] <;> omega)) only [lenL_bytes, lenL_set, lenL_app, lenL_cons, lenL_nil, lenL_rep, lenL_sub, lenL_cpy, Int.ofNat_eq_natCast, Int.zero_add, Int.sub_zero] <;> try omega))))
            trivial)⟩
            (And.intro ⟨_, rfl, LeOb.arrE (by first | rfl | assumption | (symm; assumption) | ((try dsimp only [std_eq, stdN, nvS]) <;> first | rfl | omega | (simp (disch := first | omega | (simp only [lenL_set, lenL_app, lenL_cons, lenL_nil] <;> omega)) only [lenL_bytes, lenL_set, lenL_app, lenL_cons, lenL_nil, lenL_rep, lenL_sub, lenL_cpy, Int.ofNat_eq_natCast, Int.zero_add, Int.sub_zero] <;> try omega))) (fun i i0 i1 j hj => by (try dsimp only [std_eq, stdN, nvS] at i1); (try simp only [Int.ofNat_eq_natCast] at i1); (rcases (show j = 0 ∨ j = 1 ∨ j = 2 by omega) with rfl | rfl | rfl) <;> (conv => lhs; whnf) <;> (conv => rhs; whnf) <;> (try dsimp only [std_eq, stdN, nvS]) <;> (first | rfl | (simp (disch := first | omega | (simp only [lenL_set, lenL_app, lenL_cons, lenL_nil] <;> omega)) only [getL_bytes, getL_put, getL_app, getL_rep, getL_sub, getL_cpy, Int.zero_add, Int.sub_zero, beq_iff_eq, decide_eq_true_eq, Bool.and_eq_true] <;> first | rfl | (split <;> first | rfl | (simp (disch := first | omega | (simp only [lenL_set, lenL_app, lenL_cons, lenL_nil] <;> omega)) only [getL_one, getL_zero] <;> rfl)) | ((simp only [lenL_app, lenL_cons, lenL_nil, Int.ofNat_eq_natCast]) <;> (repeat' split) <;> first | rfl | (exfalso; omega) | (simp (disch := omega) only [getL_one, getL_zero] <;> rfl) | (congr 3; omega)))))⟩
            trivial))))

theorem slices_Clone___int_int__ok (s : (List Int)) (r : (List Int)) (h : slices_Clone___int_int_ s = some r) : PureFn Try.prog 25 [(.sl 1 (nvS.len s) false (fun i j => (.v (.int .i64 (nvS.get 0 s i)))))] (.own 1 (nvS.len r) false (fun i j => (.v (.int .i64 (nvS.get 0 r i))))) := by
  unfold slices_Clone___int_int_ at h
  refine fn_tr tt0_ok Try.func25 (by kernel_rfl) (c := bodyOf Try.f25) (by kernel_rfl) ?_
  intro ctr hc
  refine Tr.pre (cx := ⟨tt0, ⟨fun f => kOf [] f, fun k _ _ _ => orcL [] k, fun t => memN [] t⟩, 0, fun r => ghL [] r⟩) tt0_ok hPm 1 fun N hN => ?_
  generalize hp : std Try.prog = p
  generalize hv : nvS = nv
  cbv
  subst hp
  subst hv
  subst hN
  show Tr _ _ _ _
  refine Tr.cutNil (tt := tt0) tt0_ok (t := 22) rfl rfl (x := 0) (a := 3) (d := 4) (by exact ⟨rfl, rfl, rfl⟩) (by exact ⟨rfl, rfl, rfl⟩) (by exact rfl) (by exact (show (3 : Nat) < 8 by decide)) (α := Unit) h (fun _ t' => ⟨frm 8 [(0, .sl 1 (nvS.len s) false (fun i j => (.v (.int .i64 (nvS.get 0 s i)))))] 0, frO 8 [] 0, t'.c⟩) (fun _ t => Hid.ok t) (fun x t' ht' h => ?_) (fun h5 f h => ?_) (fun f h => ?_)
  · obtain ⟨t'_c, t'_g, t'_t⟩ := t'
    have ht'_c : 0 < t'_c := ht'.1
    have ht'_g : ∀ k, t'_g k < t'_c := ht'.2
    refine Tr.chunk (cx := ⟨tt0, ⟨fun f => kOf [] f, fun k _ _ _ => orcL [] k, fun t => memN [5, 7] t⟩, 0, fun r => ghL [] r⟩) tt0_ok hPm fun N hN => ?_
    generalize hp : std Try.prog = p
    generalize hv : nvS = nv
    cbv
    subst hp
    subst hv
    replace h := chk_some h; obtain ⟨h4, h⟩ := h
    refine ⟨h4, rfl, rfl, ?_⟩
    subst hN
    have hr := Option.some.inj h
    subst hr
    try dsimp only [noGoto, inBlockQ, thenQ]
    repeat (first | refine (if_pos rfl).mpr ?_ | refine (if_neg (by decide)).mpr ?_)
    refine retQ_ret rfl ?_ ?_
    · exact trivial
    · exact (And.intro (rfl)
          (And.intro (by first | rfl | assumption | (symm; assumption) | ((try dsimp only [std_eq, stdN, nvS]) <;> first | rfl | omega | (simp (disch := first | omega | (simp only [lenL_set, lenL_app, lenL_cons, lenL_nil] <;> omega)) only [lenL_bytes, lenL_set, lenL_app, lenL_cons, lenL_nil, lenL_rep, lenL_sub, lenL_cpy, Int.ofNat_eq_natCast, Int.zero_add, Int.sub_zero] <;> try omega)))
          (And.intro (fun h => by cases h)
          (out0_all (fun i j => out0_int _ _) (fun i i0 i1 j hj => by (try dsimp only [std_eq, stdN, nvS] at i1); (try simp only [Int.ofNat_eq_natCast] at i1); (obtain rfl : j = 0 := (by omega)) <;> (conv => lhs; whnf) <;> (conv => rhs; whnf) <;> (try dsimp only [std_eq, stdN, nvS]) <;> (first | rfl | (simp (disch := first | omega | (simp only [lenL_set, lenL_app, lenL_cons, lenL_nil] <;> omega)) only [getL_bytes, getL_put, getL_app, getL_rep, getL_sub, getL_cpy, Int.zero_add, Int.sub_zero, beq_iff_eq, decide_eq_true_eq, Bool.and_eq_true] <;> first | rfl | (split <;> first | rfl | (simp (disch := first | omega | (simp only [lenL_set, lenL_app, lenL_cons, lenL_nil] <;> omega)) only [getL_one, getL_zero] <;> rfl)) | ((simp only [lenL_app, lenL_cons, lenL_nil, Int.ofNat_eq_natCast]) <;> (repeat' split) <;> first | rfl | (exfalso; omega) | (simp (disch := omega) only [getL_one, getL_zero] <;> rfl) | (congr 3; omega)))))))))
  · show Tr _ _ _ _
    refine Tr.chunk (cx := ⟨tt0, ⟨fun f => kOf [] f, fun k _ _ _ => orcL [] k, fun t => memN [] t⟩, 0, fun r => ghL [] r⟩) tt0_ok hPm fun N hN => ?_
    generalize hp : std Try.prog = p
    generalize hv : nvS = nv
    cbv
    subst hp
    subst hv
    refine ⟨fun h6 => ?_, fun h6 => ?_⟩
    · subst hN
      cases h
      intro hr
      subst hr
      try dsimp only [noGoto, inBlockQ, thenQ]
      repeat (first | refine (if_pos rfl).mpr ?_ | refine (if_neg (by decide)).mpr ?_)
      refine retQ_ret rfl ?_ ?_
      · exact trivial
      · exact rfl
    · cases h6
  · show Tr _ _ _ _
    refine Tr.chunk (cx := ⟨tt0, ⟨fun f => kOf [] f, fun k _ _ _ => orcL [] k, fun t => memN [] t⟩, 0, fun r => ghL [] r⟩) tt0_ok hPm fun N hN => ?_
    generalize hp : std Try.prog = p
    generalize hv : nvS = nv
    cbv
    subst hp
    subst hv
    refine ⟨fun h7 => ?_, fun h7 => ?_⟩
    · cases h7
    · subst hN
      cases h
      show ∃ t', _ ∧ GeSt _ _ _
      refine ⟨⟨ctr + 10, gfn [], tfn []⟩, Hid.mk_ok (by omega) trivial, ?_⟩
      exact GeSt.of (LeSt.frame (by show (_ : Nat) < _; (try dsimp only [std_eq, stdN]); omega) rfl rfl (And.intro ⟨_, rfl, LeD.refl _⟩
          trivial) trivial)

theorem lapwinglaw19_tables_ok (d' : T_lapwingref02_Data) (r : T_ucd_Data) (h : lapwinglaw19_tables d' = some r) : PureFn Try.prog 19 [(.agg 6 (fun j => (D_lapwingref02_Data nvS d' j)))] ((.agg 6 (fun j => (D_ucd_Data nvS r j)))) := by
  unfold lapwinglaw19_tables at h
  refine fn_tr tt0_ok Try.func19 (by kernel_rfl) (c := bodyOf Try.f19) (by kernel_rfl) ?_
  intro ctr hc
  obtain ⟨v, h1⟩ : ∃ v, valO d_ranges_Table (lapwinglaw19_rows d'.fClass) = v := ⟨_, rfl⟩
  obtain ⟨v1, h2⟩ : ∃ v1, valO d_ranges_Table (lapwinglaw19_rows d'.fWide) = v1 := ⟨_, rfl⟩
  obtain ⟨v2, h3⟩ : ∃ v2, valO d_ranges_Table (lapwinglaw19_rows d'.fJoin) = v2 := ⟨_, rfl⟩
  refine Tr.pre (cx := ⟨tt0, ⟨fun f => kOf [] f, fun k _ _ _ => orcL [(9, .plain (.agg 1 (fun j => (D_ranges_Table nvS v j)))), (12, .plain (.agg 1 (fun j => (D_ranges_Table nvS v1 j)))), (15, .plain (.agg 1 (fun j => (D_ranges_Table nvS v2 j))))] k, fun t => memN [] t⟩, 0, fun r => ghL [] r⟩) tt0_ok hPm 2 fun N hN => ?_
  generalize hp : std Try.prog = p
  generalize hv : nvS = nv
  cbv
  subst hp
  subst hv
  replace h := bindO_val h1 h; clear h1; obtain ⟨h1, h⟩ := h
  replace h := bindO_val h2 h; clear h2; obtain ⟨h2, h⟩ := h
  replace h := bindO_val h3 h; clear h3; obtain ⟨h3, h⟩ := h
  refine ⟨rfl, (Or.inl (PureFn.arg (lapwinglaw19_rows_ok d'.fClass v h1) (And.intro (LeD.agg fun j hj => by
        have hj2 : j < 1 := hj
        rcases (show j = 0 by omega) with rfl
        · exact LeD.refl _)
      trivial))), rfl, (Or.inl (PureFn.arg (lapwinglaw19_rows_ok d'.fWide v1 h2) (And.intro (LeD.agg fun j hj => by
        have hj2 : j < 1 := hj
        rcases (show j = 0 by omega) with rfl
        · exact LeD.refl _)
      trivial))), rfl, (Or.inl (PureFn.arg (lapwinglaw19_rows_ok d'.fJoin v2 h3) (And.intro (LeD.agg fun j hj => by
        have hj2 : j < 1 := hj
        rcases (show j = 0 by omega) with rfl
        · exact LeD.refl _)
      trivial))), rfl, (show drOk _ _ = true by kernel_rfl), ?_⟩
  subst hN
  show Tr _ _ _ _
  refine Tr.cutSeq (α := List T_ucd_Pair) h (fun o t' => ⟨frm 99 [(1, .bref 1 (t'.g 1) 0), (2, .bref 2 (t'.g 2) 0), (3, .bref 3 (t'.g 3) 0)] 0, frO 99 [(1, .box (t'.g 1) [.sl 3 (nvS.len d'.fClass.fL) false (fun i j => (D_lapwingref01_Row nvS (nvS.get d_lapwingref01_Row d'.fClass.fL i) j)), .sl 3 (nvS.len d'.fWide.fL) false (fun i j => (D_lapwingref01_Row nvS (nvS.get d_lapwingref01_Row d'.fWide.fL i) j)), .sl 3 (nvS.len d'.fJoin.fL) false (fun i j => (D_lapwingref01_Row nvS (nvS.get d_lapwingref01_Row d'.fJoin.fL i) j)), .sl 2 (nvS.len d'.fMirror) false (fun i j => (D_lapwingref02_Pair nvS (nvS.get d_lapwingref02_Pair d'.fMirror i) j)), .sl 2 (nvS.len d'.fBrackets) false (fun i j => (D_lapwingref02_Pair nvS (nvS.get d_lapwingref02_Pair d'.fBrackets i) j)), .sl 3 (nvS.len d'.fForms) false (fun i j => (D_lapwingref02_Form nvS (nvS.get d_lapwingref02_Form d'.fForms i) j))]), (2, .box (t'.g 2) [.nilsl, .nilsl, .nilsl, .nilsl, .nilsl, .nilsl]), (3, .box (t'.g 3) [.sl 3 (nvS.len v.fL) false (fun i j => (D_ranges_Row nvS (nvS.get d_ranges_Row v.fL i) j)), .sl 3 (nvS.len v1.fL) false (fun i j => (D_ranges_Row nvS (nvS.get d_ranges_Row v1.fL i) j)), .sl 3 (nvS.len v2.fL) false (fun i j => (D_ranges_Row nvS (nvS.get d_ranges_Row v2.fL i) j)), .vec 40 (t'.g 40) 2 0 (nvS.len o), .nilsl, .nilsl]), (40, .arr (t'.g 40) 2 (nvS.len o) (t'.t 40) (fun i j => (D_ucd_Pair nvS (nvS.get d_ucd_Pair o i) j)))] 0, t'.c⟩) (fun _ t => Hid.ok t) (fun x t' ht' h => ?_) (fun f h => ?_)
  · revert h; revert ht'; revert x; intro o ht' h
    obtain ⟨t'_c, t'_g, t'_t⟩ := t'
    have ht'_c : 0 < t'_c := ht'.1
    have ht'_g : ∀ k, t'_g k < t'_c := ht'.2
    refine Tr.cutSeq (α := List T_ucd_Pair) h (fun o1 t'1 => ⟨frm 99 [(1, .bref 1 (t'1.g 1) 0), (2, .bref 2 (t'1.g 2) 0), (3, .bref 3 (t'1.g 3) 0)] 0, frO 99 [(1, .box (t'1.g 1) [.sl 3 (nvS.len d'.fClass.fL) false (fun i j => (D_lapwingref01_Row nvS (nvS.get d_lapwingref01_Row d'.fClass.fL i) j)), .sl 3 (nvS.len d'.fWide.fL) false (fun i j => (D_lapwingref01_Row nvS (nvS.get d_lapwingref01_Row d'.fWide.fL i) j)), .sl 3 (nvS.len d'.fJoin.fL) false (fun i j => (D_lapwingref01_Row nvS (nvS.get d_lapwingref01_Row d'.fJoin.fL i) j)), .sl 2 (nvS.len d'.fMirror) false (fun i j => (D_lapwingref02_Pair nvS (nvS.get d_lapwingref02_Pair d'.fMirror i) j)), .sl 2 (nvS.len d'.fBrackets) false (fun i j => (D_lapwingref02_Pair nvS (nvS.get d_lapwingref02_Pair d'.fBrackets i) j)), .sl 3 (nvS.len d'.fForms) false (fun i j => (D_lapwingref02_Form nvS (nvS.get d_lapwingref02_Form d'.fForms i) j))]), (2, .box (t'1.g 2) [.nilsl, .nilsl, .nilsl, .nilsl, .nilsl, .nilsl]), (3, .box (t'1.g 3) [.sl 3 (nvS.len v.fL) false (fun i j => (D_ranges_Row nvS (nvS.get d_ranges_Row v.fL i) j)), .sl 3 (nvS.len v1.fL) false (fun i j => (D_ranges_Row nvS (nvS.get d_ranges_Row v1.fL i) j)), .sl 3 (nvS.len v2.fL) false (fun i j => (D_ranges_Row nvS (nvS.get d_ranges_Row v2.fL i) j)), .vec 40 (t'1.g 40) 2 0 (nvS.len o), .vec 65 (t'1.g 65) 2 0 (nvS.len o1), .nilsl]), (40, .arr (t'1.g 40) 2 (nvS.len o) (t'1.t 40) (fun i j => (D_ucd_Pair nvS (nvS.get d_ucd_Pair o i) j))), (65, .arr (t'1.g 65) 2 (nvS.len o1) (t'1.t 65) (fun i j => (D_ucd_Pair nvS (nvS.get d_ucd_Pair o1 i) j)))] 0, t'1.c⟩) (fun _ t => Hid.ok t) (fun x t'1 ht'1 h => ?_) (fun f h => ?_)
    · revert h; revert ht'1; revert x; intro o1 ht'1 h
      obtain ⟨t'1_c, t'1_g, t'1_t⟩ := t'1
      have ht'1_c : 0 < t'1_c := ht'1.1
      have ht'1_g : ∀ k, t'1_g k < t'1_c := ht'1.2
      refine Tr.cutSeq (α := List T_ucd_Form) h (fun o2 t'2 => ⟨frm 99 [(2, .bref 2 (t'2.g 2) 0), (3, .bref 3 (t'2.g 3) 0)] 0, frO 99 [(2, .box (t'2.g 2) [.nilsl, .nilsl, .nilsl, .nilsl, .nilsl, .nilsl]), (3, .box (t'2.g 3) [.sl 3 (nvS.len v.fL) false (fun i j => (D_ranges_Row nvS (nvS.get d_ranges_Row v.fL i) j)), .sl 3 (nvS.len v1.fL) false (fun i j => (D_ranges_Row nvS (nvS.get d_ranges_Row v1.fL i) j)), .sl 3 (nvS.len v2.fL) false (fun i j => (D_ranges_Row nvS (nvS.get d_ranges_Row v2.fL i) j)), .vec 40 (t'2.g 40) 2 0 (nvS.len o), .vec 65 (t'2.g 65) 2 0 (nvS.len o1), .vec 96 (t'2.g 96) 3 0 (nvS.len o2)]), (40, .arr (t'2.g 40) 2 (nvS.len o) (t'2.t 40) (fun i j => (D_ucd_Pair nvS (nvS.get d_ucd_Pair o i) j))), (65, .arr (t'2.g 65) 2 (nvS.len o1) (t'2.t 65) (fun i j => (D_ucd_Pair nvS (nvS.get d_ucd_Pair o1 i) j))), (96, .arr (t'2.g 96) 3 (nvS.len o2) (t'2.t 96) (fun i j => (D_ucd_Form nvS (nvS.get d_ucd_Form o2 i) j)))] 0, t'2.c⟩) (fun _ t => Hid.ok t) (fun x t'2 ht'2 h => ?_) (fun f h => ?_)
      · revert h; revert ht'2; revert x; intro o2 ht'2 h
        obtain ⟨t'2_c, t'2_g, t'2_t⟩ := t'2
        have ht'2_c : 0 < t'2_c := ht'2.1
        have ht'2_g : ∀ k, t'2_g k < t'2_c := ht'2.2
        refine Tr.chunk (cx := ⟨tt0, ⟨fun f => kOf [] f, fun k _ _ _ => orcL [] k, fun t => memN [] t⟩, 0, fun r => ghL [] r⟩) tt0_ok hPm fun N hN => ?_
        generalize hp : std Try.prog = p
        generalize hv : nvS = nv
        cbv
        subst hp
        subst hv
        refine ⟨rfl, rfl, ?_⟩
        subst hN
        have hr := Option.some.inj h
        subst hr
        try dsimp only [noGoto, inBlockQ, thenQ]
        repeat (first | refine (if_pos rfl).mpr ?_ | refine (if_neg (by decide)).mpr ?_)
        refine retQ_ret rfl ?_ ?_
        · exact (And.intro (rfl)
              trivial)
        · exact (fun i _ _ j hj => by
                have hj2 : j < 6 := hj
                rcases (show j = 0 ∨ j = 1 ∨ j = 2 ∨ j = 3 ∨ j = 4 ∨ j = 5 by omega) with rfl | rfl | rfl | rfl | rfl | rfl
                · exact out0_sl (fun i j => out_ranges_Row _ _)
                · exact out0_sl (fun i j => out_ranges_Row _ _)
                · exact out0_sl (fun i j => out_ranges_Row _ _)
                · exact (And.intro (rfl)
              (And.intro (by first | rfl | assumption | (symm; assumption) | ((try dsimp only [std_eq, stdN, nvS]) <;> first | rfl | omega | (simp (disch := first | omega | (simp only [lenL_set, lenL_app, lenL_cons, lenL_nil] <;> omega)) only [lenL_bytes, lenL_set, lenL_app, lenL_cons, lenL_nil, lenL_rep, lenL_sub, lenL_cpy, Int.ofNat_eq_natCast, Int.zero_add, Int.sub_zero] <;> try omega)))
              (And.intro (fun h => by cases h)
              (out0_all (fun i j => out_ucd_Pair _ _) (fun i i0 i1 j hj => by (try dsimp only [std_eq, stdN, nvS] at i1); (try simp only [Int.ofNat_eq_natCast] at i1); (rcases (show j = 0 ∨ j = 1 by omega) with rfl | rfl) <;> (conv => lhs; whnf) <;> (conv => rhs; whnf) <;> (try dsimp only [std_eq, stdN, nvS]) <;> (first | rfl | (simp (disch := first | omega | (simp only [lenL_set, lenL_app, lenL_cons, lenL_nil] <;> omega)) only [getL_bytes, getL_put, getL_app, getL_rep, getL_sub, getL_cpy, Int.zero_add, Int.sub_zero, beq_iff_eq, decide_eq_true_eq, Bool.and_eq_true] <;> first | rfl | (split <;> first | rfl | (simp (disch := first | omega | (simp only [lenL_set, lenL_app, lenL_cons, lenL_nil] <;> omega)) only [getL_one, getL_zero] <;> rfl)) | ((simp only [lenL_app, lenL_cons, lenL_nil, Int.ofNat_eq_natCast]) <;> (repeat' split) <;> first | rfl | (exfalso; omega) | (simp (disch := omega) only [getL_one, getL_zero] <;> rfl) | (congr 3; omega)))))))))
                · exact (And.intro (rfl)
              (And.intro (by first | rfl | assumption | (symm; assumption) | ((try dsimp only [std_eq, stdN, nvS]) <;> first | rfl | omega | (simp (disch := first | omega | (simp only [lenL_set, lenL_app, lenL_cons, lenL_nil] <;> omega)) only [lenL_bytes, lenL_set, lenL_app, lenL_cons, lenL_nil, lenL_rep, lenL_sub, lenL_cpy, Int.ofNat_eq_natCast, Int.zero_add, Int.sub_zero] <;> try omega)))
              (And.intro (fun h => by cases h)
              (out0_all (fun i j => out_ucd_Pair _ _) (fun i i0 i1 j hj => by (try dsimp only [std_eq, stdN, nvS] at i1); (try simp only [Int.ofNat_eq_natCast] at i1); (rcases (show j = 0 ∨ j = 1 by omega) with rfl | rfl) <;> (conv => lhs; whnf) <;> (conv => rhs; whnf) <;> (try dsimp only [std_eq, stdN, nvS]) <;> (first | rfl | (simp (disch := first | omega | (simp only [lenL_set, lenL_app, lenL_cons, lenL_nil] <;> omega)) only [getL_bytes, getL_put, getL_app, getL_rep, getL_sub, getL_cpy, Int.zero_add, Int.sub_zero, beq_iff_eq, decide_eq_true_eq, Bool.and_eq_true] <;> first | rfl | (split <;> first | rfl | (simp (disch := first | omega | (simp only [lenL_set, lenL_app, lenL_cons, lenL_nil] <;> omega)) only [getL_one, getL_zero] <;> rfl)) | ((simp only [lenL_app, lenL_cons, lenL_nil, Int.ofNat_eq_natCast]) <;> (repeat' split) <;> first | rfl | (exfalso; omega) | (simp (disch := omega) only [getL_one, getL_zero] <;> rfl) | (congr 3; omega)))))))))
                · exact (And.intro (rfl)
              (And.intro (by first | rfl | assumption | (symm; assumption) | ((try dsimp only [std_eq, stdN, nvS]) <;> first | rfl | omega | (simp (disch := first | omega | (simp only [lenL_set, lenL_app, lenL_cons, lenL_nil] <;> omega)) only [lenL_bytes, lenL_set, lenL_app, lenL_cons, lenL_nil, lenL_rep, lenL_sub, lenL_cpy, Int.ofNat_eq_natCast, Int.zero_add, Int.sub_zero] <;> try omega)))
              (And.intro (fun h => by cases h)
              (out0_all (fun i j => out_ucd_Form _ _) (fun i i0 i1 j hj => by (try dsimp only [std_eq, stdN, nvS] at i1); (try simp only [Int.ofNat_eq_natCast] at i1); (rcases (show j = 0 ∨ j = 1 ∨ j = 2 by omega) with rfl | rfl | rfl) <;> (conv => lhs; whnf) <;> (conv => rhs; whnf) <;> (try dsimp only [std_eq, stdN, nvS]) <;> (first | rfl | (simp (disch := first | omega | (simp only [lenL_set, lenL_app, lenL_cons, lenL_nil] <;> omega)) only [getL_bytes, getL_put, getL_app, getL_rep, getL_sub, getL_cpy, Int.zero_add, Int.sub_zero, beq_iff_eq, decide_eq_true_eq, Bool.and_eq_true] <;> first | rfl | (split <;> first | rfl | (simp (disch := first | omega | (simp only [lenL_set, lenL_app, lenL_cons, lenL_nil] <;> omega)) only [getL_one, getL_zero] <;> rfl)) | ((simp only [lenL_app, lenL_cons, lenL_nil, Int.ofNat_eq_natCast]) <;> (repeat' split) <;> first | rfl | (exfalso; omega) | (simp (disch := omega) only [getL_one, getL_zero] <;> rfl) | (congr 3; omega))))))))))
      · refine Tr.pre (cx := ⟨tt0, ⟨fun f => kOf [] f, fun k _ _ _ => orcL [] k, fun t => memN [] t⟩, 0, fun r => ghL [] r⟩) tt0_ok hPm 1 fun N hN => ?_
        generalize hp : std Try.prog = p
        generalize hv : nvS = nv
        cbv
        subst hp
        subst hv
        subst hN
        show Tr _ _ _ _
        refine Tr.block ?_
        refine Tr.loopO (α := Int × List T_ucd_Form) (fun (i, o3) t'3 => ⟨frm 99 [(1, .bref 1 (t'3.g 1) 0), (2, .bref 2 (t'3.g 2) 0), (3, .bref 3 (t'3.g 3) 0), (6, .v (.int .i64 i))] 0, frO 99 [(1, .box (t'3.g 1) [.sl 3 (nvS.len d'.fClass.fL) false (fun i j => (D_lapwingref01_Row nvS (nvS.get d_lapwingref01_Row d'.fClass.fL i) j)), .sl 3 (nvS.len d'.fWide.fL) false (fun i j => (D_lapwingref01_Row nvS (nvS.get d_lapwingref01_Row d'.fWide.fL i) j)), .sl 3 (nvS.len d'.fJoin.fL) false (fun i j => (D_lapwingref01_Row nvS (nvS.get d_lapwingref01_Row d'.fJoin.fL i) j)), .sl 2 (nvS.len d'.fMirror) false (fun i j => (D_lapwingref02_Pair nvS (nvS.get d_lapwingref02_Pair d'.fMirror i) j)), .sl 2 (nvS.len d'.fBrackets) false (fun i j => (D_lapwingref02_Pair nvS (nvS.get d_lapwingref02_Pair d'.fBrackets i) j)), .sl 3 (nvS.len d'.fForms) false (fun i j => (D_lapwingref02_Form nvS (nvS.get d_lapwingref02_Form d'.fForms i) j))]), (2, .box (t'3.g 2) [.nilsl, .nilsl, .nilsl, .nilsl, .nilsl, .nilsl]), (3, .box (t'3.g 3) [.sl 3 (nvS.len v.fL) false (fun i j => (D_ranges_Row nvS (nvS.get d_ranges_Row v.fL i) j)), .sl 3 (nvS.len v1.fL) false (fun i j => (D_ranges_Row nvS (nvS.get d_ranges_Row v1.fL i) j)), .sl 3 (nvS.len v2.fL) false (fun i j => (D_ranges_Row nvS (nvS.get d_ranges_Row v2.fL i) j)), .vec 40 (t'3.g 40) 2 0 (nvS.len o), .vec 65 (t'3.g 65) 2 0 (nvS.len o1), .vec 96 (t'3.g 96) 3 0 (nvS.len o3)]), (40, .arr (t'3.g 40) 2 (nvS.len o) (t'3.t 40) (fun i j => (D_ucd_Pair nvS (nvS.get d_ucd_Pair o i) j))), (65, .arr (t'3.g 65) 2 (nvS.len o1) (t'3.t 65) (fun i j => (D_ucd_Pair nvS (nvS.get d_ucd_Pair o1 i) j))), (96, .arr (t'3.g 96) 3 (nvS.len o3) (t'3.t 96) (fun i j => (D_ucd_Form nvS (nvS.get d_ucd_Form o3 i) j)))] 0, t'3.c⟩) (fun _ t => Hid.ok t) ⟨t'1_c + 11, gfn [(1, t'1_g 1), (2, t'1_g 2), (3, t'1_g 3), (40, t'1_g 40), (65, t'1_g 65), (96, t'1_c + 1)], tfn [(1, false), (2, false), (3, false), (40, t'1_t 40), (65, t'1_t 65), (96, false)]⟩ h ?_ ?_ (fun x t'3 f ht'3 h => ?_)
        · exact Hid.mk_ok (by omega) (And.intro (by have := ht'1_g 1; omega)
              (And.intro (by have := ht'1_g 2; omega)
              (And.intro (by have := ht'1_g 3; omega)
              (And.intro (by have := ht'1_g 40; omega)
              (And.intro (by have := ht'1_g 65; omega)
              (And.intro (by omega)
              trivial))))))
        · refine GeSt.by [.thaw (.cell 3 5) 96 3] rfl ?_ ?_
          · exact trivial
          · exact LeSt.frame (show t'1_c + 2 < t'1_c + 11 by omega) rfl rfl (And.intro ⟨_, rfl, LeD.refl _⟩
                (And.intro ⟨_, rfl, LeD.refl _⟩
                (And.intro ⟨_, rfl, LeD.refl _⟩
                (And.intro ⟨_, rfl, LeD.refl _⟩
                trivial)))) (And.intro ⟨_, rfl, LeOb.box (And.intro (LeD.refl _)
                (And.intro (LeD.refl _)
                (And.intro (LeD.refl _)
                (And.intro (LeD.refl _)
                (And.intro (LeD.refl _)
                (And.intro (LeD.refl _)
                trivial))))))⟩
                (And.intro ⟨_, rfl, LeOb.box (And.intro (LeD.refl _)
                (And.intro (LeD.refl _)
                (And.intro (LeD.refl _)
                (And.intro (LeD.refl _)
                (And.intro (LeD.refl _)
                (And.intro (LeD.refl _)
                trivial))))))⟩
                (And.intro ⟨_, rfl, LeOb.box (And.intro (LeD.refl _)
                (And.intro (LeD.refl _)
                (And.intro (LeD.refl _)
                (And.intro (LeD.refl _)
                (And.intro (LeD.refl _)
                (And.intro (LeD.refl _)
                trivial))))))⟩
                (And.intro ⟨_, rfl, LeOb.refl _⟩
                (And.intro ⟨_, rfl, LeOb.refl _⟩
                (And.intro ⟨_, rfl, LeOb.arr' rfl (fun i i0 i1 j hj => by exfalso; revert i1; show i < (0 : Int) → False; omega)⟩
                trivial))))))
        · obtain ⟨i, o3⟩ := x
          obtain ⟨t'3_c, t'3_g, t'3_t⟩ := t'3
          have ht'3_c : 0 < t'3_c := ht'3.1
          have ht'3_g : ∀ k, t'3_g k < t'3_c := ht'3.2
          refine Tr.chunk (cx := ⟨tt0, ⟨fun f => kOf [] f, fun k _ _ _ => orcL [] k, fun t => memN [95] t⟩, 0, fun r => ghL [] r⟩) tt0_ok hPm fun N hN => ?_
          generalize hp : std Try.prog = p
          generalize hv : nvS = nv
          cbv
          subst hp
          subst hv
          refine ⟨rfl, ?_⟩
          refine ⟨fun h48 => ?_, fun h48 => ?_⟩
          · replace h := iteO_t h h48
            replace h := chk_some h; obtain ⟨h49, h⟩ := h
            replace h := chk_some h; obtain ⟨h50, h⟩ := h
            replace h := chk_some h; obtain ⟨h51, h⟩ := h
            replace h := chk_some h; obtain ⟨h52, h⟩ := h
            refine ⟨rfl, rfl, h49, rfl, h50, rfl, h51, rfl, (by have := ht'3_g 96; show (_ : Nat) < _; try dsimp only [std_eq, stdN]; omega), h52, rfl, (show drOk _ _ = true by kernel_rfl), ?_⟩
            replace h := chk_some h; obtain ⟨h53, h⟩ := h
            refine ⟨h53, ?_⟩
            subst hN
            cases h
            show ∃ t', _ ∧ GeSt _ _ _
            refine ⟨⟨t'3_c + 12, gfn [(1, t'3_g 1), (2, t'3_g 2), (3, t'3_g 3), (40, t'3_g 40), (65, t'3_g 65), (96, t'3_c + 1)], tfn [(1, false), (2, false), (3, false), (40, t'3_t 40), (65, t'3_t 65), (96, false)]⟩, Hid.mk_ok (by omega) (And.intro (by have := ht'3_g 1; omega)
                (And.intro (by have := ht'3_g 2; omega)
                (And.intro (by have := ht'3_g 3; omega)
                (And.intro (by have := ht'3_g 40; omega)
                (And.intro (by have := ht'3_g 65; omega)
                (And.intro (by omega)
                trivial)))))), ?_⟩
            exact GeSt.of (LeSt.frame (by show (_ : Nat) < _; (try dsimp only [std_eq, stdN]); omega) rfl rfl (And.intro ⟨_, rfl, LeD.refl _⟩
                (And.intro ⟨_, rfl, LeD.refl _⟩
                (And.intro ⟨_, rfl, LeD.refl _⟩
                (And.intro ⟨_, rfl, LeD.refl _⟩
                trivial)))) (And.intro ⟨_, rfl, LeOb.box (And.intro (LeD.refl _)
                (And.intro (LeD.refl _)
                (And.intro (LeD.refl _)
                (And.intro (LeD.refl _)
                (And.intro (LeD.refl _)
                (And.intro (LeD.refl _)
                trivial))))))⟩
                (And.intro ⟨_, rfl, LeOb.box (And.intro (LeD.refl _)
                (And.intro (LeD.refl _)
                (And.intro (LeD.refl _)
                (And.intro (LeD.refl _)
                (And.intro (LeD.refl _)
                (And.intro (LeD.refl _)
                trivial))))))⟩
                (And.intro ⟨_, rfl, LeOb.box (And.intro (LeD.refl _)
                (And.intro (LeD.refl _)
                (And.intro (LeD.refl _)
                (And.intro (LeD.refl _)
                (And.intro (LeD.refl _)
                (And.intro (LeD.vec rfl (by first | rfl | assumption | (symm; assumption) | ((try dsimp only [std_eq, stdN, nvS]) <;> first | rfl | omega | (simp (disch := first | omega | (simp only [lenL_set, lenL_app, lenL_cons, lenL_nil] <;> omega)) only [lenL_bytes, lenL_set, lenL_app, lenL_cons, lenL_nil, lenL_rep, lenL_sub, lenL_cpy, Int.ofNat_eq_natCast, Int.zero_add, Int.sub_zero] <;> try omega))))
                trivial))))))⟩
                (And.intro ⟨_, rfl, LeOb.refl _⟩
                (And.intro ⟨_, rfl, LeOb.refl _⟩
                (And.intro ⟨_, rfl, LeOb.arrE (by first | rfl | assumption | (symm; assumption) | ((try dsimp only [std_eq, stdN, nvS]) <;> first | rfl | omega | (simp (disch := first | omega | (simp only [lenL_set, lenL_app, lenL_cons, lenL_nil] <;> omega)) only [lenL_bytes, lenL_set, lenL_app, lenL_cons, lenL_nil, lenL_rep, lenL_sub, lenL_cpy, Int.ofNat_eq_natCast, Int.zero_add, Int.sub_zero] <;> try omega))) (fun i i0 i1 j hj => by (try dsimp only [std_eq, stdN, nvS] at i1); (try simp only [Int.ofNat_eq_natCast] at i1); (rcases (show j = 0 ∨ j = 1 ∨ j = 2 by omega) with rfl | rfl | rfl) <;> (conv => lhs; whnf) <;> (conv => rhs; whnf) <;> (try dsimp only [std_eq, stdN, nvS]) <;> (first | rfl | (simp (disch := first | omega | (simp only [lenL_set, lenL_app, lenL_cons, lenL_nil] <;> omega)) only [getL_bytes, getL_put, getL_app, getL_rep, getL_sub, getL_cpy, Int.zero_add, Int.sub_zero, beq_iff_eq, decide_eq_true_eq, Bool.and_eq_true] <;> first | rfl | (split <;> first | rfl | (simp (disch := first | omega | (simp only [lenL_set, lenL_app, lenL_cons, lenL_nil] <;> omega)) only [getL_one, getL_zero] <;> rfl)) | ((simp only [lenL_app, lenL_cons, lenL_nil, Int.ofNat_eq_natCast]) <;> (repeat' split) <;> first | rfl | (exfalso; omega) | (simp (disch := omega) only [getL_one, getL_zero] <;> rfl) | (congr 3; omega)))))⟩
                trivial)))))))
          · replace h := iteO_f h h48
            subst hN
            cases h
            intro he; cases he
            show ∃ t', _ ∧ GeSt _ _ _
            refine ⟨⟨t'3_c + 10, gfn [(2, t'3_g 2), (3, t'3_g 3), (40, t'3_g 40), (65, t'3_g 65), (96, t'3_g 96)], tfn [(2, false), (3, false), (40, t'3_t 40), (65, t'3_t 65), (96, t'3_t 96)]⟩, Hid.mk_ok (by omega) (And.intro (by have := ht'3_g 2; omega)
                (And.intro (by have := ht'3_g 3; omega)
                (And.intro (by have := ht'3_g 40; omega)
                (And.intro (by have := ht'3_g 65; omega)
                (And.intro (by have := ht'3_g 96; omega)
                trivial))))), ?_⟩
            exact GeSt.of (LeSt.frame (by show (_ : Nat) < _; (try dsimp only [std_eq, stdN]); omega) rfl rfl (And.intro ⟨_, rfl, LeD.refl _⟩
                (And.intro ⟨_, rfl, LeD.refl _⟩
                trivial)) (And.intro ⟨_, rfl, LeOb.box (And.intro (LeD.refl _)
                (And.intro (LeD.refl _)
                (And.intro (LeD.refl _)
                (And.intro (LeD.refl _)
                (And.intro (LeD.refl _)
                (And.intro (LeD.refl _)
                trivial))))))⟩
                (And.intro ⟨_, rfl, LeOb.box (And.intro (LeD.refl _)
                (And.intro (LeD.refl _)
                (And.intro (LeD.refl _)
                (And.intro (LeD.refl _)
                (And.intro (LeD.refl _)
                (And.intro (LeD.vec rfl (by first | rfl | assumption | (symm; assumption) | ((try dsimp only [std_eq, stdN, nvS]) <;> first | rfl | omega | (simp (disch := first | omega | (simp only [lenL_set, lenL_app, lenL_cons, lenL_nil] <;> omega)) only [lenL_bytes, lenL_set, lenL_app, lenL_cons, lenL_nil, lenL_rep, lenL_sub, lenL_cpy, Int.ofNat_eq_natCast, Int.zero_add, Int.sub_zero] <;> try omega))))
                trivial))))))⟩
                (And.intro ⟨_, rfl, LeOb.refl _⟩
                (And.intro ⟨_, rfl, LeOb.refl _⟩
                (And.intro ⟨_, rfl, LeOb.arrE (by first | rfl | assumption | (symm; assumption) | ((try dsimp only [std_eq, stdN, nvS]) <;> first | rfl | omega | (simp (disch := first | omega | (simp only [lenL_set, lenL_app, lenL_cons, lenL_nil] <;> omega)) only [lenL_bytes, lenL_set, lenL_app, lenL_cons, lenL_nil, lenL_rep, lenL_sub, lenL_cpy, Int.ofNat_eq_natCast, Int.zero_add, Int.sub_zero] <;> try omega))) (fun i i0 i1 j hj => by (try dsimp only [std_eq, stdN, nvS] at i1); (try simp only [Int.ofNat_eq_natCast] at i1); (rcases (show j = 0 ∨ j = 1 ∨ j = 2 by omega) with rfl | rfl | rfl) <;> (conv => lhs; whnf) <;> (conv => rhs; whnf) <;> (try dsimp only [std_eq, stdN, nvS]) <;> (first | rfl | (simp (disch := first | omega | (simp only [lenL_set, lenL_app, lenL_cons, lenL_nil] <;> omega)) only [getL_bytes, getL_put, getL_app, getL_rep, getL_sub, getL_cpy, Int.zero_add, Int.sub_zero, beq_iff_eq, decide_eq_true_eq, Bool.and_eq_true] <;> first | rfl | (split <;> first | rfl | (simp (disch := first | omega | (simp only [lenL_set, lenL_app, lenL_cons, lenL_nil] <;> omega)) only [getL_one, getL_zero] <;> rfl)) | ((simp only [lenL_app, lenL_cons, lenL_nil, Int.ofNat_eq_natCast]) <;> (repeat' split) <;> first | rfl | (exfalso; omega) | (simp (disch := omega) only [getL_one, getL_zero] <;> rfl) | (congr 3; omega)))))⟩
                trivial))))))
    · refine Tr.pre (cx := ⟨tt0, ⟨fun f => kOf [] f, fun k _ _ _ => orcL [] k, fun t => memN [] t⟩, 0, fun r => ghL [] r⟩) tt0_ok hPm 1 fun N hN => ?_
      generalize hp : std Try.prog = p
      generalize hv : nvS = nv
      cbv
      subst hp
      subst hv
      subst hN
      show Tr _ _ _ _
      refine Tr.block ?_
      refine Tr.loopO (α := Int × List T_ucd_Pair) (fun (i2, o4) t'4 => ⟨frm 99 [(1, .bref 1 (t'4.g 1) 0), (2, .bref 2 (t'4.g 2) 0), (3, .bref 3 (t'4.g 3) 0), (5, .v (.int .i64 i2))] 0, frO 99 [(1, .box (t'4.g 1) [.sl 3 (nvS.len d'.fClass.fL) false (fun i j => (D_lapwingref01_Row nvS (nvS.get d_lapwingref01_Row d'.fClass.fL i) j)), .sl 3 (nvS.len d'.fWide.fL) false (fun i j => (D_lapwingref01_Row nvS (nvS.get d_lapwingref01_Row d'.fWide.fL i) j)), .sl 3 (nvS.len d'.fJoin.fL) false (fun i j => (D_lapwingref01_Row nvS (nvS.get d_lapwingref01_Row d'.fJoin.fL i) j)), .sl 2 (nvS.len d'.fMirror) false (fun i j => (D_lapwingref02_Pair nvS (nvS.get d_lapwingref02_Pair d'.fMirror i) j)), .sl 2 (nvS.len d'.fBrackets) false (fun i j => (D_lapwingref02_Pair nvS (nvS.get d_lapwingref02_Pair d'.fBrackets i) j)), .sl 3 (nvS.len d'.fForms) false (fun i j => (D_lapwingref02_Form nvS (nvS.get d_lapwingref02_Form d'.fForms i) j))]), (2, .box (t'4.g 2) [.nilsl, .nilsl, .nilsl, .nilsl, .nilsl, .nilsl]), (3, .box (t'4.g 3) [.sl 3 (nvS.len v.fL) false (fun i j => (D_ranges_Row nvS (nvS.get d_ranges_Row v.fL i) j)), .sl 3 (nvS.len v1.fL) false (fun i j => (D_ranges_Row nvS (nvS.get d_ranges_Row v1.fL i) j)), .sl 3 (nvS.len v2.fL) false (fun i j => (D_ranges_Row nvS (nvS.get d_ranges_Row v2.fL i) j)), .vec 40 (t'4.g 40) 2 0 (nvS.len o), .vec 65 (t'4.g 65) 2 0 (nvS.len o4), .nilsl]), (40, .arr (t'4.g 40) 2 (nvS.len o) (t'4.t 40) (fun i j => (D_ucd_Pair nvS (nvS.get d_ucd_Pair o i) j))), (65, .arr (t'4.g 65) 2 (nvS.len o4) (t'4.t 65) (fun i j => (D_ucd_Pair nvS (nvS.get d_ucd_Pair o4 i) j)))] 0, t'4.c⟩) (fun _ t => Hid.ok t) ⟨t'_c + 11, gfn [(1, t'_g 1), (2, t'_g 2), (3, t'_g 3), (40, t'_g 40), (65, t'_c + 1)], tfn [(1, false), (2, false), (3, false), (40, t'_t 40), (65, false)]⟩ h ?_ ?_ (fun x t'4 f ht'4 h => ?_)
      · exact Hid.mk_ok (by omega) (And.intro (by have := ht'_g 1; omega)
            (And.intro (by have := ht'_g 2; omega)
            (And.intro (by have := ht'_g 3; omega)
            (And.intro (by have := ht'_g 40; omega)
            (And.intro (by omega)
            trivial)))))
      · refine GeSt.by [.thaw (.cell 3 4) 65 2] rfl ?_ ?_
        · exact trivial
        · exact LeSt.frame (show t'_c + 2 < t'_c + 11 by omega) rfl rfl (And.intro ⟨_, rfl, LeD.refl _⟩
              (And.intro ⟨_, rfl, LeD.refl _⟩
              (And.intro ⟨_, rfl, LeD.refl _⟩
              (And.intro ⟨_, rfl, LeD.refl _⟩
              trivial)))) (And.intro ⟨_, rfl, LeOb.box (And.intro (LeD.refl _)
              (And.intro (LeD.refl _)
              (And.intro (LeD.refl _)
              (And.intro (LeD.refl _)
              (And.intro (LeD.refl _)
              (And.intro (LeD.refl _)
              trivial))))))⟩
              (And.intro ⟨_, rfl, LeOb.box (And.intro (LeD.refl _)
              (And.intro (LeD.refl _)
              (And.intro (LeD.refl _)
              (And.intro (LeD.refl _)
              (And.intro (LeD.refl _)
              (And.intro (LeD.refl _)
              trivial))))))⟩
              (And.intro ⟨_, rfl, LeOb.box (And.intro (LeD.refl _)
              (And.intro (LeD.refl _)
              (And.intro (LeD.refl _)
              (And.intro (LeD.refl _)
              (And.intro (LeD.refl _)
              (And.intro (LeD.refl _)
              trivial))))))⟩
              (And.intro ⟨_, rfl, LeOb.refl _⟩
              (And.intro ⟨_, rfl, LeOb.arr' rfl (fun i i0 i1 j hj => by exfalso; revert i1; show i < (0 : Int) → False; omega)⟩
              trivial)))))
      · obtain ⟨i2, o4⟩ := x
        obtain ⟨t'4_c, t'4_g, t'4_t⟩ := t'4
        have ht'4_c : 0 < t'4_c := ht'4.1
        have ht'4_g : ∀ k, t'4_g k < t'4_c := ht'4.2
        refine Tr.chunk (cx := ⟨tt0, ⟨fun f => kOf [] f, fun k _ _ _ => orcL [] k, fun t => memN [64] t⟩, 0, fun r => ghL [] r⟩) tt0_ok hPm fun N hN => ?_
        generalize hp : std Try.prog = p
        generalize hv : nvS = nv
        cbv
        subst hp
        subst hv
        refine ⟨rfl, ?_⟩
        refine ⟨fun h64 => ?_, fun h64 => ?_⟩
        · replace h := iteO_t h h64
          replace h := chk_some h; obtain ⟨h65, h⟩ := h
          replace h := chk_some h; obtain ⟨h66, h⟩ := h
          replace h := chk_some h; obtain ⟨h67, h⟩ := h
          refine ⟨rfl, rfl, h65, rfl, h66, rfl, (by have := ht'4_g 65; show (_ : Nat) < _; try dsimp only [std_eq, stdN]; omega), h67, rfl, (show drOk _ _ = true by kernel_rfl), ?_⟩
          replace h := chk_some h; obtain ⟨h68, h⟩ := h
          refine ⟨h68, ?_⟩
          subst hN
          cases h
          show ∃ t', _ ∧ GeSt _ _ _
          refine ⟨⟨t'4_c + 12, gfn [(1, t'4_g 1), (2, t'4_g 2), (3, t'4_g 3), (40, t'4_g 40), (65, t'4_c + 1)], tfn [(1, false), (2, false), (3, false), (40, t'4_t 40), (65, false)]⟩, Hid.mk_ok (by omega) (And.intro (by have := ht'4_g 1; omega)
              (And.intro (by have := ht'4_g 2; omega)
              (And.intro (by have := ht'4_g 3; omega)
              (And.intro (by have := ht'4_g 40; omega)
              (And.intro (by omega)
              trivial))))), ?_⟩
          exact GeSt.of (LeSt.frame (by show (_ : Nat) < _; (try dsimp only [std_eq, stdN]); omega) rfl rfl (And.intro ⟨_, rfl, LeD.refl _⟩
              (And.intro ⟨_, rfl, LeD.refl _⟩
              (And.intro ⟨_, rfl, LeD.refl _⟩
              (And.intro ⟨_, rfl, LeD.refl _⟩
              trivial)))) (And.intro ⟨_, rfl, LeOb.box (And.intro (LeD.refl _)
              (And.intro (LeD.refl _)
              (And.intro (LeD.refl _)
              (And.intro (LeD.refl _)
              (And.intro (LeD.refl _)
              (And.intro (LeD.refl _)
              trivial))))))⟩
              (And.intro ⟨_, rfl, LeOb.box (And.intro (LeD.refl _)
              (And.intro (LeD.refl _)
              (And.intro (LeD.refl _)
              (And.intro (LeD.refl _)
              (And.intro (LeD.refl _)
              (And.intro (LeD.refl _)
              trivial))))))⟩
              (And.intro ⟨_, rfl, LeOb.box (And.intro (LeD.refl _)
              (And.intro (LeD.refl _)
              (And.intro (LeD.refl _)
              (And.intro (LeD.refl _)
              (And.intro (LeD.vec rfl (by first | rfl | assumption | (symm; assumption) | ((try dsimp only [std_eq, stdN, nvS]) <;> first | rfl | omega | (simp (disch := first | omega | (simp only [lenL_set, lenL_app, lenL_cons, lenL_nil] <;> omega)) only [lenL_bytes, lenL_set, lenL_app, lenL_cons, lenL_nil, lenL_rep, lenL_sub, lenL_cpy, Int.ofNat_eq_natCast, Int.zero_add, Int.sub_zero] <;> try omega))))
              (And.intro (LeD.refl _)
              trivial))))))⟩
              (And.intro ⟨_, rfl, LeOb.refl _⟩
              (And.intro ⟨_, rfl, LeOb.arrE (by first | rfl | assumption | (symm; assumption) | ((try dsimp only [std_eq, stdN, nvS]) <;> first | rfl | omega | (simp (disch := first | omega | (simp only [lenL_set, lenL_app, lenL_cons, lenL_nil] <;> omega)) only [lenL_bytes, lenL_set, lenL_app, lenL_cons, lenL_nil, lenL_rep, lenL_sub, lenL_cpy, Int.ofNat_eq_natCast, Int.zero_add, Int.sub_zero] <;> try omega))) (fun i i0 i1 j hj => by (try dsimp only [std_eq, stdN, nvS] at i1); (try simp only [Int.ofNat_eq_natCast] at i1); (rcases (show j = 0 ∨ j = 1 by omega) with rfl | rfl) <;> (conv => lhs; whnf) <;> (conv => rhs; whnf) <;> (try dsimp only [std_eq, stdN, nvS]) <;> (first | rfl | (simp (disch := first | omega | (simp only [lenL_set, lenL_app, lenL_cons, lenL_nil] <;> omega)) only [getL_bytes, getL_put, getL_app, getL_rep, getL_sub, getL_cpy, Int.zero_add, Int.sub_zero, beq_iff_eq, decide_eq_true_eq, Bool.and_eq_true] <;> first | rfl | (split <;> first | rfl | (simp (disch := first | omega | (simp only [lenL_set, lenL_app, lenL_cons, lenL_nil] <;> omega)) only [getL_one, getL_zero] <;> rfl)) | ((simp only [lenL_app, lenL_cons, lenL_nil, Int.ofNat_eq_natCast]) <;> (repeat' split) <;> first | rfl | (exfalso; omega) | (simp (disch := omega) only [getL_one, getL_zero] <;> rfl) | (congr 3; omega)))))⟩
              trivial))))))
        · replace h := iteO_f h h64
          subst hN
          cases h
          intro he; cases he
          show ∃ t', _ ∧ GeSt _ _ _
          refine ⟨⟨t'4_c + 10, gfn [(1, t'4_g 1), (2, t'4_g 2), (3, t'4_g 3), (40, t'4_g 40), (65, t'4_g 65)], tfn [(1, false), (2, false), (3, false), (40, t'4_t 40), (65, t'4_t 65)]⟩, Hid.mk_ok (by omega) (And.intro (by have := ht'4_g 1; omega)
              (And.intro (by have := ht'4_g 2; omega)
              (And.intro (by have := ht'4_g 3; omega)
              (And.intro (by have := ht'4_g 40; omega)
              (And.intro (by have := ht'4_g 65; omega)
              trivial))))), ?_⟩
          exact GeSt.of (LeSt.frame (by show (_ : Nat) < _; (try dsimp only [std_eq, stdN]); omega) rfl rfl (And.intro ⟨_, rfl, LeD.refl _⟩
              (And.intro ⟨_, rfl, LeD.refl _⟩
              (And.intro ⟨_, rfl, LeD.refl _⟩
              trivial))) (And.intro ⟨_, rfl, LeOb.box (And.intro (LeD.refl _)
              (And.intro (LeD.refl _)
              (And.intro (LeD.refl _)
              (And.intro (LeD.refl _)
              (And.intro (LeD.refl _)
              (And.intro (LeD.refl _)
              trivial))))))⟩
              (And.intro ⟨_, rfl, LeOb.box (And.intro (LeD.refl _)
              (And.intro (LeD.refl _)
              (And.intro (LeD.refl _)
              (And.intro (LeD.refl _)
              (And.intro (LeD.refl _)
              (And.intro (LeD.refl _)
              trivial))))))⟩
              (And.intro ⟨_, rfl, LeOb.box (And.intro (LeD.refl _)
              (And.intro (LeD.refl _)
              (And.intro (LeD.refl _)
              (And.intro (LeD.refl _)
              (And.intro (LeD.vec rfl (by first | rfl | assumption | (symm; assumption) | ((try dsimp only [std_eq, stdN, nvS]) <;> first | rfl | omega | (simp (disch := first | omega | (simp only [lenL_set, lenL_app, lenL_cons, lenL_nil] <;> omega)) only [lenL_bytes, lenL_set, lenL_app, lenL_cons, lenL_nil, lenL_rep, lenL_sub, lenL_cpy, Int.ofNat_eq_natCast, Int.zero_add, Int.sub_zero] <;> try omega))))
              (And.intro (LeD.refl _)
              trivial))))))⟩
              (And.intro ⟨_, rfl, LeOb.refl _⟩
              (And.intro ⟨_, rfl, LeOb.arrE (by first | rfl | assumption | (symm; assumption) | ((try dsimp only [std_eq, stdN, nvS]) <;> first | rfl | omega | (simp (disch := first | omega | (simp only [lenL_set, lenL_app, lenL_cons, lenL_nil] <;> omega)) only [lenL_bytes, lenL_set, lenL_app, lenL_cons, lenL_nil, lenL_rep, lenL_sub, lenL_cpy, Int.ofNat_eq_natCast, Int.zero_add, Int.sub_zero] <;> try omega))) (fun i i0 i1 j hj => by (try dsimp only [std_eq, stdN, nvS] at i1); (try simp only [Int.ofNat_eq_natCast] at i1); (rcases (show j = 0 ∨ j = 1 by omega) with rfl | rfl) <;> (conv => lhs; whnf) <;> (conv => rhs; whnf) <;> (try dsimp only [std_eq, stdN, nvS]) <;> (first | rfl | (simp (disch := first | omega | (simp only [lenL_set, lenL_app, lenL_cons, lenL_nil] <;> omega)) only [getL_bytes, getL_put, getL_app, getL_rep, getL_sub, getL_cpy, Int.zero_add, Int.sub_zero, beq_iff_eq, decide_eq_true_eq, Bool.and_eq_true] <;> first | rfl | (split <;> first | rfl | (simp (disch := first | omega | (simp only [lenL_set, lenL_app, lenL_cons, lenL_nil] <;> omega)) only [getL_one, getL_zero] <;> rfl)) | ((simp only [lenL_app, lenL_cons, lenL_nil, Int.ofNat_eq_natCast]) <;> (repeat' split) <;> first | rfl | (exfalso; omega) | (simp (disch := omega) only [getL_one, getL_zero] <;> rfl) | (congr 3; omega)))))⟩
              trivial))))))
  · refine Tr.pre (cx := ⟨tt0, ⟨fun f => kOf [] f, fun k _ _ _ => orcL [] k, fun t => memN [] t⟩, 0, fun r => ghL [] r⟩) tt0_ok hPm 1 fun N hN => ?_
    generalize hp : std Try.prog = p
    generalize hv : nvS = nv
    cbv
    subst hp
    subst hv
    subst hN
    show Tr _ _ _ _
    refine Tr.block ?_
    refine Tr.loopO (α := Int × List T_ucd_Pair) (fun (i4, o5) t'5 => ⟨frm 99 [(1, .bref 1 (t'5.g 1) 0), (2, .bref 2 (t'5.g 2) 0), (3, .bref 3 (t'5.g 3) 0), (4, .v (.int .i64 i4))] 0, frO 99 [(1, .box (t'5.g 1) [.sl 3 (nvS.len d'.fClass.fL) false (fun i j => (D_lapwingref01_Row nvS (nvS.get d_lapwingref01_Row d'.fClass.fL i) j)), .sl 3 (nvS.len d'.fWide.fL) false (fun i j => (D_lapwingref01_Row nvS (nvS.get d_lapwingref01_Row d'.fWide.fL i) j)), .sl 3 (nvS.len d'.fJoin.fL) false (fun i j => (D_lapwingref01_Row nvS (nvS.get d_lapwingref01_Row d'.fJoin.fL i) j)), .sl 2 (nvS.len d'.fMirror) false (fun i j => (D_lapwingref02_Pair nvS (nvS.get d_lapwingref02_Pair d'.fMirror i) j)), .sl 2 (nvS.len d'.fBrackets) false (fun i j => (D_lapwingref02_Pair nvS (nvS.get d_lapwingref02_Pair d'.fBrackets i) j)), .sl 3 (nvS.len d'.fForms) false (fun i j => (D_lapwingref02_Form nvS (nvS.get d_lapwingref02_Form d'.fForms i) j))]), (2, .box (t'5.g 2) [.nilsl, .nilsl, .nilsl, .nilsl, .nilsl, .nilsl]), (3, .box (t'5.g 3) [.sl 3 (nvS.len v.fL) false (fun i j => (D_ranges_Row nvS (nvS.get d_ranges_Row v.fL i) j)), .sl 3 (nvS.len v1.fL) false (fun i j => (D_ranges_Row nvS (nvS.get d_ranges_Row v1.fL i) j)), .sl 3 (nvS.len v2.fL) false (fun i j => (D_ranges_Row nvS (nvS.get d_ranges_Row v2.fL i) j)), .vec 40 (t'5.g 40) 2 0 (nvS.len o5), .nilsl, .nilsl]), (40, .arr (t'5.g 40) 2 (nvS.len o5) (t'5.t 40) (fun i j => (D_ucd_Pair nvS (nvS.get d_ucd_Pair o5 i) j)))] 0, t'5.c⟩) (fun _ t => Hid.ok t) ⟨ctr + 13, gfn [(1, ctr + 0), (2, ctr + 0), (3, ctr + 1), (40, ctr + 3)], tfn [(1, false), (2, false), (3, false), (40, false)]⟩ h ?_ ?_ (fun x t'5 f ht'5 h => ?_)
    · exact Hid.mk_ok (by omega) (And.intro (by omega)
          (And.intro (by omega)
          (And.intro (by omega)
          (And.intro (by omega)
          trivial))))
    · refine GeSt.by [.thaw (.cell 3 3) 40 2] rfl ?_ ?_
      · exact trivial
      · exact LeSt.frame (show ctr + 4 < ctr + 13 by omega) rfl rfl (And.intro ⟨_, rfl, LeD.refl _⟩
            (And.intro ⟨_, rfl, LeD.refl _⟩
            (And.intro ⟨_, rfl, LeD.refl _⟩
            (And.intro ⟨_, rfl, LeD.refl _⟩
            trivial)))) (And.intro ⟨_, rfl, LeOb.box (And.intro (LeD.refl _)
            (And.intro (LeD.refl _)
            (And.intro (LeD.refl _)
            (And.intro (LeD.refl _)
            (And.intro (LeD.refl _)
            (And.intro (LeD.refl _)
            trivial))))))⟩
            (And.intro ⟨_, rfl, LeOb.box (And.intro (LeD.refl _)
            (And.intro (LeD.refl _)
            (And.intro (LeD.refl _)
            (And.intro (LeD.refl _)
            (And.intro (LeD.refl _)
            (And.intro (LeD.refl _)
            trivial))))))⟩
            (And.intro ⟨_, rfl, LeOb.box (And.intro (LeD.refl _)
            (And.intro (LeD.refl _)
            (And.intro (LeD.refl _)
            (And.intro (LeD.refl _)
            (And.intro (LeD.refl _)
            (And.intro (LeD.refl _)
            trivial))))))⟩
            (And.intro ⟨_, rfl, LeOb.arr' rfl (fun i i0 i1 j hj => by exfalso; revert i1; show i < (0 : Int) → False; omega)⟩
            trivial))))
    · obtain ⟨i4, o5⟩ := x
      obtain ⟨t'5_c, t'5_g, t'5_t⟩ := t'5
      have ht'5_c : 0 < t'5_c := ht'5.1
      have ht'5_g : ∀ k, t'5_g k < t'5_c := ht'5.2
      refine Tr.chunk (cx := ⟨tt0, ⟨fun f => kOf [] f, fun k _ _ _ => orcL [] k, fun t => memN [39] t⟩, 0, fun r => ghL [] r⟩) tt0_ok hPm fun N hN => ?_
      generalize hp : std Try.prog = p
      generalize hv : nvS = nv
      cbv
      subst hp
      subst hv
      refine ⟨rfl, ?_⟩
      refine ⟨fun h79 => ?_, fun h79 => ?_⟩
      · replace h := iteO_t h h79
        replace h := chk_some h; obtain ⟨h80, h⟩ := h
        replace h := chk_some h; obtain ⟨h81, h⟩ := h
        replace h := chk_some h; obtain ⟨h82, h⟩ := h
        refine ⟨rfl, rfl, h80, rfl, h81, rfl, (by have := ht'5_g 40; show (_ : Nat) < _; try dsimp only [std_eq, stdN]; omega), h82, rfl, (show drOk _ _ = true by kernel_rfl), ?_⟩
        replace h := chk_some h; obtain ⟨h83, h⟩ := h
        refine ⟨h83, ?_⟩
        subst hN
        cases h
        show ∃ t', _ ∧ GeSt _ _ _
        refine ⟨⟨t'5_c + 12, gfn [(1, t'5_g 1), (2, t'5_g 2), (3, t'5_g 3), (40, t'5_c + 1)], tfn [(1, false), (2, false), (3, false), (40, false)]⟩, Hid.mk_ok (by omega) (And.intro (by have := ht'5_g 1; omega)
            (And.intro (by have := ht'5_g 2; omega)
            (And.intro (by have := ht'5_g 3; omega)
            (And.intro (by omega)
            trivial)))), ?_⟩
        exact GeSt.of (LeSt.frame (by show (_ : Nat) < _; (try dsimp only [std_eq, stdN]); omega) rfl rfl (And.intro ⟨_, rfl, LeD.refl _⟩
            (And.intro ⟨_, rfl, LeD.refl _⟩
            (And.intro ⟨_, rfl, LeD.refl _⟩
            (And.intro ⟨_, rfl, LeD.refl _⟩
            trivial)))) (And.intro ⟨_, rfl, LeOb.box (And.intro (LeD.refl _)
            (And.intro (LeD.refl _)
            (And.intro (LeD.refl _)
            (And.intro (LeD.refl _)
            (And.intro (LeD.refl _)
            (And.intro (LeD.refl _)
            trivial))))))⟩
            (And.intro ⟨_, rfl, LeOb.box (And.intro (LeD.refl _)
            (And.intro (LeD.refl _)
            (And.intro (LeD.refl _)
            (And.intro (LeD.refl _)
            (And.intro (LeD.refl _)
            (And.intro (LeD.refl _)
            trivial))))))⟩
            (And.intro ⟨_, rfl, LeOb.box (And.intro (LeD.refl _)
            (And.intro (LeD.refl _)
            (And.intro (LeD.refl _)
            (And.intro (LeD.vec rfl (by first | rfl | assumption | (symm; assumption) | ((try dsimp only [std_eq, stdN, nvS]) <;> first | rfl | omega | (simp (disch := first | omega | (simp only [lenL_set, lenL_app, lenL_cons, lenL_nil] <;> omega)) only [lenL_bytes, lenL_set, lenL_app, lenL_cons, lenL_nil, lenL_rep, lenL_sub, lenL_cpy, Int.ofNat_eq_natCast, Int.zero_add, Int.sub_zero] <;> try omega))))
            (And.intro (LeD.refl _)
            (And.intro (LeD.refl _)
            trivial))))))⟩
            (And.intro ⟨_, rfl, LeOb.arrE (by first | rfl | assumption | (symm; assumption) | ((try dsimp only [std_eq, stdN, nvS]) <;> first | rfl | omega | (simp (disch := first | omega | (simp only [lenL_set, lenL_app, lenL_cons, lenL_nil] <;> omega)) only [lenL_bytes, lenL_set, lenL_app, lenL_cons, lenL_nil, lenL_rep, lenL_sub, lenL_cpy, Int.ofNat_eq_natCast, Int.zero_add, Int.sub_zero] <;> try omega))) (fun i i0 i1 j hj => by (try dsimp only [std_eq, stdN, nvS] at i1); (try simp only [Int.ofNat_eq_natCast] at i1); (rcases (show j = 0 ∨ j = 1 by omega) with rfl | rfl) <;> (conv => lhs; whnf) <;> (conv => rhs; whnf) <;> (try dsimp only [std_eq, stdN, nvS]) <;> (first | rfl | (simp (disch := first | omega | (simp only [lenL_set, lenL_app, lenL_cons, lenL_nil] <;> omega)) only [getL_bytes, getL_put, getL_app, getL_rep, getL_sub, getL_cpy, Int.zero_add, Int.sub_zero, beq_iff_eq, decide_eq_true_eq, Bool.and_eq_true] <;> first | rfl | (split <;> first | rfl | (simp (disch := first | omega | (simp only [lenL_set, lenL_app, lenL_cons, lenL_nil] <;> omega)) only [getL_one, getL_zero] <;> rfl)) | ((simp only [lenL_app, lenL_cons, lenL_nil, Int.ofNat_eq_natCast]) <;> (repeat' split) <;> first | rfl | (exfalso; omega) | (simp (disch := omega) only [getL_one, getL_zero] <;> rfl) | (congr 3; omega)))))⟩
            trivial)))))
      · replace h := iteO_f h h79
        subst hN
        cases h
        intro he; cases he
        show ∃ t', _ ∧ GeSt _ _ _
        refine ⟨⟨t'5_c + 10, gfn [(1, t'5_g 1), (2, t'5_g 2), (3, t'5_g 3), (40, t'5_g 40)], tfn [(1, false), (2, false), (3, false), (40, t'5_t 40)]⟩, Hid.mk_ok (by omega) (And.intro (by have := ht'5_g 1; omega)
            (And.intro (by have := ht'5_g 2; omega)
            (And.intro (by have := ht'5_g 3; omega)
            (And.intro (by have := ht'5_g 40; omega)
            trivial)))), ?_⟩
        exact GeSt.of (LeSt.frame (by show (_ : Nat) < _; (try dsimp only [std_eq, stdN]); omega) rfl rfl (And.intro ⟨_, rfl, LeD.refl _⟩
            (And.intro ⟨_, rfl, LeD.refl _⟩
            (And.intro ⟨_, rfl, LeD.refl _⟩
            trivial))) (And.intro ⟨_, rfl, LeOb.box (And.intro (LeD.refl _)
            (And.intro (LeD.refl _)
            (And.intro (LeD.refl _)
            (And.intro (LeD.refl _)
            (And.intro (LeD.refl _)
            (And.intro (LeD.refl _)
            trivial))))))⟩
            (And.intro ⟨_, rfl, LeOb.box (And.intro (LeD.refl _)
            (And.intro (LeD.refl _)
            (And.intro (LeD.refl _)
            (And.intro (LeD.refl _)
            (And.intro (LeD.refl _)
            (And.intro (LeD.refl _)
            trivial))))))⟩
            (And.intro ⟨_, rfl, LeOb.box (And.intro (LeD.refl _)
            (And.intro (LeD.refl _)
            (And.intro (LeD.refl _)
            (And.intro (LeD.vec rfl (by first | rfl | assumption | (symm; assumption) | ((try dsimp only [std_eq, stdN, nvS]) <;> first | rfl | omega | (simp (disch := first | omega | (simp only [lenL_set, lenL_app, lenL_cons, lenL_nil] <;> omega)) only [lenL_bytes, lenL_set, lenL_app, lenL_cons, lenL_nil, lenL_rep, lenL_sub, lenL_cpy, Int.ofNat_eq_natCast, Int.zero_add, Int.sub_zero] <;> try omega))))
            (And.intro (LeD.refl _)
            (And.intro (LeD.refl _)
            trivial))))))⟩
            (And.intro ⟨_, rfl, LeOb.arrE (by first | rfl | assumption | (symm; assumption) | ((try dsimp only [std_eq, stdN, nvS]) <;> first | rfl | omega | (simp (disch := first | omega | (simp only [lenL_set, lenL_app, lenL_cons, lenL_nil] <;> omega)) only [lenL_bytes, lenL_set, lenL_app, lenL_cons, lenL_nil, lenL_rep, lenL_sub, lenL_cpy, Int.ofNat_eq_natCast, Int.zero_add, Int.sub_zero] <;> try omega))) (fun i i0 i1 j hj => by (try dsimp only [std_eq, stdN, nvS] at i1); (try simp only [Int.ofNat_eq_natCast] at i1); (rcases (show j = 0 ∨ j = 1 by omega) with rfl | rfl) <;> (conv => lhs; whnf) <;> (conv => rhs; whnf) <;> (try dsimp only [std_eq, stdN, nvS]) <;> (first | rfl | (simp (disch := first | omega | (simp only [lenL_set, lenL_app, lenL_cons, lenL_nil] <;> omega)) only [getL_bytes, getL_put, getL_app, getL_rep, getL_sub, getL_cpy, Int.zero_add, Int.sub_zero, beq_iff_eq, decide_eq_true_eq, Bool.and_eq_true] <;> first | rfl | (split <;> first | rfl | (simp (disch := first | omega | (simp only [lenL_set, lenL_app, lenL_cons, lenL_nil] <;> omega)) only [getL_one, getL_zero] <;> rfl)) | ((simp only [lenL_app, lenL_cons, lenL_nil, Int.ofNat_eq_natCast]) <;> (repeat' split) <;> first | rfl | (exfalso; omega) | (simp (disch := omega) only [getL_one, getL_zero] <;> rfl) | (congr 3; omega)))))⟩
            trivial)))))

theorem lapwingref19_soft_ok (c' : Int) (r : Bool) (h : lapwingref19_soft c' = some r) : PureFn Try.prog 30 [(.v (.int .i64 c'))] ((.v (.bool r))) := by
  unfold lapwingref19_soft at h
  refine fn_tr tt0_ok Try.func30 (by kernel_rfl) (c := bodyOf Try.f30) (by kernel_rfl) ?_
  intro ctr hc
  refine Tr.chunk (cx := ⟨tt0, ⟨fun f => kOf [] f, fun k _ _ _ => orcL [] k, fun t => memN [] t⟩, 0, fun r => ghL [] r⟩) tt0_ok hPm fun N hN => ?_
  generalize hp : std Try.prog = p
  generalize hv : nvS = nv
  cbv
  subst hp
  subst hv
  refine ⟨(fun hg => hg), (fun hg => hg), (fun hg => hg), (fun hg => hg), (fun hg0 => (fun hg => (and_t hg0 (and_t hg0 hg)))), (fun hg => hg), (fun hg => hg), (fun hg => hg), (fun hg => hg), (fun hg => hg), (fun hg0 => (fun hg => (and_t hg0 (and_t hg0 hg)))), (fun hg => hg), (fun hg => hg), (fun hg => hg), ?_⟩
  subst hN
  have hr := Option.some.inj h
  subst hr
  try dsimp only [noGoto, inBlockQ, thenQ]
  repeat (first | refine (if_pos rfl).mpr ?_ | refine (if_neg (by decide)).mpr ?_)
  refine retQ_ret rfl ?_ ?_
  · exact trivial
  · exact rfl

theorem lapwingref19_Reset_ok (d' : T_lapwingref02_Data) (r' : (List Int)) (levels : (List Int)) (base : Int) (r : (List Int)) (h : lapwingref19_Reset d' r' levels base = some r) : PureFn Try.prog 20 [(.agg 6 (fun j => (D_lapwingref02_Data nvS d' j))), (.sl 1 (nvS.len r') false (fun i j => (.v (.int .i64 (nvS.get 0 r' i))))), (.sl 1 (nvS.len levels) false (fun i j => (.v (.int .i64 (nvS.get 0 levels i))))), (.v (.int .i64 base))] (.own 1 (nvS.len r) false (fun i j => (.v (.int .i64 (nvS.get 0 r i))))) := by
  unfold lapwingref19_Reset at h
  refine fn_tr tt0_ok Try.func20 (by kernel_rfl) (c := bodyOf Try.f20) (by kernel_rfl) ?_
  intro ctr hc
  refine Tr.pre (cx := ⟨tt0, ⟨fun f => kOf [] f, fun k _ _ _ => orcL [] k, fun t => memN [13, 15] t⟩, 0, fun r => ghL [] r⟩) tt0_ok hPm 4 fun N hN => ?_
  generalize hp : std Try.prog = p
  generalize hv : nvS = nv
  cbv
  subst hp
  subst hv
  replace h := chk_some h; obtain ⟨h1, h⟩ := h
  refine ⟨h1, rfl, rfl, ?_⟩
  refine ⟨fun h2 => ?_, fun h2 => ?_⟩
  · replace h := iteO_t h h2
    subst hN
    have hr := Option.some.inj h
    subst hr
    try dsimp only [noGoto, inBlockQ, thenQ]
    repeat (first | refine (if_pos rfl).mpr ?_ | refine (if_neg (by decide)).mpr ?_)
    refine retQ_ret rfl ?_ ?_
    · exact trivial
    · exact (And.intro (rfl)
          (And.intro (by first | rfl | assumption | (symm; assumption) | ((try dsimp only [std_eq, stdN, nvS]) <;> first | rfl | omega | (simp (disch := first | omega | (simp only [lenL_set, lenL_app, lenL_cons, lenL_nil] <;> omega)) only [lenL_bytes, lenL_set, lenL_app, lenL_cons, lenL_nil, lenL_rep, lenL_sub, lenL_cpy, Int.ofNat_eq_natCast, Int.zero_add, Int.sub_zero] <;> try omega)))
          (And.intro (fun h => by cases h)
          (out0_all (fun i j => out0_int _ _) (fun i i0 i1 j hj => by (try dsimp only [std_eq, stdN, nvS] at i1); (try simp only [Int.ofNat_eq_natCast] at i1); (obtain rfl : j = 0 := (by omega)) <;> (conv => lhs; whnf) <;> (conv => rhs; whnf) <;> (try dsimp only [std_eq, stdN, nvS]) <;> (first | rfl | (simp (disch := first | omega | (simp only [lenL_set, lenL_app, lenL_cons, lenL_nil] <;> omega)) only [getL_bytes, getL_put, getL_app, getL_rep, getL_sub, getL_cpy, Int.zero_add, Int.sub_zero, beq_iff_eq, decide_eq_true_eq, Bool.and_eq_true] <;> first | rfl | (split <;> first | rfl | (simp (disch := first | omega | (simp only [lenL_set, lenL_app, lenL_cons, lenL_nil] <;> omega)) only [getL_one, getL_zero] <;> rfl)) | ((simp only [lenL_app, lenL_cons, lenL_nil, Int.ofNat_eq_natCast]) <;> (repeat' split) <;> first | rfl | (exfalso; omega) | (simp (disch := omega) only [getL_one, getL_zero] <;> rfl) | (congr 3; omega)))))))))
  · replace h := iteO_f h h2
    subst hN
    show Tr _ _ _ _
    refine Tr.cutSeq (α := List Int) h (fun out t' => ⟨frm 55 [(9, .vec 15 (t'.g 15) 1 0 (nvS.len levels))] 0, frO 55 [(15, .arr (t'.g 15) 1 (nvS.len levels) (t'.t 15) (fun i j => (.v (.int .i64 (nvS.get 0 out i)))))] 0, t'.c⟩) (fun out t => Hid.ok t ∧ lenL out = (lenL levels)) (fun x t' ht' h => ?_) (fun f h => ?_)
    · revert h; revert ht'; revert x; intro out ht' h
      obtain ⟨ht', ht'_f0⟩ := ht'
      obtain ⟨t'_c, t'_g, t'_t⟩ := t'
      have ht'_c : 0 < t'_c := ht'.1
      have ht'_g : ∀ k, t'_g k < t'_c := ht'.2
      refine Tr.chunk (cx := ⟨tt0, ⟨fun f => kOf [] f, fun k _ _ _ => orcL [] k, fun t => memN [] t⟩, 0, fun r => ghL [] r⟩) tt0_ok hPm fun N hN => ?_
      generalize hp : std Try.prog = p
      generalize hv : nvS = nv
      cbv
      subst hp
      subst hv
      subst hN
      have hr := Option.some.inj h
      subst hr
      try dsimp only [noGoto, inBlockQ, thenQ]
      repeat (first | refine (if_pos rfl).mpr ?_ | refine (if_neg (by decide)).mpr ?_)
      refine retQ_ret rfl ?_ ?_
      · exact trivial
      · exact (And.intro (rfl)
            (And.intro (by first | rfl | assumption | (symm; assumption) | ((try dsimp only [std_eq, stdN, nvS]) <;> first | rfl | omega | (simp (disch := first | omega | (simp only [lenL_set, lenL_app, lenL_cons, lenL_nil] <;> omega)) only [lenL_bytes, lenL_set, lenL_app, lenL_cons, lenL_nil, lenL_rep, lenL_sub, lenL_cpy, Int.ofNat_eq_natCast, Int.zero_add, Int.sub_zero] <;> try omega)))
            (And.intro (fun h => by cases h)
            (out0_all (fun i j => out0_int _ _) (fun i i0 i1 j hj => by (try dsimp only [std_eq, stdN, nvS] at i1); (try simp only [Int.ofNat_eq_natCast] at i1); (obtain rfl : j = 0 := (by omega)) <;> (conv => lhs; whnf) <;> (conv => rhs; whnf) <;> (try dsimp only [std_eq, stdN, nvS]) <;> (first | rfl | (simp (disch := first | omega | (simp only [lenL_set, lenL_app, lenL_cons, lenL_nil] <;> omega)) only [getL_bytes, getL_put, getL_app, getL_rep, getL_sub, getL_cpy, Int.zero_add, Int.sub_zero, beq_iff_eq, decide_eq_true_eq, Bool.and_eq_true] <;> first | rfl | (split <;> first | rfl | (simp (disch := first | omega | (simp only [lenL_set, lenL_app, lenL_cons, lenL_nil] <;> omega)) only [getL_one, getL_zero] <;> rfl)) | ((simp only [lenL_app, lenL_cons, lenL_nil, Int.ofNat_eq_natCast]) <;> (repeat' split) <;> first | rfl | (exfalso; omega) | (simp (disch := omega) only [getL_one, getL_zero] <;> rfl) | (congr 3; omega)))))))))
    · refine Tr.pre (cx := ⟨tt0, ⟨fun f => kOf [] f, fun k _ _ _ => orcL [] k, fun t => memN [] t⟩, 0, fun r => ghL [] r⟩) tt0_ok hPm 1 fun N hN => ?_
      generalize hp : std Try.prog = p
      generalize hv : nvS = nv
      cbv
      subst hp
      subst hv
      replace h := chk_some h; obtain ⟨h26, h⟩ := h
      refine ⟨h26, ?_⟩
      subst hN
      show Tr _ _ _ _
      refine Tr.block ?_
      refine Tr.loopO (α := Bool × Int × List Int) (fun (end', i1, out1) t'1 => ⟨frm 55 [(1, .sl 1 (nvS.len r') false (fun i j => (.v (.int .i64 (nvS.get 0 r' i))))), (3, .v (.int .i64 base)), (4, .bref 4 (t'1.g 4) 0), (9, .vec 15 (t'1.g 15) 1 0 (nvS.len levels)), (10, .v (.bool end')), (11, .v (.int .i64 i1))] 0, frO 55 [(4, .box (t'1.g 4) [.sl 3 (nvS.len d'.fClass.fL) false (fun i j => (D_lapwingref01_Row nvS (nvS.get d_lapwingref01_Row d'.fClass.fL i) j)), .sl 3 (nvS.len d'.fWide.fL) false (fun i j => (D_lapwingref01_Row nvS (nvS.get d_lapwingref01_Row d'.fWide.fL i) j)), .sl 3 (nvS.len d'.fJoin.fL) false (fun i j => (D_lapwingref01_Row nvS (nvS.get d_lapwingref01_Row d'.fJoin.fL i) j)), .sl 2 (nvS.len d'.fMirror) false (fun i j => (D_lapwingref02_Pair nvS (nvS.get d_lapwingref02_Pair d'.fMirror i) j)), .sl 2 (nvS.len d'.fBrackets) false (fun i j => (D_lapwingref02_Pair nvS (nvS.get d_lapwingref02_Pair d'.fBrackets i) j)), .sl 3 (nvS.len d'.fForms) false (fun i j => (D_lapwingref02_Form nvS (nvS.get d_lapwingref02_Form d'.fForms i) j))]), (15, .arr (t'1.g 15) 1 (nvS.len levels) (t'1.t 15) (fun i j => (.v (.int .i64 (nvS.get 0 out1 i)))))] 0, t'1.c⟩) (fun (end', i1, out1) t => Hid.ok t ∧ lenL out1 = (lenL levels)) ⟨ctr + 14, gfn [(4, ctr + 0), (15, ctr + 1)], tfn [(4, false), (15, false)]⟩ h ?_ ?_ (fun x t'1 f ht'1 h => ?_)
      · exact (And.intro (Hid.mk_ok (by omega) (And.intro (by omega)
            (And.intro (by omega)
            trivial)))
            (by first | rfl | assumption | (symm; assumption) | ((try dsimp only [std_eq, stdN, nvS]) <;> first | rfl | omega | (simp (disch := first | omega | (simp only [lenL_set, lenL_app, lenL_cons, lenL_nil] <;> omega)) only [lenL_bytes, lenL_set, lenL_app, lenL_cons, lenL_nil, lenL_rep, lenL_sub, lenL_cpy, Int.ofNat_eq_natCast, Int.zero_add, Int.sub_zero] <;> try omega))))
      · exact GeSt.of (LeSt.frame (by show (_ : Nat) < _; (try dsimp only [std_eq, stdN]); omega) rfl rfl (And.intro ⟨_, rfl, LeD.refl _⟩
            (And.intro ⟨_, rfl, LeD.refl _⟩
            (And.intro ⟨_, rfl, LeD.refl _⟩
            (And.intro ⟨_, rfl, LeD.refl _⟩
            (And.intro ⟨_, rfl, LeD.refl _⟩
            (And.intro ⟨_, rfl, LeD.refl _⟩
            trivial)))))) (And.intro ⟨_, rfl, LeOb.box (And.intro (LeD.refl _)
            (And.intro (LeD.refl _)
            (And.intro (LeD.refl _)
            (And.intro (LeD.refl _)
            (And.intro (LeD.refl _)
            (And.intro (LeD.refl _)
            trivial))))))⟩
            (And.intro ⟨_, rfl, LeOb.arrE (by first | rfl | assumption | (symm; assumption) | ((try dsimp only [std_eq, stdN, nvS]) <;> first | rfl | omega | (simp (disch := first | omega | (simp only [lenL_set, lenL_app, lenL_cons, lenL_nil] <;> omega)) only [lenL_bytes, lenL_set, lenL_app, lenL_cons, lenL_nil, lenL_rep, lenL_sub, lenL_cpy, Int.ofNat_eq_natCast, Int.zero_add, Int.sub_zero] <;> try omega))) (fun i i0 i1 j hj => by (try dsimp only [std_eq, stdN, nvS] at i1); (try simp only [Int.ofNat_eq_natCast] at i1); (obtain rfl : j = 0 := (by omega)) <;> (conv => lhs; whnf) <;> (conv => rhs; whnf) <;> (try dsimp only [std_eq, stdN, nvS]) <;> (first | rfl | (simp (disch := first | omega | (simp only [lenL_set, lenL_app, lenL_cons, lenL_nil] <;> omega)) only [getL_bytes, getL_put, getL_app, getL_rep, getL_sub, getL_cpy, Int.zero_add, Int.sub_zero, beq_iff_eq, decide_eq_true_eq, Bool.and_eq_true] <;> first | rfl | (split <;> first | rfl | (simp (disch := first | omega | (simp only [lenL_set, lenL_app, lenL_cons, lenL_nil] <;> omega)) only [getL_one, getL_zero] <;> rfl)) | ((simp only [lenL_app, lenL_cons, lenL_nil, Int.ofNat_eq_natCast]) <;> (repeat' split) <;> first | rfl | (exfalso; omega) | (simp (disch := omega) only [getL_one, getL_zero] <;> rfl) | (congr 3; omega)))))⟩
            trivial)))
      · obtain ⟨end', i1, out1⟩ := x
        obtain ⟨ht'1, ht'1_f0⟩ := ht'1
        obtain ⟨t'1_c, t'1_g, t'1_t⟩ := t'1
        have ht'1_c : 0 < t'1_c := ht'1.1
        have ht'1_g : ∀ k, t'1_g k < t'1_c := ht'1.2
        obtain ⟨v, h51⟩ : ∃ v, valO 0 (lapwingref02_Class d' (getL 0 r' i1)) = v := ⟨_, rfl⟩
        obtain ⟨v1, h55⟩ : ∃ v1, valO false (if end' = true then lapwingref19_soft v else some false) = v1 := ⟨_, rfl⟩
        refine Tr.chunk (cx := ⟨tt0, ⟨fun f => kOf [] f, fun k _ _ _ => orcL [(34, .plain (.v (.int .i64 v))), (48, .plain (.v (.bool v1)))] k, fun t => memN [] t⟩, 0, fun r => ghL [] r⟩) tt0_ok hPm fun N hN => ?_
        generalize hp : std Try.prog = p
        generalize hv : nvS = nv
        cbv
        subst hp
        subst hv
        refine ⟨fun h49 => ?_, fun h49 => ?_⟩
        · replace h := iteO_t h h49
          replace h := chk_some h; obtain ⟨h50, h⟩ := h
          replace h := bindO_val h51 h; clear h51; obtain ⟨h51, h⟩ := h
          refine ⟨rfl, h50, (Or.inl (PureFn.arg (lapwingref02_Class_ok d' (getL 0 r' i1) v h51) (And.intro (LeD.agg fun j hj => by
                have hj2 : j < 6 := hj
                rcases (show j = 0 ∨ j = 1 ∨ j = 2 ∨ j = 3 ∨ j = 4 ∨ j = 5 by omega) with rfl | rfl | rfl | rfl | rfl | rfl
                · exact LeD.refl _
                · exact LeD.refl _
                · exact LeD.refl _
                · exact LeD.refl _
                · exact LeD.refl _
                · exact LeD.refl _)
              (And.intro (LeD.refl _)
              trivial)))), (show drOk _ _ = true by kernel_rfl), ?_⟩
          refine ⟨(fun hg => hg), (fun hg => hg), ?_⟩
          refine ⟨fun h52 => ?_, fun h52 => ?_⟩
          · replace h := iteO_t h h52
            replace h := chk_some h; obtain ⟨h53, h⟩ := h
            refine ⟨h53, rfl, ?_⟩
            replace h := chk_some h; obtain ⟨h54, h⟩ := h
            refine ⟨h54, ?_⟩
            subst hN
            cases h
            show ∃ t', _ ∧ GeSt _ _ _
            refine ⟨⟨t'1_c + 15, gfn [(4, t'1_g 4), (15, t'1_g 15)], tfn [(4, false), (15, t'1_t 15)]⟩, (And.intro (Hid.mk_ok (by omega) (And.intro (by have := ht'1_g 4; omega)
                (And.intro (by have := ht'1_g 15; omega)
                trivial)))
                (by first | rfl | assumption | (symm; assumption) | ((try dsimp only [std_eq, stdN, nvS]) <;> first | rfl | omega | (simp (disch := first | omega | (simp only [lenL_set, lenL_app, lenL_cons, lenL_nil] <;> omega)) only [lenL_bytes, lenL_set, lenL_app, lenL_cons, lenL_nil, lenL_rep, lenL_sub, lenL_cpy, Int.ofNat_eq_natCast, Int.zero_add, Int.sub_zero] <;> try omega)))), ?_⟩
            exact GeSt.of (LeSt.frame (by show (_ : Nat) < _; (try dsimp only [std_eq, stdN]); omega) rfl rfl (And.intro ⟨_, rfl, LeD.refl _⟩
                (And.intro ⟨_, rfl, LeD.refl _⟩
                (And.intro ⟨_, rfl, LeD.refl _⟩
                (And.intro ⟨_, rfl, LeD.refl _⟩
                (And.intro ⟨_, rfl, LeD.refl _⟩
                (And.intro ⟨_, rfl, LeD.refl _⟩
                trivial)))))) (And.intro ⟨_, rfl, LeOb.box (And.intro (LeD.refl _)
                (And.intro (LeD.refl _)
                (And.intro (LeD.refl _)
                (And.intro (LeD.refl _)
                (And.intro (LeD.refl _)
                (And.intro (LeD.refl _)
                trivial))))))⟩
                (And.intro ⟨_, rfl, LeOb.arrE (by first | rfl | assumption | (symm; assumption) | ((try dsimp only [std_eq, stdN, nvS]) <;> first | rfl | omega | (simp (disch := first | omega | (simp only [lenL_set, lenL_app, lenL_cons, lenL_nil] <;> omega)) only [lenL_bytes, lenL_set, lenL_app, lenL_cons, lenL_nil, lenL_rep, lenL_sub, lenL_cpy, Int.ofNat_eq_natCast, Int.zero_add, Int.sub_zero] <;> try omega))) (fun i i0 i1 j hj => by (try dsimp only [std_eq, stdN, nvS] at i1); (try simp only [Int.ofNat_eq_natCast] at i1); (obtain rfl : j = 0 := (by omega)) <;> (conv => lhs; whnf) <;> (conv => rhs; whnf) <;> (try dsimp only [std_eq, stdN, nvS]) <;> (first | rfl | (simp (disch := first | omega | (simp only [lenL_set, lenL_app, lenL_cons, lenL_nil] <;> omega)) only [getL_bytes, getL_put, getL_app, getL_rep, getL_sub, getL_cpy, Int.zero_add, Int.sub_zero, beq_iff_eq, decide_eq_true_eq, Bool.and_eq_true] <;> first | rfl | (split <;> first | rfl | (simp (disch := first | omega | (simp only [lenL_set, lenL_app, lenL_cons, lenL_nil] <;> omega)) only [getL_one, getL_zero] <;> rfl)) | ((simp only [lenL_app, lenL_cons, lenL_nil, Int.ofNat_eq_natCast]) <;> (repeat' split) <;> first | rfl | (exfalso; omega) | (simp (disch := omega) only [getL_one, getL_zero] <;> rfl) | (congr 3; omega)))))⟩
                trivial)))
          · replace h := iteO_f h h52
            replace h := bindO_val h55 h; clear h55; obtain ⟨h55, h⟩ := h
            refine ⟨(fun hg => hg), (fun hg => by have h55 := guardO h55 hg; exact (Or.inl (PureFn.arg (lapwingref19_soft_ok v v1 h55) (And.intro (LeD.refl _)
                trivial)))), (fun hg => hg), ?_⟩
            refine ⟨fun h56 => ?_, fun h56 => ?_⟩
            · replace h := iteO_t h h56
              replace h := chk_some h; obtain ⟨h57, h⟩ := h
              refine ⟨h57, rfl, ?_⟩
              replace h := chk_some h; obtain ⟨h58, h⟩ := h
              refine ⟨h58, ?_⟩
              subst hN
              cases h
              show ∃ t', _ ∧ GeSt _ _ _
              refine ⟨⟨t'1_c + 15, gfn [(4, t'1_g 4), (15, t'1_g 15)], tfn [(4, false), (15, t'1_t 15)]⟩, (And.intro (Hid.mk_ok (by omega) (And.intro (by have := ht'1_g 4; omega)
                  (And.intro (by have := ht'1_g 15; omega)
                  trivial)))
                  (by first | rfl | assumption | (symm; assumption) | ((try dsimp only [std_eq, stdN, nvS]) <;> first | rfl | omega | (simp (disch := first | omega | (simp only [lenL_set, lenL_app, lenL_cons, lenL_nil] <;> omega)) only [lenL_bytes, lenL_set, lenL_app, lenL_cons, lenL_nil, lenL_rep, lenL_sub, lenL_cpy, Int.ofNat_eq_natCast, Int.zero_add, Int.sub_zero] <;> try omega)))), ?_⟩
              exact GeSt.of (LeSt.frame (by show (_ : Nat) < _; (try dsimp only [std_eq, stdN]); omega) rfl rfl (And.intro ⟨_, rfl, LeD.refl _⟩
                  (And.intro ⟨_, rfl, LeD.refl _⟩
                  (And.intro ⟨_, rfl, LeD.refl _⟩
                  (And.intro ⟨_, rfl, LeD.refl _⟩
                  (And.intro ⟨_, rfl, LeD.refl _⟩
                  (And.intro ⟨_, rfl, LeD.refl _⟩
                  trivial)))))) (And.intro ⟨_, rfl, LeOb.box (And.intro (LeD.refl _)
                  (And.intro (LeD.refl _)
                  (And.intro (LeD.refl _)
                  (And.intro (LeD.refl _)
                  (And.intro (LeD.refl _)
                  (And.intro (LeD.refl _)
                  trivial))))))⟩
                  (And.intro ⟨_, rfl, LeOb.arrE (by first | rfl | assumption | (symm; assumption) | ((try dsimp only [std_eq, stdN, nvS]) <;> first | rfl | omega | (simp (disch := first | omega | (simp only [lenL_set, lenL_app, lenL_cons, lenL_nil] <;> omega)) only [lenL_bytes, lenL_set, lenL_app, lenL_cons, lenL_nil, lenL_rep, lenL_sub, lenL_cpy, Int.ofNat_eq_natCast, Int.zero_add, Int.sub_zero] <;> try omega))) (fun i i0 i1 j hj => by (try dsimp only [std_eq, stdN, nvS] at i1); (try simp only [Int.ofNat_eq_natCast] at i1); (obtain rfl : j = 0 := (by omega)) <;> (conv => lhs; whnf) <;> (conv => rhs; whnf) <;> (try dsimp only [std_eq, stdN, nvS]) <;> (first | rfl | (simp (disch := first | omega | (simp only [lenL_set, lenL_app, lenL_cons, lenL_nil] <;> omega)) only [getL_bytes, getL_put, getL_app, getL_rep, getL_sub, getL_cpy, Int.zero_add, Int.sub_zero, beq_iff_eq, decide_eq_true_eq, Bool.and_eq_true] <;> first | rfl | (split <;> first | rfl | (simp (disch := first | omega | (simp only [lenL_set, lenL_app, lenL_cons, lenL_nil] <;> omega)) only [getL_one, getL_zero] <;> rfl)) | ((simp only [lenL_app, lenL_cons, lenL_nil, Int.ofNat_eq_natCast]) <;> (repeat' split) <;> first | rfl | (exfalso; omega) | (simp (disch := omega) only [getL_one, getL_zero] <;> rfl) | (congr 3; omega)))))⟩
                  trivial)))
            · replace h := iteO_f h h56
              replace h := chk_some h; obtain ⟨h59, h⟩ := h
              refine ⟨h59, ?_⟩
              subst hN
              cases h
              show ∃ t', _ ∧ GeSt _ _ _
              refine ⟨⟨t'1_c + 15, gfn [(4, t'1_g 4), (15, t'1_g 15)], tfn [(4, false), (15, t'1_t 15)]⟩, (And.intro (Hid.mk_ok (by omega) (And.intro (by have := ht'1_g 4; omega)
                  (And.intro (by have := ht'1_g 15; omega)
                  trivial)))
                  (by first | rfl | assumption | (symm; assumption) | ((try dsimp only [std_eq, stdN, nvS]) <;> first | rfl | omega | (simp (disch := first | omega | (simp only [lenL_set, lenL_app, lenL_cons, lenL_nil] <;> omega)) only [lenL_bytes, lenL_set, lenL_app, lenL_cons, lenL_nil, lenL_rep, lenL_sub, lenL_cpy, Int.ofNat_eq_natCast, Int.zero_add, Int.sub_zero] <;> try omega)))), ?_⟩
              exact GeSt.of (LeSt.frame (by show (_ : Nat) < _; (try dsimp only [std_eq, stdN]); omega) rfl rfl (And.intro ⟨_, rfl, LeD.refl _⟩
                  (And.intro ⟨_, rfl, LeD.refl _⟩
                  (And.intro ⟨_, rfl, LeD.refl _⟩
                  (And.intro ⟨_, rfl, LeD.refl _⟩
                  (And.intro ⟨_, rfl, LeD.refl _⟩
                  (And.intro ⟨_, rfl, LeD.refl _⟩
                  trivial)))))) (And.intro ⟨_, rfl, LeOb.box (And.intro (LeD.refl _)
                  (And.intro (LeD.refl _)
                  (And.intro (LeD.refl _)
                  (And.intro (LeD.refl _)
                  (And.intro (LeD.refl _)
                  (And.intro (LeD.refl _)
                  trivial))))))⟩
                  (And.intro ⟨_, rfl, LeOb.refl _⟩
                  trivial)))
        · replace h := iteO_f h h49
          subst hN
          cases h
          intro he; cases he
          show ∃ t', _ ∧ GeSt _ _ _
          refine ⟨⟨t'1_c + 10, gfn [(15, t'1_g 15)], tfn [(15, t'1_t 15)]⟩, (And.intro (Hid.mk_ok (by omega) (And.intro (by have := ht'1_g 15; omega)
              trivial))
              (by first | rfl | assumption | (symm; assumption) | ((try dsimp only [std_eq, stdN, nvS]) <;> first | rfl | omega | (simp (disch := first | omega | (simp only [lenL_set, lenL_app, lenL_cons, lenL_nil] <;> omega)) only [lenL_bytes, lenL_set, lenL_app, lenL_cons, lenL_nil, lenL_rep, lenL_sub, lenL_cpy, Int.ofNat_eq_natCast, Int.zero_add, Int.sub_zero] <;> try omega)))), ?_⟩
          exact GeSt.of (LeSt.frame (by show (_ : Nat) < _; (try dsimp only [std_eq, stdN]); omega) rfl rfl (And.intro ⟨_, rfl, LeD.refl _⟩
              trivial) (And.intro ⟨_, rfl, LeOb.refl _⟩
              trivial))

theorem order_Reset_ok (d' : T_ucd_Data) (r' : (List Int)) (levels : (List Int)) (base : Int) (r : (List Int)) (h : order_Reset d' r' levels base = some r) : PureFn Try.prog 18 [(.agg 6 (fun j => (D_ucd_Data nvS d' j))), (.sl 1 (nvS.len r') false (fun i j => (.v (.int .i64 (nvS.get 0 r' i))))), (.sl 1 (nvS.len levels) false (fun i j => (.v (.int .i64 (nvS.get 0 levels i))))), (.v (.int .i64 base))] (.own 1 (nvS.len r) false (fun i j => (.v (.int .i64 (nvS.get 0 r i))))) := by
  unfold order_Reset at h
  refine fn_tr tt0_ok Try.func18 (by kernel_rfl) (c := bodyOf Try.f18) (by kernel_rfl) ?_
  intro ctr hc
  obtain ⟨v, h1⟩ : ∃ v, valO [] (slices_Clone___int_int_ levels) = v := ⟨_, rfl⟩
  refine Tr.pre (cx := ⟨tt0, ⟨fun f => kOf [(25, 1)] f, fun k _ _ _ => orcL [(14, .own 1 (nvS.len v) false (fun i j => (.v (.int .i64 (nvS.get 0 v i)))))] k, fun t => memN [] t⟩, 0, fun r => ghL [] r⟩) tt0_ok hPm 4 fun N hN => ?_
  generalize hp : std Try.prog = p
  generalize hv : nvS = nv
  cbv
  subst hp
  subst hv
  replace h := bindO_val h1 h; clear h1; obtain ⟨h1, h⟩ := h
  refine ⟨(Or.inl (PureFn.arg (slices_Clone___int_int__ok levels v h1) (And.intro (LeD.refl _)
      trivial))), ?_⟩
  refine ⟨fun h2 => ?_, fun h2 => ?_⟩
  · replace h := iteO_t h h2
    subst hN
    have hr := Option.some.inj h
    subst hr
    try dsimp only [noGoto, inBlockQ, thenQ]
    repeat (first | refine (if_pos rfl).mpr ?_ | refine (if_neg (by decide)).mpr ?_)
    refine retQ_ret rfl ?_ ?_
    · exact trivial
    · exact (And.intro (rfl)
          (And.intro (by first | rfl | assumption | (symm; assumption) | ((try dsimp only [std_eq, stdN, nvS]) <;> first | rfl | omega | (simp (disch := first | omega | (simp only [lenL_set, lenL_app, lenL_cons, lenL_nil] <;> omega)) only [lenL_bytes, lenL_set, lenL_app, lenL_cons, lenL_nil, lenL_rep, lenL_sub, lenL_cpy, Int.ofNat_eq_natCast, Int.zero_add, Int.sub_zero] <;> try omega)))
          (And.intro (fun h => by cases h)
          (out0_all (fun i j => out0_int _ _) (fun i i0 i1 j hj => by (try dsimp only [std_eq, stdN, nvS] at i1); (try simp only [Int.ofNat_eq_natCast] at i1); (obtain rfl : j = 0 := (by omega)) <;> (conv => lhs; whnf) <;> (conv => rhs; whnf) <;> (try dsimp only [std_eq, stdN, nvS]) <;> (first | rfl | (simp (disch := first | omega | (simp only [lenL_set, lenL_app, lenL_cons, lenL_nil] <;> omega)) only [getL_bytes, getL_put, getL_app, getL_rep, getL_sub, getL_cpy, Int.zero_add, Int.sub_zero, beq_iff_eq, decide_eq_true_eq, Bool.and_eq_true] <;> first | rfl | (split <;> first | rfl | (simp (disch := first | omega | (simp only [lenL_set, lenL_app, lenL_cons, lenL_nil] <;> omega)) only [getL_one, getL_zero] <;> rfl)) | ((simp only [lenL_app, lenL_cons, lenL_nil, Int.ofNat_eq_natCast]) <;> (repeat' split) <;> first | rfl | (exfalso; omega) | (simp (disch := omega) only [getL_one, getL_zero] <;> rfl) | (congr 3; omega)))))))))
  · replace h := iteO_f h h2
    subst hN
    show Tr _ _ _ _
    refine Tr.cutSeq (α := List Int) h (fun out t' => ⟨frm 56 [(9, .vec 14 (t'.g 14) 1 0 (nvS.len v))] 0, frO 56 [(14, .arr (t'.g 14) 1 (nvS.len v) (t'.t 14) (fun i j => (.v (.int .i64 (nvS.get 0 out i)))))] 0, t'.c⟩) (fun out t => Hid.ok t ∧ lenL out = (lenL v)) (fun x t' ht' h => ?_) (fun f h => ?_)
    · revert h; revert ht'; revert x; intro out ht' h
      obtain ⟨ht', ht'_f0⟩ := ht'
      obtain ⟨t'_c, t'_g, t'_t⟩ := t'
      have ht'_c : 0 < t'_c := ht'.1
      have ht'_g : ∀ k, t'_g k < t'_c := ht'.2
      refine Tr.chunk (cx := ⟨tt0, ⟨fun f => kOf [] f, fun k _ _ _ => orcL [] k, fun t => memN [] t⟩, 0, fun r => ghL [] r⟩) tt0_ok hPm fun N hN => ?_
      generalize hp : std Try.prog = p
      generalize hv : nvS = nv
      cbv
      subst hp
      subst hv
      subst hN
      have hr := Option.some.inj h
      subst hr
      try dsimp only [noGoto, inBlockQ, thenQ]
      repeat (first | refine (if_pos rfl).mpr ?_ | refine (if_neg (by decide)).mpr ?_)
      refine retQ_ret rfl ?_ ?_
      · exact trivial
      · exact (And.intro (rfl)
            (And.intro (by first | rfl | assumption | (symm; assumption) | ((try dsimp only [std_eq, stdN, nvS]) <;> first | rfl | omega | (simp (disch := first | omega | (simp only [lenL_set, lenL_app, lenL_cons, lenL_nil] <;> omega)) only [lenL_bytes, lenL_set, lenL_app, lenL_cons, lenL_nil, lenL_rep, lenL_sub, lenL_cpy, Int.ofNat_eq_natCast, Int.zero_add, Int.sub_zero] <;> try omega)))
            (And.intro (fun h => by cases h)
            (out0_all (fun i j => out0_int _ _) (fun i i0 i1 j hj => by (try dsimp only [std_eq, stdN, nvS] at i1); (try simp only [Int.ofNat_eq_natCast] at i1); (obtain rfl : j = 0 := (by omega)) <;> (conv => lhs; whnf) <;> (conv => rhs; whnf) <;> (try dsimp only [std_eq, stdN, nvS]) <;> (first | rfl | (simp (disch := first | omega | (simp only [lenL_set, lenL_app, lenL_cons, lenL_nil] <;> omega)) only [getL_bytes, getL_put, getL_app, getL_rep, getL_sub, getL_cpy, Int.zero_add, Int.sub_zero, beq_iff_eq, decide_eq_true_eq, Bool.and_eq_true] <;> first | rfl | (split <;> first | rfl | (simp (disch := first | omega | (simp only [lenL_set, lenL_app, lenL_cons, lenL_nil] <;> omega)) only [getL_one, getL_zero] <;> rfl)) | ((simp only [lenL_app, lenL_cons, lenL_nil, Int.ofNat_eq_natCast]) <;> (repeat' split) <;> first | rfl | (exfalso; omega) | (simp (disch := omega) only [getL_one, getL_zero] <;> rfl) | (congr 3; omega)))))))))
    · refine Tr.pre (cx := ⟨tt0, ⟨fun f => kOf [] f, fun k _ _ _ => orcL [] k, fun t => memN [] t⟩, 0, fun r => ghL [] r⟩) tt0_ok hPm 1 fun N hN => ?_
      generalize hp : std Try.prog = p
      generalize hv : nvS = nv
      cbv
      subst hp
      subst hv
      replace h := chk_some h; obtain ⟨h29, h⟩ := h
      refine ⟨h29, ?_⟩
      subst hN
      show Tr _ _ _ _
      refine Tr.block ?_
      refine Tr.loopO (α := Bool × Int × List Int) (fun (end', i1, out1) t'1 => ⟨frm 56 [(1, .sl 1 (nvS.len r') false (fun i j => (.v (.int .i64 (nvS.get 0 r' i))))), (3, .v (.int .i64 base)), (4, .bref 4 (t'1.g 4) 0), (9, .vec 14 (t'1.g 14) 1 0 (nvS.len v)), (10, .v (.bool end')), (11, .v (.int .i64 i1))] 0, frO 56 [(4, .box (t'1.g 4) [.sl 3 (nvS.len d'.fClass.fL) false (fun i j => (D_ranges_Row nvS (nvS.get d_ranges_Row d'.fClass.fL i) j)), .sl 3 (nvS.len d'.fWide.fL) false (fun i j => (D_ranges_Row nvS (nvS.get d_ranges_Row d'.fWide.fL i) j)), .sl 3 (nvS.len d'.fJoin.fL) false (fun i j => (D_ranges_Row nvS (nvS.get d_ranges_Row d'.fJoin.fL i) j)), .sl 2 (nvS.len d'.fMirror) false (fun i j => (D_ucd_Pair nvS (nvS.get d_ucd_Pair d'.fMirror i) j)), .sl 2 (nvS.len d'.fBrackets) false (fun i j => (D_ucd_Pair nvS (nvS.get d_ucd_Pair d'.fBrackets i) j)), .sl 3 (nvS.len d'.fForms) false (fun i j => (D_ucd_Form nvS (nvS.get d_ucd_Form d'.fForms i) j))]), (14, .arr (t'1.g 14) 1 (nvS.len v) (t'1.t 14) (fun i j => (.v (.int .i64 (nvS.get 0 out1 i)))))] 0, t'1.c⟩) (fun (end', i1, out1) t => Hid.ok t ∧ lenL out1 = (lenL v)) ⟨ctr + 14, gfn [(4, ctr + 0), (14, ctr + 1)], tfn [(4, false), (14, false)]⟩ h ?_ ?_ (fun x t'1 f ht'1 h => ?_)
      · exact (And.intro (Hid.mk_ok (by omega) (And.intro (by omega)
            (And.intro (by omega)
            trivial)))
            (by first | rfl | assumption | (symm; assumption) | ((try dsimp only [std_eq, stdN, nvS]) <;> first | rfl | omega | (simp (disch := first | omega | (simp only [lenL_set, lenL_app, lenL_cons, lenL_nil] <;> omega)) only [lenL_bytes, lenL_set, lenL_app, lenL_cons, lenL_nil, lenL_rep, lenL_sub, lenL_cpy, Int.ofNat_eq_natCast, Int.zero_add, Int.sub_zero] <;> try omega))))
      · exact GeSt.of (LeSt.frame (by show (_ : Nat) < _; (try dsimp only [std_eq, stdN]); omega) rfl rfl (And.intro ⟨_, rfl, LeD.refl _⟩
            (And.intro ⟨_, rfl, LeD.refl _⟩
            (And.intro ⟨_, rfl, LeD.refl _⟩
            (And.intro ⟨_, rfl, LeD.refl _⟩
            (And.intro ⟨_, rfl, LeD.refl _⟩
            (And.intro ⟨_, rfl, LeD.refl _⟩
            trivial)))))) (And.intro ⟨_, rfl, LeOb.box (And.intro (LeD.refl _)
            (And.intro (LeD.refl _)
            (And.intro (LeD.refl _)
            (And.intro (LeD.refl _)
            (And.intro (LeD.refl _)
            (And.intro (LeD.refl _)
            trivial))))))⟩
            (And.intro ⟨_, rfl, LeOb.refl _⟩
            trivial)))
      · obtain ⟨end', i1, out1⟩ := x
        obtain ⟨ht'1, ht'1_f0⟩ := ht'1
        obtain ⟨t'1_c, t'1_g, t'1_t⟩ := t'1
        have ht'1_c : 0 < t'1_c := ht'1.1
        have ht'1_g : ∀ k, t'1_g k < t'1_c := ht'1.2
        obtain ⟨v1, h57⟩ : ∃ v1, valO 0 (ucd_Class d' (getL 0 r' i1)) = v1 := ⟨_, rfl⟩
        obtain ⟨v2, h61⟩ : ∃ v2, valO false (order_passed v1) = v2 := ⟨_, rfl⟩
        refine Tr.chunk (cx := ⟨tt0, ⟨fun f => kOf [] f, fun k _ _ _ => orcL [(33, .plain (.v (.int .i64 v1))), (47, .plain (.v (.bool v2)))] k, fun t => memN [] t⟩, 0, fun r => ghL [] r⟩) tt0_ok hPm fun N hN => ?_
        generalize hp : std Try.prog = p
        generalize hv : nvS = nv
        cbv
        subst hp
        subst hv
        refine ⟨fun h55 => ?_, fun h55 => ?_⟩
        · replace h := iteO_t h h55
          replace h := chk_some h; obtain ⟨h56, h⟩ := h
          replace h := bindO_val h57 h; clear h57; obtain ⟨h57, h⟩ := h
          refine ⟨rfl, h56, (Or.inl (PureFn.arg (ucd_Class_ok d' (getL 0 r' i1) v1 h57) (And.intro (LeD.agg fun j hj => by
                have hj2 : j < 6 := hj
                rcases (show j = 0 ∨ j = 1 ∨ j = 2 ∨ j = 3 ∨ j = 4 ∨ j = 5 by omega) with rfl | rfl | rfl | rfl | rfl | rfl
                · exact LeD.refl _
                · exact LeD.refl _
                · exact LeD.refl _
                · exact LeD.refl _
                · exact LeD.refl _
                · exact LeD.refl _)
              (And.intro (LeD.refl _)
              trivial)))), (show drOk _ _ = true by kernel_rfl), ?_⟩
          refine ⟨(fun hg => hg), (fun hg => hg), ?_⟩
          refine ⟨fun h58 => ?_, fun h58 => ?_⟩
          · replace h := iteO_t h h58
            replace h := chk_some h; obtain ⟨h59, h⟩ := h
            refine ⟨h59, rfl, ?_⟩
            replace h := chk_some h; obtain ⟨h60, h⟩ := h
            refine ⟨h60, ?_⟩
            subst hN
            cases h
            show ∃ t', _ ∧ GeSt _ _ _
            refine ⟨⟨t'1_c + 15, gfn [(4, t'1_g 4), (14, t'1_g 14)], tfn [(4, false), (14, t'1_t 14)]⟩, (And.intro (Hid.mk_ok (by omega) (And.intro (by have := ht'1_g 4; omega)
                (And.intro (by have := ht'1_g 14; omega)
                trivial)))
                (by first | rfl | assumption | (symm; assumption) | ((try dsimp only [std_eq, stdN, nvS]) <;> first | rfl | omega | (simp (disch := first | omega | (simp only [lenL_set, lenL_app, lenL_cons, lenL_nil] <;> omega)) only [lenL_bytes, lenL_set, lenL_app, lenL_cons, lenL_nil, lenL_rep, lenL_sub, lenL_cpy, Int.ofNat_eq_natCast, Int.zero_add, Int.sub_zero] <;> try omega)))), ?_⟩
            exact GeSt.of (LeSt.frame (by show (_ : Nat) < _; (try dsimp only [std_eq, stdN]); omega) rfl rfl (And.intro ⟨_, rfl, LeD.refl _⟩
                (And.intro ⟨_, rfl, LeD.refl _⟩
                (And.intro ⟨_, rfl, LeD.refl _⟩
                (And.intro ⟨_, rfl, LeD.refl _⟩
                (And.intro ⟨_, rfl, LeD.refl _⟩
                (And.intro ⟨_, rfl, LeD.refl _⟩
                trivial)))))) (And.intro ⟨_, rfl, LeOb.box (And.intro (LeD.refl _)
                (And.intro (LeD.refl _)
                (And.intro (LeD.refl _)
                (And.intro (LeD.refl _)
                (And.intro (LeD.refl _)
                (And.intro (LeD.refl _)
                trivial))))))⟩
                (And.intro ⟨_, rfl, LeOb.arrE (by first | rfl | assumption | (symm; assumption) | ((try dsimp only [std_eq, stdN, nvS]) <;> first | rfl | omega | (simp (disch := first | omega | (simp only [lenL_set, lenL_app, lenL_cons, lenL_nil] <;> omega)) only [lenL_bytes, lenL_set, lenL_app, lenL_cons, lenL_nil, lenL_rep, lenL_sub, lenL_cpy, Int.ofNat_eq_natCast, Int.zero_add, Int.sub_zero] <;> try omega))) (fun i i0 i1 j hj => by (try dsimp only [std_eq, stdN, nvS] at i1); (try simp only [Int.ofNat_eq_natCast] at i1); (obtain rfl : j = 0 := (by omega)) <;> (conv => lhs; whnf) <;> (conv => rhs; whnf) <;> (try dsimp only [std_eq, stdN, nvS]) <;> (first | rfl | (simp (disch := first | omega | (simp only [lenL_set, lenL_app, lenL_cons, lenL_nil] <;> omega)) only [getL_bytes, getL_put, getL_app, getL_rep, getL_sub, getL_cpy, Int.zero_add, Int.sub_zero, beq_iff_eq, decide_eq_true_eq, Bool.and_eq_true] <;> first | rfl | (split <;> first | rfl | (simp (disch := first | omega | (simp only [lenL_set, lenL_app, lenL_cons, lenL_nil] <;> omega)) only [getL_one, getL_zero] <;> rfl)) | ((simp only [lenL_app, lenL_cons, lenL_nil, Int.ofNat_eq_natCast]) <;> (repeat' split) <;> first | rfl | (exfalso; omega) | (simp (disch := omega) only [getL_one, getL_zero] <;> rfl) | (congr 3; omega)))))⟩
                trivial)))
          · replace h := iteO_f h h58
            replace h := bindO_val h61 h; clear h61; obtain ⟨h61, h⟩ := h
            refine ⟨(Or.inl (PureFn.arg (order_passed_ok v1 v2 h61) (And.intro (LeD.refl _)
                trivial))), ?_⟩
            refine ⟨fun h62 => ?_, fun h62 => ?_⟩
            · replace h := iteO_t h h62
              replace h := chk_some h; obtain ⟨h63, h⟩ := h
              refine ⟨h63, ?_⟩
              subst hN
              cases h
              show ∃ t', _ ∧ GeSt _ _ _
              refine ⟨⟨t'1_c + 15, gfn [(4, t'1_g 4), (14, t'1_g 14)], tfn [(4, false), (14, t'1_t 14)]⟩, (And.intro (Hid.mk_ok (by omega) (And.intro (by have := ht'1_g 4; omega)
                  (And.intro (by have := ht'1_g 14; omega)
                  trivial)))
                  (by first | rfl | assumption | (symm; assumption) | ((try dsimp only [std_eq, stdN, nvS]) <;> first | rfl | omega | (simp (disch := first | omega | (simp only [lenL_set, lenL_app, lenL_cons, lenL_nil] <;> omega)) only [lenL_bytes, lenL_set, lenL_app, lenL_cons, lenL_nil, lenL_rep, lenL_sub, lenL_cpy, Int.ofNat_eq_natCast, Int.zero_add, Int.sub_zero] <;> try omega)))), ?_⟩
              exact GeSt.of (LeSt.frame (by show (_ : Nat) < _; (try dsimp only [std_eq, stdN]); omega) rfl rfl (And.intro ⟨_, rfl, LeD.refl _⟩
                  (And.intro ⟨_, rfl, LeD.refl _⟩
                  (And.intro ⟨_, rfl, LeD.refl _⟩
                  (And.intro ⟨_, rfl, LeD.refl _⟩
                  (And.intro ⟨_, rfl, LeD.refl _⟩
                  (And.intro ⟨_, rfl, LeD.refl _⟩
                  trivial)))))) (And.intro ⟨_, rfl, LeOb.box (And.intro (LeD.refl _)
                  (And.intro (LeD.refl _)
                  (And.intro (LeD.refl _)
                  (And.intro (LeD.refl _)
                  (And.intro (LeD.refl _)
                  (And.intro (LeD.refl _)
                  trivial))))))⟩
                  (And.intro ⟨_, rfl, LeOb.refl _⟩
                  trivial)))
            · replace h := iteO_f h h62
              refine ⟨fun h64 => ?_, fun h64 => ?_⟩
              · replace h := iteO_t h h64
                replace h := chk_some h; obtain ⟨h65, h⟩ := h
                refine ⟨h65, rfl, ?_⟩
                replace h := chk_some h; obtain ⟨h66, h⟩ := h
                refine ⟨h66, ?_⟩
                subst hN
                cases h
                show ∃ t', _ ∧ GeSt _ _ _
                refine ⟨⟨t'1_c + 16, gfn [(4, t'1_g 4), (14, t'1_g 14)], tfn [(4, false), (14, t'1_t 14)]⟩, (And.intro (Hid.mk_ok (by omega) (And.intro (by have := ht'1_g 4; omega)
                    (And.intro (by have := ht'1_g 14; omega)
                    trivial)))
                    (by first | rfl | assumption | (symm; assumption) | ((try dsimp only [std_eq, stdN, nvS]) <;> first | rfl | omega | (simp (disch := first | omega | (simp only [lenL_set, lenL_app, lenL_cons, lenL_nil] <;> omega)) only [lenL_bytes, lenL_set, lenL_app, lenL_cons, lenL_nil, lenL_rep, lenL_sub, lenL_cpy, Int.ofNat_eq_natCast, Int.zero_add, Int.sub_zero] <;> try omega)))), ?_⟩
                exact GeSt.of (LeSt.frame (by show (_ : Nat) < _; (try dsimp only [std_eq, stdN]); omega) rfl rfl (And.intro ⟨_, rfl, LeD.refl _⟩
                    (And.intro ⟨_, rfl, LeD.refl _⟩
                    (And.intro ⟨_, rfl, LeD.refl _⟩
                    (And.intro ⟨_, rfl, LeD.refl _⟩
                    (And.intro ⟨_, rfl, LeD.refl _⟩
                    (And.intro ⟨_, rfl, LeD.refl _⟩
                    trivial)))))) (And.intro ⟨_, rfl, LeOb.box (And.intro (LeD.refl _)
                    (And.intro (LeD.refl _)
                    (And.intro (LeD.refl _)
                    (And.intro (LeD.refl _)
                    (And.intro (LeD.refl _)
                    (And.intro (LeD.refl _)
                    trivial))))))⟩
                    (And.intro ⟨_, rfl, LeOb.arrE (by first | rfl | assumption | (symm; assumption) | ((try dsimp only [std_eq, stdN, nvS]) <;> first | rfl | omega | (simp (disch := first | omega | (simp only [lenL_set, lenL_app, lenL_cons, lenL_nil] <;> omega)) only [lenL_bytes, lenL_set, lenL_app, lenL_cons, lenL_nil, lenL_rep, lenL_sub, lenL_cpy, Int.ofNat_eq_natCast, Int.zero_add, Int.sub_zero] <;> try omega))) (fun i i0 i1 j hj => by (try dsimp only [std_eq, stdN, nvS] at i1); (try simp only [Int.ofNat_eq_natCast] at i1); (obtain rfl : j = 0 := (by omega)) <;> (conv => lhs; whnf) <;> (conv => rhs; whnf) <;> (try dsimp only [std_eq, stdN, nvS]) <;> (first | rfl | (simp (disch := first | omega | (simp only [lenL_set, lenL_app, lenL_cons, lenL_nil] <;> omega)) only [getL_bytes, getL_put, getL_app, getL_rep, getL_sub, getL_cpy, Int.zero_add, Int.sub_zero, beq_iff_eq, decide_eq_true_eq, Bool.and_eq_true] <;> first | rfl | (split <;> first | rfl | (simp (disch := first | omega | (simp only [lenL_set, lenL_app, lenL_cons, lenL_nil] <;> omega)) only [getL_one, getL_zero] <;> rfl)) | ((simp only [lenL_app, lenL_cons, lenL_nil, Int.ofNat_eq_natCast]) <;> (repeat' split) <;> first | rfl | (exfalso; omega) | (simp (disch := omega) only [getL_one, getL_zero] <;> rfl) | (congr 3; omega)))))⟩
                    trivial)))
              · replace h := iteO_f h h64
                replace h := chk_some h; obtain ⟨h67, h⟩ := h
                refine ⟨h67, ?_⟩
                subst hN
                cases h
                show ∃ t', _ ∧ GeSt _ _ _
                refine ⟨⟨t'1_c + 15, gfn [(4, t'1_g 4), (14, t'1_g 14)], tfn [(4, false), (14, t'1_t 14)]⟩, (And.intro (Hid.mk_ok (by omega) (And.intro (by have := ht'1_g 4; omega)
                    (And.intro (by have := ht'1_g 14; omega)
                    trivial)))
                    (by first | rfl | assumption | (symm; assumption) | ((try dsimp only [std_eq, stdN, nvS]) <;> first | rfl | omega | (simp (disch := first | omega | (simp only [lenL_set, lenL_app, lenL_cons, lenL_nil] <;> omega)) only [lenL_bytes, lenL_set, lenL_app, lenL_cons, lenL_nil, lenL_rep, lenL_sub, lenL_cpy, Int.ofNat_eq_natCast, Int.zero_add, Int.sub_zero] <;> try omega)))), ?_⟩
                exact GeSt.of (LeSt.frame (by show (_ : Nat) < _; (try dsimp only [std_eq, stdN]); omega) rfl rfl (And.intro ⟨_, rfl, LeD.refl _⟩
                    (And.intro ⟨_, rfl, LeD.refl _⟩
                    (And.intro ⟨_, rfl, LeD.refl _⟩
                    (And.intro ⟨_, rfl, LeD.refl _⟩
                    (And.intro ⟨_, rfl, LeD.refl _⟩
                    (And.intro ⟨_, rfl, LeD.refl _⟩
                    trivial)))))) (And.intro ⟨_, rfl, LeOb.box (And.intro (LeD.refl _)
                    (And.intro (LeD.refl _)
                    (And.intro (LeD.refl _)
                    (And.intro (LeD.refl _)
                    (And.intro (LeD.refl _)
                    (And.intro (LeD.refl _)
                    trivial))))))⟩
                    (And.intro ⟨_, rfl, LeOb.refl _⟩
                    trivial)))
        · replace h := iteO_f h h55
          subst hN
          cases h
          intro he; cases he
          show ∃ t', _ ∧ GeSt _ _ _
          refine ⟨⟨t'1_c + 10, gfn [(14, t'1_g 14)], tfn [(14, t'1_t 14)]⟩, (And.intro (Hid.mk_ok (by omega) (And.intro (by have := ht'1_g 14; omega)
              trivial))
              (by first | rfl | assumption | (symm; assumption) | ((try dsimp only [std_eq, stdN, nvS]) <;> first | rfl | omega | (simp (disch := first | omega | (simp only [lenL_set, lenL_app, lenL_cons, lenL_nil] <;> omega)) only [lenL_bytes, lenL_set, lenL_app, lenL_cons, lenL_nil, lenL_rep, lenL_sub, lenL_cpy, Int.ofNat_eq_natCast, Int.zero_add, Int.sub_zero] <;> try omega)))), ?_⟩
          exact GeSt.of (LeSt.frame (by show (_ : Nat) < _; (try dsimp only [std_eq, stdN]); omega) rfl rfl (And.intro ⟨_, rfl, LeD.refl _⟩
              trivial) (And.intro ⟨_, rfl, LeOb.refl _⟩
              trivial))
end Go.Vx
