/- Walks, by program (lift.py). -/
import Derived.Test.YtgkpmoapkjlopaaIWalk
import Derived.Test.YtgkpmoapkjlopaaIWalkA
set_option linter.all false
namespace Go.Vx
open Go.Proofs
set_option maxRecDepth 100000
set_option linter.unusedVariables false
set_option linter.unusedSimpArgs false

theorem lapwingref01_Get_ok (t' : T_lapwingref01_Table) (r' : Int) (r : Int) (h : lapwingref01_Get t' r' = some r) : PureFn Try.prog 32 [(.agg 1 (fun j => (D_lapwingref01_Table nvS t' j))), (.v (.int .i64 r'))] ((.v (.int .i64 r))) := by
  unfold lapwingref01_Get at h
  refine fn_tr tt0_ok Try.func32 (by kernel_rfl) (c := bodyOf Try.f32) (by kernel_rfl) ?_
  intro ctr hc
  refine Tr.pre (cx := ⟨tt0, ⟨fun f => kOf [] f, fun k _ _ _ => orcL [] k, fun t => memN [] t⟩, 0, fun r => ghL [] r⟩) tt0_ok hPm 1 fun N hN => ?_
  generalize hp : std Try.prog = p
  generalize hv : nvS = nv
  cbv
  subst hp
  subst hv
  subst hN
  show Tr _ _ _ _
  refine Tr.cutSeq (α := Unit) h (fun _ t'1 => ⟨frm 37 [] 0, frO 37 [] 0, t'1.c⟩) (fun _ t => Hid.ok t) (fun x t'1 ht'1 h => ?_) (fun f h => ?_)
  · obtain ⟨t'1_c, t'1_g, t'1_t⟩ := t'1
    have ht'1_c : 0 < t'1_c := ht'1.1
    have ht'1_g : ∀ k, t'1_g k < t'1_c := ht'1.2
    refine Tr.chunk (cx := ⟨tt0, ⟨fun f => kOf [] f, fun k _ _ _ => orcL [] k, fun t => memN [] t⟩, 0, fun r => ghL [] r⟩) tt0_ok hPm fun N hN => ?_
    generalize hp : std Try.prog = p
    generalize hv : nvS = nv
    cbv
    subst hp
    subst hv
    subst hN
    have hr := Option.some.inj h
    subst hr
    try dsimp only [noGoto, inBlockQ, thenQ]
    repeat (first | refine (if_pos rfl).mpr ?_ | refine (if_neg (by decide)).mpr ?_)
    refine retQ_ret rfl ?_ ?_
    · exact trivial
    · exact rfl
  · refine Tr.pre (cx := ⟨tt0, ⟨fun f => kOf [] f, fun k _ _ _ => orcL [] k, fun t => memN [] t⟩, 0, fun r => ghL [] r⟩) tt0_ok hPm 1 fun N hN => ?_
    generalize hp : std Try.prog = p
    generalize hv : nvS = nv
    cbv
    subst hp
    subst hv
    subst hN
    show Tr _ _ _ _
    refine Tr.block ?_
    refine Tr.loopO (α := Int) (fun i t'2 => ⟨frm 37 [(1, .v (.int .i64 r')), (2, .bref 2 (t'2.g 2) 0), (5, .v (.int .i64 i))] 0, frO 37 [(2, .box (t'2.g 2) [.sl 3 (nvS.len t'.fL) false (fun i j => (D_lapwingref01_Row nvS (nvS.get d_lapwingref01_Row t'.fL i) j))])] 0, t'2.c⟩) (fun _ t => Hid.ok t) ⟨ctr + 11, gfn [(2, ctr + 0)], tfn [(2, false)]⟩ h ?_ ?_ (fun x t'2 f ht'2 h => ?_)
    · exact Hid.mk_ok (by omega) (And.intro (by omega)
          trivial)
    · exact GeSt.of (LeSt.frame (by show (_ : Nat) < _; (try dsimp only [std_eq, stdN]); omega) rfl rfl (And.intro ⟨_, rfl, LeD.refl _⟩
          (And.intro ⟨_, rfl, LeD.refl _⟩
          (And.intro ⟨_, rfl, LeD.refl _⟩
          trivial))) (And.intro ⟨_, rfl, LeOb.box (And.intro (LeD.refl _)
          trivial)⟩
          trivial))
    · revert h; revert ht'2; revert x; intro i ht'2 h
      obtain ⟨t'2_c, t'2_g, t'2_t⟩ := t'2
      have ht'2_c : 0 < t'2_c := ht'2.1
      have ht'2_g : ∀ k, t'2_g k < t'2_c := ht'2.2
      refine Tr.chunk (cx := ⟨tt0, ⟨fun f => kOf [] f, fun k _ _ _ => orcL [] k, fun t => memN [] t⟩, 0, fun r => ghL [] r⟩) tt0_ok hPm fun N hN => ?_
      generalize hp : std Try.prog = p
      generalize hv : nvS = nv
      cbv
      subst hp
      subst hv
      refine ⟨rfl, ?_⟩
      refine ⟨fun h25 => ?_, fun h25 => ?_⟩
      · replace h := iteO_t h h25
        replace h := chk_some h; obtain ⟨h26, h⟩ := h
        replace h := chk_some h; obtain ⟨h27, h⟩ := h
        refine ⟨rfl, h26, (fun hg => hg), (fun _ => rfl), (fun hg => hg), (fun hg => hg), h27, (fun hg => hg), (fun hg => hg), (fun hg => hg), (fun hg => hg), (fun hg => hg), ?_⟩
        refine ⟨fun h28 => ?_, fun h28 => ?_⟩
        · replace h := iteO_t h h28
          replace h := chk_some h; obtain ⟨h29, h⟩ := h
          refine ⟨rfl, h29, ?_⟩
          subst hN
          cases h
          intro he; cases he
          intro hr
          subst hr
          try dsimp only [noGoto, inBlockQ, thenQ]
          repeat (first | refine (if_pos rfl).mpr ?_ | refine (if_neg (by decide)).mpr ?_)
          refine retQ_ret rfl ?_ ?_
          · exact trivial
          · exact rfl
        · replace h := iteO_f h h28
          replace h := chk_some h; obtain ⟨h30, h⟩ := h
          refine ⟨h30, ?_⟩
          subst hN
          cases h
          show ∃ t', _ ∧ GeSt _ _ _
          refine ⟨⟨t'2_c + 12, gfn [(2, t'2_g 2)], tfn [(2, false)]⟩, Hid.mk_ok (by omega) (And.intro (by have := ht'2_g 2; omega)
              trivial), ?_⟩
          exact GeSt.of (LeSt.frame (by show (_ : Nat) < _; (try dsimp only [std_eq, stdN]); omega) rfl rfl (And.intro ⟨_, rfl, LeD.refl _⟩
              (And.intro ⟨_, rfl, LeD.refl _⟩
              (And.intro ⟨_, rfl, LeD.refl _⟩
              trivial))) (And.intro ⟨_, rfl, LeOb.box (And.intro (LeD.refl _)
              trivial)⟩
              trivial))
      · replace h := iteO_f h h25
        subst hN
        cases h
        intro he; cases he
        show ∃ t', _ ∧ GeSt _ _ _
        refine ⟨⟨t'2_c + 10, gfn [], tfn []⟩, Hid.mk_ok (by omega) trivial, ?_⟩
        exact GeSt.of (LeSt.frame (by show (_ : Nat) < _; (try dsimp only [std_eq, stdN]); omega) rfl rfl trivial trivial)

theorem lapwingref02_Class_ok (d' : T_lapwingref02_Data) (r' : Int) (r : Int) (h : lapwingref02_Class d' r' = some r) : PureFn Try.prog 29 [(.agg 6 (fun j => (D_lapwingref02_Data nvS d' j))), (.v (.int .i64 r'))] ((.v (.int .i64 r))) := by
  unfold lapwingref02_Class at h
  refine fn_tr tt0_ok Try.func29 (by kernel_rfl) (c := bodyOf Try.f29) (by kernel_rfl) ?_
  intro ctr hc
  obtain ⟨v, h1⟩ : ∃ v, valO 0 (lapwingref01_Get d'.fClass r') = v := ⟨_, rfl⟩
  refine Tr.chunk (cx := ⟨tt0, ⟨fun f => kOf [] f, fun k _ _ _ => orcL [(8, .plain (.v (.int .i64 v)))] k, fun t => memN [] t⟩, 0, fun r => ghL [] r⟩) tt0_ok hPm fun N hN => ?_
  generalize hp : std Try.prog = p
  generalize hv : nvS = nv
  cbv
  subst hp
  subst hv
  replace h := bindO_val h1 h; clear h1; obtain ⟨h1, h⟩ := h
  refine ⟨rfl, (Or.inl (PureFn.arg (lapwingref01_Get_ok d'.fClass r' v h1) (And.intro (LeD.agg fun j hj => by
        have hj2 : j < 1 := hj
        rcases (show j = 0 by omega) with rfl
        · exact LeD.refl _)
      (And.intro (LeD.refl _)
      trivial)))), ?_⟩
  subst hN
  have hr := Option.some.inj h
  subst hr
  try dsimp only [noGoto, inBlockQ, thenQ]
  repeat (first | refine (if_pos rfl).mpr ?_ | refine (if_neg (by decide)).mpr ?_)
  refine retQ_ret rfl ?_ ?_
  · exact trivial
  · exact rfl

theorem lapwingref02_Few_ok (d' : T_lapwingref02_Data) (r : Bool) (h : lapwingref02_Few d' = some r) : PureFn Try.prog 14 [(.agg 6 (fun j => (D_lapwingref02_Data nvS d' j)))] ((.v (.bool r))) := by
  unfold lapwingref02_Few at h
  refine fn_tr tt0_ok Try.func14 (by kernel_rfl) (c := bodyOf Try.f14) (by kernel_rfl) ?_
  intro ctr hc
  refine Tr.chunk (cx := ⟨tt0, ⟨fun f => kOf [] f, fun k _ _ _ => orcL [] k, fun t => memN [] t⟩, 0, fun r => ghL [] r⟩) tt0_ok hPm fun N hN => ?_
  generalize hp : std Try.prog = p
  generalize hv : nvS = nv
  cbv
  subst hp
  subst hv
  refine ⟨rfl, (fun hg => hg), (fun hg => hg), (fun _ => rfl), (fun hg => hg), (fun hg => hg), (fun hg => hg), (fun hg => hg), (fun hg => hg), (fun _ => rfl), (fun hg => hg), (fun hg => hg), (fun hg => hg), (fun hg => hg), (fun _ => rfl), (fun hg => hg), (fun hg => hg), (fun hg => hg), (fun hg => hg), (fun _ => rfl), (fun hg => hg), (fun hg => hg), (fun hg => hg), (fun hg => hg), (fun _ => rfl), (fun hg => hg), (fun hg => hg), (fun hg => hg), ?_⟩
  subst hN
  have hr := Option.some.inj h
  subst hr
  try dsimp only [noGoto, inBlockQ, thenQ]
  repeat (first | refine (if_pos rfl).mpr ?_ | refine (if_neg (by decide)).mpr ?_)
  refine retQ_ret rfl ?_ ?_
  · exact trivial
  · exact rfl

theorem lapwingref19_level_ok (n : Int) (r : Int) (h : lapwingref19_level n = some r) : PureFn Try.prog 24 [(.v (.int .i64 n))] ((.v (.int .i64 r))) := by
  unfold lapwingref19_level at h
  refine fn_tr tt0_ok Try.func24 (by kernel_rfl) (c := bodyOf Try.f24) (by kernel_rfl) ?_
  intro ctr hc
  refine Tr.chunk (cx := ⟨tt0, ⟨fun f => kOf [] f, fun k _ _ _ => orcL [] k, fun t => memN [] t⟩, 0, fun r => ghL [] r⟩) tt0_ok hPm fun N hN => ?_
  generalize hp : std Try.prog = p
  generalize hv : nvS = nv
  cbv
  subst hp
  subst hv
  subst hN
  have hr := Option.some.inj h
  subst hr
  try dsimp only [noGoto, inBlockQ, thenQ]
  repeat (first | refine (if_pos rfl).mpr ?_ | refine (if_neg (by decide)).mpr ?_)
  refine retQ_ret rfl ?_ ?_
  · exact trivial
  · exact rfl

theorem lapwingref19_Visual_ok (levels : (List Int)) (r : (List Int)) (h : lapwingref19_Visual levels = some r) : PureFn Try.prog 17 [(.sl 1 (nvS.len levels) false (fun i j => (.v (.int .i64 (nvS.get 0 levels i)))))] (.own 1 (nvS.len r) false (fun i j => (.v (.int .i64 (nvS.get 0 r i))))) := by
  unfold lapwingref19_Visual at h
  refine fn_tr tt0_ok Try.func17 (by kernel_rfl) (c := bodyOf Try.f17) (by kernel_rfl) ?_
  intro ctr hc
  refine Tr.pre (cx := ⟨tt0, ⟨fun f => kOf [] f, fun k _ _ _ => orcL [] k, fun t => memN [] t⟩, 0, fun r => ghL [] r⟩) tt0_ok hPm 3 fun N hN => ?_
  generalize hp : std Try.prog = p
  generalize hv : nvS = nv
  cbv
  subst hp
  subst hv
  subst hN
  show Tr _ _ _ _
  refine Tr.cutSeq (α := List Int) h (fun out t' => ⟨frm 85 [(0, .sl 1 (nvS.len levels) false (fun i j => (.v (.int .i64 (nvS.get 0 levels i))))), (3, .v (.int .i64 (nvS.len levels))), (4, .vec 21 (t'.g 21) 1 0 (nvS.len out))] 0, frO 85 [(21, .arr (t'.g 21) 1 (nvS.len out) (t'.t 21) (fun i j => (.v (.int .i64 (nvS.get 0 out i)))))] 0, t'.c⟩) (fun _ t => Hid.ok t) (fun x t' ht' h => ?_) (fun f h => ?_)
  · revert h; revert ht'; revert x; intro out ht' h
    obtain ⟨t'_c, t'_g, t'_t⟩ := t'
    have ht'_c : 0 < t'_c := ht'.1
    have ht'_g : ∀ k, t'_g k < t'_c := ht'.2
    refine Tr.cutSeq (α := List Int) h (fun out1 t'1 => ⟨frm 85 [(4, .vec 21 (t'1.g 21) 1 0 (nvS.len out))] 0, frO 85 [(21, .arr (t'1.g 21) 1 (nvS.len out) (t'1.t 21) (fun i j => (.v (.int .i64 (nvS.get 0 out1 i)))))] 0, t'1.c⟩) (fun out1 t => Hid.ok t ∧ lenL out1 = (lenL out)) (fun x t'1 ht'1 h => ?_) (fun f h => ?_)
    · revert h; revert ht'1; revert x; intro out1 ht'1 h
      obtain ⟨ht'1, ht'1_f0⟩ := ht'1
      obtain ⟨t'1_c, t'1_g, t'1_t⟩ := t'1
      have ht'1_c : 0 < t'1_c := ht'1.1
      have ht'1_g : ∀ k, t'1_g k < t'1_c := ht'1.2
      refine Tr.chunk (cx := ⟨tt0, ⟨fun f => kOf [] f, fun k _ _ _ => orcL [] k, fun t => memN [] t⟩, 0, fun r => ghL [] r⟩) tt0_ok hPm fun N hN => ?_
      generalize hp : std Try.prog = p
      generalize hv : nvS = nv
      cbv
      subst hp
      subst hv
      subst hN
      have hr := Option.some.inj h
      subst hr
      try dsimp only [noGoto, inBlockQ, thenQ]
      repeat (first | refine (if_pos rfl).mpr ?_ | refine (if_neg (by decide)).mpr ?_)
      refine retQ_ret rfl ?_ ?_
      · exact trivial
      · exact (And.intro (rfl)
            (And.intro (by first | rfl | assumption | (symm; assumption) | ((try dsimp only [std_eq, stdN, nvS]) <;> first | rfl | omega | (simp (disch := first | omega | (simp only [lenL_set, lenL_app, lenL_cons, lenL_nil] <;> omega)) only [lenL_bytes, lenL_set, lenL_app, lenL_cons, lenL_nil, lenL_rep, lenL_sub, lenL_cpy, Int.ofNat_eq_natCast, Int.zero_add, Int.sub_zero] <;> try omega)))
            (And.intro (fun h => by cases h)
            (out0_all (fun i j => out0_int _ _) (fun i i0 i1 j hj => by (try dsimp only [std_eq, stdN, nvS] at i1); (try simp only [Int.ofNat_eq_natCast] at i1); (obtain rfl : j = 0 := (by omega)) <;> (conv => lhs; whnf) <;> (conv => rhs; whnf) <;> (try dsimp only [std_eq, stdN, nvS]) <;> (first | rfl | (simp (disch := first | omega | (simp only [lenL_set, lenL_app, lenL_cons, lenL_nil] <;> omega)) only [getL_bytes, getL_put, getL_app, getL_rep, getL_sub, getL_cpy, Int.zero_add, Int.sub_zero, beq_iff_eq, decide_eq_true_eq, Bool.and_eq_true] <;> first | rfl | (split <;> first | rfl | (simp (disch := first | omega | (simp only [lenL_set, lenL_app, lenL_cons, lenL_nil] <;> omega)) only [getL_one, getL_zero] <;> rfl)) | ((simp only [lenL_app, lenL_cons, lenL_nil, Int.ofNat_eq_natCast]) <;> (repeat' split) <;> first | rfl | (exfalso; omega) | (simp (disch := omega) only [getL_one, getL_zero] <;> rfl) | (congr 3; omega)))))))))
    · refine Tr.pre (cx := ⟨tt0, ⟨fun f => kOf [] f, fun k _ _ _ => orcL [] k, fun t => memN [] t⟩, 0, fun r => ghL [] r⟩) tt0_ok hPm 1 fun N hN => ?_
      generalize hp : std Try.prog = p
      generalize hv : nvS = nv
      cbv
      subst hp
      subst hv
      subst hN
      show Tr _ _ _ _
      refine Tr.block ?_
      refine Tr.loopO (α := Int × List Int) (fun (at', out2) t'2 => ⟨frm 85 [(0, .sl 1 (nvS.len levels) false (fun i j => (.v (.int .i64 (nvS.get 0 levels i))))), (3, .v (.int .i64 (nvS.len levels))), (4, .vec 21 (t'2.g 21) 1 0 (nvS.len out)), (6, .v (.int .i64 at'))] 0, frO 85 [(21, .arr (t'2.g 21) 1 (nvS.len out) (t'2.t 21) (fun i j => (.v (.int .i64 (nvS.get 0 out2 i)))))] 0, t'2.c⟩) (fun (at', out2) t => Hid.ok t ∧ lenL out2 = (lenL out)) ⟨t'_c + 10, gfn [(21, t'_g 21)], tfn [(21, t'_t 21)]⟩ h ?_ ?_ (fun x t'2 f ht'2 h => ?_)
      · exact (And.intro (Hid.mk_ok (by omega) (And.intro (by have := ht'_g 21; omega)
            trivial))
            (by first | rfl | assumption | (symm; assumption) | ((try dsimp only [std_eq, stdN, nvS]) <;> first | rfl | omega | (simp (disch := first | omega | (simp only [lenL_set, lenL_app, lenL_cons, lenL_nil] <;> omega)) only [lenL_bytes, lenL_set, lenL_app, lenL_cons, lenL_nil, lenL_rep, lenL_sub, lenL_cpy, Int.ofNat_eq_natCast, Int.zero_add, Int.sub_zero] <;> try omega))))
      · exact GeSt.of (LeSt.frame (by show (_ : Nat) < _; (try dsimp only [std_eq, stdN]); omega) rfl rfl (And.intro ⟨_, rfl, LeD.refl _⟩
            (And.intro ⟨_, rfl, LeD.refl _⟩
            (And.intro ⟨_, rfl, LeD.refl _⟩
            (And.intro ⟨_, rfl, LeD.refl _⟩
            trivial)))) (And.intro ⟨_, rfl, LeOb.refl _⟩
            trivial))
      · obtain ⟨at', out2⟩ := x
        obtain ⟨ht'2, ht'2_f0⟩ := ht'2
        obtain ⟨t'2_c, t'2_g, t'2_t⟩ := t'2
        have ht'2_c : 0 < t'2_c := ht'2.1
        have ht'2_g : ∀ k, t'2_g k < t'2_c := ht'2.2
        refine Tr.pre (cx := ⟨tt0, ⟨fun f => kOf [] f, fun k _ _ _ => orcL [] k, fun t => memN [] t⟩, 0, fun r => ghL [] r⟩) tt0_ok hPm 1 fun N hN => ?_
        generalize hp : std Try.prog = p
        generalize hv : nvS = nv
        cbv
        subst hp
        subst hv
        refine ⟨fun h351 => ?_, fun h351 => ?_⟩
        · replace h := iteO_t h h351
          subst hN
          show Tr _ _ _ _
          refine Tr.cutSeq (α := List Int) h (fun out3 t'3 => ⟨frm 85 [(0, .sl 1 (nvS.len levels) false (fun i j => (.v (.int .i64 (nvS.get 0 levels i))))), (3, .v (.int .i64 (nvS.len levels))), (4, .vec 21 (t'3.g 21) 1 0 (nvS.len out)), (6, .v (.int .i64 at'))] 0, frO 85 [(21, .arr (t'3.g 21) 1 (nvS.len out) (t'3.t 21) (fun i j => (.v (.int .i64 (nvS.get 0 out3 i)))))] 0, t'3.c⟩) (fun out3 t => Hid.ok t ∧ lenL out3 = (lenL out)) (fun x t'3 ht'3 h => ?_) (fun f h => ?_)
          · revert h; revert ht'3; revert x; intro out3 ht'3 h
            obtain ⟨ht'3, ht'3_f0⟩ := ht'3
            obtain ⟨t'3_c, t'3_g, t'3_t⟩ := t'3
            have ht'3_c : 0 < t'3_c := ht'3.1
            have ht'3_g : ∀ k, t'3_g k < t'3_c := ht'3.2
            refine Tr.chunk (cx := ⟨tt0, ⟨fun f => kOf [] f, fun k _ _ _ => orcL [] k, fun t => memN [] t⟩, 0, fun r => ghL [] r⟩) tt0_ok hPm fun N hN => ?_
            generalize hp : std Try.prog = p
            generalize hv : nvS = nv
            cbv
            subst hp
            subst hv
            replace h := chk_some h; obtain ⟨h436, h⟩ := h
            refine ⟨h436, ?_⟩
            subst hN
            cases h
            show ∃ t', _ ∧ GeSt _ _ _
            refine ⟨⟨t'3_c + 10, gfn [(21, t'3_g 21)], tfn [(21, t'3_t 21)]⟩, (And.intro (Hid.mk_ok (by omega) (And.intro (by have := ht'3_g 21; omega)
                trivial))
                (by first | rfl | assumption | (symm; assumption) | ((try dsimp only [std_eq, stdN, nvS]) <;> first | rfl | omega | (simp (disch := first | omega | (simp only [lenL_set, lenL_app, lenL_cons, lenL_nil] <;> omega)) only [lenL_bytes, lenL_set, lenL_app, lenL_cons, lenL_nil, lenL_rep, lenL_sub, lenL_cpy, Int.ofNat_eq_natCast, Int.zero_add, Int.sub_zero] <;> try omega)))), ?_⟩
            exact GeSt.of (LeSt.frame (by show (_ : Nat) < _; (try dsimp only [std_eq, stdN]); omega) rfl rfl (And.intro ⟨_, rfl, LeD.refl _⟩
                (And.intro ⟨_, rfl, LeD.refl _⟩
                (And.intro ⟨_, rfl, LeD.refl _⟩
                (And.intro ⟨_, rfl, LeD.refl _⟩
                trivial)))) (And.intro ⟨_, rfl, LeOb.refl _⟩
                trivial))
          · refine Tr.block ?_
            refine Tr.pre (cx := ⟨tt0, ⟨fun f => kOf [] f, fun k _ _ _ => orcL [] k, fun t => memN [] t⟩, 0, fun r => ghL [] r⟩) tt0_ok hPm 1 fun N hN => ?_
            generalize hp : std Try.prog = p
            generalize hv : nvS = nv
            cbv
            subst hp
            subst hv
            subst hN
            show Tr _ _ _ _
            refine Tr.block ?_
            refine Tr.loopO (α := Int × List Int) (fun (i, out4) t'4 => ⟨frm 85 [(0, .sl 1 (nvS.len levels) false (fun i j => (.v (.int .i64 (nvS.get 0 levels i))))), (3, .v (.int .i64 (nvS.len levels))), (4, .vec 21 (t'4.g 21) 1 0 (nvS.len out)), (6, .v (.int .i64 at')), (7, .v (.int .i64 i))] 0, frO 85 [(21, .arr (t'4.g 21) 1 (nvS.len out) (t'4.t 21) (fun i j => (.v (.int .i64 (nvS.get 0 out4 i)))))] 0, t'4.c⟩) (fun (i, out4) t => Hid.ok t ∧ lenL out4 = (lenL out)) ⟨t'2_c + 11, gfn [(21, t'2_g 21)], tfn [(21, t'2_t 21)]⟩ h ?_ ?_ (fun x t'4 f ht'4 h => ?_)
            · exact (And.intro (Hid.mk_ok (by omega) (And.intro (by have := ht'2_g 21; omega)
                  trivial))
                  (by first | rfl | assumption | (symm; assumption) | ((try dsimp only [std_eq, stdN, nvS]) <;> first | rfl | omega | (simp (disch := first | omega | (simp only [lenL_set, lenL_app, lenL_cons, lenL_nil] <;> omega)) only [lenL_bytes, lenL_set, lenL_app, lenL_cons, lenL_nil, lenL_rep, lenL_sub, lenL_cpy, Int.ofNat_eq_natCast, Int.zero_add, Int.sub_zero] <;> try omega))))
            · exact GeSt.of (LeSt.frame (by show (_ : Nat) < _; (try dsimp only [std_eq, stdN]); omega) rfl rfl (And.intro ⟨_, rfl, LeD.refl _⟩
                  (And.intro ⟨_, rfl, LeD.refl _⟩
                  (And.intro ⟨_, rfl, LeD.refl _⟩
                  (And.intro ⟨_, rfl, LeD.refl _⟩
                  (And.intro ⟨_, rfl, LeD.refl _⟩
                  trivial))))) (And.intro ⟨_, rfl, LeOb.refl _⟩
                  trivial))
            · obtain ⟨i, out4⟩ := x
              obtain ⟨ht'4, ht'4_f0⟩ := ht'4
              obtain ⟨t'4_c, t'4_g, t'4_t⟩ := t'4
              have ht'4_c : 0 < t'4_c := ht'4.1
              have ht'4_g : ∀ k, t'4_g k < t'4_c := ht'4.2
              refine Tr.pre (cx := ⟨tt0, ⟨fun f => kOf [] f, fun k _ _ _ => orcL [] k, fun t => memN [] t⟩, 0, fun r => ghL [] r⟩) tt0_ok hPm 1 fun N hN => ?_
              generalize hp : std Try.prog = p
              generalize hv : nvS = nv
              cbv
              subst hp
              subst hv
              refine ⟨fun h521 => ?_, fun h521 => ?_⟩
              · replace h := iteO_t h h521
                subst hN
                show Tr _ _ _ _
                refine Tr.block ?_
                refine Tr.pre (cx := ⟨tt0, ⟨fun f => kOf [] f, fun k _ _ _ => orcL [] k, fun t => memN [] t⟩, 0, fun r => ghL [] r⟩) tt0_ok hPm 1 fun N hN => ?_
                generalize hp : std Try.prog = p
                generalize hv : nvS = nv
                cbv
                subst hp
                subst hv
                subst hN
                show Tr _ _ _ _
                refine Tr.cutSeq (α := Int) h (fun end' t'5 => ⟨frm 85 [(0, .sl 1 (nvS.len levels) false (fun i j => (.v (.int .i64 (nvS.get 0 levels i))))), (3, .v (.int .i64 (nvS.len levels))), (4, .vec 21 (t'5.g 21) 1 0 (nvS.len out)), (6, .v (.int .i64 at')), (7, .v (.int .i64 i)), (8, .v (.int .i64 end'))] 0, frO 85 [(21, .arr (t'5.g 21) 1 (nvS.len out) (t'5.t 21) (fun i j => (.v (.int .i64 (nvS.get 0 out4 i)))))] 0, t'5.c⟩) (fun _ t => Hid.ok t) (fun x t'5 ht'5 h => ?_) (fun f h => ?_)
                · revert h; revert ht'5; revert x; intro end' ht'5 h
                  obtain ⟨t'5_c, t'5_g, t'5_t⟩ := t'5
                  have ht'5_c : 0 < t'5_c := ht'5.1
                  have ht'5_g : ∀ k, t'5_g k < t'5_c := ht'5.2
                  refine Tr.cutSeq (α := List Int) h (fun out5 t'6 => ⟨frm 85 [(0, .sl 1 (nvS.len levels) false (fun i j => (.v (.int .i64 (nvS.get 0 levels i))))), (3, .v (.int .i64 (nvS.len levels))), (4, .vec 21 (t'6.g 21) 1 0 (nvS.len out)), (6, .v (.int .i64 at')), (7, .v (.int .i64 i)), (8, .v (.int .i64 end'))] 0, frO 85 [(21, .arr (t'6.g 21) 1 (nvS.len out) (t'6.t 21) (fun i j => (.v (.int .i64 (nvS.get 0 out5 i)))))] 0, t'6.c⟩) (fun out5 t => Hid.ok t ∧ lenL out5 = (lenL out)) (fun x t'6 ht'6 h => ?_) (fun f h => ?_)
                  · revert h; revert ht'6; revert x; intro out5 ht'6 h
                    obtain ⟨ht'6, ht'6_f0⟩ := ht'6
                    obtain ⟨t'6_c, t'6_g, t'6_t⟩ := t'6
                    have ht'6_c : 0 < t'6_c := ht'6.1
                    have ht'6_g : ∀ k, t'6_g k < t'6_c := ht'6.2
                    refine Tr.chunk (cx := ⟨tt0, ⟨fun f => kOf [] f, fun k _ _ _ => orcL [] k, fun t => memN [] t⟩, 0, fun r => ghL [] r⟩) tt0_ok hPm fun N hN => ?_
                    generalize hp : std Try.prog = p
                    generalize hv : nvS = nv
                    cbv
                    subst hp
                    subst hv
                    replace h := chk_some h; obtain ⟨h562, h⟩ := h
                    refine ⟨h562, ?_⟩
                    subst hN
                    cases h
                    show ∃ t', _ ∧ GeSt _ _ _
                    refine ⟨⟨t'6_c + 10, gfn [(21, t'6_g 21)], tfn [(21, t'6_t 21)]⟩, (And.intro (Hid.mk_ok (by omega) (And.intro (by have := ht'6_g 21; omega)
                        trivial))
                        (by first | rfl | assumption | (symm; assumption) | ((try dsimp only [std_eq, stdN, nvS]) <;> first | rfl | omega | (simp (disch := first | omega | (simp only [lenL_set, lenL_app, lenL_cons, lenL_nil] <;> omega)) only [lenL_bytes, lenL_set, lenL_app, lenL_cons, lenL_nil, lenL_rep, lenL_sub, lenL_cpy, Int.ofNat_eq_natCast, Int.zero_add, Int.sub_zero] <;> try omega)))), ?_⟩
                    exact GeSt.of (LeSt.frame (by show (_ : Nat) < _; (try dsimp only [std_eq, stdN]); omega) rfl rfl (And.intro ⟨_, rfl, LeD.refl _⟩
                        (And.intro ⟨_, rfl, LeD.refl _⟩
                        (And.intro ⟨_, rfl, LeD.refl _⟩
                        (And.intro ⟨_, rfl, LeD.refl _⟩
                        (And.intro ⟨_, rfl, LeD.refl _⟩
                        trivial))))) (And.intro ⟨_, rfl, LeOb.refl _⟩
                        trivial))
                  · refine Tr.pre (cx := ⟨tt0, ⟨fun f => kOf [] f, fun k _ _ _ => orcL [] k, fun t => memN [] t⟩, 0, fun r => ghL [] r⟩) tt0_ok hPm 1 fun N hN => ?_
                    generalize hp : std Try.prog = p
                    generalize hv : nvS = nv
                    cbv
                    subst hp
                    subst hv
                    subst hN
                    show Tr _ _ _ _
                    refine Tr.block ?_
                    refine Tr.loopO (α := Int × List Int) (fun (k', out6) t'7 => ⟨frm 85 [(0, .sl 1 (nvS.len levels) false (fun i j => (.v (.int .i64 (nvS.get 0 levels i))))), (3, .v (.int .i64 (nvS.len levels))), (4, .vec 21 (t'7.g 21) 1 0 (nvS.len out)), (6, .v (.int .i64 at')), (7, .v (.int .i64 i)), (8, .v (.int .i64 end')), (9, .v (.int .i64 k'))] 0, frO 85 [(21, .arr (t'7.g 21) 1 (nvS.len out) (t'7.t 21) (fun i j => (.v (.int .i64 (nvS.get 0 out6 i)))))] 0, t'7.c⟩) (fun (k', out6) t => Hid.ok t ∧ lenL out6 = (lenL out)) ⟨t'5_c + 10, gfn [(21, t'5_g 21)], tfn [(21, t'5_t 21)]⟩ h ?_ ?_ (fun x t'7 f ht'7 h => ?_)
                    · exact (And.intro (Hid.mk_ok (by omega) (And.intro (by have := ht'5_g 21; omega)
                          trivial))
                          (by first | rfl | assumption | (symm; assumption) | ((try dsimp only [std_eq, stdN, nvS]) <;> first | rfl | omega | (simp (disch := first | omega | (simp only [lenL_set, lenL_app, lenL_cons, lenL_nil] <;> omega)) only [lenL_bytes, lenL_set, lenL_app, lenL_cons, lenL_nil, lenL_rep, lenL_sub, lenL_cpy, Int.ofNat_eq_natCast, Int.zero_add, Int.sub_zero] <;> try omega))))
                    · exact GeSt.of (LeSt.frame (by show (_ : Nat) < _; (try dsimp only [std_eq, stdN]); omega) rfl rfl (And.intro ⟨_, rfl, LeD.refl _⟩
                          (And.intro ⟨_, rfl, LeD.refl _⟩
                          (And.intro ⟨_, rfl, LeD.refl _⟩
                          (And.intro ⟨_, rfl, LeD.refl _⟩
                          (And.intro ⟨_, rfl, LeD.refl _⟩
                          (And.intro ⟨_, rfl, LeD.refl _⟩
                          (And.intro ⟨_, rfl, LeD.refl _⟩
                          trivial))))))) (And.intro ⟨_, rfl, LeOb.refl _⟩
                          trivial))
                    · obtain ⟨k', out6⟩ := x
                      obtain ⟨ht'7, ht'7_f0⟩ := ht'7
                      obtain ⟨t'7_c, t'7_g, t'7_t⟩ := t'7
                      have ht'7_c : 0 < t'7_c := ht'7.1
                      have ht'7_g : ∀ k, t'7_g k < t'7_c := ht'7.2
                      refine Tr.chunk (cx := ⟨tt0, ⟨fun f => kOf [] f, fun k _ _ _ => orcL [] k, fun t => memN [] t⟩, 0, fun r => ghL [] r⟩) tt0_ok hPm fun N hN => ?_
                      generalize hp : std Try.prog = p
                      generalize hv : nvS = nv
                      cbv
                      subst hp
                      subst hv
                      replace h := chk_some h; obtain ⟨h593, h⟩ := h
                      replace h := chk_some h; obtain ⟨h594, h⟩ := h
                      replace h := chk_some h; obtain ⟨h595, h⟩ := h
                      refine ⟨h593, h594, h595, ?_⟩
                      refine ⟨fun h596 => ?_, fun h596 => ?_⟩
                      · replace h := iteO_t h h596
                        replace h := chk_some h; obtain ⟨h597, h⟩ := h
                        replace h := chk_some h; obtain ⟨h598, h⟩ := h
                        refine ⟨h597, h598, rfl, ?_⟩
                        replace h := chk_some h; obtain ⟨h599, h⟩ := h
                        replace h := chk_some h; obtain ⟨h600, h⟩ := h
                        replace h := chk_some h; obtain ⟨h601, h⟩ := h
                        replace h := chk_some h; obtain ⟨h602, h⟩ := h
                        replace h := chk_some h; obtain ⟨h603, h⟩ := h
                        refine ⟨h599, h600, h601, h602, rfl, h603, rfl, ?_⟩
                        replace h := chk_some h; obtain ⟨h604, h⟩ := h
                        replace h := chk_some h; obtain ⟨h605, h⟩ := h
                        replace h := chk_some h; obtain ⟨h606, h⟩ := h
                        refine ⟨h604, h605, h606, rfl, ?_⟩
                        replace h := chk_some h; obtain ⟨h607, h⟩ := h
                        refine ⟨h607, ?_⟩
                        subst hN
                        cases h
                        show ∃ t', _ ∧ GeSt _ _ _
                        refine ⟨⟨t'7_c + 14, gfn [(21, t'7_g 21)], tfn [(21, t'7_t 21)]⟩, (And.intro (Hid.mk_ok (by omega) (And.intro (by have := ht'7_g 21; omega)
                            trivial))
                            (by first | rfl | assumption | (symm; assumption) | ((try dsimp only [std_eq, stdN, nvS]) <;> first | rfl | omega | (simp (disch := first | omega | (simp only [lenL_set, lenL_app, lenL_cons, lenL_nil] <;> omega)) only [lenL_bytes, lenL_set, lenL_app, lenL_cons, lenL_nil, lenL_rep, lenL_sub, lenL_cpy, Int.ofNat_eq_natCast, Int.zero_add, Int.sub_zero] <;> try omega)))), ?_⟩
                        exact GeSt.of (LeSt.frame (by show (_ : Nat) < _; (try dsimp only [std_eq, stdN]); omega) rfl rfl (And.intro ⟨_, rfl, LeD.refl _⟩
                            (And.intro ⟨_, rfl, LeD.refl _⟩
                            (And.intro ⟨_, rfl, LeD.refl _⟩
                            (And.intro ⟨_, rfl, LeD.refl _⟩
                            (And.intro ⟨_, rfl, LeD.refl _⟩
                            (And.intro ⟨_, rfl, LeD.refl _⟩
                            (And.intro ⟨_, rfl, LeD.refl _⟩
                            trivial))))))) (And.intro ⟨_, rfl, LeOb.arrE (by first | rfl | assumption | (symm; assumption) | ((try dsimp only [std_eq, stdN, nvS]) <;> first | rfl | omega | (simp (disch := first | omega | (simp only [lenL_set, lenL_app, lenL_cons, lenL_nil] <;> omega)) only [lenL_bytes, lenL_set, lenL_app, lenL_cons, lenL_nil, lenL_rep, lenL_sub, lenL_cpy, Int.ofNat_eq_natCast, Int.zero_add, Int.sub_zero] <;> try omega))) (fun i i0 i1 j hj => by (try dsimp only [std_eq, stdN, nvS] at i1); (try simp only [Int.ofNat_eq_natCast] at i1); (obtain rfl : j = 0 := (by omega)) <;> (conv => lhs; whnf) <;> (conv => rhs; whnf) <;> (try dsimp only [std_eq, stdN, nvS]) <;> (first | rfl | (simp (disch := first | omega | (simp only [lenL_set, lenL_app, lenL_cons, lenL_nil] <;> omega)) only [getL_bytes, getL_put, getL_app, getL_rep, getL_sub, getL_cpy, Int.zero_add, Int.sub_zero, beq_iff_eq, decide_eq_true_eq, Bool.and_eq_true] <;> first | rfl | (split <;> first | rfl | (simp (disch := first | omega | (simp only [lenL_set, lenL_app, lenL_cons, lenL_nil] <;> omega)) only [getL_one, getL_zero] <;> rfl)) | ((simp only [lenL_app, lenL_cons, lenL_nil, Int.ofNat_eq_natCast]) <;> (repeat' split) <;> first | rfl | (exfalso; omega) | (simp (disch := omega) only [getL_one, getL_zero] <;> rfl) | (congr 3; omega)))))⟩
                            trivial))
                      · replace h := iteO_f h h596
                        subst hN
                        cases h
                        intro he; cases he
                        show ∃ t', _ ∧ GeSt _ _ _
                        refine ⟨⟨t'7_c + 10, gfn [(21, t'7_g 21)], tfn [(21, t'7_t 21)]⟩, (And.intro (Hid.mk_ok (by omega) (And.intro (by have := ht'7_g 21; omega)
                            trivial))
                            (by first | rfl | assumption | (symm; assumption) | ((try dsimp only [std_eq, stdN, nvS]) <;> first | rfl | omega | (simp (disch := first | omega | (simp only [lenL_set, lenL_app, lenL_cons, lenL_nil] <;> omega)) only [lenL_bytes, lenL_set, lenL_app, lenL_cons, lenL_nil, lenL_rep, lenL_sub, lenL_cpy, Int.ofNat_eq_natCast, Int.zero_add, Int.sub_zero] <;> try omega)))), ?_⟩
                        exact GeSt.of (LeSt.frame (by show (_ : Nat) < _; (try dsimp only [std_eq, stdN]); omega) rfl rfl (And.intro ⟨_, rfl, LeD.refl _⟩
                            (And.intro ⟨_, rfl, LeD.refl _⟩
                            (And.intro ⟨_, rfl, LeD.refl _⟩
                            (And.intro ⟨_, rfl, LeD.refl _⟩
                            (And.intro ⟨_, rfl, LeD.refl _⟩
                            (And.intro ⟨_, rfl, LeD.refl _⟩
                            trivial)))))) (And.intro ⟨_, rfl, LeOb.refl _⟩
                            trivial))
                · refine Tr.block ?_
                  refine Tr.loopO (α := Int) (fun end'1 t'8 => ⟨frm 85 [(0, .sl 1 (nvS.len levels) false (fun i j => (.v (.int .i64 (nvS.get 0 levels i))))), (3, .v (.int .i64 (nvS.len levels))), (4, .vec 21 (t'8.g 21) 1 0 (nvS.len out)), (6, .v (.int .i64 at')), (7, .v (.int .i64 i)), (8, .v (.int .i64 end'1))] 0, frO 85 [(21, .arr (t'8.g 21) 1 (nvS.len out) (t'8.t 21) (fun i j => (.v (.int .i64 (nvS.get 0 out4 i)))))] 0, t'8.c⟩) (fun _ t => Hid.ok t) ⟨t'4_c + 11, gfn [(21, t'4_g 21)], tfn [(21, t'4_t 21)]⟩ h ?_ ?_ (fun x t'8 f ht'8 h => ?_)
                  · exact Hid.mk_ok (by omega) (And.intro (by have := ht'4_g 21; omega)
                        trivial)
                  · exact GeSt.of (LeSt.frame (by show (_ : Nat) < _; (try dsimp only [std_eq, stdN]); omega) rfl rfl (And.intro ⟨_, rfl, LeD.refl _⟩
                        (And.intro ⟨_, rfl, LeD.refl _⟩
                        (And.intro ⟨_, rfl, LeD.refl _⟩
                        (And.intro ⟨_, rfl, LeD.refl _⟩
                        (And.intro ⟨_, rfl, LeD.refl _⟩
                        (And.intro ⟨_, rfl, LeD.refl _⟩
                        trivial)))))) (And.intro ⟨_, rfl, LeOb.refl _⟩
                        trivial))
                  · revert h; revert ht'8; revert x; intro end'1 ht'8 h
                    obtain ⟨t'8_c, t'8_g, t'8_t⟩ := t'8
                    have ht'8_c : 0 < t'8_c := ht'8.1
                    have ht'8_g : ∀ k, t'8_g k < t'8_c := ht'8.2
                    obtain ⟨v, h620⟩ : ∃ v, valO 0 (if (decide (end'1 < (lenL levels))) = true then lapwingref19_level (getL 0 levels (getL 0 out4 (0 + end'1))) else some 0) = v := ⟨_, rfl⟩
                    refine Tr.chunk (cx := ⟨tt0, ⟨fun f => kOf [] f, fun k _ _ _ => orcL [(41, .plain (.v (.int .i64 v)))] k, fun t => memN [] t⟩, 0, fun r => ghL [] r⟩) tt0_ok hPm fun N hN => ?_
                    generalize hp : std Try.prog = p
                    generalize hv : nvS = nv
                    cbv
                    subst hp
                    subst hv
                    replace h := chk_some h; obtain ⟨h618, h⟩ := h
                    replace h := chk_some h; obtain ⟨h619, h⟩ := h
                    replace h := bindO_val h620 h; clear h620; obtain ⟨h620, h⟩ := h
                    refine ⟨(fun hg => hg), (fun hg => hg), h618, (fun hg => hg), (fun _ => rfl), (fun hg => hg), (fun hg => hg), h619, (fun hg => hg), (fun hg => hg), (fun hg => by have h620 := guardO h620 hg; have h618 := h618 hg; have h619 := h619 hg; exact (Or.inl (PureFn.arg (lapwingref19_level_ok (getL 0 levels (getL 0 out4 (0 + end'1))) v h620) (And.intro (LeD.refl _)
                        trivial)))), (fun hg => hg), (fun hg => hg), (fun hg => hg), ?_⟩
                    refine ⟨fun h621 => ?_, fun h621 => ?_⟩
                    · replace h := iteO_t h h621
                      replace h := chk_some h; obtain ⟨h622, h⟩ := h
                      refine ⟨h622, ?_⟩
                      subst hN
                      cases h
                      show ∃ t', _ ∧ GeSt _ _ _
                      refine ⟨⟨t'8_c + 11, gfn [(21, t'8_g 21)], tfn [(21, t'8_t 21)]⟩, Hid.mk_ok (by omega) (And.intro (by have := ht'8_g 21; omega)
                          trivial), ?_⟩
                      exact GeSt.of (LeSt.frame (by show (_ : Nat) < _; (try dsimp only [std_eq, stdN]); omega) rfl rfl (And.intro ⟨_, rfl, LeD.refl _⟩
                          (And.intro ⟨_, rfl, LeD.refl _⟩
                          (And.intro ⟨_, rfl, LeD.refl _⟩
                          (And.intro ⟨_, rfl, LeD.refl _⟩
                          (And.intro ⟨_, rfl, LeD.refl _⟩
                          (And.intro ⟨_, rfl, LeD.refl _⟩
                          trivial)))))) (And.intro ⟨_, rfl, LeOb.refl _⟩
                          trivial))
                    · replace h := iteO_f h h621
                      subst hN
                      cases h
                      intro he; cases he
                      show ∃ t', _ ∧ GeSt _ _ _
                      refine ⟨⟨t'8_c + 10, gfn [(21, t'8_g 21)], tfn [(21, t'8_t 21)]⟩, Hid.mk_ok (by omega) (And.intro (by have := ht'8_g 21; omega)
                          trivial), ?_⟩
                      exact GeSt.of (LeSt.frame (by show (_ : Nat) < _; (try dsimp only [std_eq, stdN]); omega) rfl rfl (And.intro ⟨_, rfl, LeD.refl _⟩
                          (And.intro ⟨_, rfl, LeD.refl _⟩
                          (And.intro ⟨_, rfl, LeD.refl _⟩
                          (And.intro ⟨_, rfl, LeD.refl _⟩
                          (And.intro ⟨_, rfl, LeD.refl _⟩
                          (And.intro ⟨_, rfl, LeD.refl _⟩
                          trivial)))))) (And.intro ⟨_, rfl, LeOb.refl _⟩
                          trivial))
              · replace h := iteO_f h h521
                subst hN
                cases h
                intro he; cases he
                show ∃ t', _ ∧ GeSt _ _ _
                refine ⟨⟨t'4_c + 10, gfn [(21, t'4_g 21)], tfn [(21, t'4_t 21)]⟩, (And.intro (Hid.mk_ok (by omega) (And.intro (by have := ht'4_g 21; omega)
                    trivial))
                    (by first | rfl | assumption | (symm; assumption) | ((try dsimp only [std_eq, stdN, nvS]) <;> first | rfl | omega | (simp (disch := first | omega | (simp only [lenL_set, lenL_app, lenL_cons, lenL_nil] <;> omega)) only [lenL_bytes, lenL_set, lenL_app, lenL_cons, lenL_nil, lenL_rep, lenL_sub, lenL_cpy, Int.ofNat_eq_natCast, Int.zero_add, Int.sub_zero] <;> try omega)))), ?_⟩
                exact GeSt.of (LeSt.frame (by show (_ : Nat) < _; (try dsimp only [std_eq, stdN]); omega) rfl rfl (And.intro ⟨_, rfl, LeD.refl _⟩
                    (And.intro ⟨_, rfl, LeD.refl _⟩
                    (And.intro ⟨_, rfl, LeD.refl _⟩
                    (And.intro ⟨_, rfl, LeD.refl _⟩
                    trivial)))) (And.intro ⟨_, rfl, LeOb.refl _⟩
                    trivial))
        · replace h := iteO_f h h351
          subst hN
          cases h
          intro he; cases he
          show ∃ t', _ ∧ GeSt _ _ _
          refine ⟨⟨t'2_c + 10, gfn [(21, t'2_g 21)], tfn [(21, t'2_t 21)]⟩, (And.intro (Hid.mk_ok (by omega) (And.intro (by have := ht'2_g 21; omega)
              trivial))
              (by first | rfl | assumption | (symm; assumption) | ((try dsimp only [std_eq, stdN, nvS]) <;> first | rfl | omega | (simp (disch := first | omega | (simp only [lenL_set, lenL_app, lenL_cons, lenL_nil] <;> omega)) only [lenL_bytes, lenL_set, lenL_app, lenL_cons, lenL_nil, lenL_rep, lenL_sub, lenL_cpy, Int.ofNat_eq_natCast, Int.zero_add, Int.sub_zero] <;> try omega)))), ?_⟩
          exact GeSt.of (LeSt.frame (by show (_ : Nat) < _; (try dsimp only [std_eq, stdN]); omega) rfl rfl (And.intro ⟨_, rfl, LeD.refl _⟩
              trivial) (And.intro ⟨_, rfl, LeOb.refl _⟩
              trivial))
  · refine Tr.pre (cx := ⟨tt0, ⟨fun f => kOf [] f, fun k _ _ _ => orcL [] k, fun t => memN [] t⟩, 0, fun r => ghL [] r⟩) tt0_ok hPm 1 fun N hN => ?_
    generalize hp : std Try.prog = p
    generalize hv : nvS = nv
    cbv
    subst hp
    subst hv
    subst hN
    show Tr _ _ _ _
    refine Tr.block ?_
    refine Tr.loopO (α := Int × List Int) (fun (i2, out7) t'9 => ⟨frm 85 [(0, .sl 1 (nvS.len levels) false (fun i j => (.v (.int .i64 (nvS.get 0 levels i))))), (3, .v (.int .i64 (nvS.len levels))), (4, .vec 21 (t'9.g 21) 1 0 (nvS.len out7)), (5, .v (.int .i64 i2))] 0, frO 85 [(21, .arr (t'9.g 21) 1 (nvS.len out7) (t'9.t 21) (fun i j => (.v (.int .i64 (nvS.get 0 out7 i)))))] 0, t'9.c⟩) (fun _ t => Hid.ok t) ⟨ctr + 14, gfn [(21, ctr + 4)], tfn [(21, false)]⟩ h ?_ ?_ (fun x t'9 f ht'9 h => ?_)
    · exact Hid.mk_ok (by omega) (And.intro (by omega)
          trivial)
    · refine GeSt.by [.thaw (.slot 4) 21 1] rfl ?_ ?_
      · exact trivial
      · exact LeSt.frame (show ctr + 5 < ctr + 14 by omega) rfl rfl (And.intro ⟨_, rfl, LeD.refl _⟩
            (And.intro ⟨_, rfl, LeD.refl _⟩
            (And.intro ⟨_, rfl, LeD.refl _⟩
            (And.intro ⟨_, rfl, LeD.refl _⟩
            trivial)))) (And.intro ⟨_, rfl, LeOb.arr' rfl (fun i i0 i1 j hj => by exfalso; revert i1; show i < (0 : Int) → False; omega)⟩
            trivial)
    · obtain ⟨i2, out7⟩ := x
      obtain ⟨t'9_c, t'9_g, t'9_t⟩ := t'9
      have ht'9_c : 0 < t'9_c := ht'9.1
      have ht'9_g : ∀ k, t'9_g k < t'9_c := ht'9.2
      refine Tr.chunk (cx := ⟨tt0, ⟨fun f => kOf [] f, fun k _ _ _ => orcL [] k, fun t => memN [20] t⟩, 0, fun r => ghL [] r⟩) tt0_ok hPm fun N hN => ?_
      generalize hp : std Try.prog = p
      generalize hv : nvS = nv
      cbv
      subst hp
      subst hv
      refine ⟨fun h629 => ?_, fun h629 => ?_⟩
      · replace h := iteO_t h h629
        replace h := chk_some h; obtain ⟨h630, h⟩ := h
        refine ⟨rfl, (by have := ht'9_g 21; show (_ : Nat) < _; try dsimp only [std_eq, stdN]; omega), h630, ?_⟩
        replace h := chk_some h; obtain ⟨h631, h⟩ := h
        refine ⟨h631, ?_⟩
        subst hN
        cases h
        show ∃ t', _ ∧ GeSt _ _ _
        refine ⟨⟨t'9_c + 12, gfn [(21, t'9_c + 1)], tfn [(21, false)]⟩, Hid.mk_ok (by omega) (And.intro (by omega)
            trivial), ?_⟩
        exact GeSt.of (LeSt.frame (by show (_ : Nat) < _; (try dsimp only [std_eq, stdN]); omega) rfl rfl (And.intro ⟨_, rfl, LeD.refl _⟩
            (And.intro ⟨_, rfl, LeD.refl _⟩
            (And.intro ⟨_, rfl, LeD.vec rfl (by first | rfl | assumption | (symm; assumption) | ((try dsimp only [std_eq, stdN, nvS]) <;> first | rfl | omega | (simp (disch := first | omega | (simp only [lenL_set, lenL_app, lenL_cons, lenL_nil] <;> omega)) only [lenL_bytes, lenL_set, lenL_app, lenL_cons, lenL_nil, lenL_rep, lenL_sub, lenL_cpy, Int.ofNat_eq_natCast, Int.zero_add, Int.sub_zero] <;> try omega)))⟩
            (And.intro ⟨_, rfl, LeD.refl _⟩
            trivial)))) (And.intro ⟨_, rfl, LeOb.arrE (by first | rfl | assumption | (symm; assumption) | ((try dsimp only [std_eq, stdN, nvS]) <;> first | rfl | omega | (simp (disch := first | omega | (simp only [lenL_set, lenL_app, lenL_cons, lenL_nil] <;> omega)) only [lenL_bytes, lenL_set, lenL_app, lenL_cons, lenL_nil, lenL_rep, lenL_sub, lenL_cpy, Int.ofNat_eq_natCast, Int.zero_add, Int.sub_zero] <;> try omega))) (fun i i0 i1 j hj => by (try dsimp only [std_eq, stdN, nvS] at i1); (try simp only [Int.ofNat_eq_natCast] at i1); (obtain rfl : j = 0 := (by omega)) <;> (conv => lhs; whnf) <;> (conv => rhs; whnf) <;> (try dsimp only [std_eq, stdN, nvS]) <;> (first | rfl | (simp (disch := first | omega | (simp only [lenL_set, lenL_app, lenL_cons, lenL_nil] <;> omega)) only [getL_bytes, getL_put, getL_app, getL_rep, getL_sub, getL_cpy, Int.zero_add, Int.sub_zero, beq_iff_eq, decide_eq_true_eq, Bool.and_eq_true] <;> first | rfl | (split <;> first | rfl | (simp (disch := first | omega | (simp only [lenL_set, lenL_app, lenL_cons, lenL_nil] <;> omega)) only [getL_one, getL_zero] <;> rfl)) | ((simp only [lenL_app, lenL_cons, lenL_nil, Int.ofNat_eq_natCast]) <;> (repeat' split) <;> first | rfl | (exfalso; omega) | (simp (disch := omega) only [getL_one, getL_zero] <;> rfl) | (congr 3; omega)))))⟩
            trivial))
      · replace h := iteO_f h h629
        subst hN
        cases h
        intro he; cases he
        show ∃ t', _ ∧ GeSt _ _ _
        refine ⟨⟨t'9_c + 10, gfn [(21, t'9_g 21)], tfn [(21, t'9_t 21)]⟩, Hid.mk_ok (by omega) (And.intro (by have := ht'9_g 21; omega)
            trivial), ?_⟩
        exact GeSt.of (LeSt.frame (by show (_ : Nat) < _; (try dsimp only [std_eq, stdN]); omega) rfl rfl (And.intro ⟨_, rfl, LeD.refl _⟩
            (And.intro ⟨_, rfl, LeD.refl _⟩
            (And.intro ⟨_, rfl, LeD.vec rfl (by first | rfl | assumption | (symm; assumption) | ((try dsimp only [std_eq, stdN, nvS]) <;> first | rfl | omega | (simp (disch := first | omega | (simp only [lenL_set, lenL_app, lenL_cons, lenL_nil] <;> omega)) only [lenL_bytes, lenL_set, lenL_app, lenL_cons, lenL_nil, lenL_rep, lenL_sub, lenL_cpy, Int.ofNat_eq_natCast, Int.zero_add, Int.sub_zero] <;> try omega)))⟩
            trivial))) (And.intro ⟨_, rfl, LeOb.arrE (by first | rfl | assumption | (symm; assumption) | ((try dsimp only [std_eq, stdN, nvS]) <;> first | rfl | omega | (simp (disch := first | omega | (simp only [lenL_set, lenL_app, lenL_cons, lenL_nil] <;> omega)) only [lenL_bytes, lenL_set, lenL_app, lenL_cons, lenL_nil, lenL_rep, lenL_sub, lenL_cpy, Int.ofNat_eq_natCast, Int.zero_add, Int.sub_zero] <;> try omega))) (fun i i0 i1 j hj => by (try dsimp only [std_eq, stdN, nvS] at i1); (try simp only [Int.ofNat_eq_natCast] at i1); (obtain rfl : j = 0 := (by omega)) <;> (conv => lhs; whnf) <;> (conv => rhs; whnf) <;> (try dsimp only [std_eq, stdN, nvS]) <;> (first | rfl | (simp (disch := first | omega | (simp only [lenL_set, lenL_app, lenL_cons, lenL_nil] <;> omega)) only [getL_bytes, getL_put, getL_app, getL_rep, getL_sub, getL_cpy, Int.zero_add, Int.sub_zero, beq_iff_eq, decide_eq_true_eq, Bool.and_eq_true] <;> first | rfl | (split <;> first | rfl | (simp (disch := first | omega | (simp only [lenL_set, lenL_app, lenL_cons, lenL_nil] <;> omega)) only [getL_one, getL_zero] <;> rfl)) | ((simp only [lenL_app, lenL_cons, lenL_nil, Int.ofNat_eq_natCast]) <;> (repeat' split) <;> first | rfl | (exfalso; omega) | (simp (disch := omega) only [getL_one, getL_zero] <;> rfl) | (congr 3; omega)))))⟩
            trivial))

theorem lapwingref19_Cells_ok (levels : (List Int)) (widths : (List Int)) (r : ((List Int) × Bool)) (h : lapwingref19_Cells levels widths = some r) : PureFn Try.prog 15 [(.sl 1 (nvS.len levels) false (fun i j => (.v (.int .i64 (nvS.get 0 levels i))))), (.sl 1 (nvS.len widths) false (fun i j => (.v (.int .i64 (nvS.get 0 widths i)))))] (.tup 2 (fun j => match j with | 0 => (.sl 1 (nvS.len r.1) false (fun i j => (.v (.int .i64 (nvS.get 0 r.1 i))))) | 1 => (.v (.bool r.2)) | _ => .junk)) := by
  unfold lapwingref19_Cells at h
  refine fn_tr tt0_ok Try.func15 (by kernel_rfl) (c := bodyOf Try.f15) (by kernel_rfl) ?_
  intro ctr hc
  refine Tr.pre (cx := ⟨tt0, ⟨fun f => kOf [] f, fun k _ _ _ => orcL [] k, fun t => memN [] t⟩, 0, fun r => ghL [] r⟩) tt0_ok hPm 4 fun N hN => ?_
  generalize hp : std Try.prog = p
  generalize hv : nvS = nv
  cbv
  subst hp
  subst hv
  refine ⟨fun h1 => ?_, fun h1 => ?_⟩
  · replace h := iteO_t h h1
    subst hN
    have hr := Option.some.inj h
    subst hr
    try dsimp only [noGoto, inBlockQ, thenQ]
    repeat (first | refine (if_pos rfl).mpr ?_ | refine (if_neg (by decide)).mpr ?_)
    refine retQ_ret rfl ?_ ?_
    · exact trivial
    · exact (And.intro (rfl)
          rfl)
  · replace h := iteO_f h h1
    subst hN
    show Tr _ _ _ _
    refine Tr.cutSeq (α := List Int) h (fun at' t' => ⟨frm 78 [(0, .sl 1 (nvS.len levels) false (fun i j => (.v (.int .i64 (nvS.get 0 levels i))))), (1, .sl 1 (nvS.len widths) false (fun i j => (.v (.int .i64 (nvS.get 0 widths i))))), (6, .vec 39 (t'.g 39) 1 0 (nvS.len at'))] 0, frO 78 [(39, .arr (t'.g 39) 1 (nvS.len at') (t'.t 39) (fun i j => (.v (.int .i64 (nvS.get 0 at' i)))))] 0, t'.c⟩) (fun _ t => Hid.ok t) (fun x t' ht' h => ?_) (fun f h => ?_)
    · revert h; revert ht'; revert x; intro at' ht' h
      obtain ⟨t'_c, t'_g, t'_t⟩ := t'
      have ht'_c : 0 < t'_c := ht'.1
      have ht'_g : ∀ k, t'_g k < t'_c := ht'.2
      obtain ⟨v, h18⟩ : ∃ v, valO [] (lapwingref19_Visual levels) = v := ⟨_, rfl⟩
      refine Tr.pre (cx := ⟨tt0, ⟨fun f => kOf [(17, 1)] f, fun k _ _ _ => orcL [(47, .own 1 (nvS.len v) false (fun i j => (.v (.int .i64 (nvS.get 0 v i)))))] k, fun t => memN [] t⟩, 0, fun r => ghL [] r⟩) tt0_ok hPm 2 fun N hN => ?_
      generalize hp : std Try.prog = p
      generalize hv : nvS = nv
      cbv
      subst hp
      subst hv
      replace h := bindO_val h18 h; clear h18; obtain ⟨h18, h⟩ := h
      refine ⟨(Or.inl (PureFn.arg (lapwingref19_Visual_ok levels v h18) (And.intro (LeD.refl _)
          trivial))), ?_⟩
      subst hN
      show Tr _ _ _ _
      refine Tr.cutSeq (α := List Int) h (fun out t'1 => ⟨frm 78 [(10, .vec 76 (t'1.g 76) 1 0 (nvS.len out))] 0, frO 78 [(76, .arr (t'1.g 76) 1 (nvS.len out) (t'1.t 76) (fun i j => (.v (.int .i64 (nvS.get 0 out i)))))] 0, t'1.c⟩) (fun _ t => Hid.ok t) (fun x t'1 ht'1 h => ?_) (fun f h => ?_)
      · revert h; revert ht'1; revert x; intro out ht'1 h
        obtain ⟨t'1_c, t'1_g, t'1_t⟩ := t'1
        have ht'1_c : 0 < t'1_c := ht'1.1
        have ht'1_g : ∀ k, t'1_g k < t'1_c := ht'1.2
        refine Tr.chunk (cx := ⟨tt0, ⟨fun f => kOf [] f, fun k _ _ _ => orcL [] k, fun t => memN [] t⟩, 0, fun r => ghL [] r⟩) tt0_ok hPm fun N hN => ?_
        generalize hp : std Try.prog = p
        generalize hv : nvS = nv
        cbv
        subst hp
        subst hv
        subst hN
        have hr := Option.some.inj h
        subst hr
        try dsimp only [noGoto, inBlockQ, thenQ]
        repeat (first | refine (if_pos rfl).mpr ?_ | refine (if_neg (by decide)).mpr ?_)
        refine retQ_ret rfl ?_ ?_
        · exact trivial
        · exact (And.intro (And.intro (rfl)
              (And.intro (by first | rfl | assumption | (symm; assumption) | ((try dsimp only [std_eq, stdN, nvS]) <;> first | rfl | omega | (simp (disch := first | omega | (simp only [lenL_set, lenL_app, lenL_cons, lenL_nil] <;> omega)) only [lenL_bytes, lenL_set, lenL_app, lenL_cons, lenL_nil, lenL_rep, lenL_sub, lenL_cpy, Int.ofNat_eq_natCast, Int.zero_add, Int.sub_zero] <;> try omega)))
              (And.intro (fun h => by cases h)
              (out0_all (fun i j => out0_int _ _) (fun i i0 i1 j hj => by (try dsimp only [std_eq, stdN, nvS] at i1); (try simp only [Int.ofNat_eq_natCast] at i1); (obtain rfl : j = 0 := (by omega)) <;> (conv => lhs; whnf) <;> (conv => rhs; whnf) <;> (try dsimp only [std_eq, stdN, nvS]) <;> (first | rfl | (simp (disch := first | omega | (simp only [lenL_set, lenL_app, lenL_cons, lenL_nil] <;> omega)) only [getL_bytes, getL_put, getL_app, getL_rep, getL_sub, getL_cpy, Int.zero_add, Int.sub_zero, beq_iff_eq, decide_eq_true_eq, Bool.and_eq_true] <;> first | rfl | (split <;> first | rfl | (simp (disch := first | omega | (simp only [lenL_set, lenL_app, lenL_cons, lenL_nil] <;> omega)) only [getL_one, getL_zero] <;> rfl)) | ((simp only [lenL_app, lenL_cons, lenL_nil, Int.ofNat_eq_natCast]) <;> (repeat' split) <;> first | rfl | (exfalso; omega) | (simp (disch := omega) only [getL_one, getL_zero] <;> rfl) | (congr 3; omega)))))))))
              rfl)
      · refine Tr.pre (cx := ⟨tt0, ⟨fun f => kOf [] f, fun k _ _ _ => orcL [] k, fun t => memN [] t⟩, 0, fun r => ghL [] r⟩) tt0_ok hPm 1 fun N hN => ?_
        generalize hp : std Try.prog = p
        generalize hv : nvS = nv
        cbv
        subst hp
        subst hv
        subst hN
        show Tr _ _ _ _
        refine Tr.block ?_
        refine Tr.loopO (α := Int × List Int) (fun (i, out1) t'2 => ⟨frm 78 [(1, .sl 1 (nvS.len widths) false (fun i j => (.v (.int .i64 (nvS.get 0 widths i))))), (6, .vec 39 (t'2.g 39) 1 0 (nvS.len at')), (9, .vec 47 (t'2.g 47) 1 0 (nvS.len v)), (10, .vec 76 (t'2.g 76) 1 0 (nvS.len out1)), (11, .v (.int .i64 i))] 0, frO 78 [(39, .arr (t'2.g 39) 1 (nvS.len at') (t'2.t 39) (fun i j => (.v (.int .i64 (nvS.get 0 at' i))))), (47, .arr (t'2.g 47) 1 (nvS.len v) (t'2.t 47) (fun i j => (.v (.int .i64 (nvS.get 0 v i))))), (76, .arr (t'2.g 76) 1 (nvS.len out1) (t'2.t 76) (fun i j => (.v (.int .i64 (nvS.get 0 out1 i)))))] 0, t'2.c⟩) (fun _ t => Hid.ok t) ⟨t'_c + 13, gfn [(39, t'_g 39), (47, t'_c + 0), (76, t'_c + 3)], tfn [(39, t'_t 39), (47, false), (76, false)]⟩ h ?_ ?_ (fun x t'2 f ht'2 h => ?_)
        · exact Hid.mk_ok (by omega) (And.intro (by have := ht'_g 39; omega)
              (And.intro (by omega)
              (And.intro (by omega)
              trivial)))
        · refine GeSt.by [.thaw (.slot 10) 76 1] rfl ?_ ?_
          · exact trivial
          · exact LeSt.frame (show t'_c + 4 < t'_c + 13 by omega) rfl rfl (And.intro ⟨_, rfl, LeD.refl _⟩
                (And.intro ⟨_, rfl, LeD.refl _⟩
                (And.intro ⟨_, rfl, LeD.refl _⟩
                (And.intro ⟨_, rfl, LeD.refl _⟩
                (And.intro ⟨_, rfl, LeD.refl _⟩
                trivial))))) (And.intro ⟨_, rfl, LeOb.refl _⟩
                (And.intro ⟨_, rfl, LeOb.refl _⟩
                (And.intro ⟨_, rfl, LeOb.arr' rfl (fun i i0 i1 j hj => by exfalso; revert i1; show i < (0 : Int) → False; omega)⟩
                trivial)))
        · obtain ⟨i, out1⟩ := x
          obtain ⟨t'2_c, t'2_g, t'2_t⟩ := t'2
          have ht'2_c : 0 < t'2_c := ht'2.1
          have ht'2_g : ∀ k, t'2_g k < t'2_c := ht'2.2
          refine Tr.pre (cx := ⟨tt0, ⟨fun f => kOf [] f, fun k _ _ _ => orcL [] k, fun t => memN [] t⟩, 0, fun r => ghL [] r⟩) tt0_ok hPm 1 fun N hN => ?_
          generalize hp : std Try.prog = p
          generalize hv : nvS = nv
          cbv
          subst hp
          subst hv
          refine ⟨fun h91 => ?_, fun h91 => ?_⟩
          · replace h := iteO_t h h91
            subst hN
            show Tr _ _ _ _
            refine Tr.cutSeq (α := List Int) h (fun out2 t'3 => ⟨frm 78 [(1, .sl 1 (nvS.len widths) false (fun i j => (.v (.int .i64 (nvS.get 0 widths i))))), (6, .vec 39 (t'3.g 39) 1 0 (nvS.len at')), (9, .vec 47 (t'3.g 47) 1 0 (nvS.len v)), (10, .vec 76 (t'3.g 76) 1 0 (nvS.len out2)), (11, .v (.int .i64 i))] 0, frO 78 [(39, .arr (t'3.g 39) 1 (nvS.len at') (t'3.t 39) (fun i j => (.v (.int .i64 (nvS.get 0 at' i))))), (47, .arr (t'3.g 47) 1 (nvS.len v) (t'3.t 47) (fun i j => (.v (.int .i64 (nvS.get 0 v i))))), (76, .arr (t'3.g 76) 1 (nvS.len out2) (t'3.t 76) (fun i j => (.v (.int .i64 (nvS.get 0 out2 i)))))] 0, t'3.c⟩) (fun _ t => Hid.ok t) (fun x t'3 ht'3 h => ?_) (fun f h => ?_)
            · revert h; revert ht'3; revert x; intro out2 ht'3 h
              obtain ⟨t'3_c, t'3_g, t'3_t⟩ := t'3
              have ht'3_c : 0 < t'3_c := ht'3.1
              have ht'3_g : ∀ k, t'3_g k < t'3_c := ht'3.2
              refine Tr.chunk (cx := ⟨tt0, ⟨fun f => kOf [] f, fun k _ _ _ => orcL [] k, fun t => memN [] t⟩, 0, fun r => ghL [] r⟩) tt0_ok hPm fun N hN => ?_
              generalize hp : std Try.prog = p
              generalize hv : nvS = nv
              cbv
              subst hp
              subst hv
              replace h := chk_some h; obtain ⟨h108, h⟩ := h
              refine ⟨h108, ?_⟩
              subst hN
              cases h
              show ∃ t', _ ∧ GeSt _ _ _
              refine ⟨⟨t'3_c + 10, gfn [(39, t'3_g 39), (47, t'3_g 47), (76, t'3_g 76)], tfn [(39, t'3_t 39), (47, t'3_t 47), (76, t'3_t 76)]⟩, Hid.mk_ok (by omega) (And.intro (by have := ht'3_g 39; omega)
                  (And.intro (by have := ht'3_g 47; omega)
                  (And.intro (by have := ht'3_g 76; omega)
                  trivial))), ?_⟩
              exact GeSt.of (LeSt.frame (by show (_ : Nat) < _; (try dsimp only [std_eq, stdN]); omega) rfl rfl (And.intro ⟨_, rfl, LeD.refl _⟩
                  (And.intro ⟨_, rfl, LeD.refl _⟩
                  (And.intro ⟨_, rfl, LeD.refl _⟩
                  (And.intro ⟨_, rfl, LeD.vec rfl (by first | rfl | assumption | (symm; assumption) | ((try dsimp only [std_eq, stdN, nvS]) <;> first | rfl | omega | (simp (disch := first | omega | (simp only [lenL_set, lenL_app, lenL_cons, lenL_nil] <;> omega)) only [lenL_bytes, lenL_set, lenL_app, lenL_cons, lenL_nil, lenL_rep, lenL_sub, lenL_cpy, Int.ofNat_eq_natCast, Int.zero_add, Int.sub_zero] <;> try omega)))⟩
                  (And.intro ⟨_, rfl, LeD.refl _⟩
                  trivial))))) (And.intro ⟨_, rfl, LeOb.refl _⟩
                  (And.intro ⟨_, rfl, LeOb.refl _⟩
                  (And.intro ⟨_, rfl, LeOb.arrE (by first | rfl | assumption | (symm; assumption) | ((try dsimp only [std_eq, stdN, nvS]) <;> first | rfl | omega | (simp (disch := first | omega | (simp only [lenL_set, lenL_app, lenL_cons, lenL_nil] <;> omega)) only [lenL_bytes, lenL_set, lenL_app, lenL_cons, lenL_nil, lenL_rep, lenL_sub, lenL_cpy, Int.ofNat_eq_natCast, Int.zero_add, Int.sub_zero] <;> try omega))) (fun i i0 i1 j hj => by (try dsimp only [std_eq, stdN, nvS] at i1); (try simp only [Int.ofNat_eq_natCast] at i1); (obtain rfl : j = 0 := (by omega)) <;> (conv => lhs; whnf) <;> (conv => rhs; whnf) <;> (try dsimp only [std_eq, stdN, nvS]) <;> (first | rfl | (simp (disch := first | omega | (simp only [lenL_set, lenL_app, lenL_cons, lenL_nil] <;> omega)) only [getL_bytes, getL_put, getL_app, getL_rep, getL_sub, getL_cpy, Int.zero_add, Int.sub_zero, beq_iff_eq, decide_eq_true_eq, Bool.and_eq_true] <;> first | rfl | (split <;> first | rfl | (simp (disch := first | omega | (simp only [lenL_set, lenL_app, lenL_cons, lenL_nil] <;> omega)) only [getL_one, getL_zero] <;> rfl)) | ((simp only [lenL_app, lenL_cons, lenL_nil, Int.ofNat_eq_natCast]) <;> (repeat' split) <;> first | rfl | (exfalso; omega) | (simp (disch := omega) only [getL_one, getL_zero] <;> rfl) | (congr 3; omega)))))⟩
                  trivial))))
            · refine Tr.block ?_
              refine Tr.pre (cx := ⟨tt0, ⟨fun f => kOf [] f, fun k _ _ _ => orcL [] k, fun t => memN [] t⟩, 0, fun r => ghL [] r⟩) tt0_ok hPm 1 fun N hN => ?_
              generalize hp : std Try.prog = p
              generalize hv : nvS = nv
              cbv
              subst hp
              subst hv
              subst hN
              show Tr _ _ _ _
              refine Tr.block ?_
              refine Tr.loopO (α := Int × List Int) (fun (k', out3) t'4 => ⟨frm 78 [(1, .sl 1 (nvS.len widths) false (fun i j => (.v (.int .i64 (nvS.get 0 widths i))))), (6, .vec 39 (t'4.g 39) 1 0 (nvS.len at')), (9, .vec 47 (t'4.g 47) 1 0 (nvS.len v)), (10, .vec 76 (t'4.g 76) 1 0 (nvS.len out3)), (11, .v (.int .i64 i)), (12, .v (.int .i64 k'))] 0, frO 78 [(39, .arr (t'4.g 39) 1 (nvS.len at') (t'4.t 39) (fun i j => (.v (.int .i64 (nvS.get 0 at' i))))), (47, .arr (t'4.g 47) 1 (nvS.len v) (t'4.t 47) (fun i j => (.v (.int .i64 (nvS.get 0 v i))))), (76, .arr (t'4.g 76) 1 (nvS.len out3) (t'4.t 76) (fun i j => (.v (.int .i64 (nvS.get 0 out3 i)))))] 0, t'4.c⟩) (fun _ t => Hid.ok t) ⟨t'2_c + 11, gfn [(39, t'2_g 39), (47, t'2_g 47), (76, t'2_g 76)], tfn [(39, t'2_t 39), (47, t'2_t 47), (76, t'2_t 76)]⟩ h ?_ ?_ (fun x t'4 f ht'4 h => ?_)
              · exact Hid.mk_ok (by omega) (And.intro (by have := ht'2_g 39; omega)
                    (And.intro (by have := ht'2_g 47; omega)
                    (And.intro (by have := ht'2_g 76; omega)
                    trivial)))
              · exact GeSt.of (LeSt.frame (by show (_ : Nat) < _; (try dsimp only [std_eq, stdN]); omega) rfl rfl (And.intro ⟨_, rfl, LeD.refl _⟩
                    (And.intro ⟨_, rfl, LeD.refl _⟩
                    (And.intro ⟨_, rfl, LeD.refl _⟩
                    (And.intro ⟨_, rfl, LeD.vec rfl (by first | rfl | assumption | (symm; assumption) | ((try dsimp only [std_eq, stdN, nvS]) <;> first | rfl | omega | (simp (disch := first | omega | (simp only [lenL_set, lenL_app, lenL_cons, lenL_nil] <;> omega)) only [lenL_bytes, lenL_set, lenL_app, lenL_cons, lenL_nil, lenL_rep, lenL_sub, lenL_cpy, Int.ofNat_eq_natCast, Int.zero_add, Int.sub_zero] <;> try omega)))⟩
                    (And.intro ⟨_, rfl, LeD.refl _⟩
                    (And.intro ⟨_, rfl, LeD.refl _⟩
                    trivial)))))) (And.intro ⟨_, rfl, LeOb.refl _⟩
                    (And.intro ⟨_, rfl, LeOb.refl _⟩
                    (And.intro ⟨_, rfl, LeOb.arrE (by first | rfl | assumption | (symm; assumption) | ((try dsimp only [std_eq, stdN, nvS]) <;> first | rfl | omega | (simp (disch := first | omega | (simp only [lenL_set, lenL_app, lenL_cons, lenL_nil] <;> omega)) only [lenL_bytes, lenL_set, lenL_app, lenL_cons, lenL_nil, lenL_rep, lenL_sub, lenL_cpy, Int.ofNat_eq_natCast, Int.zero_add, Int.sub_zero] <;> try omega))) (fun i i0 i1 j hj => by (try dsimp only [std_eq, stdN, nvS] at i1); (try simp only [Int.ofNat_eq_natCast] at i1); (obtain rfl : j = 0 := (by omega)) <;> (conv => lhs; whnf) <;> (conv => rhs; whnf) <;> (try dsimp only [std_eq, stdN, nvS]) <;> (first | rfl | (simp (disch := first | omega | (simp only [lenL_set, lenL_app, lenL_cons, lenL_nil] <;> omega)) only [getL_bytes, getL_put, getL_app, getL_rep, getL_sub, getL_cpy, Int.zero_add, Int.sub_zero, beq_iff_eq, decide_eq_true_eq, Bool.and_eq_true] <;> first | rfl | (split <;> first | rfl | (simp (disch := first | omega | (simp only [lenL_set, lenL_app, lenL_cons, lenL_nil] <;> omega)) only [getL_one, getL_zero] <;> rfl)) | ((simp only [lenL_app, lenL_cons, lenL_nil, Int.ofNat_eq_natCast]) <;> (repeat' split) <;> first | rfl | (exfalso; omega) | (simp (disch := omega) only [getL_one, getL_zero] <;> rfl) | (congr 3; omega)))))⟩
                    trivial))))
              · obtain ⟨k', out3⟩ := x
                obtain ⟨t'4_c, t'4_g, t'4_t⟩ := t'4
                have ht'4_c : 0 < t'4_c := ht'4.1
                have ht'4_g : ∀ k, t'4_g k < t'4_c := ht'4.2
                refine Tr.chunk (cx := ⟨tt0, ⟨fun f => kOf [] f, fun k _ _ _ => orcL [] k, fun t => memN [75] t⟩, 0, fun r => ghL [] r⟩) tt0_ok hPm fun N hN => ?_
                generalize hp : std Try.prog = p
                generalize hv : nvS = nv
                cbv
                subst hp
                subst hv
                replace h := chk_some h; obtain ⟨h125, h⟩ := h
                replace h := chk_some h; obtain ⟨h126, h⟩ := h
                refine ⟨h125, rfl, h126, ?_⟩
                refine ⟨fun h127 => ?_, fun h127 => ?_⟩
                · replace h := iteO_t h h127
                  replace h := chk_some h; obtain ⟨h128, h⟩ := h
                  replace h := chk_some h; obtain ⟨h129, h⟩ := h
                  replace h := chk_some h; obtain ⟨h130, h⟩ := h
                  replace h := chk_some h; obtain ⟨h131, h⟩ := h
                  refine ⟨h128, rfl, h129, rfl, h130, rfl, (by have := ht'4_g 76; show (_ : Nat) < _; try dsimp only [std_eq, stdN]; omega), h131, ?_⟩
                  replace h := chk_some h; obtain ⟨h132, h⟩ := h
                  refine ⟨h132, ?_⟩
                  subst hN
                  cases h
                  show ∃ t', _ ∧ GeSt _ _ _
                  refine ⟨⟨t'4_c + 12, gfn [(39, t'4_g 39), (47, t'4_g 47), (76, t'4_c + 1)], tfn [(39, t'4_t 39), (47, t'4_t 47), (76, false)]⟩, Hid.mk_ok (by omega) (And.intro (by have := ht'4_g 39; omega)
                      (And.intro (by have := ht'4_g 47; omega)
                      (And.intro (by omega)
                      trivial))), ?_⟩
                  exact GeSt.of (LeSt.frame (by show (_ : Nat) < _; (try dsimp only [std_eq, stdN]); omega) rfl rfl (And.intro ⟨_, rfl, LeD.refl _⟩
                      (And.intro ⟨_, rfl, LeD.refl _⟩
                      (And.intro ⟨_, rfl, LeD.refl _⟩
                      (And.intro ⟨_, rfl, LeD.vec rfl (by first | rfl | assumption | (symm; assumption) | ((try dsimp only [std_eq, stdN, nvS]) <;> first | rfl | omega | (simp (disch := first | omega | (simp only [lenL_set, lenL_app, lenL_cons, lenL_nil] <;> omega)) only [lenL_bytes, lenL_set, lenL_app, lenL_cons, lenL_nil, lenL_rep, lenL_sub, lenL_cpy, Int.ofNat_eq_natCast, Int.zero_add, Int.sub_zero] <;> try omega)))⟩
                      (And.intro ⟨_, rfl, LeD.refl _⟩
                      (And.intro ⟨_, rfl, LeD.refl _⟩
                      trivial)))))) (And.intro ⟨_, rfl, LeOb.refl _⟩
                      (And.intro ⟨_, rfl, LeOb.refl _⟩
                      (And.intro ⟨_, rfl, LeOb.arrE (by first | rfl | assumption | (symm; assumption) | ((try dsimp only [std_eq, stdN, nvS]) <;> first | rfl | omega | (simp (disch := first | omega | (simp only [lenL_set, lenL_app, lenL_cons, lenL_nil] <;> omega)) only [lenL_bytes, lenL_set, lenL_app, lenL_cons, lenL_nil, lenL_rep, lenL_sub, lenL_cpy, Int.ofNat_eq_natCast, Int.zero_add, Int.sub_zero] <;> try omega))) (fun i i0 i1 j hj => by (try dsimp only [std_eq, stdN, nvS] at i1); (try simp only [Int.ofNat_eq_natCast] at i1); (obtain rfl : j = 0 := (by omega)) <;> (conv => lhs; whnf) <;> (conv => rhs; whnf) <;> (try dsimp only [std_eq, stdN, nvS]) <;> (first | rfl | (simp (disch := first | omega | (simp only [lenL_set, lenL_app, lenL_cons, lenL_nil] <;> omega)) only [getL_bytes, getL_put, getL_app, getL_rep, getL_sub, getL_cpy, Int.zero_add, Int.sub_zero, beq_iff_eq, decide_eq_true_eq, Bool.and_eq_true] <;> first | rfl | (split <;> first | rfl | (simp (disch := first | omega | (simp only [lenL_set, lenL_app, lenL_cons, lenL_nil] <;> omega)) only [getL_one, getL_zero] <;> rfl)) | ((simp only [lenL_app, lenL_cons, lenL_nil, Int.ofNat_eq_natCast]) <;> (repeat' split) <;> first | rfl | (exfalso; omega) | (simp (disch := omega) only [getL_one, getL_zero] <;> rfl) | (congr 3; omega)))))⟩
                      trivial))))
                · replace h := iteO_f h h127
                  subst hN
                  cases h
                  intro he; cases he
                  show ∃ t', _ ∧ GeSt _ _ _
                  refine ⟨⟨t'4_c + 10, gfn [(39, t'4_g 39), (47, t'4_g 47), (76, t'4_g 76)], tfn [(39, t'4_t 39), (47, t'4_t 47), (76, t'4_t 76)]⟩, Hid.mk_ok (by omega) (And.intro (by have := ht'4_g 39; omega)
                      (And.intro (by have := ht'4_g 47; omega)
                      (And.intro (by have := ht'4_g 76; omega)
                      trivial))), ?_⟩
                  exact GeSt.of (LeSt.frame (by show (_ : Nat) < _; (try dsimp only [std_eq, stdN]); omega) rfl rfl (And.intro ⟨_, rfl, LeD.refl _⟩
                      (And.intro ⟨_, rfl, LeD.refl _⟩
                      (And.intro ⟨_, rfl, LeD.refl _⟩
                      (And.intro ⟨_, rfl, LeD.vec rfl (by first | rfl | assumption | (symm; assumption) | ((try dsimp only [std_eq, stdN, nvS]) <;> first | rfl | omega | (simp (disch := first | omega | (simp only [lenL_set, lenL_app, lenL_cons, lenL_nil] <;> omega)) only [lenL_bytes, lenL_set, lenL_app, lenL_cons, lenL_nil, lenL_rep, lenL_sub, lenL_cpy, Int.ofNat_eq_natCast, Int.zero_add, Int.sub_zero] <;> try omega)))⟩
                      (And.intro ⟨_, rfl, LeD.refl _⟩
                      trivial))))) (And.intro ⟨_, rfl, LeOb.refl _⟩
                      (And.intro ⟨_, rfl, LeOb.refl _⟩
                      (And.intro ⟨_, rfl, LeOb.arrE (by first | rfl | assumption | (symm; assumption) | ((try dsimp only [std_eq, stdN, nvS]) <;> first | rfl | omega | (simp (disch := first | omega | (simp only [lenL_set, lenL_app, lenL_cons, lenL_nil] <;> omega)) only [lenL_bytes, lenL_set, lenL_app, lenL_cons, lenL_nil, lenL_rep, lenL_sub, lenL_cpy, Int.ofNat_eq_natCast, Int.zero_add, Int.sub_zero] <;> try omega))) (fun i i0 i1 j hj => by (try dsimp only [std_eq, stdN, nvS] at i1); (try simp only [Int.ofNat_eq_natCast] at i1); (obtain rfl : j = 0 := (by omega)) <;> (conv => lhs; whnf) <;> (conv => rhs; whnf) <;> (try dsimp only [std_eq, stdN, nvS]) <;> (first | rfl | (simp (disch := first | omega | (simp only [lenL_set, lenL_app, lenL_cons, lenL_nil] <;> omega)) only [getL_bytes, getL_put, getL_app, getL_rep, getL_sub, getL_cpy, Int.zero_add, Int.sub_zero, beq_iff_eq, decide_eq_true_eq, Bool.and_eq_true] <;> first | rfl | (split <;> first | rfl | (simp (disch := first | omega | (simp only [lenL_set, lenL_app, lenL_cons, lenL_nil] <;> omega)) only [getL_one, getL_zero] <;> rfl)) | ((simp only [lenL_app, lenL_cons, lenL_nil, Int.ofNat_eq_natCast]) <;> (repeat' split) <;> first | rfl | (exfalso; omega) | (simp (disch := omega) only [getL_one, getL_zero] <;> rfl) | (congr 3; omega)))))⟩
                      trivial))))
          · replace h := iteO_f h h91
            subst hN
            cases h
            intro he; cases he
            show ∃ t', _ ∧ GeSt _ _ _
            refine ⟨⟨t'2_c + 10, gfn [(76, t'2_g 76)], tfn [(76, t'2_t 76)]⟩, Hid.mk_ok (by omega) (And.intro (by have := ht'2_g 76; omega)
                trivial), ?_⟩
            exact GeSt.of (LeSt.frame (by show (_ : Nat) < _; (try dsimp only [std_eq, stdN]); omega) rfl rfl (And.intro ⟨_, rfl, LeD.vec rfl (by first | rfl | assumption | (symm; assumption) | ((try dsimp only [std_eq, stdN, nvS]) <;> first | rfl | omega | (simp (disch := first | omega | (simp only [lenL_set, lenL_app, lenL_cons, lenL_nil] <;> omega)) only [lenL_bytes, lenL_set, lenL_app, lenL_cons, lenL_nil, lenL_rep, lenL_sub, lenL_cpy, Int.ofNat_eq_natCast, Int.zero_add, Int.sub_zero] <;> try omega)))⟩
                trivial) (And.intro ⟨_, rfl, LeOb.arrE (by first | rfl | assumption | (symm; assumption) | ((try dsimp only [std_eq, stdN, nvS]) <;> first | rfl | omega | (simp (disch := first | omega | (simp only [lenL_set, lenL_app, lenL_cons, lenL_nil] <;> omega)) only [lenL_bytes, lenL_set, lenL_app, lenL_cons, lenL_nil, lenL_rep, lenL_sub, lenL_cpy, Int.ofNat_eq_natCast, Int.zero_add, Int.sub_zero] <;> try omega))) (fun i i0 i1 j hj => by (try dsimp only [std_eq, stdN, nvS] at i1); (try simp only [Int.ofNat_eq_natCast] at i1); (obtain rfl : j = 0 := (by omega)) <;> (conv => lhs; whnf) <;> (conv => rhs; whnf) <;> (try dsimp only [std_eq, stdN, nvS]) <;> (first | rfl | (simp (disch := first | omega | (simp only [lenL_set, lenL_app, lenL_cons, lenL_nil] <;> omega)) only [getL_bytes, getL_put, getL_app, getL_rep, getL_sub, getL_cpy, Int.zero_add, Int.sub_zero, beq_iff_eq, decide_eq_true_eq, Bool.and_eq_true] <;> first | rfl | (split <;> first | rfl | (simp (disch := first | omega | (simp only [lenL_set, lenL_app, lenL_cons, lenL_nil] <;> omega)) only [getL_one, getL_zero] <;> rfl)) | ((simp only [lenL_app, lenL_cons, lenL_nil, Int.ofNat_eq_natCast]) <;> (repeat' split) <;> first | rfl | (exfalso; omega) | (simp (disch := omega) only [getL_one, getL_zero] <;> rfl) | (congr 3; omega)))))⟩
                trivial))
    · refine Tr.pre (cx := ⟨tt0, ⟨fun f => kOf [] f, fun k _ _ _ => orcL [] k, fun t => memN [] t⟩, 0, fun r => ghL [] r⟩) tt0_ok hPm 1 fun N hN => ?_
      generalize hp : std Try.prog = p
      generalize hv : nvS = nv
      cbv
      subst hp
      subst hv
      subst hN
      show Tr _ _ _ _
      refine Tr.block ?_
      refine Tr.loopO (α := Int × Int × List Int) (fun (n, i2, at'1) t'5 => ⟨frm 78 [(0, .sl 1 (nvS.len levels) false (fun i j => (.v (.int .i64 (nvS.get 0 levels i))))), (1, .sl 1 (nvS.len widths) false (fun i j => (.v (.int .i64 (nvS.get 0 widths i))))), (6, .vec 39 (t'5.g 39) 1 0 (nvS.len at'1)), (7, .v (.int .i64 n)), (8, .v (.int .i64 i2))] 0, frO 78 [(39, .arr (t'5.g 39) 1 (nvS.len at'1) (t'5.t 39) (fun i j => (.v (.int .i64 (nvS.get 0 at'1 i)))))] 0, t'5.c⟩) (fun _ t => Hid.ok t) ⟨ctr + 15, gfn [(39, ctr + 5)], tfn [(39, false)]⟩ h ?_ ?_ (fun x t'5 f ht'5 h => ?_)
      · exact Hid.mk_ok (by omega) (And.intro (by omega)
            trivial)
      · refine GeSt.by [.thaw (.slot 6) 39 1] rfl ?_ ?_
        · exact trivial
        · exact LeSt.frame (show ctr + 6 < ctr + 15 by omega) rfl rfl (And.intro ⟨_, rfl, LeD.refl _⟩
              (And.intro ⟨_, rfl, LeD.refl _⟩
              (And.intro ⟨_, rfl, LeD.refl _⟩
              (And.intro ⟨_, rfl, LeD.refl _⟩
              (And.intro ⟨_, rfl, LeD.refl _⟩
              trivial))))) (And.intro ⟨_, rfl, LeOb.arr' rfl (fun i i0 i1 j hj => by exfalso; revert i1; show i < (0 : Int) → False; omega)⟩
              trivial)
      · obtain ⟨n, i2, at'1⟩ := x
        obtain ⟨t'5_c, t'5_g, t'5_t⟩ := t'5
        have ht'5_c : 0 < t'5_c := ht'5.1
        have ht'5_g : ∀ k, t'5_g k < t'5_c := ht'5.2
        refine Tr.chunk (cx := ⟨tt0, ⟨fun f => kOf [] f, fun k _ _ _ => orcL [] k, fun t => memN [38] t⟩, 0, fun r => ghL [] r⟩) tt0_ok hPm fun N hN => ?_
        generalize hp : std Try.prog = p
        generalize hv : nvS = nv
        cbv
        subst hp
        subst hv
        refine ⟨fun h149 => ?_, fun h149 => ?_⟩
        · replace h := iteO_t h h149
          replace h := chk_some h; obtain ⟨h150, h⟩ := h
          replace h := chk_some h; obtain ⟨h151, h⟩ := h
          refine ⟨h150, (fun hg => hg), (fun hg => hg), h151, (fun hg => hg), (fun hg => hg), (fun hg => hg), ?_⟩
          refine ⟨fun h152 => ?_, fun h152 => ?_⟩
          · replace h := iteO_t h h152
            subst hN
            cases h
            intro he; cases he
            intro hr
            subst hr
            try dsimp only [noGoto, inBlockQ, thenQ]
            repeat (first | refine (if_pos rfl).mpr ?_ | refine (if_neg (by decide)).mpr ?_)
            refine retQ_ret rfl ?_ ?_
            · exact trivial
            · exact (And.intro (rfl)
                  rfl)
          · replace h := iteO_f h h152
            replace h := chk_some h; obtain ⟨h153, h⟩ := h
            refine ⟨rfl, (by have := ht'5_g 39; show (_ : Nat) < _; try dsimp only [std_eq, stdN]; omega), h153, ?_⟩
            replace h := chk_some h; obtain ⟨h154, h⟩ := h
            replace h := chk_some h; obtain ⟨h155, h⟩ := h
            refine ⟨h154, h155, ?_⟩
            replace h := chk_some h; obtain ⟨h156, h⟩ := h
            refine ⟨h156, ?_⟩
            subst hN
            cases h
            show ∃ t', _ ∧ GeSt _ _ _
            refine ⟨⟨t'5_c + 14, gfn [(39, t'5_c + 2)], tfn [(39, false)]⟩, Hid.mk_ok (by omega) (And.intro (by omega)
                trivial), ?_⟩
            exact GeSt.of (LeSt.frame (by show (_ : Nat) < _; (try dsimp only [std_eq, stdN]); omega) rfl rfl (And.intro ⟨_, rfl, LeD.refl _⟩
                (And.intro ⟨_, rfl, LeD.refl _⟩
                (And.intro ⟨_, rfl, LeD.vec rfl (by first | rfl | assumption | (symm; assumption) | ((try dsimp only [std_eq, stdN, nvS]) <;> first | rfl | omega | (simp (disch := first | omega | (simp only [lenL_set, lenL_app, lenL_cons, lenL_nil] <;> omega)) only [lenL_bytes, lenL_set, lenL_app, lenL_cons, lenL_nil, lenL_rep, lenL_sub, lenL_cpy, Int.ofNat_eq_natCast, Int.zero_add, Int.sub_zero] <;> try omega)))⟩
                (And.intro ⟨_, rfl, LeD.refl _⟩
                (And.intro ⟨_, rfl, LeD.refl _⟩
                trivial))))) (And.intro ⟨_, rfl, LeOb.arrE (by first | rfl | assumption | (symm; assumption) | ((try dsimp only [std_eq, stdN, nvS]) <;> first | rfl | omega | (simp (disch := first | omega | (simp only [lenL_set, lenL_app, lenL_cons, lenL_nil] <;> omega)) only [lenL_bytes, lenL_set, lenL_app, lenL_cons, lenL_nil, lenL_rep, lenL_sub, lenL_cpy, Int.ofNat_eq_natCast, Int.zero_add, Int.sub_zero] <;> try omega))) (fun i i0 i1 j hj => by (try dsimp only [std_eq, stdN, nvS] at i1); (try simp only [Int.ofNat_eq_natCast] at i1); (obtain rfl : j = 0 := (by omega)) <;> (conv => lhs; whnf) <;> (conv => rhs; whnf) <;> (try dsimp only [std_eq, stdN, nvS]) <;> (first | rfl | (simp (disch := first | omega | (simp only [lenL_set, lenL_app, lenL_cons, lenL_nil] <;> omega)) only [getL_bytes, getL_put, getL_app, getL_rep, getL_sub, getL_cpy, Int.zero_add, Int.sub_zero, beq_iff_eq, decide_eq_true_eq, Bool.and_eq_true] <;> first | rfl | (split <;> first | rfl | (simp (disch := first | omega | (simp only [lenL_set, lenL_app, lenL_cons, lenL_nil] <;> omega)) only [getL_one, getL_zero] <;> rfl)) | ((simp only [lenL_app, lenL_cons, lenL_nil, Int.ofNat_eq_natCast]) <;> (repeat' split) <;> first | rfl | (exfalso; omega) | (simp (disch := omega) only [getL_one, getL_zero] <;> rfl) | (congr 3; omega)))))⟩
                trivial))
        · replace h := iteO_f h h149
          subst hN
          cases h
          intro he; cases he
          show ∃ t', _ ∧ GeSt _ _ _
          refine ⟨⟨t'5_c + 10, gfn [(39, t'5_g 39)], tfn [(39, t'5_t 39)]⟩, Hid.mk_ok (by omega) (And.intro (by have := ht'5_g 39; omega)
              trivial), ?_⟩
          exact GeSt.of (LeSt.frame (by show (_ : Nat) < _; (try dsimp only [std_eq, stdN]); omega) rfl rfl (And.intro ⟨_, rfl, LeD.refl _⟩
              (And.intro ⟨_, rfl, LeD.refl _⟩
              (And.intro ⟨_, rfl, LeD.vec rfl (by first | rfl | assumption | (symm; assumption) | ((try dsimp only [std_eq, stdN, nvS]) <;> first | rfl | omega | (simp (disch := first | omega | (simp only [lenL_set, lenL_app, lenL_cons, lenL_nil] <;> omega)) only [lenL_bytes, lenL_set, lenL_app, lenL_cons, lenL_nil, lenL_rep, lenL_sub, lenL_cpy, Int.ofNat_eq_natCast, Int.zero_add, Int.sub_zero] <;> try omega)))⟩
              trivial))) (And.intro ⟨_, rfl, LeOb.arrE (by first | rfl | assumption | (symm; assumption) | ((try dsimp only [std_eq, stdN, nvS]) <;> first | rfl | omega | (simp (disch := first | omega | (simp only [lenL_set, lenL_app, lenL_cons, lenL_nil] <;> omega)) only [lenL_bytes, lenL_set, lenL_app, lenL_cons, lenL_nil, lenL_rep, lenL_sub, lenL_cpy, Int.ofNat_eq_natCast, Int.zero_add, Int.sub_zero] <;> try omega))) (fun i i0 i1 j hj => by (try dsimp only [std_eq, stdN, nvS] at i1); (try simp only [Int.ofNat_eq_natCast] at i1); (obtain rfl : j = 0 := (by omega)) <;> (conv => lhs; whnf) <;> (conv => rhs; whnf) <;> (try dsimp only [std_eq, stdN, nvS]) <;> (first | rfl | (simp (disch := first | omega | (simp only [lenL_set, lenL_app, lenL_cons, lenL_nil] <;> omega)) only [getL_bytes, getL_put, getL_app, getL_rep, getL_sub, getL_cpy, Int.zero_add, Int.sub_zero, beq_iff_eq, decide_eq_true_eq, Bool.and_eq_true] <;> first | rfl | (split <;> first | rfl | (simp (disch := first | omega | (simp only [lenL_set, lenL_app, lenL_cons, lenL_nil] <;> omega)) only [getL_one, getL_zero] <;> rfl)) | ((simp only [lenL_app, lenL_cons, lenL_nil, Int.ofNat_eq_natCast]) <;> (repeat' split) <;> first | rfl | (exfalso; omega) | (simp (disch := omega) only [getL_one, getL_zero] <;> rfl) | (congr 3; omega)))))⟩
              trivial))

theorem lapwingref19_Invert_ok (l' : (List Int)) (r : ((List Int) × Bool)) (h : lapwingref19_Invert l' = some r) : PureFn Try.prog 16 [(.sl 1 (nvS.len l') false (fun i j => (.v (.int .i64 (nvS.get 0 l' i)))))] (.tup 2 (fun j => match j with | 0 => (.sl 1 (nvS.len r.1) false (fun i j => (.v (.int .i64 (nvS.get 0 r.1 i))))) | 1 => (.v (.bool r.2)) | _ => .junk)) := by
  unfold lapwingref19_Invert at h
  refine fn_tr tt0_ok Try.func16 (by kernel_rfl) (c := bodyOf Try.f16) (by kernel_rfl) ?_
  intro ctr hc
  refine Tr.pre (cx := ⟨tt0, ⟨fun f => kOf [] f, fun k _ _ _ => orcL [] k, fun t => memN [] t⟩, 0, fun r => ghL [] r⟩) tt0_ok hPm 3 fun N hN => ?_
  generalize hp : std Try.prog = p
  generalize hv : nvS = nv
  cbv
  subst hp
  subst hv
  replace h := chk_some h; obtain ⟨h1, h⟩ := h
  have h1' := h1.1; have h1'' := h1.2.1
  refine ⟨h1, ?_⟩
  replace h := chk_some h; obtain ⟨h2, h⟩ := h
  have h2' := h2.1; have h2'' := h2.2.1
  refine ⟨h2, ?_⟩
  subst hN
  show Tr _ _ _ _
  refine Tr.cutSeq (α := List Int) h (fun out t' => ⟨frm 56 [(4, .vec 9 (t'.g 9) 1 0 (nvS.len l'))] 0, frO 56 [(9, .arr (t'.g 9) 1 (nvS.len l') (t'.t 9) (fun i j => (.v (.int .i64 (nvS.get 0 out i)))))] 0, t'.c⟩) (fun out t => Hid.ok t ∧ lenL out = (lenL l')) (fun x t' ht' h => ?_) (fun f h => ?_)
  · revert h; revert ht'; revert x; intro out ht' h
    obtain ⟨ht', ht'_f0⟩ := ht'
    obtain ⟨t'_c, t'_g, t'_t⟩ := t'
    have ht'_c : 0 < t'_c := ht'.1
    have ht'_g : ∀ k, t'_g k < t'_c := ht'.2
    refine Tr.chunk (cx := ⟨tt0, ⟨fun f => kOf [] f, fun k _ _ _ => orcL [] k, fun t => memN [] t⟩, 0, fun r => ghL [] r⟩) tt0_ok hPm fun N hN => ?_
    generalize hp : std Try.prog = p
    generalize hv : nvS = nv
    cbv
    subst hp
    subst hv
    subst hN
    have hr := Option.some.inj h
    subst hr
    try dsimp only [noGoto, inBlockQ, thenQ]
    repeat (first | refine (if_pos rfl).mpr ?_ | refine (if_neg (by decide)).mpr ?_)
    refine retQ_ret rfl ?_ ?_
    · exact trivial
    · exact (And.intro (And.intro (rfl)
          (And.intro (by first | rfl | assumption | (symm; assumption) | ((try dsimp only [std_eq, stdN, nvS]) <;> first | rfl | omega | (simp (disch := first | omega | (simp only [lenL_set, lenL_app, lenL_cons, lenL_nil] <;> omega)) only [lenL_bytes, lenL_set, lenL_app, lenL_cons, lenL_nil, lenL_rep, lenL_sub, lenL_cpy, Int.ofNat_eq_natCast, Int.zero_add, Int.sub_zero] <;> try omega)))
          (And.intro (fun h => by cases h)
          (out0_all (fun i j => out0_int _ _) (fun i i0 i1 j hj => by (try dsimp only [std_eq, stdN, nvS] at i1); (try simp only [Int.ofNat_eq_natCast] at i1); (obtain rfl : j = 0 := (by omega)) <;> (conv => lhs; whnf) <;> (conv => rhs; whnf) <;> (try dsimp only [std_eq, stdN, nvS]) <;> (first | rfl | (simp (disch := first | omega | (simp only [lenL_set, lenL_app, lenL_cons, lenL_nil] <;> omega)) only [getL_bytes, getL_put, getL_app, getL_rep, getL_sub, getL_cpy, Int.zero_add, Int.sub_zero, beq_iff_eq, decide_eq_true_eq, Bool.and_eq_true] <;> first | rfl | (split <;> first | rfl | (simp (disch := first | omega | (simp only [lenL_set, lenL_app, lenL_cons, lenL_nil] <;> omega)) only [getL_one, getL_zero] <;> rfl)) | ((simp only [lenL_app, lenL_cons, lenL_nil, Int.ofNat_eq_natCast]) <;> (repeat' split) <;> first | rfl | (exfalso; omega) | (simp (disch := omega) only [getL_one, getL_zero] <;> rfl) | (congr 3; omega)))))))))
          rfl)
  · refine Tr.pre (cx := ⟨tt0, ⟨fun f => kOf [] f, fun k _ _ _ => orcL [] k, fun t => memN [] t⟩, 0, fun r => ghL [] r⟩) tt0_ok hPm 1 fun N hN => ?_
    generalize hp : std Try.prog = p
    generalize hv : nvS = nv
    cbv
    subst hp
    subst hv
    subst hN
    show Tr _ _ _ _
    refine Tr.block ?_
    refine Tr.loopO (α := Int × List Int × List Bool) (fun (i, out1, met) t'1 => ⟨frm 56 [(0, .sl 1 (nvS.len l') false (fun i j => (.v (.int .i64 (nvS.get 0 l' i))))), (4, .vec 9 (t'1.g 9) 1 0 (nvS.len l')), (5, .vec 12 (t'1.g 12) 1 0 (nvS.len l')), (6, .v (.int .i64 i))] 0, frO 56 [(9, .arr (t'1.g 9) 1 (nvS.len l') (t'1.t 9) (fun i j => (.v (.int .i64 (nvS.get 0 out1 i))))), (12, .arr (t'1.g 12) 1 (nvS.len l') (t'1.t 12) (fun i j => (.v (.bool (nvS.get false met i)))))] 0, t'1.c⟩) (fun (i, out1, met) t => Hid.ok t ∧ lenL out1 = (lenL l') ∧ lenL met = (lenL l')) ⟨ctr + 13, gfn [(9, ctr + 1), (12, ctr + 2)], tfn [(9, ((std Try.prog).eq (nvS.len l') (nvS.len l'))), (12, ((std Try.prog).eq (nvS.len l') (nvS.len l')))]⟩ h ?_ ?_ (fun x t'1 f ht'1 h => ?_)
    · exact (And.intro (Hid.mk_ok (by omega) (And.intro (by omega)
          (And.intro (by omega)
          trivial)))
          (And.intro (by first | rfl | assumption | (symm; assumption) | ((try dsimp only [std_eq, stdN, nvS]) <;> first | rfl | omega | (simp (disch := first | omega | (simp only [lenL_set, lenL_app, lenL_cons, lenL_nil] <;> omega)) only [lenL_bytes, lenL_set, lenL_app, lenL_cons, lenL_nil, lenL_rep, lenL_sub, lenL_cpy, Int.ofNat_eq_natCast, Int.zero_add, Int.sub_zero] <;> try omega)))
          (by first | rfl | assumption | (symm; assumption) | ((try dsimp only [std_eq, stdN, nvS]) <;> first | rfl | omega | (simp (disch := first | omega | (simp only [lenL_set, lenL_app, lenL_cons, lenL_nil] <;> omega)) only [lenL_bytes, lenL_set, lenL_app, lenL_cons, lenL_nil, lenL_rep, lenL_sub, lenL_cpy, Int.ofNat_eq_natCast, Int.zero_add, Int.sub_zero] <;> try omega)))))
    · exact GeSt.of (LeSt.frame (by show (_ : Nat) < _; (try dsimp only [std_eq, stdN]); omega) rfl rfl (And.intro ⟨_, rfl, LeD.refl _⟩
          (And.intro ⟨_, rfl, LeD.refl _⟩
          (And.intro ⟨_, rfl, LeD.refl _⟩
          (And.intro ⟨_, rfl, LeD.refl _⟩
          trivial)))) (And.intro ⟨_, rfl, LeOb.arrE (by first | rfl | assumption | (symm; assumption) | ((try dsimp only [std_eq, stdN, nvS]) <;> first | rfl | omega | (simp (disch := first | omega | (simp only [lenL_set, lenL_app, lenL_cons, lenL_nil] <;> omega)) only [lenL_bytes, lenL_set, lenL_app, lenL_cons, lenL_nil, lenL_rep, lenL_sub, lenL_cpy, Int.ofNat_eq_natCast, Int.zero_add, Int.sub_zero] <;> try omega))) (fun i i0 i1 j hj => by (try dsimp only [std_eq, stdN, nvS] at i1); (try simp only [Int.ofNat_eq_natCast] at i1); (obtain rfl : j = 0 := (by omega)) <;> (conv => lhs; whnf) <;> (conv => rhs; whnf) <;> (try dsimp only [std_eq, stdN, nvS]) <;> (first | rfl | (simp (disch := first | omega | (simp only [lenL_set, lenL_app, lenL_cons, lenL_nil] <;> omega)) only [getL_bytes, getL_put, getL_app, getL_rep, getL_sub, getL_cpy, Int.zero_add, Int.sub_zero, beq_iff_eq, decide_eq_true_eq, Bool.and_eq_true] <;> first | rfl | (split <;> first | rfl | (simp (disch := first | omega | (simp only [lenL_set, lenL_app, lenL_cons, lenL_nil] <;> omega)) only [getL_one, getL_zero] <;> rfl)) | ((simp only [lenL_app, lenL_cons, lenL_nil, Int.ofNat_eq_natCast]) <;> (repeat' split) <;> first | rfl | (exfalso; omega) | (simp (disch := omega) only [getL_one, getL_zero] <;> rfl) | (congr 3; omega)))))⟩
          (And.intro ⟨_, rfl, LeOb.arrE (by first | rfl | assumption | (symm; assumption) | ((try dsimp only [std_eq, stdN, nvS]) <;> first | rfl | omega | (simp (disch := first | omega | (simp only [lenL_set, lenL_app, lenL_cons, lenL_nil] <;> omega)) only [lenL_bytes, lenL_set, lenL_app, lenL_cons, lenL_nil, lenL_rep, lenL_sub, lenL_cpy, Int.ofNat_eq_natCast, Int.zero_add, Int.sub_zero] <;> try omega))) (fun i i0 i1 j hj => by (try dsimp only [std_eq, stdN, nvS] at i1); (try simp only [Int.ofNat_eq_natCast] at i1); (obtain rfl : j = 0 := (by omega)) <;> (conv => lhs; whnf) <;> (conv => rhs; whnf) <;> (try dsimp only [std_eq, stdN, nvS]) <;> (first | rfl | (simp (disch := first | omega | (simp only [lenL_set, lenL_app, lenL_cons, lenL_nil] <;> omega)) only [getL_bytes, getL_put, getL_app, getL_rep, getL_sub, getL_cpy, Int.zero_add, Int.sub_zero, beq_iff_eq, decide_eq_true_eq, Bool.and_eq_true] <;> first | rfl | (split <;> first | rfl | (simp (disch := first | omega | (simp only [lenL_set, lenL_app, lenL_cons, lenL_nil] <;> omega)) only [getL_one, getL_zero] <;> rfl)) | ((simp only [lenL_app, lenL_cons, lenL_nil, Int.ofNat_eq_natCast]) <;> (repeat' split) <;> first | rfl | (exfalso; omega) | (simp (disch := omega) only [getL_one, getL_zero] <;> rfl) | (congr 3; omega)))))⟩
          trivial)))
    · obtain ⟨i, out1, met⟩ := x
      obtain ⟨ht'1, ht'1_f0, ht'1_f1⟩ := ht'1
      obtain ⟨t'1_c, t'1_g, t'1_t⟩ := t'1
      have ht'1_c : 0 < t'1_c := ht'1.1
      have ht'1_g : ∀ k, t'1_g k < t'1_c := ht'1.2
      refine Tr.chunk (cx := ⟨tt0, ⟨fun f => kOf [] f, fun k _ _ _ => orcL [] k, fun t => memN [] t⟩, 0, fun r => ghL [] r⟩) tt0_ok hPm fun N hN => ?_
      generalize hp : std Try.prog = p
      generalize hv : nvS = nv
      cbv
      subst hp
      subst hv
      refine ⟨fun h47 => ?_, fun h47 => ?_⟩
      · replace h := iteO_t h h47
        replace h := chk_some h; obtain ⟨h48, h⟩ := h
        replace h := chk_some h; obtain ⟨h49, h⟩ := h
        replace h := chk_some h; obtain ⟨h50, h⟩ := h
        replace h := chk_some h; obtain ⟨h51, h⟩ := h
        refine ⟨h48, (fun hg => hg), (fun hg => hg), h49, (fun hg => hg), (fun hg => hg), (fun hg => hg), (fun hg => hg), (fun hg => hg), (fun hg => hg), (fun hg => hg), h50, (fun hg => hg), (fun hg => hg), (fun hg => hg), h51, (fun hg => hg), (fun _ => rfl), (fun hg => hg), ?_⟩
        refine ⟨fun h52 => ?_, fun h52 => ?_⟩
        · replace h := iteO_t h h52
          subst hN
          cases h
          intro he; cases he
          intro hr
          subst hr
          try dsimp only [noGoto, inBlockQ, thenQ]
          repeat (first | refine (if_pos rfl).mpr ?_ | refine (if_neg (by decide)).mpr ?_)
          refine retQ_ret rfl ?_ ?_
          · exact trivial
          · exact (And.intro (rfl)
                rfl)
        · replace h := iteO_f h h52
          replace h := chk_some h; obtain ⟨h53, h⟩ := h
          replace h := chk_some h; obtain ⟨h54, h⟩ := h
          refine ⟨h53, h54, rfl, ?_⟩
          replace h := chk_some h; obtain ⟨h55, h⟩ := h
          replace h := chk_some h; obtain ⟨h56, h⟩ := h
          refine ⟨h55, h56, rfl, ?_⟩
          replace h := chk_some h; obtain ⟨h57, h⟩ := h
          refine ⟨h57, ?_⟩
          subst hN
          cases h
          show ∃ t', _ ∧ GeSt _ _ _
          refine ⟨⟨t'1_c + 14, gfn [(9, t'1_g 9), (12, t'1_g 12)], tfn [(9, t'1_t 9), (12, t'1_t 12)]⟩, (And.intro (Hid.mk_ok (by omega) (And.intro (by have := ht'1_g 9; omega)
              (And.intro (by have := ht'1_g 12; omega)
              trivial)))
              (And.intro (by first | rfl | assumption | (symm; assumption) | ((try dsimp only [std_eq, stdN, nvS]) <;> first | rfl | omega | (simp (disch := first | omega | (simp only [lenL_set, lenL_app, lenL_cons, lenL_nil] <;> omega)) only [lenL_bytes, lenL_set, lenL_app, lenL_cons, lenL_nil, lenL_rep, lenL_sub, lenL_cpy, Int.ofNat_eq_natCast, Int.zero_add, Int.sub_zero] <;> try omega)))
              (by first | rfl | assumption | (symm; assumption) | ((try dsimp only [std_eq, stdN, nvS]) <;> first | rfl | omega | (simp (disch := first | omega | (simp only [lenL_set, lenL_app, lenL_cons, lenL_nil] <;> omega)) only [lenL_bytes, lenL_set, lenL_app, lenL_cons, lenL_nil, lenL_rep, lenL_sub, lenL_cpy, Int.ofNat_eq_natCast, Int.zero_add, Int.sub_zero] <;> try omega))))), ?_⟩
          exact GeSt.of (LeSt.frame (by show (_ : Nat) < _; (try dsimp only [std_eq, stdN]); omega) rfl rfl (And.intro ⟨_, rfl, LeD.refl _⟩
              (And.intro ⟨_, rfl, LeD.refl _⟩
              (And.intro ⟨_, rfl, LeD.refl _⟩
              (And.intro ⟨_, rfl, LeD.refl _⟩
              trivial)))) (And.intro ⟨_, rfl, LeOb.arrE (by first | rfl | assumption | (symm; assumption) | ((try dsimp only [std_eq, stdN, nvS]) <;> first | rfl | omega | (simp (disch := first | omega | (simp only [lenL_set, lenL_app, lenL_cons, lenL_nil] <;> omega)) only [lenL_bytes, lenL_set, lenL_app, lenL_cons, lenL_nil, lenL_rep, lenL_sub, lenL_cpy, Int.ofNat_eq_natCast, Int.zero_add, Int.sub_zero] <;> try omega))) (fun i i0 i1 j hj => by (try dsimp only [std_eq, stdN, nvS] at i1); (try simp only [Int.ofNat_eq_natCast] at i1); (obtain rfl : j = 0 := (by omega)) <;> (conv => lhs; whnf) <;> (conv => rhs; whnf) <;> (try dsimp only [std_eq, stdN, nvS]) <;> (first | rfl | (simp (disch := first | omega | (simp only [lenL_set, lenL_app, lenL_cons, lenL_nil] <;> omega)) only [getL_bytes, getL_put, getL_app, getL_rep, getL_sub, getL_cpy, Int.zero_add, Int.sub_zero, beq_iff_eq, decide_eq_true_eq, Bool.and_eq_true] <;> first | rfl | (split <;> first | rfl | (simp (disch := first | omega | (simp only [lenL_set, lenL_app, lenL_cons, lenL_nil] <;> omega)) only [getL_one, getL_zero] <;> rfl)) | ((simp only [lenL_app, lenL_cons, lenL_nil, Int.ofNat_eq_natCast]) <;> (repeat' split) <;> first | rfl | (exfalso; omega) | (simp (disch := omega) only [getL_one, getL_zero] <;> rfl) | (congr 3; omega)))))⟩
              (And.intro ⟨_, rfl, LeOb.arrE (by first | rfl | assumption | (symm; assumption) | ((try dsimp only [std_eq, stdN, nvS]) <;> first | rfl | omega | (simp (disch := first | omega | (simp only [lenL_set, lenL_app, lenL_cons, lenL_nil] <;> omega)) only [lenL_bytes, lenL_set, lenL_app, lenL_cons, lenL_nil, lenL_rep, lenL_sub, lenL_cpy, Int.ofNat_eq_natCast, Int.zero_add, Int.sub_zero] <;> try omega))) (fun i i0 i1 j hj => by (try dsimp only [std_eq, stdN, nvS] at i1); (try simp only [Int.ofNat_eq_natCast] at i1); (obtain rfl : j = 0 := (by omega)) <;> (conv => lhs; whnf) <;> (conv => rhs; whnf) <;> (try dsimp only [std_eq, stdN, nvS]) <;> (first | rfl | (simp (disch := first | omega | (simp only [lenL_set, lenL_app, lenL_cons, lenL_nil] <;> omega)) only [getL_bytes, getL_put, getL_app, getL_rep, getL_sub, getL_cpy, Int.zero_add, Int.sub_zero, beq_iff_eq, decide_eq_true_eq, Bool.and_eq_true] <;> first | rfl | (split <;> first | rfl | (simp (disch := first | omega | (simp only [lenL_set, lenL_app, lenL_cons, lenL_nil] <;> omega)) only [getL_one, getL_zero] <;> rfl)) | ((simp only [lenL_app, lenL_cons, lenL_nil, Int.ofNat_eq_natCast]) <;> (repeat' split) <;> first | rfl | (exfalso; omega) | (simp (disch := omega) only [getL_one, getL_zero] <;> rfl) | (congr 3; omega)))))⟩
              trivial)))
      · replace h := iteO_f h h47
        subst hN
        cases h
        intro he; cases he
        show ∃ t', _ ∧ GeSt _ _ _
        refine ⟨⟨t'1_c + 10, gfn [(9, t'1_g 9)], tfn [(9, t'1_t 9)]⟩, (And.intro (Hid.mk_ok (by omega) (And.intro (by have := ht'1_g 9; omega)
            trivial))
            (by first | rfl | assumption | (symm; assumption) | ((try dsimp only [std_eq, stdN, nvS]) <;> first | rfl | omega | (simp (disch := first | omega | (simp only [lenL_set, lenL_app, lenL_cons, lenL_nil] <;> omega)) only [lenL_bytes, lenL_set, lenL_app, lenL_cons, lenL_nil, lenL_rep, lenL_sub, lenL_cpy, Int.ofNat_eq_natCast, Int.zero_add, Int.sub_zero] <;> try omega)))), ?_⟩
        exact GeSt.of (LeSt.frame (by show (_ : Nat) < _; (try dsimp only [std_eq, stdN]); omega) rfl rfl (And.intro ⟨_, rfl, LeD.refl _⟩
            trivial) (And.intro ⟨_, rfl, LeOb.refl _⟩
            trivial))

theorem lapwingref19_Runs_ok (levels : (List Int)) (r : (List T_Arr2_i64)) (h : lapwingref19_Runs levels = some r) : PureFn Try.prog 22 [(.sl 1 (nvS.len levels) false (fun i j => (.v (.int .i64 (nvS.get 0 levels i)))))] (.own 2 (nvS.len r) false (fun i j => (D_Arr2_i64 nvS (nvS.get d_Arr2_i64 r i) j))) := by
  unfold lapwingref19_Runs at h
  refine fn_tr tt0_ok Try.func22 (by kernel_rfl) (c := bodyOf Try.f22) (by kernel_rfl) ?_
  intro ctr hc
  refine Tr.pre (cx := ⟨tt0, ⟨fun f => kOf [] f, fun k _ _ _ => orcL [] k, fun t => memN [] t⟩, 0, fun r => ghL [] r⟩) tt0_ok hPm 3 fun N hN => ?_
  generalize hp : std Try.prog = p
  generalize hv : nvS = nv
  cbv
  subst hp
  subst hv
  subst hN
  show Tr _ _ _ _
  refine Tr.cutSeq (α := List T_Arr2_i64) h (fun out t' => ⟨frm 35 [(3, .vec 32 (t'.g 32) 2 0 (nvS.len out))] 0, frO 35 [(32, .arr (t'.g 32) 2 (nvS.len out) (t'.t 32) (fun i j => (D_Arr2_i64 nvS (nvS.get d_Arr2_i64 out i) j)))] 0, t'.c⟩) (fun _ t => Hid.ok t) (fun x t' ht' h => ?_) (fun f h => ?_)
  · revert h; revert ht'; revert x; intro out ht' h
    obtain ⟨t'_c, t'_g, t'_t⟩ := t'
    have ht'_c : 0 < t'_c := ht'.1
    have ht'_g : ∀ k, t'_g k < t'_c := ht'.2
    refine Tr.chunk (cx := ⟨tt0, ⟨fun f => kOf [] f, fun k _ _ _ => orcL [] k, fun t => memN [] t⟩, 0, fun r => ghL [] r⟩) tt0_ok hPm fun N hN => ?_
    generalize hp : std Try.prog = p
    generalize hv : nvS = nv
    cbv
    subst hp
    subst hv
    subst hN
    have hr := Option.some.inj h
    subst hr
    try dsimp only [noGoto, inBlockQ, thenQ]
    repeat (first | refine (if_pos rfl).mpr ?_ | refine (if_neg (by decide)).mpr ?_)
    refine retQ_ret rfl ?_ ?_
    · exact trivial
    · exact (And.intro (rfl)
          (And.intro (by first | rfl | assumption | (symm; assumption) | ((try dsimp only [std_eq, stdN, nvS]) <;> first | rfl | omega | (simp (disch := first | omega | (simp only [lenL_set, lenL_app, lenL_cons, lenL_nil] <;> omega)) only [lenL_bytes, lenL_set, lenL_app, lenL_cons, lenL_nil, lenL_rep, lenL_sub, lenL_cpy, Int.ofNat_eq_natCast, Int.zero_add, Int.sub_zero] <;> try omega)))
          (And.intro (fun h => by cases h)
          (out0_all (fun i j => out_Arr2_i64 _ _) (fun i i0 i1 j hj => by (try dsimp only [std_eq, stdN, nvS] at i1); (try simp only [Int.ofNat_eq_natCast] at i1); (rcases (show j = 0 ∨ j = 1 by omega) with rfl | rfl) <;> (conv => lhs; whnf) <;> (conv => rhs; whnf) <;> (try dsimp only [std_eq, stdN, nvS]) <;> (first | rfl | (simp (disch := first | omega | (simp only [lenL_set, lenL_app, lenL_cons, lenL_nil] <;> omega)) only [getL_bytes, getL_put, getL_app, getL_rep, getL_sub, getL_cpy, Int.zero_add, Int.sub_zero, beq_iff_eq, decide_eq_true_eq, Bool.and_eq_true] <;> first | rfl | (split <;> first | rfl | (simp (disch := first | omega | (simp only [lenL_set, lenL_app, lenL_cons, lenL_nil] <;> omega)) only [getL_one, getL_zero] <;> rfl)) | ((simp only [lenL_app, lenL_cons, lenL_nil, Int.ofNat_eq_natCast]) <;> (repeat' split) <;> first | rfl | (exfalso; omega) | (simp (disch := omega) only [getL_one, getL_zero] <;> rfl) | (congr 3; omega)))))))))
  · refine Tr.pre (cx := ⟨tt0, ⟨fun f => kOf [] f, fun k _ _ _ => orcL [] k, fun t => memN [] t⟩, 0, fun r => ghL [] r⟩) tt0_ok hPm 1 fun N hN => ?_
    generalize hp : std Try.prog = p
    generalize hv : nvS = nv
    cbv
    subst hp
    subst hv
    subst hN
    show Tr _ _ _ _
    refine Tr.block ?_
    refine Tr.loopO (α := Int × Int × List T_Arr2_i64) (fun (from', i, out1) t'1 => ⟨frm 35 [(0, .sl 1 (nvS.len levels) false (fun i j => (.v (.int .i64 (nvS.get 0 levels i))))), (3, .vec 32 (t'1.g 32) 2 0 (nvS.len out1)), (4, .v (.int .i64 from')), (5, .v (.int .i64 i))] 0, frO 35 [(32, .arr (t'1.g 32) 2 (nvS.len out1) (t'1.t 32) (fun i j => (D_Arr2_i64 nvS (nvS.get d_Arr2_i64 out1 i) j)))] 0, t'1.c⟩) (fun _ t => Hid.ok t) ⟨ctr + 14, gfn [(32, ctr + 4)], tfn [(32, false)]⟩ h ?_ ?_ (fun x t'1 f ht'1 h => ?_)
    · exact Hid.mk_ok (by omega) (And.intro (by omega)
          trivial)
    · refine GeSt.by [.thaw (.slot 3) 32 2] rfl ?_ ?_
      · exact trivial
      · exact LeSt.frame (show ctr + 5 < ctr + 14 by omega) rfl rfl (And.intro ⟨_, rfl, LeD.refl _⟩
            (And.intro ⟨_, rfl, LeD.refl _⟩
            (And.intro ⟨_, rfl, LeD.refl _⟩
            (And.intro ⟨_, rfl, LeD.refl _⟩
            trivial)))) (And.intro ⟨_, rfl, LeOb.arr' rfl (fun i i0 i1 j hj => by exfalso; revert i1; show i < (0 : Int) → False; omega)⟩
            trivial)
    · obtain ⟨from', i, out1⟩ := x
      obtain ⟨t'1_c, t'1_g, t'1_t⟩ := t'1
      have ht'1_c : 0 < t'1_c := ht'1.1
      have ht'1_g : ∀ k, t'1_g k < t'1_c := ht'1.2
      refine Tr.chunk (cx := ⟨tt0, ⟨fun f => kOf [] f, fun k _ _ _ => orcL [] k, fun t => memN [31] t⟩, 0, fun r => ghL [] r⟩) tt0_ok hPm fun N hN => ?_
      generalize hp : std Try.prog = p
      generalize hv : nvS = nv
      cbv
      subst hp
      subst hv
      refine ⟨fun h29 => ?_, fun h29 => ?_⟩
      · replace h := iteO_t h h29
        replace h := chk_some h; obtain ⟨h30, h⟩ := h
        replace h := chk_some h; obtain ⟨h31, h⟩ := h
        refine ⟨(fun hg => hg), (fun hg => hg), h30, (fun hg => hg), (fun hg => hg), (fun hg => hg), h31, (fun hg => hg), (fun hg => hg), (fun hg => hg), (fun hg => hg), (show drOk _ _ = true by kernel_rfl), ?_⟩
        refine ⟨fun h32 => ?_, fun h32 => ?_⟩
        · replace h := iteO_t h h32
          replace h := chk_some h; obtain ⟨h33, h⟩ := h
          refine ⟨rfl, (by have := ht'1_g 32; show (_ : Nat) < _; try dsimp only [std_eq, stdN]; omega), h33, ?_⟩
          replace h := chk_some h; obtain ⟨h34, h⟩ := h
          refine ⟨h34, ?_⟩
          subst hN
          cases h
          show ∃ t', _ ∧ GeSt _ _ _
          refine ⟨⟨t'1_c + 14, gfn [(32, t'1_c + 2)], tfn [(32, false)]⟩, Hid.mk_ok (by omega) (And.intro (by omega)
              trivial), ?_⟩
          exact GeSt.of (LeSt.frame (by show (_ : Nat) < _; (try dsimp only [std_eq, stdN]); omega) rfl rfl (And.intro ⟨_, rfl, LeD.refl _⟩
              (And.intro ⟨_, rfl, LeD.vec rfl (by first | rfl | assumption | (symm; assumption) | ((try dsimp only [std_eq, stdN, nvS]) <;> first | rfl | omega | (simp (disch := first | omega | (simp only [lenL_set, lenL_app, lenL_cons, lenL_nil] <;> omega)) only [lenL_bytes, lenL_set, lenL_app, lenL_cons, lenL_nil, lenL_rep, lenL_sub, lenL_cpy, Int.ofNat_eq_natCast, Int.zero_add, Int.sub_zero] <;> try omega)))⟩
              (And.intro ⟨_, rfl, LeD.refl _⟩
              (And.intro ⟨_, rfl, LeD.refl _⟩
              trivial)))) (And.intro ⟨_, rfl, LeOb.arrE (by first | rfl | assumption | (symm; assumption) | ((try dsimp only [std_eq, stdN, nvS]) <;> first | rfl | omega | (simp (disch := first | omega | (simp only [lenL_set, lenL_app, lenL_cons, lenL_nil] <;> omega)) only [lenL_bytes, lenL_set, lenL_app, lenL_cons, lenL_nil, lenL_rep, lenL_sub, lenL_cpy, Int.ofNat_eq_natCast, Int.zero_add, Int.sub_zero] <;> try omega))) (fun i i0 i1 j hj => by (try dsimp only [std_eq, stdN, nvS] at i1); (try simp only [Int.ofNat_eq_natCast] at i1); (rcases (show j = 0 ∨ j = 1 by omega) with rfl | rfl) <;> (conv => lhs; whnf) <;> (conv => rhs; whnf) <;> (try dsimp only [std_eq, stdN, nvS]) <;> (first | rfl | (simp (disch := first | omega | (simp only [lenL_set, lenL_app, lenL_cons, lenL_nil] <;> omega)) only [getL_bytes, getL_put, getL_app, getL_rep, getL_sub, getL_cpy, Int.zero_add, Int.sub_zero, beq_iff_eq, decide_eq_true_eq, Bool.and_eq_true] <;> first | rfl | (split <;> first | rfl | (simp (disch := first | omega | (simp only [lenL_set, lenL_app, lenL_cons, lenL_nil] <;> omega)) only [getL_one, getL_zero] <;> rfl)) | ((simp only [lenL_app, lenL_cons, lenL_nil, Int.ofNat_eq_natCast]) <;> (repeat' split) <;> first | rfl | (exfalso; omega) | (simp (disch := omega) only [getL_one, getL_zero] <;> rfl) | (congr 3; omega)))))⟩
              trivial))
        · replace h := iteO_f h h32
          replace h := chk_some h; obtain ⟨h35, h⟩ := h
          refine ⟨h35, ?_⟩
          subst hN
          cases h
          show ∃ t', _ ∧ GeSt _ _ _
          refine ⟨⟨t'1_c + 12, gfn [(32, t'1_g 32)], tfn [(32, t'1_t 32)]⟩, Hid.mk_ok (by omega) (And.intro (by have := ht'1_g 32; omega)
              trivial), ?_⟩
          exact GeSt.of (LeSt.frame (by show (_ : Nat) < _; (try dsimp only [std_eq, stdN]); omega) rfl rfl (And.intro ⟨_, rfl, LeD.refl _⟩
              (And.intro ⟨_, rfl, LeD.refl _⟩
              (And.intro ⟨_, rfl, LeD.refl _⟩
              (And.intro ⟨_, rfl, LeD.refl _⟩
              trivial)))) (And.intro ⟨_, rfl, LeOb.refl _⟩
              trivial))
      · replace h := iteO_f h h29
        subst hN
        cases h
        intro he; cases he
        show ∃ t', _ ∧ GeSt _ _ _
        refine ⟨⟨t'1_c + 10, gfn [(32, t'1_g 32)], tfn [(32, t'1_t 32)]⟩, Hid.mk_ok (by omega) (And.intro (by have := ht'1_g 32; omega)
            trivial), ?_⟩
        exact GeSt.of (LeSt.frame (by show (_ : Nat) < _; (try dsimp only [std_eq, stdN]); omega) rfl rfl (And.intro ⟨_, rfl, LeD.vec rfl (by first | rfl | assumption | (symm; assumption) | ((try dsimp only [std_eq, stdN, nvS]) <;> first | rfl | omega | (simp (disch := first | omega | (simp only [lenL_set, lenL_app, lenL_cons, lenL_nil] <;> omega)) only [lenL_bytes, lenL_set, lenL_app, lenL_cons, lenL_nil, lenL_rep, lenL_sub, lenL_cpy, Int.ofNat_eq_natCast, Int.zero_add, Int.sub_zero] <;> try omega)))⟩
            trivial) (And.intro ⟨_, rfl, LeOb.arrE (by first | rfl | assumption | (symm; assumption) | ((try dsimp only [std_eq, stdN, nvS]) <;> first | rfl | omega | (simp (disch := first | omega | (simp only [lenL_set, lenL_app, lenL_cons, lenL_nil] <;> omega)) only [lenL_bytes, lenL_set, lenL_app, lenL_cons, lenL_nil, lenL_rep, lenL_sub, lenL_cpy, Int.ofNat_eq_natCast, Int.zero_add, Int.sub_zero] <;> try omega))) (fun i i0 i1 j hj => by (try dsimp only [std_eq, stdN, nvS] at i1); (try simp only [Int.ofNat_eq_natCast] at i1); (rcases (show j = 0 ∨ j = 1 by omega) with rfl | rfl) <;> (conv => lhs; whnf) <;> (conv => rhs; whnf) <;> (try dsimp only [std_eq, stdN, nvS]) <;> (first | rfl | (simp (disch := first | omega | (simp only [lenL_set, lenL_app, lenL_cons, lenL_nil] <;> omega)) only [getL_bytes, getL_put, getL_app, getL_rep, getL_sub, getL_cpy, Int.zero_add, Int.sub_zero, beq_iff_eq, decide_eq_true_eq, Bool.and_eq_true] <;> first | rfl | (split <;> first | rfl | (simp (disch := first | omega | (simp only [lenL_set, lenL_app, lenL_cons, lenL_nil] <;> omega)) only [getL_one, getL_zero] <;> rfl)) | ((simp only [lenL_app, lenL_cons, lenL_nil, Int.ofNat_eq_natCast]) <;> (repeat' split) <;> first | rfl | (exfalso; omega) | (simp (disch := omega) only [getL_one, getL_zero] <;> rfl) | (congr 3; omega)))))⟩
            trivial))

theorem lapwingref18_Pairwise_ok (a : (List T_Arr2_i64)) (b : (List T_Arr2_i64)) (r : Bool) (h : lapwingref18_Pairwise a b = some r) : PureFn Try.prog 21 [(.sl 2 (nvS.len a) false (fun i j => (D_Arr2_i64 nvS (nvS.get d_Arr2_i64 a i) j))), (.sl 2 (nvS.len b) false (fun i j => (D_Arr2_i64 nvS (nvS.get d_Arr2_i64 b i) j)))] ((.v (.bool r))) := by
  unfold lapwingref18_Pairwise at h
  refine fn_tr tt0_ok Try.func21 (by kernel_rfl) (c := bodyOf Try.f21) (by kernel_rfl) ?_
  intro ctr hc
  refine Tr.pre (cx := ⟨tt0, ⟨fun f => kOf [] f, fun k _ _ _ => orcL [] k, fun t => memN [] t⟩, 0, fun r => ghL [] r⟩) tt0_ok hPm 2 fun N hN => ?_
  generalize hp : std Try.prog = p
  generalize hv : nvS = nv
  cbv
  subst hp
  subst hv
  refine ⟨fun h1 => ?_, fun h1 => ?_⟩
  · replace h := iteO_t h h1
    subst hN
    have hr := Option.some.inj h
    subst hr
    try dsimp only [noGoto, inBlockQ, thenQ]
    repeat (first | refine (if_pos rfl).mpr ?_ | refine (if_neg (by decide)).mpr ?_)
    refine retQ_ret rfl ?_ ?_
    · exact trivial
    · exact rfl
  · replace h := iteO_f h h1
    subst hN
    show Tr _ _ _ _
    refine Tr.cutSeq (α := Unit) h (fun _ t' => ⟨frm 26 [] 0, frO 26 [] 0, t'.c⟩) (fun _ t => Hid.ok t) (fun x t' ht' h => ?_) (fun f h => ?_)
    · obtain ⟨t'_c, t'_g, t'_t⟩ := t'
      have ht'_c : 0 < t'_c := ht'.1
      have ht'_g : ∀ k, t'_g k < t'_c := ht'.2
      refine Tr.chunk (cx := ⟨tt0, ⟨fun f => kOf [] f, fun k _ _ _ => orcL [] k, fun t => memN [] t⟩, 0, fun r => ghL [] r⟩) tt0_ok hPm fun N hN => ?_
      generalize hp : std Try.prog = p
      generalize hv : nvS = nv
      cbv
      subst hp
      subst hv
      subst hN
      have hr := Option.some.inj h
      subst hr
      try dsimp only [noGoto, inBlockQ, thenQ]
      repeat (first | refine (if_pos rfl).mpr ?_ | refine (if_neg (by decide)).mpr ?_)
      refine retQ_ret rfl ?_ ?_
      · exact trivial
      · exact rfl
    · refine Tr.pre (cx := ⟨tt0, ⟨fun f => kOf [] f, fun k _ _ _ => orcL [] k, fun t => memN [] t⟩, 0, fun r => ghL [] r⟩) tt0_ok hPm 1 fun N hN => ?_
      generalize hp : std Try.prog = p
      generalize hv : nvS = nv
      cbv
      subst hp
      subst hv
      subst hN
      show Tr _ _ _ _
      refine Tr.block ?_
      refine Tr.loopO (α := Int) (fun i t'1 => ⟨frm 26 [(0, .sl 2 (nvS.len a) false (fun i j => (D_Arr2_i64 nvS (nvS.get d_Arr2_i64 a i) j))), (1, .sl 2 (nvS.len b) false (fun i j => (D_Arr2_i64 nvS (nvS.get d_Arr2_i64 b i) j))), (5, .v (.int .i64 i))] 0, frO 26 [] 0, t'1.c⟩) (fun _ t => Hid.ok t) ⟨ctr + 12, gfn [], tfn []⟩ h ?_ ?_ (fun x t'1 f ht'1 h => ?_)
      · exact Hid.mk_ok (by omega) trivial
      · exact GeSt.of (LeSt.frame (by show (_ : Nat) < _; (try dsimp only [std_eq, stdN]); omega) rfl rfl (And.intro ⟨_, rfl, LeD.refl _⟩
            (And.intro ⟨_, rfl, LeD.refl _⟩
            (And.intro ⟨_, rfl, LeD.refl _⟩
            trivial))) trivial)
      · revert h; revert ht'1; revert x; intro i ht'1 h
        obtain ⟨t'1_c, t'1_g, t'1_t⟩ := t'1
        have ht'1_c : 0 < t'1_c := ht'1.1
        have ht'1_g : ∀ k, t'1_g k < t'1_c := ht'1.2
        refine Tr.chunk (cx := ⟨tt0, ⟨fun f => kOf [] f, fun k _ _ _ => orcL [] k, fun t => memN [] t⟩, 0, fun r => ghL [] r⟩) tt0_ok hPm fun N hN => ?_
        generalize hp : std Try.prog = p
        generalize hv : nvS = nv
        cbv
        subst hp
        subst hv
        refine ⟨fun h22 => ?_, fun h22 => ?_⟩
        · replace h := iteO_t h h22
          replace h := chk_some h; obtain ⟨h23, h⟩ := h
          replace h := chk_some h; obtain ⟨h24, h⟩ := h
          refine ⟨h23, h24, (show drOk _ _ = true by kernel_rfl), ?_⟩
          refine ⟨fun h25 => ?_, fun h25 => ?_⟩
          · replace h := iteO_t h h25
            subst hN
            cases h
            intro he; cases he
            intro hr
            subst hr
            try dsimp only [noGoto, inBlockQ, thenQ]
            repeat (first | refine (if_pos rfl).mpr ?_ | refine (if_neg (by decide)).mpr ?_)
            refine retQ_ret rfl ?_ ?_
            · exact trivial
            · exact rfl
          · replace h := iteO_f h h25
            replace h := chk_some h; obtain ⟨h26, h⟩ := h
            refine ⟨h26, ?_⟩
            subst hN
            cases h
            show ∃ t', _ ∧ GeSt _ _ _
            refine ⟨⟨t'1_c + 12, gfn [], tfn []⟩, Hid.mk_ok (by omega) trivial, ?_⟩
            exact GeSt.of (LeSt.frame (by show (_ : Nat) < _; (try dsimp only [std_eq, stdN]); omega) rfl rfl (And.intro ⟨_, rfl, LeD.refl _⟩
                (And.intro ⟨_, rfl, LeD.refl _⟩
                (And.intro ⟨_, rfl, LeD.refl _⟩
                trivial))) trivial)
        · replace h := iteO_f h h22
          subst hN
          cases h
          intro he; cases he
          show ∃ t', _ ∧ GeSt _ _ _
          refine ⟨⟨t'1_c + 10, gfn [], tfn []⟩, Hid.mk_ok (by omega) trivial, ?_⟩
          exact GeSt.of (LeSt.frame (by show (_ : Nat) < _; (try dsimp only [std_eq, stdN]); omega) rfl rfl trivial trivial)

theorem order_passed_ok (c' : Int) (r : Bool) (h : order_passed c' = some r) : PureFn Try.prog 27 [(.v (.int .i64 c'))] ((.v (.bool r))) := by
  unfold order_passed at h
  refine fn_tr tt0_ok Try.func27 (by kernel_rfl) (c := bodyOf Try.f27) (by kernel_rfl) ?_
  intro ctr hc
  refine Tr.pre (cx := ⟨tt0, ⟨fun f => kOf [] f, fun k _ _ _ => orcL [] k, fun t => memN [] t⟩, 0, fun r => ghL [] r⟩) tt0_ok hPm 1 fun N hN => ?_
  generalize hp : std Try.prog = p
  generalize hv : nvS = nv
  cbv
  subst hp
  subst hv
  subst hN
  show Tr _ _ _ _
  refine Tr.cutSeq (α := Unit) h (fun _ t' => ⟨frm 16 [] 0, frO 16 [] 0, t'.c⟩) (fun _ t => Hid.ok t) (fun x t' ht' h => ?_) (fun f h => ?_)
  · obtain ⟨t'_c, t'_g, t'_t⟩ := t'
    have ht'_c : 0 < t'_c := ht'.1
    have ht'_g : ∀ k, t'_g k < t'_c := ht'.2
    refine Tr.chunk (cx := ⟨tt0, ⟨fun f => kOf [] f, fun k _ _ _ => orcL [] k, fun t => memN [] t⟩, 0, fun r => ghL [] r⟩) tt0_ok hPm fun N hN => ?_
    generalize hp : std Try.prog = p
    generalize hv : nvS = nv
    cbv
    subst hp
    subst hv
    subst hN
    have hr := Option.some.inj h
    subst hr
    try dsimp only [noGoto, inBlockQ, thenQ]
    repeat (first | refine (if_pos rfl).mpr ?_ | refine (if_neg (by decide)).mpr ?_)
    refine retQ_ret rfl ?_ ?_
    · exact trivial
    · exact rfl
  · refine Tr.pre (cx := ⟨tt0, ⟨fun f => kOf [] f, fun k _ _ _ => orcL [] k, fun t => memN [] t⟩, 0, fun r => ghL [] r⟩) tt0_ok hPm 1 fun N hN => ?_
    generalize hp : std Try.prog = p
    generalize hv : nvS = nv
    cbv
    subst hp
    subst hv
    subst hN
    show Tr _ _ _ _
    refine Tr.block ?_
    refine Tr.cutSeq (α := Bool) h (fun v t'1 => ⟨frm 16 [(4, .v (.bool v))] 0, frO 16 [] 0, t'1.c⟩) (fun _ t => Hid.ok t) (fun x t'1 ht'1 h => ?_) (fun f h => ?_)
    · revert h; revert ht'1; revert x; intro v ht'1 h
      obtain ⟨t'1_c, t'1_g, t'1_t⟩ := t'1
      have ht'1_c : 0 < t'1_c := ht'1.1
      have ht'1_g : ∀ k, t'1_g k < t'1_c := ht'1.2
      refine Tr.chunk (cx := ⟨tt0, ⟨fun f => kOf [] f, fun k _ _ _ => orcL [] k, fun t => memN [] t⟩, 0, fun r => ghL [] r⟩) tt0_ok hPm fun N hN => ?_
      generalize hp : std Try.prog = p
      generalize hv : nvS = nv
      cbv
      subst hp
      subst hv
      refine ⟨fun h22 => ?_, fun h22 => ?_⟩
      · replace h := iteO_t h h22
        subst hN
        cases h
        intro hr
        subst hr
        try dsimp only [noGoto, inBlockQ, thenQ]
        repeat (first | refine (if_pos rfl).mpr ?_ | refine (if_neg (by decide)).mpr ?_)
        refine retQ_ret rfl ?_ ?_
        · exact trivial
        · exact rfl
      · replace h := iteO_f h h22
        subst hN
        cases h
        show ∃ t', _ ∧ GeSt _ _ _
        refine ⟨⟨t'1_c + 9, gfn [], tfn []⟩, Hid.mk_ok (by omega) trivial, ?_⟩
        exact GeSt.of (LeSt.frame (by show (_ : Nat) < _; (try dsimp only [std_eq, stdN]); omega) rfl rfl trivial trivial)
    · refine Tr.pre (cx := ⟨tt0, ⟨fun f => kOf [] f, fun k _ _ _ => orcL [] k, fun t => memN [] t⟩, 0, fun r => ghL [] r⟩) tt0_ok hPm 1 fun N hN => ?_
      generalize hp : std Try.prog = p
      generalize hv : nvS = nv
      cbv
      subst hp
      subst hv
      subst hN
      show Tr _ _ _ _
      refine Tr.cond rfl (fun q hq => by cases hq) (fun h23 => ?_) (fun h23 => ?_)
      · replace h := iteO_t h h23
        refine Tr.chunk (cx := ⟨tt0, ⟨fun f => kOf [] f, fun k _ _ _ => orcL [] k, fun t => memN [] t⟩, 0, fun r => ghL [] r⟩) tt0_ok hPm fun N hN => ?_
        generalize hp : std Try.prog = p
        generalize hv : nvS = nv
        cbv
        subst hp
        subst hv
        subst hN
        cases h
        show ∃ t', _ ∧ GeSt _ _ _
        refine ⟨⟨ctr + 12, gfn [], tfn []⟩, Hid.mk_ok (by omega) trivial, ?_⟩
        exact GeSt.of (LeSt.frame (by show (_ : Nat) < _; (try dsimp only [std_eq, stdN]); omega) rfl rfl (And.intro ⟨_, rfl, LeD.refl _⟩
            trivial) trivial)
      · replace h := iteO_f h h23
        refine Tr.pre (cx := ⟨tt0, ⟨fun f => kOf [] f, fun k _ _ _ => orcL [] k, fun t => memN [] t⟩, 0, fun r => ghL [] r⟩) tt0_ok hPm 1 fun N hN => ?_
        generalize hp : std Try.prog = p
        generalize hv : nvS = nv
        cbv
        subst hp
        subst hv
        subst hN
        show Tr _ _ _ _
        refine Tr.cond rfl (fun q hq => by cases hq) (fun h24 => ?_) (fun h24 => ?_)
        · replace h := iteO_t h h24
          refine Tr.chunk (cx := ⟨tt0, ⟨fun f => kOf [] f, fun k _ _ _ => orcL [] k, fun t => memN [] t⟩, 0, fun r => ghL [] r⟩) tt0_ok hPm fun N hN => ?_
          generalize hp : std Try.prog = p
          generalize hv : nvS = nv
          cbv
          subst hp
          subst hv
          subst hN
          cases h
          show ∃ t', _ ∧ GeSt _ _ _
          refine ⟨⟨ctr + 13, gfn [], tfn []⟩, Hid.mk_ok (by omega) trivial, ?_⟩
          exact GeSt.of (LeSt.frame (by show (_ : Nat) < _; (try dsimp only [std_eq, stdN]); omega) rfl rfl (And.intro ⟨_, rfl, LeD.refl _⟩
              trivial) trivial)
        · replace h := iteO_f h h24
          refine Tr.chunk (cx := ⟨tt0, ⟨fun f => kOf [] f, fun k _ _ _ => orcL [] k, fun t => memN [] t⟩, 0, fun r => ghL [] r⟩) tt0_ok hPm fun N hN => ?_
          generalize hp : std Try.prog = p
          generalize hv : nvS = nv
          cbv
          subst hp
          subst hv
          refine ⟨fun h25 => ?_, fun h25 => ?_⟩
          · replace h := iteO_t h h25
            subst hN
            cases h
            show ∃ t', _ ∧ GeSt _ _ _
            refine ⟨⟨ctr + 14, gfn [], tfn []⟩, Hid.mk_ok (by omega) trivial, ?_⟩
            exact GeSt.of (LeSt.frame (by show (_ : Nat) < _; (try dsimp only [std_eq, stdN]); omega) rfl rfl (And.intro ⟨_, rfl, LeD.refl _⟩
                trivial) trivial)
          · replace h := iteO_f h h25
            refine ⟨fun h26 => ?_, fun h26 => ?_⟩
            · replace h := iteO_t h h26
              subst hN
              cases h
              show ∃ t', _ ∧ GeSt _ _ _
              refine ⟨⟨ctr + 15, gfn [], tfn []⟩, Hid.mk_ok (by omega) trivial, ?_⟩
              exact GeSt.of (LeSt.frame (by show (_ : Nat) < _; (try dsimp only [std_eq, stdN]); omega) rfl rfl (And.intro ⟨_, rfl, LeD.refl _⟩
                  trivial) trivial)
            · replace h := iteO_f h h26
              refine ⟨fun h27 => ?_, fun h27 => ?_⟩
              · replace h := iteO_t h h27
                subst hN
                cases h
                show ∃ t', _ ∧ GeSt _ _ _
                refine ⟨⟨ctr + 16, gfn [], tfn []⟩, Hid.mk_ok (by omega) trivial, ?_⟩
                exact GeSt.of (LeSt.frame (by show (_ : Nat) < _; (try dsimp only [std_eq, stdN]); omega) rfl rfl (And.intro ⟨_, rfl, LeD.refl _⟩
                    trivial) trivial)
              · replace h := iteO_f h h27
                refine ⟨fun h28 => ?_, fun h28 => ?_⟩
                · replace h := iteO_t h h28
                  subst hN
                  cases h
                  show ∃ t', _ ∧ GeSt _ _ _
                  refine ⟨⟨ctr + 17, gfn [], tfn []⟩, Hid.mk_ok (by omega) trivial, ?_⟩
                  exact GeSt.of (LeSt.frame (by show (_ : Nat) < _; (try dsimp only [std_eq, stdN]); omega) rfl rfl (And.intro ⟨_, rfl, LeD.refl _⟩
                      trivial) trivial)
                · replace h := iteO_f h h28
                  refine ⟨fun h29 => ?_, fun h29 => ?_⟩
                  · replace h := iteO_t h h29
                    subst hN
                    cases h
                    show ∃ t', _ ∧ GeSt _ _ _
                    refine ⟨⟨ctr + 18, gfn [], tfn []⟩, Hid.mk_ok (by omega) trivial, ?_⟩
                    exact GeSt.of (LeSt.frame (by show (_ : Nat) < _; (try dsimp only [std_eq, stdN]); omega) rfl rfl (And.intro ⟨_, rfl, LeD.refl _⟩
                        trivial) trivial)
                  · replace h := iteO_f h h29
                    refine ⟨fun h30 => ?_, fun h30 => ?_⟩
                    · replace h := iteO_t h h30
                      subst hN
                      cases h
                      show ∃ t', _ ∧ GeSt _ _ _
                      refine ⟨⟨ctr + 19, gfn [], tfn []⟩, Hid.mk_ok (by omega) trivial, ?_⟩
                      exact GeSt.of (LeSt.frame (by show (_ : Nat) < _; (try dsimp only [std_eq, stdN]); omega) rfl rfl (And.intro ⟨_, rfl, LeD.refl _⟩
                          trivial) trivial)
                    · replace h := iteO_f h h30
                      refine ⟨fun h31 => ?_, fun h31 => ?_⟩
                      · replace h := iteO_t h h31
                        subst hN
                        cases h
                        show ∃ t', _ ∧ GeSt _ _ _
                        refine ⟨⟨ctr + 20, gfn [], tfn []⟩, Hid.mk_ok (by omega) trivial, ?_⟩
                        exact GeSt.of (LeSt.frame (by show (_ : Nat) < _; (try dsimp only [std_eq, stdN]); omega) rfl rfl (And.intro ⟨_, rfl, LeD.refl _⟩
                            trivial) trivial)
                      · replace h := iteO_f h h31
                        refine ⟨fun h32 => ?_, fun h32 => ?_⟩
                        · replace h := iteO_t h h32
                          subst hN
                          cases h
                          show ∃ t', _ ∧ GeSt _ _ _
                          refine ⟨⟨ctr + 21, gfn [], tfn []⟩, Hid.mk_ok (by omega) trivial, ?_⟩
                          exact GeSt.of (LeSt.frame (by show (_ : Nat) < _; (try dsimp only [std_eq, stdN]); omega) rfl rfl (And.intro ⟨_, rfl, LeD.refl _⟩
                              trivial) trivial)
                        · replace h := iteO_f h h32
                          subst hN
                          cases h
                          show ∃ t', _ ∧ GeSt _ _ _
                          refine ⟨⟨ctr + 22, gfn [], tfn []⟩, Hid.mk_ok (by omega) trivial, ?_⟩
                          exact GeSt.of (LeSt.frame (by show (_ : Nat) < _; (try dsimp only [std_eq, stdN]); omega) rfl rfl (And.intro ⟨_, rfl, LeD.refl _⟩
                              trivial) trivial)
end Go.Vx
