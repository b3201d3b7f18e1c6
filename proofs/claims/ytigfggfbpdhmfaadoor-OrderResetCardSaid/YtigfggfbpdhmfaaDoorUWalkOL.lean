/- Walks, by program (lift.py). -/
import Derived.Test.YtigfggfbpdhmfaaDoorUWalk
import Derived.Test.YtigfggfbpdhmfaaDoorUWalkO
set_option linter.all false
namespace Go.Vx
open Go.Proofs
set_option maxRecDepth 100000
set_option linter.unusedVariables false
set_option linter.unusedSimpArgs false

theorem lapwinglaw19_OrderReset_ok (r' : (List Int)) (levels : (List Int)) (base : Int) (n : Int) (r : Bool) (h : lapwinglaw19_OrderReset r' levels base n = some r) : PureFn Tryd.prog 8 [(.sl 1 (nvS.len r') false (fun i j => (.v (.int .i64 (nvS.get 0 r' i))))), (.sl 1 (nvS.len levels) false (fun i j => (.v (.int .i64 (nvS.get 0 levels i))))), (.v (.int .i64 base)), (.v (.int .i64 n))] ((.v (.bool r))) := by
  unfold lapwinglaw19_OrderReset at h
  refine fn_tr tt0_ok Tryd.func8 (by kernel_rfl) (c := bodyOf Tryd.f8) (by kernel_rfl) ?_
  intro ctr hc
  obtain ⟨v, h1⟩ : ∃ v, valO false (lapwinglaw19_awake) = v := ⟨_, rfl⟩
  obtain ⟨v1, h3⟩ : ∃ v1, valO d_ucd_Data (ucd_Load) = v1 := ⟨_, rfl⟩
  refine Tr.pre (cx := ⟨tt0, ⟨fun f => kOf [] f, fun k _ _ _ => orcL [(18, .plain (.v (.bool v))), (30, .plain (.agg 6 (fun j => (D_ucd_Data nvS v1 j))))] k, fun t => memN [33, 35, 36, 38] t⟩, 0, fun r => ghL [] r⟩) tt0_ok hPm 7 fun N hN => ?_
  generalize hp : std Tryd.prog = p
  generalize hv : nvS = nv
  cbv
  subst hp
  subst hv
  replace h := bindO_val h1 h; clear h1; obtain ⟨h1, h⟩ := h
  refine ⟨(Or.inl (PureFn.arg (lapwinglaw19_awake_ok  v h1) trivial)), ?_⟩
  refine ⟨(fun hg => hg), (fun hg => hg), (fun hg => hg), (fun hg => hg), (fun hg => hg), ?_⟩
  refine ⟨fun h2 => ?_, fun h2 => ?_⟩
  · replace h := iteO_t h h2
    subst hN
    have hr := Option.some.inj h
    subst hr
    try dsimp only [noGoto, inBlockQ, thenQ]
    repeat (first | refine (if_pos rfl).mpr ?_ | refine (if_neg (by decide)).mpr ?_)
    refine retQ_ret rfl ?_ ?_
    · exact trivial
    · exact rfl
  · replace h := iteO_f h h2
    replace h := bindO_val h3 h; clear h3; obtain ⟨h3, h⟩ := h
    refine ⟨(Or.inl (PureFn.arg (ucd_Load_ok  v1 h3) trivial)), rfl, ?_⟩
    replace h := chk_some h; obtain ⟨h4, h⟩ := h
    refine ⟨h4, rfl, rfl, ?_⟩
    replace h := chk_some h; obtain ⟨h5, h⟩ := h
    refine ⟨h5, rfl, rfl, ?_⟩
    subst hN
    show Tr _ _ _ _
    refine Tr.cutSeq (α := List Int × List Int) h (fun (s, t'1) t' => ⟨frm 141 [(0, .sl 1 (nvS.len r') false (fun i j => (.v (.int .i64 (nvS.get 0 r' i))))), (2, .v (.int .i64 base)), (9, .v (.bool v)), (10, .bref 10 (t'.g 10) 0), (12, .vec 35 (t'.g 35) 1 0 (nvS.len s)), (13, .vec 38 (t'.g 38) 1 0 (nvS.len t'1))] 0, frO 141 [(10, .box (t'.g 10) [.sl 3 (nvS.len v1.fClass.fL) false (fun i j => (D_ranges_Row nvS (nvS.get d_ranges_Row v1.fClass.fL i) j)), .sl 3 (nvS.len v1.fWide.fL) false (fun i j => (D_ranges_Row nvS (nvS.get d_ranges_Row v1.fWide.fL i) j)), .sl 3 (nvS.len v1.fJoin.fL) false (fun i j => (D_ranges_Row nvS (nvS.get d_ranges_Row v1.fJoin.fL i) j)), .sl 2 (nvS.len v1.fMirror) false (fun i j => (D_ucd_Pair nvS (nvS.get d_ucd_Pair v1.fMirror i) j)), .sl 2 (nvS.len v1.fBrackets) false (fun i j => (D_ucd_Pair nvS (nvS.get d_ucd_Pair v1.fBrackets i) j)), .sl 3 (nvS.len v1.fForms) false (fun i j => (D_ucd_Form nvS (nvS.get d_ucd_Form v1.fForms i) j))]), (35, .arr (t'.g 35) 1 (nvS.len s) (t'.t 35) (fun i j => (.v (.int .i64 (nvS.get 0 s i))))), (38, .arr (t'.g 38) 1 (nvS.len t'1) (t'.t 38) (fun i j => (.v (.int .i64 (nvS.get 0 t'1 i)))))] 0, t'.c⟩) (fun _ t => Hid.ok t) (fun x t' ht' h => ?_) (fun f h => ?_)
    · obtain ⟨s, t'1⟩ := x
      obtain ⟨t'_c, t'_g, t'_t⟩ := t'
      have ht'_c : 0 < t'_c := ht'.1
      have ht'_g : ∀ k, t'_g k < t'_c := ht'.2
      refine Tr.cutSeq (α := List Int) h (fun a t'2 => ⟨frm 141 [(0, .sl 1 (nvS.len r') false (fun i j => (.v (.int .i64 (nvS.get 0 r' i))))), (2, .v (.int .i64 base)), (9, .v (.bool v)), (10, .bref 10 (t'2.g 10) 0), (12, .vec 35 (t'2.g 35) 1 0 (nvS.len s)), (13, .vec 38 (t'2.g 38) 1 0 (nvS.len t'1)), (15, .vec 54 (t'2.g 54) 1 0 (nvS.len a))] 0, frO 141 [(10, .box (t'2.g 10) [.sl 3 (nvS.len v1.fClass.fL) false (fun i j => (D_ranges_Row nvS (nvS.get d_ranges_Row v1.fClass.fL i) j)), .sl 3 (nvS.len v1.fWide.fL) false (fun i j => (D_ranges_Row nvS (nvS.get d_ranges_Row v1.fWide.fL i) j)), .sl 3 (nvS.len v1.fJoin.fL) false (fun i j => (D_ranges_Row nvS (nvS.get d_ranges_Row v1.fJoin.fL i) j)), .sl 2 (nvS.len v1.fMirror) false (fun i j => (D_ucd_Pair nvS (nvS.get d_ucd_Pair v1.fMirror i) j)), .sl 2 (nvS.len v1.fBrackets) false (fun i j => (D_ucd_Pair nvS (nvS.get d_ucd_Pair v1.fBrackets i) j)), .sl 3 (nvS.len v1.fForms) false (fun i j => (D_ucd_Form nvS (nvS.get d_ucd_Form v1.fForms i) j))]), (35, .arr (t'2.g 35) 1 (nvS.len s) (t'2.t 35) (fun i j => (.v (.int .i64 (nvS.get 0 s i))))), (38, .arr (t'2.g 38) 1 (nvS.len t'1) (t'2.t 38) (fun i j => (.v (.int .i64 (nvS.get 0 t'1 i))))), (54, .arr (t'2.g 54) 1 (nvS.len a) (t'2.t 54) (fun i j => (.v (.int .i64 (nvS.get 0 a i)))))] 0, t'2.c⟩) (fun _ t => Hid.ok t) (fun x t'2 ht'2 h => ?_) (fun f h => ?_)
      · revert h; revert ht'2; revert x; intro a ht'2 h
        obtain ⟨t'2_c, t'2_g, t'2_t⟩ := t'2
        have ht'2_c : 0 < t'2_c := ht'2.1
        have ht'2_g : ∀ k, t'2_g k < t'2_c := ht'2.2
        obtain ⟨v2, h15⟩ : ∃ v2, valO [] (if (!(!((lenL a) == (lenL s)))) = true then order_Reset v1 s a base else some []) = v2 := ⟨_, rfl⟩
        obtain ⟨v3, h16⟩ : ∃ v3, valO false (if (!(!((lenL a) == (lenL s)))) = true then lapwingref03_Ints v2 a else some false) = v3 := ⟨_, rfl⟩
        refine Tr.pre (cx := ⟨tt0, ⟨fun f => kOf [] f, fun k _ _ _ => orcL [(65, .plain (.sl 1 (nvS.len v2) false (fun i j => (.v (.int .i64 (nvS.get 0 v2 i)))))), (67, .plain (.v (.bool v3)))] k, fun t => memN [] t⟩, 0, fun r => ghL [(14, [.freeze (.slot 12), .freeze (.slot 15)])] r⟩) tt0_ok hPm 1 fun N hN => ?_
        generalize hp : std Tryd.prog = p
        generalize hv : nvS = nv
        cbv
        subst hp
        subst hv
        replace h := bindO_val h15 h; clear h15; obtain ⟨h15, h⟩ := h
        replace h := bindO_val h16 h; clear h16; obtain ⟨h16, h⟩ := h
        refine ⟨rfl, rfl, (fun _ => rfl), (fun hg => hg), (fun hg => hg), (fun hg => hg), (fun hg => hg), (fun hg => by have h15 := guardO h15 hg; exact (Or.inl (PureFn.arg (PureFn.sl (order_Reset_ok v1 s a base v2 h15)) (And.intro (LeD.agg fun j hj => by
              have hj2 : j < 6 := hj
              rcases (show j = 0 ∨ j = 1 ∨ j = 2 ∨ j = 3 ∨ j = 4 ∨ j = 5 by omega) with rfl | rfl | rfl | rfl | rfl | rfl
              · exact LeD.refl _
              · exact LeD.refl _
              · exact LeD.refl _
              · exact LeD.refl _
              · exact LeD.refl _
              · exact LeD.refl _)
            (And.intro (LeD.slE (by first | rfl | assumption | (symm; assumption) | ((try dsimp only [std_eq, stdN, nvS]) <;> first | rfl | omega | (simp (disch := first | omega | (simp only [lenL_set, lenL_app, lenL_cons, lenL_nil] <;> omega)) only [lenL_bytes, lenL_set, lenL_app, lenL_cons, lenL_nil, lenL_rep, lenL_sub, lenL_cpy, Int.ofNat_eq_natCast, Int.zero_add, Int.sub_zero] <;> try omega))) (fun i i0 i1 j hj => by (try dsimp only [std_eq, stdN, nvS] at i1); (try simp only [Int.ofNat_eq_natCast] at i1); (obtain rfl : j = 0 := (by omega)) <;> (conv => lhs; whnf) <;> (conv => rhs; whnf) <;> (try dsimp only [std_eq, stdN, nvS]) <;> (first | rfl | (simp (disch := first | omega | (simp only [lenL_set, lenL_app, lenL_cons, lenL_nil] <;> omega)) only [getL_bytes, getL_put, getL_app, getL_rep, getL_sub, getL_cpy, Int.zero_add, Int.sub_zero, beq_iff_eq, decide_eq_true_eq, Bool.and_eq_true] <;> first | rfl | (split <;> first | rfl | (simp (disch := first | omega | (simp only [lenL_set, lenL_app, lenL_cons, lenL_nil] <;> omega)) only [getL_one, getL_zero] <;> rfl)) | ((simp only [lenL_app, lenL_cons, lenL_nil, Int.ofNat_eq_natCast]) <;> (repeat' split) <;> first | rfl | (exfalso; omega) | (simp (disch := omega) only [getL_one, getL_zero] <;> rfl) | (congr 3; omega))))))
            (And.intro (LeD.slE (by first | rfl | assumption | (symm; assumption) | ((try dsimp only [std_eq, stdN, nvS]) <;> first | rfl | omega | (simp (disch := first | omega | (simp only [lenL_set, lenL_app, lenL_cons, lenL_nil] <;> omega)) only [lenL_bytes, lenL_set, lenL_app, lenL_cons, lenL_nil, lenL_rep, lenL_sub, lenL_cpy, Int.ofNat_eq_natCast, Int.zero_add, Int.sub_zero] <;> try omega))) (fun i i0 i1 j hj => by (try dsimp only [std_eq, stdN, nvS] at i1); (try simp only [Int.ofNat_eq_natCast] at i1); (obtain rfl : j = 0 := (by omega)) <;> (conv => lhs; whnf) <;> (conv => rhs; whnf) <;> (try dsimp only [std_eq, stdN, nvS]) <;> (first | rfl | (simp (disch := first | omega | (simp only [lenL_set, lenL_app, lenL_cons, lenL_nil] <;> omega)) only [getL_bytes, getL_put, getL_app, getL_rep, getL_sub, getL_cpy, Int.zero_add, Int.sub_zero, beq_iff_eq, decide_eq_true_eq, Bool.and_eq_true] <;> first | rfl | (split <;> first | rfl | (simp (disch := first | omega | (simp only [lenL_set, lenL_app, lenL_cons, lenL_nil] <;> omega)) only [getL_one, getL_zero] <;> rfl)) | ((simp only [lenL_app, lenL_cons, lenL_nil, Int.ofNat_eq_natCast]) <;> (repeat' split) <;> first | rfl | (exfalso; omega) | (simp (disch := omega) only [getL_one, getL_zero] <;> rfl) | (congr 3; omega))))))
            (And.intro (LeD.refl _)
            trivial))))))), (fun hg => hg), (fun hg => hg), (fun hg => by have h16 := guardO h16 hg; exact (Or.inl (PureFn.arg (lapwingref03_Ints_ok v2 a v3 h16) (And.intro (LeD.refl _)
            (And.intro (LeD.slE (by first | rfl | assumption | (symm; assumption) | ((try dsimp only [std_eq, stdN, nvS]) <;> first | rfl | omega | (simp (disch := first | omega | (simp only [lenL_set, lenL_app, lenL_cons, lenL_nil] <;> omega)) only [lenL_bytes, lenL_set, lenL_app, lenL_cons, lenL_nil, lenL_rep, lenL_sub, lenL_cpy, Int.ofNat_eq_natCast, Int.zero_add, Int.sub_zero] <;> try omega))) (fun i i0 i1 j hj => by (try dsimp only [std_eq, stdN, nvS] at i1); (try simp only [Int.ofNat_eq_natCast] at i1); (obtain rfl : j = 0 := (by omega)) <;> (conv => lhs; whnf) <;> (conv => rhs; whnf) <;> (try dsimp only [std_eq, stdN, nvS]) <;> (first | rfl | (simp (disch := first | omega | (simp only [lenL_set, lenL_app, lenL_cons, lenL_nil] <;> omega)) only [getL_bytes, getL_put, getL_app, getL_rep, getL_sub, getL_cpy, Int.zero_add, Int.sub_zero, beq_iff_eq, decide_eq_true_eq, Bool.and_eq_true] <;> first | rfl | (split <;> first | rfl | (simp (disch := first | omega | (simp only [lenL_set, lenL_app, lenL_cons, lenL_nil] <;> omega)) only [getL_one, getL_zero] <;> rfl)) | ((simp only [lenL_app, lenL_cons, lenL_nil, Int.ofNat_eq_natCast]) <;> (repeat' split) <;> first | rfl | (exfalso; omega) | (simp (disch := omega) only [getL_one, getL_zero] <;> rfl) | (congr 3; omega))))))
            trivial))))), (fun hg => hg), (fun hg => hg), ?_⟩
        refine ⟨fun h17 => ?_, fun h17 => ?_⟩
        · replace h := iteO_t h h17
          subst hN
          have hr := Option.some.inj h
          subst hr
          try dsimp only [noGoto, inBlockQ, thenQ]
          repeat (first | refine (if_pos rfl).mpr ?_ | refine (if_neg (by decide)).mpr ?_)
          refine retQ_ret rfl ?_ ?_
          · exact trivial
          · exact rfl
        · replace h := iteO_f h h17
          subst hN
          show Tr _ _ _ _
          refine Tr.cutSeq (α := Unit) h (fun _ t'3 => ⟨frm 141 [(9, .v (.bool v))] 0, frO 141 [] 0, t'3.c⟩) (fun _ t => Hid.ok t) (fun x t'3 ht'3 h => ?_) (fun f h => ?_)
          · obtain ⟨t'3_c, t'3_g, t'3_t⟩ := t'3
            have ht'3_c : 0 < t'3_c := ht'3.1
            have ht'3_g : ∀ k, t'3_g k < t'3_c := ht'3.2
            refine Tr.chunk (cx := ⟨tt0, ⟨fun f => kOf [] f, fun k _ _ _ => orcL [] k, fun t => memN [] t⟩, 0, fun r => ghL [] r⟩) tt0_ok hPm fun N hN => ?_
            generalize hp : std Tryd.prog = p
            generalize hv : nvS = nv
            cbv
            subst hp
            subst hv
            subst hN
            have hr := Option.some.inj h
            subst hr
            try dsimp only [noGoto, inBlockQ, thenQ]
            repeat (first | refine (if_pos rfl).mpr ?_ | refine (if_neg (by decide)).mpr ?_)
            refine retQ_ret rfl ?_ ?_
            · exact trivial
            · exact rfl
          · refine Tr.pre (cx := ⟨tt0, ⟨fun f => kOf [] f, fun k _ _ _ => orcL [] k, fun t => memN [] t⟩, 0, fun r => ghL [] r⟩) tt0_ok hPm 1 fun N hN => ?_
            generalize hp : std Tryd.prog = p
            generalize hv : nvS = nv
            cbv
            subst hp
            subst hv
            subst hN
            show Tr _ _ _ _
            refine Tr.block ?_
            refine Tr.loopO (α := Int) (fun i t'4 => ⟨frm 141 [(0, .sl 1 (nvS.len r') false (fun i j => (.v (.int .i64 (nvS.get 0 r' i))))), (2, .v (.int .i64 base)), (9, .v (.bool v)), (10, .bref 10 (t'4.g 10) 0), (12, .sl 1 (nvS.len s) false (fun i j => (.v (.int .i64 (nvS.get 0 s i))))), (13, .vec 38 (t'4.g 38) 1 0 (nvS.len t'1)), (15, .sl 1 (nvS.len a) false (fun i j => (.v (.int .i64 (nvS.get 0 a i))))), (16, .v (.int .i64 i))] 0, frO 141 [(10, .box (t'4.g 10) [.sl 3 (nvS.len v1.fClass.fL) false (fun i j => (D_ranges_Row nvS (nvS.get d_ranges_Row v1.fClass.fL i) j)), .sl 3 (nvS.len v1.fWide.fL) false (fun i j => (D_ranges_Row nvS (nvS.get d_ranges_Row v1.fWide.fL i) j)), .sl 3 (nvS.len v1.fJoin.fL) false (fun i j => (D_ranges_Row nvS (nvS.get d_ranges_Row v1.fJoin.fL i) j)), .sl 2 (nvS.len v1.fMirror) false (fun i j => (D_ucd_Pair nvS (nvS.get d_ucd_Pair v1.fMirror i) j)), .sl 2 (nvS.len v1.fBrackets) false (fun i j => (D_ucd_Pair nvS (nvS.get d_ucd_Pair v1.fBrackets i) j)), .sl 3 (nvS.len v1.fForms) false (fun i j => (D_ucd_Form nvS (nvS.get d_ucd_Form v1.fForms i) j))]), (38, .arr (t'4.g 38) 1 (nvS.len t'1) (t'4.t 38) (fun i j => (.v (.int .i64 (nvS.get 0 t'1 i)))))] 0, t'4.c⟩) (fun _ t => Hid.ok t) ⟨t'2_c + 13, gfn [(10, t'2_g 10), (38, t'2_g 38)], tfn [(10, false), (38, t'2_t 38)]⟩ h ?_ ?_ (fun x t'4 f ht'4 h => ?_)
            · exact Hid.mk_ok (by omega) (And.intro (by have := ht'2_g 10; omega)
                  (And.intro (by have := ht'2_g 38; omega)
                  trivial))
            · exact GeSt.of (LeSt.frame (by show (_ : Nat) < _; (try dsimp only [std_eq, stdN]); omega) rfl rfl (And.intro ⟨_, rfl, LeD.refl _⟩
                  (And.intro ⟨_, rfl, LeD.refl _⟩
                  (And.intro ⟨_, rfl, LeD.refl _⟩
                  (And.intro ⟨_, rfl, LeD.refl _⟩
                  (And.intro ⟨_, rfl, LeD.slE (by first | rfl | assumption | (symm; assumption) | ((try dsimp only [std_eq, stdN, nvS]) <;> first | rfl | omega | (simp (disch := first | omega | (simp only [lenL_set, lenL_app, lenL_cons, lenL_nil] <;> omega)) only [lenL_bytes, lenL_set, lenL_app, lenL_cons, lenL_nil, lenL_rep, lenL_sub, lenL_cpy, Int.ofNat_eq_natCast, Int.zero_add, Int.sub_zero] <;> try omega))) (fun i i0 i1 j hj => by (try dsimp only [std_eq, stdN, nvS] at i1); (try simp only [Int.ofNat_eq_natCast] at i1); (obtain rfl : j = 0 := (by omega)) <;> (conv => lhs; whnf) <;> (conv => rhs; whnf) <;> (try dsimp only [std_eq, stdN, nvS]) <;> (first | rfl | (simp (disch := first | omega | (simp only [lenL_set, lenL_app, lenL_cons, lenL_nil] <;> omega)) only [getL_bytes, getL_put, getL_app, getL_rep, getL_sub, getL_cpy, Int.zero_add, Int.sub_zero, beq_iff_eq, decide_eq_true_eq, Bool.and_eq_true] <;> first | rfl | (split <;> first | rfl | (simp (disch := first | omega | (simp only [lenL_set, lenL_app, lenL_cons, lenL_nil] <;> omega)) only [getL_one, getL_zero] <;> rfl)) | ((simp only [lenL_app, lenL_cons, lenL_nil, Int.ofNat_eq_natCast]) <;> (repeat' split) <;> first | rfl | (exfalso; omega) | (simp (disch := omega) only [getL_one, getL_zero] <;> rfl) | (congr 3; omega)))))⟩
                  (And.intro ⟨_, rfl, LeD.refl _⟩
                  (And.intro ⟨_, rfl, LeD.slE (by first | rfl | assumption | (symm; assumption) | ((try dsimp only [std_eq, stdN, nvS]) <;> first | rfl | omega | (simp (disch := first | omega | (simp only [lenL_set, lenL_app, lenL_cons, lenL_nil] <;> omega)) only [lenL_bytes, lenL_set, lenL_app, lenL_cons, lenL_nil, lenL_rep, lenL_sub, lenL_cpy, Int.ofNat_eq_natCast, Int.zero_add, Int.sub_zero] <;> try omega))) (fun i i0 i1 j hj => by (try dsimp only [std_eq, stdN, nvS] at i1); (try simp only [Int.ofNat_eq_natCast] at i1); (obtain rfl : j = 0 := (by omega)) <;> (conv => lhs; whnf) <;> (conv => rhs; whnf) <;> (try dsimp only [std_eq, stdN, nvS]) <;> (first | rfl | (simp (disch := first | omega | (simp only [lenL_set, lenL_app, lenL_cons, lenL_nil] <;> omega)) only [getL_bytes, getL_put, getL_app, getL_rep, getL_sub, getL_cpy, Int.zero_add, Int.sub_zero, beq_iff_eq, decide_eq_true_eq, Bool.and_eq_true] <;> first | rfl | (split <;> first | rfl | (simp (disch := first | omega | (simp only [lenL_set, lenL_app, lenL_cons, lenL_nil] <;> omega)) only [getL_one, getL_zero] <;> rfl)) | ((simp only [lenL_app, lenL_cons, lenL_nil, Int.ofNat_eq_natCast]) <;> (repeat' split) <;> first | rfl | (exfalso; omega) | (simp (disch := omega) only [getL_one, getL_zero] <;> rfl) | (congr 3; omega)))))⟩
                  (And.intro ⟨_, rfl, LeD.refl _⟩
                  trivial)))))))) (And.intro ⟨_, rfl, LeOb.box (And.intro (LeD.refl _)
                  (And.intro (LeD.refl _)
                  (And.intro (LeD.refl _)
                  (And.intro (LeD.refl _)
                  (And.intro (LeD.refl _)
                  (And.intro (LeD.refl _)
                  trivial))))))⟩
                  (And.intro ⟨_, rfl, LeOb.refl _⟩
                  trivial)))
            · revert h; revert ht'4; revert x; intro i ht'4 h
              obtain ⟨t'4_c, t'4_g, t'4_t⟩ := t'4
              have ht'4_c : 0 < t'4_c := ht'4.1
              have ht'4_g : ∀ k, t'4_g k < t'4_c := ht'4.2
              refine Tr.pre (cx := ⟨tt0, ⟨fun f => kOf [] f, fun k _ _ _ => orcL [] k, fun t => memN [] t⟩, 0, fun r => ghL [] r⟩) tt0_ok hPm 1 fun N hN => ?_
              generalize hp : std Tryd.prog = p
              generalize hv : nvS = nv
              cbv
              subst hp
              subst hv
              refine ⟨fun h62 => ?_, fun h62 => ?_⟩
              · replace h := iteO_t h h62
                subst hN
                show Tr _ _ _ _
                refine Tr.cutSeq (α := Unit) h (fun _ t'5 => ⟨frm 141 [(0, .sl 1 (nvS.len r') false (fun i j => (.v (.int .i64 (nvS.get 0 r' i))))), (2, .v (.int .i64 base)), (9, .v (.bool v)), (10, .bref 10 (t'5.g 10) 0), (12, .sl 1 (nvS.len s) false (fun i j => (.v (.int .i64 (nvS.get 0 s i))))), (13, .vec 38 (t'5.g 38) 1 0 (nvS.len t'1)), (15, .sl 1 (nvS.len a) false (fun i j => (.v (.int .i64 (nvS.get 0 a i))))), (16, .v (.int .i64 i))] 0, frO 141 [(10, .box (t'5.g 10) [.sl 3 (nvS.len v1.fClass.fL) false (fun i j => (D_ranges_Row nvS (nvS.get d_ranges_Row v1.fClass.fL i) j)), .sl 3 (nvS.len v1.fWide.fL) false (fun i j => (D_ranges_Row nvS (nvS.get d_ranges_Row v1.fWide.fL i) j)), .sl 3 (nvS.len v1.fJoin.fL) false (fun i j => (D_ranges_Row nvS (nvS.get d_ranges_Row v1.fJoin.fL i) j)), .sl 2 (nvS.len v1.fMirror) false (fun i j => (D_ucd_Pair nvS (nvS.get d_ucd_Pair v1.fMirror i) j)), .sl 2 (nvS.len v1.fBrackets) false (fun i j => (D_ucd_Pair nvS (nvS.get d_ucd_Pair v1.fBrackets i) j)), .sl 3 (nvS.len v1.fForms) false (fun i j => (D_ucd_Form nvS (nvS.get d_ucd_Form v1.fForms i) j))]), (38, .arr (t'5.g 38) 1 (nvS.len t'1) (t'5.t 38) (fun i j => (.v (.int .i64 (nvS.get 0 t'1 i)))))] 0, t'5.c⟩) (fun _ t => Hid.ok t) (fun x t'5 ht'5 h => ?_) (fun f h => ?_)
                · obtain ⟨t'5_c, t'5_g, t'5_t⟩ := t'5
                  have ht'5_c : 0 < t'5_c := ht'5.1
                  have ht'5_g : ∀ k, t'5_g k < t'5_c := ht'5.2
                  refine Tr.chunk (cx := ⟨tt0, ⟨fun f => kOf [] f, fun k _ _ _ => orcL [] k, fun t => memN [] t⟩, 0, fun r => ghL [] r⟩) tt0_ok hPm fun N hN => ?_
                  generalize hp : std Tryd.prog = p
                  generalize hv : nvS = nv
                  cbv
                  subst hp
                  subst hv
                  replace h := chk_some h; obtain ⟨h72, h⟩ := h
                  refine ⟨h72, ?_⟩
                  subst hN
                  cases h
                  show ∃ t', _ ∧ GeSt _ _ _
                  refine ⟨⟨t'5_c + 10, gfn [(10, t'5_g 10), (38, t'5_g 38)], tfn [(10, false), (38, t'5_t 38)]⟩, Hid.mk_ok (by omega) (And.intro (by have := ht'5_g 10; omega)
                      (And.intro (by have := ht'5_g 38; omega)
                      trivial)), ?_⟩
                  exact GeSt.of (LeSt.frame (by show (_ : Nat) < _; (try dsimp only [std_eq, stdN]); omega) rfl rfl (And.intro ⟨_, rfl, LeD.refl _⟩
                      (And.intro ⟨_, rfl, LeD.refl _⟩
                      (And.intro ⟨_, rfl, LeD.refl _⟩
                      (And.intro ⟨_, rfl, LeD.refl _⟩
                      (And.intro ⟨_, rfl, LeD.refl _⟩
                      (And.intro ⟨_, rfl, LeD.refl _⟩
                      (And.intro ⟨_, rfl, LeD.refl _⟩
                      (And.intro ⟨_, rfl, LeD.refl _⟩
                      trivial)))))))) (And.intro ⟨_, rfl, LeOb.box (And.intro (LeD.refl _)
                      (And.intro (LeD.refl _)
                      (And.intro (LeD.refl _)
                      (And.intro (LeD.refl _)
                      (And.intro (LeD.refl _)
                      (And.intro (LeD.refl _)
                      trivial))))))⟩
                      (And.intro ⟨_, rfl, LeOb.refl _⟩
                      trivial)))
                · refine Tr.block ?_
                  obtain ⟨v4, h74⟩ : ∃ v4, valO 0 (ucd_Class v1 (getL 0 s i)) = v4 := ⟨_, rfl⟩
                  refine Tr.pre (cx := ⟨tt0, ⟨fun f => kOf [] f, fun k _ _ _ => orcL [(81, .plain (.v (.int .i64 v4)))] k, fun t => memN [] t⟩, 0, fun r => ghL [] r⟩) tt0_ok hPm 1 fun N hN => ?_
                  generalize hp : std Tryd.prog = p
                  generalize hv : nvS = nv
                  cbv
                  subst hp
                  subst hv
                  replace h := chk_some h; obtain ⟨h73, h⟩ := h
                  replace h := bindO_val h74 h; clear h74; obtain ⟨h74, h⟩ := h
                  refine ⟨rfl, h73, (Or.inl (PureFn.arg (ucd_Class_ok v1 (getL 0 s i) v4 h74) (And.intro (LeD.agg fun j hj => by
                        have hj2 : j < 6 := hj
                        rcases (show j = 0 ∨ j = 1 ∨ j = 2 ∨ j = 3 ∨ j = 4 ∨ j = 5 by omega) with rfl | rfl | rfl | rfl | rfl | rfl
                        · exact LeD.refl _
                        · exact LeD.refl _
                        · exact LeD.refl _
                        · exact LeD.refl _
                        · exact LeD.refl _
                        · exact LeD.refl _)
                      (And.intro (LeD.refl _)
                      trivial)))), (show drOk _ _ = true by kernel_rfl), ?_⟩
                  subst hN
                  show Tr _ _ _ _
                  refine Tr.seq ?_
                  refine Tr.parts (cx := ⟨tt0, ⟨fun f => kOf [] f, fun k _ _ _ => orcL [] k, fun t => memN [] t⟩, 0, fun r => ghL [] r⟩) tt0_ok hPm 20 fun N hN => ?_
                  generalize hp : std Tryd.prog = p
                  generalize hv : nvS = nv
                  cbv
                  subst hp
                  subst hv
                  replace h := chk_some h; obtain ⟨h75, h⟩ := h
                  replace h := chk_some h; obtain ⟨h76, h⟩ := h
                  replace h := chk_some h; obtain ⟨h77, h⟩ := h
                  refine ⟨(fun hg => hg), (fun hg => hg), h75, (fun hg => hg), (fun hg => hg), (fun hg => hg), (fun hg => hg), (fun hg => hg), (fun hg => hg), h76, (fun hg => hg), (fun hg => hg), (fun hg => hg), h77, ?_⟩
                  subst hN
                  refine wpEnd.more 20 fun N hN => ?_
                  generalize hp : std Tryd.prog = p
                  generalize hv : nvS = nv
                  cbv
                  subst hp
                  subst hv
                  replace h := chk_some h; obtain ⟨h78, h⟩ := h
                  refine ⟨(fun hg => hg), (fun _ => rfl), (fun hg => hg), (fun hg => hg), (fun hg => hg), (fun hg => hg), h78, (fun hg => hg), (fun hg => hg), (fun hg => hg), (fun hg => hg), (fun hg => hg), (fun hg0 => (fun hg => (and_t hg0 (and_t hg0 hg)))), (fun hg => hg), (fun hg => hg), (fun hg => hg), (fun hg => hg), (fun hg => hg), (fun hg0 => (fun hg => (and_t hg0 (and_t hg0 hg)))), ?_⟩
                  subst hN
                  refine wpEnd.last fun N hN => ?_
                  generalize hp : std Tryd.prog = p
                  generalize hv : nvS = nv
                  cbv
                  subst hp
                  subst hv
                  replace h := chk_some h; obtain ⟨h79, h⟩ := h
                  replace h := chk_some h; obtain ⟨h80, h⟩ := h
                  refine ⟨(fun hg => hg), (fun hg => hg), (fun hg => hg), (fun hg0 => (fun hg => (and_t hg0 (and_t hg0 hg)))), (fun hg => hg), (fun hg => hg), (fun hg => hg), (fun hg0 => (fun hg => (and_t hg0 (and_t hg0 hg)))), (fun hg => hg), (fun hg => hg), h79, (fun hg => hg), (fun hg => hg), (fun hg => hg), h80, (fun hg => hg), (fun _ => rfl), (fun hg => hg), (fun hg => hg), (fun hg => hg), (fun hg => hg), (fun hg0 => (fun hg => (and_t hg0 (and_t hg0 hg)))), (fun hg => hg), (show drOk _ _ = true by kernel_rfl), ?_⟩
                  subst hN
                  show Tr _ _ _ _
                  refine Tr.chunk (cx := ⟨tt0, ⟨fun f => kOf [] f, fun k _ _ _ => orcL [] k, fun t => memN [] t⟩, 0, fun r => ghL [] r⟩) tt0_ok hPm fun N hN => ?_
                  generalize hp : std Tryd.prog = p
                  generalize hv : nvS = nv
                  cbv
                  subst hp
                  subst hv
                  refine ⟨fun h81 => ?_, fun h81 => ?_⟩
                  · replace h := iteO_t h h81
                    subst hN
                    cases h
                    intro he; cases he
                    intro he; cases he
                    intro hr
                    subst hr
                    try dsimp only [noGoto, inBlockQ, thenQ]
                    repeat (first | refine (if_pos rfl).mpr ?_ | refine (if_neg (by decide)).mpr ?_)
                    refine retQ_ret rfl ?_ ?_
                    · exact trivial
                    · exact rfl
                  · replace h := iteO_f h h81
                    subst hN
                    cases h
                    show ∃ t', _ ∧ GeSt _ _ _
                    refine ⟨⟨t'4_c + 12, gfn [(10, t'4_g 10), (38, t'4_g 38)], tfn [(10, false), (38, t'4_t 38)]⟩, Hid.mk_ok (by omega) (And.intro (by have := ht'4_g 10; omega)
                        (And.intro (by have := ht'4_g 38; omega)
                        trivial)), ?_⟩
                    exact GeSt.of (LeSt.frame (by show (_ : Nat) < _; (try dsimp only [std_eq, stdN]); omega) rfl rfl (And.intro ⟨_, rfl, LeD.refl _⟩
                        (And.intro ⟨_, rfl, LeD.refl _⟩
                        (And.intro ⟨_, rfl, LeD.refl _⟩
                        (And.intro ⟨_, rfl, LeD.refl _⟩
                        (And.intro ⟨_, rfl, LeD.refl _⟩
                        (And.intro ⟨_, rfl, LeD.refl _⟩
                        (And.intro ⟨_, rfl, LeD.refl _⟩
                        (And.intro ⟨_, rfl, LeD.refl _⟩
                        trivial)))))))) (And.intro ⟨_, rfl, LeOb.box (And.intro (LeD.refl _)
                        (And.intro (LeD.refl _)
                        (And.intro (LeD.refl _)
                        (And.intro (LeD.refl _)
                        (And.intro (LeD.refl _)
                        (And.intro (LeD.refl _)
                        trivial))))))⟩
                        (And.intro ⟨_, rfl, LeOb.refl _⟩
                        trivial)))
              · replace h := iteO_f h h62
                subst hN
                cases h
                intro he; cases he
                show ∃ t', _ ∧ GeSt _ _ _
                refine ⟨⟨t'4_c + 10, gfn [], tfn []⟩, Hid.mk_ok (by omega) trivial, ?_⟩
                exact GeSt.of (LeSt.frame (by show (_ : Nat) < _; (try dsimp only [std_eq, stdN]); omega) rfl rfl (And.intro ⟨_, rfl, LeD.refl _⟩
                    trivial) trivial)
      · obtain ⟨v5, h82⟩ : ∃ v5, valO [] (order_Reset v1 s t'1 base) = v5 := ⟨_, rfl⟩
        refine Tr.chunk (cx := ⟨tt0, ⟨fun f => kOf [(25, 3)] f, fun k _ _ _ => orcL [(54, .own 1 (nvS.len v5) false (fun i j => (.v (.int .i64 (nvS.get 0 v5 i)))))] k, fun t => memN [] t⟩, 0, fun r => ghL [] r⟩) tt0_ok hPm fun N hN => ?_
        generalize hp : std Tryd.prog = p
        generalize hv : nvS = nv
        cbv
        subst hp
        subst hv
        replace h := bindO_val h82 h; clear h82; obtain ⟨h82, h⟩ := h
        refine ⟨rfl, rfl, rfl, (fun _ _ _ _ _ => trivial), (PureFn.arg (order_Reset_ok v1 s t'1 base v5 h82) (And.intro (LeD.agg fun j hj => by
              have hj2 : j < 6 := hj
              rcases (show j = 0 ∨ j = 1 ∨ j = 2 ∨ j = 3 ∨ j = 4 ∨ j = 5 by omega) with rfl | rfl | rfl | rfl | rfl | rfl
              · exact LeD.refl _
              · exact LeD.refl _
              · exact LeD.refl _
              · exact LeD.refl _
              · exact LeD.refl _
              · exact LeD.refl _)
            (And.intro (LeD.slE (by first | rfl | assumption | (symm; assumption) | ((try dsimp only [std_eq, stdN, nvS]) <;> first | rfl | omega | (simp (disch := first | omega | (simp only [lenL_set, lenL_app, lenL_cons, lenL_nil] <;> omega)) only [lenL_bytes, lenL_set, lenL_app, lenL_cons, lenL_nil, lenL_rep, lenL_sub, lenL_cpy, Int.ofNat_eq_natCast, Int.zero_add, Int.sub_zero] <;> try omega))) (fun i i0 i1 j hj => by (try dsimp only [std_eq, stdN, nvS] at i1); (try simp only [Int.ofNat_eq_natCast] at i1); (obtain rfl : j = 0 := (by omega)) <;> (conv => lhs; whnf) <;> (conv => rhs; whnf) <;> (try dsimp only [std_eq, stdN, nvS]) <;> (first | rfl | (simp (disch := first | omega | (simp only [lenL_set, lenL_app, lenL_cons, lenL_nil] <;> omega)) only [getL_bytes, getL_put, getL_app, getL_rep, getL_sub, getL_cpy, Int.zero_add, Int.sub_zero, beq_iff_eq, decide_eq_true_eq, Bool.and_eq_true] <;> first | rfl | (split <;> first | rfl | (simp (disch := first | omega | (simp only [lenL_set, lenL_app, lenL_cons, lenL_nil] <;> omega)) only [getL_one, getL_zero] <;> rfl)) | ((simp only [lenL_app, lenL_cons, lenL_nil, Int.ofNat_eq_natCast]) <;> (repeat' split) <;> first | rfl | (exfalso; omega) | (simp (disch := omega) only [getL_one, getL_zero] <;> rfl) | (congr 3; omega))))))
            (And.intro (LeD.slE (by first | rfl | assumption | (symm; assumption) | ((try dsimp only [std_eq, stdN, nvS]) <;> first | rfl | omega | (simp (disch := first | omega | (simp only [lenL_set, lenL_app, lenL_cons, lenL_nil] <;> omega)) only [lenL_bytes, lenL_set, lenL_app, lenL_cons, lenL_nil, lenL_rep, lenL_sub, lenL_cpy, Int.ofNat_eq_natCast, Int.zero_add, Int.sub_zero] <;> try omega))) (fun i i0 i1 j hj => by (try dsimp only [std_eq, stdN, nvS] at i1); (try simp only [Int.ofNat_eq_natCast] at i1); (obtain rfl : j = 0 := (by omega)) <;> (conv => lhs; whnf) <;> (conv => rhs; whnf) <;> (try dsimp only [std_eq, stdN, nvS]) <;> (first | rfl | (simp (disch := first | omega | (simp only [lenL_set, lenL_app, lenL_cons, lenL_nil] <;> omega)) only [getL_bytes, getL_put, getL_app, getL_rep, getL_sub, getL_cpy, Int.zero_add, Int.sub_zero, beq_iff_eq, decide_eq_true_eq, Bool.and_eq_true] <;> first | rfl | (split <;> first | rfl | (simp (disch := first | omega | (simp only [lenL_set, lenL_app, lenL_cons, lenL_nil] <;> omega)) only [getL_one, getL_zero] <;> rfl)) | ((simp only [lenL_app, lenL_cons, lenL_nil, Int.ofNat_eq_natCast]) <;> (repeat' split) <;> first | rfl | (exfalso; omega) | (simp (disch := omega) only [getL_one, getL_zero] <;> rfl) | (congr 3; omega))))))
            (And.intro (LeD.refl _)
            trivial))))), ?_⟩
        subst hN
        cases h
        show ∃ t', _ ∧ GeSt _ _ _
        refine ⟨⟨t'_c + 10, gfn [(10, t'_g 10), (35, t'_g 35), (38, t'_g 38), (54, t'_c + 0)], tfn [(10, false), (35, t'_t 35), (38, t'_t 38), (54, false)]⟩, Hid.mk_ok (by omega) (And.intro (by have := ht'_g 10; omega)
            (And.intro (by have := ht'_g 35; omega)
            (And.intro (by have := ht'_g 38; omega)
            (And.intro (by omega)
            trivial)))), ?_⟩
        exact GeSt.of (LeSt.frame (by show (_ : Nat) < _; (try dsimp only [std_eq, stdN]); omega) rfl rfl (And.intro ⟨_, rfl, LeD.refl _⟩
            (And.intro ⟨_, rfl, LeD.refl _⟩
            (And.intro ⟨_, rfl, LeD.refl _⟩
            (And.intro ⟨_, rfl, LeD.refl _⟩
            (And.intro ⟨_, rfl, LeD.refl _⟩
            (And.intro ⟨_, rfl, LeD.refl _⟩
            (And.intro ⟨_, rfl, LeD.vec rfl (by first | rfl | assumption | (symm; assumption) | ((try dsimp only [std_eq, stdN, nvS]) <;> first | rfl | omega | (simp (disch := first | omega | (simp only [lenL_set, lenL_app, lenL_cons, lenL_nil] <;> omega)) only [lenL_bytes, lenL_set, lenL_app, lenL_cons, lenL_nil, lenL_rep, lenL_sub, lenL_cpy, Int.ofNat_eq_natCast, Int.zero_add, Int.sub_zero] <;> try omega)))⟩
            trivial))))))) (And.intro ⟨_, rfl, LeOb.box (And.intro (LeD.refl _)
            (And.intro (LeD.refl _)
            (And.intro (LeD.refl _)
            (And.intro (LeD.refl _)
            (And.intro (LeD.refl _)
            (And.intro (LeD.refl _)
            trivial))))))⟩
            (And.intro ⟨_, rfl, LeOb.refl _⟩
            (And.intro ⟨_, rfl, LeOb.refl _⟩
            (And.intro ⟨_, rfl, LeOb.arrE (by first | rfl | assumption | (symm; assumption) | ((try dsimp only [std_eq, stdN, nvS]) <;> first | rfl | omega | (simp (disch := first | omega | (simp only [lenL_set, lenL_app, lenL_cons, lenL_nil] <;> omega)) only [lenL_bytes, lenL_set, lenL_app, lenL_cons, lenL_nil, lenL_rep, lenL_sub, lenL_cpy, Int.ofNat_eq_natCast, Int.zero_add, Int.sub_zero] <;> try omega))) (fun i i0 i1 j hj => by (try dsimp only [std_eq, stdN, nvS] at i1); (try simp only [Int.ofNat_eq_natCast] at i1); (obtain rfl : j = 0 := (by omega)) <;> (conv => lhs; whnf) <;> (conv => rhs; whnf) <;> (try dsimp only [std_eq, stdN, nvS]) <;> (first | rfl | (simp (disch := first | omega | (simp only [lenL_set, lenL_app, lenL_cons, lenL_nil] <;> omega)) only [getL_bytes, getL_put, getL_app, getL_rep, getL_sub, getL_cpy, Int.zero_add, Int.sub_zero, beq_iff_eq, decide_eq_true_eq, Bool.and_eq_true] <;> first | rfl | (split <;> first | rfl | (simp (disch := first | omega | (simp only [lenL_set, lenL_app, lenL_cons, lenL_nil] <;> omega)) only [getL_one, getL_zero] <;> rfl)) | ((simp only [lenL_app, lenL_cons, lenL_nil, Int.ofNat_eq_natCast]) <;> (repeat' split) <;> first | rfl | (exfalso; omega) | (simp (disch := omega) only [getL_one, getL_zero] <;> rfl) | (congr 3; omega)))))⟩
            trivial)))))
    · refine Tr.pre (cx := ⟨tt0, ⟨fun f => kOf [] f, fun k _ _ _ => orcL [] k, fun t => memN [] t⟩, 0, fun r => ghL [] r⟩) tt0_ok hPm 1 fun N hN => ?_
      generalize hp : std Tryd.prog = p
      generalize hv : nvS = nv
      cbv
      subst hp
      subst hv
      subst hN
      show Tr _ _ _ _
      refine Tr.block ?_
      refine Tr.loopO (α := Int × List Int × List Int) (fun (i2, s1, t'7) t'6 => ⟨frm 141 [(0, .sl 1 (nvS.len r') false (fun i j => (.v (.int .i64 (nvS.get 0 r' i))))), (2, .v (.int .i64 base)), (9, .v (.bool v)), (10, .bref 10 (t'6.g 10) 0), (11, .v (.int .i64 ((std Tryd.prog).bnd .i64 n 7))), (12, .vec 35 (t'6.g 35) 1 0 (nvS.len s1)), (13, .vec 38 (t'6.g 38) 1 0 (nvS.len t'7)), (14, .v (.int .i64 i2))] 0, frO 141 [(10, .box (t'6.g 10) [.sl 3 (nvS.len v1.fClass.fL) false (fun i j => (D_ranges_Row nvS (nvS.get d_ranges_Row v1.fClass.fL i) j)), .sl 3 (nvS.len v1.fWide.fL) false (fun i j => (D_ranges_Row nvS (nvS.get d_ranges_Row v1.fWide.fL i) j)), .sl 3 (nvS.len v1.fJoin.fL) false (fun i j => (D_ranges_Row nvS (nvS.get d_ranges_Row v1.fJoin.fL i) j)), .sl 2 (nvS.len v1.fMirror) false (fun i j => (D_ucd_Pair nvS (nvS.get d_ucd_Pair v1.fMirror i) j)), .sl 2 (nvS.len v1.fBrackets) false (fun i j => (D_ucd_Pair nvS (nvS.get d_ucd_Pair v1.fBrackets i) j)), .sl 3 (nvS.len v1.fForms) false (fun i j => (D_ucd_Form nvS (nvS.get d_ucd_Form v1.fForms i) j))]), (35, .arr (t'6.g 35) 1 (nvS.len s1) (t'6.t 35) (fun i j => (.v (.int .i64 (nvS.get 0 s1 i))))), (38, .arr (t'6.g 38) 1 (nvS.len t'7) (t'6.t 38) (fun i j => (.v (.int .i64 (nvS.get 0 t'7 i)))))] 0, t'6.c⟩) (fun _ t => Hid.ok t) ⟨ctr + 17, gfn [(10, ctr + 3), (35, ctr + 5), (38, ctr + 6)], tfn [(10, false), (35, false), (38, false)]⟩ h ?_ ?_ (fun x t'6 f ht'6 h => ?_)
      · exact Hid.mk_ok (by omega) (And.intro (by omega)
            (And.intro (by omega)
            (And.intro (by omega)
            trivial)))
      · exact GeSt.of (LeSt.frame (by show (_ : Nat) < _; (try dsimp only [std_eq, stdN]); omega) rfl rfl (And.intro ⟨_, rfl, LeD.refl _⟩
            (And.intro ⟨_, rfl, LeD.refl _⟩
            (And.intro ⟨_, rfl, LeD.refl _⟩
            (And.intro ⟨_, rfl, LeD.refl _⟩
            (And.intro ⟨_, rfl, LeD.refl _⟩
            (And.intro ⟨_, rfl, LeD.vec rfl (by first | rfl | assumption | (symm; assumption) | ((try dsimp only [std_eq, stdN, nvS]) <;> first | rfl | omega | (simp (disch := first | omega | (simp only [lenL_set, lenL_app, lenL_cons, lenL_nil] <;> omega)) only [lenL_bytes, lenL_set, lenL_app, lenL_cons, lenL_nil, lenL_rep, lenL_sub, lenL_cpy, Int.ofNat_eq_natCast, Int.zero_add, Int.sub_zero] <;> try omega)))⟩
            (And.intro ⟨_, rfl, LeD.vec rfl (by first | rfl | assumption | (symm; assumption) | ((try dsimp only [std_eq, stdN, nvS]) <;> first | rfl | omega | (simp (disch := first | omega | (simp only [lenL_set, lenL_app, lenL_cons, lenL_nil] <;> omega)) only [lenL_bytes, lenL_set, lenL_app, lenL_cons, lenL_nil, lenL_rep, lenL_sub, lenL_cpy, Int.ofNat_eq_natCast, Int.zero_add, Int.sub_zero] <;> try omega)))⟩
            (And.intro ⟨_, rfl, LeD.refl _⟩
            trivial)))))))) (And.intro ⟨_, rfl, LeOb.box (And.intro (LeD.refl _)
            (And.intro (LeD.refl _)
            (And.intro (LeD.refl _)
            (And.intro (LeD.refl _)
            (And.intro (LeD.refl _)
            (And.intro (LeD.refl _)
            trivial))))))⟩
            (And.intro ⟨_, rfl, LeOb.arrE (by first | rfl | assumption | (symm; assumption) | ((try dsimp only [std_eq, stdN, nvS]) <;> first | rfl | omega | (simp (disch := first | omega | (simp only [lenL_set, lenL_app, lenL_cons, lenL_nil] <;> omega)) only [lenL_bytes, lenL_set, lenL_app, lenL_cons, lenL_nil, lenL_rep, lenL_sub, lenL_cpy, Int.ofNat_eq_natCast, Int.zero_add, Int.sub_zero] <;> try omega))) (fun i i0 i1 j hj => by (try dsimp only [std_eq, stdN, nvS] at i1); (try simp only [Int.ofNat_eq_natCast] at i1); (obtain rfl : j = 0 := (by omega)) <;> (conv => lhs; whnf) <;> (conv => rhs; whnf) <;> (try dsimp only [std_eq, stdN, nvS]) <;> (first | rfl | (simp (disch := first | omega | (simp only [lenL_set, lenL_app, lenL_cons, lenL_nil] <;> omega)) only [getL_bytes, getL_put, getL_app, getL_rep, getL_sub, getL_cpy, Int.zero_add, Int.sub_zero, beq_iff_eq, decide_eq_true_eq, Bool.and_eq_true] <;> first | rfl | (split <;> first | rfl | (simp (disch := first | omega | (simp only [lenL_set, lenL_app, lenL_cons, lenL_nil] <;> omega)) only [getL_one, getL_zero] <;> rfl)) | ((simp only [lenL_app, lenL_cons, lenL_nil, Int.ofNat_eq_natCast]) <;> (repeat' split) <;> first | rfl | (exfalso; omega) | (simp (disch := omega) only [getL_one, getL_zero] <;> rfl) | (congr 3; omega)))))⟩
            (And.intro ⟨_, rfl, LeOb.arrE (by first | rfl | assumption | (symm; assumption) | ((try dsimp only [std_eq, stdN, nvS]) <;> first | rfl | omega | (simp (disch := first | omega | (simp only [lenL_set, lenL_app, lenL_cons, lenL_nil] <;> omega)) only [lenL_bytes, lenL_set, lenL_app, lenL_cons, lenL_nil, lenL_rep, lenL_sub, lenL_cpy, Int.ofNat_eq_natCast, Int.zero_add, Int.sub_zero] <;> try omega))) (fun i i0 i1 j hj => by (try dsimp only [std_eq, stdN, nvS] at i1); (try simp only [Int.ofNat_eq_natCast] at i1); (obtain rfl : j = 0 := (by omega)) <;> (conv => lhs; whnf) <;> (conv => rhs; whnf) <;> (try dsimp only [std_eq, stdN, nvS]) <;> (first | rfl | (simp (disch := first | omega | (simp only [lenL_set, lenL_app, lenL_cons, lenL_nil] <;> omega)) only [getL_bytes, getL_put, getL_app, getL_rep, getL_sub, getL_cpy, Int.zero_add, Int.sub_zero, beq_iff_eq, decide_eq_true_eq, Bool.and_eq_true] <;> first | rfl | (split <;> first | rfl | (simp (disch := first | omega | (simp only [lenL_set, lenL_app, lenL_cons, lenL_nil] <;> omega)) only [getL_one, getL_zero] <;> rfl)) | ((simp only [lenL_app, lenL_cons, lenL_nil, Int.ofNat_eq_natCast]) <;> (repeat' split) <;> first | rfl | (exfalso; omega) | (simp (disch := omega) only [getL_one, getL_zero] <;> rfl) | (congr 3; omega)))))⟩
            trivial))))
      · obtain ⟨i2, s1, t'7⟩ := x
        obtain ⟨t'6_c, t'6_g, t'6_t⟩ := t'6
        have ht'6_c : 0 < t'6_c := ht'6.1
        have ht'6_g : ∀ k, t'6_g k < t'6_c := ht'6.2
        refine Tr.chunk (cx := ⟨tt0, ⟨fun f => kOf [] f, fun k _ _ _ => orcL [] k, fun t => memN [45, 48] t⟩, 0, fun r => ghL [] r⟩) tt0_ok hPm fun N hN => ?_
        generalize hp : std Tryd.prog = p
        generalize hv : nvS = nv
        cbv
        subst hp
        subst hv
        refine ⟨fun h91 => ?_, fun h91 => ?_⟩
        · replace h := iteO_t h h91
          replace h := chk_some h; obtain ⟨h92, h⟩ := h
          refine ⟨rfl, h92, ?_⟩
          replace h := chk_some h; obtain ⟨h93, h⟩ := h
          refine ⟨rfl, h93, ?_⟩
          replace h := chk_some h; obtain ⟨h94, h⟩ := h
          refine ⟨h94, ?_⟩
          subst hN
          cases h
          show ∃ t', _ ∧ GeSt _ _ _
          refine ⟨⟨t'6_c + 17, gfn [(10, t'6_g 10), (35, t'6_c + 5), (38, t'6_c + 7)], tfn [(10, false), (35, false), (38, false)]⟩, Hid.mk_ok (by omega) (And.intro (by have := ht'6_g 10; omega)
              (And.intro (by omega)
              (And.intro (by omega)
              trivial))), ?_⟩
          refine GeSt.by [.forget 35, .move (.slot 12) 35, .forget 38, .move (.slot 13) 38] rfl ?_ ?_
          · exact (And.intro (rfl)
                (And.intro (rfl)
                trivial))
          · exact LeSt.frame (show t'6_c + 8 < t'6_c + 17 by omega) rfl rfl (And.intro ⟨_, rfl, LeD.refl _⟩
                (And.intro ⟨_, rfl, LeD.refl _⟩
                (And.intro ⟨_, rfl, LeD.refl _⟩
                (And.intro ⟨_, rfl, LeD.refl _⟩
                (And.intro ⟨_, rfl, LeD.refl _⟩
                (And.intro ⟨_, rfl, LeD.vec rfl (by first | rfl | assumption | (symm; assumption) | ((try dsimp only [std_eq, stdN, nvS]) <;> first | rfl | omega | (simp (disch := first | omega | (simp only [lenL_set, lenL_app, lenL_cons, lenL_nil] <;> omega)) only [lenL_bytes, lenL_set, lenL_app, lenL_cons, lenL_nil, lenL_rep, lenL_sub, lenL_cpy, Int.ofNat_eq_natCast, Int.zero_add, Int.sub_zero] <;> try omega)))⟩
                (And.intro ⟨_, rfl, LeD.vec rfl (by first | rfl | assumption | (symm; assumption) | ((try dsimp only [std_eq, stdN, nvS]) <;> first | rfl | omega | (simp (disch := first | omega | (simp only [lenL_set, lenL_app, lenL_cons, lenL_nil] <;> omega)) only [lenL_bytes, lenL_set, lenL_app, lenL_cons, lenL_nil, lenL_rep, lenL_sub, lenL_cpy, Int.ofNat_eq_natCast, Int.zero_add, Int.sub_zero] <;> try omega)))⟩
                (And.intro ⟨_, rfl, LeD.refl _⟩
                trivial)))))))) (And.intro ⟨_, rfl, LeOb.box (And.intro (LeD.refl _)
                (And.intro (LeD.refl _)
                (And.intro (LeD.refl _)
                (And.intro (LeD.refl _)
                (And.intro (LeD.refl _)
                (And.intro (LeD.refl _)
                trivial))))))⟩
                (And.intro ⟨_, rfl, LeOb.arrE (by first | rfl | assumption | (symm; assumption) | ((try dsimp only [std_eq, stdN, nvS]) <;> first | rfl | omega | (simp (disch := first | omega | (simp only [lenL_set, lenL_app, lenL_cons, lenL_nil] <;> omega)) only [lenL_bytes, lenL_set, lenL_app, lenL_cons, lenL_nil, lenL_rep, lenL_sub, lenL_cpy, Int.ofNat_eq_natCast, Int.zero_add, Int.sub_zero] <;> try omega))) (fun i i0 i1 j hj => by (try dsimp only [std_eq, stdN, nvS] at i1); (try simp only [Int.ofNat_eq_natCast] at i1); (obtain rfl : j = 0 := (by omega)) <;> (conv => lhs; whnf) <;> (conv => rhs; whnf) <;> (try dsimp only [std_eq, stdN, nvS]) <;> (first | rfl | (simp (disch := first | omega | (simp only [lenL_set, lenL_app, lenL_cons, lenL_nil] <;> omega)) only [getL_bytes, getL_put, getL_app, getL_rep, getL_sub, getL_cpy, Int.zero_add, Int.sub_zero, beq_iff_eq, decide_eq_true_eq, Bool.and_eq_true] <;> first | rfl | (split <;> first | rfl | (simp (disch := first | omega | (simp only [lenL_set, lenL_app, lenL_cons, lenL_nil] <;> omega)) only [getL_one, getL_zero] <;> rfl)) | ((simp only [lenL_app, lenL_cons, lenL_nil, Int.ofNat_eq_natCast]) <;> (repeat' split) <;> first | rfl | (exfalso; omega) | (simp (disch := omega) only [getL_one, getL_zero] <;> rfl) | (congr 3; omega)))))⟩
                (And.intro ⟨_, rfl, LeOb.arrE (by first | rfl | assumption | (symm; assumption) | ((try dsimp only [std_eq, stdN, nvS]) <;> first | rfl | omega | (simp (disch := first | omega | (simp only [lenL_set, lenL_app, lenL_cons, lenL_nil] <;> omega)) only [lenL_bytes, lenL_set, lenL_app, lenL_cons, lenL_nil, lenL_rep, lenL_sub, lenL_cpy, Int.ofNat_eq_natCast, Int.zero_add, Int.sub_zero] <;> try omega))) (fun i i0 i1 j hj => by (try dsimp only [std_eq, stdN, nvS] at i1); (try simp only [Int.ofNat_eq_natCast] at i1); (obtain rfl : j = 0 := (by omega)) <;> (conv => lhs; whnf) <;> (conv => rhs; whnf) <;> (try dsimp only [std_eq, stdN, nvS]) <;> (first | rfl | (simp (disch := first | omega | (simp only [lenL_set, lenL_app, lenL_cons, lenL_nil] <;> omega)) only [getL_bytes, getL_put, getL_app, getL_rep, getL_sub, getL_cpy, Int.zero_add, Int.sub_zero, beq_iff_eq, decide_eq_true_eq, Bool.and_eq_true] <;> first | rfl | (split <;> first | rfl | (simp (disch := first | omega | (simp only [lenL_set, lenL_app, lenL_cons, lenL_nil] <;> omega)) only [getL_one, getL_zero] <;> rfl)) | ((simp only [lenL_app, lenL_cons, lenL_nil, Int.ofNat_eq_natCast]) <;> (repeat' split) <;> first | rfl | (exfalso; omega) | (simp (disch := omega) only [getL_one, getL_zero] <;> rfl) | (congr 3; omega)))))⟩
                trivial)))
        · replace h := iteO_f h h91
          subst hN
          cases h
          intro he; cases he
          show ∃ t', _ ∧ GeSt _ _ _
          refine ⟨⟨t'6_c + 10, gfn [(10, t'6_g 10), (35, t'6_g 35), (38, t'6_g 38)], tfn [(10, false), (35, t'6_t 35), (38, t'6_t 38)]⟩, Hid.mk_ok (by omega) (And.intro (by have := ht'6_g 10; omega)
              (And.intro (by have := ht'6_g 35; omega)
              (And.intro (by have := ht'6_g 38; omega)
              trivial))), ?_⟩
          exact GeSt.of (LeSt.frame (by show (_ : Nat) < _; (try dsimp only [std_eq, stdN]); omega) rfl rfl (And.intro ⟨_, rfl, LeD.refl _⟩
              (And.intro ⟨_, rfl, LeD.refl _⟩
              (And.intro ⟨_, rfl, LeD.refl _⟩
              (And.intro ⟨_, rfl, LeD.refl _⟩
              (And.intro ⟨_, rfl, LeD.vec rfl (by first | rfl | assumption | (symm; assumption) | ((try dsimp only [std_eq, stdN, nvS]) <;> first | rfl | omega | (simp (disch := first | omega | (simp only [lenL_set, lenL_app, lenL_cons, lenL_nil] <;> omega)) only [lenL_bytes, lenL_set, lenL_app, lenL_cons, lenL_nil, lenL_rep, lenL_sub, lenL_cpy, Int.ofNat_eq_natCast, Int.zero_add, Int.sub_zero] <;> try omega)))⟩
              (And.intro ⟨_, rfl, LeD.vec rfl (by first | rfl | assumption | (symm; assumption) | ((try dsimp only [std_eq, stdN, nvS]) <;> first | rfl | omega | (simp (disch := first | omega | (simp only [lenL_set, lenL_app, lenL_cons, lenL_nil] <;> omega)) only [lenL_bytes, lenL_set, lenL_app, lenL_cons, lenL_nil, lenL_rep, lenL_sub, lenL_cpy, Int.ofNat_eq_natCast, Int.zero_add, Int.sub_zero] <;> try omega)))⟩
              trivial)))))) (And.intro ⟨_, rfl, LeOb.box (And.intro (LeD.refl _)
              (And.intro (LeD.refl _)
              (And.intro (LeD.refl _)
              (And.intro (LeD.refl _)
              (And.intro (LeD.refl _)
              (And.intro (LeD.refl _)
              trivial))))))⟩
              (And.intro ⟨_, rfl, LeOb.arrE (by first | rfl | assumption | (symm; assumption) | ((try dsimp only [std_eq, stdN, nvS]) <;> first | rfl | omega | (simp (disch := first | omega | (simp only [lenL_set, lenL_app, lenL_cons, lenL_nil] <;> omega)) only [lenL_bytes, lenL_set, lenL_app, lenL_cons, lenL_nil, lenL_rep, lenL_sub, lenL_cpy, Int.ofNat_eq_natCast, Int.zero_add, Int.sub_zero] <;> try omega))) (fun i i0 i1 j hj => by (try dsimp only [std_eq, stdN, nvS] at i1); (try simp only [Int.ofNat_eq_natCast] at i1); (obtain rfl : j = 0 := (by omega)) <;> (conv => lhs; whnf) <;> (conv => rhs; whnf) <;> (try dsimp only [std_eq, stdN, nvS]) <;> (first | rfl | (simp (disch := first | omega | (simp only [lenL_set, lenL_app, lenL_cons, lenL_nil] <;> omega)) only [getL_bytes, getL_put, getL_app, getL_rep, getL_sub, getL_cpy, Int.zero_add, Int.sub_zero, beq_iff_eq, decide_eq_true_eq, Bool.and_eq_true] <;> first | rfl | (split <;> first | rfl | (simp (disch := first | omega | (simp only [lenL_set, lenL_app, lenL_cons, lenL_nil] <;> omega)) only [getL_one, getL_zero] <;> rfl)) | ((simp only [lenL_app, lenL_cons, lenL_nil, Int.ofNat_eq_natCast]) <;> (repeat' split) <;> first | rfl | (exfalso; omega) | (simp (disch := omega) only [getL_one, getL_zero] <;> rfl) | (congr 3; omega)))))⟩
              (And.intro ⟨_, rfl, LeOb.arrE (by first | rfl | assumption | (symm; assumption) | ((try dsimp only [std_eq, stdN, nvS]) <;> first | rfl | omega | (simp (disch := first | omega | (simp only [lenL_set, lenL_app, lenL_cons, lenL_nil] <;> omega)) only [lenL_bytes, lenL_set, lenL_app, lenL_cons, lenL_nil, lenL_rep, lenL_sub, lenL_cpy, Int.ofNat_eq_natCast, Int.zero_add, Int.sub_zero] <;> try omega))) (fun i i0 i1 j hj => by (try dsimp only [std_eq, stdN, nvS] at i1); (try simp only [Int.ofNat_eq_natCast] at i1); (obtain rfl : j = 0 := (by omega)) <;> (conv => lhs; whnf) <;> (conv => rhs; whnf) <;> (try dsimp only [std_eq, stdN, nvS]) <;> (first | rfl | (simp (disch := first | omega | (simp only [lenL_set, lenL_app, lenL_cons, lenL_nil] <;> omega)) only [getL_bytes, getL_put, getL_app, getL_rep, getL_sub, getL_cpy, Int.zero_add, Int.sub_zero, beq_iff_eq, decide_eq_true_eq, Bool.and_eq_true] <;> first | rfl | (split <;> first | rfl | (simp (disch := first | omega | (simp only [lenL_set, lenL_app, lenL_cons, lenL_nil] <;> omega)) only [getL_one, getL_zero] <;> rfl)) | ((simp only [lenL_app, lenL_cons, lenL_nil, Int.ofNat_eq_natCast]) <;> (repeat' split) <;> first | rfl | (exfalso; omega) | (simp (disch := omega) only [getL_one, getL_zero] <;> rfl) | (congr 3; omega)))))⟩
              trivial))))
end Go.Vx
