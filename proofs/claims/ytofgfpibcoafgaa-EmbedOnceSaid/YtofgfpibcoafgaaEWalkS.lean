/- Walks, by program (lift.py). -/
import Derived.Test.YtofgfpibcoafgaaEWalk
set_option linter.all false
namespace Go.Vx
open Go.Proofs
set_option maxRecDepth 100000
set_option linter.unusedVariables false
set_option linter.unusedSimpArgs false

theorem si_push_ok (s : T_embed_stack_int_) (x' : Int) (r : (T_embed_stack_int_)) (h : si_push s x' = some r)   : LentFn Try.prog 13 [.bref 0 0 0, (.v (.int .i64 x'))] [.box 0 [.vec 1 0 1 0 (nvS.len s.fl)], .arr 0 1 (nvS.len s.fl) false (fun ix jx => (.v (.int .i64 (nvS.get 0 s.fl ix))))] [.box 0 [.vec 1 1 1 0 (nvS.len r.fl)], .arr 1 1 (nvS.len r.fl) false (fun ix jx => (.v (.int .i64 (nvS.get 0 r.fl ix))))] (.tup 0 (fun _ => .junk)) := by
  obtain ⟨s_l⟩ := s
  unfold si_push at h
  try dsimp only at h
  refine lent_tr tt0_ok Try.func13 (by kernel_rfl) (c := bodyOf Try.f13) (by kernel_rfl) rfl ?_
  intro ctr hc
  refine Tr.chunk (cx := ⟨tt0, ⟨fun f => kOf [] f, fun k _ _ _ => orcL [] k, fun t => memN [10] t⟩, 2, fun r => ghL [] r⟩) tt0_ok hPm fun N hN => ?_
  generalize hp : std Try.prog = p
  generalize hv : nvS = nv
  cbv
  subst hp
  subst hv
  replace h := chk_some h; obtain ⟨h1, h⟩ := h
  refine ⟨rfl, rfl, h1, rfl, ?_⟩
  subst hN
  have hr := Option.some.inj h
  subst hr
  try dsimp only [noGoto, inBlockQ, thenQ]
  repeat (first | refine (if_pos rfl).mpr ?_ | refine (if_neg (by decide)).mpr ?_)
  refine lentQ_normal rfl ?_ ?_ [.top, .at 13 0] ?_
  · exact trivial
  · exact trivial
  · exact (And.intro (rfl)
        (And.intro (rfl)
        (And.intro (And.intro (rfl)
        (And.intro (rfl)
        (And.intro (And.intro (rfl)
        (And.intro (rfl)
        (And.intro (rfl)
        (And.intro (by first | with_reducible rfl | with_reducible assumption | (symm; with_reducible assumption) | ((try dsimp only [std_eq, stdN, nvS]) <;> first | with_reducible rfl | omega | (simp (disch := first | omega | (simp only [lenL_set, lenL_app, lenL_cons, lenL_nil] <;> omega)) only [lenL_bytes, lenL_set, lenL_app, lenL_cons, lenL_nil, lenL_rep, lenL_sub, lenL_cpy, Int.ofNat_eq_natCast, Int.zero_add, Int.sub_zero] <;> first | done | omega | with_reducible assumption)) | rfl)
        rfl))))
        trivial)))
        (And.intro (obEnd_at0 rfl rfl (lenL_nn _) (by (try dsimp only [std_eq, stdN, nvS]) <;> first | omega | (simp (disch := first | omega | (simp only [lenL_set, lenL_app, lenL_cons, lenL_nil] <;> omega)) only [lenL_bytes, lenL_set, lenL_app, lenL_cons, lenL_nil, lenL_rep, lenL_sub, lenL_cpy, Int.ofNat_eq_natCast, Int.zero_add, Int.sub_zero] <;> omega)) (fun i j => out0_int _ _) (fun i i0 i1 j hj => by (try dsimp only [std_eq, stdN, nvS] at i1); (try simp only [Int.ofNat_eq_natCast, lenL_app, lenL_cons, lenL_nil, lenL_set, lenL_bytes] at i1); (try simp (disch := first | omega | (simp only [lenL_set, lenL_app, lenL_cons, lenL_nil] <;> omega)) only [lenL_sub, lenL_rep, lenL_cpy, Int.zero_add, Int.sub_zero] at i1); (obtain rfl : j = 0 := (by omega)) <;> (conv => lhs; whnf) <;> (conv => rhs; whnf) <;> (try dsimp only [std_eq, stdN, nvS]) <;> (first | rfl | (simp (disch := first | omega | (simp only [lenL_set, lenL_app, lenL_cons, lenL_nil] <;> omega)) only [getL_bytes, getL_put, getL_app, getL_rep, getL_sub, getL_cpy, Int.zero_add, Int.sub_zero, beq_iff_eq, decide_eq_true_eq, Bool.and_eq_true] <;> first | rfl | (split <;> first | rfl | (simp (disch := first | omega | (simp only [lenL_set, lenL_app, lenL_cons, lenL_nil] <;> omega)) only [getL_one, getL_zero] <;> rfl)) | (simp (disch := omega) only [getL_one, getL_zero] <;> rfl) | ((simp only [lenL_app, lenL_cons, lenL_nil, Int.ofNat_eq_natCast]) <;> (repeat' split) <;> first | rfl | (exfalso; omega) | (simp (disch := omega) only [getL_one, getL_zero] <;> rfl) | (congr 3; omega))))))
        trivial))))

theorem si_size_ok (s : T_embed_stack_int_) (r : Int) (h : si_size s = some r) : PureFn Try.prog 14 [.imm 1 1 (fun _ j => (D_embed_stack_int_ nvS s j)) 0 0] ((.v (.int .i64 r))) := by
  obtain ⟨s_l⟩ := s
  unfold si_size at h
  try dsimp only at h
  refine fn_tr tt0_ok Try.func14 (by kernel_rfl) (c := bodyOf Try.f14) (by kernel_rfl) ?_
  intro ctr hc
  refine Tr.chunk (cx := ⟨tt0, ⟨fun f => kOf [] f, fun k _ _ _ => orcL [] k, fun t => memN [] t⟩, 0, fun r => ghL [] r⟩) tt0_ok hPm fun N hN => ?_
  generalize hp : std Try.prog = p
  generalize hv : nvS = nv
  cbv
  subst hp
  subst hv
  subst hN
  have hr := Option.some.inj h
  subst hr
  try dsimp only [noGoto, inBlockQ, thenQ]
  repeat (first | refine (if_pos rfl).mpr ?_ | refine (if_neg (by decide)).mpr ?_)
  refine retQ_ret rfl ?_ ?_
  · exact trivial
  · exact rfl

theorem si_last_ok (s : T_embed_stack_int_) (r : Int) (h : si_last s = some r) : PureFn Try.prog 15 [.imm 1 1 (fun _ j => (D_embed_stack_int_ nvS s j)) 0 0] ((.v (.int .i64 r))) := by
  obtain ⟨s_l⟩ := s
  unfold si_last at h
  try dsimp only at h
  refine fn_tr tt0_ok Try.func15 (by kernel_rfl) (c := bodyOf Try.f15) (by kernel_rfl) ?_
  intro ctr hc
  refine Tr.chunk (cx := ⟨tt0, ⟨fun f => kOf [] f, fun k _ _ _ => orcL [] k, fun t => memN [] t⟩, 0, fun r => ghL [] r⟩) tt0_ok hPm fun N hN => ?_
  generalize hp : std Try.prog = p
  generalize hv : nvS = nv
  cbv
  subst hp
  subst hv
  replace h := chk_some h; obtain ⟨h1, h⟩ := h
  replace h := chk_some h; obtain ⟨h2, h⟩ := h
  try (have h2z := h2; simp only [Int.zero_add] at h2z)
  refine ⟨h1, h2, (show drOk _ _ = true by kernel_rfl), ?_⟩
  subst hN
  have hr := Option.some.inj h
  subst hr
  try dsimp only [noGoto, inBlockQ, thenQ]
  repeat (first | refine (if_pos rfl).mpr ?_ | refine (if_neg (by decide)).mpr ?_)
  refine retQ_ret rfl ?_ ?_
  · exact trivial
  · exact rfl

theorem si_pop_ok (s : T_embed_stack_int_) (r : (T_embed_stack_int_)) (h : si_pop s = some r)   : LentFn Try.prog 16 [.bref 0 0 0] [.box 0 [.vec 1 0 1 0 (nvS.len s.fl)], .arr 0 1 (nvS.len s.fl) false (fun ix jx => (.v (.int .i64 (nvS.get 0 s.fl ix))))] [.box 0 [.vec 1 1 1 0 (nvS.len r.fl)], .arr 1 1 (nvS.len r.fl) false (fun ix jx => (.v (.int .i64 (nvS.get 0 r.fl ix))))] (.tup 0 (fun _ => .junk)) := by
  obtain ⟨s_l⟩ := s
  unfold si_pop at h
  try dsimp only at h
  refine lent_tr tt0_ok Try.func16 (by kernel_rfl) (c := bodyOf Try.f16) (by kernel_rfl) rfl ?_
  intro ctr hc
  refine Tr.chunk (cx := ⟨tt0, ⟨fun f => kOf [] f, fun k _ _ _ => orcL [] k, fun t => memN [] t⟩, 2, fun r => ghL [] r⟩) tt0_ok hPm fun N hN => ?_
  generalize hp : std Try.prog = p
  generalize hv : nvS = nv
  cbv
  subst hp
  subst hv
  replace h := chk_some h; obtain ⟨h1, h⟩ := h
  replace h := chk_some h; obtain ⟨h2, h⟩ := h
  refine ⟨rfl, rfl, h1, h2, rfl, (show drOk _ _ = true by kernel_rfl), ?_⟩
  subst hN
  have hr := Option.some.inj h
  subst hr
  try dsimp only [noGoto, inBlockQ, thenQ]
  repeat (first | refine (if_pos rfl).mpr ?_ | refine (if_neg (by decide)).mpr ?_)
  refine lentQ_normal rfl ?_ ?_ [.top, .at 1 (0 + 0)] ?_
  · exact trivial
  · exact trivial
  · exact (And.intro (rfl)
        (And.intro (rfl)
        (And.intro (And.intro (rfl)
        (And.intro (rfl)
        (And.intro (And.intro (rfl)
        (And.intro (rfl)
        (And.intro (rfl)
        (And.intro (by first | with_reducible rfl | with_reducible assumption | (symm; with_reducible assumption) | ((try dsimp only [std_eq, stdN, nvS]) <;> first | with_reducible rfl | omega | (simp (disch := first | omega | (simp only [lenL_set, lenL_app, lenL_cons, lenL_nil] <;> omega)) only [lenL_bytes, lenL_set, lenL_app, lenL_cons, lenL_nil, lenL_rep, lenL_sub, lenL_cpy, Int.ofNat_eq_natCast, Int.zero_add, Int.sub_zero] <;> first | done | omega | with_reducible assumption)) | rfl)
        rfl))))
        trivial)))
        (And.intro (obEnd_at rfl rfl (by (try dsimp only [std_eq, stdN, nvS]) <;> omega) (lenL_nn _) (by (try dsimp only [std_eq, stdN, nvS]) <;> first | omega | (simp (disch := first | omega | (simp only [lenL_set, lenL_app, lenL_cons, lenL_nil] <;> omega)) only [lenL_bytes, lenL_set, lenL_app, lenL_cons, lenL_nil, lenL_rep, lenL_sub, lenL_cpy, Int.ofNat_eq_natCast, Int.zero_add, Int.sub_zero] <;> omega)) (fun i j => out0_int _ _) (fun i i0 i1 j hj => by (try dsimp only [std_eq, stdN, nvS] at i1); (try simp only [Int.ofNat_eq_natCast, lenL_app, lenL_cons, lenL_nil, lenL_set, lenL_bytes] at i1); (try simp (disch := first | omega | (simp only [lenL_set, lenL_app, lenL_cons, lenL_nil] <;> omega)) only [lenL_sub, lenL_rep, lenL_cpy, Int.zero_add, Int.sub_zero] at i1); (obtain rfl : j = 0 := (by omega)) <;> (conv => lhs; whnf) <;> (conv => rhs; whnf) <;> (try dsimp only [std_eq, stdN, nvS]) <;> (first | rfl | (simp (disch := first | omega | (simp only [lenL_set, lenL_app, lenL_cons, lenL_nil] <;> omega)) only [getL_bytes, getL_put, getL_app, getL_rep, getL_sub, getL_cpy, Int.zero_add, Int.sub_zero, beq_iff_eq, decide_eq_true_eq, Bool.and_eq_true] <;> first | rfl | (split <;> first | rfl | (simp (disch := first | omega | (simp only [lenL_set, lenL_app, lenL_cons, lenL_nil] <;> omega)) only [getL_one, getL_zero] <;> rfl)) | (simp (disch := omega) only [getL_one, getL_zero] <;> rfl) | ((simp only [lenL_app, lenL_cons, lenL_nil, Int.ofNat_eq_natCast]) <;> (repeat' split) <;> first | rfl | (exfalso; omega) | (simp (disch := omega) only [getL_one, getL_zero] <;> rfl) | (congr 3; omega))))))
        trivial))))

theorem embed_known_ok (l' : (List Int)) (r : (List Int)) (h : embed_known l' = some r) : PureFn Try.prog 17 [(.sl 1 (nvS.len l') false (fun ix jx => (.v (.int .i64 (nvS.get 0 l' ix)))))] (.own 1 (nvS.len r) false (fun ix jx => (.v (.int .i64 (nvS.get 0 r ix))))) := by
  unfold embed_known at h
  refine fn_tr tt0_ok Try.func17 (by kernel_rfl) (c := bodyOf Try.f17) (by kernel_rfl) ?_
  intro ctr hc
  refine Tr.pre (cx := ⟨tt0, ⟨fun f => kOf [] f, fun k _ _ _ => orcL [] k, fun t => memN [] t⟩, 0, fun r => ghL [] r⟩) tt0_ok hPm 2 fun N hN => ?_
  generalize hp : std Try.prog = p
  generalize hv : nvS = nv
  cbv
  subst hp
  subst hv
  replace h := chk_some h; obtain ⟨h1, h⟩ := h
  have h1' := h1.1; have h1'' := h1.2.1
  refine ⟨h1, ?_⟩
  subst hN
  show Tr _ _ _ _
  refine Tr.cutSeq (α := List Int) h (fun out t' => ⟨frm 28 [(3, .vec 8 (t'.g 8) 1 0 (nvS.len l'))] 0, frO 28 [(8, .arr (t'.g 8) 1 (nvS.len l') (t'.t 8) (fun ix jx => (.v (.int .i64 (nvS.get 0 out ix)))))] 0, t'.c⟩) (fun out t => Hid.ok t ∧ lenL out = (lenL l')) (fun x t' ht' h => ?_) (fun f h => ?_)
  · revert h; revert ht'; revert x; intro out ht' h
    obtain ⟨ht', ht'_f0⟩ := ht'
    obtain ⟨t'_c, t'_g, t'_t⟩ := t'
    have ht'_c : 0 < t'_c := ht'.1
    have ht'_g : ∀ k, t'_g k < t'_c := ht'.2
    refine Tr.chunk (cx := ⟨tt0, ⟨fun f => kOf [] f, fun k _ _ _ => orcL [] k, fun t => memN [] t⟩, 0, fun r => ghL [] r⟩) tt0_ok hPm fun N hN => ?_
    generalize hp : std Try.prog = p
    generalize hv : nvS = nv
    cbv
    subst hp
    subst hv
    subst hN
    have hr := Option.some.inj h
    subst hr
    try dsimp only [noGoto, inBlockQ, thenQ]
    repeat (first | refine (if_pos rfl).mpr ?_ | refine (if_neg (by decide)).mpr ?_)
    refine retQ_ret rfl ?_ ?_
    · exact trivial
    · exact (And.intro (rfl)
          (And.intro (by first | rfl | (try dsimp only [std_eq, stdN, nvS]) <;> first | rfl | omega | (simp only [lenL_set, lenL_app, lenL_cons, lenL_nil, Int.zero_add, Int.sub_zero] <;> first | done | omega))
          (And.intro (fun h => by cases h)
          (out0_all (fun i j => out0_int _ _) (fun i i0 i1 j hj => by (try dsimp only [std_eq, stdN, nvS] at i1); (try simp only [Int.ofNat_eq_natCast, lenL_app, lenL_cons, lenL_nil, lenL_set, lenL_bytes] at i1); (try simp (disch := first | omega | (simp only [lenL_set, lenL_app, lenL_cons, lenL_nil] <;> omega)) only [lenL_sub, lenL_rep, lenL_cpy, Int.zero_add, Int.sub_zero] at i1); (obtain rfl : j = 0 := (by omega)) <;> (conv => lhs; whnf) <;> (conv => rhs; whnf) <;> (try dsimp only [std_eq, stdN, nvS]) <;> (first | rfl | (simp (disch := first | omega | (simp only [lenL_set, lenL_app, lenL_cons, lenL_nil] <;> omega)) only [getL_bytes, getL_put, getL_app, getL_rep, getL_sub, getL_cpy, Int.zero_add, Int.sub_zero, beq_iff_eq, decide_eq_true_eq, Bool.and_eq_true] <;> first | rfl | (split <;> first | rfl | (simp (disch := first | omega | (simp only [lenL_set, lenL_app, lenL_cons, lenL_nil] <;> omega)) only [getL_one, getL_zero] <;> rfl)) | (simp (disch := omega) only [getL_one, getL_zero] <;> rfl) | ((simp only [lenL_app, lenL_cons, lenL_nil, Int.ofNat_eq_natCast]) <;> (repeat' split) <;> first | rfl | (exfalso; omega) | (simp (disch := omega) only [getL_one, getL_zero] <;> rfl) | (congr 3; omega)))))))))
  · refine Tr.pre (cx := ⟨tt0, ⟨fun f => kOf [] f, fun k _ _ _ => orcL [] k, fun t => memN [] t⟩, 0, fun r => ghL [] r⟩) tt0_ok hPm 1 fun N hN => ?_
    generalize hp : std Try.prog = p
    generalize hv : nvS = nv
    cbv
    subst hp
    subst hv
    subst hN
    show Tr _ _ _ _
    refine Tr.block ?_
    refine Tr.loopO (α := Int × List Int) (fun (v, out1) t'1 => ⟨frm 28 [(3, .vec 8 (t'1.g 8) 1 0 (nvS.len l')), (9, .sl 1 (nvS.len l') false (fun ix jx => (.v (.int .i64 (nvS.get 0 l' ix))))), (10, .v (.int .i64 (nvS.len l'))), (11, .v (.int .i64 v))] 0, frO 28 [(8, .arr (t'1.g 8) 1 (nvS.len l') (t'1.t 8) (fun ix jx => (.v (.int .i64 (nvS.get 0 out1 ix)))))] 0, t'1.c⟩) (fun (v, out1) t => Hid.ok t ∧ lenL out1 = (lenL l')) ⟨ctr + 12, gfn [(8, ctr + 1)], tfn [(8, ((std Try.prog).eq (nvS.len l') (nvS.len l')))]⟩ h ?_ ?_ (fun x t'1 f ht'1 h => ?_)
    · exact (And.intro (Hid.mk_ok (by omega) (And.intro (by omega)
          trivial))
          (by first | with_reducible assumption | (simp (disch := first | omega | (simp only [lenL_set, lenL_app, lenL_cons, lenL_nil] <;> omega)) only [lenL_bytes, lenL_set, lenL_app, lenL_cons, lenL_nil, lenL_rep, lenL_sub, lenL_cpy, Int.ofNat_eq_natCast, Int.zero_add, Int.sub_zero] <;> first | done | with_reducible assumption | omega) | omega | rfl))
    · exact GeSt.of (LeSt.frame (by show (_ : Nat) < _; (try dsimp only [std_eq, stdN]); omega) rfl rfl (And.intro ⟨_, rfl, LeD.refl _⟩
          (And.intro ⟨_, rfl, LeD.refl _⟩
          (And.intro ⟨_, rfl, LeD.refl _⟩
          (And.intro ⟨_, rfl, LeD.refl _⟩
          trivial)))) (And.intro ⟨_, rfl, LeOb.arrE (by first | with_reducible rfl | with_reducible assumption | (symm; with_reducible assumption)) (fun i i0 i1 j hj => by (try dsimp only [std_eq, stdN, nvS] at i1); (try simp only [Int.ofNat_eq_natCast, lenL_app, lenL_cons, lenL_nil, lenL_set, lenL_bytes] at i1); (try simp (disch := first | omega | (simp only [lenL_set, lenL_app, lenL_cons, lenL_nil] <;> omega)) only [lenL_sub, lenL_rep, lenL_cpy, Int.zero_add, Int.sub_zero] at i1); (obtain rfl : j = 0 := (by omega)) <;> (conv => lhs; whnf) <;> (conv => rhs; whnf) <;> (try dsimp only [std_eq, stdN, nvS]) <;> (first | rfl | (simp (disch := first | omega | (simp only [lenL_set, lenL_app, lenL_cons, lenL_nil] <;> omega)) only [getL_bytes, getL_put, getL_app, getL_rep, getL_sub, getL_cpy, Int.zero_add, Int.sub_zero, beq_iff_eq, decide_eq_true_eq, Bool.and_eq_true] <;> first | rfl | (split <;> first | rfl | (simp (disch := first | omega | (simp only [lenL_set, lenL_app, lenL_cons, lenL_nil] <;> omega)) only [getL_one, getL_zero] <;> rfl)) | (simp (disch := omega) only [getL_one, getL_zero] <;> rfl) | ((simp only [lenL_app, lenL_cons, lenL_nil, Int.ofNat_eq_natCast]) <;> (repeat' split) <;> first | rfl | (exfalso; omega) | (simp (disch := omega) only [getL_one, getL_zero] <;> rfl) | (congr 3; omega)))))⟩
          trivial))
    · obtain ⟨v, out1⟩ := x
      try dsimp only at h
      obtain ⟨ht'1, ht'1_f0⟩ := ht'1
      obtain ⟨t'1_c, t'1_g, t'1_t⟩ := t'1
      have ht'1_c : 0 < t'1_c := ht'1.1
      have ht'1_g : ∀ k, t'1_g k < t'1_c := ht'1.2
      refine Tr.chunk (cx := ⟨tt0, ⟨fun f => kOf [] f, fun k _ _ _ => orcL [] k, fun t => memN [] t⟩, 0, fun r => ghL [] r⟩) tt0_ok hPm fun N hN => ?_
      generalize hp : std Try.prog = p
      generalize hv : nvS = nv
      cbv
      subst hp
      subst hv
      refine ⟨fun h30 => ?_, fun h30 => ?_⟩
      · replace h := iteO_t h h30
        replace h := chk_some h; obtain ⟨h31, h⟩ := h
        try (have h31z := h31; simp only [Int.zero_add] at h31z)
        refine ⟨h31, ?_⟩
        refine ⟨(fun hg => hg), (fun hg => hg), ?_⟩
        refine ⟨fun h32 => ?_, fun h32 => ?_⟩
        · replace h := iteO_t h h32
          replace h := chk_some h; obtain ⟨h33, h⟩ := h
          try (have h33z := h33; simp only [Int.zero_add] at h33z)
          refine ⟨h33, rfl, ?_⟩
          replace h := chk_some h; obtain ⟨h34, h⟩ := h
          refine ⟨h34, ?_⟩
          subst hN
          cases h
          show ∃ t', _ ∧ GeSt _ _ _
          refine ⟨⟨t'1_c + 15, gfn [(8, t'1_g 8)], tfn [(8, t'1_t 8)]⟩, (And.intro (Hid.mk_ok (by omega) (And.intro (by have := ht'1_g 8; omega)
              trivial))
              (by first | with_reducible assumption | (simp (disch := first | omega | (simp only [lenL_set, lenL_app, lenL_cons, lenL_nil] <;> omega)) only [lenL_bytes, lenL_set, lenL_app, lenL_cons, lenL_nil, lenL_rep, lenL_sub, lenL_cpy, Int.ofNat_eq_natCast, Int.zero_add, Int.sub_zero] <;> first | done | with_reducible assumption | omega) | omega | rfl)), ?_⟩
          exact GeSt.of (LeSt.frame (by show (_ : Nat) < _; (try dsimp only [std_eq, stdN]); omega) rfl rfl (And.intro ⟨_, rfl, LeD.refl _⟩
              (And.intro ⟨_, rfl, LeD.refl _⟩
              (And.intro ⟨_, rfl, LeD.refl _⟩
              (And.intro ⟨_, rfl, LeD.refl _⟩
              trivial)))) (And.intro ⟨_, rfl, LeOb.arrE (by first | with_reducible rfl | with_reducible assumption | (symm; with_reducible assumption)) (fun i i0 i1 j hj => by (try dsimp only [std_eq, stdN, nvS] at i1); (try simp only [Int.ofNat_eq_natCast, lenL_app, lenL_cons, lenL_nil, lenL_set, lenL_bytes] at i1); (try simp (disch := first | omega | (simp only [lenL_set, lenL_app, lenL_cons, lenL_nil] <;> omega)) only [lenL_sub, lenL_rep, lenL_cpy, Int.zero_add, Int.sub_zero] at i1); (obtain rfl : j = 0 := (by omega)) <;> (conv => lhs; whnf) <;> (conv => rhs; whnf) <;> (try dsimp only [std_eq, stdN, nvS]) <;> (first | rfl | (simp (disch := first | omega | (simp only [lenL_set, lenL_app, lenL_cons, lenL_nil] <;> omega)) only [getL_bytes, getL_put, getL_app, getL_rep, getL_sub, getL_cpy, Int.zero_add, Int.sub_zero, beq_iff_eq, decide_eq_true_eq, Bool.and_eq_true] <;> first | rfl | (split <;> first | rfl | (simp (disch := first | omega | (simp only [lenL_set, lenL_app, lenL_cons, lenL_nil] <;> omega)) only [getL_one, getL_zero] <;> rfl)) | (simp (disch := omega) only [getL_one, getL_zero] <;> rfl) | ((simp only [lenL_app, lenL_cons, lenL_nil, Int.ofNat_eq_natCast]) <;> (repeat' split) <;> first | rfl | (exfalso; omega) | (simp (disch := omega) only [getL_one, getL_zero] <;> rfl) | (congr 3; omega)))))⟩
              trivial))
        · replace h := iteO_f h h32
          replace h := chk_some h; obtain ⟨h35, h⟩ := h
          try (have h35z := h35; simp only [Int.zero_add] at h35z)
          refine ⟨h35, rfl, ?_⟩
          replace h := chk_some h; obtain ⟨h36, h⟩ := h
          refine ⟨h36, ?_⟩
          subst hN
          cases h
          show ∃ t', _ ∧ GeSt _ _ _
          refine ⟨⟨t'1_c + 14, gfn [(8, t'1_g 8)], tfn [(8, t'1_t 8)]⟩, (And.intro (Hid.mk_ok (by omega) (And.intro (by have := ht'1_g 8; omega)
              trivial))
              (by first | with_reducible assumption | (simp (disch := first | omega | (simp only [lenL_set, lenL_app, lenL_cons, lenL_nil] <;> omega)) only [lenL_bytes, lenL_set, lenL_app, lenL_cons, lenL_nil, lenL_rep, lenL_sub, lenL_cpy, Int.ofNat_eq_natCast, Int.zero_add, Int.sub_zero] <;> first | done | with_reducible assumption | omega) | omega | rfl)), ?_⟩
          exact GeSt.of (LeSt.frame (by show (_ : Nat) < _; (try dsimp only [std_eq, stdN]); omega) rfl rfl (And.intro ⟨_, rfl, LeD.refl _⟩
              (And.intro ⟨_, rfl, LeD.refl _⟩
              (And.intro ⟨_, rfl, LeD.refl _⟩
              (And.intro ⟨_, rfl, LeD.refl _⟩
              trivial)))) (And.intro ⟨_, rfl, LeOb.arrE (by first | with_reducible rfl | with_reducible assumption | (symm; with_reducible assumption)) (fun i i0 i1 j hj => by (try dsimp only [std_eq, stdN, nvS] at i1); (try simp only [Int.ofNat_eq_natCast, lenL_app, lenL_cons, lenL_nil, lenL_set, lenL_bytes] at i1); (try simp (disch := first | omega | (simp only [lenL_set, lenL_app, lenL_cons, lenL_nil] <;> omega)) only [lenL_sub, lenL_rep, lenL_cpy, Int.zero_add, Int.sub_zero] at i1); (obtain rfl : j = 0 := (by omega)) <;> (conv => lhs; whnf) <;> (conv => rhs; whnf) <;> (try dsimp only [std_eq, stdN, nvS]) <;> (first | rfl | (simp (disch := first | omega | (simp only [lenL_set, lenL_app, lenL_cons, lenL_nil] <;> omega)) only [getL_bytes, getL_put, getL_app, getL_rep, getL_sub, getL_cpy, Int.zero_add, Int.sub_zero, beq_iff_eq, decide_eq_true_eq, Bool.and_eq_true] <;> first | rfl | (split <;> first | rfl | (simp (disch := first | omega | (simp only [lenL_set, lenL_app, lenL_cons, lenL_nil] <;> omega)) only [getL_one, getL_zero] <;> rfl)) | (simp (disch := omega) only [getL_one, getL_zero] <;> rfl) | ((simp only [lenL_app, lenL_cons, lenL_nil, Int.ofNat_eq_natCast]) <;> (repeat' split) <;> first | rfl | (exfalso; omega) | (simp (disch := omega) only [getL_one, getL_zero] <;> rfl) | (congr 3; omega)))))⟩
              trivial))
      · replace h := iteO_f h h30
        subst hN
        cases h
        intro he; cases he
        show ∃ t', _ ∧ GeSt _ _ _
        refine ⟨⟨t'1_c + 10, gfn [(8, t'1_g 8)], tfn [(8, t'1_t 8)]⟩, (And.intro (Hid.mk_ok (by omega) (And.intro (by have := ht'1_g 8; omega)
            trivial))
            (by first | with_reducible assumption | (simp (disch := first | omega | (simp only [lenL_set, lenL_app, lenL_cons, lenL_nil] <;> omega)) only [lenL_bytes, lenL_set, lenL_app, lenL_cons, lenL_nil, lenL_rep, lenL_sub, lenL_cpy, Int.ofNat_eq_natCast, Int.zero_add, Int.sub_zero] <;> first | done | with_reducible assumption | omega) | omega | rfl)), ?_⟩
        exact GeSt.of (LeSt.frame (by show (_ : Nat) < _; (try dsimp only [std_eq, stdN]); omega) rfl rfl (And.intro ⟨_, rfl, LeD.refl _⟩
            trivial) (And.intro ⟨_, rfl, LeOb.refl _⟩
            trivial))

theorem embed_parity_ok (base : Int) (r : Int) (h : embed_parity base = some r) : PureFn Try.prog 18 [(.v (.int .i64 base))] ((.v (.int .i64 r))) := by
  unfold embed_parity at h
  refine fn_tr tt0_ok Try.func18 (by kernel_rfl) (c := bodyOf Try.f18) (by kernel_rfl) ?_
  intro ctr hc
  refine Tr.chunk (cx := ⟨tt0, ⟨fun f => kOf [] f, fun k _ _ _ => orcL [] k, fun t => memN [] t⟩, 0, fun r => ghL [] r⟩) tt0_ok hPm fun N hN => ?_
  generalize hp : std Try.prog = p
  generalize hv : nvS = nv
  cbv
  subst hp
  subst hv
  replace h := chk_some h; obtain ⟨h1, h⟩ := h
  refine ⟨h1, ?_⟩
  subst hN
  have hr := Option.some.inj h
  subst hr
  try dsimp only [noGoto, inBlockQ, thenQ]
  repeat (first | refine (if_pos rfl).mpr ?_ | refine (if_neg (by decide)).mpr ?_)
  refine retQ_ret rfl ?_ ?_
  · exact trivial
  · exact rfl

theorem ss_push_ok (s : T_embed_status_) (x' : T_embed_status) (r : (T_embed_status_)) (h : ss_push s x' = some r)   : LentFn Try.prog 19 [.bref 0 0 0, (.agg 3 (fun j => (D_embed_status nvS x' j)))] [.box 0 [.vec 1 0 3 0 (nvS.len s.fl)], .arr 0 3 (nvS.len s.fl) false (fun ix jx => (D_embed_status nvS (nvS.get d_embed_status s.fl ix) jx))] [.box 0 [.vec 1 1 3 0 (nvS.len r.fl)], .arr 1 3 (nvS.len r.fl) false (fun ix jx => (D_embed_status nvS (nvS.get d_embed_status r.fl ix) jx))] (.tup 0 (fun _ => .junk)) := by
  obtain ⟨s_l⟩ := s
  obtain ⟨x_level, x_override, x_isolate⟩ := x'
  unfold ss_push at h
  try dsimp only at h
  refine lent_tr tt0_ok Try.func19 (by kernel_rfl) (c := bodyOf Try.f19) (by kernel_rfl) rfl ?_
  intro ctr hc
  refine Tr.chunk (cx := ⟨tt0, ⟨fun f => kOf [] f, fun k _ _ _ => orcL [] k, fun t => memN [10] t⟩, 2, fun r => ghL [] r⟩) tt0_ok hPm fun N hN => ?_
  generalize hp : std Try.prog = p
  generalize hv : nvS = nv
  cbv
  subst hp
  subst hv
  replace h := chk_some h; obtain ⟨h1, h⟩ := h
  refine ⟨rfl, rfl, rfl, h1, rfl, (show drOk _ _ = true by kernel_rfl), ?_⟩
  subst hN
  have hr := Option.some.inj h
  subst hr
  try dsimp only [noGoto, inBlockQ, thenQ]
  repeat (first | refine (if_pos rfl).mpr ?_ | refine (if_neg (by decide)).mpr ?_)
  refine lentQ_normal rfl ?_ ?_ [.top, .at 13 0] ?_
  · exact trivial
  · exact trivial
  · exact (And.intro (rfl)
        (And.intro (rfl)
        (And.intro (And.intro (rfl)
        (And.intro (rfl)
        (And.intro (And.intro (rfl)
        (And.intro (rfl)
        (And.intro (rfl)
        (And.intro (by first | with_reducible rfl | with_reducible assumption | (symm; with_reducible assumption) | ((try dsimp only [std_eq, stdN, nvS]) <;> first | with_reducible rfl | omega | (simp (disch := first | omega | (simp only [lenL_set, lenL_app, lenL_cons, lenL_nil] <;> omega)) only [lenL_bytes, lenL_set, lenL_app, lenL_cons, lenL_nil, lenL_rep, lenL_sub, lenL_cpy, Int.ofNat_eq_natCast, Int.zero_add, Int.sub_zero] <;> first | done | omega | with_reducible assumption)) | rfl)
        rfl))))
        trivial)))
        (And.intro (obEnd_at0 rfl rfl (lenL_nn _) (by (try dsimp only [std_eq, stdN, nvS]) <;> first | omega | (simp (disch := first | omega | (simp only [lenL_set, lenL_app, lenL_cons, lenL_nil] <;> omega)) only [lenL_bytes, lenL_set, lenL_app, lenL_cons, lenL_nil, lenL_rep, lenL_sub, lenL_cpy, Int.ofNat_eq_natCast, Int.zero_add, Int.sub_zero] <;> omega)) (fun i j => out_embed_status _ _) (fun i i0 i1 j hj => by (try dsimp only [std_eq, stdN, nvS] at i1); (try simp only [Int.ofNat_eq_natCast, lenL_app, lenL_cons, lenL_nil, lenL_set, lenL_bytes] at i1); (try simp (disch := first | omega | (simp only [lenL_set, lenL_app, lenL_cons, lenL_nil] <;> omega)) only [lenL_sub, lenL_rep, lenL_cpy, Int.zero_add, Int.sub_zero] at i1); (rcases (show j = 0 ∨ j = 1 ∨ j = 2 by omega) with rfl | rfl | rfl) <;> (conv => lhs; whnf) <;> (conv => rhs; whnf) <;> (try dsimp only [std_eq, stdN, nvS]) <;> (first | rfl | (simp (disch := first | omega | (simp only [lenL_set, lenL_app, lenL_cons, lenL_nil] <;> omega)) only [getL_bytes, getL_put, getL_app, getL_rep, getL_sub, getL_cpy, Int.zero_add, Int.sub_zero, beq_iff_eq, decide_eq_true_eq, Bool.and_eq_true] <;> first | rfl | (split <;> first | rfl | (simp (disch := first | omega | (simp only [lenL_set, lenL_app, lenL_cons, lenL_nil] <;> omega)) only [getL_one, getL_zero] <;> rfl)) | (simp (disch := omega) only [getL_one, getL_zero] <;> rfl) | ((simp only [lenL_app, lenL_cons, lenL_nil, Int.ofNat_eq_natCast]) <;> (repeat' split) <;> first | rfl | (exfalso; omega) | (simp (disch := omega) only [getL_one, getL_zero] <;> rfl) | (congr 3; omega))))))
        trivial))))

theorem ss_last_ok (s : T_embed_status_) (r : T_embed_status) (h : ss_last s = some r) : PureFn Try.prog 32 [.imm 1 1 (fun _ j => (D_embed_status_ nvS s j)) 0 0] ((.agg 3 (fun j => (D_embed_status nvS r j)))) := by
  obtain ⟨s_l⟩ := s
  unfold ss_last at h
  try dsimp only at h
  refine fn_tr tt0_ok Try.func32 (by kernel_rfl) (c := bodyOf Try.f32) (by kernel_rfl) ?_
  intro ctr hc
  refine Tr.chunk (cx := ⟨tt0, ⟨fun f => kOf [] f, fun k _ _ _ => orcL [] k, fun t => memN [] t⟩, 0, fun r => ghL [] r⟩) tt0_ok hPm fun N hN => ?_
  generalize hp : std Try.prog = p
  generalize hv : nvS = nv
  cbv
  subst hp
  subst hv
  replace h := chk_some h; obtain ⟨h1, h⟩ := h
  replace h := chk_some h; obtain ⟨h2, h⟩ := h
  try (have h2z := h2; simp only [Int.zero_add] at h2z)
  refine ⟨h1, h2, rfl, (show drOk _ _ = true by kernel_rfl), ?_⟩
  subst hN
  have hr := Option.some.inj h
  subst hr
  try dsimp only [noGoto, inBlockQ, thenQ]
  repeat (first | refine (if_pos rfl).mpr ?_ | refine (if_neg (by decide)).mpr ?_)
  refine retQ_ret rfl ?_ ?_
  · exact (And.intro (rfl)
        trivial)
  · exact (fun i _ _ j hj => by
          have hj2 : j < 3 := hj
          rcases (show j = 0 ∨ j = 1 ∨ j = 2 by omega) with rfl | rfl | rfl
          · exact rfl
          · exact rfl
          · exact rfl)

theorem ss_pop_ok (s : T_embed_status_) (r : (T_embed_status_)) (h : ss_pop s = some r)   : LentFn Try.prog 33 [.bref 0 0 0] [.box 0 [.vec 1 0 3 0 (nvS.len s.fl)], .arr 0 3 (nvS.len s.fl) false (fun ix jx => (D_embed_status nvS (nvS.get d_embed_status s.fl ix) jx))] [.box 0 [.vec 1 1 3 0 (nvS.len r.fl)], .arr 1 3 (nvS.len r.fl) false (fun ix jx => (D_embed_status nvS (nvS.get d_embed_status r.fl ix) jx))] (.tup 0 (fun _ => .junk)) := by
  obtain ⟨s_l⟩ := s
  unfold ss_pop at h
  try dsimp only at h
  refine lent_tr tt0_ok Try.func33 (by kernel_rfl) (c := bodyOf Try.f33) (by kernel_rfl) rfl ?_
  intro ctr hc
  refine Tr.chunk (cx := ⟨tt0, ⟨fun f => kOf [] f, fun k _ _ _ => orcL [] k, fun t => memN [] t⟩, 2, fun r => ghL [] r⟩) tt0_ok hPm fun N hN => ?_
  generalize hp : std Try.prog = p
  generalize hv : nvS = nv
  cbv
  subst hp
  subst hv
  replace h := chk_some h; obtain ⟨h1, h⟩ := h
  replace h := chk_some h; obtain ⟨h2, h⟩ := h
  refine ⟨rfl, rfl, h1, h2, rfl, (show drOk _ _ = true by kernel_rfl), ?_⟩
  subst hN
  have hr := Option.some.inj h
  subst hr
  try dsimp only [noGoto, inBlockQ, thenQ]
  repeat (first | refine (if_pos rfl).mpr ?_ | refine (if_neg (by decide)).mpr ?_)
  refine lentQ_normal rfl ?_ ?_ [.top, .at 1 (0 + 0)] ?_
  · exact trivial
  · exact trivial
  · exact (And.intro (rfl)
        (And.intro (rfl)
        (And.intro (And.intro (rfl)
        (And.intro (rfl)
        (And.intro (And.intro (rfl)
        (And.intro (rfl)
        (And.intro (rfl)
        (And.intro (by first | with_reducible rfl | with_reducible assumption | (symm; with_reducible assumption) | ((try dsimp only [std_eq, stdN, nvS]) <;> first | with_reducible rfl | omega | (simp (disch := first | omega | (simp only [lenL_set, lenL_app, lenL_cons, lenL_nil] <;> omega)) only [lenL_bytes, lenL_set, lenL_app, lenL_cons, lenL_nil, lenL_rep, lenL_sub, lenL_cpy, Int.ofNat_eq_natCast, Int.zero_add, Int.sub_zero] <;> first | done | omega | with_reducible assumption)) | rfl)
        rfl))))
        trivial)))
        (And.intro (obEnd_at rfl rfl (by (try dsimp only [std_eq, stdN, nvS]) <;> omega) (lenL_nn _) (by (try dsimp only [std_eq, stdN, nvS]) <;> first | omega | (simp (disch := first | omega | (simp only [lenL_set, lenL_app, lenL_cons, lenL_nil] <;> omega)) only [lenL_bytes, lenL_set, lenL_app, lenL_cons, lenL_nil, lenL_rep, lenL_sub, lenL_cpy, Int.ofNat_eq_natCast, Int.zero_add, Int.sub_zero] <;> omega)) (fun i j => out_embed_status _ _) (fun i i0 i1 j hj => by (try dsimp only [std_eq, stdN, nvS] at i1); (try simp only [Int.ofNat_eq_natCast, lenL_app, lenL_cons, lenL_nil, lenL_set, lenL_bytes] at i1); (try simp (disch := first | omega | (simp only [lenL_set, lenL_app, lenL_cons, lenL_nil] <;> omega)) only [lenL_sub, lenL_rep, lenL_cpy, Int.zero_add, Int.sub_zero] at i1); (rcases (show j = 0 ∨ j = 1 ∨ j = 2 by omega) with rfl | rfl | rfl) <;> (conv => lhs; whnf) <;> (conv => rhs; whnf) <;> (try dsimp only [std_eq, stdN, nvS]) <;> (first | rfl | (simp (disch := first | omega | (simp only [lenL_set, lenL_app, lenL_cons, lenL_nil] <;> omega)) only [getL_bytes, getL_put, getL_app, getL_rep, getL_sub, getL_cpy, Int.zero_add, Int.sub_zero, beq_iff_eq, decide_eq_true_eq, Bool.and_eq_true] <;> first | rfl | (split <;> first | rfl | (simp (disch := first | omega | (simp only [lenL_set, lenL_app, lenL_cons, lenL_nil] <;> omega)) only [getL_one, getL_zero] <;> rfl)) | (simp (disch := omega) only [getL_one, getL_zero] <;> rfl) | ((simp only [lenL_app, lenL_cons, lenL_nil, Int.ofNat_eq_natCast]) <;> (repeat' split) <;> first | rfl | (exfalso; omega) | (simp (disch := omega) only [getL_one, getL_zero] <;> rfl) | (congr 3; omega))))))
        trivial))))

theorem ss_size_ok (s : T_embed_status_) (r : Int) (h : ss_size s = some r) : PureFn Try.prog 34 [.imm 1 1 (fun _ j => (D_embed_status_ nvS s j)) 0 0] ((.v (.int .i64 r))) := by
  obtain ⟨s_l⟩ := s
  unfold ss_size at h
  try dsimp only at h
  refine fn_tr tt0_ok Try.func34 (by kernel_rfl) (c := bodyOf Try.f34) (by kernel_rfl) ?_
  intro ctr hc
  refine Tr.chunk (cx := ⟨tt0, ⟨fun f => kOf [] f, fun k _ _ _ => orcL [] k, fun t => memN [] t⟩, 0, fun r => ghL [] r⟩) tt0_ok hPm fun N hN => ?_
  generalize hp : std Try.prog = p
  generalize hv : nvS = nv
  cbv
  subst hp
  subst hv
  subst hN
  have hr := Option.some.inj h
  subst hr
  try dsimp only [noGoto, inBlockQ, thenQ]
  repeat (first | refine (if_pos rfl).mpr ?_ | refine (if_neg (by decide)).mpr ?_)
  refine retQ_ret rfl ?_ ?_
  · exact trivial
  · exact rfl

theorem embed_isolate_ok (c' : Int) (r : Bool) (h : embed_isolate c' = some r) : PureFn Try.prog 28 [(.v (.int .i64 c'))] ((.v (.bool r))) := by
  unfold embed_isolate at h
  refine fn_tr tt0_ok Try.func28 (by kernel_rfl) (c := bodyOf Try.f28) (by kernel_rfl) ?_
  intro ctr hc
  refine Tr.chunk (cx := ⟨tt0, ⟨fun f => kOf [] f, fun k _ _ _ => orcL [] k, fun t => memN [] t⟩, 0, fun r => ghL [] r⟩) tt0_ok hPm fun N hN => ?_
  generalize hp : std Try.prog = p
  generalize hv : nvS = nv
  cbv
  subst hp
  subst hv
  refine ⟨(fun hg => hg), (fun hg => hg), (fun hg => hg), (fun hg => hg), ?_⟩
  subst hN
  have hr := Option.some.inj h
  subst hr
  try dsimp only [noGoto, inBlockQ, thenQ]
  repeat (first | refine (if_pos rfl).mpr ?_ | refine (if_neg (by decide)).mpr ?_)
  refine retQ_ret rfl ?_ ?_
  · exact trivial
  · exact rfl

theorem embed_side_ok (level : Int) (r : Int) (h : embed_side level = some r) : PureFn Try.prog 29 [(.v (.int .i64 level))] ((.v (.int .i64 r))) := by
  unfold embed_side at h
  refine fn_tr tt0_ok Try.func29 (by kernel_rfl) (c := bodyOf Try.f29) (by kernel_rfl) ?_
  intro ctr hc
  refine Tr.chunk (cx := ⟨tt0, ⟨fun f => kOf [] f, fun k _ _ _ => orcL [] k, fun t => memN [] t⟩, 0, fun r => ghL [] r⟩) tt0_ok hPm fun N hN => ?_
  generalize hp : std Try.prog = p
  generalize hv : nvS = nv
  cbv
  subst hp
  subst hv
  refine ⟨fun h1 => ?_, fun h1 => ?_⟩
  · replace h := iteO_t h h1
    subst hN
    have hr := Option.some.inj h
    subst hr
    try dsimp only [noGoto, inBlockQ, thenQ]
    repeat (first | refine (if_pos rfl).mpr ?_ | refine (if_neg (by decide)).mpr ?_)
    refine retQ_ret rfl ?_ ?_
    · exact trivial
    · exact rfl
  · replace h := iteO_f h h1
    subst hN
    have hr := Option.some.inj h
    subst hr
    try dsimp only [noGoto, inBlockQ, thenQ]
    repeat (first | refine (if_pos rfl).mpr ?_ | refine (if_neg (by decide)).mpr ?_)
    refine retQ_ret rfl ?_ ?_
    · exact trivial
    · exact rfl

theorem embed_base__ok (l' : (List Int)) (match' : (List Int)) (from' : Int) (to : Int) (r : Int) (h : embed_base_ l' match' from' to = some r) : PureFn Try.prog 30 [(.sl 1 (nvS.len l') false (fun ix jx => (.v (.int .i64 (nvS.get 0 l' ix))))), (.sl 1 (nvS.len match') false (fun ix jx => (.v (.int .i64 (nvS.get 0 match' ix))))), (.v (.int .i64 from')), (.v (.int .i64 to))] ((.v (.int .i64 r))) := by
  unfold embed_base_ at h
  refine fn_tr tt0_ok Try.func30 (by kernel_rfl) (c := bodyOf Try.f30) (by kernel_rfl) ?_
  intro ctr hc
  refine Tr.pre (cx := ⟨tt0, ⟨fun f => kOf [] f, fun k _ _ _ => orcL [] k, fun t => memN [] t⟩, 0, fun r => ghL [] r⟩) tt0_ok hPm 1 fun N hN => ?_
  generalize hp : std Try.prog = p
  generalize hv : nvS = nv
  cbv
  subst hp
  subst hv
  subst hN
  show Tr _ _ _ _
  refine Tr.cutSeq (α := Unit) h (fun _ t' => ⟨frm 34 [] 0, frO 34 [] 0, t'.c⟩) (fun _ t => Hid.ok t) (fun x t' ht' h => ?_) (fun f h => ?_)
  · obtain ⟨t'_c, t'_g, t'_t⟩ := t'
    have ht'_c : 0 < t'_c := ht'.1
    have ht'_g : ∀ k, t'_g k < t'_c := ht'.2
    refine Tr.chunk (cx := ⟨tt0, ⟨fun f => kOf [] f, fun k _ _ _ => orcL [] k, fun t => memN [] t⟩, 0, fun r => ghL [] r⟩) tt0_ok hPm fun N hN => ?_
    generalize hp : std Try.prog = p
    generalize hv : nvS = nv
    cbv
    subst hp
    subst hv
    subst hN
    have hr := Option.some.inj h
    subst hr
    try dsimp only [noGoto, inBlockQ, thenQ]
    repeat (first | refine (if_pos rfl).mpr ?_ | refine (if_neg (by decide)).mpr ?_)
    refine retQ_ret rfl ?_ ?_
    · exact trivial
    · exact rfl
  · refine Tr.pre (cx := ⟨tt0, ⟨fun f => kOf [] f, fun k _ _ _ => orcL [] k, fun t => memN [] t⟩, 0, fun r => ghL [] r⟩) tt0_ok hPm 1 fun N hN => ?_
    generalize hp : std Try.prog = p
    generalize hv : nvS = nv
    cbv
    subst hp
    subst hv
    subst hN
    show Tr _ _ _ _
    refine Tr.block ?_
    refine Tr.loopO (α := Int) (fun i t'1 => ⟨frm 34 [(0, .sl 1 (nvS.len l') false (fun ix jx => (.v (.int .i64 (nvS.get 0 l' ix))))), (1, .sl 1 (nvS.len match') false (fun ix jx => (.v (.int .i64 (nvS.get 0 match' ix))))), (3, .v (.int .i64 to)), (9, .v (.int .i64 i))] 0, frO 34 [] 0, t'1.c⟩) (fun _ t => Hid.ok t) ⟨ctr + 11, gfn [], tfn []⟩ h ?_ ?_ (fun x t'1 f ht'1 h => ?_)
    · exact Hid.mk_ok (by omega) trivial
    · exact GeSt.of (LeSt.frame (by show (_ : Nat) < _; (try dsimp only [std_eq, stdN]); omega) rfl rfl (And.intro ⟨_, rfl, LeD.refl _⟩
          (And.intro ⟨_, rfl, LeD.refl _⟩
          (And.intro ⟨_, rfl, LeD.refl _⟩
          (And.intro ⟨_, rfl, LeD.refl _⟩
          trivial)))) trivial)
    · revert h; revert ht'1; revert x; intro i ht'1 h
      obtain ⟨t'1_c, t'1_g, t'1_t⟩ := t'1
      have ht'1_c : 0 < t'1_c := ht'1.1
      have ht'1_g : ∀ k, t'1_g k < t'1_c := ht'1.2
      refine Tr.pre (cx := ⟨tt0, ⟨fun f => kOf [] f, fun k _ _ _ => orcL [] k, fun t => memN [] t⟩, 0, fun r => ghL [] r⟩) tt0_ok hPm 1 fun N hN => ?_
      generalize hp : std Try.prog = p
      generalize hv : nvS = nv
      cbv
      subst hp
      subst hv
      refine ⟨fun h61 => ?_, fun h61 => ?_⟩
      · replace h := iteO_t h h61
        subst hN
        show Tr _ _ _ _
        refine Tr.cutSeq (α := Int) h (fun i1 t'2 => ⟨frm 34 [(0, .sl 1 (nvS.len l') false (fun ix jx => (.v (.int .i64 (nvS.get 0 l' ix))))), (1, .sl 1 (nvS.len match') false (fun ix jx => (.v (.int .i64 (nvS.get 0 match' ix))))), (3, .v (.int .i64 to)), (9, .v (.int .i64 i1))] 0, frO 34 [] 0, t'2.c⟩) (fun _ t => Hid.ok t) (fun x t'2 ht'2 h => ?_) (fun f h => ?_)
        · revert h; revert ht'2; revert x; intro i1 ht'2 h
          obtain ⟨t'2_c, t'2_g, t'2_t⟩ := t'2
          have ht'2_c : 0 < t'2_c := ht'2.1
          have ht'2_g : ∀ k, t'2_g k < t'2_c := ht'2.2
          refine Tr.chunk (cx := ⟨tt0, ⟨fun f => kOf [] f, fun k _ _ _ => orcL [] k, fun t => memN [] t⟩, 0, fun r => ghL [] r⟩) tt0_ok hPm fun N hN => ?_
          generalize hp : std Try.prog = p
          generalize hv : nvS = nv
          cbv
          subst hp
          subst hv
          replace h := chk_some h; obtain ⟨h75, h⟩ := h
          refine ⟨h75, ?_⟩
          subst hN
          cases h
          show ∃ t', _ ∧ GeSt _ _ _
          refine ⟨⟨t'2_c + 10, gfn [], tfn []⟩, Hid.mk_ok (by omega) trivial, ?_⟩
          exact GeSt.of (LeSt.frame (by show (_ : Nat) < _; (try dsimp only [std_eq, stdN]); omega) rfl rfl (And.intro ⟨_, rfl, LeD.refl _⟩
              (And.intro ⟨_, rfl, LeD.refl _⟩
              (And.intro ⟨_, rfl, LeD.refl _⟩
              (And.intro ⟨_, rfl, LeD.refl _⟩
              trivial)))) trivial)
        · refine Tr.block ?_
          refine Tr.pre (cx := ⟨tt0, ⟨fun f => kOf [] f, fun k _ _ _ => orcL [] k, fun t => memN [] t⟩, 0, fun r => ghL [] r⟩) tt0_ok hPm 1 fun N hN => ?_
          generalize hp : std Try.prog = p
          generalize hv : nvS = nv
          cbv
          subst hp
          subst hv
          replace h := chk_some h; obtain ⟨h76, h⟩ := h
          try (have h76z := h76; simp only [Int.zero_add] at h76z)
          refine ⟨h76, ?_⟩
          subst hN
          show Tr _ _ _ _
          refine Tr.block ?_
          refine Tr.cutSeq (α := Bool) h (fun v t'3 => ⟨frm 34 [(0, .sl 1 (nvS.len l') false (fun ix jx => (.v (.int .i64 (nvS.get 0 l' ix))))), (1, .sl 1 (nvS.len match') false (fun ix jx => (.v (.int .i64 (nvS.get 0 match' ix))))), (3, .v (.int .i64 to)), (9, .v (.int .i64 i)), (19, .v (.int .i64 (nvS.get 0 l' i))), (20, .v (.bool v))] 0, frO 34 [] 0, t'3.c⟩) (fun _ t => Hid.ok t) (fun x t'3 ht'3 h => ?_) (fun f h => ?_)
          · revert h; revert ht'3; revert x; intro v ht'3 h
            obtain ⟨t'3_c, t'3_g, t'3_t⟩ := t'3
            have ht'3_c : 0 < t'3_c := ht'3.1
            have ht'3_g : ∀ k, t'3_g k < t'3_c := ht'3.2
            refine Tr.cond rfl (fun q hq => by cases hq) (fun h78 => ?_) (fun h78 => ?_)
            · replace h := iteO_t h h78
              refine Tr.chunk (cx := ⟨tt0, ⟨fun f => kOf [] f, fun k _ _ _ => orcL [] k, fun t => memN [] t⟩, 0, fun r => ghL [] r⟩) tt0_ok hPm fun N hN => ?_
              generalize hp : std Try.prog = p
              generalize hv : nvS = nv
              cbv
              subst hp
              subst hv
              subst hN
              cases h
              intro he; cases he
              intro he; cases he
              intro hr
              subst hr
              try dsimp only [noGoto, inBlockQ, thenQ]
              repeat (first | refine (if_pos rfl).mpr ?_ | refine (if_neg (by decide)).mpr ?_)
              refine retQ_ret rfl ?_ ?_
              · exact trivial
              · exact rfl
            · replace h := iteO_f h h78
              refine Tr.cutSeq (α := Bool) h (fun v1 t'4 => ⟨frm 34 [(0, .sl 1 (nvS.len l') false (fun ix jx => (.v (.int .i64 (nvS.get 0 l' ix))))), (1, .sl 1 (nvS.len match') false (fun ix jx => (.v (.int .i64 (nvS.get 0 match' ix))))), (3, .v (.int .i64 to)), (9, .v (.int .i64 i)), (19, .v (.int .i64 (nvS.get 0 l' i))), (23, .v (.bool v1))] 0, frO 34 [] 0, t'4.c⟩) (fun _ t => Hid.ok t) (fun x t'4 ht'4 h => ?_) (fun f h => ?_)
              · revert h; revert ht'4; revert x; intro v1 ht'4 h
                obtain ⟨t'4_c, t'4_g, t'4_t⟩ := t'4
                have ht'4_c : 0 < t'4_c := ht'4.1
                have ht'4_g : ∀ k, t'4_g k < t'4_c := ht'4.2
                refine Tr.chunk (cx := ⟨tt0, ⟨fun f => kOf [] f, fun k _ _ _ => orcL [] k, fun t => memN [] t⟩, 0, fun r => ghL [] r⟩) tt0_ok hPm fun N hN => ?_
                generalize hp : std Try.prog = p
                generalize hv : nvS = nv
                cbv
                subst hp
                subst hv
                refine ⟨fun h80 => ?_, fun h80 => ?_⟩
                · replace h := iteO_t h h80
                  subst hN
                  cases h
                  intro he; cases he
                  intro he; cases he
                  intro hr
                  subst hr
                  try dsimp only [noGoto, inBlockQ, thenQ]
                  repeat (first | refine (if_pos rfl).mpr ?_ | refine (if_neg (by decide)).mpr ?_)
                  refine retQ_ret rfl ?_ ?_
                  · exact trivial
                  · exact rfl
                · replace h := iteO_f h h80
                  refine ⟨fun h81 => ?_, fun h81 => ?_⟩
                  · replace h := iteO_t h h81
                    refine ⟨fun h82 => ?_, fun h82 => ?_⟩
                    · replace h := iteO_t h h82
                      replace h := chk_some h; obtain ⟨h83, h⟩ := h
                      try (have h83z := h83; simp only [Int.zero_add] at h83z)
                      refine ⟨h83, ?_⟩
                      subst hN
                      cases h
                      show ∃ t', _ ∧ GeSt _ _ _
                      refine ⟨⟨t'4_c + 11, gfn [], tfn []⟩, Hid.mk_ok (by omega) trivial, ?_⟩
                      exact GeSt.of (LeSt.frame (by show (_ : Nat) < _; (try dsimp only [std_eq, stdN]); omega) rfl rfl (And.intro ⟨_, rfl, LeD.refl _⟩
                          (And.intro ⟨_, rfl, LeD.refl _⟩
                          (And.intro ⟨_, rfl, LeD.refl _⟩
                          (And.intro ⟨_, rfl, LeD.refl _⟩
                          trivial)))) trivial)
                    · replace h := iteO_f h h82
                      subst hN
                      cases h
                      show ∃ t', _ ∧ GeSt _ _ _
                      refine ⟨⟨t'4_c + 10, gfn [], tfn []⟩, Hid.mk_ok (by omega) trivial, ?_⟩
                      exact GeSt.of (LeSt.frame (by show (_ : Nat) < _; (try dsimp only [std_eq, stdN]); omega) rfl rfl (And.intro ⟨_, rfl, LeD.refl _⟩
                          (And.intro ⟨_, rfl, LeD.refl _⟩
                          (And.intro ⟨_, rfl, LeD.refl _⟩
                          (And.intro ⟨_, rfl, LeD.refl _⟩
                          trivial)))) trivial)
                  · replace h := iteO_f h h81
                    refine ⟨fun h84 => ?_, fun h84 => ?_⟩
                    · replace h := iteO_t h h84
                      refine ⟨fun h85 => ?_, fun h85 => ?_⟩
                      · replace h := iteO_t h h85
                        replace h := chk_some h; obtain ⟨h86, h⟩ := h
                        try (have h86z := h86; simp only [Int.zero_add] at h86z)
                        refine ⟨h86, ?_⟩
                        subst hN
                        cases h
                        show ∃ t', _ ∧ GeSt _ _ _
                        refine ⟨⟨t'4_c + 12, gfn [], tfn []⟩, Hid.mk_ok (by omega) trivial, ?_⟩
                        exact GeSt.of (LeSt.frame (by show (_ : Nat) < _; (try dsimp only [std_eq, stdN]); omega) rfl rfl (And.intro ⟨_, rfl, LeD.refl _⟩
                            (And.intro ⟨_, rfl, LeD.refl _⟩
                            (And.intro ⟨_, rfl, LeD.refl _⟩
                            (And.intro ⟨_, rfl, LeD.refl _⟩
                            trivial)))) trivial)
                      · replace h := iteO_f h h85
                        subst hN
                        cases h
                        show ∃ t', _ ∧ GeSt _ _ _
                        refine ⟨⟨t'4_c + 11, gfn [], tfn []⟩, Hid.mk_ok (by omega) trivial, ?_⟩
                        exact GeSt.of (LeSt.frame (by show (_ : Nat) < _; (try dsimp only [std_eq, stdN]); omega) rfl rfl (And.intro ⟨_, rfl, LeD.refl _⟩
                            (And.intro ⟨_, rfl, LeD.refl _⟩
                            (And.intro ⟨_, rfl, LeD.refl _⟩
                            (And.intro ⟨_, rfl, LeD.refl _⟩
                            trivial)))) trivial)
                    · replace h := iteO_f h h84
                      refine ⟨fun h87 => ?_, fun h87 => ?_⟩
                      · replace h := iteO_t h h87
                        replace h := chk_some h; obtain ⟨h88, h⟩ := h
                        try (have h88z := h88; simp only [Int.zero_add] at h88z)
                        refine ⟨h88, ?_⟩
                        subst hN
                        cases h
                        show ∃ t', _ ∧ GeSt _ _ _
                        refine ⟨⟨t'4_c + 13, gfn [], tfn []⟩, Hid.mk_ok (by omega) trivial, ?_⟩
                        exact GeSt.of (LeSt.frame (by show (_ : Nat) < _; (try dsimp only [std_eq, stdN]); omega) rfl rfl (And.intro ⟨_, rfl, LeD.refl _⟩
                            (And.intro ⟨_, rfl, LeD.refl _⟩
                            (And.intro ⟨_, rfl, LeD.refl _⟩
                            (And.intro ⟨_, rfl, LeD.refl _⟩
                            trivial)))) trivial)
                      · replace h := iteO_f h h87
                        subst hN
                        cases h
                        show ∃ t', _ ∧ GeSt _ _ _
                        refine ⟨⟨t'4_c + 12, gfn [], tfn []⟩, Hid.mk_ok (by omega) trivial, ?_⟩
                        exact GeSt.of (LeSt.frame (by show (_ : Nat) < _; (try dsimp only [std_eq, stdN]); omega) rfl rfl (And.intro ⟨_, rfl, LeD.refl _⟩
                            (And.intro ⟨_, rfl, LeD.refl _⟩
                            (And.intro ⟨_, rfl, LeD.refl _⟩
                            (And.intro ⟨_, rfl, LeD.refl _⟩
                            trivial)))) trivial)
              · refine Tr.chunk (cx := ⟨tt0, ⟨fun f => kOf [] f, fun k _ _ _ => orcL [] k, fun t => memN [] t⟩, 0, fun r => ghL [] r⟩) tt0_ok hPm fun N hN => ?_
                generalize hp : std Try.prog = p
                generalize hv : nvS = nv
                cbv
                subst hp
                subst hv
                refine ⟨fun h89 => ?_, fun h89 => ?_⟩
                · replace h := iteO_t h h89
                  subst hN
                  cases h
                  show ∃ t', _ ∧ GeSt _ _ _
                  refine ⟨⟨t'3_c + 10, gfn [], tfn []⟩, Hid.mk_ok (by omega) trivial, ?_⟩
                  exact GeSt.of (LeSt.frame (by show (_ : Nat) < _; (try dsimp only [std_eq, stdN]); omega) rfl rfl (And.intro ⟨_, rfl, LeD.refl _⟩
                      (And.intro ⟨_, rfl, LeD.refl _⟩
                      (And.intro ⟨_, rfl, LeD.refl _⟩
                      (And.intro ⟨_, rfl, LeD.refl _⟩
                      (And.intro ⟨_, rfl, LeD.refl _⟩
                      (And.intro ⟨_, rfl, LeD.refl _⟩
                      trivial)))))) trivial)
                · replace h := iteO_f h h89
                  subst hN
                  cases h
                  show ∃ t', _ ∧ GeSt _ _ _
                  refine ⟨⟨t'3_c + 11, gfn [], tfn []⟩, Hid.mk_ok (by omega) trivial, ?_⟩
                  exact GeSt.of (LeSt.frame (by show (_ : Nat) < _; (try dsimp only [std_eq, stdN]); omega) rfl rfl (And.intro ⟨_, rfl, LeD.refl _⟩
                      (And.intro ⟨_, rfl, LeD.refl _⟩
                      (And.intro ⟨_, rfl, LeD.refl _⟩
                      (And.intro ⟨_, rfl, LeD.refl _⟩
                      (And.intro ⟨_, rfl, LeD.refl _⟩
                      (And.intro ⟨_, rfl, LeD.refl _⟩
                      trivial)))))) trivial)
          · refine Tr.chunk (cx := ⟨tt0, ⟨fun f => kOf [] f, fun k _ _ _ => orcL [] k, fun t => memN [] t⟩, 0, fun r => ghL [] r⟩) tt0_ok hPm fun N hN => ?_
            generalize hp : std Try.prog = p
            generalize hv : nvS = nv
            cbv
            subst hp
            subst hv
            refine ⟨fun h90 => ?_, fun h90 => ?_⟩
            · replace h := iteO_t h h90
              subst hN
              cases h
              show ∃ t', _ ∧ GeSt _ _ _
              refine ⟨⟨t'1_c + 12, gfn [], tfn []⟩, Hid.mk_ok (by omega) trivial, ?_⟩
              exact GeSt.of (LeSt.frame (by show (_ : Nat) < _; (try dsimp only [std_eq, stdN]); omega) rfl rfl (And.intro ⟨_, rfl, LeD.refl _⟩
                  (And.intro ⟨_, rfl, LeD.refl _⟩
                  (And.intro ⟨_, rfl, LeD.refl _⟩
                  (And.intro ⟨_, rfl, LeD.refl _⟩
                  (And.intro ⟨_, rfl, LeD.refl _⟩
                  (And.intro ⟨_, rfl, LeD.refl _⟩
                  trivial)))))) trivial)
            · replace h := iteO_f h h90
              subst hN
              cases h
              show ∃ t', _ ∧ GeSt _ _ _
              refine ⟨⟨t'1_c + 13, gfn [], tfn []⟩, Hid.mk_ok (by omega) trivial, ?_⟩
              exact GeSt.of (LeSt.frame (by show (_ : Nat) < _; (try dsimp only [std_eq, stdN]); omega) rfl rfl (And.intro ⟨_, rfl, LeD.refl _⟩
                  (And.intro ⟨_, rfl, LeD.refl _⟩
                  (And.intro ⟨_, rfl, LeD.refl _⟩
                  (And.intro ⟨_, rfl, LeD.refl _⟩
                  (And.intro ⟨_, rfl, LeD.refl _⟩
                  (And.intro ⟨_, rfl, LeD.refl _⟩
                  trivial)))))) trivial)
      · replace h := iteO_f h h61
        subst hN
        cases h
        intro he; cases he
        show ∃ t', _ ∧ GeSt _ _ _
        refine ⟨⟨t'1_c + 10, gfn [], tfn []⟩, Hid.mk_ok (by omega) trivial, ?_⟩
        exact GeSt.of (LeSt.frame (by show (_ : Nat) < _; (try dsimp only [std_eq, stdN]); omega) rfl rfl trivial trivial)
end Go.Vx
