/- Walks, by program (lift.py). -/
import Derived.Test.YtofgfpibcoafgaaEWalk
import Derived.Test.YtofgfpibcoafgaaEWalkL1
set_option linter.all false
namespace Go.Vx
open Go.Proofs
set_option maxRecDepth 100000
set_option linter.unusedVariables false
set_option linter.unusedSimpArgs false

theorem lapwinglaw17_EmbedOnce_ok (l' : (List Int)) (base : Int) (r : Bool) (h : lapwinglaw17_EmbedOnce l' base = some r) : PureFn Try.prog 5 [(.sl 1 (nvS.len l') false (fun ix jx => (.v (.int .i64 (nvS.get 0 l' ix))))), (.v (.int .i64 base))] ((.v (.bool r))) := by
  unfold lapwinglaw17_EmbedOnce at h
  refine fn_tr tt0_ok Try.func5 (by kernel_rfl) (c := bodyOf Try.f5) (by kernel_rfl) ?_
  intro ctr hc
  obtain ⟨v, h1⟩ : ∃ v, valO false (lapwinglaw17_awake) = v := ⟨_, rfl⟩
  obtain ⟨v1, h3⟩ : ∃ v1, valO d_embed_Run (embed_Explicit l' base) = v1 := ⟨_, rfl⟩
  obtain ⟨v1_Levels, v1_Classes, v1_Removed⟩ := v1
  obtain ⟨v2, h4⟩ : ∃ v2, valO [] (embed_Sequences l' (T_embed_Run.mk v1_Levels v1_Classes v1_Removed) base) = v2 := ⟨_, rfl⟩
  refine Tr.pre (cx := ⟨tt0, ⟨fun f => kOf [(9, 1)] f, fun k _ _ _ => orcL [(15, .plain (.v (.bool v))), (22, .plain (.agg 3 (fun j => (D_embed_Run nvS (T_embed_Run.mk v1_Levels v1_Classes v1_Removed) j)))), (26, .own 1 (nvS.len v2) false (fun ix jx => (.sl 1 (nvS.len (nvS.get [] v2 ix)) false (fun ix1 jx1 => (.v (.int .i64 (nvS.get 0 (nvS.get [] v2 ix) ix1)))))))] k, fun t => memN [] t⟩, 0, fun r => ghL [] r⟩) tt0_ok hPm 7 fun N hN => ?_
  generalize hp : std Try.prog = p
  generalize hv : nvS = nv
  cbv
  subst hp
  subst hv
  replace h := bindO_val h1 h; clear h1; obtain ⟨h1, h⟩ := h
  refine ⟨(Or.inl (PureFn.arg (lapwinglaw17_awake_ok  v h1) trivial)), ?_⟩
  refine ⟨fun h2 => ?_, fun h2 => ?_⟩
  · replace h := iteO_t h h2
    subst hN
    have hr := Option.some.inj h
    subst hr
    try dsimp only [noGoto, inBlockQ, thenQ]
    repeat (first | refine (if_pos rfl).mpr ?_ | refine (if_neg (by decide)).mpr ?_)
    refine retQ_ret rfl ?_ ?_
    · exact trivial
    · exact rfl
  · replace h := iteO_f h h2
    replace h := bindO_val h3 h; clear h3; obtain ⟨h3, h⟩ := h; try dsimp only at h
    refine ⟨(Or.inl (PureFn.arg (embed_Explicit_ok l' base (T_embed_Run.mk v1_Levels v1_Classes v1_Removed) h3) (And.intro (LeD.refl _)
        (And.intro (LeD.refl _)
        trivial)))), rfl, ?_⟩
    replace h := bindO_val h4 h; clear h4; obtain ⟨h4, h⟩ := h
    refine ⟨rfl, (Or.inl (PureFn.arg (embed_Sequences_ok l' (T_embed_Run.mk v1_Levels v1_Classes v1_Removed) base v2 h4) (And.intro (LeD.refl _)
        (And.intro (LeD.agg fun j hj => by
          have hj2 : j < 3 := hj
          rcases (show j = 0 ∨ j = 1 ∨ j = 2 by omega) with rfl | rfl | rfl
          · exact LeD.refl _
          · exact LeD.refl _
          · exact LeD.refl _)
        (And.intro (LeD.refl _)
        trivial))))), ?_⟩
    refine ⟨rfl, ?_⟩
    refine ⟨fun h5 => ?_, fun h5 => ?_⟩
    · replace h := iteO_t h h5
      subst hN
      have hr := Option.some.inj h
      subst hr
      try dsimp only [noGoto, inBlockQ, thenQ]
      repeat (first | refine (if_pos rfl).mpr ?_ | refine (if_neg (by decide)).mpr ?_)
      refine retQ_ret rfl ?_ ?_
      · exact trivial
      · exact rfl
    · replace h := iteO_f h h5
      replace h := chk_some h; obtain ⟨h6, h⟩ := h
      have h6' := h6.1; have h6'' := h6.2.1
      refine ⟨h6, ?_⟩
      subst hN
      show Tr _ _ _ _
      refine Tr.cutSeq (α := List Int) h (fun met t' => ⟨frm 191 [(0, .sl 1 (nvS.len l') false (fun ix jx => (.v (.int .i64 (nvS.get 0 l' ix))))), (5, .v (.bool v)), (6, .bref 6 (t'.g 6) 0), (8, .vec 35 (t'.g 35) 1 0 (nvS.len l'))] 0, frO 191 [(6, .box (t'.g 6) [.sl 1 (nvS.len v1_Levels) false (fun ix jx => (.v (.int .i64 (nvS.get 0 v1_Levels ix)))), .sl 1 (nvS.len v1_Classes) false (fun ix jx => (.v (.int .i64 (nvS.get 0 v1_Classes ix)))), .sl 1 (nvS.len v1_Removed) false (fun ix jx => (.v (.bool (nvS.get false v1_Removed ix))))]), (35, .arr (t'.g 35) 1 (nvS.len l') (t'.t 35) (fun ix jx => (.v (.int .i64 (nvS.get 0 met ix)))))] 0, t'.c⟩) (fun met t => Hid.ok t ∧ lenL met = (lenL l')) (fun x t' ht' h => ?_) (fun f h => ?_)
      · revert h; revert ht'; revert x; intro met ht' h
        obtain ⟨ht', ht'_f0⟩ := ht'
        obtain ⟨t'_c, t'_g, t'_t⟩ := t'
        have ht'_c : 0 < t'_c := ht'.1
        have ht'_g : ∀ k, t'_g k < t'_c := ht'.2
        refine Tr.cutSeq (α := Unit) h (fun _ t'1 => ⟨frm 191 [(5, .v (.bool v))] 0, frO 191 [] 0, t'1.c⟩) (fun _ t => Hid.ok t) (fun x t'1 ht'1 h => ?_) (fun f h => ?_)
        · obtain ⟨t'1_c, t'1_g, t'1_t⟩ := t'1
          have ht'1_c : 0 < t'1_c := ht'1.1
          have ht'1_g : ∀ k, t'1_g k < t'1_c := ht'1.2
          refine Tr.chunk (cx := ⟨tt0, ⟨fun f => kOf [] f, fun k _ _ _ => orcL [] k, fun t => memN [] t⟩, 0, fun r => ghL [] r⟩) tt0_ok hPm fun N hN => ?_
          generalize hp : std Try.prog = p
          generalize hv : nvS = nv
          cbv
          subst hp
          subst hv
          subst hN
          have hr := Option.some.inj h
          subst hr
          try dsimp only [noGoto, inBlockQ, thenQ]
          repeat (first | refine (if_pos rfl).mpr ?_ | refine (if_neg (by decide)).mpr ?_)
          refine retQ_ret rfl ?_ ?_
          · exact trivial
          · exact rfl
        · refine Tr.pre (cx := ⟨tt0, ⟨fun f => kOf [] f, fun k _ _ _ => orcL [] k, fun t => memN [] t⟩, 0, fun r => ghL [] r⟩) tt0_ok hPm 1 fun N hN => ?_
          generalize hp : std Try.prog = p
          generalize hv : nvS = nv
          cbv
          subst hp
          subst hv
          subst hN
          show Tr _ _ _ _
          refine Tr.block ?_
          refine Tr.loopO (α := Int) (fun i t'2 => ⟨frm 191 [(0, .sl 1 (nvS.len l') false (fun ix jx => (.v (.int .i64 (nvS.get 0 l' ix))))), (5, .v (.bool v)), (6, .bref 6 (t'2.g 6) 0), (8, .vec 35 (t'2.g 35) 1 0 (nvS.len l')), (14, .v (.int .i64 i))] 0, frO 191 [(6, .box (t'2.g 6) [.sl 1 (nvS.len v1_Levels) false (fun ix jx => (.v (.int .i64 (nvS.get 0 v1_Levels ix)))), .sl 1 (nvS.len v1_Classes) false (fun ix jx => (.v (.int .i64 (nvS.get 0 v1_Classes ix)))), .sl 1 (nvS.len v1_Removed) false (fun ix jx => (.v (.bool (nvS.get false v1_Removed ix))))]), (35, .arr (t'2.g 35) 1 (nvS.len l') (t'2.t 35) (fun ix jx => (.v (.int .i64 (nvS.get 0 met ix)))))] 0, t'2.c⟩) (fun _ t => Hid.ok t) ⟨t'_c + 10, gfn [(6, t'_g 6), (35, t'_g 35)], tfn [(6, false), (35, t'_t 35)]⟩ h ?_ ?_ (fun x t'2 f ht'2 h => ?_)
          · exact Hid.mk_ok (by omega) (And.intro (by have := ht'_g 6; omega)
                (And.intro (by have := ht'_g 35; omega)
                trivial))
          · exact GeSt.of (LeSt.frame (by show (_ : Nat) < _; (try dsimp only [std_eq, stdN]); omega) rfl rfl (And.intro ⟨_, rfl, LeD.refl _⟩
                (And.intro ⟨_, rfl, LeD.refl _⟩
                (And.intro ⟨_, rfl, LeD.refl _⟩
                (And.intro ⟨_, rfl, LeD.refl _⟩
                (And.intro ⟨_, rfl, LeD.refl _⟩
                trivial))))) (And.intro ⟨_, rfl, LeOb.box (And.intro (LeD.refl _)
                (And.intro (LeD.refl _)
                (And.intro (LeD.refl _)
                trivial)))⟩
                (And.intro ⟨_, rfl, LeOb.refl _⟩
                trivial)))
          · revert h; revert ht'2; revert x; intro i ht'2 h
            obtain ⟨t'2_c, t'2_g, t'2_t⟩ := t'2
            have ht'2_c : 0 < t'2_c := ht'2.1
            have ht'2_g : ∀ k, t'2_g k < t'2_c := ht'2.2
            refine Tr.chunk (cx := ⟨tt0, ⟨fun f => kOf [] f, fun k _ _ _ => orcL [] k, fun t => memN [] t⟩, 0, fun r => ghL [] r⟩) tt0_ok hPm fun N hN => ?_
            generalize hp : std Try.prog = p
            generalize hv : nvS = nv
            cbv
            subst hp
            subst hv
            refine ⟨fun h123 => ?_, fun h123 => ?_⟩
            · replace h := iteO_t h h123
              replace h := chk_some h; obtain ⟨h124, h⟩ := h
              try (have h124z := h124; simp only [Int.zero_add] at h124z)
              replace h := chk_some h; obtain ⟨h125, h⟩ := h
              replace h := chk_some h; obtain ⟨h126, h⟩ := h
              replace h := chk_some h; obtain ⟨h127, h⟩ := h
              refine ⟨rfl, h124, (fun hg => hg), (fun hg => hg), h125, (fun hg => hg), (fun _ => rfl), (fun hg => hg), (fun hg => hg), (fun hg => hg), (fun _ => rfl), (fun hg => hg), (fun hg => hg), h126, (fun hg => hg), (fun hg => hg), (fun hg => hg), (fun hg => hg), h127, (fun hg => hg), (fun _ => rfl), (fun hg => hg), (fun hg => hg), (fun hg => hg), (fun hg0 => (fun hg => (and_t hg0 (and_t hg0 hg)))), (fun hg => hg), ?_⟩
              refine ⟨fun h128 => ?_, fun h128 => ?_⟩
              · replace h := iteO_t h h128
                subst hN
                cases h
                intro he; cases he
                intro hr
                subst hr
                try dsimp only [noGoto, inBlockQ, thenQ]
                repeat (first | refine (if_pos rfl).mpr ?_ | refine (if_neg (by decide)).mpr ?_)
                refine retQ_ret rfl ?_ ?_
                · exact trivial
                · exact rfl
              · replace h := iteO_f h h128
                replace h := chk_some h; obtain ⟨h129, h⟩ := h
                refine ⟨h129, ?_⟩
                subst hN
                cases h
                show ∃ t', _ ∧ GeSt _ _ _
                refine ⟨⟨t'2_c + 12, gfn [(6, t'2_g 6), (35, t'2_g 35)], tfn [(6, false), (35, t'2_t 35)]⟩, Hid.mk_ok (by omega) (And.intro (by have := ht'2_g 6; omega)
                    (And.intro (by have := ht'2_g 35; omega)
                    trivial)), ?_⟩
                exact GeSt.of (LeSt.frame (by show (_ : Nat) < _; (try dsimp only [std_eq, stdN]); omega) rfl rfl (And.intro ⟨_, rfl, LeD.refl _⟩
                    (And.intro ⟨_, rfl, LeD.refl _⟩
                    (And.intro ⟨_, rfl, LeD.refl _⟩
                    (And.intro ⟨_, rfl, LeD.refl _⟩
                    (And.intro ⟨_, rfl, LeD.refl _⟩
                    trivial))))) (And.intro ⟨_, rfl, LeOb.box (And.intro (LeD.refl _)
                    (And.intro (LeD.refl _)
                    (And.intro (LeD.refl _)
                    trivial)))⟩
                    (And.intro ⟨_, rfl, LeOb.refl _⟩
                    trivial)))
            · replace h := iteO_f h h123
              subst hN
              cases h
              intro he; cases he
              show ∃ t', _ ∧ GeSt _ _ _
              refine ⟨⟨t'2_c + 10, gfn [], tfn []⟩, Hid.mk_ok (by omega) trivial, ?_⟩
              exact GeSt.of (LeSt.frame (by show (_ : Nat) < _; (try dsimp only [std_eq, stdN]); omega) rfl rfl (And.intro ⟨_, rfl, LeD.refl _⟩
                  trivial) trivial)
      · refine Tr.pre (cx := ⟨tt0, ⟨fun f => kOf [] f, fun k _ _ _ => orcL [] k, fun t => memN [] t⟩, 0, fun r => ghL [] r⟩) tt0_ok hPm 1 fun N hN => ?_
        generalize hp : std Try.prog = p
        generalize hv : nvS = nv
        cbv
        subst hp
        subst hv
        subst hN
        show Tr _ _ _ _
        refine Tr.block ?_
        refine Tr.loopO (α := Int × List Int) (fun (i2, met1) t'3 => ⟨frm 191 [(0, .sl 1 (nvS.len l') false (fun ix jx => (.v (.int .i64 (nvS.get 0 l' ix))))), (1, .v (.int .i64 base)), (5, .v (.bool v)), (6, .bref 6 (t'3.g 6) 0), (7, .vec 26 (t'3.g 26) 1 0 (nvS.len v2)), (8, .vec 35 (t'3.g 35) 1 0 (nvS.len l')), (9, .v (.int .i64 i2))] 0, frO 191 [(6, .box (t'3.g 6) [.sl 1 (nvS.len v1_Levels) false (fun ix jx => (.v (.int .i64 (nvS.get 0 v1_Levels ix)))), .sl 1 (nvS.len v1_Classes) false (fun ix jx => (.v (.int .i64 (nvS.get 0 v1_Classes ix)))), .sl 1 (nvS.len v1_Removed) false (fun ix jx => (.v (.bool (nvS.get false v1_Removed ix))))]), (26, .arr (t'3.g 26) 1 (nvS.len v2) (t'3.t 26) (fun ix jx => (.sl 1 (nvS.len (nvS.get [] v2 ix)) false (fun ix1 jx1 => (.v (.int .i64 (nvS.get 0 (nvS.get [] v2 ix) ix1))))))), (35, .arr (t'3.g 35) 1 (nvS.len l') (t'3.t 35) (fun ix jx => (.v (.int .i64 (nvS.get 0 met1 ix)))))] 0, t'3.c⟩) (fun (i2, met1) t => Hid.ok t ∧ lenL met1 = (lenL l')) ⟨ctr + 17, gfn [(6, ctr + 3), (26, ctr + 4), (35, ctr + 6)], tfn [(6, false), (26, false), (35, ((std Try.prog).eq (nvS.len l') (nvS.len l')))]⟩ h ?_ ?_ (fun x t'3 f ht'3 h => ?_)
        · exact (And.intro (Hid.mk_ok (by omega) (And.intro (by omega)
              (And.intro (by omega)
              (And.intro (by omega)
              trivial))))
              (by first | with_reducible assumption | (simp (disch := first | omega | (simp only [lenL_set, lenL_app, lenL_cons, lenL_nil] <;> omega)) only [lenL_bytes, lenL_set, lenL_app, lenL_cons, lenL_nil, lenL_rep, lenL_sub, lenL_cpy, Int.ofNat_eq_natCast, Int.zero_add, Int.sub_zero] <;> first | done | with_reducible assumption | omega) | omega | rfl))
        · exact GeSt.of (LeSt.frame (by show (_ : Nat) < _; (try dsimp only [std_eq, stdN]); omega) rfl rfl (And.intro ⟨_, rfl, LeD.refl _⟩
              (And.intro ⟨_, rfl, LeD.refl _⟩
              (And.intro ⟨_, rfl, LeD.refl _⟩
              (And.intro ⟨_, rfl, LeD.refl _⟩
              (And.intro ⟨_, rfl, LeD.refl _⟩
              (And.intro ⟨_, rfl, LeD.refl _⟩
              (And.intro ⟨_, rfl, LeD.refl _⟩
              trivial))))))) (And.intro ⟨_, rfl, LeOb.box (And.intro (LeD.refl _)
              (And.intro (LeD.refl _)
              (And.intro (LeD.refl _)
              trivial)))⟩
              (And.intro ⟨_, rfl, LeOb.refl _⟩
              (And.intro ⟨_, rfl, LeOb.arrE (by first | with_reducible rfl | with_reducible assumption | (symm; with_reducible assumption) | ((try dsimp only [std_eq, stdN, nvS]) <;> first | with_reducible rfl | omega | (simp (disch := first | omega | (simp only [lenL_set, lenL_app, lenL_cons, lenL_nil] <;> omega)) only [lenL_bytes, lenL_set, lenL_app, lenL_cons, lenL_nil, lenL_rep, lenL_sub, lenL_cpy, Int.ofNat_eq_natCast, Int.zero_add, Int.sub_zero] <;> first | done | omega | with_reducible assumption)) | rfl) (fun i i0 i1 j hj => by (try dsimp only [std_eq, stdN, nvS] at i1); (try simp only [Int.ofNat_eq_natCast, lenL_app, lenL_cons, lenL_nil, lenL_set, lenL_bytes] at i1); (try simp (disch := first | omega | (simp only [lenL_set, lenL_app, lenL_cons, lenL_nil] <;> omega)) only [lenL_sub, lenL_rep, lenL_cpy, Int.zero_add, Int.sub_zero] at i1); (obtain rfl : j = 0 := (by omega)) <;> (conv => lhs; whnf) <;> (conv => rhs; whnf) <;> (try dsimp only [std_eq, stdN, nvS]) <;> (first | rfl | (simp (disch := first | omega | (simp only [lenL_set, lenL_app, lenL_cons, lenL_nil] <;> omega)) only [getL_bytes, getL_put, getL_app, getL_rep, getL_sub, getL_cpy, Int.zero_add, Int.sub_zero, beq_iff_eq, decide_eq_true_eq, Bool.and_eq_true] <;> first | rfl | (split <;> first | rfl | (simp (disch := first | omega | (simp only [lenL_set, lenL_app, lenL_cons, lenL_nil] <;> omega)) only [getL_one, getL_zero] <;> rfl)) | (simp (disch := omega) only [getL_one, getL_zero] <;> rfl) | ((simp only [lenL_app, lenL_cons, lenL_nil, Int.ofNat_eq_natCast]) <;> (repeat' split) <;> first | rfl | (exfalso; omega) | (simp (disch := omega) only [getL_one, getL_zero] <;> rfl) | (congr 3; omega)))))⟩
              trivial))))
        · obtain ⟨i2, met1⟩ := x
          try dsimp only at h
          obtain ⟨ht'3, ht'3_f0⟩ := ht'3
          obtain ⟨t'3_c, t'3_g, t'3_t⟩ := t'3
          have ht'3_c : 0 < t'3_c := ht'3.1
          have ht'3_g : ∀ k, t'3_g k < t'3_c := ht'3.2
          refine Tr.pre (cx := ⟨tt0, ⟨fun f => kOf [] f, fun k _ _ _ => orcL [] k, fun t => memN [] t⟩, 0, fun r => ghL [] r⟩) tt0_ok hPm 1 fun N hN => ?_
          generalize hp : std Try.prog = p
          generalize hv : nvS = nv
          cbv
          subst hp
          subst hv
          refine ⟨fun h218 => ?_, fun h218 => ?_⟩
          · replace h := iteO_t h h218
            subst hN
            show Tr _ _ _ _
            refine Tr.cutSeq (α := List Int) h (fun met2 t'4 => ⟨frm 191 [(0, .sl 1 (nvS.len l') false (fun ix jx => (.v (.int .i64 (nvS.get 0 l' ix))))), (1, .v (.int .i64 base)), (5, .v (.bool v)), (6, .bref 6 (t'4.g 6) 0), (7, .vec 26 (t'4.g 26) 1 0 (nvS.len v2)), (8, .vec 35 (t'4.g 35) 1 0 (nvS.len l')), (9, .v (.int .i64 i2))] 0, frO 191 [(6, .box (t'4.g 6) [.sl 1 (nvS.len v1_Levels) false (fun ix jx => (.v (.int .i64 (nvS.get 0 v1_Levels ix)))), .sl 1 (nvS.len v1_Classes) false (fun ix jx => (.v (.int .i64 (nvS.get 0 v1_Classes ix)))), .sl 1 (nvS.len v1_Removed) false (fun ix jx => (.v (.bool (nvS.get false v1_Removed ix))))]), (26, .arr (t'4.g 26) 1 (nvS.len v2) (t'4.t 26) (fun ix jx => (.sl 1 (nvS.len (nvS.get [] v2 ix)) false (fun ix1 jx1 => (.v (.int .i64 (nvS.get 0 (nvS.get [] v2 ix) ix1))))))), (35, .arr (t'4.g 35) 1 (nvS.len l') (t'4.t 35) (fun ix jx => (.v (.int .i64 (nvS.get 0 met2 ix)))))] 0, t'4.c⟩) (fun met2 t => Hid.ok t ∧ lenL met2 = (lenL l')) (fun x t'4 ht'4 h => ?_) (fun f h => ?_)
            · revert h; revert ht'4; revert x; intro met2 ht'4 h
              obtain ⟨ht'4, ht'4_f0⟩ := ht'4
              obtain ⟨t'4_c, t'4_g, t'4_t⟩ := t'4
              have ht'4_c : 0 < t'4_c := ht'4.1
              have ht'4_g : ∀ k, t'4_g k < t'4_c := ht'4.2
              refine Tr.chunk (cx := ⟨tt0, ⟨fun f => kOf [] f, fun k _ _ _ => orcL [] k, fun t => memN [] t⟩, 0, fun r => ghL [] r⟩) tt0_ok hPm fun N hN => ?_
              generalize hp : std Try.prog = p
              generalize hv : nvS = nv
              cbv
              subst hp
              subst hv
              replace h := chk_some h; obtain ⟨h261, h⟩ := h
              refine ⟨h261, ?_⟩
              subst hN
              cases h
              show ∃ t', _ ∧ GeSt _ _ _
              refine ⟨⟨t'4_c + 10, gfn [(6, t'4_g 6), (26, t'4_g 26), (35, t'4_g 35)], tfn [(6, false), (26, t'4_t 26), (35, t'4_t 35)]⟩, (And.intro (Hid.mk_ok (by omega) (And.intro (by have := ht'4_g 6; omega)
                  (And.intro (by have := ht'4_g 26; omega)
                  (And.intro (by have := ht'4_g 35; omega)
                  trivial))))
                  (by first | with_reducible assumption | (simp (disch := first | omega | (simp only [lenL_set, lenL_app, lenL_cons, lenL_nil] <;> omega)) only [lenL_bytes, lenL_set, lenL_app, lenL_cons, lenL_nil, lenL_rep, lenL_sub, lenL_cpy, Int.ofNat_eq_natCast, Int.zero_add, Int.sub_zero] <;> first | done | with_reducible assumption | omega) | omega | rfl)), ?_⟩
              exact GeSt.of (LeSt.frame (by show (_ : Nat) < _; (try dsimp only [std_eq, stdN]); omega) rfl rfl (And.intro ⟨_, rfl, LeD.refl _⟩
                  (And.intro ⟨_, rfl, LeD.refl _⟩
                  (And.intro ⟨_, rfl, LeD.refl _⟩
                  (And.intro ⟨_, rfl, LeD.refl _⟩
                  (And.intro ⟨_, rfl, LeD.refl _⟩
                  (And.intro ⟨_, rfl, LeD.refl _⟩
                  (And.intro ⟨_, rfl, LeD.refl _⟩
                  trivial))))))) (And.intro ⟨_, rfl, LeOb.box (And.intro (LeD.refl _)
                  (And.intro (LeD.refl _)
                  (And.intro (LeD.refl _)
                  trivial)))⟩
                  (And.intro ⟨_, rfl, LeOb.refl _⟩
                  (And.intro ⟨_, rfl, LeOb.refl _⟩
                  trivial))))
            · refine Tr.block ?_
              refine Tr.pre (cx := ⟨tt0, ⟨fun f => kOf [] f, fun k _ _ _ => orcL [] k, fun t => memN [] t⟩, 0, fun r => ghL [] r⟩) tt0_ok hPm 1 fun N hN => ?_
              generalize hp : std Try.prog = p
              generalize hv : nvS = nv
              cbv
              subst hp
              subst hv
              replace h := chk_some h; obtain ⟨h262, h⟩ := h
              try (have h262z := h262; simp only [Int.zero_add] at h262z)
              replace h := chk_some h; obtain ⟨h263, h⟩ := h
              replace h := chk_some h; obtain ⟨h264, h⟩ := h
              replace h := chk_some h; obtain ⟨h265, h⟩ := h
              replace h := chk_some h; obtain ⟨h266, h⟩ := h
              replace h := chk_some h; obtain ⟨h267, h⟩ := h
              refine ⟨h262, rfl, (fun hg => hg), (fun hg => hg), (fun hg => hg), h263, (fun hg => hg), (fun _ => rfl), (fun hg => hg), h264, (fun hg => hg), (fun hg => hg), h265, (fun hg => hg), (fun hg => hg), h266, (fun hg => hg), (fun _ => rfl), (fun hg => hg), h267, (fun hg => hg), (fun hg => hg), (fun hg => hg), (fun hg => hg), (fun hg => hg), (fun hg0 => (fun hg => (and_t hg0 (and_t hg0 hg)))), (fun hg => hg), (show drOk _ _ = true by kernel_rfl), ?_⟩
              refine ⟨fun h268 => ?_, fun h268 => ?_⟩
              · replace h := iteO_t h h268
                subst hN
                cases h
                intro he; cases he
                intro he; cases he
                intro hr
                subst hr
                try dsimp only [noGoto, inBlockQ, thenQ]
                repeat (first | refine (if_pos rfl).mpr ?_ | refine (if_neg (by decide)).mpr ?_)
                refine retQ_ret rfl ?_ ?_
                · exact trivial
                · exact rfl
              · replace h := iteO_f h h268
                subst hN
                show Tr _ _ _ _
                refine Tr.cutSeq (α := List Int) h (fun met3 t'5 => ⟨frm 191 [(0, .sl 1 (nvS.len l') false (fun ix jx => (.v (.int .i64 (nvS.get 0 l' ix))))), (1, .v (.int .i64 base)), (5, .v (.bool v)), (6, .bref 6 (t'5.g 6) 0), (7, .vec 26 (t'5.g 26) 1 0 (nvS.len v2)), (8, .vec 35 (t'5.g 35) 1 0 (nvS.len l')), (9, .v (.int .i64 i2))] 0, frO 191 [(6, .box (t'5.g 6) [.sl 1 (nvS.len v1_Levels) false (fun ix jx => (.v (.int .i64 (nvS.get 0 v1_Levels ix)))), .sl 1 (nvS.len v1_Classes) false (fun ix jx => (.v (.int .i64 (nvS.get 0 v1_Classes ix)))), .sl 1 (nvS.len v1_Removed) false (fun ix jx => (.v (.bool (nvS.get false v1_Removed ix))))]), (26, .arr (t'5.g 26) 1 (nvS.len v2) (t'5.t 26) (fun ix jx => (.sl 1 (nvS.len (nvS.get [] v2 ix)) false (fun ix1 jx1 => (.v (.int .i64 (nvS.get 0 (nvS.get [] v2 ix) ix1))))))), (35, .arr (t'5.g 35) 1 (nvS.len l') (t'5.t 35) (fun ix jx => (.v (.int .i64 (nvS.get 0 met3 ix)))))] 0, t'5.c⟩) (fun met3 t => Hid.ok t ∧ lenL met3 = (lenL l')) (fun x t'5 ht'5 h => ?_) (fun f h => ?_)
                · revert h; revert ht'5; revert x; intro met3 ht'5 h
                  obtain ⟨ht'5, ht'5_f0⟩ := ht'5
                  obtain ⟨t'5_c, t'5_g, t'5_t⟩ := t'5
                  have ht'5_c : 0 < t'5_c := ht'5.1
                  have ht'5_g : ∀ k, t'5_g k < t'5_c := ht'5.2
                  obtain ⟨v3, h302⟩ : ∃ v3, valO (0, 0) (embed_Edges l' (T_embed_Run.mk v1_Levels v1_Classes v1_Removed) base (getL [] v2 (0 + i2))) = v3 := ⟨_, rfl⟩
                  obtain ⟨v3_0, v3_1⟩ := v3
                  refine Tr.chunk (cx := ⟨tt0, ⟨fun f => kOf [] f, fun k _ _ _ => orcL [(140, .plain (.tup 2 (fun j => match j with | 0 => (.v (.int .i64 v3_0)) | 1 => (.v (.int .i64 v3_1)) | _ => .junk)))] k, fun t => memN [] t⟩, 0, fun r => ghL [] r⟩) tt0_ok hPm fun N hN => ?_
                  generalize hp : std Try.prog = p
                  generalize hv : nvS = nv
                  cbv
                  subst hp
                  subst hv
                  replace h := chk_some h; obtain ⟨h301, h⟩ := h
                  try (have h301z := h301; simp only [Int.zero_add] at h301z)
                  replace h := bindO_val h302 h; clear h302; obtain ⟨h302, h⟩ := h; try dsimp only at h
                  refine ⟨rfl, h301, rfl, (Or.inl (PureFn.arg (embed_Edges_ok l' (T_embed_Run.mk v1_Levels v1_Classes v1_Removed) base (getL [] v2 (0 + i2)) (v3_0, v3_1) h302) (And.intro (LeD.refl _)
                      (And.intro (LeD.agg fun j hj => by
                        have hj2 : j < 3 := hj
                        rcases (show j = 0 ∨ j = 1 ∨ j = 2 by omega) with rfl | rfl | rfl
                        · exact LeD.refl _
                        · exact LeD.refl _
                        · exact LeD.refl _)
                      (And.intro (LeD.refl _)
                      (And.intro (LeD.refl _)
                      trivial)))))), (show drOk _ _ = true by kernel_rfl), ?_⟩
                  refine ⟨(fun hg => hg), (fun hg => hg), (fun hg => hg), (fun hg => hg), (fun hg => hg), (fun hg => hg), ?_⟩
                  refine ⟨fun h303 => ?_, fun h303 => ?_⟩
                  · replace h := iteO_t h h303
                    subst hN
                    cases h
                    intro he; cases he
                    intro he; cases he
                    intro hr
                    subst hr
                    try dsimp only [noGoto, inBlockQ, thenQ]
                    repeat (first | refine (if_pos rfl).mpr ?_ | refine (if_neg (by decide)).mpr ?_)
                    refine retQ_ret rfl ?_ ?_
                    · exact trivial
                    · exact rfl
                  · replace h := iteO_f h h303
                    subst hN
                    cases h
                    show ∃ t', _ ∧ GeSt _ _ _
                    refine ⟨⟨t'5_c + 11, gfn [(6, t'5_g 6), (26, t'5_g 26), (35, t'5_g 35)], tfn [(6, false), (26, t'5_t 26), (35, t'5_t 35)]⟩, (And.intro (Hid.mk_ok (by omega) (And.intro (by have := ht'5_g 6; omega)
                        (And.intro (by have := ht'5_g 26; omega)
                        (And.intro (by have := ht'5_g 35; omega)
                        trivial))))
                        (by first | with_reducible assumption | (simp (disch := first | omega | (simp only [lenL_set, lenL_app, lenL_cons, lenL_nil] <;> omega)) only [lenL_bytes, lenL_set, lenL_app, lenL_cons, lenL_nil, lenL_rep, lenL_sub, lenL_cpy, Int.ofNat_eq_natCast, Int.zero_add, Int.sub_zero] <;> first | done | with_reducible assumption | omega) | omega | rfl)), ?_⟩
                    exact GeSt.of (LeSt.frame (by show (_ : Nat) < _; (try dsimp only [std_eq, stdN]); omega) rfl rfl (And.intro ⟨_, rfl, LeD.refl _⟩
                        (And.intro ⟨_, rfl, LeD.refl _⟩
                        (And.intro ⟨_, rfl, LeD.refl _⟩
                        (And.intro ⟨_, rfl, LeD.refl _⟩
                        (And.intro ⟨_, rfl, LeD.refl _⟩
                        (And.intro ⟨_, rfl, LeD.refl _⟩
                        (And.intro ⟨_, rfl, LeD.refl _⟩
                        trivial))))))) (And.intro ⟨_, rfl, LeOb.box (And.intro (LeD.refl _)
                        (And.intro (LeD.refl _)
                        (And.intro (LeD.refl _)
                        trivial)))⟩
                        (And.intro ⟨_, rfl, LeOb.refl _⟩
                        (And.intro ⟨_, rfl, LeOb.refl _⟩
                        trivial))))
                · refine Tr.pre (cx := ⟨tt0, ⟨fun f => kOf [] f, fun k _ _ _ => orcL [] k, fun t => memN [] t⟩, 0, fun r => ghL [] r⟩) tt0_ok hPm 1 fun N hN => ?_
                  generalize hp : std Try.prog = p
                  generalize hv : nvS = nv
                  cbv
                  subst hp
                  subst hv
                  subst hN
                  show Tr _ _ _ _
                  refine Tr.block ?_
                  refine Tr.loopO (α := Int × List Int) (fun (k', met4) t'6 => ⟨frm 191 [(0, .sl 1 (nvS.len l') false (fun ix jx => (.v (.int .i64 (nvS.get 0 l' ix))))), (1, .v (.int .i64 base)), (5, .v (.bool v)), (6, .bref 6 (t'6.g 6) 0), (7, .vec 26 (t'6.g 26) 1 0 (nvS.len v2)), (8, .vec 35 (t'6.g 35) 1 0 (nvS.len l')), (9, .v (.int .i64 i2)), (10, .v (.int .i64 k'))] 0, frO 191 [(6, .box (t'6.g 6) [.sl 1 (nvS.len v1_Levels) false (fun ix jx => (.v (.int .i64 (nvS.get 0 v1_Levels ix)))), .sl 1 (nvS.len v1_Classes) false (fun ix jx => (.v (.int .i64 (nvS.get 0 v1_Classes ix)))), .sl 1 (nvS.len v1_Removed) false (fun ix jx => (.v (.bool (nvS.get false v1_Removed ix))))]), (26, .arr (t'6.g 26) 1 (nvS.len v2) (t'6.t 26) (fun ix jx => (.sl 1 (nvS.len (nvS.get [] v2 ix)) false (fun ix1 jx1 => (.v (.int .i64 (nvS.get 0 (nvS.get [] v2 ix) ix1))))))), (35, .arr (t'6.g 35) 1 (nvS.len l') (t'6.t 35) (fun ix jx => (.v (.int .i64 (nvS.get 0 met4 ix)))))] 0, t'6.c⟩) (fun (k', met4) t => Hid.ok t ∧ lenL met4 = (lenL l')) ⟨t'3_c + 12, gfn [(6, t'3_g 6), (26, t'3_g 26), (35, t'3_g 35)], tfn [(6, false), (26, t'3_t 26), (35, t'3_t 35)]⟩ h ?_ ?_ (fun x t'6 f ht'6 h => ?_)
                  · exact (And.intro (Hid.mk_ok (by omega) (And.intro (by have := ht'3_g 6; omega)
                        (And.intro (by have := ht'3_g 26; omega)
                        (And.intro (by have := ht'3_g 35; omega)
                        trivial))))
                        (by first | with_reducible assumption | (simp (disch := first | omega | (simp only [lenL_set, lenL_app, lenL_cons, lenL_nil] <;> omega)) only [lenL_bytes, lenL_set, lenL_app, lenL_cons, lenL_nil, lenL_rep, lenL_sub, lenL_cpy, Int.ofNat_eq_natCast, Int.zero_add, Int.sub_zero] <;> first | done | with_reducible assumption | omega) | omega | rfl))
                  · exact GeSt.of (LeSt.frame (by show (_ : Nat) < _; (try dsimp only [std_eq, stdN]); omega) rfl rfl (And.intro ⟨_, rfl, LeD.refl _⟩
                        (And.intro ⟨_, rfl, LeD.refl _⟩
                        (And.intro ⟨_, rfl, LeD.refl _⟩
                        (And.intro ⟨_, rfl, LeD.refl _⟩
                        (And.intro ⟨_, rfl, LeD.refl _⟩
                        (And.intro ⟨_, rfl, LeD.refl _⟩
                        (And.intro ⟨_, rfl, LeD.refl _⟩
                        (And.intro ⟨_, rfl, LeD.refl _⟩
                        trivial)))))))) (And.intro ⟨_, rfl, LeOb.box (And.intro (LeD.refl _)
                        (And.intro (LeD.refl _)
                        (And.intro (LeD.refl _)
                        trivial)))⟩
                        (And.intro ⟨_, rfl, LeOb.refl _⟩
                        (And.intro ⟨_, rfl, LeOb.refl _⟩
                        trivial))))
                  · obtain ⟨k', met4⟩ := x
                    try dsimp only at h
                    obtain ⟨ht'6, ht'6_f0⟩ := ht'6
                    obtain ⟨t'6_c, t'6_g, t'6_t⟩ := t'6
                    have ht'6_c : 0 < t'6_c := ht'6.1
                    have ht'6_g : ∀ k, t'6_g k < t'6_c := ht'6.2
                    refine Tr.pre (cx := ⟨tt0, ⟨fun f => kOf [] f, fun k _ _ _ => orcL [] k, fun t => memN [] t⟩, 0, fun r => ghL [] r⟩) tt0_ok hPm 1 fun N hN => ?_
                    generalize hp : std Try.prog = p
                    generalize hv : nvS = nv
                    cbv
                    subst hp
                    subst hv
                    replace h := chk_some h; obtain ⟨h336, h⟩ := h
                    try (have h336z := h336; simp only [Int.zero_add] at h336z)
                    refine ⟨h336, rfl, ?_⟩
                    refine ⟨fun h337 => ?_, fun h337 => ?_⟩
                    · replace h := iteO_t h h337
                      subst hN
                      show Tr _ _ _ _
                      refine Tr.cutSeq (α := Unit) h (fun _ t'7 => ⟨frm 191 [(0, .sl 1 (nvS.len l') false (fun ix jx => (.v (.int .i64 (nvS.get 0 l' ix))))), (1, .v (.int .i64 base)), (5, .v (.bool v)), (6, .bref 6 (t'7.g 6) 0), (7, .vec 26 (t'7.g 26) 1 0 (nvS.len v2)), (8, .vec 35 (t'7.g 35) 1 0 (nvS.len l')), (9, .v (.int .i64 i2)), (10, .v (.int .i64 k'))] 0, frO 191 [(6, .box (t'7.g 6) [.sl 1 (nvS.len v1_Levels) false (fun ix jx => (.v (.int .i64 (nvS.get 0 v1_Levels ix)))), .sl 1 (nvS.len v1_Classes) false (fun ix jx => (.v (.int .i64 (nvS.get 0 v1_Classes ix)))), .sl 1 (nvS.len v1_Removed) false (fun ix jx => (.v (.bool (nvS.get false v1_Removed ix))))]), (26, .arr (t'7.g 26) 1 (nvS.len v2) (t'7.t 26) (fun ix jx => (.sl 1 (nvS.len (nvS.get [] v2 ix)) false (fun ix1 jx1 => (.v (.int .i64 (nvS.get 0 (nvS.get [] v2 ix) ix1))))))), (35, .arr (t'7.g 35) 1 (nvS.len l') (t'7.t 35) (fun ix jx => (.v (.int .i64 (nvS.get 0 (nvS.set met4 (nvS.get 0 (nvS.get [] v2 ((std Try.prog).add 0 i2)) k') ((std Try.prog).add (nvS.get 0 met4 ((std Try.prog).add 0 (nvS.get 0 (nvS.get [] v2 ((std Try.prog).add 0 i2)) k'))) 1)) ix)))))] 0, t'7.c⟩) (fun _ t => Hid.ok t) (fun x t'7 ht'7 h => ?_) (fun f h => ?_)
                      · obtain ⟨t'7_c, t'7_g, t'7_t⟩ := t'7
                        have ht'7_c : 0 < t'7_c := ht'7.1
                        have ht'7_g : ∀ k, t'7_g k < t'7_c := ht'7.2
                        refine Tr.chunk (cx := ⟨tt0, ⟨fun f => kOf [] f, fun k _ _ _ => orcL [] k, fun t => memN [] t⟩, 0, fun r => ghL [] r⟩) tt0_ok hPm fun N hN => ?_
                        generalize hp : std Try.prog = p
                        generalize hv : nvS = nv
                        cbv
                        subst hp
                        subst hv
                        replace h := chk_some h; obtain ⟨h351, h⟩ := h
                        refine ⟨h351, ?_⟩
                        subst hN
                        cases h
                        show ∃ t', _ ∧ GeSt _ _ _
                        refine ⟨⟨t'7_c + 10, gfn [(6, t'7_g 6), (26, t'7_g 26), (35, t'7_g 35)], tfn [(6, false), (26, t'7_t 26), (35, t'7_t 35)]⟩, (And.intro (Hid.mk_ok (by omega) (And.intro (by have := ht'7_g 6; omega)
                            (And.intro (by have := ht'7_g 26; omega)
                            (And.intro (by have := ht'7_g 35; omega)
                            trivial))))
                            (by first | with_reducible assumption | (simp (disch := first | omega | (simp only [lenL_set, lenL_app, lenL_cons, lenL_nil] <;> omega)) only [lenL_bytes, lenL_set, lenL_app, lenL_cons, lenL_nil, lenL_rep, lenL_sub, lenL_cpy, Int.ofNat_eq_natCast, Int.zero_add, Int.sub_zero] <;> first | done | with_reducible assumption | omega) | omega | rfl)), ?_⟩
                        exact GeSt.of (LeSt.frame (by show (_ : Nat) < _; (try dsimp only [std_eq, stdN]); omega) rfl rfl (And.intro ⟨_, rfl, LeD.refl _⟩
                            (And.intro ⟨_, rfl, LeD.refl _⟩
                            (And.intro ⟨_, rfl, LeD.refl _⟩
                            (And.intro ⟨_, rfl, LeD.refl _⟩
                            (And.intro ⟨_, rfl, LeD.refl _⟩
                            (And.intro ⟨_, rfl, LeD.refl _⟩
                            (And.intro ⟨_, rfl, LeD.refl _⟩
                            (And.intro ⟨_, rfl, LeD.refl _⟩
                            trivial)))))))) (And.intro ⟨_, rfl, LeOb.box (And.intro (LeD.refl _)
                            (And.intro (LeD.refl _)
                            (And.intro (LeD.refl _)
                            trivial)))⟩
                            (And.intro ⟨_, rfl, LeOb.refl _⟩
                            (And.intro ⟨_, rfl, LeOb.refl _⟩
                            trivial))))
                      · refine Tr.block ?_
                        refine Tr.pre (cx := ⟨tt0, ⟨fun f => kOf [] f, fun k _ _ _ => orcL [] k, fun t => memN [] t⟩, 0, fun r => ghL [] r⟩) tt0_ok hPm 1 fun N hN => ?_
                        generalize hp : std Try.prog = p
                        generalize hv : nvS = nv
                        cbv
                        subst hp
                        subst hv
                        replace h := chk_some h; obtain ⟨h352, h⟩ := h
                        try (have h352z := h352; simp only [Int.zero_add] at h352z)
                        replace h := chk_some h; obtain ⟨h353, h⟩ := h
                        try (have h353z := h353; simp only [Int.zero_add] at h353z)
                        refine ⟨h352, rfl, h353, ?_⟩
                        subst hN
                        show Tr _ _ _ _
                        refine Tr.cutSeq (α := Unit) h (fun _ t'8 => ⟨frm 191 [(0, .sl 1 (nvS.len l') false (fun ix jx => (.v (.int .i64 (nvS.get 0 l' ix))))), (1, .v (.int .i64 base)), (5, .v (.bool v)), (6, .bref 6 (t'8.g 6) 0), (7, .vec 26 (t'8.g 26) 1 0 (nvS.len v2)), (8, .vec 35 (t'8.g 35) 1 0 (nvS.len l')), (9, .v (.int .i64 i2)), (10, .v (.int .i64 k')), (11, .v (.int .i64 (nvS.get 0 (nvS.get [] v2 ((std Try.prog).add 0 i2)) k')))] 0, frO 191 [(6, .box (t'8.g 6) [.sl 1 (nvS.len v1_Levels) false (fun ix jx => (.v (.int .i64 (nvS.get 0 v1_Levels ix)))), .sl 1 (nvS.len v1_Classes) false (fun ix jx => (.v (.int .i64 (nvS.get 0 v1_Classes ix)))), .sl 1 (nvS.len v1_Removed) false (fun ix jx => (.v (.bool (nvS.get false v1_Removed ix))))]), (26, .arr (t'8.g 26) 1 (nvS.len v2) (t'8.t 26) (fun ix jx => (.sl 1 (nvS.len (nvS.get [] v2 ix)) false (fun ix1 jx1 => (.v (.int .i64 (nvS.get 0 (nvS.get [] v2 ix) ix1))))))), (35, .arr (t'8.g 35) 1 (nvS.len l') (t'8.t 35) (fun ix jx => (.v (.int .i64 (nvS.get 0 met4 ix)))))] 0, t'8.c⟩) (fun _ t => Hid.ok t) (fun x t'8 ht'8 h => ?_) (fun f h => ?_)
                        · obtain ⟨t'8_c, t'8_g, t'8_t⟩ := t'8
                          have ht'8_c : 0 < t'8_c := ht'8.1
                          have ht'8_g : ∀ k, t'8_g k < t'8_c := ht'8.2
                          refine Tr.chunk (cx := ⟨tt0, ⟨fun f => kOf [] f, fun k _ _ _ => orcL [] k, fun t => memN [] t⟩, 0, fun r => ghL [] r⟩) tt0_ok hPm fun N hN => ?_
                          generalize hp : std Try.prog = p
                          generalize hv : nvS = nv
                          cbv
                          subst hp
                          subst hv
                          replace h := chk_some h; obtain ⟨h362, h⟩ := h
                          try (have h362z := h362; simp only [Int.zero_add] at h362z)
                          replace h := chk_some h; obtain ⟨h363, h⟩ := h
                          replace h := chk_some h; obtain ⟨h364, h⟩ := h
                          try (have h364z := h364; simp only [Int.zero_add] at h364z)
                          refine ⟨h362, rfl, h363, h364, rfl, ?_⟩
                          subst hN
                          cases h
                          show ∃ t', _ ∧ GeSt _ _ _
                          refine ⟨⟨t'8_c + 10, gfn [(6, t'8_g 6), (26, t'8_g 26), (35, t'8_g 35)], tfn [(6, false), (26, t'8_t 26), (35, t'8_t 35)]⟩, Hid.mk_ok (by omega) (And.intro (by have := ht'8_g 6; omega)
                              (And.intro (by have := ht'8_g 26; omega)
                              (And.intro (by have := ht'8_g 35; omega)
                              trivial))), ?_⟩
                          exact GeSt.of (LeSt.frame (by show (_ : Nat) < _; (try dsimp only [std_eq, stdN]); omega) rfl rfl (And.intro ⟨_, rfl, LeD.refl _⟩
                              (And.intro ⟨_, rfl, LeD.refl _⟩
                              (And.intro ⟨_, rfl, LeD.refl _⟩
                              (And.intro ⟨_, rfl, LeD.refl _⟩
                              (And.intro ⟨_, rfl, LeD.refl _⟩
                              (And.intro ⟨_, rfl, LeD.refl _⟩
                              (And.intro ⟨_, rfl, LeD.refl _⟩
                              (And.intro ⟨_, rfl, LeD.refl _⟩
                              trivial)))))))) (And.intro ⟨_, rfl, LeOb.box (And.intro (LeD.refl _)
                              (And.intro (LeD.refl _)
                              (And.intro (LeD.refl _)
                              trivial)))⟩
                              (And.intro ⟨_, rfl, LeOb.refl _⟩
                              (And.intro ⟨_, rfl, LeOb.arrE (by first | with_reducible rfl | with_reducible assumption | (symm; with_reducible assumption) | ((try dsimp only [std_eq, stdN, nvS]) <;> first | with_reducible rfl | omega | (simp (disch := first | omega | (simp only [lenL_set, lenL_app, lenL_cons, lenL_nil] <;> omega)) only [lenL_bytes, lenL_set, lenL_app, lenL_cons, lenL_nil, lenL_rep, lenL_sub, lenL_cpy, Int.ofNat_eq_natCast, Int.zero_add, Int.sub_zero] <;> first | done | omega | with_reducible assumption)) | rfl) (fun i i0 i1 j hj => by (try dsimp only [std_eq, stdN, nvS] at i1); (try simp only [Int.ofNat_eq_natCast, lenL_app, lenL_cons, lenL_nil, lenL_set, lenL_bytes] at i1); (try simp (disch := first | omega | (simp only [lenL_set, lenL_app, lenL_cons, lenL_nil] <;> omega)) only [lenL_sub, lenL_rep, lenL_cpy, Int.zero_add, Int.sub_zero] at i1); (obtain rfl : j = 0 := (by omega)) <;> (conv => lhs; whnf) <;> (conv => rhs; whnf) <;> (try dsimp only [std_eq, stdN, nvS]) <;> (first | rfl | (simp (disch := first | omega | (simp only [lenL_set, lenL_app, lenL_cons, lenL_nil] <;> omega)) only [getL_bytes, getL_put, getL_app, getL_rep, getL_sub, getL_cpy, Int.zero_add, Int.sub_zero, beq_iff_eq, decide_eq_true_eq, Bool.and_eq_true] <;> first | rfl | (split <;> first | rfl | (simp (disch := first | omega | (simp only [lenL_set, lenL_app, lenL_cons, lenL_nil] <;> omega)) only [getL_one, getL_zero] <;> rfl)) | (simp (disch := omega) only [getL_one, getL_zero] <;> rfl) | ((simp only [lenL_app, lenL_cons, lenL_nil, Int.ofNat_eq_natCast]) <;> (repeat' split) <;> first | rfl | (exfalso; omega) | (simp (disch := omega) only [getL_one, getL_zero] <;> rfl) | (congr 3; omega)))))⟩
                              trivial))))
                        · refine Tr.seq ?_
                          refine Tr.parts (cx := ⟨tt0, ⟨fun f => kOf [] f, fun k _ _ _ => orcL [] k, fun t => memN [] t⟩, 0, fun r => ghL [] r⟩) tt0_ok hPm 14 fun N hN => ?_
                          generalize hp : std Try.prog = p
                          generalize hv : nvS = nv
                          cbv
                          subst hp
                          subst hv
                          refine ⟨(fun hg => hg), (fun hg => hg), (fun hg => hg), (fun hg => hg), (fun hg => hg), ?_⟩
                          subst hN
                          refine wpEnd.more 14 fun N hN => ?_
                          generalize hp : std Try.prog = p
                          generalize hv : nvS = nv
                          cbv
                          subst hp
                          subst hv
                          replace h := chk_some h; obtain ⟨h365, h⟩ := h
                          replace h := chk_some h; obtain ⟨h366, h⟩ := h
                          replace h := chk_some h; obtain ⟨h367, h⟩ := h
                          refine ⟨(fun hg => hg), (fun hg => hg), h365, (fun hg => hg), (fun _ => rfl), (fun hg => hg), h366, (fun hg => hg), (fun hg => hg), h367, (fun hg => hg), (fun hg => hg), (fun hg => hg), (fun hg => hg), (fun hg => hg), (fun hg0 => (fun hg => (and_t hg0 (and_t hg0 hg)))), (fun hg => hg), (fun hg => hg), (fun _ => rfl), ?_⟩
                          subst hN
                          refine wpEnd.last fun N hN => ?_
                          generalize hp : std Try.prog = p
                          generalize hv : nvS = nv
                          cbv
                          subst hp
                          subst hv
                          replace h := chk_some h; obtain ⟨h368, h⟩ := h
                          replace h := chk_some h; obtain ⟨h369, h⟩ := h
                          replace h := chk_some h; obtain ⟨h370, h⟩ := h
                          replace h := chk_some h; obtain ⟨h371, h⟩ := h
                          refine ⟨(fun hg => hg), (fun hg => hg), h368, (fun hg => hg), (fun hg => hg), (fun _ => rfl), (fun hg => hg), (fun hg => hg), h369, (fun hg => hg), (fun _ => rfl), (fun hg => hg), h370, (fun hg => hg), (fun hg => hg), (fun hg => hg), h371, (fun hg => hg), (fun hg => hg), (fun hg => hg), (fun hg => hg), (show drOk _ _ = true by kernel_rfl), ?_⟩
                          subst hN
                          show Tr _ _ _ _
                          refine Tr.chunk (cx := ⟨tt0, ⟨fun f => kOf [] f, fun k _ _ _ => orcL [] k, fun t => memN [] t⟩, 0, fun r => ghL [] r⟩) tt0_ok hPm fun N hN => ?_
                          generalize hp : std Try.prog = p
                          generalize hv : nvS = nv
                          cbv
                          subst hp
                          subst hv
                          refine ⟨fun h372 => ?_, fun h372 => ?_⟩
                          · replace h := iteO_t h h372
                            subst hN
                            cases h
                            intro he; cases he
                            intro he; cases he
                            intro he; cases he
                            intro he; cases he
                            intro he; cases he
                            intro he; cases he
                            intro hr
                            subst hr
                            try dsimp only [noGoto, inBlockQ, thenQ]
                            repeat (first | refine (if_pos rfl).mpr ?_ | refine (if_neg (by decide)).mpr ?_)
                            refine retQ_ret rfl ?_ ?_
                            · exact trivial
                            · exact rfl
                          · replace h := iteO_f h h372
                            subst hN
                            cases h
                            show ∃ t', _ ∧ GeSt _ _ _
                            refine ⟨⟨t'6_c + 12, gfn [(6, t'6_g 6), (26, t'6_g 26), (35, t'6_g 35)], tfn [(6, false), (26, t'6_t 26), (35, t'6_t 35)]⟩, Hid.mk_ok (by omega) (And.intro (by have := ht'6_g 6; omega)
                                (And.intro (by have := ht'6_g 26; omega)
                                (And.intro (by have := ht'6_g 35; omega)
                                trivial))), ?_⟩
                            exact GeSt.of (LeSt.frame (by show (_ : Nat) < _; (try dsimp only [std_eq, stdN]); omega) rfl rfl (And.intro ⟨_, rfl, LeD.refl _⟩
                                (And.intro ⟨_, rfl, LeD.refl _⟩
                                (And.intro ⟨_, rfl, LeD.refl _⟩
                                (And.intro ⟨_, rfl, LeD.refl _⟩
                                (And.intro ⟨_, rfl, LeD.refl _⟩
                                (And.intro ⟨_, rfl, LeD.refl _⟩
                                (And.intro ⟨_, rfl, LeD.refl _⟩
                                (And.intro ⟨_, rfl, LeD.refl _⟩
                                (And.intro ⟨_, rfl, LeD.refl _⟩
                                trivial))))))))) (And.intro ⟨_, rfl, LeOb.box (And.intro (LeD.refl _)
                                (And.intro (LeD.refl _)
                                (And.intro (LeD.refl _)
                                trivial)))⟩
                                (And.intro ⟨_, rfl, LeOb.refl _⟩
                                (And.intro ⟨_, rfl, LeOb.refl _⟩
                                trivial))))
                    · replace h := iteO_f h h337
                      subst hN
                      cases h
                      intro he; cases he
                      show ∃ t', _ ∧ GeSt _ _ _
                      refine ⟨⟨t'6_c + 10, gfn [(6, t'6_g 6), (26, t'6_g 26), (35, t'6_g 35)], tfn [(6, false), (26, t'6_t 26), (35, t'6_t 35)]⟩, (And.intro (Hid.mk_ok (by omega) (And.intro (by have := ht'6_g 6; omega)
                          (And.intro (by have := ht'6_g 26; omega)
                          (And.intro (by have := ht'6_g 35; omega)
                          trivial))))
                          (by first | with_reducible assumption | (simp (disch := first | omega | (simp only [lenL_set, lenL_app, lenL_cons, lenL_nil] <;> omega)) only [lenL_bytes, lenL_set, lenL_app, lenL_cons, lenL_nil, lenL_rep, lenL_sub, lenL_cpy, Int.ofNat_eq_natCast, Int.zero_add, Int.sub_zero] <;> first | done | with_reducible assumption | omega) | omega | rfl)), ?_⟩
                      exact GeSt.of (LeSt.frame (by show (_ : Nat) < _; (try dsimp only [std_eq, stdN]); omega) rfl rfl (And.intro ⟨_, rfl, LeD.refl _⟩
                          (And.intro ⟨_, rfl, LeD.refl _⟩
                          (And.intro ⟨_, rfl, LeD.refl _⟩
                          (And.intro ⟨_, rfl, LeD.refl _⟩
                          (And.intro ⟨_, rfl, LeD.refl _⟩
                          (And.intro ⟨_, rfl, LeD.refl _⟩
                          (And.intro ⟨_, rfl, LeD.refl _⟩
                          trivial))))))) (And.intro ⟨_, rfl, LeOb.box (And.intro (LeD.refl _)
                          (And.intro (LeD.refl _)
                          (And.intro (LeD.refl _)
                          trivial)))⟩
                          (And.intro ⟨_, rfl, LeOb.refl _⟩
                          (And.intro ⟨_, rfl, LeOb.refl _⟩
                          trivial))))
          · replace h := iteO_f h h218
            subst hN
            cases h
            intro he; cases he
            show ∃ t', _ ∧ GeSt _ _ _
            refine ⟨⟨t'3_c + 10, gfn [(6, t'3_g 6), (35, t'3_g 35)], tfn [(6, false), (35, t'3_t 35)]⟩, (And.intro (Hid.mk_ok (by omega) (And.intro (by have := ht'3_g 6; omega)
                (And.intro (by have := ht'3_g 35; omega)
                trivial)))
                (by first | with_reducible assumption | (simp (disch := first | omega | (simp only [lenL_set, lenL_app, lenL_cons, lenL_nil] <;> omega)) only [lenL_bytes, lenL_set, lenL_app, lenL_cons, lenL_nil, lenL_rep, lenL_sub, lenL_cpy, Int.ofNat_eq_natCast, Int.zero_add, Int.sub_zero] <;> first | done | with_reducible assumption | omega) | omega | rfl)), ?_⟩
            exact GeSt.of (LeSt.frame (by show (_ : Nat) < _; (try dsimp only [std_eq, stdN]); omega) rfl rfl (And.intro ⟨_, rfl, LeD.refl _⟩
                (And.intro ⟨_, rfl, LeD.refl _⟩
                (And.intro ⟨_, rfl, LeD.refl _⟩
                (And.intro ⟨_, rfl, LeD.refl _⟩
                trivial)))) (And.intro ⟨_, rfl, LeOb.box (And.intro (LeD.refl _)
                (And.intro (LeD.refl _)
                (And.intro (LeD.refl _)
                trivial)))⟩
                (And.intro ⟨_, rfl, LeOb.refl _⟩
                trivial)))
end Go.Vx
