/- Walks, by program (lift.py). -/
import Derived.Test.YtofgfpibcoafgaaEWalk
import Derived.Test.YtofgfpibcoafgaaEWalkL1
set_option linter.all false
namespace Go.Vx
open Go.Proofs
set_option maxRecDepth 100000
set_option linter.unusedVariables false
set_option linter.unusedSimpArgs false

theorem lapwinglaw17_EmbedFlat_ok (l' : (List Int)) (base : Int) (r : Bool) (h : lapwinglaw17_EmbedFlat l' base = some r) : PureFn Try.prog 4 [(.sl 1 (nvS.len l') false (fun ix jx => (.v (.int .i64 (nvS.get 0 l' ix))))), (.v (.int .i64 base))] ((.v (.bool r))) := by
  unfold lapwinglaw17_EmbedFlat at h
  refine fn_tr tt0_ok Try.func4 (by kernel_rfl) (c := bodyOf Try.f4) (by kernel_rfl) ?_
  intro ctr hc
  obtain ⟨v, h1⟩ : ∃ v, valO false (lapwinglaw17_awake) = v := ⟨_, rfl⟩
  refine Tr.pre (cx := ⟨tt0, ⟨fun f => kOf [] f, fun k _ _ _ => orcL [(12, .plain (.v (.bool v)))] k, fun t => memN [] t⟩, 0, fun r => ghL [] r⟩) tt0_ok hPm 4 fun N hN => ?_
  generalize hp : std Try.prog = p
  generalize hv : nvS = nv
  cbv
  subst hp
  subst hv
  replace h := bindO_val h1 h; clear h1; obtain ⟨h1, h⟩ := h
  refine ⟨(Or.inl (PureFn.arg (lapwinglaw17_awake_ok  v h1) trivial)), ?_⟩
  refine ⟨fun h2 => ?_, fun h2 => ?_⟩
  · replace h := iteO_t h h2
    subst hN
    have hr := Option.some.inj h
    subst hr
    try dsimp only [noGoto, inBlockQ, thenQ]
    repeat (first | refine (if_pos rfl).mpr ?_ | refine (if_neg (by decide)).mpr ?_)
    refine retQ_ret rfl ?_ ?_
    · exact trivial
    · exact rfl
  · replace h := iteO_f h h2
    subst hN
    show Tr _ _ _ _
    refine Tr.cutSeq (α := List Int) h (fun want t' => ⟨frm 102 [(0, .sl 1 (nvS.len l') false (fun ix jx => (.v (.int .i64 (nvS.get 0 l' ix))))), (1, .v (.int .i64 base)), (5, .v (.bool v)), (6, .vec 44 (t'.g 44) 1 0 (nvS.len want))] 0, frO 102 [(44, .arr (t'.g 44) 1 (nvS.len want) (t'.t 44) (fun ix jx => (.v (.int .i64 (nvS.get 0 want ix)))))] 0, t'.c⟩) (fun _ t => Hid.ok t) (fun x t' ht' h => ?_) (fun f h => ?_)
    · revert h; revert ht'; revert x; intro want ht' h
      obtain ⟨t'_c, t'_g, t'_t⟩ := t'
      have ht'_c : 0 < t'_c := ht'.1
      have ht'_g : ∀ k, t'_g k < t'_c := ht'.2
      obtain ⟨v1, h21⟩ : ∃ v1, valO d_embed_Run (embed_Explicit l' (bndI .i64 base 1)) = v1 := ⟨_, rfl⟩
      obtain ⟨v1_Levels, v1_Classes, v1_Removed⟩ := v1
      obtain ⟨v2, h22⟩ : ∃ v2, valO [] (embed_Sequences l' (T_embed_Run.mk v1_Levels v1_Classes v1_Removed) (bndI .i64 base 1)) = v2 := ⟨_, rfl⟩
      obtain ⟨v3, h23⟩ : ∃ v3, valO false (if (!(!((lenL v1_Levels) == (lenL l')))) = true then lapwingref03_Ints v1_Classes l' else some false) = v3 := ⟨_, rfl⟩
      refine Tr.pre (cx := ⟨tt0, ⟨fun f => kOf [(9, 1)] f, fun k _ _ _ => orcL [(49, .plain (.agg 3 (fun j => (D_embed_Run nvS (T_embed_Run.mk v1_Levels v1_Classes v1_Removed) j)))), (53, .own 1 (nvS.len v2) false (fun ix jx => (.sl 1 (nvS.len (nvS.get [] v2 ix)) false (fun ix1 jx1 => (.v (.int .i64 (nvS.get 0 (nvS.get [] v2 ix) ix1))))))), (64, .plain (.v (.bool v3)))] k, fun t => memN [] t⟩, 0, fun r => ghL [] r⟩) tt0_ok hPm 4 fun N hN => ?_
      generalize hp : std Try.prog = p
      generalize hv : nvS = nv
      cbv
      subst hp
      subst hv
      replace h := bindO_val h21 h; clear h21; obtain ⟨h21, h⟩ := h; try dsimp only at h
      refine ⟨(Or.inl (PureFn.arg (embed_Explicit_ok l' (bndI .i64 base 1) (T_embed_Run.mk v1_Levels v1_Classes v1_Removed) h21) (And.intro (LeD.refl _)
          (And.intro (LeD.refl _)
          trivial)))), rfl, ?_⟩
      replace h := bindO_val h22 h; clear h22; obtain ⟨h22, h⟩ := h
      refine ⟨rfl, (Or.inl (PureFn.arg (embed_Sequences_ok l' (T_embed_Run.mk v1_Levels v1_Classes v1_Removed) (bndI .i64 base 1) v2 h22) (And.intro (LeD.refl _)
          (And.intro (LeD.agg fun j hj => by
            have hj2 : j < 3 := hj
            rcases (show j = 0 ∨ j = 1 ∨ j = 2 by omega) with rfl | rfl | rfl
            · exact LeD.refl _
            · exact LeD.refl _
            · exact LeD.refl _)
          (And.intro (LeD.refl _)
          trivial))))), ?_⟩
      replace h := bindO_val h23 h; clear h23; obtain ⟨h23, h⟩ := h
      refine ⟨rfl, (fun hg => hg), (fun _ => rfl), (fun hg => hg), (fun hg => hg), (fun hg => by have h23 := guardO h23 hg; exact (Or.inl (PureFn.arg (lapwingref03_Ints_ok v1_Classes l' v3 h23) (And.intro (LeD.refl _)
          (And.intro (LeD.refl _)
          trivial))))), (fun hg => hg), (fun hg => hg), ?_⟩
      refine ⟨fun h24 => ?_, fun h24 => ?_⟩
      · replace h := iteO_t h h24
        subst hN
        have hr := Option.some.inj h
        subst hr
        try dsimp only [noGoto, inBlockQ, thenQ]
        repeat (first | refine (if_pos rfl).mpr ?_ | refine (if_neg (by decide)).mpr ?_)
        refine retQ_ret rfl ?_ ?_
        · exact trivial
        · exact rfl
      · replace h := iteO_f h h24
        subst hN
        show Tr _ _ _ _
        refine Tr.cutSeq (α := Unit) h (fun _ t'1 => ⟨frm 102 [(5, .v (.bool v)), (6, .vec 44 (t'1.g 44) 1 0 (nvS.len want)), (10, .vec 53 (t'1.g 53) 1 0 (nvS.len v2))] 0, frO 102 [(44, .arr (t'1.g 44) 1 (nvS.len want) (t'1.t 44) (fun ix jx => (.v (.int .i64 (nvS.get 0 want ix))))), (53, .arr (t'1.g 53) 1 (nvS.len v2) (t'1.t 53) (fun ix jx => (.sl 1 (nvS.len (nvS.get [] v2 ix)) false (fun ix1 jx1 => (.v (.int .i64 (nvS.get 0 (nvS.get [] v2 ix) ix1)))))))] 0, t'1.c⟩) (fun _ t => Hid.ok t) (fun x t'1 ht'1 h => ?_) (fun f h => ?_)
        · obtain ⟨t'1_c, t'1_g, t'1_t⟩ := t'1
          have ht'1_c : 0 < t'1_c := ht'1.1
          have ht'1_g : ∀ k, t'1_g k < t'1_c := ht'1.2
          obtain ⟨v4, h35⟩ : ∃ v4, valO false (if (if v = true then ((lenL v2) == 1) else false) = true then lapwingref03_Ints (getL [] v2 (0 + 0)) want else some false) = v4 := ⟨_, rfl⟩
          refine Tr.chunk (cx := ⟨tt0, ⟨fun f => kOf [(10, 4)] f, fun k _ _ _ => orcL [(100, .plain (.v (.bool v4)))] k, fun t => memN [] t⟩, 0, fun r => ghL [] r⟩) tt0_ok hPm fun N hN => ?_
          generalize hp : std Try.prog = p
          generalize hv : nvS = nv
          cbv
          subst hp
          subst hv
          refine ⟨fun h33 => ?_, fun h33 => ?_⟩
          · replace h := iteO_t h h33
            refine ⟨(fun hg => hg), (fun hg => hg), (fun hg => hg), ?_⟩
            subst hN
            have hr := Option.some.inj h
            subst hr
            try dsimp only [noGoto, inBlockQ, thenQ]
            repeat (first | refine (if_pos rfl).mpr ?_ | refine (if_neg (by decide)).mpr ?_)
            refine retQ_ret rfl ?_ ?_
            · exact trivial
            · exact rfl
          · replace h := iteO_f h h33
            replace h := chk_some h; obtain ⟨h34, h⟩ := h
            replace h := bindO_val h35 h; clear h35; obtain ⟨h35, h⟩ := h
            refine ⟨(fun hg => hg), (fun hg => hg), (fun hg => hg), (fun hg => hg), h34, (fun hg => hg), (fun _ => rfl), (fun hg => hg), (fun hg => hg), (fun _ => rfl), (fun _ => trivial), (fun hg => by have h35 := guardO h35 hg; have h34 := h34 hg; exact (PureFn.arg (lapwingref03_Ints_ok (getL [] v2 (0 + 0)) want v4 h35) (And.intro (LeD.refl _)
                (And.intro (LeD.slE (by first | with_reducible rfl | with_reducible assumption | (symm; with_reducible assumption) | ((try dsimp only [std_eq, stdN, nvS]) <;> first | with_reducible rfl | omega | (simp (disch := first | omega | (simp only [lenL_set, lenL_app, lenL_cons, lenL_nil] <;> omega)) only [lenL_bytes, lenL_set, lenL_app, lenL_cons, lenL_nil, lenL_rep, lenL_sub, lenL_cpy, Int.ofNat_eq_natCast, Int.zero_add, Int.sub_zero] <;> first | done | omega | with_reducible assumption)) | rfl) (fun i i0 i1 j hj => by (try dsimp only [std_eq, stdN, nvS] at i1); (try simp only [Int.ofNat_eq_natCast, lenL_app, lenL_cons, lenL_nil, lenL_set, lenL_bytes] at i1); (try simp (disch := first | omega | (simp only [lenL_set, lenL_app, lenL_cons, lenL_nil] <;> omega)) only [lenL_sub, lenL_rep, lenL_cpy, Int.zero_add, Int.sub_zero] at i1); (obtain rfl : j = 0 := (by omega)) <;> (conv => lhs; whnf) <;> (conv => rhs; whnf) <;> (try dsimp only [std_eq, stdN, nvS]) <;> (first | rfl | (simp (disch := first | omega | (simp only [lenL_set, lenL_app, lenL_cons, lenL_nil] <;> omega)) only [getL_bytes, getL_put, getL_app, getL_rep, getL_sub, getL_cpy, Int.zero_add, Int.sub_zero, beq_iff_eq, decide_eq_true_eq, Bool.and_eq_true] <;> first | rfl | (split <;> first | rfl | (simp (disch := first | omega | (simp only [lenL_set, lenL_app, lenL_cons, lenL_nil] <;> omega)) only [getL_one, getL_zero] <;> rfl)) | (simp (disch := omega) only [getL_one, getL_zero] <;> rfl) | ((simp only [lenL_app, lenL_cons, lenL_nil, Int.ofNat_eq_natCast]) <;> (repeat' split) <;> first | rfl | (exfalso; omega) | (simp (disch := omega) only [getL_one, getL_zero] <;> rfl) | (congr 3; omega))))))
                trivial)))), (fun hg => hg), ?_⟩
            subst hN
            have hr := Option.some.inj h
            subst hr
            try dsimp only [noGoto, inBlockQ, thenQ]
            repeat (first | refine (if_pos rfl).mpr ?_ | refine (if_neg (by decide)).mpr ?_)
            refine retQ_ret rfl ?_ ?_
            · exact trivial
            · exact rfl
        · refine Tr.pre (cx := ⟨tt0, ⟨fun f => kOf [] f, fun k _ _ _ => orcL [] k, fun t => memN [] t⟩, 0, fun r => ghL [] r⟩) tt0_ok hPm 1 fun N hN => ?_
          generalize hp : std Try.prog = p
          generalize hv : nvS = nv
          cbv
          subst hp
          subst hv
          subst hN
          show Tr _ _ _ _
          refine Tr.block ?_
          refine Tr.loopO (α := Int) (fun i t'2 => ⟨frm 102 [(0, .sl 1 (nvS.len l') false (fun ix jx => (.v (.int .i64 (nvS.get 0 l' ix))))), (5, .v (.bool v)), (6, .vec 44 (t'2.g 44) 1 0 (nvS.len want)), (8, .v (.int .i64 ((std Try.prog).bnd .i64 base 1))), (9, .bref 9 (t'2.g 9) 0), (10, .vec 53 (t'2.g 53) 1 0 (nvS.len v2)), (11, .v (.int .i64 i))] 0, frO 102 [(9, .box (t'2.g 9) [.sl 1 (nvS.len v1_Levels) false (fun ix jx => (.v (.int .i64 (nvS.get 0 v1_Levels ix)))), .sl 1 (nvS.len v1_Classes) false (fun ix jx => (.v (.int .i64 (nvS.get 0 v1_Classes ix)))), .sl 1 (nvS.len v1_Removed) false (fun ix jx => (.v (.bool (nvS.get false v1_Removed ix))))]), (44, .arr (t'2.g 44) 1 (nvS.len want) (t'2.t 44) (fun ix jx => (.v (.int .i64 (nvS.get 0 want ix))))), (53, .arr (t'2.g 53) 1 (nvS.len v2) (t'2.t 53) (fun ix jx => (.sl 1 (nvS.len (nvS.get [] v2 ix)) false (fun ix1 jx1 => (.v (.int .i64 (nvS.get 0 (nvS.get [] v2 ix) ix1)))))))] 0, t'2.c⟩) (fun _ t => Hid.ok t) ⟨t'_c + 14, gfn [(9, t'_c + 1), (44, t'_g 44), (53, t'_c + 2)], tfn [(9, false), (44, t'_t 44), (53, false)]⟩ h ?_ ?_ (fun x t'2 f ht'2 h => ?_)
          · exact Hid.mk_ok (by omega) (And.intro (by omega)
                (And.intro (by have := ht'_g 44; omega)
                (And.intro (by omega)
                trivial)))
          · exact GeSt.of (LeSt.frame (by show (_ : Nat) < _; (try dsimp only [std_eq, stdN]); omega) rfl rfl (And.intro ⟨_, rfl, LeD.refl _⟩
                (And.intro ⟨_, rfl, LeD.refl _⟩
                (And.intro ⟨_, rfl, LeD.refl _⟩
                (And.intro ⟨_, rfl, LeD.refl _⟩
                (And.intro ⟨_, rfl, LeD.refl _⟩
                (And.intro ⟨_, rfl, LeD.refl _⟩
                (And.intro ⟨_, rfl, LeD.refl _⟩
                trivial))))))) (And.intro ⟨_, rfl, LeOb.box (And.intro (LeD.refl _)
                (And.intro (LeD.refl _)
                (And.intro (LeD.refl _)
                trivial)))⟩
                (And.intro ⟨_, rfl, LeOb.refl _⟩
                (And.intro ⟨_, rfl, LeOb.refl _⟩
                trivial))))
          · revert h; revert ht'2; revert x; intro i ht'2 h
            obtain ⟨t'2_c, t'2_g, t'2_t⟩ := t'2
            have ht'2_c : 0 < t'2_c := ht'2.1
            have ht'2_g : ∀ k, t'2_g k < t'2_c := ht'2.2
            refine Tr.chunk (cx := ⟨tt0, ⟨fun f => kOf [] f, fun k _ _ _ => orcL [] k, fun t => memN [] t⟩, 0, fun r => ghL [] r⟩) tt0_ok hPm fun N hN => ?_
            generalize hp : std Try.prog = p
            generalize hv : nvS = nv
            cbv
            subst hp
            subst hv
            refine ⟨fun h44 => ?_, fun h44 => ?_⟩
            · replace h := iteO_t h h44
              replace h := chk_some h; obtain ⟨h45, h⟩ := h
              try (have h45z := h45; simp only [Int.zero_add] at h45z)
              refine ⟨rfl, h45, ?_⟩
              refine ⟨fun h46 => ?_, fun h46 => ?_⟩
              · replace h := iteO_t h h46
                subst hN
                cases h
                intro he; cases he
                intro hr
                subst hr
                try dsimp only [noGoto, inBlockQ, thenQ]
                repeat (first | refine (if_pos rfl).mpr ?_ | refine (if_neg (by decide)).mpr ?_)
                refine retQ_ret rfl ?_ ?_
                · exact trivial
                · exact rfl
              · replace h := iteO_f h h46
                replace h := chk_some h; obtain ⟨h47, h⟩ := h
                refine ⟨h47, ?_⟩
                subst hN
                cases h
                show ∃ t', _ ∧ GeSt _ _ _
                refine ⟨⟨t'2_c + 12, gfn [(9, t'2_g 9), (44, t'2_g 44), (53, t'2_g 53)], tfn [(9, false), (44, t'2_t 44), (53, t'2_t 53)]⟩, Hid.mk_ok (by omega) (And.intro (by have := ht'2_g 9; omega)
                    (And.intro (by have := ht'2_g 44; omega)
                    (And.intro (by have := ht'2_g 53; omega)
                    trivial))), ?_⟩
                exact GeSt.of (LeSt.frame (by show (_ : Nat) < _; (try dsimp only [std_eq, stdN]); omega) rfl rfl (And.intro ⟨_, rfl, LeD.refl _⟩
                    (And.intro ⟨_, rfl, LeD.refl _⟩
                    (And.intro ⟨_, rfl, LeD.refl _⟩
                    (And.intro ⟨_, rfl, LeD.refl _⟩
                    (And.intro ⟨_, rfl, LeD.refl _⟩
                    (And.intro ⟨_, rfl, LeD.refl _⟩
                    (And.intro ⟨_, rfl, LeD.refl _⟩
                    trivial))))))) (And.intro ⟨_, rfl, LeOb.box (And.intro (LeD.refl _)
                    (And.intro (LeD.refl _)
                    (And.intro (LeD.refl _)
                    trivial)))⟩
                    (And.intro ⟨_, rfl, LeOb.refl _⟩
                    (And.intro ⟨_, rfl, LeOb.refl _⟩
                    trivial))))
            · replace h := iteO_f h h44
              subst hN
              cases h
              intro he; cases he
              show ∃ t', _ ∧ GeSt _ _ _
              refine ⟨⟨t'2_c + 10, gfn [(44, t'2_g 44), (53, t'2_g 53)], tfn [(44, t'2_t 44), (53, t'2_t 53)]⟩, Hid.mk_ok (by omega) (And.intro (by have := ht'2_g 44; omega)
                  (And.intro (by have := ht'2_g 53; omega)
                  trivial)), ?_⟩
              exact GeSt.of (LeSt.frame (by show (_ : Nat) < _; (try dsimp only [std_eq, stdN]); omega) rfl rfl (And.intro ⟨_, rfl, LeD.refl _⟩
                  (And.intro ⟨_, rfl, LeD.refl _⟩
                  (And.intro ⟨_, rfl, LeD.refl _⟩
                  trivial))) (And.intro ⟨_, rfl, LeOb.refl _⟩
                  (And.intro ⟨_, rfl, LeOb.refl _⟩
                  trivial)))
    · refine Tr.pre (cx := ⟨tt0, ⟨fun f => kOf [] f, fun k _ _ _ => orcL [] k, fun t => memN [] t⟩, 0, fun r => ghL [] r⟩) tt0_ok hPm 1 fun N hN => ?_
      generalize hp : std Try.prog = p
      generalize hv : nvS = nv
      cbv
      subst hp
      subst hv
      subst hN
      show Tr _ _ _ _
      refine Tr.block ?_
      refine Tr.loopO (α := Int × List Int) (fun (i2, want1) t'3 => ⟨frm 102 [(0, .sl 1 (nvS.len l') false (fun ix jx => (.v (.int .i64 (nvS.get 0 l' ix))))), (1, .v (.int .i64 base)), (5, .v (.bool v)), (6, .vec 44 (t'3.g 44) 1 0 (nvS.len want1)), (7, .v (.int .i64 i2))] 0, frO 102 [(44, .arr (t'3.g 44) 1 (nvS.len want1) (t'3.t 44) (fun ix jx => (.v (.int .i64 (nvS.get 0 want1 ix)))))] 0, t'3.c⟩) (fun _ t => Hid.ok t) ⟨ctr + 15, gfn [(44, ctr + 5)], tfn [(44, false)]⟩ h ?_ ?_ (fun x t'3 f ht'3 h => ?_)
      · exact Hid.mk_ok (by omega) (And.intro (by omega)
            trivial)
      · refine GeSt.by [.thaw (.slot 6) 44 1] rfl ?_ ?_
        · exact trivial
        · exact LeSt.frame (show ctr + 6 < ctr + 15 by omega) rfl rfl (And.intro ⟨_, rfl, LeD.refl _⟩
              (And.intro ⟨_, rfl, LeD.refl _⟩
              (And.intro ⟨_, rfl, LeD.refl _⟩
              (And.intro ⟨_, rfl, LeD.refl _⟩
              (And.intro ⟨_, rfl, LeD.refl _⟩
              trivial))))) (And.intro ⟨_, rfl, LeOb.arr' rfl (fun i i0 i1 j hj => by exfalso; revert i1; show i < (0 : Int) → False; omega)⟩
              trivial)
      · obtain ⟨i2, want1⟩ := x
        try dsimp only at h
        obtain ⟨t'3_c, t'3_g, t'3_t⟩ := t'3
        have ht'3_c : 0 < t'3_c := ht'3.1
        have ht'3_g : ∀ k, t'3_g k < t'3_c := ht'3.2
        refine Tr.chunk (cx := ⟨tt0, ⟨fun f => kOf [] f, fun k _ _ _ => orcL [] k, fun t => memN [43] t⟩, 0, fun r => ghL [] r⟩) tt0_ok hPm fun N hN => ?_
        generalize hp : std Try.prog = p
        generalize hv : nvS = nv
        cbv
        subst hp
        subst hv
        refine ⟨fun h66 => ?_, fun h66 => ?_⟩
        · replace h := iteO_t h h66
          replace h := chk_some h; obtain ⟨h67, h⟩ := h
          try (have h67z := h67; simp only [Int.zero_add] at h67z)
          replace h := chk_some h; obtain ⟨h68, h⟩ := h
          refine ⟨h67, (fun hg => hg), (fun hg => hg), h68, (fun hg => hg), (fun hg => hg), (fun hg => hg), ?_⟩
          refine ⟨fun h69 => ?_, fun h69 => ?_⟩
          · replace h := iteO_t h h69
            subst hN
            cases h
            intro he; cases he
            intro hr
            subst hr
            try dsimp only [noGoto, inBlockQ, thenQ]
            repeat (first | refine (if_pos rfl).mpr ?_ | refine (if_neg (by decide)).mpr ?_)
            refine retQ_ret rfl ?_ ?_
            · exact trivial
            · exact rfl
          · replace h := iteO_f h h69
            replace h := chk_some h; obtain ⟨h70, h⟩ := h
            try (have h70z := h70; simp only [Int.zero_add] at h70z)
            refine ⟨h70, ?_⟩
            refine ⟨fun h71 => ?_, fun h71 => ?_⟩
            · replace h := iteO_t h h71
              replace h := chk_some h; obtain ⟨h72, h⟩ := h
              refine ⟨rfl, (by have := ht'3_g 44; show (_ : Nat) < _; (try dsimp only [std_eq, stdN]); omega), h72, ?_⟩
              replace h := chk_some h; obtain ⟨h73, h⟩ := h
              refine ⟨h73, ?_⟩
              subst hN
              cases h
              show ∃ t', _ ∧ GeSt _ _ _
              refine ⟨⟨t'3_c + 14, gfn [(44, t'3_c + 3)], tfn [(44, false)]⟩, Hid.mk_ok (by omega) (And.intro (by omega)
                  trivial), ?_⟩
              exact GeSt.of (LeSt.frame (by show (_ : Nat) < _; (try dsimp only [std_eq, stdN]); omega) rfl rfl (And.intro ⟨_, rfl, LeD.refl _⟩
                  (And.intro ⟨_, rfl, LeD.refl _⟩
                  (And.intro ⟨_, rfl, LeD.refl _⟩
                  (And.intro ⟨_, rfl, LeD.vec rfl (by first | with_reducible rfl | with_reducible assumption | (symm; with_reducible assumption) | ((try dsimp only [std_eq, stdN, nvS]) <;> first | with_reducible rfl | omega | (simp (disch := first | omega | (simp only [lenL_set, lenL_app, lenL_cons, lenL_nil] <;> omega)) only [lenL_bytes, lenL_set, lenL_app, lenL_cons, lenL_nil, lenL_rep, lenL_sub, lenL_cpy, Int.ofNat_eq_natCast, Int.zero_add, Int.sub_zero] <;> first | done | omega | with_reducible assumption)) | rfl)⟩
                  (And.intro ⟨_, rfl, LeD.refl _⟩
                  trivial))))) (And.intro ⟨_, rfl, LeOb.arrE (by first | with_reducible rfl | with_reducible assumption | (symm; with_reducible assumption) | ((try dsimp only [std_eq, stdN, nvS]) <;> first | with_reducible rfl | omega | (simp (disch := first | omega | (simp only [lenL_set, lenL_app, lenL_cons, lenL_nil] <;> omega)) only [lenL_bytes, lenL_set, lenL_app, lenL_cons, lenL_nil, lenL_rep, lenL_sub, lenL_cpy, Int.ofNat_eq_natCast, Int.zero_add, Int.sub_zero] <;> first | done | omega | with_reducible assumption)) | rfl) (fun i i0 i1 j hj => by (try dsimp only [std_eq, stdN, nvS] at i1); (try simp only [Int.ofNat_eq_natCast, lenL_app, lenL_cons, lenL_nil, lenL_set, lenL_bytes] at i1); (try simp (disch := first | omega | (simp only [lenL_set, lenL_app, lenL_cons, lenL_nil] <;> omega)) only [lenL_sub, lenL_rep, lenL_cpy, Int.zero_add, Int.sub_zero] at i1); (obtain rfl : j = 0 := (by omega)) <;> (conv => lhs; whnf) <;> (conv => rhs; whnf) <;> (try dsimp only [std_eq, stdN, nvS]) <;> (first | rfl | (simp (disch := first | omega | (simp only [lenL_set, lenL_app, lenL_cons, lenL_nil] <;> omega)) only [getL_bytes, getL_put, getL_app, getL_rep, getL_sub, getL_cpy, Int.zero_add, Int.sub_zero, beq_iff_eq, decide_eq_true_eq, Bool.and_eq_true] <;> first | rfl | (split <;> first | rfl | (simp (disch := first | omega | (simp only [lenL_set, lenL_app, lenL_cons, lenL_nil] <;> omega)) only [getL_one, getL_zero] <;> rfl)) | (simp (disch := omega) only [getL_one, getL_zero] <;> rfl) | ((simp only [lenL_app, lenL_cons, lenL_nil, Int.ofNat_eq_natCast]) <;> (repeat' split) <;> first | rfl | (exfalso; omega) | (simp (disch := omega) only [getL_one, getL_zero] <;> rfl) | (congr 3; omega)))))⟩
                  trivial))
            · replace h := iteO_f h h71
              replace h := chk_some h; obtain ⟨h74, h⟩ := h
              refine ⟨h74, ?_⟩
              subst hN
              cases h
              show ∃ t', _ ∧ GeSt _ _ _
              refine ⟨⟨t'3_c + 13, gfn [(44, t'3_g 44)], tfn [(44, t'3_t 44)]⟩, Hid.mk_ok (by omega) (And.intro (by have := ht'3_g 44; omega)
                  trivial), ?_⟩
              exact GeSt.of (LeSt.frame (by show (_ : Nat) < _; (try dsimp only [std_eq, stdN]); omega) rfl rfl (And.intro ⟨_, rfl, LeD.refl _⟩
                  (And.intro ⟨_, rfl, LeD.refl _⟩
                  (And.intro ⟨_, rfl, LeD.refl _⟩
                  (And.intro ⟨_, rfl, (by first | exact LeD.refl _ | exact LeD.vec rfl (by first | with_reducible rfl | with_reducible assumption | (symm; with_reducible assumption) | ((try dsimp only [std_eq, stdN, nvS]) <;> first | with_reducible rfl | omega | (simp (disch := first | omega | (simp only [lenL_set, lenL_app, lenL_cons, lenL_nil] <;> omega)) only [lenL_bytes, lenL_set, lenL_app, lenL_cons, lenL_nil, lenL_rep, lenL_sub, lenL_cpy, Int.ofNat_eq_natCast, Int.zero_add, Int.sub_zero] <;> first | done | omega | with_reducible assumption)) | rfl))⟩
                  (And.intro ⟨_, rfl, LeD.refl _⟩
                  trivial))))) (And.intro ⟨_, rfl, LeOb.refl _⟩
                  trivial))
        · replace h := iteO_f h h66
          subst hN
          cases h
          intro he; cases he
          show ∃ t', _ ∧ GeSt _ _ _
          refine ⟨⟨t'3_c + 10, gfn [(44, t'3_g 44)], tfn [(44, t'3_t 44)]⟩, Hid.mk_ok (by omega) (And.intro (by have := ht'3_g 44; omega)
              trivial), ?_⟩
          exact GeSt.of (LeSt.frame (by show (_ : Nat) < _; (try dsimp only [std_eq, stdN]); omega) rfl rfl (And.intro ⟨_, rfl, LeD.refl _⟩
              (And.intro ⟨_, rfl, LeD.refl _⟩
              (And.intro ⟨_, rfl, LeD.refl _⟩
              (And.intro ⟨_, rfl, LeD.vec rfl (by first | with_reducible rfl | with_reducible assumption | (symm; with_reducible assumption) | ((try dsimp only [std_eq, stdN, nvS]) <;> first | with_reducible rfl | omega | (simp (disch := first | omega | (simp only [lenL_set, lenL_app, lenL_cons, lenL_nil] <;> omega)) only [lenL_bytes, lenL_set, lenL_app, lenL_cons, lenL_nil, lenL_rep, lenL_sub, lenL_cpy, Int.ofNat_eq_natCast, Int.zero_add, Int.sub_zero] <;> first | done | omega | with_reducible assumption)) | rfl)⟩
              trivial)))) (And.intro ⟨_, rfl, LeOb.arrE (by first | with_reducible rfl | with_reducible assumption | (symm; with_reducible assumption) | ((try dsimp only [std_eq, stdN, nvS]) <;> first | with_reducible rfl | omega | (simp (disch := first | omega | (simp only [lenL_set, lenL_app, lenL_cons, lenL_nil] <;> omega)) only [lenL_bytes, lenL_set, lenL_app, lenL_cons, lenL_nil, lenL_rep, lenL_sub, lenL_cpy, Int.ofNat_eq_natCast, Int.zero_add, Int.sub_zero] <;> first | done | omega | with_reducible assumption)) | rfl) (fun i i0 i1 j hj => by (try dsimp only [std_eq, stdN, nvS] at i1); (try simp only [Int.ofNat_eq_natCast, lenL_app, lenL_cons, lenL_nil, lenL_set, lenL_bytes] at i1); (try simp (disch := first | omega | (simp only [lenL_set, lenL_app, lenL_cons, lenL_nil] <;> omega)) only [lenL_sub, lenL_rep, lenL_cpy, Int.zero_add, Int.sub_zero] at i1); (obtain rfl : j = 0 := (by omega)) <;> (conv => lhs; whnf) <;> (conv => rhs; whnf) <;> (try dsimp only [std_eq, stdN, nvS]) <;> (first | rfl | (simp (disch := first | omega | (simp only [lenL_set, lenL_app, lenL_cons, lenL_nil] <;> omega)) only [getL_bytes, getL_put, getL_app, getL_rep, getL_sub, getL_cpy, Int.zero_add, Int.sub_zero, beq_iff_eq, decide_eq_true_eq, Bool.and_eq_true] <;> first | rfl | (split <;> first | rfl | (simp (disch := first | omega | (simp only [lenL_set, lenL_app, lenL_cons, lenL_nil] <;> omega)) only [getL_one, getL_zero] <;> rfl)) | (simp (disch := omega) only [getL_one, getL_zero] <;> rfl) | ((simp only [lenL_app, lenL_cons, lenL_nil, Int.ofNat_eq_natCast]) <;> (repeat' split) <;> first | rfl | (exfalso; omega) | (simp (disch := omega) only [getL_one, getL_zero] <;> rfl) | (congr 3; omega)))))⟩
              trivial))
end Go.Vx
