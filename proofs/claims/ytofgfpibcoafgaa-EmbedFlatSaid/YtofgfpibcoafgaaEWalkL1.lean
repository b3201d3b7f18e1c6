/- Walks, by program (lift.py). -/
import Derived.Test.YtofgfpibcoafgaaEWalk
import Derived.Test.YtofgfpibcoafgaaEWalkX
import Derived.Test.YtofgfpibcoafgaaEWalkQ
set_option linter.all false
namespace Go.Vx
open Go.Proofs
set_option maxRecDepth 100000
set_option linter.unusedVariables false
set_option linter.unusedSimpArgs false

theorem lapwinglaw17_awake_ok  (r : Bool) (h : lapwinglaw17_awake = some r) : PureFn Try.prog 6 [] ((.v (.bool r))) := by
  unfold lapwinglaw17_awake at h
  refine fn_tr tt0_ok Try.func6 (by kernel_rfl) (c := bodyOf Try.f6) (by kernel_rfl) ?_
  intro ctr hc
  obtain ⟨v, h1⟩ : ∃ v, valO d_embed_Run (embed_Explicit ([1, 17, 2, 19, 1] : List Int) 0) = v := ⟨_, rfl⟩
  obtain ⟨v_Levels, v_Classes, v_Removed⟩ := v
  obtain ⟨v1, h2⟩ : ∃ v1, valO false (lapwingref03_Ints v_Levels ([0, 0, 1, 1, 0] : List Int)) = v1 := ⟨_, rfl⟩
  obtain ⟨v2, h5⟩ : ∃ v2, valO 0 (if (if (if (if v1 = true then ((lenL v_Removed) == 5) else false) = true then (getL false v_Removed 1) else false) = true then (!(getL false v_Removed 2)) else false) = true then embed_Base ([14, 3] : List Int) else some 0) = v2 := ⟨_, rfl⟩
  refine Tr.chunk (cx := ⟨tt0, ⟨fun f => kOf [] f, fun k _ _ _ => orcL [(3, .plain (.agg 3 (fun j => (D_embed_Run nvS (T_embed_Run.mk v_Levels v_Classes v_Removed) j)))), (7, .plain (.v (.bool v1))), (29, .plain (.v (.int .i64 v2)))] k, fun t => memN [2, 6, 28] t⟩, 0, fun r => ghL [] r⟩) tt0_ok hPm fun N hN => ?_
  generalize hp : std Try.prog = p
  generalize hv : nvS = nv
  cbv
  subst hp
  subst hv
  replace h := bindO_val h1 h; clear h1; obtain ⟨h1, h⟩ := h; try dsimp only at h
  refine ⟨(Or.inl (PureFn.arg (embed_Explicit_ok ([1, 17, 2, 19, 1] : List Int) 0 (T_embed_Run.mk v_Levels v_Classes v_Removed) h1) (And.intro (LeD.slE (by first | with_reducible rfl | with_reducible assumption | (symm; with_reducible assumption) | ((try dsimp only [std_eq, stdN, nvS]) <;> first | with_reducible rfl | omega | (simp (disch := first | omega | (simp only [lenL_set, lenL_app, lenL_cons, lenL_nil] <;> omega)) only [lenL_bytes, lenL_set, lenL_app, lenL_cons, lenL_nil, lenL_rep, lenL_sub, lenL_cpy, Int.ofNat_eq_natCast, Int.zero_add, Int.sub_zero] <;> first | done | omega | with_reducible assumption)) | rfl) (fun i i0 i1 j hj => by have i2 : i < 5 := i1; (rcases (show i = 0 ∨ i = 1 ∨ i = 2 ∨ i = 3 ∨ i = 4 by omega) with rfl | rfl | rfl | rfl | rfl) <;> (obtain rfl : j = 0 := (by omega)) <;> rfl))
      (And.intro (LeD.refl _)
      trivial)))), rfl, ?_⟩
  replace h := bindO_val h2 h; clear h2; obtain ⟨h2, h⟩ := h
  replace h := chk_some h; obtain ⟨h3, h⟩ := h
  replace h := chk_some h; obtain ⟨h4, h⟩ := h
  replace h := bindO_val h5 h; clear h5; obtain ⟨h5, h⟩ := h
  refine ⟨rfl, (Or.inl (PureFn.arg (lapwingref03_Ints_ok v_Levels ([0, 0, 1, 1, 0] : List Int) v1 h2) (And.intro (LeD.refl _)
      (And.intro (LeD.slE (by first | with_reducible rfl | with_reducible assumption | (symm; with_reducible assumption) | ((try dsimp only [std_eq, stdN, nvS]) <;> first | with_reducible rfl | omega | (simp (disch := first | omega | (simp only [lenL_set, lenL_app, lenL_cons, lenL_nil] <;> omega)) only [lenL_bytes, lenL_set, lenL_app, lenL_cons, lenL_nil, lenL_rep, lenL_sub, lenL_cpy, Int.ofNat_eq_natCast, Int.zero_add, Int.sub_zero] <;> first | done | omega | with_reducible assumption)) | rfl) (fun i i0 i1 j hj => by have i2 : i < 5 := i1; (rcases (show i = 0 ∨ i = 1 ∨ i = 2 ∨ i = 3 ∨ i = 4 by omega) with rfl | rfl | rfl | rfl | rfl) <;> (obtain rfl : j = 0 := (by omega)) <;> rfl))
      trivial)))), (fun hg => hg), (fun _ => rfl), (fun hg => hg), (fun hg => hg), (fun hg => hg), (fun hg => hg), (fun _ => rfl), (fun hg => hg), h3, (fun hg => hg), (fun hg => hg), (fun hg => hg), (fun _ => rfl), (fun hg => hg), h4, (fun hg => hg), (fun hg => hg), (fun hg => hg), (fun hg => hg), (fun hg => by have h5 := guardO h5 hg; exact (Or.inl (PureFn.arg (embed_Base_ok ([14, 3] : List Int) v2 h5) (And.intro (LeD.slE (by first | with_reducible rfl | with_reducible assumption | (symm; with_reducible assumption) | ((try dsimp only [std_eq, stdN, nvS]) <;> first | with_reducible rfl | omega | (simp (disch := first | omega | (simp only [lenL_set, lenL_app, lenL_cons, lenL_nil] <;> omega)) only [lenL_bytes, lenL_set, lenL_app, lenL_cons, lenL_nil, lenL_rep, lenL_sub, lenL_cpy, Int.ofNat_eq_natCast, Int.zero_add, Int.sub_zero] <;> first | done | omega | with_reducible assumption)) | rfl) (fun i i0 i1 j hj => by have i2 : i < 2 := i1; (rcases (show i = 0 ∨ i = 1 by omega) with rfl | rfl) <;> (obtain rfl : j = 0 := (by omega)) <;> rfl))
      trivial)))), (fun hg => hg), (fun hg => hg), ?_⟩
  subst hN
  have hr := Option.some.inj h
  subst hr
  try dsimp only [noGoto, inBlockQ, thenQ]
  repeat (first | refine (if_pos rfl).mpr ?_ | refine (if_neg (by decide)).mpr ?_)
  refine retQ_ret rfl ?_ ?_
  · exact trivial
  · exact rfl

theorem lapwinglaw17_EmbedMatch_ok (l' : (List Int)) (at' : Int) (r : Bool) (h : lapwinglaw17_EmbedMatch l' at' = some r) : PureFn Try.prog 3 [(.sl 1 (nvS.len l') false (fun ix jx => (.v (.int .i64 (nvS.get 0 l' ix))))), (.v (.int .i64 at'))] ((.v (.bool r))) := by
  unfold lapwinglaw17_EmbedMatch at h
  refine fn_tr tt0_ok Try.func3 (by kernel_rfl) (c := bodyOf Try.f3) (by kernel_rfl) ?_
  intro ctr hc
  obtain ⟨v, h1⟩ : ∃ v, valO false (lapwinglaw17_awake) = v := ⟨_, rfl⟩
  obtain ⟨v1, h3⟩ : ∃ v1, valO [] (embed_Match l') = v1 := ⟨_, rfl⟩
  refine Tr.pre (cx := ⟨tt0, ⟨fun f => kOf [(7, 1)] f, fun k _ _ _ => orcL [(11, .plain (.v (.bool v))), (22, .own 1 (nvS.len v1) false (fun ix jx => (.v (.int .i64 (nvS.get 0 v1 ix)))))] k, fun t => memN [] t⟩, 0, fun r => ghL [] r⟩) tt0_ok hPm 5 fun N hN => ?_
  generalize hp : std Try.prog = p
  generalize hv : nvS = nv
  cbv
  subst hp
  subst hv
  replace h := bindO_val h1 h; clear h1; obtain ⟨h1, h⟩ := h
  refine ⟨(Or.inl (PureFn.arg (lapwinglaw17_awake_ok  v h1) trivial)), ?_⟩
  refine ⟨(fun hg => hg), (fun hg => hg), (fun hg => hg), ?_⟩
  refine ⟨fun h2 => ?_, fun h2 => ?_⟩
  · replace h := iteO_t h h2
    subst hN
    have hr := Option.some.inj h
    subst hr
    try dsimp only [noGoto, inBlockQ, thenQ]
    repeat (first | refine (if_pos rfl).mpr ?_ | refine (if_neg (by decide)).mpr ?_)
    refine retQ_ret rfl ?_ ?_
    · exact trivial
    · exact rfl
  · replace h := iteO_f h h2
    replace h := bindO_val h3 h; clear h3; obtain ⟨h3, h⟩ := h
    refine ⟨(Or.inl (PureFn.arg (embed_Match_ok l' v1 h3) (And.intro (LeD.refl _)
        trivial))), ?_⟩
    refine ⟨fun h4 => ?_, fun h4 => ?_⟩
    · replace h := iteO_t h h4
      subst hN
      have hr := Option.some.inj h
      subst hr
      try dsimp only [noGoto, inBlockQ, thenQ]
      repeat (first | refine (if_pos rfl).mpr ?_ | refine (if_neg (by decide)).mpr ?_)
      refine retQ_ret rfl ?_ ?_
      · exact trivial
      · exact rfl
    · replace h := iteO_f h h4
      subst hN
      show Tr _ _ _ _
      refine Tr.cutSeq (α := Unit) h (fun _ t' => ⟨frm 180 [(0, .sl 1 (nvS.len l') false (fun ix jx => (.v (.int .i64 (nvS.get 0 l' ix))))), (1, .v (.int .i64 at')), (5, .v (.bool v)), (6, .vec 22 (t'.g 22) 1 0 (nvS.len v1))] 0, frO 180 [(22, .arr (t'.g 22) 1 (nvS.len v1) (t'.t 22) (fun ix jx => (.v (.int .i64 (nvS.get 0 v1 ix)))))] 0, t'.c⟩) (fun _ t => Hid.ok t) (fun x t' ht' h => ?_) (fun f h => ?_)
      · obtain ⟨t'_c, t'_g, t'_t⟩ := t'
        have ht'_c : 0 < t'_c := ht'.1
        have ht'_g : ∀ k, t'_g k < t'_c := ht'.2
        refine Tr.pre (cx := ⟨tt0, ⟨fun f => kOf [] f, fun k _ _ _ => orcL [] k, fun t => memN [] t⟩, 0, fun r => ghL [] r⟩) tt0_ok hPm 2 fun N hN => ?_
        generalize hp : std Try.prog = p
        generalize hv : nvS = nv
        cbv
        subst hp
        subst hv
        replace h := chk_some h; obtain ⟨h35, h⟩ := h
        refine ⟨h35, ?_⟩
        replace h := chk_some h; obtain ⟨h36, h⟩ := h
        try (have h36z := h36; simp only [Int.zero_add] at h36z)
        replace h := chk_some h; obtain ⟨h37, h⟩ := h
        refine ⟨h36, (fun hg => hg), (fun hg => hg), h37, (fun hg => hg), (fun hg => hg), (fun hg => hg), ?_⟩
        refine ⟨fun h38 => ?_, fun h38 => ?_⟩
        · replace h := iteO_t h h38
          subst hN
          have hr := Option.some.inj h
          subst hr
          try dsimp only [noGoto, inBlockQ, thenQ]
          repeat (first | refine (if_pos rfl).mpr ?_ | refine (if_neg (by decide)).mpr ?_)
          refine retQ_ret rfl ?_ ?_
          · exact trivial
          · exact rfl
        · replace h := iteO_f h h38
          subst hN
          show Tr _ _ _ _
          refine Tr.cutSeq (α := Unit) h (fun _ t'1 => ⟨frm 180 [(5, .v (.bool v))] 0, frO 180 [] 0, t'1.c⟩) (fun _ t => Hid.ok t) (fun x t'1 ht'1 h => ?_) (fun f h => ?_)
          · obtain ⟨t'1_c, t'1_g, t'1_t⟩ := t'1
            have ht'1_c : 0 < t'1_c := ht'1.1
            have ht'1_g : ∀ k, t'1_g k < t'1_c := ht'1.2
            refine Tr.chunk (cx := ⟨tt0, ⟨fun f => kOf [] f, fun k _ _ _ => orcL [] k, fun t => memN [] t⟩, 0, fun r => ghL [] r⟩) tt0_ok hPm fun N hN => ?_
            generalize hp : std Try.prog = p
            generalize hv : nvS = nv
            cbv
            subst hp
            subst hv
            subst hN
            have hr := Option.some.inj h
            subst hr
            try dsimp only [noGoto, inBlockQ, thenQ]
            repeat (first | refine (if_pos rfl).mpr ?_ | refine (if_neg (by decide)).mpr ?_)
            refine retQ_ret rfl ?_ ?_
            · exact trivial
            · exact rfl
          · refine Tr.pre (cx := ⟨tt0, ⟨fun f => kOf [] f, fun k _ _ _ => orcL [] k, fun t => memN [] t⟩, 0, fun r => ghL [] r⟩) tt0_ok hPm 1 fun N hN => ?_
            generalize hp : std Try.prog = p
            generalize hv : nvS = nv
            cbv
            subst hp
            subst hv
            replace h := chk_some h; obtain ⟨h58, h⟩ := h
            refine ⟨h58, ?_⟩
            subst hN
            show Tr _ _ _ _
            refine Tr.block ?_
            refine Tr.loopO (α := Int) (fun i1 t'2 => ⟨frm 180 [(0, .sl 1 (nvS.len l') false (fun ix jx => (.v (.int .i64 (nvS.get 0 l' ix))))), (5, .v (.bool v)), (6, .vec 22 (t'2.g 22) 1 0 (nvS.len v1)), (9, .v (.int .i64 ((std Try.prog).rem ((std Try.prog).bnd .i64 at' 65535) (nvS.len l')))), (10, .v (.int .i64 i1))] 0, frO 180 [(22, .arr (t'2.g 22) 1 (nvS.len v1) (t'2.t 22) (fun ix jx => (.v (.int .i64 (nvS.get 0 v1 ix)))))] 0, t'2.c⟩) (fun _ t => Hid.ok t) ⟨t'_c + 12, gfn [(22, t'_g 22)], tfn [(22, t'_t 22)]⟩ h ?_ ?_ (fun x t'2 f ht'2 h => ?_)
            · exact Hid.mk_ok (by omega) (And.intro (by have := ht'_g 22; omega)
                  trivial)
            · exact GeSt.of (LeSt.frame (by show (_ : Nat) < _; (try dsimp only [std_eq, stdN]); omega) rfl rfl (And.intro ⟨_, rfl, LeD.refl _⟩
                  (And.intro ⟨_, rfl, LeD.refl _⟩
                  (And.intro ⟨_, rfl, LeD.refl _⟩
                  (And.intro ⟨_, rfl, LeD.refl _⟩
                  (And.intro ⟨_, rfl, LeD.refl _⟩
                  trivial))))) (And.intro ⟨_, rfl, LeOb.refl _⟩
                  trivial))
            · revert h; revert ht'2; revert x; intro i1 ht'2 h
              obtain ⟨t'2_c, t'2_g, t'2_t⟩ := t'2
              have ht'2_c : 0 < t'2_c := ht'2.1
              have ht'2_g : ∀ k, t'2_g k < t'2_c := ht'2.2
              refine Tr.chunk (cx := ⟨tt0, ⟨fun f => kOf [] f, fun k _ _ _ => orcL [] k, fun t => memN [] t⟩, 0, fun r => ghL [] r⟩) tt0_ok hPm fun N hN => ?_
              generalize hp : std Try.prog = p
              generalize hv : nvS = nv
              cbv
              subst hp
              subst hv
              replace h := chk_some h; obtain ⟨h77, h⟩ := h
              try (have h77z := h77; simp only [Int.zero_add] at h77z)
              replace h := chk_some h; obtain ⟨h78, h⟩ := h
              refine ⟨h77, rfl, (fun hg => hg), (fun hg => hg), h78, (fun hg => hg), (fun _ => rfl), (fun hg => hg), (fun hg => hg), (fun hg => hg), (fun hg => hg), ?_⟩
              refine ⟨fun h79 => ?_, fun h79 => ?_⟩
              · replace h := iteO_t h h79
                replace h := chk_some h; obtain ⟨h80, h⟩ := h
                try (have h80z := h80; simp only [Int.zero_add] at h80z)
                replace h := chk_some h; obtain ⟨h81, h⟩ := h
                replace h := chk_some h; obtain ⟨h82, h⟩ := h
                replace h := chk_some h; obtain ⟨h83, h⟩ := h
                refine ⟨h80, rfl, (fun hg => hg), (fun hg => hg), h81, (fun hg => hg), (fun _ => rfl), (fun hg => hg), (fun hg => hg), (fun hg => hg), (fun hg => hg), h82, (fun hg => hg), (fun _ => rfl), (fun hg => hg), (fun hg => hg), h83, (fun hg => hg), (fun _ => rfl), (fun hg => hg), (fun hg => hg), (fun hg => hg), (fun hg => hg), (fun hg0 => (fun hg => (and_t hg0 (and_t hg0 hg)))), (fun hg => hg), (show drOk _ _ = true by kernel_rfl), ?_⟩
                refine ⟨fun h84 => ?_, fun h84 => ?_⟩
                · replace h := iteO_t h h84
                  subst hN
                  cases h
                  intro he; cases he
                  intro hr
                  subst hr
                  try dsimp only [noGoto, inBlockQ, thenQ]
                  repeat (first | refine (if_pos rfl).mpr ?_ | refine (if_neg (by decide)).mpr ?_)
                  refine retQ_ret rfl ?_ ?_
                  · exact trivial
                  · exact rfl
                · replace h := iteO_f h h84
                  replace h := chk_some h; obtain ⟨h85, h⟩ := h
                  refine ⟨h85, ?_⟩
                  subst hN
                  cases h
                  show ∃ t', _ ∧ GeSt _ _ _
                  refine ⟨⟨t'2_c + 12, gfn [(22, t'2_g 22)], tfn [(22, t'2_t 22)]⟩, Hid.mk_ok (by omega) (And.intro (by have := ht'2_g 22; omega)
                      trivial), ?_⟩
                  exact GeSt.of (LeSt.frame (by show (_ : Nat) < _; (try dsimp only [std_eq, stdN]); omega) rfl rfl (And.intro ⟨_, rfl, LeD.refl _⟩
                      (And.intro ⟨_, rfl, LeD.refl _⟩
                      (And.intro ⟨_, rfl, LeD.refl _⟩
                      (And.intro ⟨_, rfl, LeD.refl _⟩
                      (And.intro ⟨_, rfl, LeD.refl _⟩
                      trivial))))) (And.intro ⟨_, rfl, LeOb.refl _⟩
                      trivial))
              · replace h := iteO_f h h79
                subst hN
                cases h
                intro he; cases he
                show ∃ t', _ ∧ GeSt _ _ _
                refine ⟨⟨t'2_c + 10, gfn [], tfn []⟩, Hid.mk_ok (by omega) trivial, ?_⟩
                exact GeSt.of (LeSt.frame (by show (_ : Nat) < _; (try dsimp only [std_eq, stdN]); omega) rfl rfl (And.intro ⟨_, rfl, LeD.refl _⟩
                    trivial) trivial)
      · refine Tr.pre (cx := ⟨tt0, ⟨fun f => kOf [] f, fun k _ _ _ => orcL [] k, fun t => memN [] t⟩, 0, fun r => ghL [] r⟩) tt0_ok hPm 1 fun N hN => ?_
        generalize hp : std Try.prog = p
        generalize hv : nvS = nv
        cbv
        subst hp
        subst hv
        subst hN
        show Tr _ _ _ _
        refine Tr.block ?_
        refine Tr.loopO (α := Int) (fun i3 t'3 => ⟨frm 180 [(0, .sl 1 (nvS.len l') false (fun ix jx => (.v (.int .i64 (nvS.get 0 l' ix))))), (1, .v (.int .i64 at')), (5, .v (.bool v)), (6, .vec 22 (t'3.g 22) 1 0 (nvS.len v1)), (7, .v (.int .i64 i3))] 0, frO 180 [(22, .arr (t'3.g 22) 1 (nvS.len v1) (t'3.t 22) (fun ix jx => (.v (.int .i64 (nvS.get 0 v1 ix)))))] 0, t'3.c⟩) (fun _ t => Hid.ok t) ⟨ctr + 15, gfn [(22, ctr + 3)], tfn [(22, false)]⟩ h ?_ ?_ (fun x t'3 f ht'3 h => ?_)
        · exact Hid.mk_ok (by omega) (And.intro (by omega)
              trivial)
        · exact GeSt.of (LeSt.frame (by show (_ : Nat) < _; (try dsimp only [std_eq, stdN]); omega) rfl rfl (And.intro ⟨_, rfl, LeD.refl _⟩
              (And.intro ⟨_, rfl, LeD.refl _⟩
              (And.intro ⟨_, rfl, LeD.refl _⟩
              (And.intro ⟨_, rfl, LeD.refl _⟩
              (And.intro ⟨_, rfl, LeD.refl _⟩
              trivial))))) (And.intro ⟨_, rfl, LeOb.refl _⟩
              trivial))
        · revert h; revert ht'3; revert x; intro i3 ht'3 h
          obtain ⟨t'3_c, t'3_g, t'3_t⟩ := t'3
          have ht'3_c : 0 < t'3_c := ht'3.1
          have ht'3_g : ∀ k, t'3_g k < t'3_c := ht'3.2
          refine Tr.pre (cx := ⟨tt0, ⟨fun f => kOf [] f, fun k _ _ _ => orcL [] k, fun t => memN [] t⟩, 0, fun r => ghL [] r⟩) tt0_ok hPm 1 fun N hN => ?_
          generalize hp : std Try.prog = p
          generalize hv : nvS = nv
          cbv
          subst hp
          subst hv
          refine ⟨fun h116 => ?_, fun h116 => ?_⟩
          · replace h := iteO_t h h116
            subst hN
            show Tr _ _ _ _
            refine Tr.cutSeq (α := Unit) h (fun _ t'4 => ⟨frm 180 [(0, .sl 1 (nvS.len l') false (fun ix jx => (.v (.int .i64 (nvS.get 0 l' ix))))), (1, .v (.int .i64 at')), (5, .v (.bool v)), (6, .vec 22 (t'4.g 22) 1 0 (nvS.len v1)), (7, .v (.int .i64 i3))] 0, frO 180 [(22, .arr (t'4.g 22) 1 (nvS.len v1) (t'4.t 22) (fun ix jx => (.v (.int .i64 (nvS.get 0 v1 ix)))))] 0, t'4.c⟩) (fun _ t => Hid.ok t) (fun x t'4 ht'4 h => ?_) (fun f h => ?_)
            · obtain ⟨t'4_c, t'4_g, t'4_t⟩ := t'4
              have ht'4_c : 0 < t'4_c := ht'4.1
              have ht'4_g : ∀ k, t'4_g k < t'4_c := ht'4.2
              refine Tr.chunk (cx := ⟨tt0, ⟨fun f => kOf [] f, fun k _ _ _ => orcL [] k, fun t => memN [] t⟩, 0, fun r => ghL [] r⟩) tt0_ok hPm fun N hN => ?_
              generalize hp : std Try.prog = p
              generalize hv : nvS = nv
              cbv
              subst hp
              subst hv
              replace h := chk_some h; obtain ⟨h130, h⟩ := h
              refine ⟨h130, ?_⟩
              subst hN
              cases h
              show ∃ t', _ ∧ GeSt _ _ _
              refine ⟨⟨t'4_c + 10, gfn [(22, t'4_g 22)], tfn [(22, t'4_t 22)]⟩, Hid.mk_ok (by omega) (And.intro (by have := ht'4_g 22; omega)
                  trivial), ?_⟩
              exact GeSt.of (LeSt.frame (by show (_ : Nat) < _; (try dsimp only [std_eq, stdN]); omega) rfl rfl (And.intro ⟨_, rfl, LeD.refl _⟩
                  (And.intro ⟨_, rfl, LeD.refl _⟩
                  (And.intro ⟨_, rfl, LeD.refl _⟩
                  (And.intro ⟨_, rfl, LeD.refl _⟩
                  (And.intro ⟨_, rfl, LeD.refl _⟩
                  trivial))))) (And.intro ⟨_, rfl, LeOb.refl _⟩
                  trivial))
            · refine Tr.block ?_
              refine Tr.pre (cx := ⟨tt0, ⟨fun f => kOf [] f, fun k _ _ _ => orcL [] k, fun t => memN [] t⟩, 0, fun r => ghL [] r⟩) tt0_ok hPm 1 fun N hN => ?_
              generalize hp : std Try.prog = p
              generalize hv : nvS = nv
              cbv
              subst hp
              subst hv
              replace h := chk_some h; obtain ⟨h131, h⟩ := h
              try (have h131z := h131; simp only [Int.zero_add] at h131z)
              replace h := chk_some h; obtain ⟨h132, h⟩ := h
              refine ⟨h131, (fun hg => hg), (fun hg => hg), h132, (fun hg => hg), (fun hg => hg), (fun hg => hg), ?_⟩
              subst hN
              show Tr _ _ _ _
              refine Tr.seq ?_
              refine Tr.parts (cx := ⟨tt0, ⟨fun f => kOf [] f, fun k _ _ _ => orcL [] k, fun t => memN [] t⟩, 0, fun r => ghL [] r⟩) tt0_ok hPm 18 fun N hN => ?_
              generalize hp : std Try.prog = p
              generalize hv : nvS = nv
              cbv
              subst hp
              subst hv
              replace h := chk_some h; obtain ⟨h133, h⟩ := h
              replace h := chk_some h; obtain ⟨h134, h⟩ := h
              refine ⟨(fun hg => hg), (fun hg => hg), h133, (fun hg => hg), (fun _ => rfl), (fun hg => hg), (fun hg => hg), (fun hg => hg), (fun hg => hg), h134, (fun hg => hg), (fun _ => rfl), (fun hg => hg), (fun hg => hg), (fun hg => hg), ?_⟩
              subst hN
              refine wpEnd.more 18 fun N hN => ?_
              generalize hp : std Try.prog = p
              generalize hv : nvS = nv
              cbv
              subst hp
              subst hv
              replace h := chk_some h; obtain ⟨h135, h⟩ := h
              replace h := chk_some h; obtain ⟨h136, h⟩ := h
              replace h := chk_some h; obtain ⟨h137, h⟩ := h
              replace h := chk_some h; obtain ⟨h138, h⟩ := h
              refine ⟨(fun hg => hg), (fun hg => hg), h135, (fun hg => hg), (fun _ => rfl), (fun hg => hg), (fun hg => hg), h136, (fun hg => hg), (fun hg => hg), (fun hg => hg), (fun hg => hg), h137, (fun hg => hg), (fun _ => rfl), (fun hg => hg), (fun hg => hg), h138, (fun hg => hg), (fun _ => rfl), (fun hg => hg), (fun hg => hg), (fun hg => hg), (fun hg => hg), (fun hg0 => (fun hg => (and_t hg0 (and_t hg0 hg)))), ?_⟩
              subst hN
              refine wpEnd.more 18 fun N hN => ?_
              generalize hp : std Try.prog = p
              generalize hv : nvS = nv
              cbv
              subst hp
              subst hv
              replace h := chk_some h; obtain ⟨h139, h⟩ := h
              replace h := chk_some h; obtain ⟨h140, h⟩ := h
              refine ⟨(fun hg => hg), (fun hg => hg), (fun hg0 => (fun hg => (and_t hg0 (and_t hg0 hg)))), (fun hg => hg), (fun hg => hg), (fun hg0 => (fun hg => (and_t hg0 (and_t hg0 hg)))), (fun hg => hg), (fun hg => hg), (fun hg => hg), (fun hg => hg), h139, (fun hg => hg), (fun hg => hg), (fun hg => hg), (fun hg => hg), (fun hg0 => (fun hg => (and_t hg0 (and_t hg0 hg)))), (fun hg => hg), (fun hg => hg), h140, (fun hg => hg), (fun _ => rfl), ?_⟩
              subst hN
              refine wpEnd.last fun N hN => ?_
              generalize hp : std Try.prog = p
              generalize hv : nvS = nv
              cbv
              subst hp
              subst hv
              replace h := chk_some h; obtain ⟨h141, h⟩ := h
              replace h := chk_some h; obtain ⟨h142, h⟩ := h
              refine ⟨(fun hg => hg), (fun hg => hg), (fun hg => hg), (fun hg0 => (fun hg => (and_t hg0 (and_t hg0 hg)))), (fun hg => hg), (fun hg => hg), (fun hg => hg), h141, (fun hg => hg), (fun hg => hg), (fun hg => hg), (fun hg => hg), h142, (fun hg => hg), (fun _ => rfl), (fun hg => hg), (fun hg => hg), (fun hg => hg), (fun hg => hg), (fun hg0 => (fun hg => (and_t hg0 (and_t hg0 hg)))), (fun hg => hg), ?_⟩
              subst hN
              show Tr _ _ _ _
              refine Tr.chunk (cx := ⟨tt0, ⟨fun f => kOf [] f, fun k _ _ _ => orcL [] k, fun t => memN [] t⟩, 0, fun r => ghL [] r⟩) tt0_ok hPm fun N hN => ?_
              generalize hp : std Try.prog = p
              generalize hv : nvS = nv
              cbv
              subst hp
              subst hv
              refine ⟨fun h143 => ?_, fun h143 => ?_⟩
              · replace h := iteO_t h h143
                subst hN
                cases h
                intro he; cases he
                intro he; cases he
                intro hr
                subst hr
                try dsimp only [noGoto, inBlockQ, thenQ]
                repeat (first | refine (if_pos rfl).mpr ?_ | refine (if_neg (by decide)).mpr ?_)
                refine retQ_ret rfl ?_ ?_
                · exact trivial
                · exact rfl
              · replace h := iteO_f h h143
                subst hN
                cases h
                show ∃ t', _ ∧ GeSt _ _ _
                refine ⟨⟨t'3_c + 12, gfn [(22, t'3_g 22)], tfn [(22, t'3_t 22)]⟩, Hid.mk_ok (by omega) (And.intro (by have := ht'3_g 22; omega)
                    trivial), ?_⟩
                exact GeSt.of (LeSt.frame (by show (_ : Nat) < _; (try dsimp only [std_eq, stdN]); omega) rfl rfl (And.intro ⟨_, rfl, LeD.refl _⟩
                    (And.intro ⟨_, rfl, LeD.refl _⟩
                    (And.intro ⟨_, rfl, LeD.refl _⟩
                    (And.intro ⟨_, rfl, LeD.refl _⟩
                    (And.intro ⟨_, rfl, LeD.refl _⟩
                    trivial))))) (And.intro ⟨_, rfl, LeOb.refl _⟩
                    trivial))
          · replace h := iteO_f h h116
            subst hN
            cases h
            intro he; cases he
            show ∃ t', _ ∧ GeSt _ _ _
            refine ⟨⟨t'3_c + 10, gfn [(22, t'3_g 22)], tfn [(22, t'3_t 22)]⟩, Hid.mk_ok (by omega) (And.intro (by have := ht'3_g 22; omega)
                trivial), ?_⟩
            exact GeSt.of (LeSt.frame (by show (_ : Nat) < _; (try dsimp only [std_eq, stdN]); omega) rfl rfl (And.intro ⟨_, rfl, LeD.refl _⟩
                (And.intro ⟨_, rfl, LeD.refl _⟩
                (And.intro ⟨_, rfl, LeD.refl _⟩
                (And.intro ⟨_, rfl, LeD.refl _⟩
                trivial)))) (And.intro ⟨_, rfl, LeOb.refl _⟩
                trivial))
end Go.Vx
