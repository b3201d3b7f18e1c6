/- Walks, by program (lift.py). -/
import Derived.Test.YtigfggfbpdhmfaaDoorUWalk
import Derived.Test.YtigfggfbpdhmfaaDoorUWalkS
set_option linter.all false
namespace Go.Vx
open Go.Proofs
set_option maxRecDepth 100000
set_option linter.unusedVariables false
set_option linter.unusedSimpArgs false

theorem lapwinglaw20_ShapeJoins_ok (r' : (List Int)) (r : Bool) (h : lapwinglaw20_ShapeJoins r' = some r) : PureFn Tryd.prog 9 [(.sl 1 (nvS.len r') false (fun i j => (.v (.int .i64 (nvS.get 0 r' i)))))] ((.v (.bool r))) := by
  unfold lapwinglaw20_ShapeJoins at h
  refine fn_tr tt0_ok Tryd.func9 (by kernel_rfl) (c := bodyOf Tryd.f9) (by kernel_rfl) ?_
  intro ctr hc
  obtain ⟨v, h1⟩ : ∃ v, valO false (lapwinglaw20_awake) = v := ⟨_, rfl⟩
  obtain ⟨v1, h3⟩ : ∃ v1, valO d_ucd_Data (ucd_Load) = v1 := ⟨_, rfl⟩
  obtain ⟨v2, h4⟩ : ∃ v2, valO [] (shape_Forms v1 r') = v2 := ⟨_, rfl⟩
  refine Tr.pre (cx := ⟨tt0, ⟨fun f => kOf [(28, 1)] f, fun k _ _ _ => orcL [(9, .plain (.v (.bool v))), (14, .plain (.agg 6 (fun j => (D_ucd_Data nvS v1 j)))), (17, .own 1 (nvS.len v2) false (fun i j => (.v (.int .i64 (nvS.get 0 v2 i)))))] k, fun t => memN [] t⟩, 0, fun r => ghL [] r⟩) tt0_ok hPm 6 fun N hN => ?_
  generalize hp : std Tryd.prog = p
  generalize hv : nvS = nv
  cbv
  subst hp
  subst hv
  replace h := bindO_val h1 h; clear h1; obtain ⟨h1, h⟩ := h
  refine ⟨(Or.inl (PureFn.arg (lapwinglaw20_awake_ok  v h1) trivial)), ?_⟩
  refine ⟨fun h2 => ?_, fun h2 => ?_⟩
  · replace h := iteO_t h h2
    subst hN
    have hr := Option.some.inj h
    subst hr
    try dsimp only [noGoto, inBlockQ, thenQ]
    repeat (first | refine (if_pos rfl).mpr ?_ | refine (if_neg (by decide)).mpr ?_)
    refine retQ_ret rfl ?_ ?_
    · exact trivial
    · exact rfl
  · replace h := iteO_f h h2
    replace h := bindO_val h3 h; clear h3; obtain ⟨h3, h⟩ := h
    refine ⟨(Or.inl (PureFn.arg (ucd_Load_ok  v1 h3) trivial)), rfl, ?_⟩
    replace h := bindO_val h4 h; clear h4; obtain ⟨h4, h⟩ := h
    refine ⟨rfl, (Or.inl (PureFn.arg (shape_Forms_ok v1 r' v2 h4) (And.intro (LeD.agg fun j hj => by
          have hj2 : j < 6 := hj
          rcases (show j = 0 ∨ j = 1 ∨ j = 2 ∨ j = 3 ∨ j = 4 ∨ j = 5 by omega) with rfl | rfl | rfl | rfl | rfl | rfl
          · exact LeD.refl _
          · exact LeD.refl _
          · exact LeD.refl _
          · exact LeD.refl _
          · exact LeD.refl _
          · exact LeD.refl _)
        (And.intro (LeD.refl _)
        trivial)))), ?_⟩
    refine ⟨fun h5 => ?_, fun h5 => ?_⟩
    · replace h := iteO_t h h5
      subst hN
      have hr := Option.some.inj h
      subst hr
      try dsimp only [noGoto, inBlockQ, thenQ]
      repeat (first | refine (if_pos rfl).mpr ?_ | refine (if_neg (by decide)).mpr ?_)
      refine retQ_ret rfl ?_ ?_
      · exact trivial
      · exact rfl
    · replace h := iteO_f h h5
      subst hN
      show Tr _ _ _ _
      refine Tr.cutSeq (α := Unit) h (fun _ t' => ⟨frm 84 [(3, .v (.bool v))] 0, frO 84 [] 0, t'.c⟩) (fun _ t => Hid.ok t) (fun x t' ht' h => ?_) (fun f h => ?_)
      · obtain ⟨t'_c, t'_g, t'_t⟩ := t'
        have ht'_c : 0 < t'_c := ht'.1
        have ht'_g : ∀ k, t'_g k < t'_c := ht'.2
        refine Tr.chunk (cx := ⟨tt0, ⟨fun f => kOf [] f, fun k _ _ _ => orcL [] k, fun t => memN [] t⟩, 0, fun r => ghL [] r⟩) tt0_ok hPm fun N hN => ?_
        generalize hp : std Tryd.prog = p
        generalize hv : nvS = nv
        cbv
        subst hp
        subst hv
        subst hN
        have hr := Option.some.inj h
        subst hr
        try dsimp only [noGoto, inBlockQ, thenQ]
        repeat (first | refine (if_pos rfl).mpr ?_ | refine (if_neg (by decide)).mpr ?_)
        refine retQ_ret rfl ?_ ?_
        · exact trivial
        · exact rfl
      · refine Tr.pre (cx := ⟨tt0, ⟨fun f => kOf [] f, fun k _ _ _ => orcL [] k, fun t => memN [] t⟩, 0, fun r => ghL [] r⟩) tt0_ok hPm 1 fun N hN => ?_
        generalize hp : std Tryd.prog = p
        generalize hv : nvS = nv
        cbv
        subst hp
        subst hv
        subst hN
        show Tr _ _ _ _
        refine Tr.block ?_
        refine Tr.loopO (α := Int) (fun i t'1 => ⟨frm 84 [(0, .sl 1 (nvS.len r') false (fun i j => (.v (.int .i64 (nvS.get 0 r' i))))), (3, .v (.bool v)), (4, .bref 4 (t'1.g 4) 0), (5, .vec 17 (t'1.g 17) 1 0 (nvS.len v2)), (6, .v (.int .i64 i))] 0, frO 84 [(4, .box (t'1.g 4) [.sl 3 (nvS.len v1.fClass.fL) false (fun i j => (D_ranges_Row nvS (nvS.get d_ranges_Row v1.fClass.fL i) j)), .sl 3 (nvS.len v1.fWide.fL) false (fun i j => (D_ranges_Row nvS (nvS.get d_ranges_Row v1.fWide.fL i) j)), .sl 3 (nvS.len v1.fJoin.fL) false (fun i j => (D_ranges_Row nvS (nvS.get d_ranges_Row v1.fJoin.fL i) j)), .sl 2 (nvS.len v1.fMirror) false (fun i j => (D_ucd_Pair nvS (nvS.get d_ucd_Pair v1.fMirror i) j)), .sl 2 (nvS.len v1.fBrackets) false (fun i j => (D_ucd_Pair nvS (nvS.get d_ucd_Pair v1.fBrackets i) j)), .sl 3 (nvS.len v1.fForms) false (fun i j => (D_ucd_Form nvS (nvS.get d_ucd_Form v1.fForms i) j))]), (17, .arr (t'1.g 17) 1 (nvS.len v2) (t'1.t 17) (fun i j => (.v (.int .i64 (nvS.get 0 v2 i)))))] 0, t'1.c⟩) (fun _ t => Hid.ok t) ⟨ctr + 16, gfn [(4, ctr + 3), (17, ctr + 4)], tfn [(4, false), (17, false)]⟩ h ?_ ?_ (fun x t'1 f ht'1 h => ?_)
        · exact Hid.mk_ok (by omega) (And.intro (by omega)
              (And.intro (by omega)
              trivial))
        · exact GeSt.of (LeSt.frame (by show (_ : Nat) < _; (try dsimp only [std_eq, stdN]); omega) rfl rfl (And.intro ⟨_, rfl, LeD.refl _⟩
              (And.intro ⟨_, rfl, LeD.refl _⟩
              (And.intro ⟨_, rfl, LeD.refl _⟩
              (And.intro ⟨_, rfl, LeD.refl _⟩
              (And.intro ⟨_, rfl, LeD.refl _⟩
              trivial))))) (And.intro ⟨_, rfl, LeOb.box (And.intro (LeD.refl _)
              (And.intro (LeD.refl _)
              (And.intro (LeD.refl _)
              (And.intro (LeD.refl _)
              (And.intro (LeD.refl _)
              (And.intro (LeD.refl _)
              trivial))))))⟩
              (And.intro ⟨_, rfl, LeOb.refl _⟩
              trivial)))
        · revert h; revert ht'1; revert x; intro i ht'1 h
          obtain ⟨t'1_c, t'1_g, t'1_t⟩ := t'1
          have ht'1_c : 0 < t'1_c := ht'1.1
          have ht'1_g : ∀ k, t'1_g k < t'1_c := ht'1.2
          obtain ⟨v3, h51⟩ : ∃ v3, valO 0 (shape_After v1 r' i) = v3 := ⟨_, rfl⟩
          obtain ⟨v4, h56⟩ : ∃ v4, valO 0 (if (decide (0 ≤ v3)) = true then ucd_Join v1 (getL 0 r' i) else some 0) = v4 := ⟨_, rfl⟩
          refine Tr.chunk (cx := ⟨tt0, ⟨fun f => kOf [] f, fun k _ _ _ => orcL [(32, .plain (.v (.int .i64 v3))), (64, .plain (.v (.int .i64 v4)))] k, fun t => memN [] t⟩, 0, fun r => ghL [] r⟩) tt0_ok hPm fun N hN => ?_
          generalize hp : std Tryd.prog = p
          generalize hv : nvS = nv
          cbv
          subst hp
          subst hv
          refine ⟨fun h50 => ?_, fun h50 => ?_⟩
          · replace h := iteO_t h h50
            replace h := bindO_val h51 h; clear h51; obtain ⟨h51, h⟩ := h
            refine ⟨rfl, (Or.inl (PureFn.arg (shape_After_ok v1 r' i v3 h51) (And.intro (LeD.agg fun j hj => by
                  have hj2 : j < 6 := hj
                  rcases (show j = 0 ∨ j = 1 ∨ j = 2 ∨ j = 3 ∨ j = 4 ∨ j = 5 by omega) with rfl | rfl | rfl | rfl | rfl | rfl
                  · exact LeD.refl _
                  · exact LeD.refl _
                  · exact LeD.refl _
                  · exact LeD.refl _
                  · exact LeD.refl _
                  · exact LeD.refl _)
                (And.intro (LeD.refl _)
                (And.intro (LeD.refl _)
                trivial))))), ?_⟩
            replace h := chk_some h; obtain ⟨h52, h⟩ := h
            replace h := chk_some h; obtain ⟨h53, h⟩ := h
            refine ⟨h52, rfl, (fun hg => hg), (fun hg => hg), h53, (fun hg => hg), (fun _ => rfl), (fun hg => hg), (fun hg => hg), ?_⟩
            refine ⟨(fun hg => hg), (fun hg => hg), (fun hg => hg), (fun hg => hg), (fun hg => hg), ?_⟩
            refine ⟨fun h54 => ?_, fun h54 => ?_⟩
            · replace h := iteO_t h h54
              subst hN
              cases h
              intro he; cases he
              intro hr
              subst hr
              try dsimp only [noGoto, inBlockQ, thenQ]
              repeat (first | refine (if_pos rfl).mpr ?_ | refine (if_neg (by decide)).mpr ?_)
              refine retQ_ret rfl ?_ ?_
              · exact trivial
              · exact rfl
            · replace h := iteO_f h h54
              replace h := chk_some h; obtain ⟨h55, h⟩ := h
              replace h := bindO_val h56 h; clear h56; obtain ⟨h56, h⟩ := h
              replace h := chk_some h; obtain ⟨h57, h⟩ := h
              replace h := chk_some h; obtain ⟨h58, h⟩ := h
              refine ⟨(fun _ => rfl), (fun hg => hg), (fun hg => hg), h55, (fun hg => hg), (fun hg => hg), (fun hg => hg), (fun hg => by have h56 := guardO h56 hg; have h55 := h55 hg; exact (Or.inl (PureFn.arg (ucd_Join_ok v1 (getL 0 r' i) v4 h56) (And.intro (LeD.agg fun j hj => by
                    have hj2 : j < 6 := hj
                    rcases (show j = 0 ∨ j = 1 ∨ j = 2 ∨ j = 3 ∨ j = 4 ∨ j = 5 by omega) with rfl | rfl | rfl | rfl | rfl | rfl
                    · exact LeD.refl _
                    · exact LeD.refl _
                    · exact LeD.refl _
                    · exact LeD.refl _
                    · exact LeD.refl _
                    · exact LeD.refl _)
                  (And.intro (LeD.refl _)
                  trivial))))), (fun hg => hg), (fun hg => hg), (fun hg => hg), (fun hg => hg), h57, (fun hg => hg), (fun _ => rfl), (fun hg => hg), (fun hg => hg), (fun hg => hg), h58, (fun hg => hg), (fun _ => rfl), (fun hg => hg), (fun hg => hg), (fun hg => hg), (fun hg0 => (fun hg => (and_t hg0 (and_t hg0 hg)))), (fun hg => hg), (fun hg => hg), (fun hg => hg), (show drOk _ _ = true by kernel_rfl), ?_⟩
              refine ⟨fun h59 => ?_, fun h59 => ?_⟩
              · replace h := iteO_t h h59
                subst hN
                cases h
                intro he; cases he
                intro hr
                subst hr
                try dsimp only [noGoto, inBlockQ, thenQ]
                repeat (first | refine (if_pos rfl).mpr ?_ | refine (if_neg (by decide)).mpr ?_)
                refine retQ_ret rfl ?_ ?_
                · exact trivial
                · exact rfl
              · replace h := iteO_f h h59
                replace h := chk_some h; obtain ⟨h60, h⟩ := h
                refine ⟨h60, ?_⟩
                subst hN
                cases h
                show ∃ t', _ ∧ GeSt _ _ _
                refine ⟨⟨t'1_c + 15, gfn [(4, t'1_g 4), (17, t'1_g 17)], tfn [(4, false), (17, t'1_t 17)]⟩, Hid.mk_ok (by omega) (And.intro (by have := ht'1_g 4; omega)
                    (And.intro (by have := ht'1_g 17; omega)
                    trivial)), ?_⟩
                exact GeSt.of (LeSt.frame (by show (_ : Nat) < _; (try dsimp only [std_eq, stdN]); omega) rfl rfl (And.intro ⟨_, rfl, LeD.refl _⟩
                    (And.intro ⟨_, rfl, LeD.refl _⟩
                    (And.intro ⟨_, rfl, LeD.refl _⟩
                    (And.intro ⟨_, rfl, LeD.refl _⟩
                    (And.intro ⟨_, rfl, LeD.refl _⟩
                    trivial))))) (And.intro ⟨_, rfl, LeOb.box (And.intro (LeD.refl _)
                    (And.intro (LeD.refl _)
                    (And.intro (LeD.refl _)
                    (And.intro (LeD.refl _)
                    (And.intro (LeD.refl _)
                    (And.intro (LeD.refl _)
                    trivial))))))⟩
                    (And.intro ⟨_, rfl, LeOb.refl _⟩
                    trivial)))
          · replace h := iteO_f h h50
            subst hN
            cases h
            intro he; cases he
            show ∃ t', _ ∧ GeSt _ _ _
            refine ⟨⟨t'1_c + 10, gfn [], tfn []⟩, Hid.mk_ok (by omega) trivial, ?_⟩
            exact GeSt.of (LeSt.frame (by show (_ : Nat) < _; (try dsimp only [std_eq, stdN]); omega) rfl rfl (And.intro ⟨_, rfl, LeD.refl _⟩
                trivial) trivial)

theorem lapwinglaw20_ShapeKeeps_ok (r' : (List Int)) (levels : (List Int)) (boxes : Bool) (r : Bool) (h : lapwinglaw20_ShapeKeeps r' levels boxes = some r) : PureFn Tryd.prog 10 [(.sl 1 (nvS.len r') false (fun i j => (.v (.int .i64 (nvS.get 0 r' i))))), (.sl 1 (nvS.len levels) false (fun i j => (.v (.int .i64 (nvS.get 0 levels i))))), (.v (.bool boxes))] ((.v (.bool r))) := by
  unfold lapwinglaw20_ShapeKeeps at h
  refine fn_tr tt0_ok Tryd.func10 (by kernel_rfl) (c := bodyOf Tryd.f10) (by kernel_rfl) ?_
  intro ctr hc
  obtain ⟨v, h1⟩ : ∃ v, valO false (lapwinglaw20_awake) = v := ⟨_, rfl⟩
  obtain ⟨v1, h3⟩ : ∃ v1, valO d_ucd_Data (ucd_Load) = v1 := ⟨_, rfl⟩
  obtain ⟨v2, h4⟩ : ∃ v2, valO [] (shape_Glyphs v1 r' levels boxes) = v2 := ⟨_, rfl⟩
  refine Tr.pre (cx := ⟨tt0, ⟨fun f => kOf [(30, 1)] f, fun k _ _ _ => orcL [(13, .plain (.v (.bool v))), (25, .plain (.agg 6 (fun j => (D_ucd_Data nvS v1 j)))), (30, .own 1 (nvS.len v2) false (fun i j => (.v (.int .i64 (nvS.get 0 v2 i)))))] k, fun t => memN [] t⟩, 0, fun r => ghL [] r⟩) tt0_ok hPm 6 fun N hN => ?_
  generalize hp : std Tryd.prog = p
  generalize hv : nvS = nv
  cbv
  subst hp
  subst hv
  replace h := bindO_val h1 h; clear h1; obtain ⟨h1, h⟩ := h
  refine ⟨(Or.inl (PureFn.arg (lapwinglaw20_awake_ok  v h1) trivial)), ?_⟩
  refine ⟨(fun hg => hg), (fun hg => hg), (fun hg => hg), (fun hg => hg), (fun hg => hg), ?_⟩
  refine ⟨fun h2 => ?_, fun h2 => ?_⟩
  · replace h := iteO_t h h2
    subst hN
    have hr := Option.some.inj h
    subst hr
    try dsimp only [noGoto, inBlockQ, thenQ]
    repeat (first | refine (if_pos rfl).mpr ?_ | refine (if_neg (by decide)).mpr ?_)
    refine retQ_ret rfl ?_ ?_
    · exact trivial
    · exact rfl
  · replace h := iteO_f h h2
    replace h := bindO_val h3 h; clear h3; obtain ⟨h3, h⟩ := h
    refine ⟨(Or.inl (PureFn.arg (ucd_Load_ok  v1 h3) trivial)), rfl, ?_⟩
    replace h := bindO_val h4 h; clear h4; obtain ⟨h4, h⟩ := h
    refine ⟨rfl, (Or.inl (PureFn.arg (shape_Glyphs_ok v1 r' levels boxes v2 h4) (And.intro (LeD.agg fun j hj => by
          have hj2 : j < 6 := hj
          rcases (show j = 0 ∨ j = 1 ∨ j = 2 ∨ j = 3 ∨ j = 4 ∨ j = 5 by omega) with rfl | rfl | rfl | rfl | rfl | rfl
          · exact LeD.refl _
          · exact LeD.refl _
          · exact LeD.refl _
          · exact LeD.refl _
          · exact LeD.refl _
          · exact LeD.refl _)
        (And.intro (LeD.refl _)
        (And.intro (LeD.refl _)
        (And.intro (LeD.refl _)
        trivial)))))), ?_⟩
    refine ⟨fun h5 => ?_, fun h5 => ?_⟩
    · replace h := iteO_t h h5
      subst hN
      have hr := Option.some.inj h
      subst hr
      try dsimp only [noGoto, inBlockQ, thenQ]
      repeat (first | refine (if_pos rfl).mpr ?_ | refine (if_neg (by decide)).mpr ?_)
      refine retQ_ret rfl ?_ ?_
      · exact trivial
      · exact rfl
    · replace h := iteO_f h h5
      subst hN
      show Tr _ _ _ _
      refine Tr.cutSeq (α := Unit) h (fun _ t' => ⟨frm 142 [(7, .v (.bool v))] 0, frO 142 [] 0, t'.c⟩) (fun _ t => Hid.ok t) (fun x t' ht' h => ?_) (fun f h => ?_)
      · obtain ⟨t'_c, t'_g, t'_t⟩ := t'
        have ht'_c : 0 < t'_c := ht'.1
        have ht'_g : ∀ k, t'_g k < t'_c := ht'.2
        refine Tr.chunk (cx := ⟨tt0, ⟨fun f => kOf [] f, fun k _ _ _ => orcL [] k, fun t => memN [] t⟩, 0, fun r => ghL [] r⟩) tt0_ok hPm fun N hN => ?_
        generalize hp : std Tryd.prog = p
        generalize hv : nvS = nv
        cbv
        subst hp
        subst hv
        subst hN
        have hr := Option.some.inj h
        subst hr
        try dsimp only [noGoto, inBlockQ, thenQ]
        repeat (first | refine (if_pos rfl).mpr ?_ | refine (if_neg (by decide)).mpr ?_)
        refine retQ_ret rfl ?_ ?_
        · exact trivial
        · exact rfl
      · refine Tr.pre (cx := ⟨tt0, ⟨fun f => kOf [] f, fun k _ _ _ => orcL [] k, fun t => memN [] t⟩, 0, fun r => ghL [] r⟩) tt0_ok hPm 1 fun N hN => ?_
        generalize hp : std Tryd.prog = p
        generalize hv : nvS = nv
        cbv
        subst hp
        subst hv
        subst hN
        show Tr _ _ _ _
        refine Tr.block ?_
        refine Tr.loopO (α := Int) (fun i t'1 => ⟨frm 142 [(0, .sl 1 (nvS.len r') false (fun i j => (.v (.int .i64 (nvS.get 0 r' i))))), (1, .sl 1 (nvS.len levels) false (fun i j => (.v (.int .i64 (nvS.get 0 levels i))))), (7, .v (.bool v)), (8, .bref 8 (t'1.g 8) 0), (9, .vec 30 (t'1.g 30) 1 0 (nvS.len v2)), (10, .v (.int .i64 i))] 0, frO 142 [(8, .box (t'1.g 8) [.sl 3 (nvS.len v1.fClass.fL) false (fun i j => (D_ranges_Row nvS (nvS.get d_ranges_Row v1.fClass.fL i) j)), .sl 3 (nvS.len v1.fWide.fL) false (fun i j => (D_ranges_Row nvS (nvS.get d_ranges_Row v1.fWide.fL i) j)), .sl 3 (nvS.len v1.fJoin.fL) false (fun i j => (D_ranges_Row nvS (nvS.get d_ranges_Row v1.fJoin.fL i) j)), .sl 2 (nvS.len v1.fMirror) false (fun i j => (D_ucd_Pair nvS (nvS.get d_ucd_Pair v1.fMirror i) j)), .sl 2 (nvS.len v1.fBrackets) false (fun i j => (D_ucd_Pair nvS (nvS.get d_ucd_Pair v1.fBrackets i) j)), .sl 3 (nvS.len v1.fForms) false (fun i j => (D_ucd_Form nvS (nvS.get d_ucd_Form v1.fForms i) j))]), (30, .arr (t'1.g 30) 1 (nvS.len v2) (t'1.t 30) (fun i j => (.v (.int .i64 (nvS.get 0 v2 i)))))] 0, t'1.c⟩) (fun _ t => Hid.ok t) ⟨ctr + 16, gfn [(8, ctr + 3), (30, ctr + 4)], tfn [(8, false), (30, false)]⟩ h ?_ ?_ (fun x t'1 f ht'1 h => ?_)
        · exact Hid.mk_ok (by omega) (And.intro (by omega)
              (And.intro (by omega)
              trivial))
        · exact GeSt.of (LeSt.frame (by show (_ : Nat) < _; (try dsimp only [std_eq, stdN]); omega) rfl rfl (And.intro ⟨_, rfl, LeD.refl _⟩
              (And.intro ⟨_, rfl, LeD.refl _⟩
              (And.intro ⟨_, rfl, LeD.refl _⟩
              (And.intro ⟨_, rfl, LeD.refl _⟩
              (And.intro ⟨_, rfl, LeD.refl _⟩
              (And.intro ⟨_, rfl, LeD.refl _⟩
              trivial)))))) (And.intro ⟨_, rfl, LeOb.box (And.intro (LeD.refl _)
              (And.intro (LeD.refl _)
              (And.intro (LeD.refl _)
              (And.intro (LeD.refl _)
              (And.intro (LeD.refl _)
              (And.intro (LeD.refl _)
              trivial))))))⟩
              (And.intro ⟨_, rfl, LeOb.refl _⟩
              trivial)))
        · revert h; revert ht'1; revert x; intro i ht'1 h
          obtain ⟨t'1_c, t'1_g, t'1_t⟩ := t'1
          have ht'1_c : 0 < t'1_c := ht'1.1
          have ht'1_g : ∀ k, t'1_g k < t'1_c := ht'1.2
          obtain ⟨v3, h104⟩ : ∃ v3, valO 0 (ucd_Join v1 (getL 0 r' i)) = v3 := ⟨_, rfl⟩
          obtain ⟨v4, h106⟩ : ∃ v4, valO 0 (if (v3 == 0) = true then ucd_Shape v1 (getL 0 r' i) 0 else some 0) = v4 := ⟨_, rfl⟩
          obtain ⟨v5, h111⟩ : ∃ v5, valO 0 (if ((if (if (v3 == 0) = true then (v4 == (getL 0 r' i)) else false) = true then (!((getL 0 r' i) == 0)) else false) && ((if (if (v3 == 0) = true then (v4 == (getL 0 r' i)) else false) = true then (!((getL 0 r' i) == 0)) else false) && (!((bndI .i64 (getL 0 levels i) 1) == 0)))) = true then ucd_Mirror v1 (getL 0 r' i) else some 0) = v5 := ⟨_, rfl⟩
          obtain ⟨v6, h119⟩ : ∃ v6, valO 0 (shape_Before v1 r' i) = v6 := ⟨_, rfl⟩
          refine Tr.chunk (cx := ⟨tt0, ⟨fun f => kOf [] f, fun k _ _ _ => orcL [(47, .plain (.v (.int .i64 v3))), (55, .plain (.v (.int .i64 v4))), (83, .plain (.v (.int .i64 v5))), (117, .plain (.v (.int .i64 v6)))] k, fun t => memN [] t⟩, 0, fun r => ghL [] r⟩) tt0_ok hPm fun N hN => ?_
          generalize hp : std Tryd.prog = p
          generalize hv : nvS = nv
          cbv
          subst hp
          subst hv
          refine ⟨fun h102 => ?_, fun h102 => ?_⟩
          · replace h := iteO_t h h102
            replace h := chk_some h; obtain ⟨h103, h⟩ := h
            replace h := bindO_val h104 h; clear h104; obtain ⟨h104, h⟩ := h
            replace h := chk_some h; obtain ⟨h105, h⟩ := h
            replace h := bindO_val h106 h; clear h106; obtain ⟨h106, h⟩ := h
            replace h := chk_some h; obtain ⟨h107, h⟩ := h
            replace h := chk_some h; obtain ⟨h108, h⟩ := h
            refine ⟨rfl, h103, (Or.inl (PureFn.arg (ucd_Join_ok v1 (getL 0 r' i) v3 h104) (And.intro (LeD.agg fun j hj => by
                  have hj2 : j < 6 := hj
                  rcases (show j = 0 ∨ j = 1 ∨ j = 2 ∨ j = 3 ∨ j = 4 ∨ j = 5 by omega) with rfl | rfl | rfl | rfl | rfl | rfl
                  · exact LeD.refl _
                  · exact LeD.refl _
                  · exact LeD.refl _
                  · exact LeD.refl _
                  · exact LeD.refl _
                  · exact LeD.refl _)
                (And.intro (LeD.refl _)
                trivial)))), (fun _ => rfl), (fun hg => hg), (fun hg => hg), h105, (fun hg => hg), (fun hg => hg), (fun hg => hg), (fun hg => by have h106 := guardO h106 hg; have h105 := h105 hg; exact (Or.inl (PureFn.arg (ucd_Shape_ok v1 (getL 0 r' i) 0 v4 h106) (And.intro (LeD.agg fun j hj => by
                  have hj2 : j < 6 := hj
                  rcases (show j = 0 ∨ j = 1 ∨ j = 2 ∨ j = 3 ∨ j = 4 ∨ j = 5 by omega) with rfl | rfl | rfl | rfl | rfl | rfl
                  · exact LeD.refl _
                  · exact LeD.refl _
                  · exact LeD.refl _
                  · exact LeD.refl _
                  · exact LeD.refl _
                  · exact LeD.refl _)
                (And.intro (LeD.refl _)
                (And.intro (LeD.refl _)
                trivial)))))), (fun hg => hg), (fun hg => hg), h107, (fun hg => hg), (fun hg => hg), (fun hg => hg), (fun hg => hg), (fun hg => hg), (fun hg => hg), h108, (fun hg => hg), (fun hg => hg), (fun hg => hg), (show drOk _ _ = true by kernel_rfl), ?_⟩
            replace h := chk_some h; obtain ⟨h109, h⟩ := h
            replace h := chk_some h; obtain ⟨h110, h⟩ := h
            replace h := bindO_val h111 h; clear h111; obtain ⟨h111, h⟩ := h
            replace h := chk_some h; obtain ⟨h112, h⟩ := h
            replace h := chk_some h; obtain ⟨h113, h⟩ := h
            replace h := chk_some h; obtain ⟨h114, h⟩ := h
            refine ⟨(fun hg => hg), (fun hg => hg), h109, (fun hg => hg), (fun hg => hg), (fun hg => hg), (fun _ => rfl), (fun hg => hg), (fun hg => hg), h110, (fun hg => hg), (fun hg => hg), (fun hg => hg), (fun hg => by have h111 := guardO h111 hg; have h110 := h110 hg; exact (Or.inl (PureFn.arg (ucd_Mirror_ok v1 (getL 0 r' i) v5 h111) (And.intro (LeD.agg fun j hj => by
                  have hj2 : j < 6 := hj
                  rcases (show j = 0 ∨ j = 1 ∨ j = 2 ∨ j = 3 ∨ j = 4 ∨ j = 5 by omega) with rfl | rfl | rfl | rfl | rfl | rfl
                  · exact LeD.refl _
                  · exact LeD.refl _
                  · exact LeD.refl _
                  · exact LeD.refl _
                  · exact LeD.refl _
                  · exact LeD.refl _)
                (And.intro (LeD.refl _)
                trivial))))), (fun hg => hg), (fun hg => hg), h112, (fun hg => hg), (fun hg => hg), (fun hg => hg), (fun hg => hg), (fun hg => hg), (fun hg0 => (fun hg => (and_t hg0 (and_t hg0 hg)))), (fun hg => hg), (fun hg => hg), (fun hg => hg), h113, (fun hg => hg), (fun _ => rfl), (fun hg => hg), (fun hg => hg), h114, (fun hg => hg), (fun hg => hg), (fun hg => hg), (fun hg => hg), (show drOk _ _ = true by kernel_rfl), ?_⟩
            refine ⟨fun h115 => ?_, fun h115 => ?_⟩
            · replace h := iteO_t h h115
              subst hN
              cases h
              intro he; cases he
              intro hr
              subst hr
              try dsimp only [noGoto, inBlockQ, thenQ]
              repeat (first | refine (if_pos rfl).mpr ?_ | refine (if_neg (by decide)).mpr ?_)
              refine retQ_ret rfl ?_ ?_
              · exact trivial
              · exact rfl
            · replace h := iteO_f h h115
              replace h := chk_some h; obtain ⟨h116, h⟩ := h
              replace h := chk_some h; obtain ⟨h117, h⟩ := h
              refine ⟨h116, rfl, (fun hg => hg), (fun hg => hg), h117, (fun hg => hg), (fun hg => hg), (fun hg => hg), ?_⟩
              refine ⟨fun h118 => ?_, fun h118 => ?_⟩
              · replace h := iteO_t h h118
                replace h := bindO_val h119 h; clear h119; obtain ⟨h119, h⟩ := h
                refine ⟨rfl, (Or.inl (PureFn.arg (shape_Before_ok v1 r' i v6 h119) (And.intro (LeD.agg fun j hj => by
                      have hj2 : j < 6 := hj
                      rcases (show j = 0 ∨ j = 1 ∨ j = 2 ∨ j = 3 ∨ j = 4 ∨ j = 5 by omega) with rfl | rfl | rfl | rfl | rfl | rfl
                      · exact LeD.refl _
                      · exact LeD.refl _
                      · exact LeD.refl _
                      · exact LeD.refl _
                      · exact LeD.refl _
                      · exact LeD.refl _)
                    (And.intro (LeD.refl _)
                    (And.intro (LeD.refl _)
                    trivial))))), ?_⟩
                replace h := chk_some h; obtain ⟨h120, h⟩ := h
                replace h := chk_some h; obtain ⟨h121, h⟩ := h
                replace h := chk_some h; obtain ⟨h122, h⟩ := h
                refine ⟨(fun hg => hg), (fun hg => hg), h120, (fun hg => hg), (fun hg => hg), (fun hg => hg), (fun hg => hg), (fun hg => hg), h121, (fun hg => hg), (fun _ => rfl), (fun hg => hg), (fun hg => hg), (fun hg => hg), (fun hg => hg), h122, (fun hg => hg), (fun _ => rfl), (fun hg => hg), (fun hg => hg), ?_⟩
                refine ⟨fun h123 => ?_, fun h123 => ?_⟩
                · replace h := iteO_t h h123
                  subst hN
                  cases h
                  intro he; cases he
                  intro hr
                  subst hr
                  try dsimp only [noGoto, inBlockQ, thenQ]
                  repeat (first | refine (if_pos rfl).mpr ?_ | refine (if_neg (by decide)).mpr ?_)
                  refine retQ_ret rfl ?_ ?_
                  · exact trivial
                  · exact rfl
                · replace h := iteO_f h h123
                  replace h := chk_some h; obtain ⟨h124, h⟩ := h
                  refine ⟨h124, ?_⟩
                  subst hN
                  cases h
                  show ∃ t', _ ∧ GeSt _ _ _
                  refine ⟨⟨t'1_c + 16, gfn [(8, t'1_g 8), (30, t'1_g 30)], tfn [(8, false), (30, t'1_t 30)]⟩, Hid.mk_ok (by omega) (And.intro (by have := ht'1_g 8; omega)
                      (And.intro (by have := ht'1_g 30; omega)
                      trivial)), ?_⟩
                  exact GeSt.of (LeSt.frame (by show (_ : Nat) < _; (try dsimp only [std_eq, stdN]); omega) rfl rfl (And.intro ⟨_, rfl, LeD.refl _⟩
                      (And.intro ⟨_, rfl, LeD.refl _⟩
                      (And.intro ⟨_, rfl, LeD.refl _⟩
                      (And.intro ⟨_, rfl, LeD.refl _⟩
                      (And.intro ⟨_, rfl, LeD.refl _⟩
                      (And.intro ⟨_, rfl, LeD.refl _⟩
                      trivial)))))) (And.intro ⟨_, rfl, LeOb.box (And.intro (LeD.refl _)
                      (And.intro (LeD.refl _)
                      (And.intro (LeD.refl _)
                      (And.intro (LeD.refl _)
                      (And.intro (LeD.refl _)
                      (And.intro (LeD.refl _)
                      trivial))))))⟩
                      (And.intro ⟨_, rfl, LeOb.refl _⟩
                      trivial)))
              · replace h := iteO_f h h118
                replace h := chk_some h; obtain ⟨h125, h⟩ := h
                refine ⟨h125, ?_⟩
                subst hN
                cases h
                show ∃ t', _ ∧ GeSt _ _ _
                refine ⟨⟨t'1_c + 14, gfn [(8, t'1_g 8), (30, t'1_g 30)], tfn [(8, false), (30, t'1_t 30)]⟩, Hid.mk_ok (by omega) (And.intro (by have := ht'1_g 8; omega)
                    (And.intro (by have := ht'1_g 30; omega)
                    trivial)), ?_⟩
                exact GeSt.of (LeSt.frame (by show (_ : Nat) < _; (try dsimp only [std_eq, stdN]); omega) rfl rfl (And.intro ⟨_, rfl, LeD.refl _⟩
                    (And.intro ⟨_, rfl, LeD.refl _⟩
                    (And.intro ⟨_, rfl, LeD.refl _⟩
                    (And.intro ⟨_, rfl, LeD.refl _⟩
                    (And.intro ⟨_, rfl, LeD.refl _⟩
                    (And.intro ⟨_, rfl, LeD.refl _⟩
                    trivial)))))) (And.intro ⟨_, rfl, LeOb.box (And.intro (LeD.refl _)
                    (And.intro (LeD.refl _)
                    (And.intro (LeD.refl _)
                    (And.intro (LeD.refl _)
                    (And.intro (LeD.refl _)
                    (And.intro (LeD.refl _)
                    trivial))))))⟩
                    (And.intro ⟨_, rfl, LeOb.refl _⟩
                    trivial)))
          · replace h := iteO_f h h102
            subst hN
            cases h
            intro he; cases he
            show ∃ t', _ ∧ GeSt _ _ _
            refine ⟨⟨t'1_c + 10, gfn [], tfn []⟩, Hid.mk_ok (by omega) trivial, ?_⟩
            exact GeSt.of (LeSt.frame (by show (_ : Nat) < _; (try dsimp only [std_eq, stdN]); omega) rfl rfl (And.intro ⟨_, rfl, LeD.refl _⟩
                trivial) trivial)

theorem lapwinglaw20_ShapeMirrors_ok (r' : Int) (level : Int) (boxes : Bool) (r : Bool) (h : lapwinglaw20_ShapeMirrors r' level boxes = some r) : PureFn Tryd.prog 11 [(.v (.int .i64 r')), (.v (.int .i64 level)), (.v (.bool boxes))] ((.v (.bool r))) := by
  unfold lapwinglaw20_ShapeMirrors at h
  refine fn_tr tt0_ok Tryd.func11 (by kernel_rfl) (c := bodyOf Tryd.f11) (by kernel_rfl) ?_
  intro ctr hc
  obtain ⟨v, h1⟩ : ∃ v, valO false (lapwinglaw20_awake) = v := ⟨_, rfl⟩
  obtain ⟨v1, h2⟩ : ∃ v1, valO d_ucd_Data (ucd_Load) = v1 := ⟨_, rfl⟩
  obtain ⟨v2, h3⟩ : ∃ v2, valO 0 (shape_Mirror v1 r' level boxes) = v2 := ⟨_, rfl⟩
  obtain ⟨v3, h4⟩ : ∃ v3, valO 0 (if v = true then shape_Mirror v1 v2 level boxes else some 0) = v3 := ⟨_, rfl⟩
  refine Tr.chunk (cx := ⟨tt0, ⟨fun f => kOf [] f, fun k _ _ _ => orcL [(11, .plain (.v (.bool v))), (12, .plain (.agg 6 (fun j => (D_ucd_Data nvS v1 j)))), (17, .plain (.v (.int .i64 v2))), (30, .plain (.v (.int .i64 v3)))] k, fun t => memN [] t⟩, 0, fun r => ghL [] r⟩) tt0_ok hPm fun N hN => ?_
  generalize hp : std Tryd.prog = p
  generalize hv : nvS = nv
  cbv
  subst hp
  subst hv
  replace h := bindO_val h1 h; clear h1; obtain ⟨h1, h⟩ := h
  refine ⟨(Or.inl (PureFn.arg (lapwinglaw20_awake_ok  v h1) trivial)), ?_⟩
  replace h := bindO_val h2 h; clear h2; obtain ⟨h2, h⟩ := h
  refine ⟨(Or.inl (PureFn.arg (ucd_Load_ok  v1 h2) trivial)), rfl, ?_⟩
  replace h := bindO_val h3 h; clear h3; obtain ⟨h3, h⟩ := h
  refine ⟨rfl, (Or.inl (PureFn.arg (shape_Mirror_ok v1 r' level boxes v2 h3) (And.intro (LeD.agg fun j hj => by
        have hj2 : j < 6 := hj
        rcases (show j = 0 ∨ j = 1 ∨ j = 2 ∨ j = 3 ∨ j = 4 ∨ j = 5 by omega) with rfl | rfl | rfl | rfl | rfl | rfl
        · exact LeD.refl _
        · exact LeD.refl _
        · exact LeD.refl _
        · exact LeD.refl _
        · exact LeD.refl _
        · exact LeD.refl _)
      (And.intro (LeD.refl _)
      (And.intro (LeD.refl _)
      (And.intro (LeD.refl _)
      trivial)))))), ?_⟩
  refine ⟨(fun hg => hg), (fun hg => hg), ?_⟩
  replace h := bindO_val h4 h; clear h4; obtain ⟨h4, h⟩ := h
  refine ⟨(fun _ => rfl), (fun hg => hg), (fun hg => hg), (fun hg => hg), (fun hg => hg), (fun hg => by have h4 := guardO h4 hg; exact (Or.inl (PureFn.arg (shape_Mirror_ok v1 v2 level boxes v3 h4) (And.intro (LeD.agg fun j hj => by
        have hj2 : j < 6 := hj
        rcases (show j = 0 ∨ j = 1 ∨ j = 2 ∨ j = 3 ∨ j = 4 ∨ j = 5 by omega) with rfl | rfl | rfl | rfl | rfl | rfl
        · exact LeD.refl _
        · exact LeD.refl _
        · exact LeD.refl _
        · exact LeD.refl _
        · exact LeD.refl _
        · exact LeD.refl _)
      (And.intro (LeD.refl _)
      (And.intro (LeD.refl _)
      (And.intro (LeD.refl _)
      trivial))))))), (fun hg => hg), (fun hg => hg), (fun hg => hg), (fun hg => hg), (fun hg => hg), (fun hg => hg), (fun hg => hg), (fun hg => hg), (fun hg => hg), (fun hg0 => (fun hg => (and_t hg0 (and_t hg0 hg)))), (fun hg => hg), (fun hg => hg), (fun hg => hg), (fun hg => hg), (fun hg0 => (fun hg => (and_t hg0 (and_t hg0 hg)))), (fun hg => hg), (fun hg => hg), (fun hg => hg), (fun hg => hg), (fun hg0 => (fun hg => (and_t hg0 (and_t hg0 hg)))), (fun hg => hg), ?_⟩
  subst hN
  have hr := Option.some.inj h
  subst hr
  try dsimp only [noGoto, inBlockQ, thenQ]
  repeat (first | refine (if_pos rfl).mpr ?_ | refine (if_neg (by decide)).mpr ?_)
  refine retQ_ret rfl ?_ ?_
  · exact trivial
  · exact rfl
end Go.Vx
