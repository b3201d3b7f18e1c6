/- Walks, by program (lift.py). -/
import Derived.Test.YtigfggfbpdhmfaaDoorUWalk
import Derived.Test.YtigfggfbpdhmfaaDoorUWalkO
import Derived.Test.YtigfggfbpdhmfaaDoorUWalkSd
set_option linter.all false
namespace Go.Vx
open Go.Proofs
set_option maxRecDepth 100000
set_option linter.unusedVariables false
set_option linter.unusedSimpArgs false

theorem shape_Before_ok (d' : T_ucd_Data) (r' : (List Int)) (at' : Int) (r : Int) (h : shape_Before d' r' at' = some r) : PureFn Tryd.prog 31 [(.agg 6 (fun j => (D_ucd_Data nvS d' j))), (.sl 1 (nvS.len r') false (fun i j => (.v (.int .i64 (nvS.get 0 r' i))))), (.v (.int .i64 at'))] ((.v (.int .i64 r))) := by
  unfold shape_Before at h
  refine fn_tr tt0_ok Tryd.func31 (by kernel_rfl) (c := bodyOf Tryd.f31) (by kernel_rfl) ?_
  intro ctr hc
  refine Tr.pre (cx := ⟨tt0, ⟨fun f => kOf [] f, fun k _ _ _ => orcL [] k, fun t => memN [] t⟩, 0, fun r => ghL [] r⟩) tt0_ok hPm 2 fun N hN => ?_
  generalize hp : std Tryd.prog = p
  generalize hv : nvS = nv
  cbv
  subst hp
  subst hv
  refine ⟨(fun hg => hg), (fun hg => hg), (fun hg => hg), (fun hg => hg), ?_⟩
  refine ⟨fun h1 => ?_, fun h1 => ?_⟩
  · replace h := iteO_t h h1
    subst hN
    have hr := Option.some.inj h
    subst hr
    try dsimp only [noGoto, inBlockQ, thenQ]
    repeat (first | refine (if_pos rfl).mpr ?_ | refine (if_neg (by decide)).mpr ?_)
    refine retQ_ret rfl ?_ ?_
    · exact trivial
    · exact rfl
  · replace h := iteO_f h h1
    subst hN
    show Tr _ _ _ _
    refine Tr.cutSeq (α := Unit) h (fun _ t' => ⟨frm 30 [] 0, frO 30 [] 0, t'.c⟩) (fun _ t => Hid.ok t) (fun x t' ht' h => ?_) (fun f h => ?_)
    · obtain ⟨t'_c, t'_g, t'_t⟩ := t'
      have ht'_c : 0 < t'_c := ht'.1
      have ht'_g : ∀ k, t'_g k < t'_c := ht'.2
      refine Tr.chunk (cx := ⟨tt0, ⟨fun f => kOf [] f, fun k _ _ _ => orcL [] k, fun t => memN [] t⟩, 0, fun r => ghL [] r⟩) tt0_ok hPm fun N hN => ?_
      generalize hp : std Tryd.prog = p
      generalize hv : nvS = nv
      cbv
      subst hp
      subst hv
      subst hN
      have hr := Option.some.inj h
      subst hr
      try dsimp only [noGoto, inBlockQ, thenQ]
      repeat (first | refine (if_pos rfl).mpr ?_ | refine (if_neg (by decide)).mpr ?_)
      refine retQ_ret rfl ?_ ?_
      · exact trivial
      · exact rfl
    · refine Tr.pre (cx := ⟨tt0, ⟨fun f => kOf [] f, fun k _ _ _ => orcL [] k, fun t => memN [] t⟩, 0, fun r => ghL [] r⟩) tt0_ok hPm 1 fun N hN => ?_
      generalize hp : std Tryd.prog = p
      generalize hv : nvS = nv
      cbv
      subst hp
      subst hv
      replace h := chk_some h; obtain ⟨h13, h⟩ := h
      refine ⟨h13, ?_⟩
      subst hN
      show Tr _ _ _ _
      refine Tr.block ?_
      refine Tr.loopO (α := Int) (fun i1 t'1 => ⟨frm 30 [(1, .sl 1 (nvS.len r') false (fun i j => (.v (.int .i64 (nvS.get 0 r' i))))), (3, .bref 3 (t'1.g 3) 0), (7, .v (.int .i64 i1))] 0, frO 30 [(3, .box (t'1.g 3) [.sl 3 (nvS.len d'.fClass.fL) false (fun i j => (D_ranges_Row nvS (nvS.get d_ranges_Row d'.fClass.fL i) j)), .sl 3 (nvS.len d'.fWide.fL) false (fun i j => (D_ranges_Row nvS (nvS.get d_ranges_Row d'.fWide.fL i) j)), .sl 3 (nvS.len d'.fJoin.fL) false (fun i j => (D_ranges_Row nvS (nvS.get d_ranges_Row d'.fJoin.fL i) j)), .sl 2 (nvS.len d'.fMirror) false (fun i j => (D_ucd_Pair nvS (nvS.get d_ucd_Pair d'.fMirror i) j)), .sl 2 (nvS.len d'.fBrackets) false (fun i j => (D_ucd_Pair nvS (nvS.get d_ucd_Pair d'.fBrackets i) j)), .sl 3 (nvS.len d'.fForms) false (fun i j => (D_ucd_Form nvS (nvS.get d_ucd_Form d'.fForms i) j))])] 0, t'1.c⟩) (fun _ t => Hid.ok t) ⟨ctr + 12, gfn [(3, ctr + 0)], tfn [(3, false)]⟩ h ?_ ?_ (fun x t'1 f ht'1 h => ?_)
      · exact Hid.mk_ok (by omega) (And.intro (by omega)
            trivial)
      · exact GeSt.of (LeSt.frame (by show (_ : Nat) < _; (try dsimp only [std_eq, stdN]); omega) rfl rfl (And.intro ⟨_, rfl, LeD.refl _⟩
            (And.intro ⟨_, rfl, LeD.refl _⟩
            (And.intro ⟨_, rfl, LeD.refl _⟩
            trivial))) (And.intro ⟨_, rfl, LeOb.box (And.intro (LeD.refl _)
            (And.intro (LeD.refl _)
            (And.intro (LeD.refl _)
            (And.intro (LeD.refl _)
            (And.intro (LeD.refl _)
            (And.intro (LeD.refl _)
            trivial))))))⟩
            trivial))
      · revert h; revert ht'1; revert x; intro i1 ht'1 h
        obtain ⟨t'1_c, t'1_g, t'1_t⟩ := t'1
        have ht'1_c : 0 < t'1_c := ht'1.1
        have ht'1_g : ∀ k, t'1_g k < t'1_c := ht'1.2
        obtain ⟨v, h26⟩ : ∃ v, valO 0 (ucd_Join d' (getL 0 r' i1)) = v := ⟨_, rfl⟩
        refine Tr.chunk (cx := ⟨tt0, ⟨fun f => kOf [] f, fun k _ _ _ => orcL [(27, .plain (.v (.int .i64 v)))] k, fun t => memN [] t⟩, 0, fun r => ghL [] r⟩) tt0_ok hPm fun N hN => ?_
        generalize hp : std Tryd.prog = p
        generalize hv : nvS = nv
        cbv
        subst hp
        subst hv
        refine ⟨fun h24 => ?_, fun h24 => ?_⟩
        · replace h := iteO_t h h24
          replace h := chk_some h; obtain ⟨h25, h⟩ := h
          replace h := bindO_val h26 h; clear h26; obtain ⟨h26, h⟩ := h
          refine ⟨rfl, h25, (Or.inl (PureFn.arg (ucd_Join_ok d' (getL 0 r' i1) v h26) (And.intro (LeD.agg fun j hj => by
                have hj2 : j < 6 := hj
                rcases (show j = 0 ∨ j = 1 ∨ j = 2 ∨ j = 3 ∨ j = 4 ∨ j = 5 by omega) with rfl | rfl | rfl | rfl | rfl | rfl
                · exact LeD.refl _
                · exact LeD.refl _
                · exact LeD.refl _
                · exact LeD.refl _
                · exact LeD.refl _
                · exact LeD.refl _)
              (And.intro (LeD.refl _)
              trivial)))), (show drOk _ _ = true by kernel_rfl), ?_⟩
          refine ⟨fun h27 => ?_, fun h27 => ?_⟩
          · replace h := iteO_t h h27
            subst hN
            cases h
            intro he; cases he
            intro hr
            subst hr
            try dsimp only [noGoto, inBlockQ, thenQ]
            repeat (first | refine (if_pos rfl).mpr ?_ | refine (if_neg (by decide)).mpr ?_)
            refine retQ_ret rfl ?_ ?_
            · exact trivial
            · exact rfl
          · replace h := iteO_f h h27
            replace h := chk_some h; obtain ⟨h28, h⟩ := h
            refine ⟨h28, ?_⟩
            subst hN
            cases h
            show ∃ t', _ ∧ GeSt _ _ _
            refine ⟨⟨t'1_c + 12, gfn [(3, t'1_g 3)], tfn [(3, false)]⟩, Hid.mk_ok (by omega) (And.intro (by have := ht'1_g 3; omega)
                trivial), ?_⟩
            exact GeSt.of (LeSt.frame (by show (_ : Nat) < _; (try dsimp only [std_eq, stdN]); omega) rfl rfl (And.intro ⟨_, rfl, LeD.refl _⟩
                (And.intro ⟨_, rfl, LeD.refl _⟩
                (And.intro ⟨_, rfl, LeD.refl _⟩
                trivial))) (And.intro ⟨_, rfl, LeOb.box (And.intro (LeD.refl _)
                (And.intro (LeD.refl _)
                (And.intro (LeD.refl _)
                (And.intro (LeD.refl _)
                (And.intro (LeD.refl _)
                (And.intro (LeD.refl _)
                trivial))))))⟩
                trivial))
        · replace h := iteO_f h h24
          subst hN
          cases h
          intro he; cases he
          show ∃ t', _ ∧ GeSt _ _ _
          refine ⟨⟨t'1_c + 10, gfn [], tfn []⟩, Hid.mk_ok (by omega) trivial, ?_⟩
          exact GeSt.of (LeSt.frame (by show (_ : Nat) < _; (try dsimp only [std_eq, stdN]); omega) rfl rfl trivial trivial)

theorem shape_After_ok (d' : T_ucd_Data) (r' : (List Int)) (at' : Int) (r : Int) (h : shape_After d' r' at' = some r) : PureFn Tryd.prog 29 [(.agg 6 (fun j => (D_ucd_Data nvS d' j))), (.sl 1 (nvS.len r') false (fun i j => (.v (.int .i64 (nvS.get 0 r' i))))), (.v (.int .i64 at'))] ((.v (.int .i64 r))) := by
  unfold shape_After at h
  refine fn_tr tt0_ok Tryd.func29 (by kernel_rfl) (c := bodyOf Tryd.f29) (by kernel_rfl) ?_
  intro ctr hc
  refine Tr.pre (cx := ⟨tt0, ⟨fun f => kOf [] f, fun k _ _ _ => orcL [] k, fun t => memN [] t⟩, 0, fun r => ghL [] r⟩) tt0_ok hPm 2 fun N hN => ?_
  generalize hp : std Tryd.prog = p
  generalize hv : nvS = nv
  cbv
  subst hp
  subst hv
  refine ⟨(fun hg => hg), (fun hg => hg), (fun hg => hg), (fun hg => hg), ?_⟩
  refine ⟨fun h1 => ?_, fun h1 => ?_⟩
  · replace h := iteO_t h h1
    subst hN
    have hr := Option.some.inj h
    subst hr
    try dsimp only [noGoto, inBlockQ, thenQ]
    repeat (first | refine (if_pos rfl).mpr ?_ | refine (if_neg (by decide)).mpr ?_)
    refine retQ_ret rfl ?_ ?_
    · exact trivial
    · exact rfl
  · replace h := iteO_f h h1
    subst hN
    show Tr _ _ _ _
    refine Tr.cutSeq (α := Unit) h (fun _ t' => ⟨frm 32 [] 0, frO 32 [] 0, t'.c⟩) (fun _ t => Hid.ok t) (fun x t' ht' h => ?_) (fun f h => ?_)
    · obtain ⟨t'_c, t'_g, t'_t⟩ := t'
      have ht'_c : 0 < t'_c := ht'.1
      have ht'_g : ∀ k, t'_g k < t'_c := ht'.2
      refine Tr.chunk (cx := ⟨tt0, ⟨fun f => kOf [] f, fun k _ _ _ => orcL [] k, fun t => memN [] t⟩, 0, fun r => ghL [] r⟩) tt0_ok hPm fun N hN => ?_
      generalize hp : std Tryd.prog = p
      generalize hv : nvS = nv
      cbv
      subst hp
      subst hv
      subst hN
      have hr := Option.some.inj h
      subst hr
      try dsimp only [noGoto, inBlockQ, thenQ]
      repeat (first | refine (if_pos rfl).mpr ?_ | refine (if_neg (by decide)).mpr ?_)
      refine retQ_ret rfl ?_ ?_
      · exact trivial
      · exact rfl
    · refine Tr.pre (cx := ⟨tt0, ⟨fun f => kOf [] f, fun k _ _ _ => orcL [] k, fun t => memN [] t⟩, 0, fun r => ghL [] r⟩) tt0_ok hPm 1 fun N hN => ?_
      generalize hp : std Tryd.prog = p
      generalize hv : nvS = nv
      cbv
      subst hp
      subst hv
      replace h := chk_some h; obtain ⟨h13, h⟩ := h
      refine ⟨h13, ?_⟩
      subst hN
      show Tr _ _ _ _
      refine Tr.block ?_
      refine Tr.loopO (α := Int) (fun i1 t'1 => ⟨frm 32 [(1, .sl 1 (nvS.len r') false (fun i j => (.v (.int .i64 (nvS.get 0 r' i))))), (3, .bref 3 (t'1.g 3) 0), (7, .v (.int .i64 i1))] 0, frO 32 [(3, .box (t'1.g 3) [.sl 3 (nvS.len d'.fClass.fL) false (fun i j => (D_ranges_Row nvS (nvS.get d_ranges_Row d'.fClass.fL i) j)), .sl 3 (nvS.len d'.fWide.fL) false (fun i j => (D_ranges_Row nvS (nvS.get d_ranges_Row d'.fWide.fL i) j)), .sl 3 (nvS.len d'.fJoin.fL) false (fun i j => (D_ranges_Row nvS (nvS.get d_ranges_Row d'.fJoin.fL i) j)), .sl 2 (nvS.len d'.fMirror) false (fun i j => (D_ucd_Pair nvS (nvS.get d_ucd_Pair d'.fMirror i) j)), .sl 2 (nvS.len d'.fBrackets) false (fun i j => (D_ucd_Pair nvS (nvS.get d_ucd_Pair d'.fBrackets i) j)), .sl 3 (nvS.len d'.fForms) false (fun i j => (D_ucd_Form nvS (nvS.get d_ucd_Form d'.fForms i) j))])] 0, t'1.c⟩) (fun _ t => Hid.ok t) ⟨ctr + 12, gfn [(3, ctr + 0)], tfn [(3, false)]⟩ h ?_ ?_ (fun x t'1 f ht'1 h => ?_)
      · exact Hid.mk_ok (by omega) (And.intro (by omega)
            trivial)
      · exact GeSt.of (LeSt.frame (by show (_ : Nat) < _; (try dsimp only [std_eq, stdN]); omega) rfl rfl (And.intro ⟨_, rfl, LeD.refl _⟩
            (And.intro ⟨_, rfl, LeD.refl _⟩
            (And.intro ⟨_, rfl, LeD.refl _⟩
            trivial))) (And.intro ⟨_, rfl, LeOb.box (And.intro (LeD.refl _)
            (And.intro (LeD.refl _)
            (And.intro (LeD.refl _)
            (And.intro (LeD.refl _)
            (And.intro (LeD.refl _)
            (And.intro (LeD.refl _)
            trivial))))))⟩
            trivial))
      · revert h; revert ht'1; revert x; intro i1 ht'1 h
        obtain ⟨t'1_c, t'1_g, t'1_t⟩ := t'1
        have ht'1_c : 0 < t'1_c := ht'1.1
        have ht'1_g : ∀ k, t'1_g k < t'1_c := ht'1.2
        obtain ⟨v, h26⟩ : ∃ v, valO 0 (ucd_Join d' (getL 0 r' i1)) = v := ⟨_, rfl⟩
        refine Tr.chunk (cx := ⟨tt0, ⟨fun f => kOf [] f, fun k _ _ _ => orcL [(29, .plain (.v (.int .i64 v)))] k, fun t => memN [] t⟩, 0, fun r => ghL [] r⟩) tt0_ok hPm fun N hN => ?_
        generalize hp : std Tryd.prog = p
        generalize hv : nvS = nv
        cbv
        subst hp
        subst hv
        refine ⟨fun h24 => ?_, fun h24 => ?_⟩
        · replace h := iteO_t h h24
          replace h := chk_some h; obtain ⟨h25, h⟩ := h
          replace h := bindO_val h26 h; clear h26; obtain ⟨h26, h⟩ := h
          refine ⟨rfl, h25, (Or.inl (PureFn.arg (ucd_Join_ok d' (getL 0 r' i1) v h26) (And.intro (LeD.agg fun j hj => by
                have hj2 : j < 6 := hj
                rcases (show j = 0 ∨ j = 1 ∨ j = 2 ∨ j = 3 ∨ j = 4 ∨ j = 5 by omega) with rfl | rfl | rfl | rfl | rfl | rfl
                · exact LeD.refl _
                · exact LeD.refl _
                · exact LeD.refl _
                · exact LeD.refl _
                · exact LeD.refl _
                · exact LeD.refl _)
              (And.intro (LeD.refl _)
              trivial)))), (show drOk _ _ = true by kernel_rfl), ?_⟩
          refine ⟨fun h27 => ?_, fun h27 => ?_⟩
          · replace h := iteO_t h h27
            subst hN
            cases h
            intro he; cases he
            intro hr
            subst hr
            try dsimp only [noGoto, inBlockQ, thenQ]
            repeat (first | refine (if_pos rfl).mpr ?_ | refine (if_neg (by decide)).mpr ?_)
            refine retQ_ret rfl ?_ ?_
            · exact trivial
            · exact rfl
          · replace h := iteO_f h h27
            replace h := chk_some h; obtain ⟨h28, h⟩ := h
            refine ⟨h28, ?_⟩
            subst hN
            cases h
            show ∃ t', _ ∧ GeSt _ _ _
            refine ⟨⟨t'1_c + 12, gfn [(3, t'1_g 3)], tfn [(3, false)]⟩, Hid.mk_ok (by omega) (And.intro (by have := ht'1_g 3; omega)
                trivial), ?_⟩
            exact GeSt.of (LeSt.frame (by show (_ : Nat) < _; (try dsimp only [std_eq, stdN]); omega) rfl rfl (And.intro ⟨_, rfl, LeD.refl _⟩
                (And.intro ⟨_, rfl, LeD.refl _⟩
                (And.intro ⟨_, rfl, LeD.refl _⟩
                trivial))) (And.intro ⟨_, rfl, LeOb.box (And.intro (LeD.refl _)
                (And.intro (LeD.refl _)
                (And.intro (LeD.refl _)
                (And.intro (LeD.refl _)
                (And.intro (LeD.refl _)
                (And.intro (LeD.refl _)
                trivial))))))⟩
                trivial))
        · replace h := iteO_f h h24
          subst hN
          cases h
          intro he; cases he
          show ∃ t', _ ∧ GeSt _ _ _
          refine ⟨⟨t'1_c + 10, gfn [], tfn []⟩, Hid.mk_ok (by omega) trivial, ?_⟩
          exact GeSt.of (LeSt.frame (by show (_ : Nat) < _; (try dsimp only [std_eq, stdN]); omega) rfl rfl trivial trivial)

theorem shape_Forms_1_ok (at' : Int) (side : Int) (cap0 : (List (Int × Int))) (cap1 : T_ucd_Data) (cap2 : (List Int)) (r : Bool) (h : shape_Forms_1 at' side cap0 cap1 cap2 = some r) : PureFn Tryd.prog 47 [(.v (.int .i64 at')), (.v (.int .i64 side)), .imm 1 1 (fun _ j => (.mp .i64 .i64 cap0)) 0 0, .imm 6 1 (fun _ j => (D_ucd_Data nvS cap1 j)) 0 0, .imm 1 1 (fun _ j => (.sl 1 (nvS.len cap2) false (fun i j => (.v (.int .i64 (nvS.get 0 cap2 i)))))) 0 0] ((.v (.bool r))) := by
  unfold shape_Forms_1 at h
  refine fn_tr tt0_ok Tryd.func47 (by kernel_rfl) (c := bodyOf Tryd.f47) (by kernel_rfl) ?_
  intro ctr hc
  obtain ⟨v, h2⟩ : ∃ v, valO 0 (if (decide (0 ≤ at')) = true then ucd_Join cap1 (getL 0 cap2 at') else some 0) = v := ⟨_, rfl⟩
  refine Tr.chunk (cx := ⟨tt0, ⟨fun f => kOf [] f, fun k _ _ _ => orcL [(17, .plain (.v (.int .i64 v)))] k, fun t => memN [] t⟩, 0, fun r => ghL [] r⟩) tt0_ok hPm fun N hN => ?_
  generalize hp : std Tryd.prog = p
  generalize hv : nvS = nv
  cbv
  subst hp
  subst hv
  replace h := chk_some h; obtain ⟨h1, h⟩ := h
  replace h := bindO_val h2 h; clear h2; obtain ⟨h2, h⟩ := h
  refine ⟨(fun hg => hg), (fun hg => hg), h1, (fun hg => hg), (fun hg => hg), (fun hg => hg), (fun hg => by have h2 := guardO h2 hg; have h1 := h1 hg; exact (Or.inl (PureFn.arg (ucd_Join_ok cap1 (getL 0 cap2 at') v h2) (And.intro (by first | exact LeD.refl _ | exact LeD.agg (fun j hj => by (have hj2 : j < 6 := hj); (rcases (show j = 0 ∨ j = 1 ∨ j = 2 ∨ j = 3 ∨ j = 4 ∨ j = 5 by omega) with rfl | rfl | rfl | rfl | rfl | rfl) <;> exact LeD.refl _))
      (And.intro (LeD.refl _)
      trivial))))), (fun hg => hg), (fun hg => hg), (fun hg => hg), (fun hg => hg), (fun hg => hg), (fun hg => hg), (show drOk _ _ = true by kernel_rfl), ?_⟩
  subst hN
  have hr := Option.some.inj h
  subst hr
  try dsimp only [noGoto, inBlockQ, thenQ]
  repeat (first | refine (if_pos rfl).mpr ?_ | refine (if_neg (by decide)).mpr ?_)
  refine retQ_ret rfl ?_ ?_
  · exact trivial
  · exact rfl

theorem shape_Forms_ok (d' : T_ucd_Data) (r' : (List Int)) (r : (List Int)) (h : shape_Forms d' r' = some r) : PureFn Tryd.prog 28 [(.agg 6 (fun j => (D_ucd_Data nvS d' j))), (.sl 1 (nvS.len r') false (fun i j => (.v (.int .i64 (nvS.get 0 r' i)))))] (.own 1 (nvS.len r) false (fun i j => (.v (.int .i64 (nvS.get 0 r i))))) := by
  unfold shape_Forms at h
  refine fn_tr tt0_ok Tryd.func28 (by kernel_rfl) (c := bodyOf Tryd.f28) (by kernel_rfl) ?_
  intro ctr hc
  obtain ⟨v, h1⟩ : ∃ v, valO [] (shape_sides) = v := ⟨_, rfl⟩
  refine Tr.pre (cx := ⟨tt0, ⟨fun f => kOf [] f, fun k _ _ _ => orcL [(11, .plain (.mp .i64 .i64 v))] k, fun t => memN [] t⟩, 0, fun r => ghL [] r⟩) tt0_ok hPm 4 fun N hN => ?_
  generalize hp : std Tryd.prog = p
  generalize hv : nvS = nv
  cbv
  subst hp
  subst hv
  replace h := bindO_val h1 h; clear h1; obtain ⟨h1, h⟩ := h
  refine ⟨(Or.inl (PureFn.arg (shape_sides_ok  v h1) trivial)), rfl, ?_⟩
  replace h := chk_some h; obtain ⟨h2, h⟩ := h
  have h2' := h2.1; have h2'' := h2.2.1
  refine ⟨rfl, h2, ?_⟩
  subst hN
  show Tr _ _ _ _
  refine Tr.cutSeq (α := List Int) h (fun out t' => ⟨frm 66 [(7, .vec 15 (t'.g 15) 1 0 (nvS.len r'))] 0, frO 66 [(15, .arr (t'.g 15) 1 (nvS.len r') (t'.t 15) (fun i j => (.v (.int .i64 (nvS.get 0 out i)))))] 0, t'.c⟩) (fun out t => Hid.ok t ∧ lenL out = (lenL r')) (fun x t' ht' h => ?_) (fun f h => ?_)
  · revert h; revert ht'; revert x; intro out ht' h
    obtain ⟨ht', ht'_f0⟩ := ht'
    obtain ⟨t'_c, t'_g, t'_t⟩ := t'
    have ht'_c : 0 < t'_c := ht'.1
    have ht'_g : ∀ k, t'_g k < t'_c := ht'.2
    refine Tr.chunk (cx := ⟨tt0, ⟨fun f => kOf [] f, fun k _ _ _ => orcL [] k, fun t => memN [] t⟩, 0, fun r => ghL [] r⟩) tt0_ok hPm fun N hN => ?_
    generalize hp : std Tryd.prog = p
    generalize hv : nvS = nv
    cbv
    subst hp
    subst hv
    subst hN
    have hr := Option.some.inj h
    subst hr
    try dsimp only [noGoto, inBlockQ, thenQ]
    repeat (first | refine (if_pos rfl).mpr ?_ | refine (if_neg (by decide)).mpr ?_)
    refine retQ_ret rfl ?_ ?_
    · exact trivial
    · exact (And.intro (rfl)
          (And.intro (by first | rfl | assumption | (symm; assumption) | ((try dsimp only [std_eq, stdN, nvS]) <;> first | rfl | omega | (simp (disch := first | omega | (simp only [lenL_set, lenL_app, lenL_cons, lenL_nil] <;> omega)) only [lenL_bytes, lenL_set, lenL_app, lenL_cons, lenL_nil, lenL_rep, lenL_sub, lenL_cpy, Int.ofNat_eq_natCast, Int.zero_add, Int.sub_zero] <;> try omega)))
          (And.intro (fun h => by cases h)
          (out0_all (fun i j => out0_int _ _) (fun i i0 i1 j hj => by (try dsimp only [std_eq, stdN, nvS] at i1); (try simp only [Int.ofNat_eq_natCast] at i1); (obtain rfl : j = 0 := (by omega)) <;> (conv => lhs; whnf) <;> (conv => rhs; whnf) <;> (try dsimp only [std_eq, stdN, nvS]) <;> (first | rfl | (simp (disch := first | omega | (simp only [lenL_set, lenL_app, lenL_cons, lenL_nil] <;> omega)) only [getL_bytes, getL_put, getL_app, getL_rep, getL_sub, getL_cpy, Int.zero_add, Int.sub_zero, beq_iff_eq, decide_eq_true_eq, Bool.and_eq_true] <;> first | rfl | (split <;> first | rfl | (simp (disch := first | omega | (simp only [lenL_set, lenL_app, lenL_cons, lenL_nil] <;> omega)) only [getL_one, getL_zero] <;> rfl)))))))))
  · refine Tr.pre (cx := ⟨tt0, ⟨fun f => kOf [] f, fun k _ _ _ => orcL [] k, fun t => memN [] t⟩, 0, fun r => ghL [] r⟩) tt0_ok hPm 1 fun N hN => ?_
    generalize hp : std Tryd.prog = p
    generalize hv : nvS = nv
    cbv
    subst hp
    subst hv
    refine ⟨rfl, ?_⟩
    subst hN
    show Tr _ _ _ _
    refine Tr.block ?_
    refine Tr.loopO (α := Int × List Int) (fun (v1, out1) t'1 => ⟨frm 66 [(2, .bref 2 (t'1.g 2) 0), (3, .bref 3 (t'1.g 3) 0), (6, .fn (.func 47) 3 (fun j => ([.bref 5 (t'1.g 5) 0, .bref 2 (t'1.g 2) 0, .bref 3 (t'1.g 3) 0] : List D).getD j .junk)), (7, .vec 15 (t'1.g 15) 1 0 (nvS.len r')), (17, .v (.int .i64 (nvS.len r'))), (18, .v (.int .i64 v1))] 0, frO 66 [(2, .box (t'1.g 2) [.sl 3 (nvS.len d'.fClass.fL) false (fun i j => (D_ranges_Row nvS (nvS.get d_ranges_Row d'.fClass.fL i) j)), .sl 3 (nvS.len d'.fWide.fL) false (fun i j => (D_ranges_Row nvS (nvS.get d_ranges_Row d'.fWide.fL i) j)), .sl 3 (nvS.len d'.fJoin.fL) false (fun i j => (D_ranges_Row nvS (nvS.get d_ranges_Row d'.fJoin.fL i) j)), .sl 2 (nvS.len d'.fMirror) false (fun i j => (D_ucd_Pair nvS (nvS.get d_ucd_Pair d'.fMirror i) j)), .sl 2 (nvS.len d'.fBrackets) false (fun i j => (D_ucd_Pair nvS (nvS.get d_ucd_Pair d'.fBrackets i) j)), .sl 3 (nvS.len d'.fForms) false (fun i j => (D_ucd_Form nvS (nvS.get d_ucd_Form d'.fForms i) j))]), (3, .box (t'1.g 3) [.sl 1 (nvS.len r') false (fun i j => (.v (.int .i64 (nvS.get 0 r' i))))]), (5, .box (t'1.g 5) [.mp .i64 .i64 v]), (15, .arr (t'1.g 15) 1 (nvS.len r') (t'1.t 15) (fun i j => (.v (.int .i64 (nvS.get 0 out1 i)))))] 0, t'1.c⟩) (fun (v1, out1) t => Hid.ok t ∧ lenL out1 = (lenL r')) ⟨ctr + 14, gfn [(2, ctr + 0), (3, ctr + 0), (5, ctr + 1), (15, ctr + 3)], tfn [(2, false), (3, false), (5, false), (15, ((std Tryd.prog).eq (nvS.len r') (nvS.len r')))]⟩ h ?_ ?_ (fun x t'1 f ht'1 h => ?_)
    · exact (And.intro (Hid.mk_ok (by omega) (And.intro (by omega)
          (And.intro (by omega)
          (And.intro (by omega)
          (And.intro (by omega)
          trivial)))))
          (by first | rfl | assumption | (symm; assumption) | ((try dsimp only [std_eq, stdN, nvS]) <;> first | rfl | omega | (simp (disch := first | omega | (simp only [lenL_set, lenL_app, lenL_cons, lenL_nil] <;> omega)) only [lenL_bytes, lenL_set, lenL_app, lenL_cons, lenL_nil, lenL_rep, lenL_sub, lenL_cpy, Int.ofNat_eq_natCast, Int.zero_add, Int.sub_zero] <;> try omega))))
    · exact GeSt.of (LeSt.frame (by show (_ : Nat) < _; (try dsimp only [std_eq, stdN]); omega) rfl rfl (And.intro ⟨_, rfl, LeD.refl _⟩
          (And.intro ⟨_, rfl, LeD.refl _⟩
          (And.intro ⟨_, rfl, LeD.refl _⟩
          (And.intro ⟨_, rfl, LeD.refl _⟩
          (And.intro ⟨_, rfl, LeD.refl _⟩
          (And.intro ⟨_, rfl, LeD.refl _⟩
          trivial)))))) (And.intro ⟨_, rfl, LeOb.box (And.intro (LeD.refl _)
          (And.intro (LeD.refl _)
          (And.intro (LeD.refl _)
          (And.intro (LeD.refl _)
          (And.intro (LeD.refl _)
          (And.intro (LeD.refl _)
          trivial))))))⟩
          (And.intro ⟨_, rfl, LeOb.box (And.intro (LeD.refl _)
          trivial)⟩
          (And.intro ⟨_, rfl, LeOb.box (And.intro (LeD.refl _)
          trivial)⟩
          (And.intro ⟨_, rfl, LeOb.arrE (by first | rfl | assumption | (symm; assumption) | ((try dsimp only [std_eq, stdN, nvS]) <;> first | rfl | omega | (simp (disch := first | omega | (simp only [lenL_set, lenL_app, lenL_cons, lenL_nil] <;> omega)) only [lenL_bytes, lenL_set, lenL_app, lenL_cons, lenL_nil, lenL_rep, lenL_sub, lenL_cpy, Int.ofNat_eq_natCast, Int.zero_add, Int.sub_zero] <;> try omega))) (fun i i0 i1 j hj => by (try dsimp only [std_eq, stdN, nvS] at i1); (try simp only [Int.ofNat_eq_natCast] at i1); (obtain rfl : j = 0 := (by omega)) <;> (conv => lhs; whnf) <;> (conv => rhs; whnf) <;> (try dsimp only [std_eq, stdN, nvS]) <;> (first | rfl | (simp (disch := first | omega | (simp only [lenL_set, lenL_app, lenL_cons, lenL_nil] <;> omega)) only [getL_bytes, getL_put, getL_app, getL_rep, getL_sub, getL_cpy, Int.zero_add, Int.sub_zero, beq_iff_eq, decide_eq_true_eq, Bool.and_eq_true] <;> first | rfl | (split <;> first | rfl | (simp (disch := first | omega | (simp only [lenL_set, lenL_app, lenL_cons, lenL_nil] <;> omega)) only [getL_one, getL_zero] <;> rfl)))))⟩
          trivial)))))
    · obtain ⟨v1, out1⟩ := x
      obtain ⟨ht'1, ht'1_f0⟩ := ht'1
      obtain ⟨t'1_c, t'1_g, t'1_t⟩ := t'1
      have ht'1_c : 0 < t'1_c := ht'1.1
      have ht'1_g : ∀ k, t'1_g k < t'1_c := ht'1.2
      obtain ⟨v2, h76⟩ : ∃ v2, valO false (shape_Forms_1 v1 1 v d' r') = v2 := ⟨_, rfl⟩
      obtain ⟨v3, h77⟩ : ∃ v3, valO 0 (if v2 = true then shape_Before d' r' v1 else some 0) = v3 := ⟨_, rfl⟩
      obtain ⟨v4, h78⟩ : ∃ v4, valO false (if v2 = true then shape_Forms_1 v3 2 v d' r' else some false) = v4 := ⟨_, rfl⟩
      obtain ⟨v5, h79⟩ : ∃ v5, valO false (shape_Forms_1 v1 2 v d' r') = v5 := ⟨_, rfl⟩
      obtain ⟨v6, h80⟩ : ∃ v6, valO 0 (if v5 = true then shape_After d' r' v1 else some 0) = v6 := ⟨_, rfl⟩
      obtain ⟨v7, h81⟩ : ∃ v7, valO false (if v5 = true then shape_Forms_1 v6 1 v d' r' else some false) = v7 := ⟨_, rfl⟩
      refine Tr.chunk (cx := ⟨tt0, ⟨fun f => kOf [(47, 3)] f, fun k _ _ _ => orcL [(23, .plain (.v (.bool v2))), (29, .plain (.v (.int .i64 v3))), (30, .plain (.v (.bool v4))), (34, .plain (.v (.bool v5))), (40, .plain (.v (.int .i64 v6))), (41, .plain (.v (.bool v7)))] k, fun t => memN [] t⟩, 0, fun r => ghL [] r⟩) tt0_ok hPm fun N hN => ?_
      generalize hp : std Tryd.prog = p
      generalize hv : nvS = nv
      cbv
      subst hp
      subst hv
      refine ⟨fun h75 => ?_, fun h75 => ?_⟩
      · replace h := iteO_t h h75
        replace h := bindO_val h76 h; clear h76; obtain ⟨h76, h⟩ := h
        replace h := bindO_val h77 h; clear h77; obtain ⟨h77, h⟩ := h
        replace h := bindO_val h78 h; clear h78; obtain ⟨h78, h⟩ := h
        refine ⟨rfl, rfl, rfl, (PureFn.arg (shape_Forms_1_ok v1 1 v d' r' v2 h76) (And.intro (LeD.refl _)
            (And.intro (LeD.refl _)
            (And.intro (LeD.imm fun q j hj => by
              have hj2 : j < 1 := hj
              rcases (show j = 0 by omega) with rfl
              · exact LeD.refl _)
            (And.intro (LeD.imm fun q j hj => by
              have hj2 : j < 6 := hj
              rcases (show j = 0 ∨ j = 1 ∨ j = 2 ∨ j = 3 ∨ j = 4 ∨ j = 5 by omega) with rfl | rfl | rfl | rfl | rfl | rfl
              · exact LeD.refl _
              · exact LeD.refl _
              · exact LeD.refl _
              · exact LeD.refl _
              · exact LeD.refl _
              · exact LeD.refl _)
            (And.intro (LeD.imm fun q j hj => by
              have hj2 : j < 1 := hj
              rcases (show j = 0 by omega) with rfl
              · exact LeD.refl _)
            trivial)))))), (fun _ => rfl), (fun _ => rfl), (fun hg => hg), (fun hg => hg), (fun hg => hg), (fun hg => by have h77 := guardO h77 hg; exact (Or.inl (PureFn.arg (shape_Before_ok d' r' v1 v3 h77) (And.intro (LeD.agg fun j hj => by
              have hj2 : j < 6 := hj
              rcases (show j = 0 ∨ j = 1 ∨ j = 2 ∨ j = 3 ∨ j = 4 ∨ j = 5 by omega) with rfl | rfl | rfl | rfl | rfl | rfl
              · exact LeD.refl _
              · exact LeD.refl _
              · exact LeD.refl _
              · exact LeD.refl _
              · exact LeD.refl _
              · exact LeD.refl _)
            (And.intro (LeD.refl _)
            (And.intro (LeD.refl _)
            trivial)))))), (fun hg => hg), (fun hg => hg), (fun _ => rfl), (fun _ => rfl), (fun _ => rfl), (fun _ => trivial), (fun hg => by have h78 := guardO h78 hg; exact (PureFn.arg (shape_Forms_1_ok v3 2 v d' r' v4 h78) (And.intro (LeD.refl _)
            (And.intro (LeD.refl _)
            (And.intro (LeD.imm fun q j hj => by
              have hj2 : j < 1 := hj
              rcases (show j = 0 by omega) with rfl
              · exact LeD.refl _)
            (And.intro (LeD.imm fun q j hj => by
              have hj2 : j < 6 := hj
              rcases (show j = 0 ∨ j = 1 ∨ j = 2 ∨ j = 3 ∨ j = 4 ∨ j = 5 by omega) with rfl | rfl | rfl | rfl | rfl | rfl
              · exact LeD.refl _
              · exact LeD.refl _
              · exact LeD.refl _
              · exact LeD.refl _
              · exact LeD.refl _
              · exact LeD.refl _)
            (And.intro (LeD.imm fun q j hj => by
              have hj2 : j < 1 := hj
              rcases (show j = 0 by omega) with rfl
              · exact LeD.refl _)
            trivial))))))), (fun hg => hg), ?_⟩
        replace h := bindO_val h79 h; clear h79; obtain ⟨h79, h⟩ := h
        replace h := bindO_val h80 h; clear h80; obtain ⟨h80, h⟩ := h
        replace h := bindO_val h81 h; clear h81; obtain ⟨h81, h⟩ := h
        refine ⟨rfl, rfl, rfl, (PureFn.arg (shape_Forms_1_ok v1 2 v d' r' v5 h79) (And.intro (LeD.refl _)
            (And.intro (LeD.refl _)
            (And.intro (LeD.imm fun q j hj => by
              have hj2 : j < 1 := hj
              rcases (show j = 0 by omega) with rfl
              · exact LeD.refl _)
            (And.intro (LeD.imm fun q j hj => by
              have hj2 : j < 6 := hj
              rcases (show j = 0 ∨ j = 1 ∨ j = 2 ∨ j = 3 ∨ j = 4 ∨ j = 5 by omega) with rfl | rfl | rfl | rfl | rfl | rfl
              · exact LeD.refl _
              · exact LeD.refl _
              · exact LeD.refl _
              · exact LeD.refl _
              · exact LeD.refl _
              · exact LeD.refl _)
            (And.intro (LeD.imm fun q j hj => by
              have hj2 : j < 1 := hj
              rcases (show j = 0 by omega) with rfl
              · exact LeD.refl _)
            trivial)))))), (fun _ => rfl), (fun _ => rfl), (fun hg => hg), (fun hg => hg), (fun hg => hg), (fun hg => by have h80 := guardO h80 hg; exact (Or.inl (PureFn.arg (shape_After_ok d' r' v1 v6 h80) (And.intro (LeD.agg fun j hj => by
              have hj2 : j < 6 := hj
              rcases (show j = 0 ∨ j = 1 ∨ j = 2 ∨ j = 3 ∨ j = 4 ∨ j = 5 by omega) with rfl | rfl | rfl | rfl | rfl | rfl
              · exact LeD.refl _
              · exact LeD.refl _
              · exact LeD.refl _
              · exact LeD.refl _
              · exact LeD.refl _
              · exact LeD.refl _)
            (And.intro (LeD.refl _)
            (And.intro (LeD.refl _)
            trivial)))))), (fun hg => hg), (fun hg => hg), (fun _ => rfl), (fun _ => rfl), (fun _ => rfl), (fun _ => trivial), (fun hg => by have h81 := guardO h81 hg; exact (PureFn.arg (shape_Forms_1_ok v6 1 v d' r' v7 h81) (And.intro (LeD.refl _)
            (And.intro (LeD.refl _)
            (And.intro (LeD.imm fun q j hj => by
              have hj2 : j < 1 := hj
              rcases (show j = 0 by omega) with rfl
              · exact LeD.refl _)
            (And.intro (LeD.imm fun q j hj => by
              have hj2 : j < 6 := hj
              rcases (show j = 0 ∨ j = 1 ∨ j = 2 ∨ j = 3 ∨ j = 4 ∨ j = 5 by omega) with rfl | rfl | rfl | rfl | rfl | rfl
              · exact LeD.refl _
              · exact LeD.refl _
              · exact LeD.refl _
              · exact LeD.refl _
              · exact LeD.refl _
              · exact LeD.refl _)
            (And.intro (LeD.imm fun q j hj => by
              have hj2 : j < 1 := hj
              rcases (show j = 0 by omega) with rfl
              · exact LeD.refl _)
            trivial))))))), (fun hg => hg), ?_⟩
        refine ⟨(fun hg => hg), ?_⟩
        refine ⟨fun h82 => ?_, fun h82 => ?_⟩
        · replace h := iteO_t h h82
          replace h := chk_some h; obtain ⟨h83, h⟩ := h
          refine ⟨h83, rfl, ?_⟩
          replace h := chk_some h; obtain ⟨h84, h⟩ := h
          refine ⟨h84, ?_⟩
          subst hN
          cases h
          show ∃ t', _ ∧ GeSt _ _ _
          refine ⟨⟨t'1_c + 16, gfn [(2, t'1_g 2), (3, t'1_g 3), (5, t'1_g 5), (15, t'1_g 15)], tfn [(2, false), (3, false), (5, false), (15, t'1_t 15)]⟩, (And.intro (Hid.mk_ok (by omega) (And.intro (by have := ht'1_g 2; omega)
              (And.intro (by have := ht'1_g 3; omega)
              (And.intro (by have := ht'1_g 5; omega)
              (And.intro (by have := ht'1_g 15; omega)
              trivial)))))
              (by first | rfl | assumption | (symm; assumption) | ((try dsimp only [std_eq, stdN, nvS]) <;> first | rfl | omega | (simp (disch := first | omega | (simp only [lenL_set, lenL_app, lenL_cons, lenL_nil] <;> omega)) only [lenL_bytes, lenL_set, lenL_app, lenL_cons, lenL_nil, lenL_rep, lenL_sub, lenL_cpy, Int.ofNat_eq_natCast, Int.zero_add, Int.sub_zero] <;> try omega)))), ?_⟩
          exact GeSt.of (LeSt.frame (by show (_ : Nat) < _; (try dsimp only [std_eq, stdN]); omega) rfl rfl (And.intro ⟨_, rfl, LeD.refl _⟩
              (And.intro ⟨_, rfl, LeD.refl _⟩
              (And.intro ⟨_, rfl, LeD.refl _⟩
              (And.intro ⟨_, rfl, LeD.refl _⟩
              (And.intro ⟨_, rfl, LeD.refl _⟩
              (And.intro ⟨_, rfl, LeD.refl _⟩
              trivial)))))) (And.intro ⟨_, rfl, LeOb.box (And.intro (LeD.refl _)
              (And.intro (LeD.refl _)
              (And.intro (LeD.refl _)
              (And.intro (LeD.refl _)
              (And.intro (LeD.refl _)
              (And.intro (LeD.refl _)
              trivial))))))⟩
              (And.intro ⟨_, rfl, LeOb.box (And.intro (LeD.refl _)
              trivial)⟩
              (And.intro ⟨_, rfl, LeOb.box (And.intro (LeD.refl _)
              trivial)⟩
              (And.intro ⟨_, rfl, LeOb.arrE (by first | rfl | assumption | (symm; assumption) | ((try dsimp only [std_eq, stdN, nvS]) <;> first | rfl | omega | (simp (disch := first | omega | (simp only [lenL_set, lenL_app, lenL_cons, lenL_nil] <;> omega)) only [lenL_bytes, lenL_set, lenL_app, lenL_cons, lenL_nil, lenL_rep, lenL_sub, lenL_cpy, Int.ofNat_eq_natCast, Int.zero_add, Int.sub_zero] <;> try omega))) (fun i i0 i1 j hj => by (try dsimp only [std_eq, stdN, nvS] at i1); (try simp only [Int.ofNat_eq_natCast] at i1); (obtain rfl : j = 0 := (by omega)) <;> (conv => lhs; whnf) <;> (conv => rhs; whnf) <;> (try dsimp only [std_eq, stdN, nvS]) <;> (first | rfl | (simp (disch := first | omega | (simp only [lenL_set, lenL_app, lenL_cons, lenL_nil] <;> omega)) only [getL_bytes, getL_put, getL_app, getL_rep, getL_sub, getL_cpy, Int.zero_add, Int.sub_zero, beq_iff_eq, decide_eq_true_eq, Bool.and_eq_true] <;> first | rfl | (split <;> first | rfl | (simp (disch := first | omega | (simp only [lenL_set, lenL_app, lenL_cons, lenL_nil] <;> omega)) only [getL_one, getL_zero] <;> rfl)))))⟩
              trivial)))))
        · replace h := iteO_f h h82
          refine ⟨fun h85 => ?_, fun h85 => ?_⟩
          · replace h := iteO_t h h85
            replace h := chk_some h; obtain ⟨h86, h⟩ := h
            refine ⟨h86, rfl, ?_⟩
            replace h := chk_some h; obtain ⟨h87, h⟩ := h
            refine ⟨h87, ?_⟩
            subst hN
            cases h
            show ∃ t', _ ∧ GeSt _ _ _
            refine ⟨⟨t'1_c + 17, gfn [(2, t'1_g 2), (3, t'1_g 3), (5, t'1_g 5), (15, t'1_g 15)], tfn [(2, false), (3, false), (5, false), (15, t'1_t 15)]⟩, (And.intro (Hid.mk_ok (by omega) (And.intro (by have := ht'1_g 2; omega)
                (And.intro (by have := ht'1_g 3; omega)
                (And.intro (by have := ht'1_g 5; omega)
                (And.intro (by have := ht'1_g 15; omega)
                trivial)))))
                (by first | rfl | assumption | (symm; assumption) | ((try dsimp only [std_eq, stdN, nvS]) <;> first | rfl | omega | (simp (disch := first | omega | (simp only [lenL_set, lenL_app, lenL_cons, lenL_nil] <;> omega)) only [lenL_bytes, lenL_set, lenL_app, lenL_cons, lenL_nil, lenL_rep, lenL_sub, lenL_cpy, Int.ofNat_eq_natCast, Int.zero_add, Int.sub_zero] <;> try omega)))), ?_⟩
            exact GeSt.of (LeSt.frame (by show (_ : Nat) < _; (try dsimp only [std_eq, stdN]); omega) rfl rfl (And.intro ⟨_, rfl, LeD.refl _⟩
                (And.intro ⟨_, rfl, LeD.refl _⟩
                (And.intro ⟨_, rfl, LeD.refl _⟩
                (And.intro ⟨_, rfl, LeD.refl _⟩
                (And.intro ⟨_, rfl, LeD.refl _⟩
                (And.intro ⟨_, rfl, LeD.refl _⟩
                trivial)))))) (And.intro ⟨_, rfl, LeOb.box (And.intro (LeD.refl _)
                (And.intro (LeD.refl _)
                (And.intro (LeD.refl _)
                (And.intro (LeD.refl _)
                (And.intro (LeD.refl _)
                (And.intro (LeD.refl _)
                trivial))))))⟩
                (And.intro ⟨_, rfl, LeOb.box (And.intro (LeD.refl _)
                trivial)⟩
                (And.intro ⟨_, rfl, LeOb.box (And.intro (LeD.refl _)
                trivial)⟩
                (And.intro ⟨_, rfl, LeOb.arrE (by first | rfl | assumption | (symm; assumption) | ((try dsimp only [std_eq, stdN, nvS]) <;> first | rfl | omega | (simp (disch := first | omega | (simp only [lenL_set, lenL_app, lenL_cons, lenL_nil] <;> omega)) only [lenL_bytes, lenL_set, lenL_app, lenL_cons, lenL_nil, lenL_rep, lenL_sub, lenL_cpy, Int.ofNat_eq_natCast, Int.zero_add, Int.sub_zero] <;> try omega))) (fun i i0 i1 j hj => by (try dsimp only [std_eq, stdN, nvS] at i1); (try simp only [Int.ofNat_eq_natCast] at i1); (obtain rfl : j = 0 := (by omega)) <;> (conv => lhs; whnf) <;> (conv => rhs; whnf) <;> (try dsimp only [std_eq, stdN, nvS]) <;> (first | rfl | (simp (disch := first | omega | (simp only [lenL_set, lenL_app, lenL_cons, lenL_nil] <;> omega)) only [getL_bytes, getL_put, getL_app, getL_rep, getL_sub, getL_cpy, Int.zero_add, Int.sub_zero, beq_iff_eq, decide_eq_true_eq, Bool.and_eq_true] <;> first | rfl | (split <;> first | rfl | (simp (disch := first | omega | (simp only [lenL_set, lenL_app, lenL_cons, lenL_nil] <;> omega)) only [getL_one, getL_zero] <;> rfl)))))⟩
                trivial)))))
          · replace h := iteO_f h h85
            refine ⟨fun h88 => ?_, fun h88 => ?_⟩
            · replace h := iteO_t h h88
              replace h := chk_some h; obtain ⟨h89, h⟩ := h
              refine ⟨h89, rfl, ?_⟩
              replace h := chk_some h; obtain ⟨h90, h⟩ := h
              refine ⟨h90, ?_⟩
              subst hN
              cases h
              show ∃ t', _ ∧ GeSt _ _ _
              refine ⟨⟨t'1_c + 18, gfn [(2, t'1_g 2), (3, t'1_g 3), (5, t'1_g 5), (15, t'1_g 15)], tfn [(2, false), (3, false), (5, false), (15, t'1_t 15)]⟩, (And.intro (Hid.mk_ok (by omega) (And.intro (by have := ht'1_g 2; omega)
                  (And.intro (by have := ht'1_g 3; omega)
                  (And.intro (by have := ht'1_g 5; omega)
                  (And.intro (by have := ht'1_g 15; omega)
                  trivial)))))
                  (by first | rfl | assumption | (symm; assumption) | ((try dsimp only [std_eq, stdN, nvS]) <;> first | rfl | omega | (simp (disch := first | omega | (simp only [lenL_set, lenL_app, lenL_cons, lenL_nil] <;> omega)) only [lenL_bytes, lenL_set, lenL_app, lenL_cons, lenL_nil, lenL_rep, lenL_sub, lenL_cpy, Int.ofNat_eq_natCast, Int.zero_add, Int.sub_zero] <;> try omega)))), ?_⟩
              exact GeSt.of (LeSt.frame (by show (_ : Nat) < _; (try dsimp only [std_eq, stdN]); omega) rfl rfl (And.intro ⟨_, rfl, LeD.refl _⟩
                  (And.intro ⟨_, rfl, LeD.refl _⟩
                  (And.intro ⟨_, rfl, LeD.refl _⟩
                  (And.intro ⟨_, rfl, LeD.refl _⟩
                  (And.intro ⟨_, rfl, LeD.refl _⟩
                  (And.intro ⟨_, rfl, LeD.refl _⟩
                  trivial)))))) (And.intro ⟨_, rfl, LeOb.box (And.intro (LeD.refl _)
                  (And.intro (LeD.refl _)
                  (And.intro (LeD.refl _)
                  (And.intro (LeD.refl _)
                  (And.intro (LeD.refl _)
                  (And.intro (LeD.refl _)
                  trivial))))))⟩
                  (And.intro ⟨_, rfl, LeOb.box (And.intro (LeD.refl _)
                  trivial)⟩
                  (And.intro ⟨_, rfl, LeOb.box (And.intro (LeD.refl _)
                  trivial)⟩
                  (And.intro ⟨_, rfl, LeOb.arrE (by first | rfl | assumption | (symm; assumption) | ((try dsimp only [std_eq, stdN, nvS]) <;> first | rfl | omega | (simp (disch := first | omega | (simp only [lenL_set, lenL_app, lenL_cons, lenL_nil] <;> omega)) only [lenL_bytes, lenL_set, lenL_app, lenL_cons, lenL_nil, lenL_rep, lenL_sub, lenL_cpy, Int.ofNat_eq_natCast, Int.zero_add, Int.sub_zero] <;> try omega))) (fun i i0 i1 j hj => by (try dsimp only [std_eq, stdN, nvS] at i1); (try simp only [Int.ofNat_eq_natCast] at i1); (obtain rfl : j = 0 := (by omega)) <;> (conv => lhs; whnf) <;> (conv => rhs; whnf) <;> (try dsimp only [std_eq, stdN, nvS]) <;> (first | rfl | (simp (disch := first | omega | (simp only [lenL_set, lenL_app, lenL_cons, lenL_nil] <;> omega)) only [getL_bytes, getL_put, getL_app, getL_rep, getL_sub, getL_cpy, Int.zero_add, Int.sub_zero, beq_iff_eq, decide_eq_true_eq, Bool.and_eq_true] <;> first | rfl | (split <;> first | rfl | (simp (disch := first | omega | (simp only [lenL_set, lenL_app, lenL_cons, lenL_nil] <;> omega)) only [getL_one, getL_zero] <;> rfl)))))⟩
                  trivial)))))
            · replace h := iteO_f h h88
              replace h := chk_some h; obtain ⟨h91, h⟩ := h
              refine ⟨h91, rfl, ?_⟩
              replace h := chk_some h; obtain ⟨h92, h⟩ := h
              refine ⟨h92, ?_⟩
              subst hN
              cases h
              show ∃ t', _ ∧ GeSt _ _ _
              refine ⟨⟨t'1_c + 18, gfn [(2, t'1_g 2), (3, t'1_g 3), (5, t'1_g 5), (15, t'1_g 15)], tfn [(2, false), (3, false), (5, false), (15, t'1_t 15)]⟩, (And.intro (Hid.mk_ok (by omega) (And.intro (by have := ht'1_g 2; omega)
                  (And.intro (by have := ht'1_g 3; omega)
                  (And.intro (by have := ht'1_g 5; omega)
                  (And.intro (by have := ht'1_g 15; omega)
                  trivial)))))
                  (by first | rfl | assumption | (symm; assumption) | ((try dsimp only [std_eq, stdN, nvS]) <;> first | rfl | omega | (simp (disch := first | omega | (simp only [lenL_set, lenL_app, lenL_cons, lenL_nil] <;> omega)) only [lenL_bytes, lenL_set, lenL_app, lenL_cons, lenL_nil, lenL_rep, lenL_sub, lenL_cpy, Int.ofNat_eq_natCast, Int.zero_add, Int.sub_zero] <;> try omega)))), ?_⟩
              exact GeSt.of (LeSt.frame (by show (_ : Nat) < _; (try dsimp only [std_eq, stdN]); omega) rfl rfl (And.intro ⟨_, rfl, LeD.refl _⟩
                  (And.intro ⟨_, rfl, LeD.refl _⟩
                  (And.intro ⟨_, rfl, LeD.refl _⟩
                  (And.intro ⟨_, rfl, LeD.refl _⟩
                  (And.intro ⟨_, rfl, LeD.refl _⟩
                  (And.intro ⟨_, rfl, LeD.refl _⟩
                  trivial)))))) (And.intro ⟨_, rfl, LeOb.box (And.intro (LeD.refl _)
                  (And.intro (LeD.refl _)
                  (And.intro (LeD.refl _)
                  (And.intro (LeD.refl _)
                  (And.intro (LeD.refl _)
                  (And.intro (LeD.refl _)
                  trivial))))))⟩
                  (And.intro ⟨_, rfl, LeOb.box (And.intro (LeD.refl _)
                  trivial)⟩
                  (And.intro ⟨_, rfl, LeOb.box (And.intro (LeD.refl _)
                  trivial)⟩
                  (And.intro ⟨_, rfl, LeOb.arrE (by first | rfl | assumption | (symm; assumption) | ((try dsimp only [std_eq, stdN, nvS]) <;> first | rfl | omega | (simp (disch := first | omega | (simp only [lenL_set, lenL_app, lenL_cons, lenL_nil] <;> omega)) only [lenL_bytes, lenL_set, lenL_app, lenL_cons, lenL_nil, lenL_rep, lenL_sub, lenL_cpy, Int.ofNat_eq_natCast, Int.zero_add, Int.sub_zero] <;> try omega))) (fun i i0 i1 j hj => by (try dsimp only [std_eq, stdN, nvS] at i1); (try simp only [Int.ofNat_eq_natCast] at i1); (obtain rfl : j = 0 := (by omega)) <;> (conv => lhs; whnf) <;> (conv => rhs; whnf) <;> (try dsimp only [std_eq, stdN, nvS]) <;> (first | rfl | (simp (disch := first | omega | (simp only [lenL_set, lenL_app, lenL_cons, lenL_nil] <;> omega)) only [getL_bytes, getL_put, getL_app, getL_rep, getL_sub, getL_cpy, Int.zero_add, Int.sub_zero, beq_iff_eq, decide_eq_true_eq, Bool.and_eq_true] <;> first | rfl | (split <;> first | rfl | (simp (disch := first | omega | (simp only [lenL_set, lenL_app, lenL_cons, lenL_nil] <;> omega)) only [getL_one, getL_zero] <;> rfl)))))⟩
                  trivial)))))
      · replace h := iteO_f h h75
        subst hN
        cases h
        intro he; cases he
        show ∃ t', _ ∧ GeSt _ _ _
        refine ⟨⟨t'1_c + 10, gfn [(15, t'1_g 15)], tfn [(15, t'1_t 15)]⟩, (And.intro (Hid.mk_ok (by omega) (And.intro (by have := ht'1_g 15; omega)
            trivial))
            (by first | rfl | assumption | (symm; assumption) | ((try dsimp only [std_eq, stdN, nvS]) <;> first | rfl | omega | (simp (disch := first | omega | (simp only [lenL_set, lenL_app, lenL_cons, lenL_nil] <;> omega)) only [lenL_bytes, lenL_set, lenL_app, lenL_cons, lenL_nil, lenL_rep, lenL_sub, lenL_cpy, Int.ofNat_eq_natCast, Int.zero_add, Int.sub_zero] <;> try omega)))), ?_⟩
        exact GeSt.of (LeSt.frame (by show (_ : Nat) < _; (try dsimp only [std_eq, stdN]); omega) rfl rfl (And.intro ⟨_, rfl, LeD.refl _⟩
            trivial) (And.intro ⟨_, rfl, LeOb.refl _⟩
            trivial))

theorem shape_Mirror_ok (d' : T_ucd_Data) (r' : Int) (level : Int) (boxes : Bool) (r : Int) (h : shape_Mirror d' r' level boxes = some r) : PureFn Tryd.prog 32 [(.agg 6 (fun j => (D_ucd_Data nvS d' j))), (.v (.int .i64 r')), (.v (.int .i64 level)), (.v (.bool boxes))] ((.v (.int .i64 r))) := by
  unfold shape_Mirror at h
  refine fn_tr tt0_ok Tryd.func32 (by kernel_rfl) (c := bodyOf Tryd.f32) (by kernel_rfl) ?_
  intro ctr hc
  obtain ⟨v, h2⟩ : ∃ v, valO 0 (ucd_Mirror d' r') = v := ⟨_, rfl⟩
  refine Tr.chunk (cx := ⟨tt0, ⟨fun f => kOf [] f, fun k _ _ _ => orcL [(27, .plain (.v (.int .i64 v)))] k, fun t => memN [] t⟩, 0, fun r => ghL [] r⟩) tt0_ok hPm fun N hN => ?_
  generalize hp : std Tryd.prog = p
  generalize hv : nvS = nv
  cbv
  subst hp
  subst hv
  refine ⟨(fun hg => hg), (fun hg => hg), (fun hg => hg), (fun hg => hg), (fun hg0 => (fun hg => (and_t hg0 (and_t hg0 hg)))), (fun hg => hg), (fun hg => hg), (fun hg => hg), (fun hg0 => (fun hg => (and_t hg0 (and_t hg0 hg)))), (fun hg => hg), ?_⟩
  refine ⟨fun h1 => ?_, fun h1 => ?_⟩
  · replace h := iteO_t h h1
    subst hN
    have hr := Option.some.inj h
    subst hr
    try dsimp only [noGoto, inBlockQ, thenQ]
    repeat (first | refine (if_pos rfl).mpr ?_ | refine (if_neg (by decide)).mpr ?_)
    refine retQ_ret rfl ?_ ?_
    · exact trivial
    · exact rfl
  · replace h := iteO_f h h1
    replace h := bindO_val h2 h; clear h2; obtain ⟨h2, h⟩ := h
    refine ⟨rfl, (Or.inl (PureFn.arg (ucd_Mirror_ok d' r' v h2) (And.intro (LeD.agg fun j hj => by
          have hj2 : j < 6 := hj
          rcases (show j = 0 ∨ j = 1 ∨ j = 2 ∨ j = 3 ∨ j = 4 ∨ j = 5 by omega) with rfl | rfl | rfl | rfl | rfl | rfl
          · exact LeD.refl _
          · exact LeD.refl _
          · exact LeD.refl _
          · exact LeD.refl _
          · exact LeD.refl _
          · exact LeD.refl _)
        (And.intro (LeD.refl _)
        trivial)))), ?_⟩
    subst hN
    have hr := Option.some.inj h
    subst hr
    try dsimp only [noGoto, inBlockQ, thenQ]
    repeat (first | refine (if_pos rfl).mpr ?_ | refine (if_neg (by decide)).mpr ?_)
    refine retQ_ret rfl ?_ ?_
    · exact trivial
    · exact rfl

theorem shape_Glyphs_ok (d' : T_ucd_Data) (r' : (List Int)) (levels : (List Int)) (boxes : Bool) (r : (List Int)) (h : shape_Glyphs d' r' levels boxes = some r) : PureFn Tryd.prog 30 [(.agg 6 (fun j => (D_ucd_Data nvS d' j))), (.sl 1 (nvS.len r') false (fun i j => (.v (.int .i64 (nvS.get 0 r' i))))), (.sl 1 (nvS.len levels) false (fun i j => (.v (.int .i64 (nvS.get 0 levels i))))), (.v (.bool boxes))] (.own 1 (nvS.len r) false (fun i j => (.v (.int .i64 (nvS.get 0 r i))))) := by
  unfold shape_Glyphs at h
  refine fn_tr tt0_ok Tryd.func30 (by kernel_rfl) (c := bodyOf Tryd.f30) (by kernel_rfl) ?_
  intro ctr hc
  obtain ⟨v, h1⟩ : ∃ v, valO [] (slices_Clone___int_int_ r') = v := ⟨_, rfl⟩
  obtain ⟨v1, h3⟩ : ∃ v1, valO [] (shape_Forms d' r') = v1 := ⟨_, rfl⟩
  refine Tr.pre (cx := ⟨tt0, ⟨fun f => kOf [(28, 1), (44, 1)] f, fun k _ _ _ => orcL [(20, .own 1 (nvS.len v) false (fun i j => (.v (.int .i64 (nvS.get 0 v i))))), (29, .own 1 (nvS.len v1) false (fun i j => (.v (.int .i64 (nvS.get 0 v1 i)))))] k, fun t => memN [] t⟩, 0, fun r => ghL [] r⟩) tt0_ok hPm 4 fun N hN => ?_
  generalize hp : std Tryd.prog = p
  generalize hv : nvS = nv
  cbv
  subst hp
  subst hv
  replace h := bindO_val h1 h; clear h1; obtain ⟨h1, h⟩ := h
  refine ⟨(Or.inl (PureFn.arg (slices_Clone___int_int__ok r' v h1) (And.intro (LeD.refl _)
      trivial))), ?_⟩
  refine ⟨fun h2 => ?_, fun h2 => ?_⟩
  · replace h := iteO_t h h2
    subst hN
    have hr := Option.some.inj h
    subst hr
    try dsimp only [noGoto, inBlockQ, thenQ]
    repeat (first | refine (if_pos rfl).mpr ?_ | refine (if_neg (by decide)).mpr ?_)
    refine retQ_ret rfl ?_ ?_
    · exact trivial
    · exact (And.intro (rfl)
          (And.intro (by first | rfl | assumption | (symm; assumption) | ((try dsimp only [std_eq, stdN, nvS]) <;> first | rfl | omega | (simp (disch := first | omega | (simp only [lenL_set, lenL_app, lenL_cons, lenL_nil] <;> omega)) only [lenL_bytes, lenL_set, lenL_app, lenL_cons, lenL_nil, lenL_rep, lenL_sub, lenL_cpy, Int.ofNat_eq_natCast, Int.zero_add, Int.sub_zero] <;> try omega)))
          (And.intro (fun h => by cases h)
          (out0_all (fun i j => out0_int _ _) (fun i i0 i1 j hj => by (try dsimp only [std_eq, stdN, nvS] at i1); (try simp only [Int.ofNat_eq_natCast] at i1); (obtain rfl : j = 0 := (by omega)) <;> (conv => lhs; whnf) <;> (conv => rhs; whnf) <;> (try dsimp only [std_eq, stdN, nvS]) <;> (first | rfl | (simp (disch := first | omega | (simp only [lenL_set, lenL_app, lenL_cons, lenL_nil] <;> omega)) only [getL_bytes, getL_put, getL_app, getL_rep, getL_sub, getL_cpy, Int.zero_add, Int.sub_zero, beq_iff_eq, decide_eq_true_eq, Bool.and_eq_true] <;> first | rfl | (split <;> first | rfl | (simp (disch := first | omega | (simp only [lenL_set, lenL_app, lenL_cons, lenL_nil] <;> omega)) only [getL_one, getL_zero] <;> rfl)))))))))
  · replace h := iteO_f h h2
    replace h := bindO_val h3 h; clear h3; obtain ⟨h3, h⟩ := h
    refine ⟨rfl, (Or.inl (PureFn.arg (shape_Forms_ok d' r' v1 h3) (And.intro (LeD.agg fun j hj => by
          have hj2 : j < 6 := hj
          rcases (show j = 0 ∨ j = 1 ∨ j = 2 ∨ j = 3 ∨ j = 4 ∨ j = 5 by omega) with rfl | rfl | rfl | rfl | rfl | rfl
          · exact LeD.refl _
          · exact LeD.refl _
          · exact LeD.refl _
          · exact LeD.refl _
          · exact LeD.refl _
          · exact LeD.refl _)
        (And.intro (LeD.refl _)
        trivial)))), ?_⟩
    subst hN
    show Tr _ _ _ _
    refine Tr.cutSeq (α := List Int) h (fun out t' => ⟨frm 114 [(1, .sl 1 (nvS.len r') false (fun i j => (.v (.int .i64 (nvS.get 0 r' i))))), (4, .bref 4 (t'.g 4) 0), (9, .vec 20 (t'.g 20) 1 0 (nvS.len v)), (10, .vec 29 (t'.g 29) 1 0 (nvS.len v1))] 0, frO 114 [(4, .box (t'.g 4) [.sl 3 (nvS.len d'.fClass.fL) false (fun i j => (D_ranges_Row nvS (nvS.get d_ranges_Row d'.fClass.fL i) j)), .sl 3 (nvS.len d'.fWide.fL) false (fun i j => (D_ranges_Row nvS (nvS.get d_ranges_Row d'.fWide.fL i) j)), .sl 3 (nvS.len d'.fJoin.fL) false (fun i j => (D_ranges_Row nvS (nvS.get d_ranges_Row d'.fJoin.fL i) j)), .sl 2 (nvS.len d'.fMirror) false (fun i j => (D_ucd_Pair nvS (nvS.get d_ucd_Pair d'.fMirror i) j)), .sl 2 (nvS.len d'.fBrackets) false (fun i j => (D_ucd_Pair nvS (nvS.get d_ucd_Pair d'.fBrackets i) j)), .sl 3 (nvS.len d'.fForms) false (fun i j => (D_ucd_Form nvS (nvS.get d_ucd_Form d'.fForms i) j))]), (20, .arr (t'.g 20) 1 (nvS.len v) (t'.t 20) (fun i j => (.v (.int .i64 (nvS.get 0 out i))))), (29, .arr (t'.g 29) 1 (nvS.len v1) (t'.t 29) (fun i j => (.v (.int .i64 (nvS.get 0 v1 i)))))] 0, t'.c⟩) (fun out t => Hid.ok t ∧ lenL out = (lenL v)) (fun x t' ht' h => ?_) (fun f h => ?_)
    · revert h; revert ht'; revert x; intro out ht' h
      obtain ⟨ht', ht'_f0⟩ := ht'
      obtain ⟨t'_c, t'_g, t'_t⟩ := t'
      have ht'_c : 0 < t'_c := ht'.1
      have ht'_g : ∀ k, t'_g k < t'_c := ht'.2
      refine Tr.cutSeq (α := List Int) h (fun out1 t'1 => ⟨frm 114 [(9, .vec 20 (t'1.g 20) 1 0 (nvS.len v))] 0, frO 114 [(20, .arr (t'1.g 20) 1 (nvS.len v) (t'1.t 20) (fun i j => (.v (.int .i64 (nvS.get 0 out1 i)))))] 0, t'1.c⟩) (fun out1 t => Hid.ok t ∧ lenL out1 = (lenL v)) (fun x t'1 ht'1 h => ?_) (fun f h => ?_)
      · revert h; revert ht'1; revert x; intro out1 ht'1 h
        obtain ⟨ht'1, ht'1_f0⟩ := ht'1
        obtain ⟨t'1_c, t'1_g, t'1_t⟩ := t'1
        have ht'1_c : 0 < t'1_c := ht'1.1
        have ht'1_g : ∀ k, t'1_g k < t'1_c := ht'1.2
        refine Tr.chunk (cx := ⟨tt0, ⟨fun f => kOf [] f, fun k _ _ _ => orcL [] k, fun t => memN [] t⟩, 0, fun r => ghL [] r⟩) tt0_ok hPm fun N hN => ?_
        generalize hp : std Tryd.prog = p
        generalize hv : nvS = nv
        cbv
        subst hp
        subst hv
        subst hN
        have hr := Option.some.inj h
        subst hr
        try dsimp only [noGoto, inBlockQ, thenQ]
        repeat (first | refine (if_pos rfl).mpr ?_ | refine (if_neg (by decide)).mpr ?_)
        refine retQ_ret rfl ?_ ?_
        · exact trivial
        · exact (And.intro (rfl)
              (And.intro (by first | rfl | assumption | (symm; assumption) | ((try dsimp only [std_eq, stdN, nvS]) <;> first | rfl | omega | (simp (disch := first | omega | (simp only [lenL_set, lenL_app, lenL_cons, lenL_nil] <;> omega)) only [lenL_bytes, lenL_set, lenL_app, lenL_cons, lenL_nil, lenL_rep, lenL_sub, lenL_cpy, Int.ofNat_eq_natCast, Int.zero_add, Int.sub_zero] <;> try omega)))
              (And.intro (fun h => by cases h)
              (out0_all (fun i j => out0_int _ _) (fun i i0 i1 j hj => by (try dsimp only [std_eq, stdN, nvS] at i1); (try simp only [Int.ofNat_eq_natCast] at i1); (obtain rfl : j = 0 := (by omega)) <;> (conv => lhs; whnf) <;> (conv => rhs; whnf) <;> (try dsimp only [std_eq, stdN, nvS]) <;> (first | rfl | (simp (disch := first | omega | (simp only [lenL_set, lenL_app, lenL_cons, lenL_nil] <;> omega)) only [getL_bytes, getL_put, getL_app, getL_rep, getL_sub, getL_cpy, Int.zero_add, Int.sub_zero, beq_iff_eq, decide_eq_true_eq, Bool.and_eq_true] <;> first | rfl | (split <;> first | rfl | (simp (disch := first | omega | (simp only [lenL_set, lenL_app, lenL_cons, lenL_nil] <;> omega)) only [getL_one, getL_zero] <;> rfl)))))))))
      · refine Tr.pre (cx := ⟨tt0, ⟨fun f => kOf [] f, fun k _ _ _ => orcL [] k, fun t => memN [] t⟩, 0, fun r => ghL [] r⟩) tt0_ok hPm 1 fun N hN => ?_
        generalize hp : std Tryd.prog = p
        generalize hv : nvS = nv
        cbv
        subst hp
        subst hv
        subst hN
        show Tr _ _ _ _
        refine Tr.block ?_
        refine Tr.loopO (α := Int × List Int) (fun (v2, out2) t'2 => ⟨frm 114 [(1, .sl 1 (nvS.len r') false (fun i j => (.v (.int .i64 (nvS.get 0 r' i))))), (4, .bref 4 (t'2.g 4) 0), (9, .vec 20 (t'2.g 20) 1 0 (nvS.len v)), (10, .vec 29 (t'2.g 29) 1 0 (nvS.len v1)), (65, .sl 1 (nvS.len r') false (fun i j => (.v (.int .i64 (nvS.get 0 r' i))))), (66, .v (.int .i64 (nvS.len r'))), (67, .v (.int .i64 v2))] 0, frO 114 [(4, .box (t'2.g 4) [.sl 3 (nvS.len d'.fClass.fL) false (fun i j => (D_ranges_Row nvS (nvS.get d_ranges_Row d'.fClass.fL i) j)), .sl 3 (nvS.len d'.fWide.fL) false (fun i j => (D_ranges_Row nvS (nvS.get d_ranges_Row d'.fWide.fL i) j)), .sl 3 (nvS.len d'.fJoin.fL) false (fun i j => (D_ranges_Row nvS (nvS.get d_ranges_Row d'.fJoin.fL i) j)), .sl 2 (nvS.len d'.fMirror) false (fun i j => (D_ucd_Pair nvS (nvS.get d_ucd_Pair d'.fMirror i) j)), .sl 2 (nvS.len d'.fBrackets) false (fun i j => (D_ucd_Pair nvS (nvS.get d_ucd_Pair d'.fBrackets i) j)), .sl 3 (nvS.len d'.fForms) false (fun i j => (D_ucd_Form nvS (nvS.get d_ucd_Form d'.fForms i) j))]), (20, .arr (t'2.g 20) 1 (nvS.len v) (t'2.t 20) (fun i j => (.v (.int .i64 (nvS.get 0 out2 i))))), (29, .arr (t'2.g 29) 1 (nvS.len v1) (t'2.t 29) (fun i j => (.v (.int .i64 (nvS.get 0 v1 i)))))] 0, t'2.c⟩) (fun (v2, out2) t => Hid.ok t ∧ lenL out2 = (lenL v)) ⟨t'_c + 10, gfn [(4, t'_g 4), (20, t'_g 20), (29, t'_g 29)], tfn [(4, false), (20, t'_t 20), (29, t'_t 29)]⟩ h ?_ ?_ (fun x t'2 f ht'2 h => ?_)
        · exact (And.intro (Hid.mk_ok (by omega) (And.intro (by have := ht'_g 4; omega)
              (And.intro (by have := ht'_g 20; omega)
              (And.intro (by have := ht'_g 29; omega)
              trivial))))
              (by first | rfl | assumption | (symm; assumption) | ((try dsimp only [std_eq, stdN, nvS]) <;> first | rfl | omega | (simp (disch := first | omega | (simp only [lenL_set, lenL_app, lenL_cons, lenL_nil] <;> omega)) only [lenL_bytes, lenL_set, lenL_app, lenL_cons, lenL_nil, lenL_rep, lenL_sub, lenL_cpy, Int.ofNat_eq_natCast, Int.zero_add, Int.sub_zero] <;> try omega))))
        · exact GeSt.of (LeSt.frame (by show (_ : Nat) < _; (try dsimp only [std_eq, stdN]); omega) rfl rfl (And.intro ⟨_, rfl, LeD.refl _⟩
              (And.intro ⟨_, rfl, LeD.refl _⟩
              (And.intro ⟨_, rfl, LeD.refl _⟩
              (And.intro ⟨_, rfl, LeD.refl _⟩
              (And.intro ⟨_, rfl, LeD.refl _⟩
              (And.intro ⟨_, rfl, LeD.refl _⟩
              (And.intro ⟨_, rfl, LeD.refl _⟩
              trivial))))))) (And.intro ⟨_, rfl, LeOb.box (And.intro (LeD.refl _)
              (And.intro (LeD.refl _)
              (And.intro (LeD.refl _)
              (And.intro (LeD.refl _)
              (And.intro (LeD.refl _)
              (And.intro (LeD.refl _)
              trivial))))))⟩
              (And.intro ⟨_, rfl, LeOb.refl _⟩
              (And.intro ⟨_, rfl, LeOb.refl _⟩
              trivial))))
        · obtain ⟨v2, out2⟩ := x
          obtain ⟨ht'2, ht'2_f0⟩ := ht'2
          obtain ⟨t'2_c, t'2_g, t'2_t⟩ := t'2
          have ht'2_c : 0 < t'2_c := ht'2.1
          have ht'2_g : ∀ k, t'2_g k < t'2_c := ht'2.2
          obtain ⟨v3, h84⟩ : ∃ v3, valO 0 (shape_After d' r' v2) = v3 := ⟨_, rfl⟩
          obtain ⟨v4, h90⟩ : ∃ v4, valO (0, false) (ucd_Ligature (getL 0 r' v2) (getL 0 r' v3) (if ((getL 0 v1 (0 + v2)) == 1) = true then true else ((getL 0 v1 (0 + v2)) == 3))) = v4 := ⟨_, rfl⟩
          refine Tr.chunk (cx := ⟨tt0, ⟨fun f => kOf [] f, fun k _ _ _ => orcL [(75, .plain (.v (.int .i64 v3))), (101, .plain (.tup 2 (fun j => match j with | 0 => (.v (.int .i64 v4.1)) | 1 => (.v (.bool v4.2)) | _ => .junk)))] k, fun t => memN [] t⟩, 0, fun r => ghL [] r⟩) tt0_ok hPm fun N hN => ?_
          generalize hp : std Tryd.prog = p
          generalize hv : nvS = nv
          cbv
          subst hp
          subst hv
          refine ⟨fun h82 => ?_, fun h82 => ?_⟩
          · replace h := iteO_t h h82
            replace h := chk_some h; obtain ⟨h83, h⟩ := h
            refine ⟨h83, ?_⟩
            replace h := bindO_val h84 h; clear h84; obtain ⟨h84, h⟩ := h
            refine ⟨rfl, (Or.inl (PureFn.arg (shape_After_ok d' r' v2 v3 h84) (And.intro (LeD.agg fun j hj => by
                  have hj2 : j < 6 := hj
                  rcases (show j = 0 ∨ j = 1 ∨ j = 2 ∨ j = 3 ∨ j = 4 ∨ j = 5 by omega) with rfl | rfl | rfl | rfl | rfl | rfl
                  · exact LeD.refl _
                  · exact LeD.refl _
                  · exact LeD.refl _
                  · exact LeD.refl _
                  · exact LeD.refl _
                  · exact LeD.refl _)
                (And.intro (LeD.refl _)
                (And.intro (LeD.refl _)
                trivial))))), ?_⟩
            refine ⟨(fun hg => hg), (fun hg => hg), ?_⟩
            refine ⟨fun h85 => ?_, fun h85 => ?_⟩
            · replace h := iteO_t h h85
              replace h := chk_some h; obtain ⟨h86, h⟩ := h
              refine ⟨h86, ?_⟩
              subst hN
              cases h
              show ∃ t', _ ∧ GeSt _ _ _
              refine ⟨⟨t'2_c + 14, gfn [(4, t'2_g 4), (20, t'2_g 20), (29, t'2_g 29)], tfn [(4, false), (20, t'2_t 20), (29, t'2_t 29)]⟩, (And.intro (Hid.mk_ok (by omega) (And.intro (by have := ht'2_g 4; omega)
                  (And.intro (by have := ht'2_g 20; omega)
                  (And.intro (by have := ht'2_g 29; omega)
                  trivial))))
                  (by first | rfl | assumption | (symm; assumption) | ((try dsimp only [std_eq, stdN, nvS]) <;> first | rfl | omega | (simp (disch := first | omega | (simp only [lenL_set, lenL_app, lenL_cons, lenL_nil] <;> omega)) only [lenL_bytes, lenL_set, lenL_app, lenL_cons, lenL_nil, lenL_rep, lenL_sub, lenL_cpy, Int.ofNat_eq_natCast, Int.zero_add, Int.sub_zero] <;> try omega)))), ?_⟩
              exact GeSt.of (LeSt.frame (by show (_ : Nat) < _; (try dsimp only [std_eq, stdN]); omega) rfl rfl (And.intro ⟨_, rfl, LeD.refl _⟩
                  (And.intro ⟨_, rfl, LeD.refl _⟩
                  (And.intro ⟨_, rfl, LeD.refl _⟩
                  (And.intro ⟨_, rfl, LeD.refl _⟩
                  (And.intro ⟨_, rfl, LeD.refl _⟩
                  (And.intro ⟨_, rfl, LeD.refl _⟩
                  (And.intro ⟨_, rfl, LeD.refl _⟩
                  trivial))))))) (And.intro ⟨_, rfl, LeOb.box (And.intro (LeD.refl _)
                  (And.intro (LeD.refl _)
                  (And.intro (LeD.refl _)
                  (And.intro (LeD.refl _)
                  (And.intro (LeD.refl _)
                  (And.intro (LeD.refl _)
                  trivial))))))⟩
                  (And.intro ⟨_, rfl, LeOb.refl _⟩
                  (And.intro ⟨_, rfl, LeOb.refl _⟩
                  trivial))))
            · replace h := iteO_f h h85
              replace h := chk_some h; obtain ⟨h87, h⟩ := h
              replace h := chk_some h; obtain ⟨h88, h⟩ := h
              refine ⟨h87, rfl, (fun hg => hg), (fun hg => hg), h88, (fun hg => hg), (fun _ => rfl), (fun hg => hg), (fun hg => hg), ?_⟩
              replace h := chk_some h; obtain ⟨h89, h⟩ := h
              replace h := bindO_val h90 h; clear h90; obtain ⟨h90, h⟩ := h
              refine ⟨h89, (Or.inl (PureFn.arg (ucd_Ligature_ok (getL 0 r' v2) (getL 0 r' v3) (if ((getL 0 v1 (0 + v2)) == 1) = true then true else ((getL 0 v1 (0 + v2)) == 3)) v4 h90) (And.intro (LeD.refl _)
                  (And.intro (LeD.refl _)
                  (And.intro (LeD.refl _)
                  trivial))))), ?_⟩
              refine ⟨fun h91 => ?_, fun h91 => ?_⟩
              · replace h := iteO_t h h91
                replace h := chk_some h; obtain ⟨h92, h⟩ := h
                replace h := chk_some h; obtain ⟨h93, h⟩ := h
                refine ⟨h92, rfl, h93, rfl, ?_⟩
                replace h := chk_some h; obtain ⟨h94, h⟩ := h
                refine ⟨h94, ?_⟩
                subst hN
                cases h
                show ∃ t', _ ∧ GeSt _ _ _
                refine ⟨⟨t'2_c + 18, gfn [(4, t'2_g 4), (20, t'2_g 20), (29, t'2_g 29)], tfn [(4, false), (20, t'2_t 20), (29, t'2_t 29)]⟩, (And.intro (Hid.mk_ok (by omega) (And.intro (by have := ht'2_g 4; omega)
                    (And.intro (by have := ht'2_g 20; omega)
                    (And.intro (by have := ht'2_g 29; omega)
                    trivial))))
                    (by first | rfl | assumption | (symm; assumption) | ((try dsimp only [std_eq, stdN, nvS]) <;> first | rfl | omega | (simp (disch := first | omega | (simp only [lenL_set, lenL_app, lenL_cons, lenL_nil] <;> omega)) only [lenL_bytes, lenL_set, lenL_app, lenL_cons, lenL_nil, lenL_rep, lenL_sub, lenL_cpy, Int.ofNat_eq_natCast, Int.zero_add, Int.sub_zero] <;> try omega)))), ?_⟩
                exact GeSt.of (LeSt.frame (by show (_ : Nat) < _; (try dsimp only [std_eq, stdN]); omega) rfl rfl (And.intro ⟨_, rfl, LeD.refl _⟩
                    (And.intro ⟨_, rfl, LeD.refl _⟩
                    (And.intro ⟨_, rfl, LeD.refl _⟩
                    (And.intro ⟨_, rfl, LeD.refl _⟩
                    (And.intro ⟨_, rfl, LeD.refl _⟩
                    (And.intro ⟨_, rfl, LeD.refl _⟩
                    (And.intro ⟨_, rfl, LeD.refl _⟩
                    trivial))))))) (And.intro ⟨_, rfl, LeOb.box (And.intro (LeD.refl _)
                    (And.intro (LeD.refl _)
                    (And.intro (LeD.refl _)
                    (And.intro (LeD.refl _)
                    (And.intro (LeD.refl _)
                    (And.intro (LeD.refl _)
                    trivial))))))⟩
                    (And.intro ⟨_, rfl, LeOb.arrE (by first | rfl | assumption | (symm; assumption) | ((try dsimp only [std_eq, stdN, nvS]) <;> first | rfl | omega | (simp (disch := first | omega | (simp only [lenL_set, lenL_app, lenL_cons, lenL_nil] <;> omega)) only [lenL_bytes, lenL_set, lenL_app, lenL_cons, lenL_nil, lenL_rep, lenL_sub, lenL_cpy, Int.ofNat_eq_natCast, Int.zero_add, Int.sub_zero] <;> try omega))) (fun i i0 i1 j hj => by (try dsimp only [std_eq, stdN, nvS] at i1); (try simp only [Int.ofNat_eq_natCast] at i1); (obtain rfl : j = 0 := (by omega)) <;> (conv => lhs; whnf) <;> (conv => rhs; whnf) <;> (try dsimp only [std_eq, stdN, nvS]) <;> (first | rfl | (simp (disch := first | omega | (simp only [lenL_set, lenL_app, lenL_cons, lenL_nil] <;> omega)) only [getL_bytes, getL_put, getL_app, getL_rep, getL_sub, getL_cpy, Int.zero_add, Int.sub_zero, beq_iff_eq, decide_eq_true_eq, Bool.and_eq_true] <;> first | rfl | (split <;> first | rfl | (simp (disch := first | omega | (simp only [lenL_set, lenL_app, lenL_cons, lenL_nil] <;> omega)) only [getL_one, getL_zero] <;> rfl)))))⟩
                    (And.intro ⟨_, rfl, LeOb.refl _⟩
                    trivial))))
              · replace h := iteO_f h h91
                replace h := chk_some h; obtain ⟨h95, h⟩ := h
                refine ⟨h95, ?_⟩
                subst hN
                cases h
                show ∃ t', _ ∧ GeSt _ _ _
                refine ⟨⟨t'2_c + 17, gfn [(4, t'2_g 4), (20, t'2_g 20), (29, t'2_g 29)], tfn [(4, false), (20, t'2_t 20), (29, t'2_t 29)]⟩, (And.intro (Hid.mk_ok (by omega) (And.intro (by have := ht'2_g 4; omega)
                    (And.intro (by have := ht'2_g 20; omega)
                    (And.intro (by have := ht'2_g 29; omega)
                    trivial))))
                    (by first | rfl | assumption | (symm; assumption) | ((try dsimp only [std_eq, stdN, nvS]) <;> first | rfl | omega | (simp (disch := first | omega | (simp only [lenL_set, lenL_app, lenL_cons, lenL_nil] <;> omega)) only [lenL_bytes, lenL_set, lenL_app, lenL_cons, lenL_nil, lenL_rep, lenL_sub, lenL_cpy, Int.ofNat_eq_natCast, Int.zero_add, Int.sub_zero] <;> try omega)))), ?_⟩
                exact GeSt.of (LeSt.frame (by show (_ : Nat) < _; (try dsimp only [std_eq, stdN]); omega) rfl rfl (And.intro ⟨_, rfl, LeD.refl _⟩
                    (And.intro ⟨_, rfl, LeD.refl _⟩
                    (And.intro ⟨_, rfl, LeD.refl _⟩
                    (And.intro ⟨_, rfl, LeD.refl _⟩
                    (And.intro ⟨_, rfl, LeD.refl _⟩
                    (And.intro ⟨_, rfl, LeD.refl _⟩
                    (And.intro ⟨_, rfl, LeD.refl _⟩
                    trivial))))))) (And.intro ⟨_, rfl, LeOb.box (And.intro (LeD.refl _)
                    (And.intro (LeD.refl _)
                    (And.intro (LeD.refl _)
                    (And.intro (LeD.refl _)
                    (And.intro (LeD.refl _)
                    (And.intro (LeD.refl _)
                    trivial))))))⟩
                    (And.intro ⟨_, rfl, LeOb.refl _⟩
                    (And.intro ⟨_, rfl, LeOb.refl _⟩
                    trivial))))
          · replace h := iteO_f h h82
            subst hN
            cases h
            intro he; cases he
            show ∃ t', _ ∧ GeSt _ _ _
            refine ⟨⟨t'2_c + 10, gfn [(20, t'2_g 20)], tfn [(20, t'2_t 20)]⟩, (And.intro (Hid.mk_ok (by omega) (And.intro (by have := ht'2_g 20; omega)
                trivial))
                (by first | rfl | assumption | (symm; assumption) | ((try dsimp only [std_eq, stdN, nvS]) <;> first | rfl | omega | (simp (disch := first | omega | (simp only [lenL_set, lenL_app, lenL_cons, lenL_nil] <;> omega)) only [lenL_bytes, lenL_set, lenL_app, lenL_cons, lenL_nil, lenL_rep, lenL_sub, lenL_cpy, Int.ofNat_eq_natCast, Int.zero_add, Int.sub_zero] <;> try omega)))), ?_⟩
            exact GeSt.of (LeSt.frame (by show (_ : Nat) < _; (try dsimp only [std_eq, stdN]); omega) rfl rfl (And.intro ⟨_, rfl, LeD.refl _⟩
                trivial) (And.intro ⟨_, rfl, LeOb.refl _⟩
                trivial))
    · refine Tr.pre (cx := ⟨tt0, ⟨fun f => kOf [] f, fun k _ _ _ => orcL [] k, fun t => memN [] t⟩, 0, fun r => ghL [] r⟩) tt0_ok hPm 1 fun N hN => ?_
      generalize hp : std Tryd.prog = p
      generalize hv : nvS = nv
      cbv
      subst hp
      subst hv
      subst hN
      show Tr _ _ _ _
      refine Tr.block ?_
      refine Tr.loopO (α := Int × List Int) (fun (v5, out3) t'3 => ⟨frm 114 [(1, .sl 1 (nvS.len r') false (fun i j => (.v (.int .i64 (nvS.get 0 r' i))))), (2, .sl 1 (nvS.len levels) false (fun i j => (.v (.int .i64 (nvS.get 0 levels i))))), (3, .v (.bool boxes)), (4, .bref 4 (t'3.g 4) 0), (9, .vec 20 (t'3.g 20) 1 0 (nvS.len v)), (10, .vec 29 (t'3.g 29) 1 0 (nvS.len v1)), (30, .sl 1 (nvS.len r') false (fun i j => (.v (.int .i64 (nvS.get 0 r' i))))), (31, .v (.int .i64 (nvS.len r'))), (32, .v (.int .i64 v5))] 0, frO 114 [(4, .box (t'3.g 4) [.sl 3 (nvS.len d'.fClass.fL) false (fun i j => (D_ranges_Row nvS (nvS.get d_ranges_Row d'.fClass.fL i) j)), .sl 3 (nvS.len d'.fWide.fL) false (fun i j => (D_ranges_Row nvS (nvS.get d_ranges_Row d'.fWide.fL i) j)), .sl 3 (nvS.len d'.fJoin.fL) false (fun i j => (D_ranges_Row nvS (nvS.get d_ranges_Row d'.fJoin.fL i) j)), .sl 2 (nvS.len d'.fMirror) false (fun i j => (D_ucd_Pair nvS (nvS.get d_ucd_Pair d'.fMirror i) j)), .sl 2 (nvS.len d'.fBrackets) false (fun i j => (D_ucd_Pair nvS (nvS.get d_ucd_Pair d'.fBrackets i) j)), .sl 3 (nvS.len d'.fForms) false (fun i j => (D_ucd_Form nvS (nvS.get d_ucd_Form d'.fForms i) j))]), (20, .arr (t'3.g 20) 1 (nvS.len v) (t'3.t 20) (fun i j => (.v (.int .i64 (nvS.get 0 out3 i))))), (29, .arr (t'3.g 29) 1 (nvS.len v1) (t'3.t 29) (fun i j => (.v (.int .i64 (nvS.get 0 v1 i)))))] 0, t'3.c⟩) (fun (v5, out3) t => Hid.ok t ∧ lenL out3 = (lenL v)) ⟨ctr + 14, gfn [(4, ctr + 0), (20, ctr + 1), (29, ctr + 3)], tfn [(4, false), (20, false), (29, false)]⟩ h ?_ ?_ (fun x t'3 f ht'3 h => ?_)
      · exact (And.intro (Hid.mk_ok (by omega) (And.intro (by omega)
            (And.intro (by omega)
            (And.intro (by omega)
            trivial))))
            (by first | rfl | assumption | (symm; assumption) | ((try dsimp only [std_eq, stdN, nvS]) <;> first | rfl | omega | (simp (disch := first | omega | (simp only [lenL_set, lenL_app, lenL_cons, lenL_nil] <;> omega)) only [lenL_bytes, lenL_set, lenL_app, lenL_cons, lenL_nil, lenL_rep, lenL_sub, lenL_cpy, Int.ofNat_eq_natCast, Int.zero_add, Int.sub_zero] <;> try omega))))
      · exact GeSt.of (LeSt.frame (by show (_ : Nat) < _; (try dsimp only [std_eq, stdN]); omega) rfl rfl (And.intro ⟨_, rfl, LeD.refl _⟩
            (And.intro ⟨_, rfl, LeD.refl _⟩
            (And.intro ⟨_, rfl, LeD.refl _⟩
            (And.intro ⟨_, rfl, LeD.refl _⟩
            (And.intro ⟨_, rfl, LeD.refl _⟩
            (And.intro ⟨_, rfl, LeD.refl _⟩
            (And.intro ⟨_, rfl, LeD.refl _⟩
            (And.intro ⟨_, rfl, LeD.refl _⟩
            (And.intro ⟨_, rfl, LeD.refl _⟩
            trivial))))))))) (And.intro ⟨_, rfl, LeOb.box (And.intro (LeD.refl _)
            (And.intro (LeD.refl _)
            (And.intro (LeD.refl _)
            (And.intro (LeD.refl _)
            (And.intro (LeD.refl _)
            (And.intro (LeD.refl _)
            trivial))))))⟩
            (And.intro ⟨_, rfl, LeOb.refl _⟩
            (And.intro ⟨_, rfl, LeOb.refl _⟩
            trivial))))
      · obtain ⟨v5, out3⟩ := x
        obtain ⟨ht'3, ht'3_f0⟩ := ht'3
        obtain ⟨t'3_c, t'3_g, t'3_t⟩ := t'3
        have ht'3_c : 0 < t'3_c := ht'3.1
        have ht'3_g : ∀ k, t'3_g k < t'3_c := ht'3.2
        refine Tr.pre (cx := ⟨tt0, ⟨fun f => kOf [] f, fun k _ _ _ => orcL [] k, fun t => memN [] t⟩, 0, fun r => ghL [] r⟩) tt0_ok hPm 2 fun N hN => ?_
        generalize hp : std Tryd.prog = p
        generalize hv : nvS = nv
        cbv
        subst hp
        subst hv
        refine ⟨fun h118 => ?_, fun h118 => ?_⟩
        · replace h := iteO_t h h118
          subst hN
          show Tr _ _ _ _
          refine Tr.cutSeq (α := List Int) h (fun out4 t'4 => ⟨frm 114 [(1, .sl 1 (nvS.len r') false (fun i j => (.v (.int .i64 (nvS.get 0 r' i))))), (2, .sl 1 (nvS.len levels) false (fun i j => (.v (.int .i64 (nvS.get 0 levels i))))), (3, .v (.bool boxes)), (4, .bref 4 (t'4.g 4) 0), (9, .vec 20 (t'4.g 20) 1 0 (nvS.len v)), (10, .vec 29 (t'4.g 29) 1 0 (nvS.len v1)), (30, .sl 1 (nvS.len r') false (fun i j => (.v (.int .i64 (nvS.get 0 r' i))))), (31, .v (.int .i64 (nvS.len r'))), (32, .v (.int .i64 v5))] 0, frO 114 [(4, .box (t'4.g 4) [.sl 3 (nvS.len d'.fClass.fL) false (fun i j => (D_ranges_Row nvS (nvS.get d_ranges_Row d'.fClass.fL i) j)), .sl 3 (nvS.len d'.fWide.fL) false (fun i j => (D_ranges_Row nvS (nvS.get d_ranges_Row d'.fWide.fL i) j)), .sl 3 (nvS.len d'.fJoin.fL) false (fun i j => (D_ranges_Row nvS (nvS.get d_ranges_Row d'.fJoin.fL i) j)), .sl 2 (nvS.len d'.fMirror) false (fun i j => (D_ucd_Pair nvS (nvS.get d_ucd_Pair d'.fMirror i) j)), .sl 2 (nvS.len d'.fBrackets) false (fun i j => (D_ucd_Pair nvS (nvS.get d_ucd_Pair d'.fBrackets i) j)), .sl 3 (nvS.len d'.fForms) false (fun i j => (D_ucd_Form nvS (nvS.get d_ucd_Form d'.fForms i) j))]), (20, .arr (t'4.g 20) 1 (nvS.len v) (t'4.t 20) (fun i j => (.v (.int .i64 (nvS.get 0 out4 i))))), (29, .arr (t'4.g 29) 1 (nvS.len v1) (t'4.t 29) (fun i j => (.v (.int .i64 (nvS.get 0 v1 i)))))] 0, t'4.c⟩) (fun out4 t => Hid.ok t ∧ lenL out4 = (lenL v)) (fun x t'4 ht'4 h => ?_) (fun f h => ?_)
          · revert h; revert ht'4; revert x; intro out4 ht'4 h
            obtain ⟨ht'4, ht'4_f0⟩ := ht'4
            obtain ⟨t'4_c, t'4_g, t'4_t⟩ := t'4
            have ht'4_c : 0 < t'4_c := ht'4.1
            have ht'4_g : ∀ k, t'4_g k < t'4_c := ht'4.2
            refine Tr.chunk (cx := ⟨tt0, ⟨fun f => kOf [] f, fun k _ _ _ => orcL [] k, fun t => memN [] t⟩, 0, fun r => ghL [] r⟩) tt0_ok hPm fun N hN => ?_
            generalize hp : std Tryd.prog = p
            generalize hv : nvS = nv
            cbv
            subst hp
            subst hv
            replace h := chk_some h; obtain ⟨h128, h⟩ := h
            refine ⟨h128, ?_⟩
            subst hN
            cases h
            show ∃ t', _ ∧ GeSt _ _ _
            refine ⟨⟨t'4_c + 10, gfn [(4, t'4_g 4), (20, t'4_g 20), (29, t'4_g 29)], tfn [(4, false), (20, t'4_t 20), (29, t'4_t 29)]⟩, (And.intro (Hid.mk_ok (by omega) (And.intro (by have := ht'4_g 4; omega)
                (And.intro (by have := ht'4_g 20; omega)
                (And.intro (by have := ht'4_g 29; omega)
                trivial))))
                (by first | rfl | assumption | (symm; assumption) | ((try dsimp only [std_eq, stdN, nvS]) <;> first | rfl | omega | (simp (disch := first | omega | (simp only [lenL_set, lenL_app, lenL_cons, lenL_nil] <;> omega)) only [lenL_bytes, lenL_set, lenL_app, lenL_cons, lenL_nil, lenL_rep, lenL_sub, lenL_cpy, Int.ofNat_eq_natCast, Int.zero_add, Int.sub_zero] <;> try omega)))), ?_⟩
            exact GeSt.of (LeSt.frame (by show (_ : Nat) < _; (try dsimp only [std_eq, stdN]); omega) rfl rfl (And.intro ⟨_, rfl, LeD.refl _⟩
                (And.intro ⟨_, rfl, LeD.refl _⟩
                (And.intro ⟨_, rfl, LeD.refl _⟩
                (And.intro ⟨_, rfl, LeD.refl _⟩
                (And.intro ⟨_, rfl, LeD.refl _⟩
                (And.intro ⟨_, rfl, LeD.refl _⟩
                (And.intro ⟨_, rfl, LeD.refl _⟩
                (And.intro ⟨_, rfl, LeD.refl _⟩
                (And.intro ⟨_, rfl, LeD.refl _⟩
                trivial))))))))) (And.intro ⟨_, rfl, LeOb.box (And.intro (LeD.refl _)
                (And.intro (LeD.refl _)
                (And.intro (LeD.refl _)
                (And.intro (LeD.refl _)
                (And.intro (LeD.refl _)
                (And.intro (LeD.refl _)
                trivial))))))⟩
                (And.intro ⟨_, rfl, LeOb.refl _⟩
                (And.intro ⟨_, rfl, LeOb.refl _⟩
                trivial))))
          · refine Tr.block ?_
            obtain ⟨v7, h140⟩ : ∃ v7, valO 0 (ucd_Shape d' (getL 0 r' v5) (getL 0 v1 (0 + v5))) = v7 := ⟨_, rfl⟩
            refine Tr.preCut (cx := ⟨tt0, ⟨fun f => kOf [] f, fun k _ _ _ => orcL [(45, .plain (.v (.int .i64 v7)))] k, fun t => memN [] t⟩, 0, fun r => ghL [] r⟩) tt0_ok hPm 2 (α := List Int) h (fun out5 t'5 => ⟨frm 114 [(1, .sl 1 (nvS.len r') false (fun i j => (.v (.int .i64 (nvS.get 0 r' i))))), (2, .sl 1 (nvS.len levels) false (fun i j => (.v (.int .i64 (nvS.get 0 levels i))))), (3, .v (.bool boxes)), (4, .bref 4 (t'5.g 4) 0), (9, .vec 20 (t'5.g 20) 1 0 (nvS.len v)), (10, .vec 29 (t'5.g 29) 1 0 (nvS.len v1)), (11, .v (.int .i64 v5)), (12, .v (.int .i64 (nvS.get 0 r' v5))), (30, .sl 1 (nvS.len r') false (fun i j => (.v (.int .i64 (nvS.get 0 r' i))))), (31, .v (.int .i64 (nvS.len r'))), (32, .v (.int .i64 v5))] 0, frO 114 [(4, .box (t'5.g 4) [.sl 3 (nvS.len d'.fClass.fL) false (fun i j => (D_ranges_Row nvS (nvS.get d_ranges_Row d'.fClass.fL i) j)), .sl 3 (nvS.len d'.fWide.fL) false (fun i j => (D_ranges_Row nvS (nvS.get d_ranges_Row d'.fWide.fL i) j)), .sl 3 (nvS.len d'.fJoin.fL) false (fun i j => (D_ranges_Row nvS (nvS.get d_ranges_Row d'.fJoin.fL i) j)), .sl 2 (nvS.len d'.fMirror) false (fun i j => (D_ucd_Pair nvS (nvS.get d_ucd_Pair d'.fMirror i) j)), .sl 2 (nvS.len d'.fBrackets) false (fun i j => (D_ucd_Pair nvS (nvS.get d_ucd_Pair d'.fBrackets i) j)), .sl 3 (nvS.len d'.fForms) false (fun i j => (D_ucd_Form nvS (nvS.get d_ucd_Form d'.fForms i) j))]), (20, .arr (t'5.g 20) 1 (nvS.len v) (t'5.t 20) (fun i j => (.v (.int .i64 (nvS.get 0 out5 i))))), (29, .arr (t'5.g 29) 1 (nvS.len v1) (t'5.t 29) (fun i j => (.v (.int .i64 (nvS.get 0 v1 i)))))] 0, t'5.c⟩) (fun out5 t => Hid.ok t ∧ lenL out5 = (lenL v)) (fun x t'5 ht'5 h => ?_) (fun f h N hN => ?_)
            · revert h; revert ht'5; revert x; intro out5 ht'5 h
              obtain ⟨ht'5, ht'5_f0⟩ := ht'5
              obtain ⟨t'5_c, t'5_g, t'5_t⟩ := t'5
              have ht'5_c : 0 < t'5_c := ht'5.1
              have ht'5_g : ∀ k, t'5_g k < t'5_c := ht'5.2
              show Tr _ _ _ _
              obtain ⟨v6, h136⟩ : ∃ v6, valO 0 (shape_Mirror d' (getL 0 r' v5) (getL 0 levels v5) boxes) = v6 := ⟨_, rfl⟩
              refine Tr.chunk (cx := ⟨tt0, ⟨fun f => kOf [] f, fun k _ _ _ => orcL [(62, .plain (.v (.int .i64 v6)))] k, fun t => memN [] t⟩, 0, fun r => ghL [] r⟩) tt0_ok hPm fun N hN => ?_
              generalize hp : std Tryd.prog = p
              generalize hv : nvS = nv
              cbv
              subst hp
              subst hv
              replace h := chk_some h; obtain ⟨h133, h⟩ := h
              refine ⟨h133, rfl, ?_⟩
              refine ⟨fun h134 => ?_, fun h134 => ?_⟩
              · replace h := iteO_t h h134
                replace h := chk_some h; obtain ⟨h135, h⟩ := h
                replace h := bindO_val h136 h; clear h136; obtain ⟨h136, h⟩ := h
                replace h := chk_some h; obtain ⟨h137, h⟩ := h
                refine ⟨rfl, h135, (Or.inl (PureFn.arg (shape_Mirror_ok d' (getL 0 r' v5) (getL 0 levels v5) boxes v6 h136) (And.intro (LeD.agg fun j hj => by
                      have hj2 : j < 6 := hj
                      rcases (show j = 0 ∨ j = 1 ∨ j = 2 ∨ j = 3 ∨ j = 4 ∨ j = 5 by omega) with rfl | rfl | rfl | rfl | rfl | rfl
                      · exact LeD.refl _
                      · exact LeD.refl _
                      · exact LeD.refl _
                      · exact LeD.refl _
                      · exact LeD.refl _
                      · exact LeD.refl _)
                    (And.intro (LeD.refl _)
                    (And.intro (LeD.refl _)
                    (And.intro (LeD.refl _)
                    trivial)))))), h137, rfl, (show drOk _ _ = true by kernel_rfl), ?_⟩
                subst hN
                cases h
                show ∃ t', _ ∧ GeSt _ _ _
                refine ⟨⟨t'5_c + 11, gfn [(4, t'5_g 4), (20, t'5_g 20), (29, t'5_g 29)], tfn [(4, false), (20, t'5_t 20), (29, t'5_t 29)]⟩, (And.intro (Hid.mk_ok (by omega) (And.intro (by have := ht'5_g 4; omega)
                    (And.intro (by have := ht'5_g 20; omega)
                    (And.intro (by have := ht'5_g 29; omega)
                    trivial))))
                    (by first | rfl | assumption | (symm; assumption) | ((try dsimp only [std_eq, stdN, nvS]) <;> first | rfl | omega | (simp (disch := first | omega | (simp only [lenL_set, lenL_app, lenL_cons, lenL_nil] <;> omega)) only [lenL_bytes, lenL_set, lenL_app, lenL_cons, lenL_nil, lenL_rep, lenL_sub, lenL_cpy, Int.ofNat_eq_natCast, Int.zero_add, Int.sub_zero] <;> try omega)))), ?_⟩
                exact GeSt.of (LeSt.frame (by show (_ : Nat) < _; (try dsimp only [std_eq, stdN]); omega) rfl rfl (And.intro ⟨_, rfl, LeD.refl _⟩
                    (And.intro ⟨_, rfl, LeD.refl _⟩
                    (And.intro ⟨_, rfl, LeD.refl _⟩
                    (And.intro ⟨_, rfl, LeD.refl _⟩
                    (And.intro ⟨_, rfl, LeD.refl _⟩
                    (And.intro ⟨_, rfl, LeD.refl _⟩
                    (And.intro ⟨_, rfl, LeD.refl _⟩
                    (And.intro ⟨_, rfl, LeD.refl _⟩
                    (And.intro ⟨_, rfl, LeD.refl _⟩
                    trivial))))))))) (And.intro ⟨_, rfl, LeOb.box (And.intro (LeD.refl _)
                    (And.intro (LeD.refl _)
                    (And.intro (LeD.refl _)
                    (And.intro (LeD.refl _)
                    (And.intro (LeD.refl _)
                    (And.intro (LeD.refl _)
                    trivial))))))⟩
                    (And.intro ⟨_, rfl, LeOb.arrE (by first | rfl | assumption | (symm; assumption) | ((try dsimp only [std_eq, stdN, nvS]) <;> first | rfl | omega | (simp (disch := first | omega | (simp only [lenL_set, lenL_app, lenL_cons, lenL_nil] <;> omega)) only [lenL_bytes, lenL_set, lenL_app, lenL_cons, lenL_nil, lenL_rep, lenL_sub, lenL_cpy, Int.ofNat_eq_natCast, Int.zero_add, Int.sub_zero] <;> try omega))) (fun i i0 i1 j hj => by (try dsimp only [std_eq, stdN, nvS] at i1); (try simp only [Int.ofNat_eq_natCast] at i1); (obtain rfl : j = 0 := (by omega)) <;> (conv => lhs; whnf) <;> (conv => rhs; whnf) <;> (try dsimp only [std_eq, stdN, nvS]) <;> (first | rfl | (simp (disch := first | omega | (simp only [lenL_set, lenL_app, lenL_cons, lenL_nil] <;> omega)) only [getL_bytes, getL_put, getL_app, getL_rep, getL_sub, getL_cpy, Int.zero_add, Int.sub_zero, beq_iff_eq, decide_eq_true_eq, Bool.and_eq_true] <;> first | rfl | (split <;> first | rfl | (simp (disch := first | omega | (simp only [lenL_set, lenL_app, lenL_cons, lenL_nil] <;> omega)) only [getL_one, getL_zero] <;> rfl)))))⟩
                    (And.intro ⟨_, rfl, LeOb.refl _⟩
                    trivial))))
              · replace h := iteO_f h h134
                subst hN
                cases h
                show ∃ t', _ ∧ GeSt _ _ _
                refine ⟨⟨t'5_c + 10, gfn [(4, t'5_g 4), (20, t'5_g 20), (29, t'5_g 29)], tfn [(4, false), (20, t'5_t 20), (29, t'5_t 29)]⟩, (And.intro (Hid.mk_ok (by omega) (And.intro (by have := ht'5_g 4; omega)
                    (And.intro (by have := ht'5_g 20; omega)
                    (And.intro (by have := ht'5_g 29; omega)
                    trivial))))
                    (by first | rfl | assumption | (symm; assumption) | ((try dsimp only [std_eq, stdN, nvS]) <;> first | rfl | omega | (simp (disch := first | omega | (simp only [lenL_set, lenL_app, lenL_cons, lenL_nil] <;> omega)) only [lenL_bytes, lenL_set, lenL_app, lenL_cons, lenL_nil, lenL_rep, lenL_sub, lenL_cpy, Int.ofNat_eq_natCast, Int.zero_add, Int.sub_zero] <;> try omega)))), ?_⟩
                exact GeSt.of (LeSt.frame (by show (_ : Nat) < _; (try dsimp only [std_eq, stdN]); omega) rfl rfl (And.intro ⟨_, rfl, LeD.refl _⟩
                    (And.intro ⟨_, rfl, LeD.refl _⟩
                    (And.intro ⟨_, rfl, LeD.refl _⟩
                    (And.intro ⟨_, rfl, LeD.refl _⟩
                    (And.intro ⟨_, rfl, LeD.refl _⟩
                    (And.intro ⟨_, rfl, LeD.refl _⟩
                    (And.intro ⟨_, rfl, LeD.refl _⟩
                    (And.intro ⟨_, rfl, LeD.refl _⟩
                    (And.intro ⟨_, rfl, LeD.refl _⟩
                    trivial))))))))) (And.intro ⟨_, rfl, LeOb.box (And.intro (LeD.refl _)
                    (And.intro (LeD.refl _)
                    (And.intro (LeD.refl _)
                    (And.intro (LeD.refl _)
                    (And.intro (LeD.refl _)
                    (And.intro (LeD.refl _)
                    trivial))))))⟩
                    (And.intro ⟨_, rfl, LeOb.refl _⟩
                    (And.intro ⟨_, rfl, LeOb.refl _⟩
                    trivial))))
            · generalize hp : std Tryd.prog = p
              generalize hv : nvS = nv
              cbv
              subst hp
              subst hv
              replace h := chk_some h; obtain ⟨h138, h⟩ := h
              refine ⟨h138, ?_⟩
              replace h := chk_some h; obtain ⟨h139, h⟩ := h
              replace h := bindO_val h140 h; clear h140; obtain ⟨h140, h⟩ := h
              replace h := chk_some h; obtain ⟨h141, h⟩ := h
              refine ⟨rfl, h139, rfl, (Or.inl (PureFn.arg (ucd_Shape_ok d' (getL 0 r' v5) (getL 0 v1 (0 + v5)) v7 h140) (And.intro (LeD.agg fun j hj => by
                    have hj2 : j < 6 := hj
                    rcases (show j = 0 ∨ j = 1 ∨ j = 2 ∨ j = 3 ∨ j = 4 ∨ j = 5 by omega) with rfl | rfl | rfl | rfl | rfl | rfl
                    · exact LeD.refl _
                    · exact LeD.refl _
                    · exact LeD.refl _
                    · exact LeD.refl _
                    · exact LeD.refl _
                    · exact LeD.refl _)
                  (And.intro (LeD.refl _)
                  (And.intro (LeD.refl _)
                  trivial))))), h141, rfl, (show drOk _ _ = true by kernel_rfl), ?_⟩
              subst hN
              cases h
              show ∃ t', _ ∧ GeSt _ _ _
              refine ⟨⟨t'3_c + 12, gfn [(4, t'3_g 4), (20, t'3_g 20), (29, t'3_g 29)], tfn [(4, false), (20, t'3_t 20), (29, t'3_t 29)]⟩, (And.intro (Hid.mk_ok (by omega) (And.intro (by have := ht'3_g 4; omega)
                  (And.intro (by have := ht'3_g 20; omega)
                  (And.intro (by have := ht'3_g 29; omega)
                  trivial))))
                  (by first | rfl | assumption | (symm; assumption) | ((try dsimp only [std_eq, stdN, nvS]) <;> first | rfl | omega | (simp (disch := first | omega | (simp only [lenL_set, lenL_app, lenL_cons, lenL_nil] <;> omega)) only [lenL_bytes, lenL_set, lenL_app, lenL_cons, lenL_nil, lenL_rep, lenL_sub, lenL_cpy, Int.ofNat_eq_natCast, Int.zero_add, Int.sub_zero] <;> try omega)))), ?_⟩
              exact GeSt.of (LeSt.frame (by show (_ : Nat) < _; (try dsimp only [std_eq, stdN]); omega) rfl rfl (And.intro ⟨_, rfl, LeD.refl _⟩
                  (And.intro ⟨_, rfl, LeD.refl _⟩
                  (And.intro ⟨_, rfl, LeD.refl _⟩
                  (And.intro ⟨_, rfl, LeD.refl _⟩
                  (And.intro ⟨_, rfl, LeD.refl _⟩
                  (And.intro ⟨_, rfl, LeD.refl _⟩
                  (And.intro ⟨_, rfl, LeD.refl _⟩
                  (And.intro ⟨_, rfl, LeD.refl _⟩
                  (And.intro ⟨_, rfl, LeD.refl _⟩
                  (And.intro ⟨_, rfl, LeD.refl _⟩
                  (And.intro ⟨_, rfl, LeD.refl _⟩
                  trivial))))))))))) (And.intro ⟨_, rfl, LeOb.box (And.intro (LeD.refl _)
                  (And.intro (LeD.refl _)
                  (And.intro (LeD.refl _)
                  (And.intro (LeD.refl _)
                  (And.intro (LeD.refl _)
                  (And.intro (LeD.refl _)
                  trivial))))))⟩
                  (And.intro ⟨_, rfl, LeOb.arrE (by first | rfl | assumption | (symm; assumption) | ((try dsimp only [std_eq, stdN, nvS]) <;> first | rfl | omega | (simp (disch := first | omega | (simp only [lenL_set, lenL_app, lenL_cons, lenL_nil] <;> omega)) only [lenL_bytes, lenL_set, lenL_app, lenL_cons, lenL_nil, lenL_rep, lenL_sub, lenL_cpy, Int.ofNat_eq_natCast, Int.zero_add, Int.sub_zero] <;> try omega))) (fun i i0 i1 j hj => by (try dsimp only [std_eq, stdN, nvS] at i1); (try simp only [Int.ofNat_eq_natCast] at i1); (obtain rfl : j = 0 := (by omega)) <;> (conv => lhs; whnf) <;> (conv => rhs; whnf) <;> (try dsimp only [std_eq, stdN, nvS]) <;> (first | rfl | (simp (disch := first | omega | (simp only [lenL_set, lenL_app, lenL_cons, lenL_nil] <;> omega)) only [getL_bytes, getL_put, getL_app, getL_rep, getL_sub, getL_cpy, Int.zero_add, Int.sub_zero, beq_iff_eq, decide_eq_true_eq, Bool.and_eq_true] <;> first | rfl | (split <;> first | rfl | (simp (disch := first | omega | (simp only [lenL_set, lenL_app, lenL_cons, lenL_nil] <;> omega)) only [getL_one, getL_zero] <;> rfl)))))⟩
                  (And.intro ⟨_, rfl, LeOb.refl _⟩
                  trivial))))
        · replace h := iteO_f h h118
          subst hN
          cases h
          intro he; cases he
          show ∃ t', _ ∧ GeSt _ _ _
          refine ⟨⟨t'3_c + 10, gfn [(4, t'3_g 4), (20, t'3_g 20), (29, t'3_g 29)], tfn [(4, false), (20, t'3_t 20), (29, t'3_t 29)]⟩, (And.intro (Hid.mk_ok (by omega) (And.intro (by have := ht'3_g 4; omega)
              (And.intro (by have := ht'3_g 20; omega)
              (And.intro (by have := ht'3_g 29; omega)
              trivial))))
              (by first | rfl | assumption | (symm; assumption) | ((try dsimp only [std_eq, stdN, nvS]) <;> first | rfl | omega | (simp (disch := first | omega | (simp only [lenL_set, lenL_app, lenL_cons, lenL_nil] <;> omega)) only [lenL_bytes, lenL_set, lenL_app, lenL_cons, lenL_nil, lenL_rep, lenL_sub, lenL_cpy, Int.ofNat_eq_natCast, Int.zero_add, Int.sub_zero] <;> try omega)))), ?_⟩
          exact GeSt.of (LeSt.frame (by show (_ : Nat) < _; (try dsimp only [std_eq, stdN]); omega) rfl rfl (And.intro ⟨_, rfl, LeD.refl _⟩
              (And.intro ⟨_, rfl, LeD.refl _⟩
              (And.intro ⟨_, rfl, LeD.refl _⟩
              (And.intro ⟨_, rfl, LeD.refl _⟩
              trivial)))) (And.intro ⟨_, rfl, LeOb.box (And.intro (LeD.refl _)
              (And.intro (LeD.refl _)
              (And.intro (LeD.refl _)
              (And.intro (LeD.refl _)
              (And.intro (LeD.refl _)
              (And.intro (LeD.refl _)
              trivial))))))⟩
              (And.intro ⟨_, rfl, LeOb.refl _⟩
              (And.intro ⟨_, rfl, LeOb.refl _⟩
              trivial))))

theorem lapwinglaw20_awake_ok  (r : Bool) (h : lapwinglaw20_awake = some r) : PureFn Tryd.prog 27 [] ((.v (.bool r))) := by
  unfold lapwinglaw20_awake at h
  refine fn_tr tt0_ok Tryd.func27 (by kernel_rfl) (c := bodyOf Tryd.f27) (by kernel_rfl) ?_
  intro ctr hc
  obtain ⟨v, h1⟩ : ∃ v, valO d_ucd_Data (ucd_Load) = v := ⟨_, rfl⟩
  obtain ⟨v1, h2⟩ : ∃ v1, valO [] (shape_Glyphs v ([1576, 1576, 1576] : List Int) ([1, 1, 1] : List Int) false) = v1 := ⟨_, rfl⟩
  obtain ⟨v2, h3⟩ : ∃ v2, valO false (lapwingref03_Ints v1 ([65169, 65170, 65168] : List Int)) = v2 := ⟨_, rfl⟩
  obtain ⟨v3, h4⟩ : ∃ v3, valO [] (if v2 = true then shape_Forms v ([1576, 1576, 1576] : List Int) else some []) = v3 := ⟨_, rfl⟩
  obtain ⟨v4, h5⟩ : ∃ v4, valO false (if v2 = true then lapwingref03_Ints v3 ([2, 3, 1] : List Int) else some false) = v4 := ⟨_, rfl⟩
  obtain ⟨v5, h6⟩ : ∃ v5, valO 0 (if (if v2 = true then v4 else false) = true then shape_Mirror v 40 1 false else some 0) = v5 := ⟨_, rfl⟩
  refine Tr.chunk (cx := ⟨tt0, ⟨fun f => kOf [(26, 3), (30, 1)] f, fun k _ _ _ => orcL [(3, .plain (.agg 6 (fun j => (D_ucd_Data nvS v j)))), (8, .own 1 (nvS.len v1) false (fun i j => (.v (.int .i64 (nvS.get 0 v1 i))))), (10, .plain (.v (.bool v2))), (14, .plain (.sl 1 (nvS.len v3) false (fun i j => (.v (.int .i64 (nvS.get 0 v3 i)))))), (16, .plain (.v (.bool v4))), (20, .plain (.v (.int .i64 v5)))] k, fun t => memN [4, 7, 9, 15] t⟩, 0, fun r => ghL [] r⟩) tt0_ok hPm fun N hN => ?_
  generalize hp : std Tryd.prog = p
  generalize hv : nvS = nv
  cbv
  subst hp
  subst hv
  replace h := bindO_val h1 h; clear h1; obtain ⟨h1, h⟩ := h
  refine ⟨(Or.inl (PureFn.arg (ucd_Load_ok  v h1) trivial)), rfl, ?_⟩
  replace h := bindO_val h2 h; clear h2; obtain ⟨h2, h⟩ := h
  replace h := bindO_val h3 h; clear h3; obtain ⟨h3, h⟩ := h
  replace h := bindO_val h4 h; clear h4; obtain ⟨h4, h⟩ := h
  replace h := bindO_val h5 h; clear h5; obtain ⟨h5, h⟩ := h
  replace h := bindO_val h6 h; clear h6; obtain ⟨h6, h⟩ := h
  refine ⟨rfl, (Or.inl (PureFn.arg (shape_Glyphs_ok v ([1576, 1576, 1576] : List Int) ([1, 1, 1] : List Int) false v1 h2) (And.intro (LeD.agg fun j hj => by
        have hj2 : j < 6 := hj
        rcases (show j = 0 ∨ j = 1 ∨ j = 2 ∨ j = 3 ∨ j = 4 ∨ j = 5 by omega) with rfl | rfl | rfl | rfl | rfl | rfl
        · exact LeD.refl _
        · exact LeD.refl _
        · exact LeD.refl _
        · exact LeD.refl _
        · exact LeD.refl _
        · exact LeD.refl _)
      (And.intro (LeD.slE (by first | rfl | assumption | (symm; assumption) | ((try dsimp only [std_eq, stdN, nvS]) <;> first | rfl | omega | (simp (disch := first | omega | (simp only [lenL_set, lenL_app, lenL_cons, lenL_nil] <;> omega)) only [lenL_bytes, lenL_set, lenL_app, lenL_cons, lenL_nil, lenL_rep, lenL_sub, lenL_cpy, Int.ofNat_eq_natCast, Int.zero_add, Int.sub_zero] <;> try omega))) (fun i i0 i1 j hj => by have i2 : i < 3 := i1; (rcases (show i = 0 ∨ i = 1 ∨ i = 2 by omega) with rfl | rfl | rfl) <;> (obtain rfl : j = 0 := (by omega)) <;> rfl))
      (And.intro (LeD.slE (by first | rfl | assumption | (symm; assumption) | ((try dsimp only [std_eq, stdN, nvS]) <;> first | rfl | omega | (simp (disch := first | omega | (simp only [lenL_set, lenL_app, lenL_cons, lenL_nil] <;> omega)) only [lenL_bytes, lenL_set, lenL_app, lenL_cons, lenL_nil, lenL_rep, lenL_sub, lenL_cpy, Int.ofNat_eq_natCast, Int.zero_add, Int.sub_zero] <;> try omega))) (fun i i0 i1 j hj => by have i2 : i < 3 := i1; (rcases (show i = 0 ∨ i = 1 ∨ i = 2 by omega) with rfl | rfl | rfl) <;> (obtain rfl : j = 0 := (by omega)) <;> rfl))
      (And.intro (LeD.refl _)
      trivial)))))), rfl, (PureFn.arg (lapwingref03_Ints_ok v1 ([65169, 65170, 65168] : List Int) v2 h3) (And.intro (LeD.slE (by first | rfl | assumption | (symm; assumption) | ((try dsimp only [std_eq, stdN, nvS]) <;> first | rfl | omega | (simp (disch := first | omega | (simp only [lenL_set, lenL_app, lenL_cons, lenL_nil] <;> omega)) only [lenL_bytes, lenL_set, lenL_app, lenL_cons, lenL_nil, lenL_rep, lenL_sub, lenL_cpy, Int.ofNat_eq_natCast, Int.zero_add, Int.sub_zero] <;> try omega))) (fun i i0 i1 j hj => by (try dsimp only [std_eq, stdN, nvS] at i1); (try simp only [Int.ofNat_eq_natCast] at i1); (obtain rfl : j = 0 := (by omega)) <;> (conv => lhs; whnf) <;> (conv => rhs; whnf) <;> (try dsimp only [std_eq, stdN, nvS]) <;> (first | rfl | (simp (disch := first | omega | (simp only [lenL_set, lenL_app, lenL_cons, lenL_nil] <;> omega)) only [getL_bytes, getL_put, getL_app, getL_rep, getL_sub, getL_cpy, Int.zero_add, Int.sub_zero, beq_iff_eq, decide_eq_true_eq, Bool.and_eq_true] <;> first | rfl | (split <;> first | rfl | (simp (disch := first | omega | (simp only [lenL_set, lenL_app, lenL_cons, lenL_nil] <;> omega)) only [getL_one, getL_zero] <;> rfl))))))
      (And.intro (LeD.slE (by first | rfl | assumption | (symm; assumption) | ((try dsimp only [std_eq, stdN, nvS]) <;> first | rfl | omega | (simp (disch := first | omega | (simp only [lenL_set, lenL_app, lenL_cons, lenL_nil] <;> omega)) only [lenL_bytes, lenL_set, lenL_app, lenL_cons, lenL_nil, lenL_rep, lenL_sub, lenL_cpy, Int.ofNat_eq_natCast, Int.zero_add, Int.sub_zero] <;> try omega))) (fun i i0 i1 j hj => by have i2 : i < 3 := i1; (rcases (show i = 0 ∨ i = 1 ∨ i = 2 by omega) with rfl | rfl | rfl) <;> (obtain rfl : j = 0 := (by omega)) <;> rfl))
      trivial))), (fun _ => rfl), (fun hg => hg), (fun hg => hg), (fun hg => by have h4 := guardO h4 hg; exact (Or.inl (PureFn.arg (PureFn.sl (shape_Forms_ok v ([1576, 1576, 1576] : List Int) v3 h4)) (And.intro (LeD.agg fun j hj => by
        have hj2 : j < 6 := hj
        rcases (show j = 0 ∨ j = 1 ∨ j = 2 ∨ j = 3 ∨ j = 4 ∨ j = 5 by omega) with rfl | rfl | rfl | rfl | rfl | rfl
        · exact LeD.refl _
        · exact LeD.refl _
        · exact LeD.refl _
        · exact LeD.refl _
        · exact LeD.refl _
        · exact LeD.refl _)
      (And.intro (LeD.slE (by first | rfl | assumption | (symm; assumption) | ((try dsimp only [std_eq, stdN, nvS]) <;> first | rfl | omega | (simp (disch := first | omega | (simp only [lenL_set, lenL_app, lenL_cons, lenL_nil] <;> omega)) only [lenL_bytes, lenL_set, lenL_app, lenL_cons, lenL_nil, lenL_rep, lenL_sub, lenL_cpy, Int.ofNat_eq_natCast, Int.zero_add, Int.sub_zero] <;> try omega))) (fun i i0 i1 j hj => by have i2 : i < 3 := i1; (rcases (show i = 0 ∨ i = 1 ∨ i = 2 by omega) with rfl | rfl | rfl) <;> (obtain rfl : j = 0 := (by omega)) <;> rfl))
      trivial))))), (fun hg => hg), (fun hg => hg), (fun _ => trivial), (fun hg => by have h5 := guardO h5 hg; exact (PureFn.arg (lapwingref03_Ints_ok v3 ([2, 3, 1] : List Int) v4 h5) (And.intro (LeD.refl _)
      (And.intro (LeD.slE (by first | rfl | assumption | (symm; assumption) | ((try dsimp only [std_eq, stdN, nvS]) <;> first | rfl | omega | (simp (disch := first | omega | (simp only [lenL_set, lenL_app, lenL_cons, lenL_nil] <;> omega)) only [lenL_bytes, lenL_set, lenL_app, lenL_cons, lenL_nil, lenL_rep, lenL_sub, lenL_cpy, Int.ofNat_eq_natCast, Int.zero_add, Int.sub_zero] <;> try omega))) (fun i i0 i1 j hj => by have i2 : i < 3 := i1; (rcases (show i = 0 ∨ i = 1 ∨ i = 2 by omega) with rfl | rfl | rfl) <;> (obtain rfl : j = 0 := (by omega)) <;> rfl))
      trivial)))), (fun hg => hg), (fun _ => rfl), (fun hg => hg), (fun hg => by have h6 := guardO h6 hg; exact (Or.inl (PureFn.arg (shape_Mirror_ok v 40 1 false v5 h6) (And.intro (LeD.agg fun j hj => by
        have hj2 : j < 6 := hj
        rcases (show j = 0 ∨ j = 1 ∨ j = 2 ∨ j = 3 ∨ j = 4 ∨ j = 5 by omega) with rfl | rfl | rfl | rfl | rfl | rfl
        · exact LeD.refl _
        · exact LeD.refl _
        · exact LeD.refl _
        · exact LeD.refl _
        · exact LeD.refl _
        · exact LeD.refl _)
      (And.intro (LeD.refl _)
      (And.intro (LeD.refl _)
      (And.intro (LeD.refl _)
      trivial))))))), (fun hg => hg), (fun hg => hg), ?_⟩
  subst hN
  have hr := Option.some.inj h
  subst hr
  try dsimp only [noGoto, inBlockQ, thenQ]
  repeat (first | refine (if_pos rfl).mpr ?_ | refine (if_neg (by decide)).mpr ?_)
  refine retQ_ret rfl ?_ ?_
  · exact trivial
  · exact rfl
end Go.Vx
