/- Walks, by program (lift.py). -/
import Derived.Test.YtigfggfbpdhmfaaDoorUWalk
import Derived.Test.YtigfggfbpdhmfaaDoorUWalkL2
set_option linter.all false
namespace Go.Vx
open Go.Proofs
set_option maxRecDepth 100000
set_option linter.unusedVariables false
set_option linter.unusedSimpArgs false

theorem ranges_Get_ok (t' : T_ranges_Table) (r' : Int) (r : Int) (h : ranges_Get t' r' = some r) : PureFn Tryd.prog 39 [(.agg 1 (fun j => (D_ranges_Table nvS t' j))), (.v (.int .i64 r'))] ((.v (.int .i64 r))) := by
  unfold ranges_Get at h
  refine fn_tr tt0_ok Tryd.func39 (by kernel_rfl) (c := bodyOf Tryd.f39) (by kernel_rfl) ?_
  intro ctr hc
  refine Tr.pre (cx := ⟨tt0, ⟨fun f => kOf [] f, fun k _ _ _ => orcL [] k, fun t => memN [] t⟩, 0, fun r => ghL [] r⟩) tt0_ok hPm 1 fun N hN => ?_
  generalize hp : std Tryd.prog = p
  generalize hv : nvS = nv
  cbv
  subst hp
  subst hv
  subst hN
  show Tr _ _ _ _
  refine Tr.cutSeq (α := Unit) h (fun _ t'1 => ⟨frm 27 [] 0, frO 27 [] 0, t'1.c⟩) (fun _ t => Hid.ok t) (fun x t'1 ht'1 h => ?_) (fun f h => ?_)
  · obtain ⟨t'1_c, t'1_g, t'1_t⟩ := t'1
    have ht'1_c : 0 < t'1_c := ht'1.1
    have ht'1_g : ∀ k, t'1_g k < t'1_c := ht'1.2
    refine Tr.chunk (cx := ⟨tt0, ⟨fun f => kOf [] f, fun k _ _ _ => orcL [] k, fun t => memN [] t⟩, 0, fun r => ghL [] r⟩) tt0_ok hPm fun N hN => ?_
    generalize hp : std Tryd.prog = p
    generalize hv : nvS = nv
    cbv
    subst hp
    subst hv
    subst hN
    have hr := Option.some.inj h
    subst hr
    try dsimp only [noGoto, inBlockQ, thenQ]
    repeat (first | refine (if_pos rfl).mpr ?_ | refine (if_neg (by decide)).mpr ?_)
    refine retQ_ret rfl ?_ ?_
    · exact trivial
    · exact rfl
  · refine Tr.pre (cx := ⟨tt0, ⟨fun f => kOf [] f, fun k _ _ _ => orcL [] k, fun t => memN [] t⟩, 0, fun r => ghL [] r⟩) tt0_ok hPm 1 fun N hN => ?_
    generalize hp : std Tryd.prog = p
    generalize hv : nvS = nv
    cbv
    subst hp
    subst hv
    refine ⟨rfl, ?_⟩
    subst hN
    show Tr _ _ _ _
    refine Tr.block ?_
    refine Tr.loopO (α := Int) (fun v t'2 => ⟨frm 27 [(1, .v (.int .i64 r')), (8, .sl 3 (nvS.len t'.fL) false (fun i j => (D_ranges_Row nvS (nvS.get d_ranges_Row t'.fL i) j))), (9, .v (.int .i64 (nvS.len t'.fL))), (10, .v (.int .i64 v))] 0, frO 27 [] 0, t'2.c⟩) (fun _ t => Hid.ok t) ⟨ctr + 11, gfn [], tfn []⟩ h ?_ ?_ (fun x t'2 f ht'2 h => ?_)
    · exact Hid.mk_ok (by omega) trivial
    · exact GeSt.of (LeSt.frame (by show (_ : Nat) < _; (try dsimp only [std_eq, stdN]); omega) rfl rfl (And.intro ⟨_, rfl, LeD.refl _⟩
          (And.intro ⟨_, rfl, LeD.refl _⟩
          (And.intro ⟨_, rfl, LeD.refl _⟩
          (And.intro ⟨_, rfl, LeD.refl _⟩
          trivial)))) trivial)
    · revert h; revert ht'2; revert x; intro v ht'2 h
      obtain ⟨t'2_c, t'2_g, t'2_t⟩ := t'2
      have ht'2_c : 0 < t'2_c := ht'2.1
      have ht'2_g : ∀ k, t'2_g k < t'2_c := ht'2.2
      refine Tr.chunk (cx := ⟨tt0, ⟨fun f => kOf [] f, fun k _ _ _ => orcL [] k, fun t => memN [] t⟩, 0, fun r => ghL [] r⟩) tt0_ok hPm fun N hN => ?_
      generalize hp : std Tryd.prog = p
      generalize hv : nvS = nv
      cbv
      subst hp
      subst hv
      refine ⟨fun h17 => ?_, fun h17 => ?_⟩
      · replace h := iteO_t h h17
        replace h := chk_some h; obtain ⟨h18, h⟩ := h
        refine ⟨h18, rfl, ?_⟩
        refine ⟨rfl, (fun hg => hg), (fun _ => rfl), (fun hg => hg), (fun hg => hg), (fun hg => hg), ?_⟩
        refine ⟨fun h19 => ?_, fun h19 => ?_⟩
        · replace h := iteO_t h h19
          refine ⟨rfl, ?_⟩
          subst hN
          cases h
          intro he; cases he
          intro hr
          subst hr
          try dsimp only [noGoto, inBlockQ, thenQ]
          repeat (first | refine (if_pos rfl).mpr ?_ | refine (if_neg (by decide)).mpr ?_)
          refine retQ_ret rfl ?_ ?_
          · exact trivial
          · exact rfl
        · replace h := iteO_f h h19
          replace h := chk_some h; obtain ⟨h20, h⟩ := h
          refine ⟨h20, ?_⟩
          subst hN
          cases h
          show ∃ t', _ ∧ GeSt _ _ _
          refine ⟨⟨t'2_c + 13, gfn [], tfn []⟩, Hid.mk_ok (by omega) trivial, ?_⟩
          exact GeSt.of (LeSt.frame (by show (_ : Nat) < _; (try dsimp only [std_eq, stdN]); omega) rfl rfl (And.intro ⟨_, rfl, LeD.refl _⟩
              (And.intro ⟨_, rfl, LeD.refl _⟩
              (And.intro ⟨_, rfl, LeD.refl _⟩
              (And.intro ⟨_, rfl, LeD.refl _⟩
              trivial)))) trivial)
      · replace h := iteO_f h h17
        subst hN
        cases h
        intro he; cases he
        show ∃ t', _ ∧ GeSt _ _ _
        refine ⟨⟨t'2_c + 10, gfn [], tfn []⟩, Hid.mk_ok (by omega) trivial, ?_⟩
        exact GeSt.of (LeSt.frame (by show (_ : Nat) < _; (try dsimp only [std_eq, stdN]); omega) rfl rfl trivial trivial)

theorem ranges_fits_ok (r' : T_ranges_Row) (r : Bool) (h : ranges_fits r' = some r) : PureFn Tryd.prog 40 [(.agg 3 (fun j => (D_ranges_Row nvS r' j)))] ((.v (.bool r))) := by
  unfold ranges_fits at h
  refine fn_tr tt0_ok Tryd.func40 (by kernel_rfl) (c := bodyOf Tryd.f40) (by kernel_rfl) ?_
  intro ctr hc
  refine Tr.chunk (cx := ⟨tt0, ⟨fun f => kOf [] f, fun k _ _ _ => orcL [] k, fun t => memN [] t⟩, 0, fun r => ghL [] r⟩) tt0_ok hPm fun N hN => ?_
  generalize hp : std Tryd.prog = p
  generalize hv : nvS = nv
  cbv
  subst hp
  subst hv
  refine ⟨rfl, (fun hg => hg), (fun _ => rfl), (fun hg => hg), (fun _ => rfl), (fun hg => hg), (fun hg => hg), (fun hg => hg), (fun hg => hg), (fun _ => rfl), (fun hg => hg), (fun hg => hg), (fun hg => hg), (fun _ => rfl), (fun hg => hg), (fun hg => hg), (fun hg => hg), (fun _ => rfl), (fun hg => hg), (fun hg => hg), ?_⟩
  subst hN
  have hr := Option.some.inj h
  subst hr
  try dsimp only [noGoto, inBlockQ, thenQ]
  repeat (first | refine (if_pos rfl).mpr ?_ | refine (if_neg (by decide)).mpr ?_)
  refine retQ_ret rfl ?_ ?_
  · exact trivial
  · exact rfl

theorem ranges_touches_ok (a : T_ranges_Row) (b : T_ranges_Row) (r : Bool) (h : ranges_touches a b = some r) : PureFn Tryd.prog 41 [(.agg 3 (fun j => (D_ranges_Row nvS a j))), (.agg 3 (fun j => (D_ranges_Row nvS b j)))] ((.v (.bool r))) := by
  unfold ranges_touches at h
  refine fn_tr tt0_ok Tryd.func41 (by kernel_rfl) (c := bodyOf Tryd.f41) (by kernel_rfl) ?_
  intro ctr hc
  refine Tr.chunk (cx := ⟨tt0, ⟨fun f => kOf [] f, fun k _ _ _ => orcL [] k, fun t => memN [] t⟩, 0, fun r => ghL [] r⟩) tt0_ok hPm fun N hN => ?_
  generalize hp : std Tryd.prog = p
  generalize hv : nvS = nv
  cbv
  subst hp
  subst hv
  replace h := chk_some h; obtain ⟨h1, h⟩ := h
  refine ⟨rfl, rfl, h1, (fun hg => hg), (fun _ => rfl), (fun hg => hg), (fun _ => rfl), (fun hg => hg), (fun hg => hg), (fun hg => hg), ?_⟩
  subst hN
  have hr := Option.some.inj h
  subst hr
  try dsimp only [noGoto, inBlockQ, thenQ]
  repeat (first | refine (if_pos rfl).mpr ?_ | refine (if_neg (by decide)).mpr ?_)
  refine retQ_ret rfl ?_ ?_
  · exact trivial
  · exact rfl

theorem ranges_Sane_ok (t' : T_ranges_Table) (r : Bool) (h : ranges_Sane t' = some r) : PureFn Tryd.prog 22 [(.agg 1 (fun j => (D_ranges_Table nvS t' j)))] ((.v (.bool r))) := by
  unfold ranges_Sane at h
  refine fn_tr tt0_ok Tryd.func22 (by kernel_rfl) (c := bodyOf Tryd.f22) (by kernel_rfl) ?_
  intro ctr hc
  refine Tr.pre (cx := ⟨tt0, ⟨fun f => kOf [] f, fun k _ _ _ => orcL [] k, fun t => memN [] t⟩, 0, fun r => ghL [] r⟩) tt0_ok hPm 2 fun N hN => ?_
  generalize hp : std Tryd.prog = p
  generalize hv : nvS = nv
  cbv
  subst hp
  subst hv
  refine ⟨rfl, ?_⟩
  refine ⟨fun h1 => ?_, fun h1 => ?_⟩
  · replace h := iteO_t h h1
    subst hN
    have hr := Option.some.inj h
    subst hr
    try dsimp only [noGoto, inBlockQ, thenQ]
    repeat (first | refine (if_pos rfl).mpr ?_ | refine (if_neg (by decide)).mpr ?_)
    refine retQ_ret rfl ?_ ?_
    · exact trivial
    · exact rfl
  · replace h := iteO_f h h1
    subst hN
    show Tr _ _ _ _
    refine Tr.cutSeq (α := Unit) h (fun _ t'1 => ⟨frm 45 [] 0, frO 45 [] 0, t'1.c⟩) (fun _ t => Hid.ok t) (fun x t'1 ht'1 h => ?_) (fun f h => ?_)
    · obtain ⟨t'1_c, t'1_g, t'1_t⟩ := t'1
      have ht'1_c : 0 < t'1_c := ht'1.1
      have ht'1_g : ∀ k, t'1_g k < t'1_c := ht'1.2
      refine Tr.chunk (cx := ⟨tt0, ⟨fun f => kOf [] f, fun k _ _ _ => orcL [] k, fun t => memN [] t⟩, 0, fun r => ghL [] r⟩) tt0_ok hPm fun N hN => ?_
      generalize hp : std Tryd.prog = p
      generalize hv : nvS = nv
      cbv
      subst hp
      subst hv
      subst hN
      have hr := Option.some.inj h
      subst hr
      try dsimp only [noGoto, inBlockQ, thenQ]
      repeat (first | refine (if_pos rfl).mpr ?_ | refine (if_neg (by decide)).mpr ?_)
      refine retQ_ret rfl ?_ ?_
      · exact trivial
      · exact rfl
    · refine Tr.pre (cx := ⟨tt0, ⟨fun f => kOf [] f, fun k _ _ _ => orcL [] k, fun t => memN [] t⟩, 0, fun r => ghL [] r⟩) tt0_ok hPm 1 fun N hN => ?_
      generalize hp : std Tryd.prog = p
      generalize hv : nvS = nv
      cbv
      subst hp
      subst hv
      refine ⟨rfl, ?_⟩
      subst hN
      show Tr _ _ _ _
      refine Tr.block ?_
      refine Tr.loopO (α := Int) (fun v t'2 => ⟨frm 45 [(1, .bref 1 (t'2.g 1) 0), (10, .sl 3 (nvS.len t'.fL) false (fun i j => (D_ranges_Row nvS (nvS.get d_ranges_Row t'.fL i) j))), (11, .v (.int .i64 (nvS.len t'.fL))), (12, .v (.int .i64 v))] 0, frO 45 [(1, .box (t'2.g 1) [.sl 3 (nvS.len t'.fL) false (fun i j => (D_ranges_Row nvS (nvS.get d_ranges_Row t'.fL i) j))])] 0, t'2.c⟩) (fun _ t => Hid.ok t) ⟨ctr + 12, gfn [(1, ctr + 0)], tfn [(1, false)]⟩ h ?_ ?_ (fun x t'2 f ht'2 h => ?_)
      · exact Hid.mk_ok (by omega) (And.intro (by omega)
            trivial)
      · exact GeSt.of (LeSt.frame (by show (_ : Nat) < _; (try dsimp only [std_eq, stdN]); omega) rfl rfl (And.intro ⟨_, rfl, LeD.refl _⟩
            (And.intro ⟨_, rfl, LeD.refl _⟩
            (And.intro ⟨_, rfl, LeD.refl _⟩
            (And.intro ⟨_, rfl, LeD.refl _⟩
            trivial)))) (And.intro ⟨_, rfl, LeOb.box (And.intro (LeD.refl _)
            trivial)⟩
            trivial))
      · revert h; revert ht'2; revert x; intro v ht'2 h
        obtain ⟨t'2_c, t'2_g, t'2_t⟩ := t'2
        have ht'2_c : 0 < t'2_c := ht'2.1
        have ht'2_g : ∀ k, t'2_g k < t'2_c := ht'2.2
        obtain ⟨v1, h48⟩ : ∃ v1, valO false (ranges_fits (getL d_ranges_Row t'.fL v)) = v1 := ⟨_, rfl⟩
        obtain ⟨v2, h54⟩ : ∃ v2, valO false (if ((decide (0 < v)) && ((decide (0 < v)) && (!(decide ((getL d_ranges_Row t'.fL v).fLo ≤ (getL d_ranges_Row t'.fL (v - 1)).fHi))))) = true then ranges_touches (getL d_ranges_Row t'.fL (v - 1)) (getL d_ranges_Row t'.fL v) else some false) = v2 := ⟨_, rfl⟩
        refine Tr.chunk (cx := ⟨tt0, ⟨fun f => kOf [] f, fun k _ _ _ => orcL [(18, .plain (.v (.bool v1))), (41, .plain (.v (.bool v2)))] k, fun t => memN [] t⟩, 0, fun r => ghL [] r⟩) tt0_ok hPm fun N hN => ?_
        generalize hp : std Tryd.prog = p
        generalize hv : nvS = nv
        cbv
        subst hp
        subst hv
        refine ⟨fun h46 => ?_, fun h46 => ?_⟩
        · replace h := iteO_t h h46
          replace h := chk_some h; obtain ⟨h47, h⟩ := h
          refine ⟨h47, rfl, ?_⟩
          replace h := bindO_val h48 h; clear h48; obtain ⟨h48, h⟩ := h
          refine ⟨rfl, (Or.inl (PureFn.arg (ranges_fits_ok (getL d_ranges_Row t'.fL v) v1 h48) (And.intro (LeD.agg fun j hj => by
                have hj2 : j < 3 := hj
                rcases (show j = 0 ∨ j = 1 ∨ j = 2 by omega) with rfl | rfl | rfl
                · exact LeD.refl _
                · exact LeD.refl _
                · exact LeD.refl _)
              trivial))), ?_⟩
          refine ⟨fun h49 => ?_, fun h49 => ?_⟩
          · replace h := iteO_t h h49
            subst hN
            cases h
            intro he; cases he
            intro hr
            subst hr
            try dsimp only [noGoto, inBlockQ, thenQ]
            repeat (first | refine (if_pos rfl).mpr ?_ | refine (if_neg (by decide)).mpr ?_)
            refine retQ_ret rfl ?_ ?_
            · exact trivial
            · exact rfl
          · replace h := iteO_f h h49
            replace h := chk_some h; obtain ⟨h50, h⟩ := h
            replace h := chk_some h; obtain ⟨h51, h⟩ := h
            replace h := chk_some h; obtain ⟨h52, h⟩ := h
            replace h := chk_some h; obtain ⟨h53, h⟩ := h
            replace h := bindO_val h54 h; clear h54; obtain ⟨h54, h⟩ := h
            refine ⟨(fun hg => hg), (fun _ => rfl), (fun hg => hg), (fun _ => rfl), (fun hg => hg), h50, (fun hg => hg), (fun hg => hg), h51, (fun hg => hg), (fun hg => hg), (fun hg => hg), (fun hg => hg), (fun hg => hg), (fun _ => rfl), (fun hg => hg), h52, (fun hg => hg), (fun hg => hg), h53, (fun hg => hg), (fun _ => rfl), (fun hg => hg), (fun hg => hg), (fun hg => by have h54 := guardO h54 hg; have h52 := h52 hg; have h53 := h53 hg; exact (Or.inl (PureFn.arg (ranges_touches_ok (getL d_ranges_Row t'.fL (v - 1)) (getL d_ranges_Row t'.fL v) v2 h54) (And.intro (by first | exact LeD.refl _ | exact LeD.agg (fun j hj => by (have hj2 : j < 3 := hj); (rcases (show j = 0 ∨ j = 1 ∨ j = 2 by omega) with rfl | rfl | rfl) <;> exact LeD.refl _))
                (And.intro (LeD.agg fun j hj => by
                  have hj2 : j < 3 := hj
                  rcases (show j = 0 ∨ j = 1 ∨ j = 2 by omega) with rfl | rfl | rfl
                  · exact LeD.refl _
                  · exact LeD.refl _
                  · exact LeD.refl _)
                trivial))))), (fun hg => hg), (fun hg => hg), (fun hg0 => (fun hg => (and_t hg0 (and_t hg0 hg)))), (fun hg => hg), (show drOk _ _ = true by kernel_rfl), ?_⟩
            refine ⟨fun h55 => ?_, fun h55 => ?_⟩
            · replace h := iteO_t h h55
              subst hN
              cases h
              intro he; cases he
              intro hr
              subst hr
              try dsimp only [noGoto, inBlockQ, thenQ]
              repeat (first | refine (if_pos rfl).mpr ?_ | refine (if_neg (by decide)).mpr ?_)
              refine retQ_ret rfl ?_ ?_
              · exact trivial
              · exact rfl
            · replace h := iteO_f h h55
              replace h := chk_some h; obtain ⟨h56, h⟩ := h
              refine ⟨h56, ?_⟩
              subst hN
              cases h
              show ∃ t', _ ∧ GeSt _ _ _
              refine ⟨⟨t'2_c + 14, gfn [(1, t'2_g 1)], tfn [(1, false)]⟩, Hid.mk_ok (by omega) (And.intro (by have := ht'2_g 1; omega)
                  trivial), ?_⟩
              exact GeSt.of (LeSt.frame (by show (_ : Nat) < _; (try dsimp only [std_eq, stdN]); omega) rfl rfl (And.intro ⟨_, rfl, LeD.refl _⟩
                  (And.intro ⟨_, rfl, LeD.refl _⟩
                  (And.intro ⟨_, rfl, LeD.refl _⟩
                  (And.intro ⟨_, rfl, LeD.refl _⟩
                  trivial)))) (And.intro ⟨_, rfl, LeOb.box (And.intro (LeD.refl _)
                  trivial)⟩
                  trivial))
        · replace h := iteO_f h h46
          subst hN
          cases h
          intro he; cases he
          show ∃ t', _ ∧ GeSt _ _ _
          refine ⟨⟨t'2_c + 10, gfn [], tfn []⟩, Hid.mk_ok (by omega) trivial, ?_⟩
          exact GeSt.of (LeSt.frame (by show (_ : Nat) < _; (try dsimp only [std_eq, stdN]); omega) rfl rfl trivial trivial)

theorem ucd_Shape_ok (d' : T_ucd_Data) (r' : Int) (which : Int) (r : Int) (h : ucd_Shape d' r' which = some r) : PureFn Tryd.prog 16 [(.agg 6 (fun j => (D_ucd_Data nvS d' j))), (.v (.int .i64 r')), (.v (.int .i64 which))] ((.v (.int .i64 r))) := by
  unfold ucd_Shape at h
  refine fn_tr tt0_ok Tryd.func16 (by kernel_rfl) (c := bodyOf Tryd.f16) (by kernel_rfl) ?_
  intro ctr hc
  refine Tr.pre (cx := ⟨tt0, ⟨fun f => kOf [] f, fun k _ _ _ => orcL [] k, fun t => memN [] t⟩, 0, fun r => ghL [] r⟩) tt0_ok hPm 2 fun N hN => ?_
  generalize hp : std Tryd.prog = p
  generalize hv : nvS = nv
  cbv
  subst hp
  subst hv
  refine ⟨(fun hg => hg), (fun hg => hg), ?_⟩
  refine ⟨fun h1 => ?_, fun h1 => ?_⟩
  · replace h := iteO_t h h1
    subst hN
    have hr := Option.some.inj h
    subst hr
    try dsimp only [noGoto, inBlockQ, thenQ]
    repeat (first | refine (if_pos rfl).mpr ?_ | refine (if_neg (by decide)).mpr ?_)
    refine retQ_ret rfl ?_ ?_
    · exact trivial
    · exact rfl
  · replace h := iteO_f h h1
    subst hN
    show Tr _ _ _ _
    refine Tr.cutSeq (α := Unit) h (fun _ t' => ⟨frm 54 [(1, .v (.int .i64 r'))] 0, frO 54 [] 0, t'.c⟩) (fun _ t => Hid.ok t) (fun x t' ht' h => ?_) (fun f h => ?_)
    · obtain ⟨t'_c, t'_g, t'_t⟩ := t'
      have ht'_c : 0 < t'_c := ht'.1
      have ht'_g : ∀ k, t'_g k < t'_c := ht'.2
      refine Tr.chunk (cx := ⟨tt0, ⟨fun f => kOf [] f, fun k _ _ _ => orcL [] k, fun t => memN [] t⟩, 0, fun r => ghL [] r⟩) tt0_ok hPm fun N hN => ?_
      generalize hp : std Tryd.prog = p
      generalize hv : nvS = nv
      cbv
      subst hp
      subst hv
      subst hN
      have hr := Option.some.inj h
      subst hr
      try dsimp only [noGoto, inBlockQ, thenQ]
      repeat (first | refine (if_pos rfl).mpr ?_ | refine (if_neg (by decide)).mpr ?_)
      refine retQ_ret rfl ?_ ?_
      · exact trivial
      · exact rfl
    · refine Tr.pre (cx := ⟨tt0, ⟨fun f => kOf [] f, fun k _ _ _ => orcL [] k, fun t => memN [] t⟩, 0, fun r => ghL [] r⟩) tt0_ok hPm 1 fun N hN => ?_
      generalize hp : std Tryd.prog = p
      generalize hv : nvS = nv
      cbv
      subst hp
      subst hv
      refine ⟨rfl, ?_⟩
      subst hN
      show Tr _ _ _ _
      refine Tr.block ?_
      refine Tr.loopO (α := Int) (fun v t'1 => ⟨frm 54 [(1, .v (.int .i64 r')), (2, .v (.int .i64 which)), (17, .sl 3 (nvS.len d'.fForms) false (fun i j => (D_ucd_Form nvS (nvS.get d_ucd_Form d'.fForms i) j))), (18, .v (.int .i64 (nvS.len d'.fForms))), (19, .v (.int .i64 v))] 0, frO 54 [] 0, t'1.c⟩) (fun _ t => Hid.ok t) ⟨ctr + 12, gfn [], tfn []⟩ h ?_ ?_ (fun x t'1 f ht'1 h => ?_)
      · exact Hid.mk_ok (by omega) trivial
      · exact GeSt.of (LeSt.frame (by show (_ : Nat) < _; (try dsimp only [std_eq, stdN]); omega) rfl rfl (And.intro ⟨_, rfl, LeD.refl _⟩
            (And.intro ⟨_, rfl, LeD.refl _⟩
            (And.intro ⟨_, rfl, LeD.refl _⟩
            (And.intro ⟨_, rfl, LeD.refl _⟩
            (And.intro ⟨_, rfl, LeD.refl _⟩
            trivial))))) trivial)
      · revert h; revert ht'1; revert x; intro v ht'1 h
        obtain ⟨t'1_c, t'1_g, t'1_t⟩ := t'1
        have ht'1_c : 0 < t'1_c := ht'1.1
        have ht'1_g : ∀ k, t'1_g k < t'1_c := ht'1.2
        refine Tr.chunk (cx := ⟨tt0, ⟨fun f => kOf [] f, fun k _ _ _ => orcL [] k, fun t => memN [] t⟩, 0, fun r => ghL [] r⟩) tt0_ok hPm fun N hN => ?_
        generalize hp : std Tryd.prog = p
        generalize hv : nvS = nv
        cbv
        subst hp
        subst hv
        refine ⟨fun h34 => ?_, fun h34 => ?_⟩
        · replace h := iteO_t h h34
          replace h := chk_some h; obtain ⟨h35, h⟩ := h
          refine ⟨h35, rfl, ?_⟩
          refine ⟨rfl, ?_⟩
          refine ⟨fun h36 => ?_, fun h36 => ?_⟩
          · replace h := iteO_t h h36
            replace h := chk_some h; obtain ⟨h37, h⟩ := h
            refine ⟨h37, ?_⟩
            subst hN
            cases h
            show ∃ t', _ ∧ GeSt _ _ _
            refine ⟨⟨t'1_c + 13, gfn [], tfn []⟩, Hid.mk_ok (by omega) trivial, ?_⟩
            exact GeSt.of (LeSt.frame (by show (_ : Nat) < _; (try dsimp only [std_eq, stdN]); omega) rfl rfl (And.intro ⟨_, rfl, LeD.refl _⟩
                (And.intro ⟨_, rfl, LeD.refl _⟩
                (And.intro ⟨_, rfl, LeD.refl _⟩
                (And.intro ⟨_, rfl, LeD.refl _⟩
                (And.intro ⟨_, rfl, LeD.refl _⟩
                trivial))))) trivial)
          · replace h := iteO_f h h36
            refine ⟨rfl, ?_⟩
            refine ⟨fun h38 => ?_, fun h38 => ?_⟩
            · replace h := iteO_t h h38
              replace h := chk_some h; obtain ⟨h39, h⟩ := h
              refine ⟨rfl, h39, ?_⟩
              subst hN
              cases h
              intro he; cases he
              intro hr
              subst hr
              try dsimp only [noGoto, inBlockQ, thenQ]
              repeat (first | refine (if_pos rfl).mpr ?_ | refine (if_neg (by decide)).mpr ?_)
              refine retQ_ret rfl ?_ ?_
              · exact trivial
              · exact rfl
            · replace h := iteO_f h h38
              refine ⟨rfl, (fun hg => hg), (fun hg => hg), (fun hg => hg), (fun hg => hg), (fun hg0 => (fun hg => (and_t hg0 (and_t hg0 hg)))), (fun hg => hg), ?_⟩
              refine ⟨fun h40 => ?_, fun h40 => ?_⟩
              · replace h := iteO_t h h40
                replace h := chk_some h; obtain ⟨h41, h⟩ := h
                refine ⟨rfl, h41, ?_⟩
                subst hN
                cases h
                intro he; cases he
                intro hr
                subst hr
                try dsimp only [noGoto, inBlockQ, thenQ]
                repeat (first | refine (if_pos rfl).mpr ?_ | refine (if_neg (by decide)).mpr ?_)
                refine retQ_ret rfl ?_ ?_
                · exact trivial
                · exact rfl
              · replace h := iteO_f h h40
                refine ⟨rfl, ?_⟩
                subst hN
                cases h
                intro he; cases he
                intro hr
                subst hr
                try dsimp only [noGoto, inBlockQ, thenQ]
                repeat (first | refine (if_pos rfl).mpr ?_ | refine (if_neg (by decide)).mpr ?_)
                refine retQ_ret rfl ?_ ?_
                · exact trivial
                · exact rfl
        · replace h := iteO_f h h34
          subst hN
          cases h
          intro he; cases he
          show ∃ t', _ ∧ GeSt _ _ _
          refine ⟨⟨t'1_c + 10, gfn [], tfn []⟩, Hid.mk_ok (by omega) trivial, ?_⟩
          exact GeSt.of (LeSt.frame (by show (_ : Nat) < _; (try dsimp only [std_eq, stdN]); omega) rfl rfl (And.intro ⟨_, rfl, LeD.refl _⟩
              trivial) trivial)

theorem ucd_Join_ok (d' : T_ucd_Data) (r' : Int) (r : Int) (h : ucd_Join d' r' = some r) : PureFn Tryd.prog 17 [(.agg 6 (fun j => (D_ucd_Data nvS d' j))), (.v (.int .i64 r'))] ((.v (.int .i64 r))) := by
  unfold ucd_Join at h
  refine fn_tr tt0_ok Tryd.func17 (by kernel_rfl) (c := bodyOf Tryd.f17) (by kernel_rfl) ?_
  intro ctr hc
  obtain ⟨v, h1⟩ : ∃ v, valO 0 (ranges_Get d'.fJoin r') = v := ⟨_, rfl⟩
  refine Tr.chunk (cx := ⟨tt0, ⟨fun f => kOf [] f, fun k _ _ _ => orcL [(8, .plain (.v (.int .i64 v)))] k, fun t => memN [] t⟩, 0, fun r => ghL [] r⟩) tt0_ok hPm fun N hN => ?_
  generalize hp : std Tryd.prog = p
  generalize hv : nvS = nv
  cbv
  subst hp
  subst hv
  replace h := bindO_val h1 h; clear h1; obtain ⟨h1, h⟩ := h
  refine ⟨rfl, (Or.inl (PureFn.arg (ranges_Get_ok d'.fJoin r' v h1) (And.intro (LeD.agg fun j hj => by
        have hj2 : j < 1 := hj
        rcases (show j = 0 by omega) with rfl
        · exact LeD.refl _)
      (And.intro (LeD.refl _)
      trivial)))), ?_⟩
  subst hN
  have hr := Option.some.inj h
  subst hr
  try dsimp only [noGoto, inBlockQ, thenQ]
  repeat (first | refine (if_pos rfl).mpr ?_ | refine (if_neg (by decide)).mpr ?_)
  refine retQ_ret rfl ?_ ?_
  · exact trivial
  · exact rfl

theorem ucd_Bracket_ok (d' : T_ucd_Data) (r' : Int) (r : (Int × Int)) (h : ucd_Bracket d' r' = some r) : PureFn Tryd.prog 18 [(.agg 6 (fun j => (D_ucd_Data nvS d' j))), (.v (.int .i64 r'))] (.tup 2 (fun j => match j with | 0 => (.v (.int .i64 r.1)) | 1 => (.v (.int .i64 r.2)) | _ => .junk)) := by
  unfold ucd_Bracket at h
  refine fn_tr tt0_ok Tryd.func18 (by kernel_rfl) (c := bodyOf Tryd.f18) (by kernel_rfl) ?_
  intro ctr hc
  refine Tr.pre (cx := ⟨tt0, ⟨fun f => kOf [] f, fun k _ _ _ => orcL [] k, fun t => memN [] t⟩, 0, fun r => ghL [] r⟩) tt0_ok hPm 1 fun N hN => ?_
  generalize hp : std Tryd.prog = p
  generalize hv : nvS = nv
  cbv
  subst hp
  subst hv
  subst hN
  show Tr _ _ _ _
  refine Tr.cutSeq (α := Unit) h (fun _ t' => ⟨frm 29 [] 0, frO 29 [] 0, t'.c⟩) (fun _ t => Hid.ok t) (fun x t' ht' h => ?_) (fun f h => ?_)
  · obtain ⟨t'_c, t'_g, t'_t⟩ := t'
    have ht'_c : 0 < t'_c := ht'.1
    have ht'_g : ∀ k, t'_g k < t'_c := ht'.2
    refine Tr.chunk (cx := ⟨tt0, ⟨fun f => kOf [] f, fun k _ _ _ => orcL [] k, fun t => memN [] t⟩, 0, fun r => ghL [] r⟩) tt0_ok hPm fun N hN => ?_
    generalize hp : std Tryd.prog = p
    generalize hv : nvS = nv
    cbv
    subst hp
    subst hv
    subst hN
    have hr := Option.some.inj h
    subst hr
    try dsimp only [noGoto, inBlockQ, thenQ]
    repeat (first | refine (if_pos rfl).mpr ?_ | refine (if_neg (by decide)).mpr ?_)
    refine retQ_ret rfl ?_ ?_
    · exact trivial
    · exact (And.intro (rfl)
          rfl)
  · refine Tr.pre (cx := ⟨tt0, ⟨fun f => kOf [] f, fun k _ _ _ => orcL [] k, fun t => memN [] t⟩, 0, fun r => ghL [] r⟩) tt0_ok hPm 1 fun N hN => ?_
    generalize hp : std Tryd.prog = p
    generalize hv : nvS = nv
    cbv
    subst hp
    subst hv
    refine ⟨rfl, ?_⟩
    subst hN
    show Tr _ _ _ _
    refine Tr.block ?_
    refine Tr.loopO (α := Int) (fun v t'1 => ⟨frm 29 [(1, .v (.int .i64 r')), (9, .sl 2 (nvS.len d'.fBrackets) false (fun i j => (D_ucd_Pair nvS (nvS.get d_ucd_Pair d'.fBrackets i) j))), (10, .v (.int .i64 (nvS.len d'.fBrackets))), (11, .v (.int .i64 v))] 0, frO 29 [] 0, t'1.c⟩) (fun _ t => Hid.ok t) ⟨ctr + 11, gfn [], tfn []⟩ h ?_ ?_ (fun x t'1 f ht'1 h => ?_)
    · exact Hid.mk_ok (by omega) trivial
    · exact GeSt.of (LeSt.frame (by show (_ : Nat) < _; (try dsimp only [std_eq, stdN]); omega) rfl rfl (And.intro ⟨_, rfl, LeD.refl _⟩
          (And.intro ⟨_, rfl, LeD.refl _⟩
          (And.intro ⟨_, rfl, LeD.refl _⟩
          (And.intro ⟨_, rfl, LeD.refl _⟩
          trivial)))) trivial)
    · revert h; revert ht'1; revert x; intro v ht'1 h
      obtain ⟨t'1_c, t'1_g, t'1_t⟩ := t'1
      have ht'1_c : 0 < t'1_c := ht'1.1
      have ht'1_g : ∀ k, t'1_g k < t'1_c := ht'1.2
      refine Tr.chunk (cx := ⟨tt0, ⟨fun f => kOf [] f, fun k _ _ _ => orcL [] k, fun t => memN [] t⟩, 0, fun r => ghL [] r⟩) tt0_ok hPm fun N hN => ?_
      generalize hp : std Tryd.prog = p
      generalize hv : nvS = nv
      cbv
      subst hp
      subst hv
      refine ⟨fun h21 => ?_, fun h21 => ?_⟩
      · replace h := iteO_t h h21
        replace h := chk_some h; obtain ⟨h22, h⟩ := h
        refine ⟨h22, rfl, ?_⟩
        refine ⟨rfl, ?_⟩
        refine ⟨fun h23 => ?_, fun h23 => ?_⟩
        · replace h := iteO_t h h23
          refine ⟨rfl, ?_⟩
          subst hN
          cases h
          intro he; cases he
          intro hr
          subst hr
          try dsimp only [noGoto, inBlockQ, thenQ]
          repeat (first | refine (if_pos rfl).mpr ?_ | refine (if_neg (by decide)).mpr ?_)
          refine retQ_ret rfl ?_ ?_
          · exact trivial
          · exact (And.intro (rfl)
                rfl)
        · replace h := iteO_f h h23
          refine ⟨rfl, ?_⟩
          refine ⟨fun h24 => ?_, fun h24 => ?_⟩
          · replace h := iteO_t h h24
            refine ⟨rfl, ?_⟩
            subst hN
            cases h
            intro he; cases he
            intro hr
            subst hr
            try dsimp only [noGoto, inBlockQ, thenQ]
            repeat (first | refine (if_pos rfl).mpr ?_ | refine (if_neg (by decide)).mpr ?_)
            refine retQ_ret rfl ?_ ?_
            · exact trivial
            · exact (And.intro (rfl)
                  rfl)
          · replace h := iteO_f h h24
            replace h := chk_some h; obtain ⟨h25, h⟩ := h
            refine ⟨h25, ?_⟩
            subst hN
            cases h
            show ∃ t', _ ∧ GeSt _ _ _
            refine ⟨⟨t'1_c + 15, gfn [], tfn []⟩, Hid.mk_ok (by omega) trivial, ?_⟩
            exact GeSt.of (LeSt.frame (by show (_ : Nat) < _; (try dsimp only [std_eq, stdN]); omega) rfl rfl (And.intro ⟨_, rfl, LeD.refl _⟩
                (And.intro ⟨_, rfl, LeD.refl _⟩
                (And.intro ⟨_, rfl, LeD.refl _⟩
                (And.intro ⟨_, rfl, LeD.refl _⟩
                trivial)))) trivial)
      · replace h := iteO_f h h21
        subst hN
        cases h
        intro he; cases he
        show ∃ t', _ ∧ GeSt _ _ _
        refine ⟨⟨t'1_c + 10, gfn [], tfn []⟩, Hid.mk_ok (by omega) trivial, ?_⟩
        exact GeSt.of (LeSt.frame (by show (_ : Nat) < _; (try dsimp only [std_eq, stdN]); omega) rfl rfl trivial trivial)

theorem ucd_Mirror_ok (d' : T_ucd_Data) (r' : Int) (r : Int) (h : ucd_Mirror d' r' = some r) : PureFn Tryd.prog 19 [(.agg 6 (fun j => (D_ucd_Data nvS d' j))), (.v (.int .i64 r'))] ((.v (.int .i64 r))) := by
  unfold ucd_Mirror at h
  refine fn_tr tt0_ok Tryd.func19 (by kernel_rfl) (c := bodyOf Tryd.f19) (by kernel_rfl) ?_
  intro ctr hc
  refine Tr.pre (cx := ⟨tt0, ⟨fun f => kOf [] f, fun k _ _ _ => orcL [] k, fun t => memN [] t⟩, 0, fun r => ghL [] r⟩) tt0_ok hPm 1 fun N hN => ?_
  generalize hp : std Tryd.prog = p
  generalize hv : nvS = nv
  cbv
  subst hp
  subst hv
  subst hN
  show Tr _ _ _ _
  refine Tr.cutSeq (α := Unit) h (fun _ t' => ⟨frm 29 [(1, .v (.int .i64 r'))] 0, frO 29 [] 0, t'.c⟩) (fun _ t => Hid.ok t) (fun x t' ht' h => ?_) (fun f h => ?_)
  · obtain ⟨t'_c, t'_g, t'_t⟩ := t'
    have ht'_c : 0 < t'_c := ht'.1
    have ht'_g : ∀ k, t'_g k < t'_c := ht'.2
    refine Tr.chunk (cx := ⟨tt0, ⟨fun f => kOf [] f, fun k _ _ _ => orcL [] k, fun t => memN [] t⟩, 0, fun r => ghL [] r⟩) tt0_ok hPm fun N hN => ?_
    generalize hp : std Tryd.prog = p
    generalize hv : nvS = nv
    cbv
    subst hp
    subst hv
    subst hN
    have hr := Option.some.inj h
    subst hr
    try dsimp only [noGoto, inBlockQ, thenQ]
    repeat (first | refine (if_pos rfl).mpr ?_ | refine (if_neg (by decide)).mpr ?_)
    refine retQ_ret rfl ?_ ?_
    · exact trivial
    · exact rfl
  · refine Tr.pre (cx := ⟨tt0, ⟨fun f => kOf [] f, fun k _ _ _ => orcL [] k, fun t => memN [] t⟩, 0, fun r => ghL [] r⟩) tt0_ok hPm 1 fun N hN => ?_
    generalize hp : std Tryd.prog = p
    generalize hv : nvS = nv
    cbv
    subst hp
    subst hv
    refine ⟨rfl, ?_⟩
    subst hN
    show Tr _ _ _ _
    refine Tr.block ?_
    refine Tr.loopO (α := Int) (fun v t'1 => ⟨frm 29 [(1, .v (.int .i64 r')), (8, .sl 2 (nvS.len d'.fMirror) false (fun i j => (D_ucd_Pair nvS (nvS.get d_ucd_Pair d'.fMirror i) j))), (9, .v (.int .i64 (nvS.len d'.fMirror))), (10, .v (.int .i64 v))] 0, frO 29 [] 0, t'1.c⟩) (fun _ t => Hid.ok t) ⟨ctr + 11, gfn [], tfn []⟩ h ?_ ?_ (fun x t'1 f ht'1 h => ?_)
    · exact Hid.mk_ok (by omega) trivial
    · exact GeSt.of (LeSt.frame (by show (_ : Nat) < _; (try dsimp only [std_eq, stdN]); omega) rfl rfl (And.intro ⟨_, rfl, LeD.refl _⟩
          (And.intro ⟨_, rfl, LeD.refl _⟩
          (And.intro ⟨_, rfl, LeD.refl _⟩
          (And.intro ⟨_, rfl, LeD.refl _⟩
          trivial)))) trivial)
    · revert h; revert ht'1; revert x; intro v ht'1 h
      obtain ⟨t'1_c, t'1_g, t'1_t⟩ := t'1
      have ht'1_c : 0 < t'1_c := ht'1.1
      have ht'1_g : ∀ k, t'1_g k < t'1_c := ht'1.2
      refine Tr.chunk (cx := ⟨tt0, ⟨fun f => kOf [] f, fun k _ _ _ => orcL [] k, fun t => memN [] t⟩, 0, fun r => ghL [] r⟩) tt0_ok hPm fun N hN => ?_
      generalize hp : std Tryd.prog = p
      generalize hv : nvS = nv
      cbv
      subst hp
      subst hv
      refine ⟨fun h21 => ?_, fun h21 => ?_⟩
      · replace h := iteO_t h h21
        replace h := chk_some h; obtain ⟨h22, h⟩ := h
        refine ⟨h22, rfl, ?_⟩
        refine ⟨rfl, ?_⟩
        refine ⟨fun h23 => ?_, fun h23 => ?_⟩
        · replace h := iteO_t h h23
          refine ⟨rfl, ?_⟩
          subst hN
          cases h
          intro he; cases he
          intro hr
          subst hr
          try dsimp only [noGoto, inBlockQ, thenQ]
          repeat (first | refine (if_pos rfl).mpr ?_ | refine (if_neg (by decide)).mpr ?_)
          refine retQ_ret rfl ?_ ?_
          · exact trivial
          · exact rfl
        · replace h := iteO_f h h23
          refine ⟨rfl, ?_⟩
          refine ⟨fun h24 => ?_, fun h24 => ?_⟩
          · replace h := iteO_t h h24
            refine ⟨rfl, ?_⟩
            subst hN
            cases h
            intro he; cases he
            intro hr
            subst hr
            try dsimp only [noGoto, inBlockQ, thenQ]
            repeat (first | refine (if_pos rfl).mpr ?_ | refine (if_neg (by decide)).mpr ?_)
            refine retQ_ret rfl ?_ ?_
            · exact trivial
            · exact rfl
          · replace h := iteO_f h h24
            replace h := chk_some h; obtain ⟨h25, h⟩ := h
            refine ⟨h25, ?_⟩
            subst hN
            cases h
            show ∃ t', _ ∧ GeSt _ _ _
            refine ⟨⟨t'1_c + 15, gfn [], tfn []⟩, Hid.mk_ok (by omega) trivial, ?_⟩
            exact GeSt.of (LeSt.frame (by show (_ : Nat) < _; (try dsimp only [std_eq, stdN]); omega) rfl rfl (And.intro ⟨_, rfl, LeD.refl _⟩
                (And.intro ⟨_, rfl, LeD.refl _⟩
                (And.intro ⟨_, rfl, LeD.refl _⟩
                (And.intro ⟨_, rfl, LeD.refl _⟩
                trivial)))) trivial)
      · replace h := iteO_f h h21
        subst hN
        cases h
        intro he; cases he
        show ∃ t', _ ∧ GeSt _ _ _
        refine ⟨⟨t'1_c + 10, gfn [], tfn []⟩, Hid.mk_ok (by omega) trivial, ?_⟩
        exact GeSt.of (LeSt.frame (by show (_ : Nat) < _; (try dsimp only [std_eq, stdN]); omega) rfl rfl (And.intro ⟨_, rfl, LeD.refl _⟩
            trivial) trivial)

theorem ucd_Class_ok (d' : T_ucd_Data) (r' : Int) (r : Int) (h : ucd_Class d' r' = some r) : PureFn Tryd.prog 20 [(.agg 6 (fun j => (D_ucd_Data nvS d' j))), (.v (.int .i64 r'))] ((.v (.int .i64 r))) := by
  unfold ucd_Class at h
  refine fn_tr tt0_ok Tryd.func20 (by kernel_rfl) (c := bodyOf Tryd.f20) (by kernel_rfl) ?_
  intro ctr hc
  obtain ⟨v, h1⟩ : ∃ v, valO 0 (ranges_Get d'.fClass r') = v := ⟨_, rfl⟩
  refine Tr.chunk (cx := ⟨tt0, ⟨fun f => kOf [] f, fun k _ _ _ => orcL [(9, .plain (.v (.int .i64 v)))] k, fun t => memN [] t⟩, 0, fun r => ghL [] r⟩) tt0_ok hPm fun N hN => ?_
  generalize hp : std Tryd.prog = p
  generalize hv : nvS = nv
  cbv
  subst hp
  subst hv
  replace h := bindO_val h1 h; clear h1; obtain ⟨h1, h⟩ := h
  refine ⟨rfl, (Or.inl (PureFn.arg (ranges_Get_ok d'.fClass r' v h1) (And.intro (LeD.agg fun j hj => by
        have hj2 : j < 1 := hj
        rcases (show j = 0 by omega) with rfl
        · exact LeD.refl _)
      (And.intro (LeD.refl _)
      trivial)))), ?_⟩
  refine ⟨fun h2 => ?_, fun h2 => ?_⟩
  · replace h := iteO_t h h2
    subst hN
    have hr := Option.some.inj h
    subst hr
    try dsimp only [noGoto, inBlockQ, thenQ]
    repeat (first | refine (if_pos rfl).mpr ?_ | refine (if_neg (by decide)).mpr ?_)
    refine retQ_ret rfl ?_ ?_
    · exact trivial
    · exact rfl
  · replace h := iteO_f h h2
    subst hN
    have hr := Option.some.inj h
    subst hr
    try dsimp only [noGoto, inBlockQ, thenQ]
    repeat (first | refine (if_pos rfl).mpr ?_ | refine (if_neg (by decide)).mpr ?_)
    refine retQ_ret rfl ?_ ?_
    · exact trivial
    · exact rfl

theorem ucd_Width_ok (d' : T_ucd_Data) (r' : Int) (r : Int) (h : ucd_Width d' r' = some r) : PureFn Tryd.prog 21 [(.agg 6 (fun j => (D_ucd_Data nvS d' j))), (.v (.int .i64 r'))] ((.v (.int .i64 r))) := by
  unfold ucd_Width at h
  refine fn_tr tt0_ok Tryd.func21 (by kernel_rfl) (c := bodyOf Tryd.f21) (by kernel_rfl) ?_
  intro ctr hc
  obtain ⟨v, h1⟩ : ∃ v, valO 0 (ranges_Get d'.fWide r') = v := ⟨_, rfl⟩
  refine Tr.chunk (cx := ⟨tt0, ⟨fun f => kOf [] f, fun k _ _ _ => orcL [(9, .plain (.v (.int .i64 v)))] k, fun t => memN [] t⟩, 0, fun r => ghL [] r⟩) tt0_ok hPm fun N hN => ?_
  generalize hp : std Tryd.prog = p
  generalize hv : nvS = nv
  cbv
  subst hp
  subst hv
  replace h := bindO_val h1 h; clear h1; obtain ⟨h1, h⟩ := h
  refine ⟨rfl, (Or.inl (PureFn.arg (ranges_Get_ok d'.fWide r' v h1) (And.intro (LeD.agg fun j hj => by
        have hj2 : j < 1 := hj
        rcases (show j = 0 by omega) with rfl
        · exact LeD.refl _)
      (And.intro (LeD.refl _)
      trivial)))), ?_⟩
  refine ⟨fun h2 => ?_, fun h2 => ?_⟩
  · replace h := iteO_t h h2
    replace h := chk_some h; obtain ⟨h3, h⟩ := h
    refine ⟨h3, ?_⟩
    subst hN
    have hr := Option.some.inj h
    subst hr
    try dsimp only [noGoto, inBlockQ, thenQ]
    repeat (first | refine (if_pos rfl).mpr ?_ | refine (if_neg (by decide)).mpr ?_)
    refine retQ_ret rfl ?_ ?_
    · exact trivial
    · exact rfl
  · replace h := iteO_f h h2
    subst hN
    have hr := Option.some.inj h
    subst hr
    try dsimp only [noGoto, inBlockQ, thenQ]
    repeat (first | refine (if_pos rfl).mpr ?_ | refine (if_neg (by decide)).mpr ?_)
    refine retQ_ret rfl ?_ ?_
    · exact trivial
    · exact rfl

theorem ucd_Ligature_ok (lam : Int) (alef : Int) (final : Bool) (r : (Int × Bool)) (h : ucd_Ligature lam alef final = some r) : PureFn Tryd.prog 23 [(.v (.int .i64 lam)), (.v (.int .i64 alef)), (.v (.bool final))] (.tup 2 (fun j => match j with | 0 => (.v (.int .i64 r.1)) | 1 => (.v (.bool r.2)) | _ => .junk)) := by
  unfold ucd_Ligature at h
  refine fn_tr tt0_ok Tryd.func23 (by kernel_rfl) (c := bodyOf Tryd.f23) (by kernel_rfl) ?_
  intro ctr hc
  refine Tr.pre (cx := ⟨tt0, ⟨fun f => kOf [] f, fun k _ _ _ => orcL [] k, fun t => memN [] t⟩, 0, fun r => ghL [] r⟩) tt0_ok hPm 3 fun N hN => ?_
  generalize hp : std Tryd.prog = p
  generalize hv : nvS = nv
  cbv
  subst hp
  subst hv
  refine ⟨fun h1 => ?_, fun h1 => ?_⟩
  · replace h := iteO_t h h1
    subst hN
    have hr := Option.some.inj h
    subst hr
    try dsimp only [noGoto, inBlockQ, thenQ]
    repeat (first | refine (if_pos rfl).mpr ?_ | refine (if_neg (by decide)).mpr ?_)
    refine retQ_ret rfl ?_ ?_
    · exact trivial
    · exact (And.intro (rfl)
          rfl)
  · replace h := iteO_f h h1
    subst hN
    show Tr _ _ _ _
    refine Tr.chunk (cx := ⟨tt0, ⟨fun f => kOf [] f, fun k _ _ _ => orcL [] k, fun t => memN [] t⟩, 0, fun r => ghL [] r⟩) tt0_ok hPm fun N hN => ?_
    generalize hp : std Tryd.prog = p
    generalize hv : nvS = nv
    cbv
    subst hp
    subst hv
    refine ⟨fun h2 => ?_, fun h2 => ?_⟩
    · replace h := iteO_t h h2
      refine ⟨fun h3 => ?_, fun h3 => ?_⟩
      · replace h := iteO_t h h3
        replace h := chk_some h; obtain ⟨h4, h⟩ := h
        refine ⟨h4, ?_⟩
        subst hN
        have hr := Option.some.inj h
        subst hr
        try dsimp only [noGoto, inBlockQ, thenQ]
        repeat (first | refine (if_pos rfl).mpr ?_ | refine (if_neg (by decide)).mpr ?_)
        refine retQ_ret rfl ?_ ?_
        · exact trivial
        · exact (And.intro (rfl)
              rfl)
      · replace h := iteO_f h h3
        subst hN
        have hr := Option.some.inj h
        subst hr
        try dsimp only [noGoto, inBlockQ, thenQ]
        repeat (first | refine (if_pos rfl).mpr ?_ | refine (if_neg (by decide)).mpr ?_)
        refine retQ_ret rfl ?_ ?_
        · exact trivial
        · exact (And.intro (rfl)
              rfl)
    · replace h := iteO_f h h2
      refine ⟨fun h5 => ?_, fun h5 => ?_⟩
      · replace h := iteO_t h h5
        refine ⟨fun h6 => ?_, fun h6 => ?_⟩
        · replace h := iteO_t h h6
          replace h := chk_some h; obtain ⟨h7, h⟩ := h
          refine ⟨h7, ?_⟩
          subst hN
          have hr := Option.some.inj h
          subst hr
          try dsimp only [noGoto, inBlockQ, thenQ]
          repeat (first | refine (if_pos rfl).mpr ?_ | refine (if_neg (by decide)).mpr ?_)
          refine retQ_ret rfl ?_ ?_
          · exact trivial
          · exact (And.intro (rfl)
                rfl)
        · replace h := iteO_f h h6
          subst hN
          have hr := Option.some.inj h
          subst hr
          try dsimp only [noGoto, inBlockQ, thenQ]
          repeat (first | refine (if_pos rfl).mpr ?_ | refine (if_neg (by decide)).mpr ?_)
          refine retQ_ret rfl ?_ ?_
          · exact trivial
          · exact (And.intro (rfl)
                rfl)
      · replace h := iteO_f h h5
        refine ⟨fun h8 => ?_, fun h8 => ?_⟩
        · replace h := iteO_t h h8
          refine ⟨fun h9 => ?_, fun h9 => ?_⟩
          · replace h := iteO_t h h9
            replace h := chk_some h; obtain ⟨h10, h⟩ := h
            refine ⟨h10, ?_⟩
            subst hN
            have hr := Option.some.inj h
            subst hr
            try dsimp only [noGoto, inBlockQ, thenQ]
            repeat (first | refine (if_pos rfl).mpr ?_ | refine (if_neg (by decide)).mpr ?_)
            refine retQ_ret rfl ?_ ?_
            · exact trivial
            · exact (And.intro (rfl)
                  rfl)
          · replace h := iteO_f h h9
            subst hN
            have hr := Option.some.inj h
            subst hr
            try dsimp only [noGoto, inBlockQ, thenQ]
            repeat (first | refine (if_pos rfl).mpr ?_ | refine (if_neg (by decide)).mpr ?_)
            refine retQ_ret rfl ?_ ?_
            · exact trivial
            · exact (And.intro (rfl)
                  rfl)
        · replace h := iteO_f h h8
          refine ⟨fun h11 => ?_, fun h11 => ?_⟩
          · replace h := iteO_t h h11
            refine ⟨fun h12 => ?_, fun h12 => ?_⟩
            · replace h := iteO_t h h12
              replace h := chk_some h; obtain ⟨h13, h⟩ := h
              refine ⟨h13, ?_⟩
              subst hN
              have hr := Option.some.inj h
              subst hr
              try dsimp only [noGoto, inBlockQ, thenQ]
              repeat (first | refine (if_pos rfl).mpr ?_ | refine (if_neg (by decide)).mpr ?_)
              refine retQ_ret rfl ?_ ?_
              · exact trivial
              · exact (And.intro (rfl)
                    rfl)
            · replace h := iteO_f h h12
              subst hN
              have hr := Option.some.inj h
              subst hr
              try dsimp only [noGoto, inBlockQ, thenQ]
              repeat (first | refine (if_pos rfl).mpr ?_ | refine (if_neg (by decide)).mpr ?_)
              refine retQ_ret rfl ?_ ?_
              · exact trivial
              · exact (And.intro (rfl)
                    rfl)
          · replace h := iteO_f h h11
            subst hN
            have hr := Option.some.inj h
            subst hr
            try dsimp only [noGoto, inBlockQ, thenQ]
            repeat (first | refine (if_pos rfl).mpr ?_ | refine (if_neg (by decide)).mpr ?_)
            refine retQ_ret rfl ?_ ?_
            · exact trivial
            · exact (And.intro (rfl)
                  rfl)

theorem lapwinglaw02_awake_ok  (r : Bool) (h : lapwinglaw02_awake = some r) : PureFn Tryd.prog 14 [] ((.v (.bool r))) := by
  unfold lapwinglaw02_awake at h
  refine fn_tr tt0_ok Tryd.func14 (by kernel_rfl) (c := bodyOf Tryd.f14) (by kernel_rfl) ?_
  intro ctr hc
  obtain ⟨v, h1⟩ : ∃ v, valO d_ucd_Data (ucd_Load) = v := ⟨_, rfl⟩
  obtain ⟨v1, h2⟩ : ∃ v1, valO 0 (ucd_Class v 1488) = v1 := ⟨_, rfl⟩
  obtain ⟨v2, h3⟩ : ∃ v2, valO 0 (if (v1 == 2) = true then ucd_Mirror v 40 else some 0) = v2 := ⟨_, rfl⟩
  obtain ⟨v3, h4⟩ : ∃ v3, valO 0 (if (if (v1 == 2) = true then (v2 == 41) else false) = true then ucd_Class v 65 else some 0) = v3 := ⟨_, rfl⟩
  obtain ⟨v4, h5⟩ : ∃ v4, valO 0 (if (if (if (v1 == 2) = true then (v2 == 41) else false) = true then (v3 == 1) else false) = true then ucd_Width v 65 else some 0) = v4 := ⟨_, rfl⟩
  obtain ⟨v5, h6⟩ : ∃ v5, valO 0 (if (if (if (if (v1 == 2) = true then (v2 == 41) else false) = true then (v3 == 1) else false) = true then (v4 == 1) else false) = true then ucd_Shape v 1576 3 else some 0) = v5 := ⟨_, rfl⟩
  refine Tr.chunk (cx := ⟨tt0, ⟨fun f => kOf [] f, fun k _ _ _ => orcL [(2, .plain (.agg 6 (fun j => (D_ucd_Data nvS v j)))), (4, .plain (.v (.int .i64 v1))), (8, .plain (.v (.int .i64 v2))), (13, .plain (.v (.int .i64 v3))), (18, .plain (.v (.int .i64 v4))), (23, .plain (.v (.int .i64 v5)))] k, fun t => memN [] t⟩, 0, fun r => ghL [] r⟩) tt0_ok hPm fun N hN => ?_
  generalize hp : std Tryd.prog = p
  generalize hv : nvS = nv
  cbv
  subst hp
  subst hv
  replace h := bindO_val h1 h; clear h1; obtain ⟨h1, h⟩ := h
  refine ⟨(Or.inl (PureFn.arg (ucd_Load_ok  v h1) trivial)), rfl, ?_⟩
  replace h := bindO_val h2 h; clear h2; obtain ⟨h2, h⟩ := h
  replace h := bindO_val h3 h; clear h3; obtain ⟨h3, h⟩ := h
  replace h := bindO_val h4 h; clear h4; obtain ⟨h4, h⟩ := h
  replace h := bindO_val h5 h; clear h5; obtain ⟨h5, h⟩ := h
  replace h := bindO_val h6 h; clear h6; obtain ⟨h6, h⟩ := h
  refine ⟨rfl, (Or.inl (PureFn.arg (ucd_Class_ok v 1488 v1 h2) (And.intro (LeD.agg fun j hj => by
        have hj2 : j < 6 := hj
        rcases (show j = 0 ∨ j = 1 ∨ j = 2 ∨ j = 3 ∨ j = 4 ∨ j = 5 by omega) with rfl | rfl | rfl | rfl | rfl | rfl
        · exact LeD.refl _
        · exact LeD.refl _
        · exact LeD.refl _
        · exact LeD.refl _
        · exact LeD.refl _
        · exact LeD.refl _)
      (And.intro (LeD.refl _)
      trivial)))), (fun _ => rfl), (fun hg => hg), (fun hg => by have h3 := guardO h3 hg; exact (Or.inl (PureFn.arg (ucd_Mirror_ok v 40 v2 h3) (And.intro (LeD.agg fun j hj => by
        have hj2 : j < 6 := hj
        rcases (show j = 0 ∨ j = 1 ∨ j = 2 ∨ j = 3 ∨ j = 4 ∨ j = 5 by omega) with rfl | rfl | rfl | rfl | rfl | rfl
        · exact LeD.refl _
        · exact LeD.refl _
        · exact LeD.refl _
        · exact LeD.refl _
        · exact LeD.refl _
        · exact LeD.refl _)
      (And.intro (LeD.refl _)
      trivial))))), (fun hg => hg), (fun hg => hg), (fun _ => rfl), (fun hg => hg), (fun hg => by have h4 := guardO h4 hg; exact (Or.inl (PureFn.arg (ucd_Class_ok v 65 v3 h4) (And.intro (LeD.agg fun j hj => by
        have hj2 : j < 6 := hj
        rcases (show j = 0 ∨ j = 1 ∨ j = 2 ∨ j = 3 ∨ j = 4 ∨ j = 5 by omega) with rfl | rfl | rfl | rfl | rfl | rfl
        · exact LeD.refl _
        · exact LeD.refl _
        · exact LeD.refl _
        · exact LeD.refl _
        · exact LeD.refl _
        · exact LeD.refl _)
      (And.intro (LeD.refl _)
      trivial))))), (fun hg => hg), (fun hg => hg), (fun _ => rfl), (fun hg => hg), (fun hg => by have h5 := guardO h5 hg; exact (Or.inl (PureFn.arg (ucd_Width_ok v 65 v4 h5) (And.intro (LeD.agg fun j hj => by
        have hj2 : j < 6 := hj
        rcases (show j = 0 ∨ j = 1 ∨ j = 2 ∨ j = 3 ∨ j = 4 ∨ j = 5 by omega) with rfl | rfl | rfl | rfl | rfl | rfl
        · exact LeD.refl _
        · exact LeD.refl _
        · exact LeD.refl _
        · exact LeD.refl _
        · exact LeD.refl _
        · exact LeD.refl _)
      (And.intro (LeD.refl _)
      trivial))))), (fun hg => hg), (fun hg => hg), (fun _ => rfl), (fun hg => hg), (fun hg => by have h6 := guardO h6 hg; exact (Or.inl (PureFn.arg (ucd_Shape_ok v 1576 3 v5 h6) (And.intro (LeD.agg fun j hj => by
        have hj2 : j < 6 := hj
        rcases (show j = 0 ∨ j = 1 ∨ j = 2 ∨ j = 3 ∨ j = 4 ∨ j = 5 by omega) with rfl | rfl | rfl | rfl | rfl | rfl
        · exact LeD.refl _
        · exact LeD.refl _
        · exact LeD.refl _
        · exact LeD.refl _
        · exact LeD.refl _
        · exact LeD.refl _)
      (And.intro (LeD.refl _)
      (And.intro (LeD.refl _)
      trivial)))))), (fun hg => hg), (fun hg => hg), ?_⟩
  subst hN
  have hr := Option.some.inj h
  subst hr
  try dsimp only [noGoto, inBlockQ, thenQ]
  repeat (first | refine (if_pos rfl).mpr ?_ | refine (if_neg (by decide)).mpr ?_)
  refine retQ_ret rfl ?_ ?_
  · exact trivial
  · exact rfl
end Go.Vx
