/- Walks, by program (lift.py). -/
import Derived.Test.YtigfggfbpdhmfaaDoorUWalk
import Derived.Test.YtigfggfbpdhmfaaDoorUWalkU
set_option linter.all false
namespace Go.Vx
open Go.Proofs
set_option maxRecDepth 100000
set_option linter.unusedVariables false
set_option linter.unusedSimpArgs false

theorem lapwinglaw02_UcdForms_ok (a : Int) (b : Int) (i : Int) (j : Int) (r : Bool) (h : lapwinglaw02_UcdForms a b i j = some r) : PureFn Tryd.prog 3 [(.v (.int .i64 a)), (.v (.int .i64 b)), (.v (.int .i64 i)), (.v (.int .i64 j))] ((.v (.bool r))) := by
  unfold lapwinglaw02_UcdForms at h
  refine fn_tr tt0_ok Tryd.func3 (by kernel_rfl) (c := bodyOf Tryd.f3) (by kernel_rfl) ?_
  intro ctr hc
  obtain ⟨v, h1⟩ : ∃ v, valO false (lapwinglaw02_awake) = v := ⟨_, rfl⟩
  obtain ⟨v1, h2⟩ : ∃ v1, valO d_ucd_Data (ucd_Load) = v1 := ⟨_, rfl⟩
  obtain ⟨v2, h3⟩ : ∃ v2, valO 0 (ucd_Shape v1 a (bndI .i64 i 3)) = v2 := ⟨_, rfl⟩
  obtain ⟨v3, h4⟩ : ∃ v3, valO 0 (ucd_Shape v1 b (bndI .i64 j 3)) = v3 := ⟨_, rfl⟩
  obtain ⟨v4, h6⟩ : ∃ v4, valO 0 (if v = true then ucd_Join v1 a else some 0) = v4 := ⟨_, rfl⟩
  obtain ⟨v5, h7⟩ : ∃ v5, valO 0 (if (v && (v && (!(!(v4 == 0))))) = true then ucd_Shape v1 a 0 else some 0) = v5 := ⟨_, rfl⟩
  obtain ⟨v6, h8⟩ : ∃ v6, valO 0 (if (if v = true then (if (!(v4 == 0)) = true then true else (v5 == v2)) else false) = true then ucd_Join v1 a else some 0) = v6 := ⟨_, rfl⟩
  obtain ⟨v7, h9⟩ : ∃ v7, valO 0 (if ((if v = true then (if (!(v4 == 0)) = true then true else (v5 == v2)) else false) && ((if v = true then (if (!(v4 == 0)) = true then true else (v5 == v2)) else false) && (!(!(v6 == 1))))) = true then ucd_Shape v1 a 0 else some 0) = v7 := ⟨_, rfl⟩
  obtain ⟨v8, h10⟩ : ∃ v8, valO 0 (if ((if v = true then (if (!(v4 == 0)) = true then true else (v5 == v2)) else false) && ((if v = true then (if (!(v4 == 0)) = true then true else (v5 == v2)) else false) && (!(!(v6 == 1))))) = true then ucd_Shape v1 a 2 else some 0) = v8 := ⟨_, rfl⟩
  obtain ⟨v9, h11⟩ : ∃ v9, valO 0 (if (((if v = true then (if (!(v4 == 0)) = true then true else (v5 == v2)) else false) && ((if v = true then (if (!(v4 == 0)) = true then true else (v5 == v2)) else false) && (!(!(v6 == 1))))) && (((if v = true then (if (!(v4 == 0)) = true then true else (v5 == v2)) else false) && ((if v = true then (if (!(v4 == 0)) = true then true else (v5 == v2)) else false) && (!(!(v6 == 1))))) && (v7 == v8))) = true then ucd_Shape v1 a 1 else some 0) = v9 := ⟨_, rfl⟩
  obtain ⟨v10, h12⟩ : ∃ v10, valO 0 (if (((if v = true then (if (!(v4 == 0)) = true then true else (v5 == v2)) else false) && ((if v = true then (if (!(v4 == 0)) = true then true else (v5 == v2)) else false) && (!(!(v6 == 1))))) && (((if v = true then (if (!(v4 == 0)) = true then true else (v5 == v2)) else false) && ((if v = true then (if (!(v4 == 0)) = true then true else (v5 == v2)) else false) && (!(!(v6 == 1))))) && (v7 == v8))) = true then ucd_Shape v1 a 3 else some 0) = v10 := ⟨_, rfl⟩
  obtain ⟨v11, h14⟩ : ∃ v11, valO 0 (if (if (if v = true then (if (!(v4 == 0)) = true then true else (v5 == v2)) else false) = true then (if (!(v6 == 1)) = true then true else (if (v7 == v8) = true then (v9 == v10) else false)) else false) = true then ucd_Shape v1 a ((-1) - (bndI .i64 i 3)) else some 0) = v11 := ⟨_, rfl⟩
  refine Tr.chunk (cx := ⟨tt0, ⟨fun f => kOf [] f, fun k _ _ _ => orcL [(13, .plain (.v (.bool v))), (14, .plain (.agg 6 (fun j => (D_ucd_Data nvS v1 j)))), (19, .plain (.v (.int .i64 v2))), (24, .plain (.v (.int .i64 v3))), (47, .plain (.v (.int .i64 v4))), (52, .plain (.v (.int .i64 v5))), (60, .plain (.v (.int .i64 v6))), (65, .plain (.v (.int .i64 v7))), (68, .plain (.v (.int .i64 v8))), (73, .plain (.v (.int .i64 v9))), (76, .plain (.v (.int .i64 v10))), (87, .plain (.v (.int .i64 v11)))] k, fun t => memN [] t⟩, 0, fun r => ghL [] r⟩) tt0_ok hPm fun N hN => ?_
  generalize hp : std Tryd.prog = p
  generalize hv : nvS = nv
  cbv
  subst hp
  subst hv
  replace h := bindO_val h1 h; clear h1; obtain ⟨h1, h⟩ := h
  refine ⟨(Or.inl (PureFn.arg (lapwinglaw02_awake_ok  v h1) trivial)), ?_⟩
  replace h := bindO_val h2 h; clear h2; obtain ⟨h2, h⟩ := h
  refine ⟨(Or.inl (PureFn.arg (ucd_Load_ok  v1 h2) trivial)), rfl, ?_⟩
  replace h := bindO_val h3 h; clear h3; obtain ⟨h3, h⟩ := h
  refine ⟨rfl, (Or.inl (PureFn.arg (ucd_Shape_ok v1 a (bndI .i64 i 3) v2 h3) (And.intro (LeD.agg fun j hj => by
        have hj2 : j < 6 := hj
        rcases (show j = 0 ∨ j = 1 ∨ j = 2 ∨ j = 3 ∨ j = 4 ∨ j = 5 by omega) with rfl | rfl | rfl | rfl | rfl | rfl
        · exact LeD.refl _
        · exact LeD.refl _
        · exact LeD.refl _
        · exact LeD.refl _
        · exact LeD.refl _
        · exact LeD.refl _)
      (And.intro (LeD.refl _)
      (And.intro (LeD.refl _)
      trivial))))), ?_⟩
  replace h := bindO_val h4 h; clear h4; obtain ⟨h4, h⟩ := h
  refine ⟨rfl, (Or.inl (PureFn.arg (ucd_Shape_ok v1 b (bndI .i64 j 3) v3 h4) (And.intro (LeD.agg fun j hj => by
        have hj2 : j < 6 := hj
        rcases (show j = 0 ∨ j = 1 ∨ j = 2 ∨ j = 3 ∨ j = 4 ∨ j = 5 by omega) with rfl | rfl | rfl | rfl | rfl | rfl
        · exact LeD.refl _
        · exact LeD.refl _
        · exact LeD.refl _
        · exact LeD.refl _
        · exact LeD.refl _
        · exact LeD.refl _)
      (And.intro (LeD.refl _)
      (And.intro (LeD.refl _)
      trivial))))), ?_⟩
  refine ⟨(fun hg => hg), (fun hg => hg), (fun hg => hg), (fun hg => hg), (fun hg => hg), (fun hg => hg), (fun hg => hg), (fun hg => hg), (fun hg => hg), ?_⟩
  refine ⟨fun h5 => ?_, fun h5 => ?_⟩
  · replace h := iteO_t h h5
    subst hN
    have hr := Option.some.inj h
    subst hr
    try dsimp only [noGoto, inBlockQ, thenQ]
    repeat (first | refine (if_pos rfl).mpr ?_ | refine (if_neg (by decide)).mpr ?_)
    refine retQ_ret rfl ?_ ?_
    · exact trivial
    · exact rfl
  · replace h := iteO_f h h5
    replace h := bindO_val h6 h; clear h6; obtain ⟨h6, h⟩ := h
    replace h := bindO_val h7 h; clear h7; obtain ⟨h7, h⟩ := h
    replace h := bindO_val h8 h; clear h8; obtain ⟨h8, h⟩ := h
    replace h := bindO_val h9 h; clear h9; obtain ⟨h9, h⟩ := h
    replace h := bindO_val h10 h; clear h10; obtain ⟨h10, h⟩ := h
    replace h := bindO_val h11 h; clear h11; obtain ⟨h11, h⟩ := h
    replace h := bindO_val h12 h; clear h12; obtain ⟨h12, h⟩ := h
    replace h := chk_some h; obtain ⟨h13, h⟩ := h
    replace h := bindO_val h14 h; clear h14; obtain ⟨h14, h⟩ := h
    refine ⟨(fun _ => rfl), (fun hg => hg), (fun hg => hg), (fun hg => by have h6 := guardO h6 hg; exact (Or.inl (PureFn.arg (ucd_Join_ok v1 a v4 h6) (And.intro (LeD.agg fun j hj => by
          have hj2 : j < 6 := hj
          rcases (show j = 0 ∨ j = 1 ∨ j = 2 ∨ j = 3 ∨ j = 4 ∨ j = 5 by omega) with rfl | rfl | rfl | rfl | rfl | rfl
          · exact LeD.refl _
          · exact LeD.refl _
          · exact LeD.refl _
          · exact LeD.refl _
          · exact LeD.refl _
          · exact LeD.refl _)
        (And.intro (LeD.refl _)
        trivial))))), (fun hg => hg), (fun _ => rfl), (fun hg => hg), (fun hg => hg), (fun hg => by have h7 := guardO h7 hg; exact (Or.inl (PureFn.arg (ucd_Shape_ok v1 a 0 v5 h7) (And.intro (LeD.agg fun j hj => by
          have hj2 : j < 6 := hj
          rcases (show j = 0 ∨ j = 1 ∨ j = 2 ∨ j = 3 ∨ j = 4 ∨ j = 5 by omega) with rfl | rfl | rfl | rfl | rfl | rfl
          · exact LeD.refl _
          · exact LeD.refl _
          · exact LeD.refl _
          · exact LeD.refl _
          · exact LeD.refl _
          · exact LeD.refl _)
        (And.intro (LeD.refl _)
        (And.intro (LeD.refl _)
        trivial)))))), (fun hg => hg), (fun hg => hg), (fun hg => hg), (fun hg => hg), (fun hg0 => (fun hg => (and_t hg0 (and_t hg0 hg)))), (fun hg => hg), (fun _ => rfl), (fun hg => hg), (fun hg => hg), (fun hg => by have h8 := guardO h8 hg; exact (Or.inl (PureFn.arg (ucd_Join_ok v1 a v6 h8) (And.intro (LeD.agg fun j hj => by
          have hj2 : j < 6 := hj
          rcases (show j = 0 ∨ j = 1 ∨ j = 2 ∨ j = 3 ∨ j = 4 ∨ j = 5 by omega) with rfl | rfl | rfl | rfl | rfl | rfl
          · exact LeD.refl _
          · exact LeD.refl _
          · exact LeD.refl _
          · exact LeD.refl _
          · exact LeD.refl _
          · exact LeD.refl _)
        (And.intro (LeD.refl _)
        trivial))))), (fun hg => hg), (fun _ => rfl), (fun hg => hg), (fun hg => hg), (fun hg => by have h9 := guardO h9 hg; exact (Or.inl (PureFn.arg (ucd_Shape_ok v1 a 0 v7 h9) (And.intro (LeD.agg fun j hj => by
          have hj2 : j < 6 := hj
          rcases (show j = 0 ∨ j = 1 ∨ j = 2 ∨ j = 3 ∨ j = 4 ∨ j = 5 by omega) with rfl | rfl | rfl | rfl | rfl | rfl
          · exact LeD.refl _
          · exact LeD.refl _
          · exact LeD.refl _
          · exact LeD.refl _
          · exact LeD.refl _
          · exact LeD.refl _)
        (And.intro (LeD.refl _)
        (And.intro (LeD.refl _)
        trivial)))))), (fun _ => rfl), (fun hg => hg), (fun hg => hg), (fun hg => by have h10 := guardO h10 hg; exact (Or.inl (PureFn.arg (ucd_Shape_ok v1 a 2 v8 h10) (And.intro (LeD.agg fun j hj => by
          have hj2 : j < 6 := hj
          rcases (show j = 0 ∨ j = 1 ∨ j = 2 ∨ j = 3 ∨ j = 4 ∨ j = 5 by omega) with rfl | rfl | rfl | rfl | rfl | rfl
          · exact LeD.refl _
          · exact LeD.refl _
          · exact LeD.refl _
          · exact LeD.refl _
          · exact LeD.refl _
          · exact LeD.refl _)
        (And.intro (LeD.refl _)
        (And.intro (LeD.refl _)
        trivial)))))), (fun hg => hg), (fun hg => hg), (fun _ => rfl), (fun hg => hg), (fun hg => hg), (fun hg => by have h11 := guardO h11 hg; exact (Or.inl (PureFn.arg (ucd_Shape_ok v1 a 1 v9 h11) (And.intro (LeD.agg fun j hj => by
          have hj2 : j < 6 := hj
          rcases (show j = 0 ∨ j = 1 ∨ j = 2 ∨ j = 3 ∨ j = 4 ∨ j = 5 by omega) with rfl | rfl | rfl | rfl | rfl | rfl
          · exact LeD.refl _
          · exact LeD.refl _
          · exact LeD.refl _
          · exact LeD.refl _
          · exact LeD.refl _
          · exact LeD.refl _)
        (And.intro (LeD.refl _)
        (And.intro (LeD.refl _)
        trivial)))))), (fun _ => rfl), (fun hg => hg), (fun hg => hg), (fun hg => by have h12 := guardO h12 hg; exact (Or.inl (PureFn.arg (ucd_Shape_ok v1 a 3 v10 h12) (And.intro (LeD.agg fun j hj => by
          have hj2 : j < 6 := hj
          rcases (show j = 0 ∨ j = 1 ∨ j = 2 ∨ j = 3 ∨ j = 4 ∨ j = 5 by omega) with rfl | rfl | rfl | rfl | rfl | rfl
          · exact LeD.refl _
          · exact LeD.refl _
          · exact LeD.refl _
          · exact LeD.refl _
          · exact LeD.refl _
          · exact LeD.refl _)
        (And.intro (LeD.refl _)
        (And.intro (LeD.refl _)
        trivial)))))), (fun hg => hg), (fun hg => hg), (fun hg => hg), (fun hg => hg), (fun hg0 => (fun hg => (and_t hg0 (and_t hg0 hg)))), (fun hg => hg), (fun hg => hg), (fun hg0 => (fun hg => (and_t hg0 (and_t hg0 hg)))), (fun hg => hg), (fun _ => rfl), (fun hg => hg), (fun hg => hg), h13, (fun hg => hg), (fun hg => hg), (fun hg => hg), (fun hg => by have h14 := guardO h14 hg; have h13 := h13 hg; exact (Or.inl (PureFn.arg (ucd_Shape_ok v1 a ((-1) - (bndI .i64 i 3)) v11 h14) (And.intro (LeD.agg fun j hj => by
          have hj2 : j < 6 := hj
          rcases (show j = 0 ∨ j = 1 ∨ j = 2 ∨ j = 3 ∨ j = 4 ∨ j = 5 by omega) with rfl | rfl | rfl | rfl | rfl | rfl
          · exact LeD.refl _
          · exact LeD.refl _
          · exact LeD.refl _
          · exact LeD.refl _
          · exact LeD.refl _
          · exact LeD.refl _)
        (And.intro (LeD.refl _)
        (And.intro (LeD.refl _)
        trivial)))))), (fun hg => hg), (fun hg => hg), (fun hg => hg), (show drOk _ _ = true by kernel_rfl), ?_⟩
    subst hN
    have hr := Option.some.inj h
    subst hr
    try dsimp only [noGoto, inBlockQ, thenQ]
    repeat (first | refine (if_pos rfl).mpr ?_ | refine (if_neg (by decide)).mpr ?_)
    refine retQ_ret rfl ?_ ?_
    · exact trivial
    · exact rfl

theorem lapwinglaw02_UcdPairs_ok (r' : Int) (r : Bool) (h : lapwinglaw02_UcdPairs r' = some r) : PureFn Tryd.prog 4 [(.v (.int .i64 r'))] ((.v (.bool r))) := by
  unfold lapwinglaw02_UcdPairs at h
  refine fn_tr tt0_ok Tryd.func4 (by kernel_rfl) (c := bodyOf Tryd.f4) (by kernel_rfl) ?_
  intro ctr hc
  obtain ⟨v, h1⟩ : ∃ v, valO false (lapwinglaw02_awake) = v := ⟨_, rfl⟩
  obtain ⟨v1, h2⟩ : ∃ v1, valO d_ucd_Data (ucd_Load) = v1 := ⟨_, rfl⟩
  obtain ⟨v2, h3⟩ : ∃ v2, valO (0, 0) (ucd_Bracket v1 r') = v2 := ⟨_, rfl⟩
  obtain ⟨v3, h4⟩ : ∃ v3, valO (0, 0) (ucd_Bracket v1 v2.1) = v3 := ⟨_, rfl⟩
  obtain ⟨v4, h6⟩ : ∃ v4, valO 0 (if ((!(v2.2 == 0)) && ((!(v2.2 == 0)) && (!(if (!(v3.1 == r')) = true then true else (!((v2.2 + v3.2) == 3)))))) = true then ucd_Mirror v1 r' else some 0) = v4 := ⟨_, rfl⟩
  obtain ⟨v5, h8⟩ : ∃ v5, valO 0 (if v = true then ucd_Mirror v1 r' else some 0) = v5 := ⟨_, rfl⟩
  obtain ⟨v6, h9⟩ : ∃ v6, valO 0 (if v = true then ucd_Mirror v1 v5 else some 0) = v6 := ⟨_, rfl⟩
  refine Tr.chunk (cx := ⟨tt0, ⟨fun f => kOf [] f, fun k _ _ _ => orcL [(9, .plain (.v (.bool v))), (10, .plain (.agg 6 (fun j => (D_ucd_Data nvS v1 j)))), (14, .plain (.tup 2 (fun j => match j with | 0 => (.v (.int .i64 v2.1)) | 1 => (.v (.int .i64 v2.2)) | _ => .junk))), (20, .plain (.tup 2 (fun j => match j with | 0 => (.v (.int .i64 v3.1)) | 1 => (.v (.int .i64 v3.2)) | _ => .junk))), (38, .plain (.v (.int .i64 v4))), (48, .plain (.v (.int .i64 v5))), (49, .plain (.v (.int .i64 v6)))] k, fun t => memN [] t⟩, 0, fun r => ghL [] r⟩) tt0_ok hPm fun N hN => ?_
  generalize hp : std Tryd.prog = p
  generalize hv : nvS = nv
  cbv
  subst hp
  subst hv
  replace h := bindO_val h1 h; clear h1; obtain ⟨h1, h⟩ := h
  refine ⟨(Or.inl (PureFn.arg (lapwinglaw02_awake_ok  v h1) trivial)), ?_⟩
  replace h := bindO_val h2 h; clear h2; obtain ⟨h2, h⟩ := h
  refine ⟨(Or.inl (PureFn.arg (ucd_Load_ok  v1 h2) trivial)), rfl, ?_⟩
  replace h := bindO_val h3 h; clear h3; obtain ⟨h3, h⟩ := h
  refine ⟨rfl, (Or.inl (PureFn.arg (ucd_Bracket_ok v1 r' v2 h3) (And.intro (LeD.agg fun j hj => by
        have hj2 : j < 6 := hj
        rcases (show j = 0 ∨ j = 1 ∨ j = 2 ∨ j = 3 ∨ j = 4 ∨ j = 5 by omega) with rfl | rfl | rfl | rfl | rfl | rfl
        · exact LeD.refl _
        · exact LeD.refl _
        · exact LeD.refl _
        · exact LeD.refl _
        · exact LeD.refl _
        · exact LeD.refl _)
      (And.intro (LeD.refl _)
      trivial)))), ?_⟩
  replace h := bindO_val h4 h; clear h4; obtain ⟨h4, h⟩ := h
  refine ⟨rfl, (Or.inl (PureFn.arg (ucd_Bracket_ok v1 v2.1 v3 h4) (And.intro (LeD.agg fun j hj => by
        have hj2 : j < 6 := hj
        rcases (show j = 0 ∨ j = 1 ∨ j = 2 ∨ j = 3 ∨ j = 4 ∨ j = 5 by omega) with rfl | rfl | rfl | rfl | rfl | rfl
        · exact LeD.refl _
        · exact LeD.refl _
        · exact LeD.refl _
        · exact LeD.refl _
        · exact LeD.refl _
        · exact LeD.refl _)
      (And.intro (LeD.refl _)
      trivial)))), ?_⟩
  replace h := chk_some h; obtain ⟨h5, h⟩ := h
  replace h := bindO_val h6 h; clear h6; obtain ⟨h6, h⟩ := h
  refine ⟨(fun hg => hg), (fun hg => hg), (fun hg => hg), (fun hg => hg), h5, (fun hg => hg), (fun hg => hg), (fun hg => hg), (fun hg0 => (fun hg => (and_t hg0 (and_t hg0 hg)))), (fun _ => rfl), (fun hg => hg), (fun hg => hg), (fun hg => by have h6 := guardO h6 hg; exact (Or.inl (PureFn.arg (ucd_Mirror_ok v1 r' v4 h6) (And.intro (LeD.agg fun j hj => by
        have hj2 : j < 6 := hj
        rcases (show j = 0 ∨ j = 1 ∨ j = 2 ∨ j = 3 ∨ j = 4 ∨ j = 5 by omega) with rfl | rfl | rfl | rfl | rfl | rfl
        · exact LeD.refl _
        · exact LeD.refl _
        · exact LeD.refl _
        · exact LeD.refl _
        · exact LeD.refl _
        · exact LeD.refl _)
      (And.intro (LeD.refl _)
      trivial))))), (fun hg => hg), (fun hg => hg), (fun hg => hg), (fun hg => hg), (fun hg0 => (fun hg => (and_t hg0 (and_t hg0 hg)))), (fun hg => hg), ?_⟩
  refine ⟨fun h7 => ?_, fun h7 => ?_⟩
  · replace h := iteO_t h h7
    subst hN
    have hr := Option.some.inj h
    subst hr
    try dsimp only [noGoto, inBlockQ, thenQ]
    repeat (first | refine (if_pos rfl).mpr ?_ | refine (if_neg (by decide)).mpr ?_)
    refine retQ_ret rfl ?_ ?_
    · exact trivial
    · exact rfl
  · replace h := iteO_f h h7
    replace h := bindO_val h8 h; clear h8; obtain ⟨h8, h⟩ := h
    replace h := bindO_val h9 h; clear h9; obtain ⟨h9, h⟩ := h
    refine ⟨(fun _ => rfl), (fun _ => rfl), (fun hg => hg), (fun hg => hg), (fun hg => by have h8 := guardO h8 hg; exact (Or.inl (PureFn.arg (ucd_Mirror_ok v1 r' v5 h8) (And.intro (LeD.agg fun j hj => by
          have hj2 : j < 6 := hj
          rcases (show j = 0 ∨ j = 1 ∨ j = 2 ∨ j = 3 ∨ j = 4 ∨ j = 5 by omega) with rfl | rfl | rfl | rfl | rfl | rfl
          · exact LeD.refl _
          · exact LeD.refl _
          · exact LeD.refl _
          · exact LeD.refl _
          · exact LeD.refl _
          · exact LeD.refl _)
        (And.intro (LeD.refl _)
        trivial))))), (fun hg => hg), (fun hg => hg), (fun hg => by have h9 := guardO h9 hg; exact (Or.inl (PureFn.arg (ucd_Mirror_ok v1 v5 v6 h9) (And.intro (LeD.agg fun j hj => by
          have hj2 : j < 6 := hj
          rcases (show j = 0 ∨ j = 1 ∨ j = 2 ∨ j = 3 ∨ j = 4 ∨ j = 5 by omega) with rfl | rfl | rfl | rfl | rfl | rfl
          · exact LeD.refl _
          · exact LeD.refl _
          · exact LeD.refl _
          · exact LeD.refl _
          · exact LeD.refl _
          · exact LeD.refl _)
        (And.intro (LeD.refl _)
        trivial))))), (fun hg => hg), (fun hg => hg), (fun hg => hg), (fun hg => hg), (fun hg => hg), (fun hg => hg), (fun hg => hg), (show drOk _ _ = true by kernel_rfl), ?_⟩
    subst hN
    have hr := Option.some.inj h
    subst hr
    try dsimp only [noGoto, inBlockQ, thenQ]
    repeat (first | refine (if_pos rfl).mpr ?_ | refine (if_neg (by decide)).mpr ?_)
    refine retQ_ret rfl ?_ ?_
    · exact trivial
    · exact rfl

theorem lapwinglaw02_UcdSane_ok (r' : Int) (r : Bool) (h : lapwinglaw02_UcdSane r' = some r) : PureFn Tryd.prog 5 [(.v (.int .i64 r'))] ((.v (.bool r))) := by
  unfold lapwinglaw02_UcdSane at h
  refine fn_tr tt0_ok Tryd.func5 (by kernel_rfl) (c := bodyOf Tryd.f5) (by kernel_rfl) ?_
  intro ctr hc
  obtain ⟨v, h1⟩ : ∃ v, valO false (lapwinglaw02_awake) = v := ⟨_, rfl⟩
  obtain ⟨v1, h2⟩ : ∃ v1, valO d_ucd_Data (ucd_Load) = v1 := ⟨_, rfl⟩
  obtain ⟨v2, h3⟩ : ∃ v2, valO 0 (ucd_Class v1 r') = v2 := ⟨_, rfl⟩
  obtain ⟨v3, h4⟩ : ∃ v3, valO 0 (ucd_Width v1 r') = v3 := ⟨_, rfl⟩
  obtain ⟨v4, h5⟩ : ∃ v4, valO 0 (ucd_Join v1 r') = v4 := ⟨_, rfl⟩
  obtain ⟨v5, h6⟩ : ∃ v5, valO false (if v = true then ranges_Sane v1.fClass else some false) = v5 := ⟨_, rfl⟩
  obtain ⟨v6, h7⟩ : ∃ v6, valO false (if (if v = true then v5 else false) = true then ranges_Sane v1.fWide else some false) = v6 := ⟨_, rfl⟩
  obtain ⟨v7, h8⟩ : ∃ v7, valO false (if (if (if v = true then v5 else false) = true then v6 else false) = true then ranges_Sane v1.fJoin else some false) = v7 := ⟨_, rfl⟩
  refine Tr.chunk (cx := ⟨tt0, ⟨fun f => kOf [] f, fun k _ _ _ => orcL [(8, .plain (.v (.bool v))), (9, .plain (.agg 6 (fun j => (D_ucd_Data nvS v1 j)))), (12, .plain (.v (.int .i64 v2))), (15, .plain (.v (.int .i64 v3))), (18, .plain (.v (.int .i64 v4))), (23, .plain (.v (.bool v5))), (28, .plain (.v (.bool v6))), (33, .plain (.v (.bool v7)))] k, fun t => memN [] t⟩, 0, fun r => ghL [] r⟩) tt0_ok hPm fun N hN => ?_
  generalize hp : std Tryd.prog = p
  generalize hv : nvS = nv
  cbv
  subst hp
  subst hv
  replace h := bindO_val h1 h; clear h1; obtain ⟨h1, h⟩ := h
  refine ⟨(Or.inl (PureFn.arg (lapwinglaw02_awake_ok  v h1) trivial)), ?_⟩
  replace h := bindO_val h2 h; clear h2; obtain ⟨h2, h⟩ := h
  refine ⟨(Or.inl (PureFn.arg (ucd_Load_ok  v1 h2) trivial)), rfl, ?_⟩
  replace h := bindO_val h3 h; clear h3; obtain ⟨h3, h⟩ := h
  refine ⟨rfl, (Or.inl (PureFn.arg (ucd_Class_ok v1 r' v2 h3) (And.intro (LeD.agg fun j hj => by
        have hj2 : j < 6 := hj
        rcases (show j = 0 ∨ j = 1 ∨ j = 2 ∨ j = 3 ∨ j = 4 ∨ j = 5 by omega) with rfl | rfl | rfl | rfl | rfl | rfl
        · exact LeD.refl _
        · exact LeD.refl _
        · exact LeD.refl _
        · exact LeD.refl _
        · exact LeD.refl _
        · exact LeD.refl _)
      (And.intro (LeD.refl _)
      trivial)))), ?_⟩
  replace h := bindO_val h4 h; clear h4; obtain ⟨h4, h⟩ := h
  refine ⟨rfl, (Or.inl (PureFn.arg (ucd_Width_ok v1 r' v3 h4) (And.intro (LeD.agg fun j hj => by
        have hj2 : j < 6 := hj
        rcases (show j = 0 ∨ j = 1 ∨ j = 2 ∨ j = 3 ∨ j = 4 ∨ j = 5 by omega) with rfl | rfl | rfl | rfl | rfl | rfl
        · exact LeD.refl _
        · exact LeD.refl _
        · exact LeD.refl _
        · exact LeD.refl _
        · exact LeD.refl _
        · exact LeD.refl _)
      (And.intro (LeD.refl _)
      trivial)))), ?_⟩
  replace h := bindO_val h5 h; clear h5; obtain ⟨h5, h⟩ := h
  refine ⟨rfl, (Or.inl (PureFn.arg (ucd_Join_ok v1 r' v4 h5) (And.intro (LeD.agg fun j hj => by
        have hj2 : j < 6 := hj
        rcases (show j = 0 ∨ j = 1 ∨ j = 2 ∨ j = 3 ∨ j = 4 ∨ j = 5 by omega) with rfl | rfl | rfl | rfl | rfl | rfl
        · exact LeD.refl _
        · exact LeD.refl _
        · exact LeD.refl _
        · exact LeD.refl _
        · exact LeD.refl _
        · exact LeD.refl _)
      (And.intro (LeD.refl _)
      trivial)))), ?_⟩
  replace h := bindO_val h6 h; clear h6; obtain ⟨h6, h⟩ := h
  replace h := bindO_val h7 h; clear h7; obtain ⟨h7, h⟩ := h
  replace h := bindO_val h8 h; clear h8; obtain ⟨h8, h⟩ := h
  refine ⟨(fun hg => hg), (fun _ => rfl), (fun hg => hg), (fun hg => by have h6 := guardO h6 hg; exact (Or.inl (PureFn.arg (ranges_Sane_ok v1.fClass v5 h6) (And.intro (LeD.agg fun j hj => by
        have hj2 : j < 1 := hj
        rcases (show j = 0 by omega) with rfl
        · exact LeD.refl _)
      trivial)))), (fun hg => hg), (fun hg => hg), (fun _ => rfl), (fun hg => hg), (fun hg => by have h7 := guardO h7 hg; exact (Or.inl (PureFn.arg (ranges_Sane_ok v1.fWide v6 h7) (And.intro (LeD.agg fun j hj => by
        have hj2 : j < 1 := hj
        rcases (show j = 0 by omega) with rfl
        · exact LeD.refl _)
      trivial)))), (fun hg => hg), (fun hg => hg), (fun _ => rfl), (fun hg => hg), (fun hg => by have h8 := guardO h8 hg; exact (Or.inl (PureFn.arg (ranges_Sane_ok v1.fJoin v7 h8) (And.intro (LeD.agg fun j hj => by
        have hj2 : j < 1 := hj
        rcases (show j = 0 by omega) with rfl
        · exact LeD.refl _)
      trivial)))), (fun hg => hg), (fun hg => hg), (fun hg => hg), (fun hg => hg), (fun hg => hg), (fun hg => hg), (fun hg => hg), (fun hg => hg), (fun hg => hg), (fun hg => hg), (fun hg => hg), (fun hg => hg), (fun hg => hg), (fun hg => hg), (fun hg => hg), (fun hg => hg), (fun hg => hg), (fun hg0 => (fun hg => (and_t hg0 (and_t hg0 hg)))), (fun hg => hg), (fun hg => hg), (fun hg => hg), (fun hg => hg), (fun hg => hg), (fun hg0 => (fun hg => (and_t hg0 (and_t hg0 hg)))), (fun hg => hg), ?_⟩
  subst hN
  have hr := Option.some.inj h
  subst hr
  try dsimp only [noGoto, inBlockQ, thenQ]
  repeat (first | refine (if_pos rfl).mpr ?_ | refine (if_neg (by decide)).mpr ?_)
  refine retQ_ret rfl ?_ ?_
  · exact trivial
  · exact rfl

theorem lapwinglaw02_UcdLigature_ok (a : Int) (b : Int) (i : Bool) (j : Bool) (r : Bool) (h : lapwinglaw02_UcdLigature a b i j = some r) : PureFn Tryd.prog 6 [(.v (.int .i64 a)), (.v (.int .i64 b)), (.v (.bool i)), (.v (.bool j))] ((.v (.bool r))) := by
  unfold lapwinglaw02_UcdLigature at h
  refine fn_tr tt0_ok Tryd.func6 (by kernel_rfl) (c := bodyOf Tryd.f6) (by kernel_rfl) ?_
  intro ctr hc
  obtain ⟨v, h1⟩ : ∃ v, valO false (lapwinglaw02_awake) = v := ⟨_, rfl⟩
  obtain ⟨v1, h2⟩ : ∃ v1, valO d_ucd_Data (ucd_Load) = v1 := ⟨_, rfl⟩
  obtain ⟨v2, h3⟩ : ∃ v2, valO (0, false) (ucd_Ligature 1604 a i) = v2 := ⟨_, rfl⟩
  obtain ⟨v3, h4⟩ : ∃ v3, valO (0, false) (ucd_Ligature 1604 b j) = v3 := ⟨_, rfl⟩
  obtain ⟨v4, h6⟩ : ∃ v4, valO 0 (if ((v && (v && (!(!v2.2)))) && ((v && (v && (!(!v2.2)))) && (if (decide (65269 ≤ v2.1)) = true then (decide (v2.1 ≤ 65276)) else false))) = true then ucd_Class v1 v2.1 else some 0) = v4 := ⟨_, rfl⟩
  obtain ⟨v5, h7⟩ : ∃ v5, valO 0 (if ((v && (v && (!(!v2.2)))) && ((v && (v && (!(!v2.2)))) && (if (if (decide (65269 ≤ v2.1)) = true then (decide (v2.1 ≤ 65276)) else false) = true then (v4 == 3) else false))) = true then ucd_Join v1 a else some 0) = v5 := ⟨_, rfl⟩
  refine Tr.chunk (cx := ⟨tt0, ⟨fun f => kOf [] f, fun k _ _ _ => orcL [(15, .plain (.v (.bool v))), (16, .plain (.agg 6 (fun j => (D_ucd_Data nvS v1 j)))), (20, .plain (.tup 2 (fun j => match j with | 0 => (.v (.int .i64 v2.1)) | 1 => (.v (.bool v2.2)) | _ => .junk))), (26, .plain (.tup 2 (fun j => match j with | 0 => (.v (.int .i64 v3.1)) | 1 => (.v (.bool v3.2)) | _ => .junk))), (61, .plain (.v (.int .i64 v4))), (67, .plain (.v (.int .i64 v5)))] k, fun t => memN [] t⟩, 0, fun r => ghL [] r⟩) tt0_ok hPm fun N hN => ?_
  generalize hp : std Tryd.prog = p
  generalize hv : nvS = nv
  cbv
  subst hp
  subst hv
  replace h := bindO_val h1 h; clear h1; obtain ⟨h1, h⟩ := h
  refine ⟨(Or.inl (PureFn.arg (lapwinglaw02_awake_ok  v h1) trivial)), ?_⟩
  replace h := bindO_val h2 h; clear h2; obtain ⟨h2, h⟩ := h
  refine ⟨(Or.inl (PureFn.arg (ucd_Load_ok  v1 h2) trivial)), rfl, ?_⟩
  replace h := bindO_val h3 h; clear h3; obtain ⟨h3, h⟩ := h
  refine ⟨(Or.inl (PureFn.arg (ucd_Ligature_ok 1604 a i v2 h3) (And.intro (LeD.refl _)
      (And.intro (LeD.refl _)
      (And.intro (LeD.refl _)
      trivial))))), ?_⟩
  replace h := bindO_val h4 h; clear h4; obtain ⟨h4, h⟩ := h
  refine ⟨(Or.inl (PureFn.arg (ucd_Ligature_ok 1604 b j v3 h4) (And.intro (LeD.refl _)
      (And.intro (LeD.refl _)
      (And.intro (LeD.refl _)
      trivial))))), ?_⟩
  refine ⟨(fun hg => hg), (fun hg => hg), (fun hg => hg), (fun hg => hg), (fun hg => hg), (fun hg => hg), (fun hg => hg), (fun hg => hg), (fun hg => hg), (fun hg0 => (fun hg => (and_t hg0 (and_t hg0 hg)))), (fun hg => hg), (fun hg => hg), (fun hg => hg), ?_⟩
  refine ⟨fun h5 => ?_, fun h5 => ?_⟩
  · replace h := iteO_t h h5
    subst hN
    have hr := Option.some.inj h
    subst hr
    try dsimp only [noGoto, inBlockQ, thenQ]
    repeat (first | refine (if_pos rfl).mpr ?_ | refine (if_neg (by decide)).mpr ?_)
    refine retQ_ret rfl ?_ ?_
    · exact trivial
    · exact rfl
  · replace h := iteO_f h h5
    replace h := bindO_val h6 h; clear h6; obtain ⟨h6, h⟩ := h
    replace h := bindO_val h7 h; clear h7; obtain ⟨h7, h⟩ := h
    refine ⟨(fun hg => hg), (fun hg => hg), (fun hg => hg), (fun hg => hg), (fun hg => hg), (fun hg0 => (fun hg => (and_t hg0 (and_t hg0 hg)))), (fun _ => rfl), (fun hg => hg), (fun hg => hg), (fun hg => by have h6 := guardO h6 hg; exact (Or.inl (PureFn.arg (ucd_Class_ok v1 v2.1 v4 h6) (And.intro (LeD.agg fun j hj => by
          have hj2 : j < 6 := hj
          rcases (show j = 0 ∨ j = 1 ∨ j = 2 ∨ j = 3 ∨ j = 4 ∨ j = 5 by omega) with rfl | rfl | rfl | rfl | rfl | rfl
          · exact LeD.refl _
          · exact LeD.refl _
          · exact LeD.refl _
          · exact LeD.refl _
          · exact LeD.refl _
          · exact LeD.refl _)
        (And.intro (LeD.refl _)
        trivial))))), (fun hg => hg), (fun hg => hg), (fun hg => hg), (fun hg0 => (fun hg => (and_t hg0 (and_t hg0 hg)))), (fun _ => rfl), (fun hg => hg), (fun hg => hg), (fun hg => by have h7 := guardO h7 hg; exact (Or.inl (PureFn.arg (ucd_Join_ok v1 a v5 h7) (And.intro (LeD.agg fun j hj => by
          have hj2 : j < 6 := hj
          rcases (show j = 0 ∨ j = 1 ∨ j = 2 ∨ j = 3 ∨ j = 4 ∨ j = 5 by omega) with rfl | rfl | rfl | rfl | rfl | rfl
          · exact LeD.refl _
          · exact LeD.refl _
          · exact LeD.refl _
          · exact LeD.refl _
          · exact LeD.refl _
          · exact LeD.refl _)
        (And.intro (LeD.refl _)
        trivial))))), (fun hg => hg), (fun hg => hg), (fun hg => hg), (fun hg0 => (fun hg => (and_t hg0 (and_t hg0 hg)))), (fun hg => hg), (fun hg => hg), (fun hg0 => (fun hg => (and_t hg0 (and_t hg0 hg)))), (fun hg => hg), (fun hg => hg), (fun hg => hg), (fun hg => hg), (fun hg0 => (fun hg => (and_t hg0 (and_t hg0 hg)))), (fun hg => hg), ?_⟩
    subst hN
    have hr := Option.some.inj h
    subst hr
    try dsimp only [noGoto, inBlockQ, thenQ]
    repeat (first | refine (if_pos rfl).mpr ?_ | refine (if_neg (by decide)).mpr ?_)
    refine retQ_ret rfl ?_ ?_
    · exact trivial
    · exact rfl

theorem lapwinglaw02_UcdWide_ok (r' : Int) (r : Bool) (h : lapwinglaw02_UcdWide r' = some r) : PureFn Tryd.prog 7 [(.v (.int .i64 r'))] ((.v (.bool r))) := by
  unfold lapwinglaw02_UcdWide at h
  refine fn_tr tt0_ok Tryd.func7 (by kernel_rfl) (c := bodyOf Tryd.f7) (by kernel_rfl) ?_
  intro ctr hc
  obtain ⟨v, h1⟩ : ∃ v, valO false (lapwinglaw02_awake) = v := ⟨_, rfl⟩
  obtain ⟨v1, h2⟩ : ∃ v1, valO d_ucd_Data (ucd_Load) = v1 := ⟨_, rfl⟩
  obtain ⟨v2, h4⟩ : ∃ v2, valO (0, 0) (ucd_Bracket v1 r') = v2 := ⟨_, rfl⟩
  obtain ⟨v3, h5⟩ : ∃ v3, valO (0, false) (ucd_Ligature r' 1575 true) = v3 := ⟨_, rfl⟩
  obtain ⟨v4, h6⟩ : ∃ v4, valO 0 (if v = true then ucd_Class v1 r' else some 0) = v4 := ⟨_, rfl⟩
  obtain ⟨v5, h7⟩ : ∃ v5, valO 0 (if (if v = true then (v4 == 1) else false) = true then ucd_Width v1 r' else some 0) = v5 := ⟨_, rfl⟩
  obtain ⟨v6, h8⟩ : ∃ v6, valO 0 (if (if (if v = true then (v4 == 1) else false) = true then (v5 == 1) else false) = true then ucd_Join v1 r' else some 0) = v6 := ⟨_, rfl⟩
  obtain ⟨v7, h9⟩ : ∃ v7, valO 0 (if (if (if (if v = true then (v4 == 1) else false) = true then (v5 == 1) else false) = true then (v6 == 0) else false) = true then ucd_Mirror v1 r' else some 0) = v7 := ⟨_, rfl⟩
  obtain ⟨v8, h10⟩ : ∃ v8, valO 0 (if (if (if (if (if (if (if v = true then (v4 == 1) else false) = true then (v5 == 1) else false) = true then (v6 == 0) else false) = true then (v7 == r') else false) = true then (v2.1 == 0) else false) = true then (v2.2 == 0) else false) = true then ucd_Shape v1 r' 1 else some 0) = v8 := ⟨_, rfl⟩
  refine Tr.chunk (cx := ⟨tt0, ⟨fun f => kOf [] f, fun k _ _ _ => orcL [(9, .plain (.v (.bool v))), (10, .plain (.agg 6 (fun j => (D_ucd_Data nvS v1 j)))), (21, .plain (.tup 2 (fun j => match j with | 0 => (.v (.int .i64 v2.1)) | 1 => (.v (.int .i64 v2.2)) | _ => .junk))), (26, .plain (.tup 2 (fun j => match j with | 0 => (.v (.int .i64 v3.1)) | 1 => (.v (.bool v3.2)) | _ => .junk))), (33, .plain (.v (.int .i64 v4))), (39, .plain (.v (.int .i64 v5))), (45, .plain (.v (.int .i64 v6))), (51, .plain (.v (.int .i64 v7))), (66, .plain (.v (.int .i64 v8)))] k, fun t => memN [] t⟩, 0, fun r => ghL [] r⟩) tt0_ok hPm fun N hN => ?_
  generalize hp : std Tryd.prog = p
  generalize hv : nvS = nv
  cbv
  subst hp
  subst hv
  replace h := bindO_val h1 h; clear h1; obtain ⟨h1, h⟩ := h
  refine ⟨(Or.inl (PureFn.arg (lapwinglaw02_awake_ok  v h1) trivial)), ?_⟩
  replace h := bindO_val h2 h; clear h2; obtain ⟨h2, h⟩ := h
  refine ⟨(Or.inl (PureFn.arg (ucd_Load_ok  v1 h2) trivial)), rfl, ?_⟩
  refine ⟨(fun hg => hg), (fun hg => hg), ?_⟩
  refine ⟨fun h3 => ?_, fun h3 => ?_⟩
  · replace h := iteO_t h h3
    subst hN
    have hr := Option.some.inj h
    subst hr
    try dsimp only [noGoto, inBlockQ, thenQ]
    repeat (first | refine (if_pos rfl).mpr ?_ | refine (if_neg (by decide)).mpr ?_)
    refine retQ_ret rfl ?_ ?_
    · exact trivial
    · exact rfl
  · replace h := iteO_f h h3
    replace h := bindO_val h4 h; clear h4; obtain ⟨h4, h⟩ := h
    refine ⟨rfl, (Or.inl (PureFn.arg (ucd_Bracket_ok v1 r' v2 h4) (And.intro (LeD.agg fun j hj => by
          have hj2 : j < 6 := hj
          rcases (show j = 0 ∨ j = 1 ∨ j = 2 ∨ j = 3 ∨ j = 4 ∨ j = 5 by omega) with rfl | rfl | rfl | rfl | rfl | rfl
          · exact LeD.refl _
          · exact LeD.refl _
          · exact LeD.refl _
          · exact LeD.refl _
          · exact LeD.refl _
          · exact LeD.refl _)
        (And.intro (LeD.refl _)
        trivial)))), ?_⟩
    replace h := bindO_val h5 h; clear h5; obtain ⟨h5, h⟩ := h
    refine ⟨(Or.inl (PureFn.arg (ucd_Ligature_ok r' 1575 true v3 h5) (And.intro (LeD.refl _)
        (And.intro (LeD.refl _)
        (And.intro (LeD.refl _)
        trivial))))), ?_⟩
    replace h := bindO_val h6 h; clear h6; obtain ⟨h6, h⟩ := h
    replace h := bindO_val h7 h; clear h7; obtain ⟨h7, h⟩ := h
    replace h := bindO_val h8 h; clear h8; obtain ⟨h8, h⟩ := h
    replace h := bindO_val h9 h; clear h9; obtain ⟨h9, h⟩ := h
    replace h := bindO_val h10 h; clear h10; obtain ⟨h10, h⟩ := h
    refine ⟨(fun _ => rfl), (fun hg => hg), (fun hg => hg), (fun hg => by have h6 := guardO h6 hg; exact (Or.inl (PureFn.arg (ucd_Class_ok v1 r' v4 h6) (And.intro (LeD.agg fun j hj => by
          have hj2 : j < 6 := hj
          rcases (show j = 0 ∨ j = 1 ∨ j = 2 ∨ j = 3 ∨ j = 4 ∨ j = 5 by omega) with rfl | rfl | rfl | rfl | rfl | rfl
          · exact LeD.refl _
          · exact LeD.refl _
          · exact LeD.refl _
          · exact LeD.refl _
          · exact LeD.refl _
          · exact LeD.refl _)
        (And.intro (LeD.refl _)
        trivial))))), (fun hg => hg), (fun hg => hg), (fun _ => rfl), (fun hg => hg), (fun hg => hg), (fun hg => by have h7 := guardO h7 hg; exact (Or.inl (PureFn.arg (ucd_Width_ok v1 r' v5 h7) (And.intro (LeD.agg fun j hj => by
          have hj2 : j < 6 := hj
          rcases (show j = 0 ∨ j = 1 ∨ j = 2 ∨ j = 3 ∨ j = 4 ∨ j = 5 by omega) with rfl | rfl | rfl | rfl | rfl | rfl
          · exact LeD.refl _
          · exact LeD.refl _
          · exact LeD.refl _
          · exact LeD.refl _
          · exact LeD.refl _
          · exact LeD.refl _)
        (And.intro (LeD.refl _)
        trivial))))), (fun hg => hg), (fun hg => hg), (fun _ => rfl), (fun hg => hg), (fun hg => hg), (fun hg => by have h8 := guardO h8 hg; exact (Or.inl (PureFn.arg (ucd_Join_ok v1 r' v6 h8) (And.intro (LeD.agg fun j hj => by
          have hj2 : j < 6 := hj
          rcases (show j = 0 ∨ j = 1 ∨ j = 2 ∨ j = 3 ∨ j = 4 ∨ j = 5 by omega) with rfl | rfl | rfl | rfl | rfl | rfl
          · exact LeD.refl _
          · exact LeD.refl _
          · exact LeD.refl _
          · exact LeD.refl _
          · exact LeD.refl _
          · exact LeD.refl _)
        (And.intro (LeD.refl _)
        trivial))))), (fun hg => hg), (fun hg => hg), (fun _ => rfl), (fun hg => hg), (fun hg => hg), (fun hg => by have h9 := guardO h9 hg; exact (Or.inl (PureFn.arg (ucd_Mirror_ok v1 r' v7 h9) (And.intro (LeD.agg fun j hj => by
          have hj2 : j < 6 := hj
          rcases (show j = 0 ∨ j = 1 ∨ j = 2 ∨ j = 3 ∨ j = 4 ∨ j = 5 by omega) with rfl | rfl | rfl | rfl | rfl | rfl
          · exact LeD.refl _
          · exact LeD.refl _
          · exact LeD.refl _
          · exact LeD.refl _
          · exact LeD.refl _
          · exact LeD.refl _)
        (And.intro (LeD.refl _)
        trivial))))), (fun hg => hg), (fun hg => hg), (fun hg => hg), (fun hg => hg), (fun hg => hg), (fun hg => hg), (fun hg => hg), (fun _ => rfl), (fun hg => hg), (fun hg => hg), (fun hg => by have h10 := guardO h10 hg; exact (Or.inl (PureFn.arg (ucd_Shape_ok v1 r' 1 v8 h10) (And.intro (LeD.agg fun j hj => by
          have hj2 : j < 6 := hj
          rcases (show j = 0 ∨ j = 1 ∨ j = 2 ∨ j = 3 ∨ j = 4 ∨ j = 5 by omega) with rfl | rfl | rfl | rfl | rfl | rfl
          · exact LeD.refl _
          · exact LeD.refl _
          · exact LeD.refl _
          · exact LeD.refl _
          · exact LeD.refl _
          · exact LeD.refl _)
        (And.intro (LeD.refl _)
        (And.intro (LeD.refl _)
        trivial)))))), (fun hg => hg), (fun hg => hg), (fun hg => hg), (fun hg => hg), (fun hg => hg), ?_⟩
    subst hN
    have hr := Option.some.inj h
    subst hr
    try dsimp only [noGoto, inBlockQ, thenQ]
    repeat (first | refine (if_pos rfl).mpr ?_ | refine (if_neg (by decide)).mpr ?_)
    refine retQ_ret rfl ?_ ?_
    · exact trivial
    · exact rfl
end Go.Vx
