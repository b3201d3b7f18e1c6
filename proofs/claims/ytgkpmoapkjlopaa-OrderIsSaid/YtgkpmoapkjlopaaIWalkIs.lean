/- Walks, by program (lift.py). -/
import Derived.Test.YtgkpmoapkjlopaaIWalk
import Derived.Test.YtgkpmoapkjlopaaIWalkA
import Derived.Test.YtgkpmoapkjlopaaIWalkB
import Derived.Test.YtgkpmoapkjlopaaIWalkC
set_option linter.all false
namespace Go.Vx
open Go.Proofs
set_option maxRecDepth 100000
set_option linter.unusedVariables false
set_option linter.unusedSimpArgs false

theorem lapwinglaw19_OrderIs_ok (x' : T_lapwingref02_Data) (r' : (List Int)) (levels : (List Int)) (widths : (List Int)) (base : Int) (r : Bool) (h : lapwinglaw19_OrderIs x' r' levels widths base = some r) : PureFn Try.prog 7 [(.agg 6 (fun j => (D_lapwingref02_Data nvS x' j))), (.sl 1 (nvS.len r') false (fun i j => (.v (.int .i64 (nvS.get 0 r' i))))), (.sl 1 (nvS.len levels) false (fun i j => (.v (.int .i64 (nvS.get 0 levels i))))), (.sl 1 (nvS.len widths) false (fun i j => (.v (.int .i64 (nvS.get 0 widths i))))), (.v (.int .i64 base))] ((.v (.bool r))) := by
  unfold lapwinglaw19_OrderIs at h
  refine fn_tr tt0_ok Try.func7 (by kernel_rfl) (c := bodyOf Try.f7) (by kernel_rfl) ?_
  intro ctr hc
  obtain ⟨v, h1⟩ : ∃ v, valO false (lapwinglaw19_awake) = v := ⟨_, rfl⟩
  obtain ⟨v1, h2⟩ : ∃ v1, valO false (if (!(if (if (decide (200 < (lenL levels))) = true then true else (decide (200 < (lenL widths)))) = true then true else (decide (200 < (lenL r'))))) = true then lapwingref02_Few x' else some false) = v1 := ⟨_, rfl⟩
  obtain ⟨v2, h4⟩ : ∃ v2, valO ([], false) (order_Cells levels widths) = v2 := ⟨_, rfl⟩
  obtain ⟨v3, h5⟩ : ∃ v3, valO ([], false) (lapwingref19_Cells levels widths) = v3 := ⟨_, rfl⟩
  obtain ⟨v4, h6⟩ : ∃ v4, valO ([], false) (order_Invert widths) = v4 := ⟨_, rfl⟩
  obtain ⟨v5, h7⟩ : ∃ v5, valO ([], false) (lapwingref19_Invert widths) = v5 := ⟨_, rfl⟩
  obtain ⟨v6, h8⟩ : ∃ v6, valO [] (if v = true then order_Visual levels else some []) = v6 := ⟨_, rfl⟩
  obtain ⟨v7, h9⟩ : ∃ v7, valO [] (if v = true then lapwingref19_Visual levels else some []) = v7 := ⟨_, rfl⟩
  obtain ⟨v8, h10⟩ : ∃ v8, valO false (if v = true then lapwingref03_Ints v6 v7 else some false) = v8 := ⟨_, rfl⟩
  obtain ⟨v9, h11⟩ : ∃ v9, valO d_ucd_Data (if (if v = true then v8 else false) = true then lapwinglaw19_tables x' else some d_ucd_Data) = v9 := ⟨_, rfl⟩
  obtain ⟨v10, h12⟩ : ∃ v10, valO [] (if (if v = true then v8 else false) = true then order_Reset v9 r' levels base else some []) = v10 := ⟨_, rfl⟩
  obtain ⟨v11, h13⟩ : ∃ v11, valO [] (if (if v = true then v8 else false) = true then lapwingref19_Reset x' r' levels base else some []) = v11 := ⟨_, rfl⟩
  obtain ⟨v12, h14⟩ : ∃ v12, valO false (if (if v = true then v8 else false) = true then lapwingref03_Ints v10 v11 else some false) = v12 := ⟨_, rfl⟩
  obtain ⟨v13, h15⟩ : ∃ v13, valO false (if (if (if v = true then v8 else false) = true then v12 else false) = true then lapwingref03_Ints v2.1 v3.1 else some false) = v13 := ⟨_, rfl⟩
  obtain ⟨v14, h16⟩ : ∃ v14, valO false (if (if (if (if (if v = true then v8 else false) = true then v12 else false) = true then v13 else false) = true then (v2.2 == v3.2) else false) = true then lapwingref03_Ints v4.1 v5.1 else some false) = v14 := ⟨_, rfl⟩
  obtain ⟨v15, h17⟩ : ∃ v15, valO [] (if (if (if (if (if (if (if v = true then v8 else false) = true then v12 else false) = true then v13 else false) = true then (v2.2 == v3.2) else false) = true then v14 else false) = true then (v4.2 == v5.2) else false) = true then order_Runs levels else some []) = v15 := ⟨_, rfl⟩
  obtain ⟨v16, h18⟩ : ∃ v16, valO [] (if (if (if (if (if (if (if v = true then v8 else false) = true then v12 else false) = true then v13 else false) = true then (v2.2 == v3.2) else false) = true then v14 else false) = true then (v4.2 == v5.2) else false) = true then lapwingref19_Runs levels else some []) = v16 := ⟨_, rfl⟩
  obtain ⟨v17, h19⟩ : ∃ v17, valO false (if (if (if (if (if (if (if v = true then v8 else false) = true then v12 else false) = true then v13 else false) = true then (v2.2 == v3.2) else false) = true then v14 else false) = true then (v4.2 == v5.2) else false) = true then lapwingref18_Pairwise v15 v16 else some false) = v17 := ⟨_, rfl⟩
  refine Tr.chunk (cx := ⟨tt0, ⟨fun f => kOf [] f, fun k _ _ _ => orcL [(20, .plain (.v (.bool v))), (36, .plain (.v (.bool v1))), (43, .plain (.tup 2 (fun j => match j with | 0 => (.sl 1 (nvS.len v2.1) false (fun i j => (.v (.int .i64 (nvS.get 0 v2.1 i))))) | 1 => (.v (.bool v2.2)) | _ => .junk))), (49, .plain (.tup 2 (fun j => match j with | 0 => (.sl 1 (nvS.len v3.1) false (fun i j => (.v (.int .i64 (nvS.get 0 v3.1 i))))) | 1 => (.v (.bool v3.2)) | _ => .junk))), (54, .plain (.tup 2 (fun j => match j with | 0 => (.sl 1 (nvS.len v4.1) false (fun i j => (.v (.int .i64 (nvS.get 0 v4.1 i))))) | 1 => (.v (.bool v4.2)) | _ => .junk))), (59, .plain (.tup 2 (fun j => match j with | 0 => (.sl 1 (nvS.len v5.1) false (fun i j => (.v (.int .i64 (nvS.get 0 v5.1 i))))) | 1 => (.v (.bool v5.2)) | _ => .junk))), (65, .plain (.sl 1 (nvS.len v6) false (fun i j => (.v (.int .i64 (nvS.get 0 v6 i)))))), (67, .plain (.sl 1 (nvS.len v7) false (fun i j => (.v (.int .i64 (nvS.get 0 v7 i)))))), (68, .plain (.v (.bool v8))), (72, .plain (.agg 6 (fun j => (D_ucd_Data nvS v9 j)))), (76, .plain (.sl 1 (nvS.len v10) false (fun i j => (.v (.int .i64 (nvS.get 0 v10 i)))))), (81, .plain (.sl 1 (nvS.len v11) false (fun i j => (.v (.int .i64 (nvS.get 0 v11 i)))))), (82, .plain (.v (.bool v12))), (87, .plain (.v (.bool v13))), (97, .plain (.v (.bool v14))), (106, .plain (.sl 2 (nvS.len v15) false (fun i j => (D_Arr2_i64 nvS (nvS.get d_Arr2_i64 v15 i) j)))), (108, .plain (.sl 2 (nvS.len v16) false (fun i j => (D_Arr2_i64 nvS (nvS.get d_Arr2_i64 v16 i) j)))), (109, .plain (.v (.bool v17)))] k, fun t => memN [] t⟩, 0, fun r => ghL [] r⟩) tt0_ok hPm fun N hN => ?_
  generalize hp : std Try.prog = p
  generalize hv : nvS = nv
  cbv
  subst hp
  subst hv
  replace h := bindO_val h1 h; clear h1; obtain ⟨h1, h⟩ := h
  refine ⟨(Or.inl (PureFn.arg (lapwinglaw19_awake_ok  v h1) trivial)), ?_⟩
  replace h := bindO_val h2 h; clear h2; obtain ⟨h2, h⟩ := h
  refine ⟨(fun hg => hg), (fun hg => hg), (fun hg => hg), (fun hg => hg), (fun hg => hg), (fun hg => hg), (fun _ => rfl), (fun hg => hg), (fun hg => by have h2 := guardO h2 hg; exact (Or.inl (PureFn.arg (lapwingref02_Few_ok x' v1 h2) (And.intro (LeD.agg fun j hj => by
        have hj2 : j < 6 := hj
        rcases (show j = 0 ∨ j = 1 ∨ j = 2 ∨ j = 3 ∨ j = 4 ∨ j = 5 by omega) with rfl | rfl | rfl | rfl | rfl | rfl
        · exact LeD.refl _
        · exact LeD.refl _
        · exact LeD.refl _
        · exact LeD.refl _
        · exact LeD.refl _
        · exact LeD.refl _)
      trivial)))), (fun hg => hg), (fun hg => hg), ?_⟩
  refine ⟨fun h3 => ?_, fun h3 => ?_⟩
  · replace h := iteO_t h h3
    subst hN
    have hr := Option.some.inj h
    subst hr
    try dsimp only [noGoto, inBlockQ, thenQ]
    repeat (first | refine (if_pos rfl).mpr ?_ | refine (if_neg (by decide)).mpr ?_)
    refine retQ_ret rfl ?_ ?_
    · exact trivial
    · exact rfl
  · replace h := iteO_f h h3
    replace h := bindO_val h4 h; clear h4; obtain ⟨h4, h⟩ := h
    refine ⟨(Or.inl (PureFn.arg (order_Cells_ok levels widths v2 h4) (And.intro (LeD.refl _)
        (And.intro (LeD.refl _)
        trivial)))), ?_⟩
    replace h := bindO_val h5 h; clear h5; obtain ⟨h5, h⟩ := h
    refine ⟨(Or.inl (PureFn.arg (lapwingref19_Cells_ok levels widths v3 h5) (And.intro (LeD.refl _)
        (And.intro (LeD.refl _)
        trivial)))), ?_⟩
    replace h := bindO_val h6 h; clear h6; obtain ⟨h6, h⟩ := h
    refine ⟨(Or.inl (PureFn.arg (order_Invert_ok widths v4 h6) (And.intro (LeD.refl _)
        trivial))), ?_⟩
    replace h := bindO_val h7 h; clear h7; obtain ⟨h7, h⟩ := h
    refine ⟨(Or.inl (PureFn.arg (lapwingref19_Invert_ok widths v5 h7) (And.intro (LeD.refl _)
        trivial))), ?_⟩
    replace h := bindO_val h8 h; clear h8; obtain ⟨h8, h⟩ := h
    replace h := bindO_val h9 h; clear h9; obtain ⟨h9, h⟩ := h
    replace h := bindO_val h10 h; clear h10; obtain ⟨h10, h⟩ := h
    replace h := bindO_val h11 h; clear h11; obtain ⟨h11, h⟩ := h
    replace h := bindO_val h12 h; clear h12; obtain ⟨h12, h⟩ := h
    replace h := bindO_val h13 h; clear h13; obtain ⟨h13, h⟩ := h
    replace h := bindO_val h14 h; clear h14; obtain ⟨h14, h⟩ := h
    replace h := bindO_val h15 h; clear h15; obtain ⟨h15, h⟩ := h
    replace h := bindO_val h16 h; clear h16; obtain ⟨h16, h⟩ := h
    replace h := bindO_val h17 h; clear h17; obtain ⟨h17, h⟩ := h
    replace h := bindO_val h18 h; clear h18; obtain ⟨h18, h⟩ := h
    replace h := bindO_val h19 h; clear h19; obtain ⟨h19, h⟩ := h
    refine ⟨(fun hg => hg), (fun hg => by have h8 := guardO h8 hg; exact (Or.inl (PureFn.arg (PureFn.sl (order_Visual_ok levels v6 h8)) (And.intro (LeD.refl _)
        trivial)))), (fun hg => hg), (fun hg => by have h9 := guardO h9 hg; exact (Or.inl (PureFn.arg (PureFn.sl (lapwingref19_Visual_ok levels v7 h9)) (And.intro (LeD.refl _)
        trivial)))), (fun hg => hg), (fun hg => hg), (fun hg => by have h10 := guardO h10 hg; exact (Or.inl (PureFn.arg (lapwingref03_Ints_ok v6 v7 v8 h10) (And.intro (LeD.refl _)
        (And.intro (LeD.refl _)
        trivial))))), (fun hg => hg), (fun _ => rfl), (fun hg => hg), (fun hg => by have h11 := guardO h11 hg; exact (Or.inl (PureFn.arg (lapwinglaw19_tables_ok x' v9 h11) (And.intro (LeD.agg fun j hj => by
          have hj2 : j < 6 := hj
          rcases (show j = 0 ∨ j = 1 ∨ j = 2 ∨ j = 3 ∨ j = 4 ∨ j = 5 by omega) with rfl | rfl | rfl | rfl | rfl | rfl
          · exact LeD.refl _
          · exact LeD.refl _
          · exact LeD.refl _
          · exact LeD.refl _
          · exact LeD.refl _
          · exact LeD.refl _)
        trivial)))), (fun hg => hg), (fun hg => hg), (fun hg => hg), (fun hg => hg), (fun hg => by have h12 := guardO h12 hg; exact (Or.inl (PureFn.arg (PureFn.sl (order_Reset_ok v9 r' levels base v10 h12)) (And.intro (by first | exact LeD.refl _ | exact LeD.agg (fun j hj => by (have hj2 : j < 6 := hj); (rcases (show j = 0 ∨ j = 1 ∨ j = 2 ∨ j = 3 ∨ j = 4 ∨ j = 5 by omega) with rfl | rfl | rfl | rfl | rfl | rfl) <;> exact LeD.refl _))
        (And.intro (LeD.refl _)
        (And.intro (LeD.refl _)
        (And.intro (LeD.refl _)
        trivial))))))), (fun _ => rfl), (fun hg => hg), (fun hg => hg), (fun hg => hg), (fun hg => hg), (fun hg => by have h13 := guardO h13 hg; exact (Or.inl (PureFn.arg (PureFn.sl (lapwingref19_Reset_ok x' r' levels base v11 h13)) (And.intro (LeD.agg fun j hj => by
          have hj2 : j < 6 := hj
          rcases (show j = 0 ∨ j = 1 ∨ j = 2 ∨ j = 3 ∨ j = 4 ∨ j = 5 by omega) with rfl | rfl | rfl | rfl | rfl | rfl
          · exact LeD.refl _
          · exact LeD.refl _
          · exact LeD.refl _
          · exact LeD.refl _
          · exact LeD.refl _
          · exact LeD.refl _)
        (And.intro (LeD.refl _)
        (And.intro (LeD.refl _)
        (And.intro (LeD.refl _)
        trivial))))))), (fun hg => hg), (fun hg => hg), (fun hg => by have h14 := guardO h14 hg; exact (Or.inl (PureFn.arg (lapwingref03_Ints_ok v10 v11 v12 h14) (And.intro (LeD.refl _)
        (And.intro (LeD.refl _)
        trivial))))), (fun hg => hg), (fun hg => hg), (fun hg => hg), (fun hg => by have h15 := guardO h15 hg; exact (Or.inl (PureFn.arg (lapwingref03_Ints_ok v2.1 v3.1 v13 h15) (And.intro (LeD.refl _)
        (And.intro (LeD.refl _)
        trivial))))), (fun hg => hg), (fun hg => hg), (fun hg => hg), (fun hg => hg), (fun hg => hg), (fun hg => hg), (fun hg => by have h16 := guardO h16 hg; exact (Or.inl (PureFn.arg (lapwingref03_Ints_ok v4.1 v5.1 v14 h16) (And.intro (LeD.refl _)
        (And.intro (LeD.refl _)
        trivial))))), (fun hg => hg), (fun hg => hg), (fun hg => hg), (fun hg => hg), (fun hg => hg), (fun hg => by have h17 := guardO h17 hg; exact (Or.inl (PureFn.arg (PureFn.sl (order_Runs_ok levels v15 h17)) (And.intro (LeD.refl _)
        trivial)))), (fun hg => hg), (fun hg => by have h18 := guardO h18 hg; exact (Or.inl (PureFn.arg (PureFn.sl (lapwingref19_Runs_ok levels v16 h18)) (And.intro (LeD.refl _)
        trivial)))), (fun hg => hg), (fun hg => hg), (fun hg => by have h19 := guardO h19 hg; exact (Or.inl (PureFn.arg (lapwingref18_Pairwise_ok v15 v16 v17 h19) (And.intro (LeD.refl _)
        (And.intro (LeD.refl _)
        trivial))))), (fun hg => hg), (show drOk _ _ = true by kernel_rfl), ?_⟩
    subst hN
    have hr := Option.some.inj h
    subst hr
    try dsimp only [noGoto, inBlockQ, thenQ]
    repeat (first | refine (if_pos rfl).mpr ?_ | refine (if_neg (by decide)).mpr ?_)
    refine retQ_ret rfl ?_ ?_
    · exact trivial
    · exact rfl
end Go.Vx
