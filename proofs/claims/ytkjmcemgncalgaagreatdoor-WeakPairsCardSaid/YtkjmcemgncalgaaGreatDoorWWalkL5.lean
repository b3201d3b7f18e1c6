/- Walks, by program (lift.py). -/
import Derived.Test.YtkjmcemgncalgaaGreatDoorWWalk
import Derived.Test.YtkjmcemgncalgaaGreatDoorWWalkLA
set_option linter.all false
namespace Go.Vx
open Go.Proofs
set_option maxRecDepth 100000
set_option linter.unusedVariables false
set_option linter.unusedSimpArgs false
theorem lapwinglaw18_WeakPairs_ok (r' : (List Int)) (l' : (List Int)) (r : Bool) (h : lapwinglaw18_WeakPairs r' l' = some r) : PureFn Tryz.prog 5 [(WS nvS r'), (WS nvS l')] ((.v (.bool r))) := by
 unfold lapwinglaw18_WeakPairs at h
 refine fn_tr tt0_ok Tryz.func5 (by kernel_rfl) (c := bodyOf Tryz.f5) (by kernel_rfl) ?_
 intro ctr hc
 obtain ⟨v, h1⟩ : ∃ v, valO false (lapwinglaw18_awake) = v := ⟨_, rfl⟩
 obtain ⟨v1, h3⟩ : ∃ v1, valO d_ucd_Data (ucd_Load) = v1 := ⟨_, rfl⟩
 obtain ⟨⟨v1_Class_L⟩, ⟨v1_Wide_L⟩, ⟨v1_Join_L⟩, v1_Mirror, v1_Brackets, v1_Forms⟩ := v1
 obtain ⟨v2, h4⟩ : ∃ v2, valO [] (weak_Pairs (T_ucd_Data.mk (T_ranges_Table.mk v1_Class_L) (T_ranges_Table.mk v1_Wide_L) (T_ranges_Table.mk v1_Join_L) v1_Mirror v1_Brackets v1_Forms) r' l') = v2 := ⟨_, rfl⟩
 refine Wx [(11, 1)] [(13, .plain (.v (.bool v))), (23, .plain (.agg 6 (fun j => (D_ucd_Data nvS (T_ucd_Data.mk (T_ranges_Table.mk v1_Class_L) (T_ranges_Table.mk v1_Wide_L) (T_ranges_Table.mk v1_Join_L) v1_Mirror v1_Brackets v1_Forms) j)))), (27, .own 2 (nvS.len v2) false (fun ix jx => (D_Arr2_i64 nvS (nvS.get d_Arr2_i64 v2 ix) jx)))] [] 0 [] 6 fun N hN => ?_
 generalize hp : std Tryz.prog = p; generalize hv : nvS = nv; cbv; subst hp hv
 replace h := bindO_val h1 h; clear h1; obtain ⟨h1, h⟩ := h
 refine ⟨(Or.inl (PureFn.arg (lapwinglaw18_awake_ok  v h1) trivial)), ?_⟩
 refine ⟨(fun hg => hg), (fun hg => hg), (fun hg => hg), ?_⟩
 refine ⟨fun h2 => ?_, fun h2 => ?_⟩
 · replace h := iteO_t h h2
   subst hN; have hr := Option.some.inj h
   subst hr
   try dsimp only [noGoto, inBlockQ, thenQ]
   repeat (first | refine Wt ?_ | refine We ?_)
   exact retQ_ret rfl trivial rfl
 replace h := iteO_f h h2
 replace h := bindO_val h3 h; clear h3; obtain ⟨h3, h⟩ := h; try dsimp only at h
 refine ⟨(Or.inl (PureFn.arg (ucd_Load_ok  (T_ucd_Data.mk (T_ranges_Table.mk v1_Class_L) (T_ranges_Table.mk v1_Wide_L) (T_ranges_Table.mk v1_Join_L) v1_Mirror v1_Brackets v1_Forms) h3) trivial)), rfl, ?_⟩
 replace h := bindO_val h4 h; clear h4; obtain ⟨h4, h⟩ := h
 refine ⟨rfl, (Or.inl (PureFn.arg (weak_Pairs_ok (T_ucd_Data.mk (T_ranges_Table.mk v1_Class_L) (T_ranges_Table.mk v1_Wide_L) (T_ranges_Table.mk v1_Join_L) v1_Mirror v1_Brackets v1_Forms) r' l' v2 h4) (And.intro (LeD.agg fun j hj => by
  have hj2 : j < 6 := hj
  rcases (show j = 0 ∨ j = 1 ∨ j = 2 ∨ j = 3 ∨ j = 4 ∨ j = 5 by omega) with rfl | rfl | rfl | rfl | rfl | rfl
  · exact LeD.refl _
  · exact LeD.refl _
  · exact LeD.refl _
  · exact LeD.refl _
  · exact LeD.refl _
  exact LeD.refl _) (And.intro (LeD.refl _) (And.intro (LeD.refl _) trivial))))), ?_⟩
 refine ⟨fun h5 => ?_, fun h5 => ?_⟩
 · replace h := iteO_t h h5
   refine ⟨(fun hg => hg), (fun hg => hg), (fun hg => hg), ?_⟩
   subst hN; have hr := Option.some.inj h
   subst hr
   try dsimp only [noGoto, inBlockQ, thenQ]
   repeat (first | refine Wt ?_ | refine We ?_)
   exact retQ_ret rfl trivial rfl
 replace h := iteO_f h h5
 subst hN; show Tr _ _ _ _
 refine Tr.cutSeq (α := Unit) h (fun _ u => (WF 152 [(5, .v (.bool v))] 152 [] u)) (fun _ t => Hid.ok t) (fun x u hu h => ?_) (fun f h => ?_)
 · obtain ⟨uc, ug, ut⟩ := u; obtain ⟨huc, hug⟩ : 0 < uc ∧ ∀ k, ug k < uc := hu
   refine Wc [] [] [] 0 [] fun N hN => ?_
   generalize hp : std Tryz.prog = p; generalize hv : nvS = nv; cbv; subst hp hv
   subst hN; have hr := Option.some.inj h
   subst hr
   try dsimp only [noGoto, inBlockQ, thenQ]
   repeat (first | refine Wt ?_ | refine We ?_)
   exact retQ_ret rfl trivial rfl
 refine Wx [] [] [] 0 [] 1 fun N hN => ?_
 generalize hp : std Tryz.prog = p; generalize hv : nvS = nv; cbv; subst hp hv
 subst hN; show Tr _ _ _ _
 refine Tr.block ?_
 refine Tr.loopO (α := Int) (fun i u1 => (WF 152 [(0, WS nvS r'), (1, WS nvS l'), (5, .v (.bool v)), (6, .bref 6 (u1.g 6) 0), (7, .vec 27 (u1.g 27) 2 0 (nvS.len v2)), (8, WV i)] 152 [(6, .box (u1.g 6) [.sl 3 (nvS.len v1_Class_L) false (fun ix jx => (D_ranges_Row nvS (nvS.get d_ranges_Row v1_Class_L ix) jx)), .sl 3 (nvS.len v1_Wide_L) false (fun ix jx => (D_ranges_Row nvS (nvS.get d_ranges_Row v1_Wide_L ix) jx)), .sl 3 (nvS.len v1_Join_L) false (fun ix jx => (D_ranges_Row nvS (nvS.get d_ranges_Row v1_Join_L ix) jx)), .sl 2 (nvS.len v1_Mirror) false (fun ix jx => (D_ucd_Pair nvS (nvS.get d_ucd_Pair v1_Mirror ix) jx)), .sl 2 (nvS.len v1_Brackets) false (fun ix jx => (D_ucd_Pair nvS (nvS.get d_ucd_Pair v1_Brackets ix) jx)), .sl 3 (nvS.len v1_Forms) false (fun ix jx => (D_ucd_Form nvS (nvS.get d_ucd_Form v1_Forms ix) jx))]), (27, .arr (u1.g 27) 2 (nvS.len v2) (u1.t 27) (fun ix jx => (D_Arr2_i64 nvS (nvS.get d_Arr2_i64 v2 ix) jx)))] u1)) (fun _ t => Hid.ok t) ⟨ctr + 16, gfn [(6, ctr + 3), (27, ctr + 4)], tfn [(6, false), (27, false)]⟩ h ?_ ?_ (fun x u1 f hu1 h => ?_)
 · exact Wh
 · exact (Wg (Wk rfl (Wk rfl (Wk rfl (Wk rfl (Wk rfl (Wk rfl trivial)))))) (Wi rfl (Wi rfl trivial)))
 revert h; revert hu1; revert x; intro i hu1 h
 obtain ⟨u1c, u1g, u1t⟩ := u1; obtain ⟨hu1c, hu1g⟩ : 0 < u1c ∧ ∀ k, u1g k < u1c := hu1
 refine Wx [] [] [] 0 [] 1 fun N hN => ?_
 generalize hp : std Tryz.prog = p; generalize hv : nvS = nv; cbv; subst hp hv
 refine ⟨fun h102 => ?_, fun h102 => ?_⟩
 · replace h := iteO_t h h102
   subst hN; show Tr _ _ _ _
   refine Tr.cutSeq (α := Unit) h (fun _ u2 => (WF 152 [(0, WS nvS r'), (1, WS nvS l'), (5, .v (.bool v)), (6, .bref 6 (u2.g 6) 0), (7, .vec 27 (u2.g 27) 2 0 (nvS.len v2)), (8, WV i)] 152 [(6, .box (u2.g 6) [.sl 3 (nvS.len v1_Class_L) false (fun ix jx => (D_ranges_Row nvS (nvS.get d_ranges_Row v1_Class_L ix) jx)), .sl 3 (nvS.len v1_Wide_L) false (fun ix jx => (D_ranges_Row nvS (nvS.get d_ranges_Row v1_Wide_L ix) jx)), .sl 3 (nvS.len v1_Join_L) false (fun ix jx => (D_ranges_Row nvS (nvS.get d_ranges_Row v1_Join_L ix) jx)), .sl 2 (nvS.len v1_Mirror) false (fun ix jx => (D_ucd_Pair nvS (nvS.get d_ucd_Pair v1_Mirror ix) jx)), .sl 2 (nvS.len v1_Brackets) false (fun ix jx => (D_ucd_Pair nvS (nvS.get d_ucd_Pair v1_Brackets ix) jx)), .sl 3 (nvS.len v1_Forms) false (fun ix jx => (D_ucd_Form nvS (nvS.get d_ucd_Form v1_Forms ix) jx))]), (27, .arr (u2.g 27) 2 (nvS.len v2) (u2.t 27) (fun ix jx => (D_Arr2_i64 nvS (nvS.get d_Arr2_i64 v2 ix) jx)))] u2)) (fun _ t => Hid.ok t) (fun x u2 hu2 h => ?_) (fun f h => ?_)
   · obtain ⟨u2c, u2g, u2t⟩ := u2; obtain ⟨hu2c, hu2g⟩ : 0 < u2c ∧ ∀ k, u2g k < u2c := hu2
     refine Wc [] [] [] 0 [] fun N hN => ?_
     generalize hp : std Tryz.prog = p; generalize hv : nvS = nv; cbv; subst hp hv
     replace h := chk_some h; obtain ⟨h125, h⟩ := h
     refine ⟨h125, ?_⟩
     subst hN; cases h
     exact Exists.intro ⟨u2c + 10, gfn [(6, u2g 6), (27, u2g 27)], tfn [(6, false), (27, u2t 27)]⟩ (And.intro Wh (Wg (Wk rfl (Wk rfl (Wk rfl (Wk rfl (Wk rfl (Wk rfl trivial)))))) (Wi rfl (Wi rfl trivial))))
   refine Tr.block ?_
   obtain ⟨v3, h131⟩ : ∃ v3, valO (0, 0) (ucd_Bracket (T_ucd_Data.mk (T_ranges_Table.mk v1_Class_L) (T_ranges_Table.mk v1_Wide_L) (T_ranges_Table.mk v1_Join_L) v1_Mirror v1_Brackets v1_Forms) (getL 0 r' (getL d_Arr2_i64 v2 (0 + i)).x0)) = v3 := ⟨_, rfl⟩
   obtain ⟨v3_0, v3_1⟩ := v3
   refine Wx [] [(89, .plain (.tup 2 (fun j => match j with | 0 => (WV v3_0) | 1 => (WV v3_1) | _ => .junk)))] [] 0 [] 5 fun N hN => ?_
   generalize hp : std Tryz.prog = p; generalize hv : nvS = nv; cbv; subst hp hv
   replace h := chk_some h; obtain ⟨h126, h⟩ := h
   try (have h126z := h126; simp only [Int.zero_add] at h126z)
   refine ⟨h126, rfl, rfl, ?_⟩
   replace h := chk_some h; obtain ⟨h127, h⟩ := h
   replace h := chk_some h; obtain ⟨h128, h⟩ := h
   refine ⟨rfl, (fun hg => hg), (fun _ => rfl), (fun hg => hg), (fun _ => rfl), (fun hg => hg), (fun hg => hg), (fun hg => hg), (fun hg => hg), (fun _ => rfl), (fun hg => hg), (fun hg => hg), (fun hg => hg), (fun hg => hg), (fun hg => hg), (fun _ => rfl), (fun hg => hg), (fun hg => hg), h127, (fun hg => hg), (fun hg => hg), (fun hg => hg), (fun hg => hg), (fun _ => rfl), (fun hg => hg), (fun hg => hg), h128, (fun hg => hg), (fun hg => hg), (fun hg => hg), ?_⟩
   refine ⟨fun h129 => ?_, fun h129 => ?_⟩
   · replace h := iteO_t h h129
     subst hN; cases h
     intro he; cases he
     intro he; cases he
     intro hr
     subst hr
     try dsimp only [noGoto, inBlockQ, thenQ]
     repeat (first | refine Wt ?_ | refine We ?_)
     exact retQ_ret rfl trivial rfl
   replace h := iteO_f h h129
   replace h := chk_some h; obtain ⟨h130, h⟩ := h
   try (have h130z := h130; simp only [Int.zero_add] at h130z)
   replace h := bindO_val h131 h; clear h131; obtain ⟨h131, h⟩ := h; try dsimp only at h
   refine ⟨rfl, rfl, h130, (Or.inl (PureFn.arg (ucd_Bracket_ok (T_ucd_Data.mk (T_ranges_Table.mk v1_Class_L) (T_ranges_Table.mk v1_Wide_L) (T_ranges_Table.mk v1_Join_L) v1_Mirror v1_Brackets v1_Forms) (getL 0 r' (getL d_Arr2_i64 v2 (0 + i)).x0) (v3_0, v3_1) h131) (And.intro (LeD.agg fun j hj => by
    have hj2 : j < 6 := hj
    rcases (show j = 0 ∨ j = 1 ∨ j = 2 ∨ j = 3 ∨ j = 4 ∨ j = 5 by omega) with rfl | rfl | rfl | rfl | rfl | rfl
    · exact LeD.refl _
    · exact LeD.refl _
    · exact LeD.refl _
    · exact LeD.refl _
    · exact LeD.refl _
    exact LeD.refl _) (And.intro (LeD.refl _) trivial)))), (show drOk _ _ = true by kernel_rfl), ?_⟩
   replace h := chk_some h; obtain ⟨h132, h⟩ := h
   replace h := chk_some h; obtain ⟨h133, h⟩ := h
   replace h := chk_some h; obtain ⟨h134, h⟩ := h
   refine ⟨(fun hg => hg), (fun _ => rfl), (fun hg => hg), (fun hg => hg), h132, (fun hg => hg), (fun hg => hg), (fun hg => hg), (fun hg => hg), (fun hg => hg), (fun hg => hg), h133, (fun hg => hg), (fun hg => hg), h134, (fun hg => hg), (fun hg => hg), (fun _ => rfl), (fun hg => hg), (fun _ => rfl), (fun hg => hg), (fun hg => hg), (fun hg => hg), (fun hg => hg), (fun hg0 => (fun hg => (and_t hg0 (and_t hg0 hg)))), (fun hg => hg), (show drOk _ _ = true by kernel_rfl), ?_⟩
   refine ⟨fun h135 => ?_, fun h135 => ?_⟩
   · replace h := iteO_t h h135
     subst hN; cases h
     intro he; cases he
     intro he; cases he
     intro hr
     subst hr
     try dsimp only [noGoto, inBlockQ, thenQ]
     repeat (first | refine Wt ?_ | refine We ?_)
     exact retQ_ret rfl trivial rfl
   replace h := iteO_f h h135
   subst hN; show Tr _ _ _ _
   refine Tr.block ?_
   refine Tr.loopO (α := Int) (fun j u3 => (WF 152 [(0, WS nvS r'), (1, WS nvS l'), (5, .v (.bool v)), (6, .bref 6 (u3.g 6) 0), (7, .vec 27 (u3.g 27) 2 0 (nvS.len v2)), (8, WV i), (9, .bref 9 (u3.g 9) 0), (12, WV j)] 152 [(6, .box (u3.g 6) [.sl 3 (nvS.len v1_Class_L) false (fun ix jx => (D_ranges_Row nvS (nvS.get d_ranges_Row v1_Class_L ix) jx)), .sl 3 (nvS.len v1_Wide_L) false (fun ix jx => (D_ranges_Row nvS (nvS.get d_ranges_Row v1_Wide_L ix) jx)), .sl 3 (nvS.len v1_Join_L) false (fun ix jx => (D_ranges_Row nvS (nvS.get d_ranges_Row v1_Join_L ix) jx)), .sl 2 (nvS.len v1_Mirror) false (fun ix jx => (D_ucd_Pair nvS (nvS.get d_ucd_Pair v1_Mirror ix) jx)), .sl 2 (nvS.len v1_Brackets) false (fun ix jx => (D_ucd_Pair nvS (nvS.get d_ucd_Pair v1_Brackets ix) jx)), .sl 3 (nvS.len v1_Forms) false (fun ix jx => (D_ucd_Form nvS (nvS.get d_ucd_Form v1_Forms ix) jx))]), (9, .box (u3.g 9) [WV ((nvS.get d_Arr2_i64 v2 ((std Tryz.prog).add 0 i)).x0), WV ((nvS.get d_Arr2_i64 v2 ((std Tryz.prog).add 0 i)).x1)]), (27, .arr (u3.g 27) 2 (nvS.len v2) (u3.t 27) (fun ix jx => (D_Arr2_i64 nvS (nvS.get d_Arr2_i64 v2 ix) jx)))] u3)) (fun _ t => Hid.ok t) ⟨u1c + 15, gfn [(6, u1g 6), (9, u1c + 1), (27, u1g 27)], tfn [(6, false), (9, false), (27, u1t 27)]⟩ h ?_ ?_ (fun x u3 f hu3 h => ?_)
   · exact Wh
   · exact (Wg (Wk rfl (Wk rfl (Wk rfl (Wk rfl (Wk rfl (Wk rfl (Wk rfl (Wk rfl trivial)))))))) (Wi rfl (Wi rfl (Wi rfl trivial))))
   revert h; revert hu3; revert x; intro j hu3 h
   obtain ⟨u3c, u3g, u3t⟩ := u3; obtain ⟨hu3c, hu3g⟩ : 0 < u3c ∧ ∀ k, u3g k < u3c := hu3
   refine Wc [] [] [] 0 [] fun N hN => ?_
   generalize hp : std Tryz.prog = p; generalize hv : nvS = nv; cbv; subst hp hv
   refine ⟨fun h148 => ?_, fun h148 => ?_⟩
   · replace h := iteO_t h h148
     replace h := chk_some h; obtain ⟨h149, h⟩ := h
     try (have h149z := h149; simp only [Int.zero_add] at h149z)
     replace h := chk_some h; obtain ⟨h150, h⟩ := h
     replace h := chk_some h; obtain ⟨h151, h⟩ := h
     refine ⟨h149, rfl, rfl, (fun hg => hg), (fun hg => hg), h150, (fun hg => hg), (fun hg => hg), (fun _ => rfl), (fun hg => hg), (fun _ => rfl), (fun hg => hg), (fun hg => hg), (fun hg => hg), (fun hg => hg), h151, (fun hg => hg), (fun hg => hg), (fun _ => rfl), (fun hg => hg), (fun _ => rfl), (fun hg => hg), (fun hg => hg), (fun hg => hg), (fun hg => hg), (fun hg0 => (fun hg => (and_t hg0 (and_t hg0 hg)))), (fun hg => hg), (show drOk _ _ = true by kernel_rfl), ?_⟩
     refine ⟨fun h152 => ?_, fun h152 => ?_⟩
     · replace h := iteO_t h h152
       subst hN; cases h
       intro he; cases he
       intro he; cases he
       intro he; cases he
       intro hr
       subst hr
       try dsimp only [noGoto, inBlockQ, thenQ]
       repeat (first | refine Wt ?_ | refine We ?_)
       exact retQ_ret rfl trivial rfl
     replace h := iteO_f h h152
     replace h := chk_some h; obtain ⟨h153, h⟩ := h
     refine ⟨h153, ?_⟩
     subst hN; cases h
     exact Exists.intro ⟨u3c + 12, gfn [(6, u3g 6), (9, u3g 9), (27, u3g 27)], tfn [(6, false), (9, false), (27, u3t 27)]⟩ (And.intro Wh (Wg (Wk rfl (Wk rfl (Wk rfl (Wk rfl (Wk rfl (Wk rfl (Wk rfl (Wk rfl trivial)))))))) (Wi rfl (Wi rfl (Wi rfl trivial)))))
   replace h := iteO_f h h148
   subst hN; cases h
   intro he; cases he
   exact Exists.intro ⟨u3c + 10, gfn [(6, u3g 6), (27, u3g 27)], tfn [(6, false), (27, u3t 27)]⟩ (And.intro Wh (Wg (Wk rfl (Wk rfl (Wk rfl (Wk rfl (Wk rfl (Wk rfl trivial)))))) (Wi rfl (Wi rfl trivial))))
 replace h := iteO_f h h102
 subst hN; cases h
 intro he; cases he
 exact Exists.intro ⟨u1c + 10, gfn [], tfn []⟩ (And.intro Wh (Wg (Wk rfl trivial) trivial))
end Go.Vx
