/- Walks, by program (lift.py). -/
import Derived.Test.YtkjmcemgncalgaaGreatDoorWWalk
import Derived.Test.YtkjmcemgncalgaaGreatDoorWWalkLA
set_option linter.all false
namespace Go.Vx
open Go.Proofs
set_option maxRecDepth 100000
set_option linter.unusedVariables false
set_option linter.unusedSimpArgs false
theorem lapwinglaw18_WeakPlain_ok (r' : (List Int)) (r : Bool) (h : lapwinglaw18_WeakPlain r' = some r) : PureFn Tryz.prog 4 [(WS nvS r')] ((.v (.bool r))) := by
 unfold lapwinglaw18_WeakPlain at h
 refine fn_tr tt0_ok Tryz.func4 (by kernel_rfl) (c := bodyOf Tryz.f4) (by kernel_rfl) ?_
 intro ctr hc
 obtain ⟨v, h1⟩ : ∃ v, valO false (lapwinglaw18_awake) = v := ⟨_, rfl⟩
 obtain ⟨v1, h3⟩ : ∃ v1, valO d_ucd_Data (ucd_Load) = v1 := ⟨_, rfl⟩
 obtain ⟨⟨v1_Class_L⟩, ⟨v1_Wide_L⟩, ⟨v1_Join_L⟩, v1_Mirror, v1_Brackets, v1_Forms⟩ := v1
 refine Wx [] [(10, .plain (.v (.bool v))), (15, .plain (.agg 6 (fun j => (D_ucd_Data nvS (T_ucd_Data.mk (T_ranges_Table.mk v1_Class_L) (T_ranges_Table.mk v1_Wide_L) (T_ranges_Table.mk v1_Join_L) v1_Mirror v1_Brackets v1_Forms) j))))] [] 0 [] 4 fun N hN => ?_
 generalize hp : std Tryz.prog = p; generalize hv : nvS = nv; cbv; subst hp hv
 replace h := bindO_val h1 h; clear h1; obtain ⟨h1, h⟩ := h
 refine ⟨(Or.inl (PureFn.arg (lapwinglaw18_awake_ok  v h1) trivial)), ?_⟩
 refine ⟨fun h2 => ?_, fun h2 => ?_⟩
 · replace h := iteO_t h h2
   subst hN; have hr := Option.some.inj h
   subst hr
   try dsimp only [noGoto, inBlockQ, thenQ]
   repeat (first | refine Wt ?_ | refine We ?_)
   exact retQ_ret rfl trivial rfl
 replace h := iteO_f h h2
 replace h := bindO_val h3 h; clear h3; obtain ⟨h3, h⟩ := h; try dsimp only at h
 refine ⟨(Or.inl (PureFn.arg (ucd_Load_ok  (T_ucd_Data.mk (T_ranges_Table.mk v1_Class_L) (T_ranges_Table.mk v1_Wide_L) (T_ranges_Table.mk v1_Join_L) v1_Mirror v1_Brackets v1_Forms) h3) trivial)), rfl, ?_⟩
 subst hN; show Tr _ _ _ _
 refine Tr.cutSeq (α := Unit) h (fun _ u => (WF 74 [(0, WS nvS r'), (3, .v (.bool v)), (4, .bref 4 (u.g 4) 0)] 74 [(4, .box (u.g 4) [.sl 3 (nvS.len v1_Class_L) false (fun ix jx => (D_ranges_Row nvS (nvS.get d_ranges_Row v1_Class_L ix) jx)), .sl 3 (nvS.len v1_Wide_L) false (fun ix jx => (D_ranges_Row nvS (nvS.get d_ranges_Row v1_Wide_L ix) jx)), .sl 3 (nvS.len v1_Join_L) false (fun ix jx => (D_ranges_Row nvS (nvS.get d_ranges_Row v1_Join_L ix) jx)), .sl 2 (nvS.len v1_Mirror) false (fun ix jx => (D_ucd_Pair nvS (nvS.get d_ucd_Pair v1_Mirror ix) jx)), .sl 2 (nvS.len v1_Brackets) false (fun ix jx => (D_ucd_Pair nvS (nvS.get d_ucd_Pair v1_Brackets ix) jx)), .sl 3 (nvS.len v1_Forms) false (fun ix jx => (D_ucd_Form nvS (nvS.get d_ucd_Form v1_Forms ix) jx))])] u)) (fun _ t => Hid.ok t) (fun x u hu h => ?_) (fun f h => ?_)
 · obtain ⟨uc, ug, ut⟩ := u; obtain ⟨huc, hug⟩ : 0 < uc ∧ ∀ k, ug k < uc := hu
   obtain ⟨v2, h14⟩ : ∃ v2, valO ([], 0) (weak_Paragraph (T_ucd_Data.mk (T_ranges_Table.mk v1_Class_L) (T_ranges_Table.mk v1_Wide_L) (T_ranges_Table.mk v1_Join_L) v1_Mirror v1_Brackets v1_Forms) r' 2) = v2 := ⟨_, rfl⟩
   obtain ⟨v2_0, v2_1⟩ := v2
   refine Wx [] [(50, .plain (.tup 2 (fun j => match j with | 0 => (WS nvS v2_0) | 1 => (WV v2_1) | _ => .junk)))] [] 0 [] 2 fun N hN => ?_
   generalize hp : std Tryz.prog = p; generalize hv : nvS = nv; cbv; subst hp hv
   replace h := bindO_val h14 h; clear h14; obtain ⟨h14, h⟩ := h; try dsimp only at h
   refine ⟨rfl, (Or.inl (PureFn.arg (weak_Paragraph_ok (T_ucd_Data.mk (T_ranges_Table.mk v1_Class_L) (T_ranges_Table.mk v1_Wide_L) (T_ranges_Table.mk v1_Join_L) v1_Mirror v1_Brackets v1_Forms) r' 2 (v2_0, v2_1) h14) (And.intro (LeD.agg fun j hj => by
    have hj2 : j < 6 := hj
    rcases (show j = 0 ∨ j = 1 ∨ j = 2 ∨ j = 3 ∨ j = 4 ∨ j = 5 by omega) with rfl | rfl | rfl | rfl | rfl | rfl
    · exact LeD.refl _
    · exact LeD.refl _
    · exact LeD.refl _
    · exact LeD.refl _
    · exact LeD.refl _
    exact LeD.refl _) (And.intro (LeD.refl _) (And.intro (LeD.refl _) trivial))))), ?_⟩
   refine ⟨(fun hg => hg), (fun hg => hg), (fun hg => hg), (fun hg => hg), (fun hg => hg), ?_⟩
   refine ⟨fun h15 => ?_, fun h15 => ?_⟩
   · replace h := iteO_t h h15
     subst hN; have hr := Option.some.inj h
     subst hr
     try dsimp only [noGoto, inBlockQ, thenQ]
     repeat (first | refine Wt ?_ | refine We ?_)
     exact retQ_ret rfl trivial rfl
   replace h := iteO_f h h15
   subst hN; show Tr _ _ _ _
   refine Tr.cutSeq (α := Unit) h (fun _ u1 => (WF 74 [(3, .v (.bool v))] 74 [] u1)) (fun _ t => Hid.ok t) (fun x u1 hu1 h => ?_) (fun f h => ?_)
   · obtain ⟨u1c, u1g, u1t⟩ := u1; obtain ⟨hu1c, hu1g⟩ : 0 < u1c ∧ ∀ k, u1g k < u1c := hu1
     refine Wc [] [] [] 0 [] fun N hN => ?_
     generalize hp : std Tryz.prog = p; generalize hv : nvS = nv; cbv; subst hp hv
     subst hN; have hr := Option.some.inj h
     subst hr
     try dsimp only [noGoto, inBlockQ, thenQ]
     repeat (first | refine Wt ?_ | refine We ?_)
     exact retQ_ret rfl trivial rfl
   refine Wx [] [] [] 0 [] 1 fun N hN => ?_
   generalize hp : std Tryz.prog = p; generalize hv : nvS = nv; cbv; subst hp hv
   subst hN; show Tr _ _ _ _
   refine Tr.block ?_
   refine Tr.loopO (α := Int) (fun i u2 => (WF 74 [(0, WS nvS r'), (3, .v (.bool v)), (7, WS nvS v2_0), (9, WV i)] 74 [] u2)) (fun _ t => Hid.ok t) ⟨uc + 12, gfn [], tfn []⟩ h ?_ ?_ (fun x u2 f hu2 h => ?_)
   · exact Wh
   · exact (Wg (Wk rfl (Wk rfl (Wk rfl (Wk rfl trivial)))) trivial)
   revert h; revert hu2; revert x; intro i hu2 h
   obtain ⟨u2c, u2g, u2t⟩ := u2; obtain ⟨hu2c, hu2g⟩ : 0 < u2c ∧ ∀ k, u2g k < u2c := hu2
   refine Wc [] [] [] 0 [] fun N hN => ?_
   generalize hp : std Tryz.prog = p; generalize hv : nvS = nv; cbv; subst hp hv
   refine ⟨fun h32 => ?_, fun h32 => ?_⟩
   · replace h := iteO_t h h32
     replace h := chk_some h; obtain ⟨h33, h⟩ := h
     try (have h33z := h33; simp only [Int.zero_add] at h33z)
     refine ⟨h33, ?_⟩
     refine ⟨fun h34 => ?_, fun h34 => ?_⟩
     · replace h := iteO_t h h34
       subst hN; cases h
       intro he; cases he
       intro hr
       subst hr
       try dsimp only [noGoto, inBlockQ, thenQ]
       repeat (first | refine Wt ?_ | refine We ?_)
       exact retQ_ret rfl trivial rfl
     replace h := iteO_f h h34
     replace h := chk_some h; obtain ⟨h35, h⟩ := h
     refine ⟨h35, ?_⟩
     subst hN; cases h
     exact Exists.intro ⟨u2c + 12, gfn [], tfn []⟩ (And.intro Wh (Wg (Wk rfl (Wk rfl (Wk rfl (Wk rfl trivial)))) trivial))
   replace h := iteO_f h h32
   subst hN; cases h
   intro he; cases he
   exact Exists.intro ⟨u2c + 10, gfn [], tfn []⟩ (And.intro Wh (Wg (Wk rfl trivial) trivial))
 refine Wx [] [] [] 0 [] 1 fun N hN => ?_
 generalize hp : std Tryz.prog = p; generalize hv : nvS = nv; cbv; subst hp hv
 subst hN; show Tr _ _ _ _
 refine Tr.block ?_
 refine Tr.loopO (α := Int) (fun i2 u3 => (WF 74 [(0, WS nvS r'), (3, .v (.bool v)), (4, .bref 4 (u3.g 4) 0), (5, WV i2)] 74 [(4, .box (u3.g 4) [.sl 3 (nvS.len v1_Class_L) false (fun ix jx => (D_ranges_Row nvS (nvS.get d_ranges_Row v1_Class_L ix) jx)), .sl 3 (nvS.len v1_Wide_L) false (fun ix jx => (D_ranges_Row nvS (nvS.get d_ranges_Row v1_Wide_L ix) jx)), .sl 3 (nvS.len v1_Join_L) false (fun ix jx => (D_ranges_Row nvS (nvS.get d_ranges_Row v1_Join_L ix) jx)), .sl 2 (nvS.len v1_Mirror) false (fun ix jx => (D_ucd_Pair nvS (nvS.get d_ucd_Pair v1_Mirror ix) jx)), .sl 2 (nvS.len v1_Brackets) false (fun ix jx => (D_ucd_Pair nvS (nvS.get d_ucd_Pair v1_Brackets ix) jx)), .sl 3 (nvS.len v1_Forms) false (fun ix jx => (D_ucd_Form nvS (nvS.get d_ucd_Form v1_Forms ix) jx))])] u3)) (fun _ t => Hid.ok t) ⟨ctr + 14, gfn [(4, ctr + 3)], tfn [(4, false)]⟩ h ?_ ?_ (fun x u3 f hu3 h => ?_)
 · exact Wh
 · exact (Wg (Wk rfl (Wk rfl (Wk rfl (Wk rfl trivial)))) (Wi rfl trivial))
 revert h; revert hu3; revert x; intro i2 hu3 h
 obtain ⟨u3c, u3g, u3t⟩ := u3; obtain ⟨hu3c, hu3g⟩ : 0 < u3c ∧ ∀ k, u3g k < u3c := hu3
 obtain ⟨v3, h48⟩ : ∃ v3, valO 0 (ucd_Class (T_ucd_Data.mk (T_ranges_Table.mk v1_Class_L) (T_ranges_Table.mk v1_Wide_L) (T_ranges_Table.mk v1_Join_L) v1_Mirror v1_Brackets v1_Forms) (getL 0 r' i2)) = v3 := ⟨_, rfl⟩
 refine Wc [] [(27, .plain (WV v3))] [] 0 [] fun N hN => ?_
 generalize hp : std Tryz.prog = p; generalize hv : nvS = nv; cbv; subst hp hv
 refine ⟨fun h46 => ?_, fun h46 => ?_⟩
 · replace h := iteO_t h h46
   replace h := chk_some h; obtain ⟨h47, h⟩ := h
   try (have h47z := h47; simp only [Int.zero_add] at h47z)
   replace h := bindO_val h48 h; clear h48; obtain ⟨h48, h⟩ := h
   refine ⟨rfl, h47, (Or.inl (PureFn.arg (ucd_Class_ok (T_ucd_Data.mk (T_ranges_Table.mk v1_Class_L) (T_ranges_Table.mk v1_Wide_L) (T_ranges_Table.mk v1_Join_L) v1_Mirror v1_Brackets v1_Forms) (getL 0 r' i2) v3 h48) (And.intro (LeD.agg fun j hj => by
    have hj2 : j < 6 := hj
    rcases (show j = 0 ∨ j = 1 ∨ j = 2 ∨ j = 3 ∨ j = 4 ∨ j = 5 by omega) with rfl | rfl | rfl | rfl | rfl | rfl
    · exact LeD.refl _
    · exact LeD.refl _
    · exact LeD.refl _
    · exact LeD.refl _
    · exact LeD.refl _
    exact LeD.refl _) (And.intro (LeD.refl _) trivial)))), (show drOk _ _ = true by kernel_rfl), ?_⟩
   refine ⟨(fun hg => hg), (fun hg => hg), (fun hg => hg), (fun hg => hg), (fun hg => hg), (fun hg => hg), (fun hg => hg), (fun hg => hg), (fun hg0 => (fun hg => (and_t hg0 (and_t hg0 hg)))), (fun hg => hg), ?_⟩
   refine ⟨fun h49 => ?_, fun h49 => ?_⟩
   · replace h := iteO_t h h49
     subst hN; cases h
     intro he; cases he
     intro hr
     subst hr
     try dsimp only [noGoto, inBlockQ, thenQ]
     repeat (first | refine Wt ?_ | refine We ?_)
     exact retQ_ret rfl trivial rfl
   replace h := iteO_f h h49
   replace h := chk_some h; obtain ⟨h50, h⟩ := h
   refine ⟨h50, ?_⟩
   subst hN; cases h
   exact Exists.intro ⟨u3c + 13, gfn [(4, u3g 4)], tfn [(4, false)]⟩ (And.intro Wh (Wg (Wk rfl (Wk rfl (Wk rfl (Wk rfl trivial)))) (Wi rfl trivial)))
 replace h := iteO_f h h46
 subst hN; cases h
 intro he; cases he
 exact Exists.intro ⟨u3c + 10, gfn [(4, u3g 4)], tfn [(4, false)]⟩ (And.intro Wh (Wg (Wk rfl (Wk rfl (Wk rfl trivial))) (Wi rfl trivial)))
end Go.Vx
