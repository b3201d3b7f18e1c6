/- Walks, by program (lift.py). -/
import Derived.Test.YtkjmcemgncalgaaGreatDoorWWalk
import Derived.Test.YtkjmcemgncalgaaGreatDoorWWalkU
import Derived.Test.YtkjmcemgncalgaaGreatDoorWWalkSort
set_option linter.all false
namespace Go.Vx
open Go.Proofs
set_option maxRecDepth 100000
set_option linter.unusedVariables false
set_option linter.unusedSimpArgs false
theorem weak_Pairs_ok (d' : T_ucd_Data) (r' : (List Int)) (l' : (List Int)) (r : (List T_Arr2_i64)) (h : weak_Pairs d' r' l' = some r) : PureFn Tryz.prog 11 [(.agg 6 (fun j => (D_ucd_Data nvS d' j))), (WS nvS r'), (WS nvS l')] (.own 2 (nvS.len r) false (fun ix jx => (D_Arr2_i64 nvS (nvS.get d_Arr2_i64 r ix) jx))) := by
 obtain ⟨⟨d_Class_L⟩, ⟨d_Wide_L⟩, ⟨d_Join_L⟩, d_Mirror, d_Brackets, d_Forms⟩ := d'
 unfold weak_Pairs at h
 try dsimp only at h
 refine fn_tr tt0_ok Tryz.func11 (by kernel_rfl) (c := bodyOf Tryz.f11) (by kernel_rfl) ?_
 intro ctr hc
 refine Wx [] [] [] 0 [] 4 fun N hN => ?_
 generalize hp : std Tryz.prog = p; generalize hv : nvS = nv; cbv; subst hp hv
 refine ⟨fun h1 => ?_, fun h1 => ?_⟩
 · replace h := iteO_t h h1
   subst hN; have hr := Option.some.inj h
   subst hr
   try dsimp only [noGoto, inBlockQ, thenQ]
   repeat (first | refine Wt ?_ | refine We ?_)
   exact retQ_ret rfl trivial rfl
 replace h := iteO_f h h1
 subst hN; show Tr _ _ _ _
 refine Tr.cutSeq (α := List T_Arr2_i64) h (fun out t' => (WF 81 [(8, .vec 73 (t'.g 73) 2 0 (nvS.len out))] 81 [(73, .arr (t'.g 73) 2 (nvS.len out) (t'.t 73) (fun ix jx => (D_Arr2_i64 nvS (nvS.get d_Arr2_i64 out ix) jx)))] t')) (fun _ t => Hid.ok t) (fun x t' ht' h => ?_) (fun f h => ?_)
 · revert h; revert ht'; revert x; intro out ht' h
   obtain ⟨t'_c, t'_g, t'_t⟩ := t'; obtain ⟨ht'_c, ht'_g⟩ : 0 < t'_c ∧ ∀ k, t'_g k < t'_c := ht'
   obtain ⟨v, h78⟩ : ∃ v, valO [] (sortPairs out 0 (lenL out)) = v := ⟨_, rfl⟩
   refine Wc [(26, 2)] [(79, .lent [.arr 0 2 ((nvS.len out)) (t'_t 73) (fun ix jx => (D_Arr2_i64 nvS (nvS.get d_Arr2_i64 v ix) jx))] (.tup 0 (fun _ => .junk)))] [] 0 [] fun N hN => ?_
   generalize hp : std Tryz.prog = p; generalize hv : nvS = nv; cbv; subst hp hv
   replace h := bindO_val h78 h; clear h78; obtain ⟨h78, h⟩ := h
   replace h := chk_some h; obtain ⟨h79, h⟩ := h
   refine ⟨rfl, (fun _ _ _ _ hj => absurd hj (Nat.not_lt_zero _)), (fun i _ _ j _ => clo_Arr2_i64 _ j), rfl, rfl, (fun i _ _ j _ => clo_Arr2_i64 _ j), (LentFn.arg (sortPairs_ok out 0 (lenL out) v h78 (lenL out) (by first | rfl | omega) _) (And.intro (LeD.refl _) (And.intro (LeD.refl _) trivial))), ?_⟩
   subst hN; have hr := Option.some.inj h
   subst hr
   try dsimp only [noGoto, inBlockQ, thenQ]
   repeat (first | refine Wt ?_ | refine We ?_)
   exact retQ_ret rfl trivial (And.intro (rfl) (And.intro Wy (And.intro (fun h => by cases h) (out0_all Wo Wp))))
 refine Wx [] [] [] 0 [] 1 fun N hN => ?_
 generalize hp : std Tryz.prog = p; generalize hv : nvS = nv; cbv; subst hp hv
 subst hN; show Tr _ _ _ _
 refine Tr.block ?_
 refine Tr.loopO (α := Int × Int × Int × List Int × List T_Arr2_i64) (fun (open_off, open_n, v1, open', out1) t'1 => (WF 81 [(1, WS nvS r'), (3, .bref 3 (t'1.g 3) 0), (7, .vec 46 (t'1.g 46) 1 open_off open_n), (8, .vec 73 (t'1.g 73) 2 0 (nvS.len out1)), (19, WS nvS l'), (20, .v (.int .i64 (nvS.len l'))), (21, WV v1)] 81 [(3, .box (t'1.g 3) [.sl 3 (nvS.len d_Class_L) false (fun ix jx => (D_ranges_Row nvS (nvS.get d_ranges_Row d_Class_L ix) jx)), .sl 3 (nvS.len d_Wide_L) false (fun ix jx => (D_ranges_Row nvS (nvS.get d_ranges_Row d_Wide_L ix) jx)), .sl 3 (nvS.len d_Join_L) false (fun ix jx => (D_ranges_Row nvS (nvS.get d_ranges_Row d_Join_L ix) jx)), .sl 2 (nvS.len d_Mirror) false (fun ix jx => (D_ucd_Pair nvS (nvS.get d_ucd_Pair d_Mirror ix) jx)), .sl 2 (nvS.len d_Brackets) false (fun ix jx => (D_ucd_Pair nvS (nvS.get d_ucd_Pair d_Brackets ix) jx)), .sl 3 (nvS.len d_Forms) false (fun ix jx => (D_ucd_Form nvS (nvS.get d_ucd_Form d_Forms ix) jx))]), (46, .arr (t'1.g 46) 1 (nvS.len open') (t'1.t 46) (WI nvS open')), (73, .arr (t'1.g 73) 2 (nvS.len out1) (t'1.t 73) (fun ix jx => (D_Arr2_i64 nvS (nvS.get d_Arr2_i64 out1 ix) jx)))] t'1)) (fun _ t => Hid.ok t) ⟨ctr + 16, gfn [(3, ctr + 0), (46, ctr + 5), (73, ctr + 6)], tfn [(3, false), (46, false), (73, false)]⟩ h ?_ ?_ (fun x t'1 f ht'1 h => ?_)
 · exact Wh
 · refine GeSt.by [.thaw (.slot 7) 46 1, .thaw (.slot 8) 73 2] rfl ?_ ?_
   · exact trivial
   exact LeSt.frame (show ctr + 7 < ctr + 16 by omega) rfl rfl (Wk rfl (Wk rfl (Wk rfl (Wk rfl (Wk rfl (Wk rfl (Wk rfl trivial))))))) (Wi rfl (Wj rfl (LeOb.arr' rfl (fun i i0 i1 j hj => by exfalso; revert i1; show i < (0 : Int) → False; omega)) (Wj rfl (LeOb.arr' rfl (fun i i0 i1 j hj => by exfalso; revert i1; show i < (0 : Int) → False; omega)) trivial)))
 obtain ⟨open_off, open_n, v1, open', out1⟩ := x
 try dsimp only at h
 obtain ⟨t'1_c, t'1_g, t'1_t⟩ := t'1; obtain ⟨ht'1_c, ht'1_g⟩ : 0 < t'1_c ∧ ∀ k, t'1_g k < t'1_c := ht'1
 refine Wx [] [] [] 0 [] 2 fun N hN => ?_
 generalize hp : std Tryz.prog = p; generalize hv : nvS = nv; cbv; subst hp hv
 refine ⟨fun h156 => ?_, fun h156 => ?_⟩
 · replace h := iteO_t h h156
   subst hN; show Tr _ _ _ _
   refine Tr.cutSeq (α := Int × Int × List Int × List T_Arr2_i64) h (fun (open_off1, open_n1, open'1, out2) t'2 => (WF 81 [(1, WS nvS r'), (3, .bref 3 (t'2.g 3) 0), (7, .vec 46 (t'2.g 46) 1 open_off1 open_n1), (8, .vec 73 (t'2.g 73) 2 0 (nvS.len out2)), (19, WS nvS l'), (20, .v (.int .i64 (nvS.len l'))), (21, WV v1)] 81 [(3, .box (t'2.g 3) [.sl 3 (nvS.len d_Class_L) false (fun ix jx => (D_ranges_Row nvS (nvS.get d_ranges_Row d_Class_L ix) jx)), .sl 3 (nvS.len d_Wide_L) false (fun ix jx => (D_ranges_Row nvS (nvS.get d_ranges_Row d_Wide_L ix) jx)), .sl 3 (nvS.len d_Join_L) false (fun ix jx => (D_ranges_Row nvS (nvS.get d_ranges_Row d_Join_L ix) jx)), .sl 2 (nvS.len d_Mirror) false (fun ix jx => (D_ucd_Pair nvS (nvS.get d_ucd_Pair d_Mirror ix) jx)), .sl 2 (nvS.len d_Brackets) false (fun ix jx => (D_ucd_Pair nvS (nvS.get d_ucd_Pair d_Brackets ix) jx)), .sl 3 (nvS.len d_Forms) false (fun ix jx => (D_ucd_Form nvS (nvS.get d_ucd_Form d_Forms ix) jx))]), (46, .arr (t'2.g 46) 1 (nvS.len open'1) (t'2.t 46) (WI nvS open'1)), (73, .arr (t'2.g 73) 2 (nvS.len out2) (t'2.t 73) (fun ix jx => (D_Arr2_i64 nvS (nvS.get d_Arr2_i64 out2 ix) jx)))] t'2)) (fun _ t => Hid.ok t) (fun x t'2 ht'2 h => ?_) (fun f h => ?_)
   · obtain ⟨open_off1, open_n1, open'1, out2⟩ := x
     try dsimp only at h
     obtain ⟨t'2_c, t'2_g, t'2_t⟩ := t'2; obtain ⟨ht'2_c, ht'2_g⟩ : 0 < t'2_c ∧ ∀ k, t'2_g k < t'2_c := ht'2
     refine Wc [] [] [] 0 [] fun N hN => ?_
     generalize hp : std Tryz.prog = p; generalize hv : nvS = nv; cbv; subst hp hv
     replace h := chk_some h; obtain ⟨h183, h⟩ := h
     refine ⟨h183, ?_⟩
     subst hN; cases h
     show ∃ t', _ ∧ GeSt _ _ _
     refine ⟨⟨t'2_c + 10, gfn [(3, t'2_g 3), (46, t'2_g 46), (73, t'2_g 73)], tfn [(3, false), (46, t'2_t 46), (73, t'2_t 73)]⟩, Wh, ?_⟩
     exact (Wg (Wk rfl (Wk rfl (Wq rfl (LeD.vec Wy Wy) (Wq rfl (LeD.vec rfl Wy) (Wk rfl (Wk rfl (Wk rfl trivial))))))) (Wi rfl (Wa rfl (Wa rfl trivial))))
   refine Tr.block ?_
   obtain ⟨v2, h187⟩ : ∃ v2, valO (0, 0) (ucd_Bracket (T_ucd_Data.mk (T_ranges_Table.mk d_Class_L) (T_ranges_Table.mk d_Wide_L) (T_ranges_Table.mk d_Join_L) d_Mirror d_Brackets d_Forms) (getL 0 r' v1)) = v2 := ⟨_, rfl⟩
   obtain ⟨v2_0, v2_1⟩ := v2
   refine Wx [] [(34, .plain (.tup 2 (fun j => match j with | 0 => (WV v2_0) | 1 => (WV v2_1) | _ => .junk)))] [] 0 [] 4 fun N hN => ?_
   generalize hp : std Tryz.prog = p; generalize hv : nvS = nv; cbv; subst hp hv
   replace h := chk_some h; obtain ⟨h184, h⟩ := h
   try (have h184z := h184; simp only [Int.zero_add] at h184z)
   refine ⟨h184, ?_⟩
   refine ⟨fun h185 => ?_, fun h185 => ?_⟩
   · replace h := iteO_t h h185
     subst hN; cases h
     show ∃ t', _ ∧ GeSt _ _ _
     refine ⟨⟨t'1_c + 12, gfn [(3, t'1_g 3), (46, t'1_g 46), (73, t'1_g 73)], tfn [(3, false), (46, t'1_t 46), (73, t'1_t 73)]⟩, Wh, ?_⟩
     exact (Wg (Wk rfl (Wk rfl (Wq rfl (LeD.vec Wy Wy) (Wq rfl (LeD.vec rfl Wy) (Wk rfl (Wk rfl (Wk rfl trivial))))))) (Wi rfl (Wa rfl (Wa rfl trivial))))
   replace h := iteO_f h h185
   replace h := chk_some h; obtain ⟨h186, h⟩ := h
   try (have h186z := h186; simp only [Int.zero_add] at h186z)
   replace h := bindO_val h187 h; clear h187; obtain ⟨h187, h⟩ := h; try dsimp only at h
   refine ⟨rfl, h186, (Or.inl (PureFn.arg (ucd_Bracket_ok (T_ucd_Data.mk (T_ranges_Table.mk d_Class_L) (T_ranges_Table.mk d_Wide_L) (T_ranges_Table.mk d_Join_L) d_Mirror d_Brackets d_Forms) (getL 0 r' v1) (v2_0, v2_1) h187) (And.intro (LeD.agg fun j hj => by
    have hj2 : j < 6 := hj
    rcases (show j = 0 ∨ j = 1 ∨ j = 2 ∨ j = 3 ∨ j = 4 ∨ j = 5 by omega) with rfl | rfl | rfl | rfl | rfl | rfl
    · exact LeD.refl _
    · exact LeD.refl _
    · exact LeD.refl _
    · exact LeD.refl _
    · exact LeD.refl _
    exact LeD.refl _) (And.intro (LeD.refl _) trivial)))), (show drOk _ _ = true by kernel_rfl), ?_⟩
   subst hN; show Tr _ _ _ _
   refine Tr.block ?_
   refine Wx [] [] [] 0 [] 1 fun N hN => ?_
   generalize hp : std Tryz.prog = p; generalize hv : nvS = nv; cbv; subst hp hv
   subst hN; show Tr _ _ _ _
   refine Tr.cond rfl (fun q hq => by cases hq) (fun h188 => ?_) (fun h188 => ?_)
   · replace h := iteO_t h h188
     refine Wc [] [] [45] 0 [] fun N hN => ?_
     generalize hp : std Tryz.prog = p; generalize hv : nvS = nv; cbv; subst hp hv
     refine ⟨fun h189 => ?_, fun h189 => ?_⟩
     · replace h := iteO_t h h189
       subst hN; cases h
       intro he; cases he
       intro he; cases he
       intro hr
       subst hr
       try dsimp only [noGoto, inBlockQ, thenQ]
       repeat (first | refine Wt ?_ | refine We ?_)
       exact retQ_ret rfl trivial rfl
     replace h := iteO_f h h189
     replace h := chk_some h; obtain ⟨h190, h⟩ := h
     try (have h190z := h190; simp only [Int.zero_add] at h190z)
     replace h := chk_some h; obtain ⟨h191, h⟩ := h
     refine ⟨rfl, (by have := ht'1_g 46; show (_ : Nat) < _; (try dsimp only [std_eq, stdN]); omega), h191, ?_⟩
     subst hN; cases h
     show ∃ t', _ ∧ GeSt _ _ _
     refine ⟨⟨t'1_c + 17, gfn [(3, t'1_g 3), (46, t'1_c + 7), (73, t'1_g 73)], tfn [(3, false), (46, false), (73, t'1_t 73)]⟩, Wh, ?_⟩
     exact (Wg (Wk rfl (Wk rfl (Wq rfl (LeD.vec Wy Wy) (Wq rfl (LeD.vec rfl Wy) (Wk rfl (Wk rfl (Wk rfl trivial))))))) (Wi rfl (Wa rfl (Wa rfl trivial))))
   replace h := iteO_f h h188
   refine Wx [] [] [] 0 [] 1 fun N hN => ?_
   generalize hp : std Tryz.prog = p; generalize hv : nvS = nv; cbv; subst hp hv
   subst hN; show Tr _ _ _ _
   refine Tr.cond rfl (fun q hq => by cases hq) (fun h192 => ?_) (fun h192 => ?_)
   · replace h := iteO_t h h192
     refine Wx [] [] [] 0 [] 1 fun N hN => ?_
     generalize hp : std Tryz.prog = p; generalize hv : nvS = nv; cbv; subst hp hv
     replace h := chk_some h; obtain ⟨h193, h⟩ := h
     refine ⟨h193, ?_⟩
     subst hN; show Tr _ _ _ _
     refine Tr.block ?_
     refine Tr.loopO (α := Int) (fun n1 t'3 => (WF 81 [(1, WS nvS r'), (3, .bref 3 (t'3.g 3) 0), (7, .vec 46 (t'3.g 46) 1 open_off open_n), (8, .vec 73 (t'3.g 73) 2 0 (nvS.len out1)), (9, WV v1), (11, WV v2_0), (13, WV n1), (19, WS nvS l'), (20, .v (.int .i64 (nvS.len l'))), (21, WV v1)] 81 [(3, .box (t'3.g 3) [.sl 3 (nvS.len d_Class_L) false (fun ix jx => (D_ranges_Row nvS (nvS.get d_ranges_Row d_Class_L ix) jx)), .sl 3 (nvS.len d_Wide_L) false (fun ix jx => (D_ranges_Row nvS (nvS.get d_ranges_Row d_Wide_L ix) jx)), .sl 3 (nvS.len d_Join_L) false (fun ix jx => (D_ranges_Row nvS (nvS.get d_ranges_Row d_Join_L ix) jx)), .sl 2 (nvS.len d_Mirror) false (fun ix jx => (D_ucd_Pair nvS (nvS.get d_ucd_Pair d_Mirror ix) jx)), .sl 2 (nvS.len d_Brackets) false (fun ix jx => (D_ucd_Pair nvS (nvS.get d_ucd_Pair d_Brackets ix) jx)), .sl 3 (nvS.len d_Forms) false (fun ix jx => (D_ucd_Form nvS (nvS.get d_ucd_Form d_Forms ix) jx))]), (46, .arr (t'3.g 46) 1 (nvS.len open') (t'3.t 46) (WI nvS open')), (73, .arr (t'3.g 73) 2 (nvS.len out1) (t'3.t 73) (fun ix jx => (D_Arr2_i64 nvS (nvS.get d_Arr2_i64 out1 ix) jx)))] t'3)) (fun _ t => Hid.ok t) ⟨t'1_c + 17, gfn [(3, t'1_g 3), (46, t'1_g 46), (73, t'1_g 73)], tfn [(3, false), (46, t'1_t 46), (73, t'1_t 73)]⟩ h ?_ ?_ (fun x t'3 f ht'3 h => ?_)
     · exact Wh
     · exact (Wg (Wk rfl (Wk rfl (Wk rfl (Wk rfl (Wk rfl (Wk rfl (Wk rfl (Wk rfl (Wk rfl (Wk rfl trivial)))))))))) (Wi rfl (Wi rfl (Wi rfl trivial))))
     revert h; revert ht'3; revert x; intro n1 ht'3 h
     obtain ⟨t'3_c, t'3_g, t'3_t⟩ := t'3; obtain ⟨ht'3_c, ht'3_g⟩ : 0 < t'3_c ∧ ∀ k, t'3_g k < t'3_c := ht'3
     refine Wc [] [] [72] 0 [] fun N hN => ?_
     generalize hp : std Tryz.prog = p; generalize hv : nvS = nv; cbv; subst hp hv
     refine ⟨fun h210 => ?_, fun h210 => ?_⟩
     · replace h := iteO_t h h210
       replace h := chk_some h; obtain ⟨h211, h⟩ := h
       try (have h211z := h211; simp only [Int.zero_add] at h211z)
       replace h := chk_some h; obtain ⟨h212, h⟩ := h
       try (have h212z := h212; simp only [Int.zero_add] at h212z)
       refine ⟨h211, rfl, h212, ?_⟩
       refine ⟨fun h213 => ?_, fun h213 => ?_⟩
       · replace h := iteO_t h h213
         replace h := chk_some h; obtain ⟨h214, h⟩ := h
         try (have h214z := h214; simp only [Int.zero_add] at h214z)
         replace h := chk_some h; obtain ⟨h215, h⟩ := h
         refine ⟨h214, rfl, rfl, (by have := ht'3_g 73; show (_ : Nat) < _; (try dsimp only [std_eq, stdN]); omega), h215, ?_⟩
         replace h := chk_some h; obtain ⟨h216, h⟩ := h
         refine ⟨h216, ?_⟩
         subst hN; cases h
         intro he; cases he
         show ∃ t', _ ∧ GeSt _ _ _
         refine ⟨⟨t'3_c + 13, gfn [(3, t'3_g 3), (46, t'3_g 46), (73, t'3_c + 2)], tfn [(3, false), (46, t'3_t 46), (73, false)]⟩, Wh, ?_⟩
         exact (Wg (Wk rfl (Wk rfl (Wq rfl (LeD.vec Wy Wy) (Wq rfl (LeD.vec rfl Wy) (Wk rfl (Wk rfl (Wk rfl trivial))))))) (Wi rfl (Wa rfl (Wa rfl trivial))))
       replace h := iteO_f h h213
       replace h := chk_some h; obtain ⟨h217, h⟩ := h
       refine ⟨h217, ?_⟩
       subst hN; cases h
       show ∃ t', _ ∧ GeSt _ _ _
       refine ⟨⟨t'3_c + 12, gfn [(3, t'3_g 3), (46, t'3_g 46), (73, t'3_g 73)], tfn [(3, false), (46, t'3_t 46), (73, t'3_t 73)]⟩, Wh, ?_⟩
       exact (Wg (Wk rfl (Wk rfl (Wk rfl (Wk rfl (Wk rfl (Wk rfl (Wk rfl (Wk rfl (Wk rfl (Wk rfl trivial)))))))))) (Wi rfl (Wi rfl (Wi rfl trivial))))
     replace h := iteO_f h h210
     subst hN; cases h
     intro he; cases he
     show ∃ t', _ ∧ GeSt _ _ _
     refine ⟨⟨t'3_c + 10, gfn [(3, t'3_g 3), (46, t'3_g 46), (73, t'3_g 73)], tfn [(3, false), (46, t'3_t 46), (73, t'3_t 73)]⟩, Wh, ?_⟩
     exact (Wg (Wk rfl (Wk rfl (Wq rfl (LeD.vec Wy Wy) (Wq rfl (LeD.vec rfl Wy) (Wk rfl (Wk rfl (Wk rfl trivial))))))) (Wi rfl (Wa rfl (Wa rfl trivial))))
   replace h := iteO_f h h192
   refine Wc [] [] [] 0 [] fun N hN => ?_
   generalize hp : std Tryz.prog = p; generalize hv : nvS = nv; cbv; subst hp hv
   subst hN; cases h
   show ∃ t', _ ∧ GeSt _ _ _
   refine ⟨⟨t'1_c + 16, gfn [(3, t'1_g 3), (46, t'1_g 46), (73, t'1_g 73)], tfn [(3, false), (46, t'1_t 46), (73, t'1_t 73)]⟩, Wh, ?_⟩
   exact (Wg (Wk rfl (Wk rfl (Wq rfl (LeD.vec Wy Wy) (Wq rfl (LeD.vec rfl Wy) (Wk rfl (Wk rfl (Wk rfl trivial))))))) (Wi rfl (Wa rfl (Wa rfl trivial))))
 replace h := iteO_f h h156
 subst hN; cases h
 intro he; cases he
 show ∃ t', _ ∧ GeSt _ _ _
 refine ⟨⟨t'1_c + 10, gfn [(73, t'1_g 73)], tfn [(73, t'1_t 73)]⟩, Wh, ?_⟩
 exact (Wg (Wq rfl (LeD.vec rfl Wy) trivial) (Wa rfl trivial))
end Go.Vx
