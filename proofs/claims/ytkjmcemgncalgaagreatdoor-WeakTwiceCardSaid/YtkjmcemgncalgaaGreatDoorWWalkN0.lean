/- Walks, by program (lift.py). -/
import Derived.Test.YtkjmcemgncalgaaGreatDoorWWalk
import Derived.Test.YtkjmcemgncalgaaGreatDoorWWalkT2
set_option linter.all false
namespace Go.Vx
open Go.Proofs
set_option maxRecDepth 100000
set_option linter.unusedVariables false
set_option linter.unusedSimpArgs false
theorem n0_ok (x' : T_weak_line) (r : (List Int)) (h : n0 x' = some r) (x'_N : Int) (hx'_N : lenL x'.fl = x'_N) (tg0 : Bool) : LentFn Tryz.prog 72 [.agg 7 (fun j => match j with | 0 => .vec 0 0 1 0 x'_N | 1 => WS nvS x'.fwas | 2 => WV x'.fsos | 3 => WV x'.feos | 4 => WV x'.fdir | 5 => WV x'.fagainst | 6 => .sl 2 (nvS.len x'.fpairs) false (fun ix jx => (D_Arr2_i64 nvS (nvS.get d_Arr2_i64 x'.fpairs ix) jx)) | _ => .junk)] [.arr 0 1 x'_N tg0 (WI nvS x'.fl)] [.arr 0 1 x'_N tg0 (WI nvS r)] (.tup 0 (fun _ => .junk)) := by
 obtain rfl : nvS.len x'.fl = x'_N := hx'_N
 obtain ⟨x_l, x_was, x_sos, x_eos, x_dir, x_against, x_pairs⟩ := x'
 unfold n0 at h
 try dsimp only at h
 refine lent_tr tt0_ok Tryz.func72 (by kernel_rfl) (c := bodyOf Tryz.f72) (by kernel_rfl) rfl ?_
 intro ctr hc
 refine Wx [] [] [] 1 [] 2 fun N hN => ?_
 generalize hp : std Tryz.prog = p; generalize hv : nvS = nv; cbv; subst hp hv
 refine ⟨rfl, ?_⟩
 subst hN; show Tr _ _ _ _
 refine Tr.block ?_
 refine Tr.loopO (α := Int × List Int) (fun (v, o) t' => (WF 53 [(1, .bref 2 (t'.g 2) 0), (9, .sl 2 (nvS.len x_pairs) false (fun ix jx => (D_Arr2_i64 nvS (nvS.get d_Arr2_i64 x_pairs ix) jx))), (10, .v (.int .i64 (nvS.len x_pairs))), (11, WV v)] 54 [(0, .arr (0) 1 (nvS.len x_l) (tg0) (WI nvS o)), (2, .box (t'.g 2) [.vec 0 (0) 1 0 (nvS.len x_l), WS nvS x_was, WV x_sos, WV x_eos, WV x_dir, WV x_against, .sl 2 (nvS.len x_pairs) false (fun ix jx => (D_Arr2_i64 nvS (nvS.get d_Arr2_i64 x_pairs ix) jx))])] t')) (fun (v, o) t => Hid.ok t ∧ lenL o = (lenL x_l)) ⟨ctr + 11, gfn [(2, ctr + 0)], tfn [(2, false)]⟩ h ?_ ?_ (fun x t' f ht' h => ?_)
 · exact (And.intro Wh Wf)
 · exact (Wg (Wk rfl (Wk rfl (Wk rfl (Wk rfl trivial)))) (Wi rfl (Wi rfl trivial)))
 obtain ⟨v, o⟩ := x
 try dsimp only at h
 obtain ⟨ht', ht'_f0⟩ := ht'
 obtain ⟨t'_c, t'_g, t'_t⟩ := t'; obtain ⟨ht'_c, ht'_g⟩ : 0 < t'_c ∧ ∀ k, t'_g k < t'_c := ht'
 refine Wx [] [] [] 1 [] 2 fun N hN => ?_
 generalize hp : std Tryz.prog = p; generalize hv : nvS = nv; cbv; subst hp hv
 refine ⟨fun h61 => ?_, fun h61 => ?_⟩
 · replace h := iteO_t h h61
   subst hN; show Tr _ _ _ _
   refine Tr.cutSeq (α := List Int) h (fun o1 t'1 => (WF 53 [(1, .bref 2 (t'1.g 2) 0), (9, .sl 2 (nvS.len x_pairs) false (fun ix jx => (D_Arr2_i64 nvS (nvS.get d_Arr2_i64 x_pairs ix) jx))), (10, .v (.int .i64 (nvS.len x_pairs))), (11, WV v)] 54 [(0, .arr (0) 1 (nvS.len x_l) (tg0) (WI nvS o1)), (2, .box (t'1.g 2) [.vec 0 (0) 1 0 (nvS.len x_l), WS nvS x_was, WV x_sos, WV x_eos, WV x_dir, WV x_against, .sl 2 (nvS.len x_pairs) false (fun ix jx => (D_Arr2_i64 nvS (nvS.get d_Arr2_i64 x_pairs ix) jx))])] t'1)) (fun o1 t => Hid.ok t ∧ lenL o1 = (lenL x_l)) (fun x t'1 ht'1 h => ?_) (fun f h => ?_)
   · revert h; revert ht'1; revert x; intro o1 ht'1 h
     obtain ⟨ht'1, ht'1_f0⟩ := ht'1
     obtain ⟨t'1_c, t'1_g, t'1_t⟩ := t'1; obtain ⟨ht'1_c, ht'1_g⟩ : 0 < t'1_c ∧ ∀ k, t'1_g k < t'1_c := ht'1
     refine Wc [] [] [] 1 [] fun N hN => ?_
     generalize hp : std Tryz.prog = p; generalize hv : nvS = nv; cbv; subst hp hv
     replace h := chk_some h; obtain ⟨h90, h⟩ := h
     refine ⟨h90, ?_⟩
     subst hN; cases h
     show ∃ t', _ ∧ GeSt _ _ _
     refine ⟨⟨t'1_c + 10, gfn [(2, t'1_g 2)], tfn [(2, false)]⟩, (And.intro Wh Wf), ?_⟩
     exact (Wg (Wk rfl (Wk rfl (Wk rfl (Wk rfl trivial)))) (Wi rfl (Wi rfl trivial)))
   refine Tr.block ?_
   obtain ⟨v1, h92⟩ : ∃ v1, valO 0 (weak_line__direction (T_weak_line.mk o x_was x_sos x_eos x_dir x_against x_pairs) (getL d_Arr2_i64 x_pairs v)) = v1 := ⟨_, rfl⟩
   refine Wx [(94, 4)] [(18, .plain (WV v1))] [] 1 [] 4 fun N hN => ?_
   generalize hp : std Tryz.prog = p; generalize hv : nvS = nv; cbv; subst hp hv
   replace h := chk_some h; obtain ⟨h91, h⟩ := h
   try (have h91z := h91; simp only [Int.zero_add] at h91z)
   refine ⟨h91, rfl, ?_⟩
   replace h := bindO_val h92 h; clear h92; obtain ⟨h92, h⟩ := h
   refine ⟨rfl, rfl, rfl, (PureFn.arg (weak_line__direction_ok (T_weak_line.mk o x_was x_sos x_eos x_dir x_against x_pairs) (getL d_Arr2_i64 x_pairs v) v1 h92) (And.intro (LeD.agg fun j hj => by
    have hj2 : j < 7 := hj
    rcases (show j = 0 ∨ j = 1 ∨ j = 2 ∨ j = 3 ∨ j = 4 ∨ j = 5 ∨ j = 6 by omega) with rfl | rfl | rfl | rfl | rfl | rfl | rfl
    · exact LeD.slE Wy Wp
    · exact LeD.refl _
    · exact LeD.refl _
    · exact LeD.refl _
    · exact LeD.refl _
    · exact LeD.refl _
    · exact LeD.refl _) (And.intro (LeD.agg fun j hj => by
    have hj2 : j < 2 := hj
    rcases (show j = 0 ∨ j = 1 by omega) with rfl | rfl
    · exact LeD.refl _
    exact LeD.refl _) trivial))), ?_⟩
   refine ⟨fun h93 => ?_, fun h93 => ?_⟩
   · replace h := iteO_t h h93
     subst hN; cases h
     show ∃ t', _ ∧ GeSt _ _ _
     refine ⟨⟨t'_c + 13, gfn [(2, t'_g 2)], tfn [(2, false)]⟩, (And.intro Wh Wf), ?_⟩
     exact (Wg (Wk rfl (Wk rfl (Wk rfl (Wk rfl trivial)))) (Wi rfl (Wi rfl trivial)))
   replace h := iteO_f h h93
   refine ⟨rfl, ?_⟩
   subst hN; show Tr _ _ _ _
   refine Tr.block ?_
   refine Tr.rounds 3 ?_
   refine TrN.cut (α := List Int) h (fun o2 t'2 => (WF 53 [(1, .bref 2 (t'2.g 2) 0), (4, WV v1), (9, .sl 2 (nvS.len x_pairs) false (fun ix jx => (D_Arr2_i64 nvS (nvS.get d_Arr2_i64 x_pairs ix) jx))), (10, .v (.int .i64 (nvS.len x_pairs))), (11, WV v), (20, (.agg 2 (fun j => (D_Arr2_i64 nvS (nvS.get d_Arr2_i64 x_pairs v) j)))), (21, WV 1)] 54 [(0, .arr (0) 1 (nvS.len x_l) (tg0) (WI nvS o2)), (2, .box (t'2.g 2) [.vec 0 (0) 1 0 (nvS.len x_l), WS nvS x_was, WV x_sos, WV x_eos, WV x_dir, WV x_against, .sl 2 (nvS.len x_pairs) false (fun ix jx => (D_Arr2_i64 nvS (nvS.get d_Arr2_i64 x_pairs ix) jx))])] t'2)) (fun o2 t => Hid.ok t ∧ lenL o2 = (lenL x_l)) (fun x t'2 ht'2 h => ?_) (fun f h => ?_)
   · revert h; revert ht'2; revert x; intro o2 ht'2 h
     obtain ⟨ht'2, ht'2_f0⟩ := ht'2
     obtain ⟨t'2_c, t'2_g, t'2_t⟩ := t'2; obtain ⟨ht'2_c, ht'2_g⟩ : 0 < t'2_c ∧ ∀ k, t'2_g k < t'2_c := ht'2
     refine TrN.cut (α := List Int) h (fun o3 t'3 => (WF 53 [(1, .bref 2 (t'3.g 2) 0), (4, WV v1), (9, .sl 2 (nvS.len x_pairs) false (fun ix jx => (D_Arr2_i64 nvS (nvS.get d_Arr2_i64 x_pairs ix) jx))), (10, .v (.int .i64 (nvS.len x_pairs))), (11, WV v), (20, (.agg 2 (fun j => (D_Arr2_i64 nvS (nvS.get d_Arr2_i64 x_pairs v) j)))), (21, WV 2)] 54 [(0, .arr (0) 1 (nvS.len x_l) (tg0) (WI nvS o3)), (2, .box (t'3.g 2) [.vec 0 (0) 1 0 (nvS.len x_l), WS nvS x_was, WV x_sos, WV x_eos, WV x_dir, WV x_against, .sl 2 (nvS.len x_pairs) false (fun ix jx => (D_Arr2_i64 nvS (nvS.get d_Arr2_i64 x_pairs ix) jx))])] t'3)) (fun o3 t => Hid.ok t ∧ lenL o3 = (lenL x_l)) (fun x t'3 ht'3 h => ?_) (fun f h => ?_)
     · revert h; revert ht'3; revert x; intro o3 ht'3 h
       obtain ⟨ht'3, ht'3_f0⟩ := ht'3
       obtain ⟨t'3_c, t'3_g, t'3_t⟩ := t'3; obtain ⟨ht'3_c, ht'3_g⟩ : 0 < t'3_c ∧ ∀ k, t'3_g k < t'3_c := ht'3
       show Tr _ _ _ _
       refine Wx [] [] [] 1 [] 2 fun N hN => ?_
       generalize hp : std Tryz.prog = p; generalize hv : nvS = nv; cbv; subst hp hv
       refine ⟨fun h118 => ?_, fun h118 => ?_⟩
       · first | cases h118 | exact Bool.noConfusion (h118 : false = true)
       subst hN
       cases h
       show ∃ t', _ ∧ GeSt _ _ _
       refine ⟨⟨t'3_c + 10, gfn [(2, t'3_g 2)], tfn [(2, false)]⟩, (And.intro Wh Wf), ?_⟩
       exact (Wg (Wk rfl (Wk rfl (Wk rfl (Wk rfl trivial)))) (Wi rfl (Wi rfl trivial)))
     refine Wx [] [] [] 1 [] 2 fun N hN => ?_
     generalize hp : std Tryz.prog = p; generalize hv : nvS = nv; cbv; subst hp hv
     refine ⟨fun h119 => ?_, fun h119 => ?_⟩
     · subst hN
       show Tr _ _ _ _
       refine Tr.cutSeq (α := List Int) h (fun o4 t'4 => (WF 53 [(1, .bref 2 (t'4.g 2) 0), (4, WV v1), (9, .sl 2 (nvS.len x_pairs) false (fun ix jx => (D_Arr2_i64 nvS (nvS.get d_Arr2_i64 x_pairs ix) jx))), (10, .v (.int .i64 (nvS.len x_pairs))), (11, WV v), (20, (.agg 2 (fun j => (D_Arr2_i64 nvS (nvS.get d_Arr2_i64 x_pairs v) j)))), (21, WV 1)] 54 [(0, .arr (0) 1 (nvS.len x_l) (tg0) (WI nvS o4)), (2, .box (t'4.g 2) [.vec 0 (0) 1 0 (nvS.len x_l), WS nvS x_was, WV x_sos, WV x_eos, WV x_dir, WV x_against, .sl 2 (nvS.len x_pairs) false (fun ix jx => (D_Arr2_i64 nvS (nvS.get d_Arr2_i64 x_pairs ix) jx))])] t'4)) (fun o4 t => Hid.ok t ∧ lenL o4 = (lenL x_l)) (fun x t'4 ht'4 h => ?_) (fun f h => ?_)
       · revert h; revert ht'4; revert x; intro o4 ht'4 h
         obtain ⟨ht'4, ht'4_f0⟩ := ht'4
         obtain ⟨t'4_c, t'4_g, t'4_t⟩ := t'4; obtain ⟨ht'4_c, ht'4_g⟩ : 0 < t'4_c ∧ ∀ k, t'4_g k < t'4_c := ht'4
         refine Wc [] [] [] 1 [] fun N hN => ?_
         generalize hp : std Tryz.prog = p; generalize hv : nvS = nv; cbv; subst hp hv
         replace h := chk_some h; obtain ⟨h130, h⟩ := h
         refine ⟨h130, ?_⟩
         subst hN; cases h
         show ∃ t', _ ∧ GeSt _ _ _
         refine ⟨⟨t'4_c + 10, gfn [(2, t'4_g 2)], tfn [(2, false)]⟩, (And.intro Wh Wf), ?_⟩
         exact (Wg (Wk rfl (Wk rfl (Wk rfl (Wk rfl (Wk rfl (Wq rfl ((by first | exact LeD.refl _ | exact LeD.agg (fun j hj => by (have hj2 : j < 2 := hj); (rcases (show j = 0 ∨ j = 1 by omega) with rfl | rfl) <;> exact LeD.refl _))) (Wk rfl trivial))))))) (Wi rfl (Wi rfl trivial)))
       refine Tr.block ?_
       refine Wx [] [] [] 1 [] 3 fun N hN => ?_
       generalize hp : std Tryz.prog = p; generalize hv : nvS = nv; cbv; subst hp hv
       replace h := chk_some h; obtain ⟨h131, h⟩ := h
       try (have h131z := h131; simp only [Int.zero_add] at h131z)
       refine ⟨rfl, h131, rfl, ?_⟩
       replace h := chk_some h; obtain ⟨h132, h⟩ := h
       refine ⟨h132, ?_⟩
       subst hN; show Tr _ _ _ _
       refine Tr.block ?_
       refine Tr.loopO (α := Int × List Int) (fun (j1, o5) t'5 => (WF 53 [(1, .bref 2 (t'5.g 2) 0), (4, WV v1), (7, WV j1), (9, .sl 2 (nvS.len x_pairs) false (fun ix jx => (D_Arr2_i64 nvS (nvS.get d_Arr2_i64 x_pairs ix) jx))), (10, .v (.int .i64 (nvS.len x_pairs))), (11, WV v), (20, (.agg 2 (fun j => (D_Arr2_i64 nvS (nvS.get d_Arr2_i64 x_pairs v) j)))), (21, WV 1)] 54 [(0, .arr (0) 1 (nvS.len x_l) (tg0) (WI nvS o5)), (2, .box (t'5.g 2) [.vec 0 (0) 1 0 (nvS.len x_l), WS nvS x_was, WV x_sos, WV x_eos, WV x_dir, WV x_against, .sl 2 (nvS.len x_pairs) false (fun ix jx => (D_Arr2_i64 nvS (nvS.get d_Arr2_i64 x_pairs ix) jx))])] t'5)) (fun (j1, o5) t => Hid.ok t ∧ lenL o5 = (lenL x_l)) ⟨t'2_c + 13, gfn [(2, t'2_g 2)], tfn [(2, false)]⟩ h ?_ ?_ (fun x t'5 f ht'5 h => ?_)
       · exact (And.intro Wh Wf)
       · exact (Wg (Wk rfl (Wk rfl (Wk rfl (Wk rfl (Wk rfl (Wk rfl (Wq rfl ((by first | exact LeD.refl _ | exact LeD.agg (fun j hj => by (have hj2 : j < 2 := hj); (rcases (show j = 0 ∨ j = 1 by omega) with rfl | rfl) <;> exact LeD.refl _))) (Wk rfl trivial)))))))) (Wa rfl (Wi rfl trivial)))
       obtain ⟨j1, o5⟩ := x
       try dsimp only at h
       obtain ⟨ht'5, ht'5_f0⟩ := ht'5
       obtain ⟨t'5_c, t'5_g, t'5_t⟩ := t'5; obtain ⟨ht'5_c, ht'5_g⟩ : 0 < t'5_c ∧ ∀ k, t'5_g k < t'5_c := ht'5
       refine Wc [] [] [] 1 [] fun N hN => ?_
       generalize hp : std Tryz.prog = p; generalize hv : nvS = nv; cbv; subst hp hv
       replace h := chk_some h; obtain ⟨h141, h⟩ := h
       refine ⟨rfl, (fun hg => hg), (fun _ => rfl), (fun hg => hg), (fun hg => hg), h141, (fun hg => hg), (fun hg => hg), (fun hg => hg), ?_⟩
       refine ⟨fun h142 => ?_, fun h142 => ?_⟩
       · replace h := iteO_t h h142
         replace h := chk_some h; obtain ⟨h143, h⟩ := h
         try (have h143z := h143; simp only [Int.zero_add] at h143z)
         refine ⟨rfl, h143, rfl, ?_⟩
         replace h := chk_some h; obtain ⟨h144, h⟩ := h
         refine ⟨h144, ?_⟩
         subst hN; cases h
         show ∃ t', _ ∧ GeSt _ _ _
         refine ⟨⟨t'5_c + 12, gfn [(2, t'5_g 2)], tfn [(2, false)]⟩, (And.intro Wh Wf), ?_⟩
         exact (Wg (Wk rfl (Wk rfl (Wk rfl (Wk rfl (Wk rfl (Wk rfl (Wq rfl ((by first | exact LeD.refl _ | exact LeD.agg (fun j hj => by (have hj2 : j < 2 := hj); (rcases (show j = 0 ∨ j = 1 by omega) with rfl | rfl) <;> exact LeD.refl _))) (Wk rfl trivial)))))))) (Wa rfl (Wi rfl trivial)))
       replace h := iteO_f h h142
       subst hN; cases h
       intro he; cases he
       show ∃ t', _ ∧ GeSt _ _ _
       refine ⟨⟨t'5_c + 10, gfn [(2, t'5_g 2)], tfn [(2, false)]⟩, (And.intro Wh Wf), ?_⟩
       exact (Wg (Wk rfl (Wk rfl (Wk rfl (Wk rfl (Wk rfl (Wq rfl ((by first | exact LeD.refl _ | exact LeD.agg (fun j hj => by (have hj2 : j < 2 := hj); (rcases (show j = 0 ∨ j = 1 by omega) with rfl | rfl) <;> exact LeD.refl _))) (Wk rfl trivial))))))) (Wi rfl (Wi rfl trivial)))
     first | cases h119 | exact Bool.noConfusion (h119 : true = false)
   refine Wx [] [] [] 1 [] 2 fun N hN => ?_
   generalize hp : std Tryz.prog = p; generalize hv : nvS = nv; cbv; subst hp hv
   refine ⟨fun h145 => ?_, fun h145 => ?_⟩
   · subst hN
     show Tr _ _ _ _
     refine Tr.cutSeq (α := List Int) h (fun o6 t'6 => (WF 53 [(1, .bref 2 (t'6.g 2) 0), (4, WV v1), (9, .sl 2 (nvS.len x_pairs) false (fun ix jx => (D_Arr2_i64 nvS (nvS.get d_Arr2_i64 x_pairs ix) jx))), (10, .v (.int .i64 (nvS.len x_pairs))), (11, WV v), (20, (.agg 2 (fun j => (D_Arr2_i64 nvS (nvS.get d_Arr2_i64 x_pairs v) j)))), (21, WV 0)] 54 [(0, .arr (0) 1 (nvS.len x_l) (tg0) (WI nvS o6)), (2, .box (t'6.g 2) [.vec 0 (0) 1 0 (nvS.len x_l), WS nvS x_was, WV x_sos, WV x_eos, WV x_dir, WV x_against, .sl 2 (nvS.len x_pairs) false (fun ix jx => (D_Arr2_i64 nvS (nvS.get d_Arr2_i64 x_pairs ix) jx))])] t'6)) (fun o6 t => Hid.ok t ∧ lenL o6 = (lenL x_l)) (fun x t'6 ht'6 h => ?_) (fun f h => ?_)
     · revert h; revert ht'6; revert x; intro o6 ht'6 h
       obtain ⟨ht'6, ht'6_f0⟩ := ht'6
       obtain ⟨t'6_c, t'6_g, t'6_t⟩ := t'6; obtain ⟨ht'6_c, ht'6_g⟩ : 0 < t'6_c ∧ ∀ k, t'6_g k < t'6_c := ht'6
       refine Wc [] [] [] 1 [] fun N hN => ?_
       generalize hp : std Tryz.prog = p; generalize hv : nvS = nv; cbv; subst hp hv
       replace h := chk_some h; obtain ⟨h156, h⟩ := h
       refine ⟨h156, ?_⟩
       subst hN; cases h
       show ∃ t', _ ∧ GeSt _ _ _
       refine ⟨⟨t'6_c + 10, gfn [(2, t'6_g 2)], tfn [(2, false)]⟩, (And.intro Wh Wf), ?_⟩
       exact (Wg (Wk rfl (Wk rfl (Wk rfl (Wk rfl (Wk rfl (Wq rfl ((by first | exact LeD.refl _ | exact LeD.agg (fun j hj => by (have hj2 : j < 2 := hj); (rcases (show j = 0 ∨ j = 1 by omega) with rfl | rfl) <;> exact LeD.refl _))) (Wk rfl trivial))))))) (Wi rfl (Wi rfl trivial)))
     refine Tr.block ?_
     refine Wx [] [] [] 1 [] 3 fun N hN => ?_
     generalize hp : std Tryz.prog = p; generalize hv : nvS = nv; cbv; subst hp hv
     replace h := chk_some h; obtain ⟨h157, h⟩ := h
     try (have h157z := h157; simp only [Int.zero_add] at h157z)
     refine ⟨rfl, h157, rfl, ?_⟩
     replace h := chk_some h; obtain ⟨h158, h⟩ := h
     refine ⟨h158, ?_⟩
     subst hN; show Tr _ _ _ _
     refine Tr.block ?_
     refine Tr.loopO (α := Int × List Int) (fun (j4, o7) t'7 => (WF 53 [(1, .bref 2 (t'7.g 2) 0), (4, WV v1), (7, WV j4), (9, .sl 2 (nvS.len x_pairs) false (fun ix jx => (D_Arr2_i64 nvS (nvS.get d_Arr2_i64 x_pairs ix) jx))), (10, .v (.int .i64 (nvS.len x_pairs))), (11, WV v), (20, (.agg 2 (fun j => (D_Arr2_i64 nvS (nvS.get d_Arr2_i64 x_pairs v) j)))), (21, WV 0)] 54 [(0, .arr (0) 1 (nvS.len x_l) (tg0) (WI nvS o7)), (2, .box (t'7.g 2) [.vec 0 (0) 1 0 (nvS.len x_l), WS nvS x_was, WV x_sos, WV x_eos, WV x_dir, WV x_against, .sl 2 (nvS.len x_pairs) false (fun ix jx => (D_Arr2_i64 nvS (nvS.get d_Arr2_i64 x_pairs ix) jx))])] t'7)) (fun (j4, o7) t => Hid.ok t ∧ lenL o7 = (lenL x_l)) ⟨t'_c + 18, gfn [(2, t'_g 2)], tfn [(2, false)]⟩ h ?_ ?_ (fun x t'7 f ht'7 h => ?_)
     · exact (And.intro Wh Wf)
     · exact (Wg (Wk rfl (Wk rfl (Wk rfl (Wk rfl (Wk rfl (Wk rfl (Wq rfl (LeD.agg fun j hj => by
        have hj2 : j < 2 := hj
        rcases (show j = 0 ∨ j = 1 by omega) with rfl | rfl
        · exact LeD.refl _
        exact LeD.refl _) (Wk rfl trivial)))))))) (Wa rfl (Wi rfl trivial)))
     obtain ⟨j4, o7⟩ := x
     try dsimp only at h
     obtain ⟨ht'7, ht'7_f0⟩ := ht'7
     obtain ⟨t'7_c, t'7_g, t'7_t⟩ := t'7; obtain ⟨ht'7_c, ht'7_g⟩ : 0 < t'7_c ∧ ∀ k, t'7_g k < t'7_c := ht'7
     refine Wc [] [] [] 1 [] fun N hN => ?_
     generalize hp : std Tryz.prog = p; generalize hv : nvS = nv; cbv; subst hp hv
     replace h := chk_some h; obtain ⟨h167, h⟩ := h
     refine ⟨rfl, (fun hg => hg), (fun _ => rfl), (fun hg => hg), (fun hg => hg), h167, (fun hg => hg), (fun hg => hg), (fun hg => hg), ?_⟩
     refine ⟨fun h168 => ?_, fun h168 => ?_⟩
     · replace h := iteO_t h h168
       replace h := chk_some h; obtain ⟨h169, h⟩ := h
       try (have h169z := h169; simp only [Int.zero_add] at h169z)
       refine ⟨rfl, h169, rfl, ?_⟩
       replace h := chk_some h; obtain ⟨h170, h⟩ := h
       refine ⟨h170, ?_⟩
       subst hN; cases h
       show ∃ t', _ ∧ GeSt _ _ _
       refine ⟨⟨t'7_c + 12, gfn [(2, t'7_g 2)], tfn [(2, false)]⟩, (And.intro Wh Wf), ?_⟩
       exact (Wg (Wk rfl (Wk rfl (Wk rfl (Wk rfl (Wk rfl (Wk rfl (Wq rfl ((by first | exact LeD.refl _ | exact LeD.agg (fun j hj => by (have hj2 : j < 2 := hj); (rcases (show j = 0 ∨ j = 1 by omega) with rfl | rfl) <;> exact LeD.refl _))) (Wk rfl trivial)))))))) (Wa rfl (Wi rfl trivial)))
     replace h := iteO_f h h168
     subst hN; cases h
     intro he; cases he
     show ∃ t', _ ∧ GeSt _ _ _
     refine ⟨⟨t'7_c + 10, gfn [(2, t'7_g 2)], tfn [(2, false)]⟩, (And.intro Wh Wf), ?_⟩
     exact (Wg (Wk rfl (Wk rfl (Wk rfl (Wk rfl (Wk rfl (Wq rfl ((by first | exact LeD.refl _ | exact LeD.agg (fun j hj => by (have hj2 : j < 2 := hj); (rcases (show j = 0 ∨ j = 1 by omega) with rfl | rfl) <;> exact LeD.refl _))) (Wk rfl trivial))))))) (Wi rfl (Wi rfl trivial)))
   first | cases h145 | exact Bool.noConfusion (h145 : true = false)
 replace h := iteO_f h h61
 subst hN; cases h
 intro hr
 subst hr
 try dsimp only [noGoto, inBlockQ, thenQ]
 repeat (first | refine Wt ?_ | refine We ?_)
 refine lentQ_normal rfl ?_ ?_ [.top] ?_
 · exact trivial
 · exact trivial
 exact (And.intro (rfl) (And.intro (rfl) (And.intro (And.intro (rfl) (And.intro (rfl) (And.intro Wy (And.intro (rfl) (out0_all Wo Wp))))) trivial)))
end Go.Vx
