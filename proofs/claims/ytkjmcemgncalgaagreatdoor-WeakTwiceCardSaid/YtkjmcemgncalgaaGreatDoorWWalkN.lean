/- Walks, by program (lift.py). -/
import Derived.Test.YtkjmcemgncalgaaGreatDoorWWalk
import Derived.Test.YtkjmcemgncalgaaGreatDoorWWalkN0
import Derived.Test.YtkjmcemgncalgaaGreatDoorWWalkP
set_option linter.all false
namespace Go.Vx
open Go.Proofs
set_option maxRecDepth 100000
set_option linter.unusedVariables false
set_option linter.unusedSimpArgs false
theorem n12_ok (x' : T_weak_line) (r : (List Int)) (h : n12 x' = some r) (x'_N : Int) (hx'_N : lenL x'.fl = x'_N) (tg0 : Bool) : LentFn Tryz.prog 73 [.agg 7 (fun j => match j with | 0 => .vec 0 0 1 0 x'_N | 1 => WS nvS x'.fwas | 2 => WV x'.fsos | 3 => WV x'.feos | 4 => WV x'.fdir | 5 => WV x'.fagainst | 6 => .sl 2 (nvS.len x'.fpairs) false (fun ix jx => (D_Arr2_i64 nvS (nvS.get d_Arr2_i64 x'.fpairs ix) jx)) | _ => .junk)] [.arr 0 1 x'_N tg0 (WI nvS x'.fl)] [.arr 0 1 x'_N tg0 (WI nvS r)] (.tup 0 (fun _ => .junk)) := by
 obtain rfl : nvS.len x'.fl = x'_N := hx'_N
 obtain ⟨x_l, x_was, x_sos, x_eos, x_dir, x_against, x_pairs⟩ := x'
 unfold n12 at h
 try dsimp only at h
 refine lent_tr tt0_ok Tryz.func73 (by kernel_rfl) (c := bodyOf Tryz.f73) (by kernel_rfl) rfl ?_
 intro ctr hc
 refine Wx [] [] [] 1 [] 2 fun N hN => ?_
 generalize hp : std Tryz.prog = p; generalize hv : nvS = nv; cbv; subst hp hv
 subst hN; show Tr _ _ _ _
 refine Tr.block ?_
 refine Tr.loopO (α := Int × List Int) (fun (i, o) t' => (WF 81 [(1, .bref 2 (t'.g 2) 0), (2, WV i)] 82 [(0, .arr (0) 1 (nvS.len x_l) (tg0) (WI nvS o)), (2, .box (t'.g 2) [.vec 0 (0) 1 0 (nvS.len x_l), WS nvS x_was, WV x_sos, WV x_eos, WV x_dir, WV x_against, .sl 2 (nvS.len x_pairs) false (fun ix jx => (D_Arr2_i64 nvS (nvS.get d_Arr2_i64 x_pairs ix) jx))])] t')) (fun (i, o) t => Hid.ok t ∧ lenL o = (lenL x_l)) ⟨ctr + 11, gfn [(2, ctr + 0)], tfn [(2, false)]⟩ h ?_ ?_ (fun x t' f ht' h => ?_)
 · exact (And.intro Wh Wf)
 · exact (Wg (Wk rfl (Wk rfl trivial)) (Wi rfl (Wi rfl trivial)))
 obtain ⟨i, o⟩ := x
 try dsimp only at h
 obtain ⟨ht', ht'_f0⟩ := ht'
 obtain ⟨t'_c, t'_g, t'_t⟩ := t'; obtain ⟨ht'_c, ht'_g⟩ : 0 < t'_c ∧ ∀ k, t'_g k < t'_c := ht'
 refine Wx [] [] [] 1 [] 1 fun N hN => ?_
 generalize hp : std Tryz.prog = p; generalize hv : nvS = nv; cbv; subst hp hv
 refine ⟨rfl, ?_⟩
 refine ⟨fun h55 => ?_, fun h55 => ?_⟩
 · replace h := iteO_t h h55
   subst hN; show Tr _ _ _ _
   refine Tr.block ?_
   obtain ⟨v, h57⟩ : ∃ v, valO false (weak_neutral (getL 0 o (0 + i))) = v := ⟨_, rfl⟩
   refine Wx [] [(18, .plain (.v (.bool v)))] [] 1 [] 2 fun N hN => ?_
   generalize hp : std Tryz.prog = p; generalize hv : nvS = nv; cbv; subst hp hv
   replace h := chk_some h; obtain ⟨h56, h⟩ := h
   try (have h56z := h56; simp only [Int.zero_add] at h56z)
   replace h := bindO_val h57 h; clear h57; obtain ⟨h57, h⟩ := h
   refine ⟨rfl, h56, rfl, (Or.inl (PureFn.arg (weak_neutral_ok (getL 0 o (0 + i)) v h57) (And.intro (LeD.refl _) trivial))), ?_⟩
   refine ⟨fun h58 => ?_, fun h58 => ?_⟩
   · replace h := iteO_t h h58
     replace h := chk_some h; obtain ⟨h59, h⟩ := h
     refine ⟨h59, ?_⟩
     subst hN; cases h
     show ∃ t', _ ∧ GeSt _ _ _
     refine ⟨⟨t'_c + 12, gfn [(2, t'_g 2)], tfn [(2, false)]⟩, (And.intro Wh Wf), ?_⟩
     exact (Wg (Wk rfl (Wk rfl trivial)) (Wi rfl (Wi rfl trivial)))
   replace h := iteO_f h h58
   subst hN; show Tr _ _ _ _
   refine Tr.cutSeq (α := Int) h (fun end' t'1 => (WF 81 [(1, .bref 2 (t'1.g 2) 0), (2, WV i), (3, WV end')] 82 [(0, .arr (0) 1 (nvS.len x_l) (tg0) (WI nvS o)), (2, .box (t'1.g 2) [.vec 0 (0) 1 0 (nvS.len x_l), WS nvS x_was, WV x_sos, WV x_eos, WV x_dir, WV x_against, .sl 2 (nvS.len x_pairs) false (fun ix jx => (D_Arr2_i64 nvS (nvS.get d_Arr2_i64 x_pairs ix) jx))])] t'1)) (fun _ t => Hid.ok t) (fun x t'1 ht'1 h => ?_) (fun f h => ?_)
   · revert h; revert ht'1; revert x; intro end' ht'1 h
     obtain ⟨t'1_c, t'1_g, t'1_t⟩ := t'1; obtain ⟨ht'1_c, ht'1_g⟩ : 0 < t'1_c ∧ ∀ k, t'1_g k < t'1_c := ht'1
     refine Wx [] [] [] 1 [] 1 fun N hN => ?_
     generalize hp : std Tryz.prog = p; generalize hv : nvS = nv; cbv; subst hp hv
     refine ⟨rfl, rfl, (show drOk _ _ = true by kernel_rfl), ?_⟩
     subst hN; show Tr _ _ _ _
     refine Tr.cutSeq (α := Int) h (fun ahead1 t'2 => (WF 81 [(1, .bref 2 (t'2.g 2) 0), (2, WV i), (3, WV end'), (4, WV ahead1), (5, WV x_eos)] 82 [(0, .arr (0) 1 (nvS.len x_l) (tg0) (WI nvS o)), (2, .box (t'2.g 2) [.vec 0 (0) 1 0 (nvS.len x_l), WS nvS x_was, WV x_sos, WV x_eos, WV x_dir, WV x_against, .sl 2 (nvS.len x_pairs) false (fun ix jx => (D_Arr2_i64 nvS (nvS.get d_Arr2_i64 x_pairs ix) jx))])] t'2)) (fun _ t => Hid.ok t) (fun x t'2 ht'2 h => ?_) (fun f h => ?_)
     · revert h; revert ht'2; revert x; intro ahead1 ht'2 h
       obtain ⟨t'2_c, t'2_g, t'2_t⟩ := t'2; obtain ⟨ht'2_c, ht'2_g⟩ : 0 < t'2_c ∧ ∀ k, t'2_g k < t'2_c := ht'2
       refine Tr.cutSeq (α := Int) h (fun behind1 t'3 => (WF 81 [(1, .bref 2 (t'3.g 2) 0), (2, WV i), (3, WV end'), (4, WV ahead1), (5, WV behind1)] 82 [(0, .arr (0) 1 (nvS.len x_l) (tg0) (WI nvS o)), (2, .box (t'3.g 2) [.vec 0 (0) 1 0 (nvS.len x_l), WS nvS x_was, WV x_sos, WV x_eos, WV x_dir, WV x_against, .sl 2 (nvS.len x_pairs) false (fun ix jx => (D_Arr2_i64 nvS (nvS.get d_Arr2_i64 x_pairs ix) jx))])] t'3)) (fun _ t => Hid.ok t) (fun x t'3 ht'3 h => ?_) (fun f h => ?_)
       · revert h; revert ht'3; revert x; intro behind1 ht'3 h
         obtain ⟨t'3_c, t'3_g, t'3_t⟩ := t'3; obtain ⟨ht'3_c, ht'3_g⟩ : 0 < t'3_c ∧ ∀ k, t'3_g k < t'3_c := ht'3
         refine Wx [] [] [] 1 [] 1 fun N hN => ?_
         generalize hp : std Tryz.prog = p; generalize hv : nvS = nv; cbv; subst hp hv
         refine ⟨rfl, ?_⟩
         subst hN; show Tr _ _ _ _
         refine Tr.cutSeq (α := Int) h (fun c'1 t'4 => (WF 81 [(1, .bref 2 (t'4.g 2) 0), (2, WV i), (3, WV end'), (6, WV c'1)] 82 [(0, .arr (0) 1 (nvS.len x_l) (tg0) (WI nvS o)), (2, .box (t'4.g 2) [.vec 0 (0) 1 0 (nvS.len x_l), WS nvS x_was, WV x_sos, WV x_eos, WV x_dir, WV x_against, .sl 2 (nvS.len x_pairs) false (fun ix jx => (D_Arr2_i64 nvS (nvS.get d_Arr2_i64 x_pairs ix) jx))])] t'4)) (fun _ t => Hid.ok t) (fun x t'4 ht'4 h => ?_) (fun f h => ?_)
         · revert h; revert ht'4; revert x; intro c'1 ht'4 h
           obtain ⟨t'4_c, t'4_g, t'4_t⟩ := t'4; obtain ⟨ht'4_c, ht'4_g⟩ : 0 < t'4_c ∧ ∀ k, t'4_g k < t'4_c := ht'4
           refine Tr.block ?_
           refine Tr.loopO (α := Int × List Int) (fun (i2, o1) t'5 => (WF 81 [(1, .bref 2 (t'5.g 2) 0), (2, WV i2), (3, WV end'), (6, WV c'1)] 82 [(0, .arr (0) 1 (nvS.len x_l) (tg0) (WI nvS o1)), (2, .box (t'5.g 2) [.vec 0 (0) 1 0 (nvS.len x_l), WS nvS x_was, WV x_sos, WV x_eos, WV x_dir, WV x_against, .sl 2 (nvS.len x_pairs) false (fun ix jx => (D_Arr2_i64 nvS (nvS.get d_Arr2_i64 x_pairs ix) jx))])] t'5)) (fun (i2, o1) t => Hid.ok t ∧ lenL o1 = (lenL x_l)) ⟨t'4_c + 9, gfn [(2, t'4_g 2)], tfn [(2, false)]⟩ h ?_ ?_ (fun x t'5 f ht'5 h => ?_)
           · exact (And.intro Wh Wf)
           · exact (Wg (Wk rfl (Wk rfl (Wk rfl (Wk rfl trivial)))) (Wi rfl (Wi rfl trivial)))
           obtain ⟨i2, o1⟩ := x
           try dsimp only at h
           obtain ⟨ht'5, ht'5_f0⟩ := ht'5
           obtain ⟨t'5_c, t'5_g, t'5_t⟩ := t'5; obtain ⟨ht'5_c, ht'5_g⟩ : 0 < t'5_c ∧ ∀ k, t'5_g k < t'5_c := ht'5
           refine Wc [] [] [] 1 [] fun N hN => ?_
           generalize hp : std Tryz.prog = p; generalize hv : nvS = nv; cbv; subst hp hv
           refine ⟨fun h82 => ?_, fun h82 => ?_⟩
           · replace h := iteO_t h h82
             replace h := chk_some h; obtain ⟨h83, h⟩ := h
             try (have h83z := h83; simp only [Int.zero_add] at h83z)
             refine ⟨rfl, h83, rfl, ?_⟩
             replace h := chk_some h; obtain ⟨h84, h⟩ := h
             refine ⟨h84, ?_⟩
             subst hN; cases h
             show ∃ t', _ ∧ GeSt _ _ _
             refine ⟨⟨t'5_c + 12, gfn [(2, t'5_g 2)], tfn [(2, false)]⟩, (And.intro Wh Wf), ?_⟩
             exact (Wg (Wk rfl (Wk rfl (Wk rfl (Wk rfl trivial)))) (Wa rfl (Wi rfl trivial)))
           replace h := iteO_f h h82
           subst hN; cases h
           intro he; cases he
           show ∃ t', _ ∧ GeSt _ _ _
           refine ⟨⟨t'5_c + 10, gfn [(2, t'5_g 2)], tfn [(2, false)]⟩, (And.intro Wh Wf), ?_⟩
           exact (Wg (Wk rfl (Wk rfl trivial)) (Wi rfl (Wi rfl trivial)))
         refine Wc [] [] [] 1 [] fun N hN => ?_
         generalize hp : std Tryz.prog = p; generalize hv : nvS = nv; cbv; subst hp hv
         refine ⟨(fun hg => hg), (fun hg => hg), ?_⟩
         refine ⟨fun h85 => ?_, fun h85 => ?_⟩
         · replace h := iteO_t h h85
           subst hN; cases h
           show ∃ t', _ ∧ GeSt _ _ _
           refine ⟨⟨t'3_c + 12, gfn [(2, t'3_g 2)], tfn [(2, false)]⟩, Wh, ?_⟩
           exact (Wg (Wk rfl (Wk rfl (Wk rfl (Wk rfl trivial)))) (Wi rfl (Wi rfl trivial)))
         replace h := iteO_f h h85
         subst hN; cases h
         show ∃ t', _ ∧ GeSt _ _ _
         refine ⟨⟨t'3_c + 11, gfn [(2, t'3_g 2)], tfn [(2, false)]⟩, Wh, ?_⟩
         exact (Wg (Wk rfl (Wk rfl (Wk rfl (Wk rfl trivial)))) (Wi rfl (Wi rfl trivial)))
       obtain ⟨v1, h88⟩ : ∃ v1, valO 0 (weak_strong (getL 0 o (0 + end'))) = v1 := ⟨_, rfl⟩
       refine Wc [] [(61, .plain (WV v1))] [] 1 [] fun N hN => ?_
       generalize hp : std Tryz.prog = p; generalize hv : nvS = nv; cbv; subst hp hv
       refine ⟨rfl, ?_⟩
       refine ⟨fun h86 => ?_, fun h86 => ?_⟩
       · replace h := iteO_t h h86
         replace h := chk_some h; obtain ⟨h87, h⟩ := h
         try (have h87z := h87; simp only [Int.zero_add] at h87z)
         replace h := bindO_val h88 h; clear h88; obtain ⟨h88, h⟩ := h
         refine ⟨rfl, h87, rfl, (Or.inl (PureFn.arg (weak_strong_ok (getL 0 o (0 + end')) v1 h88) (And.intro (LeD.refl _) trivial))), ?_⟩
         subst hN; cases h
         show ∃ t', _ ∧ GeSt _ _ _
         refine ⟨⟨t'2_c + 11, gfn [(2, t'2_g 2)], tfn [(2, false)]⟩, Wh, ?_⟩
         exact (Wg (Wk rfl (Wk rfl (Wk rfl (Wk rfl (Wk rfl trivial))))) (Wi rfl (Wi rfl trivial)))
       replace h := iteO_f h h86
       subst hN; cases h
       show ∃ t', _ ∧ GeSt _ _ _
       refine ⟨⟨t'2_c + 10, gfn [(2, t'2_g 2)], tfn [(2, false)]⟩, Wh, ?_⟩
       exact (Wg (Wk rfl (Wk rfl (Wk rfl (Wk rfl (Wk rfl trivial))))) (Wi rfl (Wi rfl trivial)))
     obtain ⟨v2, h92⟩ : ∃ v2, valO 0 (weak_strong (getL 0 o (0 + (i - 1)))) = v2 := ⟨_, rfl⟩
     refine Wc [] [(50, .plain (WV v2))] [] 1 [] fun N hN => ?_
     generalize hp : std Tryz.prog = p; generalize hv : nvS = nv; cbv; subst hp hv
     refine ⟨fun h89 => ?_, fun h89 => ?_⟩
     · replace h := iteO_t h h89
       replace h := chk_some h; obtain ⟨h90, h⟩ := h
       replace h := chk_some h; obtain ⟨h91, h⟩ := h
       try (have h91z := h91; simp only [Int.zero_add] at h91z)
       replace h := bindO_val h92 h; clear h92; obtain ⟨h92, h⟩ := h
       refine ⟨rfl, h90, h91, rfl, (Or.inl (PureFn.arg (weak_strong_ok (getL 0 o (0 + (i - 1))) v2 h92) (And.intro (LeD.refl _) trivial))), ?_⟩
       subst hN; cases h
       show ∃ t', _ ∧ GeSt _ _ _
       refine ⟨⟨t'1_c + 12, gfn [(2, t'1_g 2)], tfn [(2, false)]⟩, Wh, ?_⟩
       exact (Wg (Wk rfl (Wk rfl (Wk rfl (Wk rfl (Wk rfl trivial))))) (Wi rfl (Wi rfl trivial)))
     replace h := iteO_f h h89
     subst hN; cases h
     show ∃ t', _ ∧ GeSt _ _ _
     refine ⟨⟨t'1_c + 11, gfn [(2, t'1_g 2)], tfn [(2, false)]⟩, Wh, ?_⟩
     exact (Wg (Wk rfl (Wk rfl (Wk rfl (Wk rfl (Wk rfl trivial))))) (Wi rfl (Wi rfl trivial)))
   refine Tr.block ?_
   refine Tr.loopO (α := Int) (fun end'1 t'6 => (WF 81 [(1, .bref 2 (t'6.g 2) 0), (2, WV i), (3, WV end'1)] 82 [(0, .arr (0) 1 (nvS.len x_l) (tg0) (WI nvS o)), (2, .box (t'6.g 2) [.vec 0 (0) 1 0 (nvS.len x_l), WS nvS x_was, WV x_sos, WV x_eos, WV x_dir, WV x_against, .sl 2 (nvS.len x_pairs) false (fun ix jx => (D_Arr2_i64 nvS (nvS.get d_Arr2_i64 x_pairs ix) jx))])] t'6)) (fun _ t => Hid.ok t) ⟨t'_c + 12, gfn [(2, t'_g 2)], tfn [(2, false)]⟩ h ?_ ?_ (fun x t'6 f ht'6 h => ?_)
   · exact Wh
   · exact (Wg (Wk rfl (Wk rfl (Wk rfl trivial))) (Wi rfl (Wi rfl trivial)))
   revert h; revert ht'6; revert x; intro end'1 ht'6 h
   obtain ⟨t'6_c, t'6_g, t'6_t⟩ := t'6; obtain ⟨ht'6_c, ht'6_g⟩ : 0 < t'6_c ∧ ∀ k, t'6_g k < t'6_c := ht'6
   obtain ⟨v3, h102⟩ : ∃ v3, valO false (if (decide (end'1 < (lenL x_l))) = true then weak_neutral (getL 0 o (0 + end'1)) else some false) = v3 := ⟨_, rfl⟩
   refine Wc [] [(34, .plain (.v (.bool v3)))] [] 1 [] fun N hN => ?_
   generalize hp : std Tryz.prog = p; generalize hv : nvS = nv; cbv; subst hp hv
   replace h := chk_some h; obtain ⟨h101, h⟩ := h
   replace h := bindO_val h102 h; clear h102; obtain ⟨h102, h⟩ := h
   refine ⟨rfl, (fun hg => hg), (fun _ => rfl), (fun hg => hg), (fun hg => hg), h101, (fun hg => hg), (fun _ => rfl), (fun hg => hg), (fun hg => by have h102 := guardO h102 hg; have h101 := h101 hg; exact (Or.inl (PureFn.arg (weak_neutral_ok (getL 0 o (0 + end'1)) v3 h102) (And.intro (LeD.refl _) trivial)))), (fun hg => hg), ?_⟩
   refine ⟨fun h103 => ?_, fun h103 => ?_⟩
   · replace h := iteO_t h h103
     replace h := chk_some h; obtain ⟨h104, h⟩ := h
     refine ⟨h104, ?_⟩
     subst hN; cases h
     show ∃ t', _ ∧ GeSt _ _ _
     refine ⟨⟨t'6_c + 11, gfn [(2, t'6_g 2)], tfn [(2, false)]⟩, Wh, ?_⟩
     exact (Wg (Wk rfl (Wk rfl (Wk rfl trivial))) (Wi rfl (Wi rfl trivial)))
   replace h := iteO_f h h103
   subst hN; cases h
   intro he; cases he
   show ∃ t', _ ∧ GeSt _ _ _
   refine ⟨⟨t'6_c + 10, gfn [(2, t'6_g 2)], tfn [(2, false)]⟩, Wh, ?_⟩
   exact (Wg (Wk rfl (Wk rfl (Wk rfl trivial))) (Wi rfl (Wi rfl trivial)))
 replace h := iteO_f h h55
 subst hN; cases h
 intro hr
 subst hr
 try dsimp only [noGoto, inBlockQ, thenQ]
 repeat (first | refine Wt ?_ | refine We ?_)
 refine lentQ_normal rfl ?_ ?_ [.top] ?_
 · exact trivial
 · exact trivial
 exact (And.intro (rfl) (And.intro (rfl) (And.intro (And.intro (rfl) (And.intro (rfl) (And.intro Wy (And.intro (rfl) (out0_all Wo Wp))))) trivial)))
theorem weak_Neutral_ok (d' : T_ucd_Data) (r' : (List Int)) (was : (List Int)) (l' : (List Int)) (level : Int) (sos : Int) (eos : Int) (r : (List Int)) (h : weak_Neutral d' r' was l' level sos eos = some r) : PureFn Tryz.prog 46 [(.agg 6 (fun j => (D_ucd_Data nvS d' j))), (WS nvS r'), (WS nvS was), (WS nvS l'), (WV level), (WV sos), (WV eos)] (.own 1 (nvS.len r) false (WI nvS r)) := by
 obtain ⟨⟨d_Class_L⟩, ⟨d_Wide_L⟩, ⟨d_Join_L⟩, d_Mirror, d_Brackets, d_Forms⟩ := d'
 unfold weak_Neutral at h
 try dsimp only at h
 refine fn_tr tt0_ok Tryz.func46 (by kernel_rfl) (c := bodyOf Tryz.f46) (by kernel_rfl) ?_
 intro ctr hc
 obtain ⟨v, h1⟩ : ∃ v, valO [] (slices_Clone___int_int_ l') = v := ⟨_, rfl⟩
 obtain ⟨v1, h3⟩ : ∃ v1, valO [] (weak_Pairs (T_ucd_Data.mk (T_ranges_Table.mk d_Class_L) (T_ranges_Table.mk d_Wide_L) (T_ranges_Table.mk d_Join_L) d_Mirror d_Brackets d_Forms) r' l') = v1 := ⟨_, rfl⟩
 refine Wx [(28, 1)] [(20, .own 1 (nvS.len v) false (WI nvS v)), (41, .plain (.sl 2 (nvS.len v1) false (fun ix jx => (D_Arr2_i64 nvS (nvS.get d_Arr2_i64 v1 ix) jx))))] [] 0 [] 4 fun N hN => ?_
 generalize hp : std Tryz.prog = p; generalize hv : nvS = nv; cbv; subst hp hv
 replace h := bindO_val h1 h; clear h1; obtain ⟨h1, h⟩ := h
 refine ⟨(Or.inl (PureFn.arg (slices_Clone___int_int__ok l' v h1) (And.intro (LeD.refl _) trivial))), ?_⟩
 refine ⟨(fun hg => hg), (fun hg => hg), (fun hg => hg), (fun hg => hg), (fun hg => hg), ?_⟩
 refine ⟨fun h2 => ?_, fun h2 => ?_⟩
 · replace h := iteO_t h h2
   subst hN; have hr := Option.some.inj h
   subst hr
   try dsimp only [noGoto, inBlockQ, thenQ]
   repeat (first | refine Wt ?_ | refine We ?_)
   exact retQ_ret rfl trivial (And.intro (rfl) (And.intro Wy (And.intro (fun h => by cases h) (out0_all Wo Wp))))
 replace h := iteO_f h h2
 replace h := bindO_val h3 h; clear h3; obtain ⟨h3, h⟩ := h
 refine ⟨rfl, (Or.inl (PureFn.arg (PureFn.sl (weak_Pairs_ok (T_ucd_Data.mk (T_ranges_Table.mk d_Class_L) (T_ranges_Table.mk d_Wide_L) (T_ranges_Table.mk d_Join_L) d_Mirror d_Brackets d_Forms) r' l' v1 h3)) (And.intro (LeD.agg fun j hj => by
  have hj2 : j < 6 := hj
  rcases (show j = 0 ∨ j = 1 ∨ j = 2 ∨ j = 3 ∨ j = 4 ∨ j = 5 by omega) with rfl | rfl | rfl | rfl | rfl | rfl
  · exact LeD.refl _
  · exact LeD.refl _
  · exact LeD.refl _
  · exact LeD.refl _
  · exact LeD.refl _
  exact LeD.refl _) (And.intro (LeD.refl _) (And.intro (LeD.refl _) trivial))))), rfl, ?_⟩
 subst hN; show Tr _ _ _ _
 refine Tr.cutSeq (α := Int × Int) h (fun (b16_4, b16_5) t' => (WF 59 [(15, .vec 20 (t'.g 20) 1 0 (nvS.len v)), (16, .bref 16 (t'.g 16) 0)] 59 [(16, .box (t'.g 16) [.vec 20 (t'.g 20) 1 0 (nvS.len v), WS nvS was, WV sos, WV eos, WV b16_4, WV b16_5, .sl 2 (nvS.len v1) false (fun ix jx => (D_Arr2_i64 nvS (nvS.get d_Arr2_i64 v1 ix) jx))]), (20, .arr (t'.g 20) 1 (nvS.len v) (t'.t 20) (WI nvS v))] t')) (fun _ t => Hid.ok t) (fun x t' ht' h => ?_) (fun f h => ?_)
 · obtain ⟨b16_4, b16_5⟩ := x
   try dsimp only at h
   obtain ⟨t'_c, t'_g, t'_t⟩ := t'; obtain ⟨ht'_c, ht'_g⟩ : 0 < t'_c ∧ ∀ k, t'_g k < t'_c := ht'
   refine Tr.cutSeq (α := List Int) h (fun out t'1 => (WF 59 [(15, .vec 20 (t'1.g 20) 1 0 (nvS.len v))] 59 [(20, .arr (t'1.g 20) 1 (nvS.len v) (t'1.t 20) (WI nvS out))] t'1)) (fun out t => Hid.ok t ∧ lenL out = (lenL v)) (fun x t'1 ht'1 h => ?_) (fun f h => ?_)
   · revert h; revert ht'1; revert x; intro out ht'1 h
     obtain ⟨ht'1, ht'1_f0⟩ := ht'1
     obtain ⟨t'1_c, t'1_g, t'1_t⟩ := t'1; obtain ⟨ht'1_c, ht'1_g⟩ : 0 < t'1_c ∧ ∀ k, t'1_g k < t'1_c := ht'1
     refine Wc [] [] [] 0 [] fun N hN => ?_
     generalize hp : std Tryz.prog = p; generalize hv : nvS = nv; cbv; subst hp hv
     subst hN; have hr := Option.some.inj h
     subst hr
     try dsimp only [noGoto, inBlockQ, thenQ]
     repeat (first | refine Wt ?_ | refine We ?_)
     exact retQ_ret rfl trivial (And.intro (rfl) (And.intro Wy (And.intro (fun h => by cases h) (out0_all Wo Wp))))
   refine Wx [] [] [48] 0 [] 1 fun N hN => ?_
   generalize hp : std Tryz.prog = p; generalize hv : nvS = nv; cbv; subst hp hv
   subst hN; show Tr _ _ _ _
   refine Tr.block ?_
   refine Tr.rounds 3 ?_
   refine TrN.cut (α := List Int) h (fun out1 t'2 => (WF 59 [(15, .vec 20 (t'2.g 20) 1 0 (nvS.len v)), (16, .bref 16 (t'2.g 16) 0), (48, .sl 1 2 false (fun ix jx => rowsF (std Tryz.prog) 1 2 [.fn (.func 72) 0 (fun _ => .junk), .fn (.func 73) 0 (fun _ => .junk)] 0 ix jx)), (49, WV 2), (50, WV 1)] 59 [(16, .box (t'2.g 16) [.vec 20 (t'2.g 20) 1 0 (nvS.len v), WS nvS was, WV sos, WV eos, WV b16_4, WV b16_5, .sl 2 (nvS.len v1) false (fun ix jx => (D_Arr2_i64 nvS (nvS.get d_Arr2_i64 v1 ix) jx))]), (20, .arr (t'2.g 20) 1 (nvS.len v) (t'2.t 20) (WI nvS out1))] t'2)) (fun out1 t => Hid.ok t ∧ lenL out1 = (lenL v)) (fun x t'2 ht'2 h => ?_) (fun f h => ?_)
   · revert h; revert ht'2; revert x; intro out1 ht'2 h
     obtain ⟨ht'2, ht'2_f0⟩ := ht'2
     obtain ⟨t'2_c, t'2_g, t'2_t⟩ := t'2; obtain ⟨ht'2_c, ht'2_g⟩ : 0 < t'2_c ∧ ∀ k, t'2_g k < t'2_c := ht'2
     refine TrN.cut (α := List Int) h (fun out2 t'3 => (WF 59 [(15, .vec 20 (t'3.g 20) 1 0 (nvS.len v)), (16, .bref 16 (t'3.g 16) 0), (48, .sl 1 2 false (fun ix jx => rowsF (std Tryz.prog) 1 2 [.fn (.func 72) 0 (fun _ => .junk), .fn (.func 73) 0 (fun _ => .junk)] 0 ix jx)), (49, WV 2), (50, WV 2)] 59 [(16, .box (t'3.g 16) [.vec 20 (t'3.g 20) 1 0 (nvS.len v), WS nvS was, WV sos, WV eos, WV b16_4, WV b16_5, .sl 2 (nvS.len v1) false (fun ix jx => (D_Arr2_i64 nvS (nvS.get d_Arr2_i64 v1 ix) jx))]), (20, .arr (t'3.g 20) 1 (nvS.len v) (t'3.t 20) (WI nvS out2))] t'3)) (fun out2 t => Hid.ok t ∧ lenL out2 = (lenL v)) (fun x t'3 ht'3 h => ?_) (fun f h => ?_)
     · revert h; revert ht'3; revert x; intro out2 ht'3 h
       obtain ⟨ht'3, ht'3_f0⟩ := ht'3
       obtain ⟨t'3_c, t'3_g, t'3_t⟩ := t'3; obtain ⟨ht'3_c, ht'3_g⟩ : 0 < t'3_c ∧ ∀ k, t'3_g k < t'3_c := ht'3
       show Tr _ _ _ _
       refine Wx [] [] [] 0 [] 2 fun N hN => ?_
       generalize hp : std Tryz.prog = p; generalize hv : nvS = nv; cbv; subst hp hv
       refine ⟨fun h26 => ?_, fun h26 => ?_⟩
       · first | cases h26 | exact Bool.noConfusion (h26 : false = true)
       subst hN
       cases h
       show ∃ t', _ ∧ GeSt _ _ _
       refine ⟨⟨t'3_c + 10, gfn [(20, t'3_g 20)], tfn [(20, t'3_t 20)]⟩, (And.intro Wh Wf), ?_⟩
       exact (Wg (Wk rfl trivial) (Wi rfl trivial))
     refine Wx [] [] [] 0 [] 2 fun N hN => ?_
     generalize hp : std Tryz.prog = p; generalize hv : nvS = nv; cbv; subst hp hv
     refine ⟨fun h27 => ?_, fun h27 => ?_⟩
     · subst hN
       show Tr _ _ _ _
       refine Tr.cutSeq (α := List Int) h (fun out3 t'4 => (WF 59 [(15, .vec 20 (t'4.g 20) 1 0 (nvS.len v)), (16, .bref 16 (t'4.g 16) 0), (48, .sl 1 2 false (fun ix jx => rowsF (std Tryz.prog) 1 2 [.fn (.func 72) 0 (fun _ => .junk), .fn (.func 73) 0 (fun _ => .junk)] 0 ix jx)), (49, WV 2), (50, WV 1)] 59 [(16, .box (t'4.g 16) [.vec 20 (t'4.g 20) 1 0 (nvS.len v), WS nvS was, WV sos, WV eos, WV b16_4, WV b16_5, .sl 2 (nvS.len v1) false (fun ix jx => (D_Arr2_i64 nvS (nvS.get d_Arr2_i64 v1 ix) jx))]), (20, .arr (t'4.g 20) 1 (nvS.len v) (t'4.t 20) (WI nvS out3))] t'4)) (fun out3 t => Hid.ok t ∧ lenL out3 = (lenL v)) (fun x t'4 ht'4 h => ?_) (fun f h => ?_)
       · revert h; revert ht'4; revert x; intro out3 ht'4 h
         obtain ⟨ht'4, ht'4_f0⟩ := ht'4
         obtain ⟨t'4_c, t'4_g, t'4_t⟩ := t'4; obtain ⟨ht'4_c, ht'4_g⟩ : 0 < t'4_c ∧ ∀ k, t'4_g k < t'4_c := ht'4
         refine Wc [] [] [] 0 [] fun N hN => ?_
         generalize hp : std Tryz.prog = p; generalize hv : nvS = nv; cbv; subst hp hv
         replace h := chk_some h; obtain ⟨h31, h⟩ := h
         refine ⟨h31, ?_⟩
         subst hN; cases h
         show ∃ t', _ ∧ GeSt _ _ _
         refine ⟨⟨t'4_c + 10, gfn [(16, t'4_g 16), (20, t'4_g 20)], tfn [(16, false), (20, t'4_t 20)]⟩, (And.intro Wh Wf), ?_⟩
         exact (Wg (Wk rfl (Wk rfl (Wk rfl (Wk rfl (Wk rfl trivial))))) (Wi rfl (Wi rfl trivial)))
       refine Tr.block ?_
       refine Tr.cutSeq (α := Unit) h (fun _ t'5 => (WF 59 [(15, .vec 20 (t'5.g 20) 1 0 (nvS.len v)), (16, .bref 16 (t'5.g 16) 0), (18, .fn (.func 73) 0 (fun _ => .junk)), (48, .sl 1 2 false (fun ix jx => rowsF (std Tryz.prog) 1 2 [.fn (.func 72) 0 (fun _ => .junk), .fn (.func 73) 0 (fun _ => .junk)] 0 ix jx)), (49, WV 2), (50, WV 1)] 59 [(16, .box (t'5.g 16) [.vec 20 (t'5.g 20) 1 0 (nvS.len v), WS nvS was, WV sos, WV eos, WV b16_4, WV b16_5, .sl 2 (nvS.len v1) false (fun ix jx => (D_Arr2_i64 nvS (nvS.get d_Arr2_i64 v1 ix) jx))]), (20, .arr (t'5.g 20) 1 (nvS.len v) (t'5.t 20) (WI nvS out1))] t'5)) (fun _ t => Hid.ok t) (fun x t'5 ht'5 h => ?_) (fun f h => ?_)
       · obtain ⟨t'5_c, t'5_g, t'5_t⟩ := t'5; obtain ⟨ht'5_c, ht'5_g⟩ : 0 < t'5_c ∧ ∀ k, t'5_g k < t'5_c := ht'5
         obtain ⟨v2, h33⟩ : ∃ v2, valO [] (n12 (T_weak_line.mk out1 was sos eos b16_4 b16_5 v1)) = v2 := ⟨_, rfl⟩
         refine Wc [(73, 2)] [(56, .lent [.arr 0 1 ((nvS.len v)) (t'5_t 20) (WI nvS v2)] (.tup 0 (fun _ => .junk)))] [] 0 [] fun N hN => ?_
         generalize hp : std Tryz.prog = p; generalize hv : nvS = nv; cbv; subst hp hv
         replace h := bindO_val h33 h; clear h33; obtain ⟨h33, h⟩ := h
         replace h := chk_some h; obtain ⟨h34, h⟩ := h
         refine ⟨rfl, rfl, (fun i _ _ j _ => trivial), (fun i _ _ j _ => clo_Arr2_i64 _ j), (fun i _ _ j _ => trivial), rfl, rfl, (fun i _ _ j _ => trivial), (LentFn.arg (n12_ok (T_weak_line.mk out1 was sos eos b16_4 b16_5 v1) v2 h33 (lenL v) (by first | rfl | omega) _) (And.intro (LeD.agg fun j hj => by
          have hj2 : j < 7 := hj
          rcases (show j = 0 ∨ j = 1 ∨ j = 2 ∨ j = 3 ∨ j = 4 ∨ j = 5 ∨ j = 6 by omega) with rfl | rfl | rfl | rfl | rfl | rfl | rfl
          · exact LeD.refl _
          · exact LeD.refl _
          · exact LeD.refl _
          · exact LeD.refl _
          · exact LeD.refl _
          · exact LeD.refl _
          exact LeD.refl _) trivial)), ?_⟩
         subst hN; cases h
         show ∃ t', _ ∧ GeSt _ _ _
         refine ⟨⟨t'5_c + 10, gfn [(16, t'5_g 16), (20, t'5_g 20)], tfn [(16, false), (20, t'5_t 20)]⟩, (And.intro Wh Wf), ?_⟩
         exact (Wg (Wk rfl (Wk rfl (Wk rfl (Wk rfl (Wk rfl trivial))))) (Wi rfl (Wa rfl trivial)))
       refine Wc [] [] [] 0 [] fun N hN => ?_
       generalize hp : std Tryz.prog = p; generalize hv : nvS = nv; cbv; subst hp hv
       replace h := chk_some h; obtain ⟨h35, h⟩ := h
       refine ⟨h35, ?_⟩
       subst hN; cases h
       show ∃ t', _ ∧ GeSt _ _ _
       refine ⟨⟨t'2_c + 11, gfn [(16, t'2_g 16), (20, t'2_g 20)], tfn [(16, false), (20, t'2_t 20)]⟩, Wh, ?_⟩
       exact (Wg (Wk rfl (Wk rfl (Wq rfl (LeD.cndF rfl (LeD.refl _)) (Wk rfl (Wk rfl (Wk rfl trivial)))))) (Wi rfl (Wi rfl trivial)))
     first | cases h27 | exact Bool.noConfusion (h27 : true = false)
   refine Wx [] [] [] 0 [] 2 fun N hN => ?_
   generalize hp : std Tryz.prog = p; generalize hv : nvS = nv; cbv; subst hp hv
   refine ⟨fun h36 => ?_, fun h36 => ?_⟩
   · subst hN
     show Tr _ _ _ _
     refine Tr.cutSeq (α := List Int) h (fun out4 t'6 => (WF 59 [(15, .vec 20 (t'6.g 20) 1 0 (nvS.len v)), (16, .bref 16 (t'6.g 16) 0), (48, .sl 1 2 false (fun ix jx => rowsF (std Tryz.prog) 1 2 [.fn (.func 72) 0 (fun _ => .junk), .fn (.func 73) 0 (fun _ => .junk)] 0 ix jx)), (49, WV 2), (50, WV 0)] 59 [(16, .box (t'6.g 16) [.vec 20 (t'6.g 20) 1 0 (nvS.len v), WS nvS was, WV sos, WV eos, WV b16_4, WV b16_5, .sl 2 (nvS.len v1) false (fun ix jx => (D_Arr2_i64 nvS (nvS.get d_Arr2_i64 v1 ix) jx))]), (20, .arr (t'6.g 20) 1 (nvS.len v) (t'6.t 20) (WI nvS out4))] t'6)) (fun out4 t => Hid.ok t ∧ lenL out4 = (lenL v)) (fun x t'6 ht'6 h => ?_) (fun f h => ?_)
     · revert h; revert ht'6; revert x; intro out4 ht'6 h
       obtain ⟨ht'6, ht'6_f0⟩ := ht'6
       obtain ⟨t'6_c, t'6_g, t'6_t⟩ := t'6; obtain ⟨ht'6_c, ht'6_g⟩ : 0 < t'6_c ∧ ∀ k, t'6_g k < t'6_c := ht'6
       refine Wc [] [] [] 0 [] fun N hN => ?_
       generalize hp : std Tryz.prog = p; generalize hv : nvS = nv; cbv; subst hp hv
       replace h := chk_some h; obtain ⟨h40, h⟩ := h
       refine ⟨h40, ?_⟩
       subst hN; cases h
       show ∃ t', _ ∧ GeSt _ _ _
       refine ⟨⟨t'6_c + 10, gfn [(16, t'6_g 16), (20, t'6_g 20)], tfn [(16, false), (20, t'6_t 20)]⟩, (And.intro Wh Wf), ?_⟩
       exact (Wg (Wk rfl (Wk rfl (Wk rfl (Wk rfl (Wk rfl trivial))))) (Wi rfl (Wi rfl trivial)))
     refine Tr.block ?_
     refine Tr.cutSeq (α := Unit) h (fun _ t'7 => (WF 59 [(15, .vec 20 (t'7.g 20) 1 0 (nvS.len v)), (16, .bref 16 (t'7.g 16) 0), (18, .fn (.func 72) 0 (fun _ => .junk)), (48, .sl 1 2 false (fun ix jx => rowsF (std Tryz.prog) 1 2 [.fn (.func 72) 0 (fun _ => .junk), .fn (.func 73) 0 (fun _ => .junk)] 0 ix jx)), (49, WV 2), (50, WV 0)] 59 [(16, .box (t'7.g 16) [.vec 20 (t'7.g 20) 1 0 (nvS.len v), WS nvS was, WV sos, WV eos, WV b16_4, WV b16_5, .sl 2 (nvS.len v1) false (fun ix jx => (D_Arr2_i64 nvS (nvS.get d_Arr2_i64 v1 ix) jx))]), (20, .arr (t'7.g 20) 1 (nvS.len v) (t'7.t 20) (WI nvS v))] t'7)) (fun _ t => Hid.ok t) (fun x t'7 ht'7 h => ?_) (fun f h => ?_)
     · obtain ⟨t'7_c, t'7_g, t'7_t⟩ := t'7; obtain ⟨ht'7_c, ht'7_g⟩ : 0 < t'7_c ∧ ∀ k, t'7_g k < t'7_c := ht'7
       obtain ⟨v3, h42⟩ : ∃ v3, valO [] (n0 (T_weak_line.mk v was sos eos b16_4 b16_5 v1)) = v3 := ⟨_, rfl⟩
       refine Wc [(72, 2)] [(56, .lent [.arr 0 1 ((nvS.len v)) (t'7_t 20) (WI nvS v3)] (.tup 0 (fun _ => .junk)))] [] 0 [] fun N hN => ?_
       generalize hp : std Tryz.prog = p; generalize hv : nvS = nv; cbv; subst hp hv
       replace h := bindO_val h42 h; clear h42; obtain ⟨h42, h⟩ := h
       replace h := chk_some h; obtain ⟨h43, h⟩ := h
       refine ⟨rfl, rfl, (fun i _ _ j _ => trivial), (fun i _ _ j _ => clo_Arr2_i64 _ j), (fun i _ _ j _ => trivial), rfl, rfl, (fun i _ _ j _ => trivial), (LentFn.arg (n0_ok (T_weak_line.mk v was sos eos b16_4 b16_5 v1) v3 h42 (lenL v) (by first | rfl | omega) _) (And.intro (LeD.agg fun j hj => by
        have hj2 : j < 7 := hj
        rcases (show j = 0 ∨ j = 1 ∨ j = 2 ∨ j = 3 ∨ j = 4 ∨ j = 5 ∨ j = 6 by omega) with rfl | rfl | rfl | rfl | rfl | rfl | rfl
        · exact LeD.refl _
        · exact LeD.refl _
        · exact LeD.refl _
        · exact LeD.refl _
        · exact LeD.refl _
        · exact LeD.refl _
        exact LeD.refl _) trivial)), ?_⟩
       subst hN; cases h
       show ∃ t', _ ∧ GeSt _ _ _
       refine ⟨⟨t'7_c + 10, gfn [(16, t'7_g 16), (20, t'7_g 20)], tfn [(16, false), (20, t'7_t 20)]⟩, (And.intro Wh Wf), ?_⟩
       exact (Wg (Wk rfl (Wk rfl (Wk rfl (Wk rfl (Wk rfl trivial))))) (Wi rfl (Wa rfl trivial)))
     refine Wc [] [] [] 0 [] fun N hN => ?_
     generalize hp : std Tryz.prog = p; generalize hv : nvS = nv; cbv; subst hp hv
     replace h := chk_some h; obtain ⟨h44, h⟩ := h
     refine ⟨h44, ?_⟩
     subst hN; cases h
     show ∃ t', _ ∧ GeSt _ _ _
     refine ⟨⟨t'_c + 12, gfn [(16, t'_g 16), (20, t'_g 20)], tfn [(16, false), (20, t'_t 20)]⟩, Wh, ?_⟩
     exact (Wg (Wk rfl (Wk rfl (Wq rfl (LeD.cndT rfl (LeD.refl _)) (Wq rfl (LeD.slE rfl (fun i i0 i1 j hj => rfl)) (Wk rfl (Wk rfl trivial)))))) (Wi rfl (Wi rfl trivial)))
   first | cases h36 | exact Bool.noConfusion (h36 : true = false)
 refine Wc [] [] [] 0 [] fun N hN => ?_
 generalize hp : std Tryz.prog = p; generalize hv : nvS = nv; cbv; subst hp hv
 refine ⟨fun h45 => ?_, fun h45 => ?_⟩
 · replace h := iteO_t h h45
   refine ⟨rfl, rfl, ?_⟩
   subst hN; cases h
   show ∃ t', _ ∧ GeSt _ _ _
   refine ⟨⟨ctr + 15, gfn [(16, ctr + 3), (20, ctr + 1)], tfn [(16, false), (20, false)]⟩, Wh, ?_⟩
   exact (Wg (Wk rfl (Wk rfl trivial)) (Wi rfl (Wi rfl trivial)))
 replace h := iteO_f h h45
 subst hN; cases h
 show ∃ t', _ ∧ GeSt _ _ _
 refine ⟨⟨ctr + 14, gfn [(16, ctr + 3), (20, ctr + 1)], tfn [(16, false), (20, false)]⟩, Wh, ?_⟩
 exact (Wg (Wk rfl (Wk rfl trivial)) (Wi rfl (Wi rfl trivial)))
end Go.Vx
