/- Walks, by program (lift.py). -/
import Derived.Test.YtkjmcemgncalgaaGreatDoorWWalk
import Derived.Test.YtkjmcemgncalgaaGreatDoorWWalkT
set_option linter.all false
namespace Go.Vx
open Go.Proofs
set_option maxRecDepth 100000
set_option linter.unusedVariables false
set_option linter.unusedSimpArgs false
theorem weak_Weak_ok (l' : (List Int)) (sos : Int) (r : (List Int)) (h : weak_Weak l' sos = some r) : PureFn Tryz.prog 13 [(WS nvS l'), (WV sos)] (.own 1 (nvS.len r) false (WI nvS r)) := by
 unfold weak_Weak at h
 refine fn_tr tt0_ok Tryz.func13 (by kernel_rfl) (c := bodyOf Tryz.f13) (by kernel_rfl) ?_
 intro ctr hc
 obtain ⟨v, h1⟩ : ∃ v, valO [] (slices_Clone___int_int_ l') = v := ⟨_, rfl⟩
 refine Wx [(28, 1)] [(10, .own 1 (nvS.len v) false (WI nvS v))] [13] 0 [] 3 fun N hN => ?_
 generalize hp : std Tryz.prog = p; generalize hv : nvS = nv; cbv; subst hp hv
 replace h := bindO_val h1 h; clear h1; obtain ⟨h1, h⟩ := h
 refine ⟨(Or.inl (PureFn.arg (slices_Clone___int_int__ok l' v h1) (And.intro (LeD.refl _) trivial))), rfl, ?_⟩
 subst hN; show Tr _ _ _ _
 refine Tr.cutSeq (α := List Int) h (fun o t' => (WF 26 [(5, .bref 5 (t'.g 5) 0)] 26 [(5, .box (t'.g 5) [.vec 10 (t'.g 10) 1 0 (nvS.len v), WV sos]), (10, .arr (t'.g 10) 1 (nvS.len v) (t'.t 10) (WI nvS o))] t')) (fun o t => Hid.ok t ∧ lenL o = (lenL v)) (fun x t' ht' h => ?_) (fun f h => ?_)
 · revert h; revert ht'; revert x; intro o ht' h
   obtain ⟨ht', ht'_f0⟩ := ht'
   obtain ⟨t'_c, t'_g, t'_t⟩ := t'; obtain ⟨ht'_c, ht'_g⟩ : 0 < t'_c ∧ ∀ k, t'_g k < t'_c := ht'
   refine Wc [] [] [] 0 [] fun N hN => ?_
   generalize hp : std Tryz.prog = p; generalize hv : nvS = nv; cbv; subst hp hv
   refine ⟨rfl, ?_⟩
   subst hN; have hr := Option.some.inj h
   subst hr
   try dsimp only [noGoto, inBlockQ, thenQ]
   repeat (first | refine Wt ?_ | refine We ?_)
   exact retQ_ret rfl trivial (And.intro (rfl) (And.intro Wy (And.intro (fun h => by cases h) (out0_all Wo Wp))))
 refine Wx [] [] [] 0 [] 1 fun N hN => ?_
 generalize hp : std Tryz.prog = p; generalize hv : nvS = nv; cbv; subst hp hv
 subst hN; show Tr _ _ _ _
 refine Tr.block ?_
 refine Tr.rounds 8 ?_
 refine TrN.cut (α := List Int) h (fun o1 t'1 => (WF 26 [(5, .bref 5 (t'1.g 5) 0), (14, .sl 1 7 false (fun ix jx => rowsF (std Tryz.prog) 1 7 [.fn (.func 29) 0 (fun _ => .junk), .fn (.func 30) 0 (fun _ => .junk), .fn (.func 31) 0 (fun _ => .junk), .fn (.func 32) 0 (fun _ => .junk), .fn (.func 33) 0 (fun _ => .junk), .fn (.func 34) 0 (fun _ => .junk), .fn (.func 35) 0 (fun _ => .junk)] 0 ix jx)), (15, WV 7), (16, WV 1)] 26 [(5, .box (t'1.g 5) [.vec 10 (t'1.g 10) 1 0 (nvS.len v), WV sos]), (10, .arr (t'1.g 10) 1 (nvS.len v) (t'1.t 10) (WI nvS o1))] t'1)) (fun o1 t => Hid.ok t ∧ lenL o1 = (lenL v)) (fun x t'1 ht'1 h => ?_) (fun f h => ?_)
 · revert h; revert ht'1; revert x; intro o1 ht'1 h
   obtain ⟨ht'1, ht'1_f0⟩ := ht'1
   obtain ⟨t'1_c, t'1_g, t'1_t⟩ := t'1; obtain ⟨ht'1_c, ht'1_g⟩ : 0 < t'1_c ∧ ∀ k, t'1_g k < t'1_c := ht'1
   refine TrN.cut (α := List Int) h (fun o2 t'2 => (WF 26 [(5, .bref 5 (t'2.g 5) 0), (14, .sl 1 7 false (fun ix jx => rowsF (std Tryz.prog) 1 7 [.fn (.func 29) 0 (fun _ => .junk), .fn (.func 30) 0 (fun _ => .junk), .fn (.func 31) 0 (fun _ => .junk), .fn (.func 32) 0 (fun _ => .junk), .fn (.func 33) 0 (fun _ => .junk), .fn (.func 34) 0 (fun _ => .junk), .fn (.func 35) 0 (fun _ => .junk)] 0 ix jx)), (15, WV 7), (16, WV 2)] 26 [(5, .box (t'2.g 5) [.vec 10 (t'2.g 10) 1 0 (nvS.len v), WV sos]), (10, .arr (t'2.g 10) 1 (nvS.len v) (t'2.t 10) (WI nvS o2))] t'2)) (fun o2 t => Hid.ok t ∧ lenL o2 = (lenL v)) (fun x t'2 ht'2 h => ?_) (fun f h => ?_)
   · revert h; revert ht'2; revert x; intro o2 ht'2 h
     obtain ⟨ht'2, ht'2_f0⟩ := ht'2
     obtain ⟨t'2_c, t'2_g, t'2_t⟩ := t'2; obtain ⟨ht'2_c, ht'2_g⟩ : 0 < t'2_c ∧ ∀ k, t'2_g k < t'2_c := ht'2
     refine TrN.cut (α := List Int) h (fun o3 t'3 => (WF 26 [(5, .bref 5 (t'3.g 5) 0), (14, .sl 1 7 false (fun ix jx => rowsF (std Tryz.prog) 1 7 [.fn (.func 29) 0 (fun _ => .junk), .fn (.func 30) 0 (fun _ => .junk), .fn (.func 31) 0 (fun _ => .junk), .fn (.func 32) 0 (fun _ => .junk), .fn (.func 33) 0 (fun _ => .junk), .fn (.func 34) 0 (fun _ => .junk), .fn (.func 35) 0 (fun _ => .junk)] 0 ix jx)), (15, WV 7), (16, WV 3)] 26 [(5, .box (t'3.g 5) [.vec 10 (t'3.g 10) 1 0 (nvS.len v), WV sos]), (10, .arr (t'3.g 10) 1 (nvS.len v) (t'3.t 10) (WI nvS o3))] t'3)) (fun o3 t => Hid.ok t ∧ lenL o3 = (lenL v)) (fun x t'3 ht'3 h => ?_) (fun f h => ?_)
     · revert h; revert ht'3; revert x; intro o3 ht'3 h
       obtain ⟨ht'3, ht'3_f0⟩ := ht'3
       obtain ⟨t'3_c, t'3_g, t'3_t⟩ := t'3; obtain ⟨ht'3_c, ht'3_g⟩ : 0 < t'3_c ∧ ∀ k, t'3_g k < t'3_c := ht'3
       refine TrN.cut (α := List Int) h (fun o4 t'4 => (WF 26 [(5, .bref 5 (t'4.g 5) 0), (14, .sl 1 7 false (fun ix jx => rowsF (std Tryz.prog) 1 7 [.fn (.func 29) 0 (fun _ => .junk), .fn (.func 30) 0 (fun _ => .junk), .fn (.func 31) 0 (fun _ => .junk), .fn (.func 32) 0 (fun _ => .junk), .fn (.func 33) 0 (fun _ => .junk), .fn (.func 34) 0 (fun _ => .junk), .fn (.func 35) 0 (fun _ => .junk)] 0 ix jx)), (15, WV 7), (16, WV 4)] 26 [(5, .box (t'4.g 5) [.vec 10 (t'4.g 10) 1 0 (nvS.len v), WV sos]), (10, .arr (t'4.g 10) 1 (nvS.len v) (t'4.t 10) (WI nvS o4))] t'4)) (fun o4 t => Hid.ok t ∧ lenL o4 = (lenL v)) (fun x t'4 ht'4 h => ?_) (fun f h => ?_)
       · revert h; revert ht'4; revert x; intro o4 ht'4 h
         obtain ⟨ht'4, ht'4_f0⟩ := ht'4
         obtain ⟨t'4_c, t'4_g, t'4_t⟩ := t'4; obtain ⟨ht'4_c, ht'4_g⟩ : 0 < t'4_c ∧ ∀ k, t'4_g k < t'4_c := ht'4
         refine TrN.cut (α := List Int) h (fun o5 t'5 => (WF 26 [(5, .bref 5 (t'5.g 5) 0), (14, .sl 1 7 false (fun ix jx => rowsF (std Tryz.prog) 1 7 [.fn (.func 29) 0 (fun _ => .junk), .fn (.func 30) 0 (fun _ => .junk), .fn (.func 31) 0 (fun _ => .junk), .fn (.func 32) 0 (fun _ => .junk), .fn (.func 33) 0 (fun _ => .junk), .fn (.func 34) 0 (fun _ => .junk), .fn (.func 35) 0 (fun _ => .junk)] 0 ix jx)), (15, WV 7), (16, WV 5)] 26 [(5, .box (t'5.g 5) [.vec 10 (t'5.g 10) 1 0 (nvS.len v), WV sos]), (10, .arr (t'5.g 10) 1 (nvS.len v) (t'5.t 10) (WI nvS o5))] t'5)) (fun o5 t => Hid.ok t ∧ lenL o5 = (lenL v)) (fun x t'5 ht'5 h => ?_) (fun f h => ?_)
         · revert h; revert ht'5; revert x; intro o5 ht'5 h
           obtain ⟨ht'5, ht'5_f0⟩ := ht'5
           obtain ⟨t'5_c, t'5_g, t'5_t⟩ := t'5; obtain ⟨ht'5_c, ht'5_g⟩ : 0 < t'5_c ∧ ∀ k, t'5_g k < t'5_c := ht'5
           refine TrN.cut (α := List Int) h (fun o6 t'6 => (WF 26 [(5, .bref 5 (t'6.g 5) 0), (14, .sl 1 7 false (fun ix jx => rowsF (std Tryz.prog) 1 7 [.fn (.func 29) 0 (fun _ => .junk), .fn (.func 30) 0 (fun _ => .junk), .fn (.func 31) 0 (fun _ => .junk), .fn (.func 32) 0 (fun _ => .junk), .fn (.func 33) 0 (fun _ => .junk), .fn (.func 34) 0 (fun _ => .junk), .fn (.func 35) 0 (fun _ => .junk)] 0 ix jx)), (15, WV 7), (16, WV 6)] 26 [(5, .box (t'6.g 5) [.vec 10 (t'6.g 10) 1 0 (nvS.len v), WV sos]), (10, .arr (t'6.g 10) 1 (nvS.len v) (t'6.t 10) (WI nvS o6))] t'6)) (fun o6 t => Hid.ok t ∧ lenL o6 = (lenL v)) (fun x t'6 ht'6 h => ?_) (fun f h => ?_)
           · revert h; revert ht'6; revert x; intro o6 ht'6 h
             obtain ⟨ht'6, ht'6_f0⟩ := ht'6
             obtain ⟨t'6_c, t'6_g, t'6_t⟩ := t'6; obtain ⟨ht'6_c, ht'6_g⟩ : 0 < t'6_c ∧ ∀ k, t'6_g k < t'6_c := ht'6
             refine TrN.cut (α := List Int) h (fun o7 t'7 => (WF 26 [(5, .bref 5 (t'7.g 5) 0), (14, .sl 1 7 false (fun ix jx => rowsF (std Tryz.prog) 1 7 [.fn (.func 29) 0 (fun _ => .junk), .fn (.func 30) 0 (fun _ => .junk), .fn (.func 31) 0 (fun _ => .junk), .fn (.func 32) 0 (fun _ => .junk), .fn (.func 33) 0 (fun _ => .junk), .fn (.func 34) 0 (fun _ => .junk), .fn (.func 35) 0 (fun _ => .junk)] 0 ix jx)), (15, WV 7), (16, WV 7)] 26 [(5, .box (t'7.g 5) [.vec 10 (t'7.g 10) 1 0 (nvS.len v), WV sos]), (10, .arr (t'7.g 10) 1 (nvS.len v) (t'7.t 10) (WI nvS o7))] t'7)) (fun o7 t => Hid.ok t ∧ lenL o7 = (lenL v)) (fun x t'7 ht'7 h => ?_) (fun f h => ?_)
             · revert h; revert ht'7; revert x; intro o7 ht'7 h
               obtain ⟨ht'7, ht'7_f0⟩ := ht'7
               obtain ⟨t'7_c, t'7_g, t'7_t⟩ := t'7; obtain ⟨ht'7_c, ht'7_g⟩ : 0 < t'7_c ∧ ∀ k, t'7_g k < t'7_c := ht'7
               show Tr _ _ _ _
               refine Wx [] [] [] 0 [] 2 fun N hN => ?_
               generalize hp : std Tryz.prog = p; generalize hv : nvS = nv; cbv; subst hp hv
               refine ⟨fun h73 => ?_, fun h73 => ?_⟩
               · first | cases h73 | exact Bool.noConfusion (h73 : false = true)
               subst hN
               cases h
               show ∃ t', _ ∧ GeSt _ _ _
               refine ⟨⟨t'7_c + 10, gfn [(5, t'7_g 5), (10, t'7_g 10)], tfn [(5, false), (10, t'7_t 10)]⟩, (And.intro Wh Wf), ?_⟩
               exact (Wg (Wk rfl trivial) (Wi rfl (Wi rfl trivial)))
             refine Wx [] [] [] 0 [] 2 fun N hN => ?_
             generalize hp : std Tryz.prog = p; generalize hv : nvS = nv; cbv; subst hp hv
             refine ⟨fun h74 => ?_, fun h74 => ?_⟩
             · subst hN
               show Tr _ _ _ _
               refine Tr.cutSeq (α := List Int) h (fun o8 t'8 => (WF 26 [(5, .bref 5 (t'8.g 5) 0), (14, .sl 1 7 false (fun ix jx => rowsF (std Tryz.prog) 1 7 [.fn (.func 29) 0 (fun _ => .junk), .fn (.func 30) 0 (fun _ => .junk), .fn (.func 31) 0 (fun _ => .junk), .fn (.func 32) 0 (fun _ => .junk), .fn (.func 33) 0 (fun _ => .junk), .fn (.func 34) 0 (fun _ => .junk), .fn (.func 35) 0 (fun _ => .junk)] 0 ix jx)), (15, WV 7), (16, WV 6)] 26 [(5, .box (t'8.g 5) [.vec 10 (t'8.g 10) 1 0 (nvS.len v), WV sos]), (10, .arr (t'8.g 10) 1 (nvS.len v) (t'8.t 10) (WI nvS o8))] t'8)) (fun o8 t => Hid.ok t ∧ lenL o8 = (lenL v)) (fun x t'8 ht'8 h => ?_) (fun f h => ?_)
               · revert h; revert ht'8; revert x; intro o8 ht'8 h
                 obtain ⟨ht'8, ht'8_f0⟩ := ht'8
                 obtain ⟨t'8_c, t'8_g, t'8_t⟩ := t'8; obtain ⟨ht'8_c, ht'8_g⟩ : 0 < t'8_c ∧ ∀ k, t'8_g k < t'8_c := ht'8
                 refine Wc [] [] [] 0 [] fun N hN => ?_
                 generalize hp : std Tryz.prog = p; generalize hv : nvS = nv; cbv; subst hp hv
                 replace h := chk_some h; obtain ⟨h78, h⟩ := h
                 refine ⟨h78, ?_⟩
                 subst hN; cases h
                 show ∃ t', _ ∧ GeSt _ _ _
                 refine ⟨⟨t'8_c + 10, gfn [(5, t'8_g 5), (10, t'8_g 10)], tfn [(5, false), (10, t'8_t 10)]⟩, (And.intro Wh Wf), ?_⟩
                 exact (Wg (Wk rfl (Wk rfl (Wk rfl (Wk rfl trivial)))) (Wi rfl (Wi rfl trivial)))
               refine Tr.block ?_
               refine Tr.cutSeq (α := Unit) h (fun _ t'9 => (WF 26 [(5, .bref 5 (t'9.g 5) 0), (8, .fn (.func 35) 0 (fun _ => .junk)), (14, .sl 1 7 false (fun ix jx => rowsF (std Tryz.prog) 1 7 [.fn (.func 29) 0 (fun _ => .junk), .fn (.func 30) 0 (fun _ => .junk), .fn (.func 31) 0 (fun _ => .junk), .fn (.func 32) 0 (fun _ => .junk), .fn (.func 33) 0 (fun _ => .junk), .fn (.func 34) 0 (fun _ => .junk), .fn (.func 35) 0 (fun _ => .junk)] 0 ix jx)), (15, WV 7), (16, WV 6)] 26 [(5, .box (t'9.g 5) [.vec 10 (t'9.g 10) 1 0 (nvS.len v), WV sos]), (10, .arr (t'9.g 10) 1 (nvS.len v) (t'9.t 10) (WI nvS o6))] t'9)) (fun _ t => Hid.ok t) (fun x t'9 ht'9 h => ?_) (fun f h => ?_)
               · obtain ⟨t'9_c, t'9_g, t'9_t⟩ := t'9; obtain ⟨ht'9_c, ht'9_g⟩ : 0 < t'9_c ∧ ∀ k, t'9_g k < t'9_c := ht'9
                 obtain ⟨v1, h80⟩ : ∃ v1, valO [] (w7 (T_weak_text.mk o6 sos)) = v1 := ⟨_, rfl⟩
                 refine Wc [(35, 2)] [(22, .lent [.arr 0 1 ((nvS.len v)) (t'9_t 10) (WI nvS v1)] (.tup 0 (fun _ => .junk)))] [] 0 [] fun N hN => ?_
                 generalize hp : std Tryz.prog = p; generalize hv : nvS = nv; cbv; subst hp hv
                 replace h := bindO_val h80 h; clear h80; obtain ⟨h80, h⟩ := h
                 replace h := chk_some h; obtain ⟨h81, h⟩ := h
                 refine ⟨rfl, rfl, (fun i _ _ j _ => trivial), rfl, rfl, (fun i _ _ j _ => trivial), (LentFn.arg (w7_ok (T_weak_text.mk o6 sos) v1 h80 (lenL v) (by first | rfl | omega) _) (And.intro (LeD.agg fun j hj => by
                  have hj2 : j < 2 := hj
                  rcases (show j = 0 ∨ j = 1 by omega) with rfl | rfl
                  · exact LeD.refl _
                  exact LeD.refl _) trivial)), ?_⟩
                 subst hN; cases h
                 show ∃ t', _ ∧ GeSt _ _ _
                 refine ⟨⟨t'9_c + 10, gfn [(5, t'9_g 5), (10, t'9_g 10)], tfn [(5, false), (10, t'9_t 10)]⟩, (And.intro Wh Wf), ?_⟩
                 exact (Wg (Wk rfl (Wk rfl (Wk rfl (Wk rfl trivial)))) (Wi rfl (Wa rfl trivial)))
               refine Wc [] [] [] 0 [] fun N hN => ?_
               generalize hp : std Tryz.prog = p; generalize hv : nvS = nv; cbv; subst hp hv
               replace h := chk_some h; obtain ⟨h82, h⟩ := h
               refine ⟨h82, ?_⟩
               subst hN; cases h
               show ∃ t', _ ∧ GeSt _ _ _
               refine ⟨⟨t'6_c + 11, gfn [(5, t'6_g 5), (10, t'6_g 10)], tfn [(5, false), (10, t'6_t 10)]⟩, Wh, ?_⟩
               exact (Wg (Wk rfl (Wq rfl (LeD.cndF rfl (LeD.cndF rfl (LeD.cndF rfl (LeD.cndF rfl (LeD.cndF rfl (LeD.cndF rfl (LeD.refl _))))))) (Wk rfl (Wk rfl (Wk rfl trivial))))) (Wi rfl (Wi rfl trivial)))
             first | cases h74 | exact Bool.noConfusion (h74 : true = false)
           refine Wx [] [] [] 0 [] 2 fun N hN => ?_
           generalize hp : std Tryz.prog = p; generalize hv : nvS = nv; cbv; subst hp hv
           refine ⟨fun h83 => ?_, fun h83 => ?_⟩
           · subst hN
             show Tr _ _ _ _
             refine Tr.cutSeq (α := List Int) h (fun o9 t'10 => (WF 26 [(5, .bref 5 (t'10.g 5) 0), (14, .sl 1 7 false (fun ix jx => rowsF (std Tryz.prog) 1 7 [.fn (.func 29) 0 (fun _ => .junk), .fn (.func 30) 0 (fun _ => .junk), .fn (.func 31) 0 (fun _ => .junk), .fn (.func 32) 0 (fun _ => .junk), .fn (.func 33) 0 (fun _ => .junk), .fn (.func 34) 0 (fun _ => .junk), .fn (.func 35) 0 (fun _ => .junk)] 0 ix jx)), (15, WV 7), (16, WV 5)] 26 [(5, .box (t'10.g 5) [.vec 10 (t'10.g 10) 1 0 (nvS.len v), WV sos]), (10, .arr (t'10.g 10) 1 (nvS.len v) (t'10.t 10) (WI nvS o9))] t'10)) (fun o9 t => Hid.ok t ∧ lenL o9 = (lenL v)) (fun x t'10 ht'10 h => ?_) (fun f h => ?_)
             · revert h; revert ht'10; revert x; intro o9 ht'10 h
               obtain ⟨ht'10, ht'10_f0⟩ := ht'10
               obtain ⟨t'10_c, t'10_g, t'10_t⟩ := t'10; obtain ⟨ht'10_c, ht'10_g⟩ : 0 < t'10_c ∧ ∀ k, t'10_g k < t'10_c := ht'10
               refine Wc [] [] [] 0 [] fun N hN => ?_
               generalize hp : std Tryz.prog = p; generalize hv : nvS = nv; cbv; subst hp hv
               replace h := chk_some h; obtain ⟨h87, h⟩ := h
               refine ⟨h87, ?_⟩
               subst hN; cases h
               show ∃ t', _ ∧ GeSt _ _ _
               refine ⟨⟨t'10_c + 10, gfn [(5, t'10_g 5), (10, t'10_g 10)], tfn [(5, false), (10, t'10_t 10)]⟩, (And.intro Wh Wf), ?_⟩
               exact (Wg (Wk rfl (Wk rfl (Wk rfl (Wk rfl trivial)))) (Wi rfl (Wi rfl trivial)))
             refine Tr.block ?_
             refine Tr.cutSeq (α := Unit) h (fun _ t'11 => (WF 26 [(5, .bref 5 (t'11.g 5) 0), (8, .fn (.func 34) 0 (fun _ => .junk)), (14, .sl 1 7 false (fun ix jx => rowsF (std Tryz.prog) 1 7 [.fn (.func 29) 0 (fun _ => .junk), .fn (.func 30) 0 (fun _ => .junk), .fn (.func 31) 0 (fun _ => .junk), .fn (.func 32) 0 (fun _ => .junk), .fn (.func 33) 0 (fun _ => .junk), .fn (.func 34) 0 (fun _ => .junk), .fn (.func 35) 0 (fun _ => .junk)] 0 ix jx)), (15, WV 7), (16, WV 5)] 26 [(5, .box (t'11.g 5) [.vec 10 (t'11.g 10) 1 0 (nvS.len v), WV sos]), (10, .arr (t'11.g 10) 1 (nvS.len v) (t'11.t 10) (WI nvS o5))] t'11)) (fun _ t => Hid.ok t) (fun x t'11 ht'11 h => ?_) (fun f h => ?_)
             · obtain ⟨t'11_c, t'11_g, t'11_t⟩ := t'11; obtain ⟨ht'11_c, ht'11_g⟩ : 0 < t'11_c ∧ ∀ k, t'11_g k < t'11_c := ht'11
               obtain ⟨v2, h89⟩ : ∃ v2, valO [] (w6 (T_weak_text.mk o5 sos)) = v2 := ⟨_, rfl⟩
               refine Wc [(34, 2)] [(22, .lent [.arr 0 1 ((nvS.len v)) (t'11_t 10) (WI nvS v2)] (.tup 0 (fun _ => .junk)))] [] 0 [] fun N hN => ?_
               generalize hp : std Tryz.prog = p; generalize hv : nvS = nv; cbv; subst hp hv
               replace h := bindO_val h89 h; clear h89; obtain ⟨h89, h⟩ := h
               replace h := chk_some h; obtain ⟨h90, h⟩ := h
               refine ⟨rfl, rfl, (fun i _ _ j _ => trivial), rfl, rfl, (fun i _ _ j _ => trivial), (LentFn.arg (w6_ok (T_weak_text.mk o5 sos) v2 h89 (lenL v) (by first | rfl | omega) _) (And.intro (LeD.agg fun j hj => by
                have hj2 : j < 2 := hj
                rcases (show j = 0 ∨ j = 1 by omega) with rfl | rfl
                · exact LeD.refl _
                exact LeD.refl _) trivial)), ?_⟩
               subst hN; cases h
               show ∃ t', _ ∧ GeSt _ _ _
               refine ⟨⟨t'11_c + 10, gfn [(5, t'11_g 5), (10, t'11_g 10)], tfn [(5, false), (10, t'11_t 10)]⟩, (And.intro Wh Wf), ?_⟩
               exact (Wg (Wk rfl (Wk rfl (Wk rfl (Wk rfl trivial)))) (Wi rfl (Wa rfl trivial)))
             refine Wc [] [] [] 0 [] fun N hN => ?_
             generalize hp : std Tryz.prog = p; generalize hv : nvS = nv; cbv; subst hp hv
             replace h := chk_some h; obtain ⟨h91, h⟩ := h
             refine ⟨h91, ?_⟩
             subst hN; cases h
             show ∃ t', _ ∧ GeSt _ _ _
             refine ⟨⟨t'5_c + 11, gfn [(5, t'5_g 5), (10, t'5_g 10)], tfn [(5, false), (10, t'5_t 10)]⟩, Wh, ?_⟩
             exact (Wg (Wk rfl (Wq rfl (LeD.cndF rfl (LeD.cndF rfl (LeD.cndF rfl (LeD.cndF rfl (LeD.cndF rfl (LeD.cndT rfl (LeD.refl _))))))) (Wk rfl (Wk rfl (Wk rfl trivial))))) (Wi rfl (Wi rfl trivial)))
           first | cases h83 | exact Bool.noConfusion (h83 : true = false)
         refine Wx [] [] [] 0 [] 2 fun N hN => ?_
         generalize hp : std Tryz.prog = p; generalize hv : nvS = nv; cbv; subst hp hv
         refine ⟨fun h92 => ?_, fun h92 => ?_⟩
         · subst hN
           show Tr _ _ _ _
           refine Tr.cutSeq (α := List Int) h (fun o10 t'12 => (WF 26 [(5, .bref 5 (t'12.g 5) 0), (14, .sl 1 7 false (fun ix jx => rowsF (std Tryz.prog) 1 7 [.fn (.func 29) 0 (fun _ => .junk), .fn (.func 30) 0 (fun _ => .junk), .fn (.func 31) 0 (fun _ => .junk), .fn (.func 32) 0 (fun _ => .junk), .fn (.func 33) 0 (fun _ => .junk), .fn (.func 34) 0 (fun _ => .junk), .fn (.func 35) 0 (fun _ => .junk)] 0 ix jx)), (15, WV 7), (16, WV 4)] 26 [(5, .box (t'12.g 5) [.vec 10 (t'12.g 10) 1 0 (nvS.len v), WV sos]), (10, .arr (t'12.g 10) 1 (nvS.len v) (t'12.t 10) (WI nvS o10))] t'12)) (fun o10 t => Hid.ok t ∧ lenL o10 = (lenL v)) (fun x t'12 ht'12 h => ?_) (fun f h => ?_)
           · revert h; revert ht'12; revert x; intro o10 ht'12 h
             obtain ⟨ht'12, ht'12_f0⟩ := ht'12
             obtain ⟨t'12_c, t'12_g, t'12_t⟩ := t'12; obtain ⟨ht'12_c, ht'12_g⟩ : 0 < t'12_c ∧ ∀ k, t'12_g k < t'12_c := ht'12
             refine Wc [] [] [] 0 [] fun N hN => ?_
             generalize hp : std Tryz.prog = p; generalize hv : nvS = nv; cbv; subst hp hv
             replace h := chk_some h; obtain ⟨h96, h⟩ := h
             refine ⟨h96, ?_⟩
             subst hN; cases h
             show ∃ t', _ ∧ GeSt _ _ _
             refine ⟨⟨t'12_c + 10, gfn [(5, t'12_g 5), (10, t'12_g 10)], tfn [(5, false), (10, t'12_t 10)]⟩, (And.intro Wh Wf), ?_⟩
             exact (Wg (Wk rfl (Wk rfl (Wk rfl (Wk rfl trivial)))) (Wi rfl (Wi rfl trivial)))
           refine Tr.block ?_
           refine Tr.cutSeq (α := Unit) h (fun _ t'13 => (WF 26 [(5, .bref 5 (t'13.g 5) 0), (8, .fn (.func 33) 0 (fun _ => .junk)), (14, .sl 1 7 false (fun ix jx => rowsF (std Tryz.prog) 1 7 [.fn (.func 29) 0 (fun _ => .junk), .fn (.func 30) 0 (fun _ => .junk), .fn (.func 31) 0 (fun _ => .junk), .fn (.func 32) 0 (fun _ => .junk), .fn (.func 33) 0 (fun _ => .junk), .fn (.func 34) 0 (fun _ => .junk), .fn (.func 35) 0 (fun _ => .junk)] 0 ix jx)), (15, WV 7), (16, WV 4)] 26 [(5, .box (t'13.g 5) [.vec 10 (t'13.g 10) 1 0 (nvS.len v), WV sos]), (10, .arr (t'13.g 10) 1 (nvS.len v) (t'13.t 10) (WI nvS o4))] t'13)) (fun _ t => Hid.ok t) (fun x t'13 ht'13 h => ?_) (fun f h => ?_)
           · obtain ⟨t'13_c, t'13_g, t'13_t⟩ := t'13; obtain ⟨ht'13_c, ht'13_g⟩ : 0 < t'13_c ∧ ∀ k, t'13_g k < t'13_c := ht'13
             obtain ⟨v3, h98⟩ : ∃ v3, valO [] (w5 (T_weak_text.mk o4 sos)) = v3 := ⟨_, rfl⟩
             refine Wc [(33, 2)] [(22, .lent [.arr 0 1 ((nvS.len v)) (t'13_t 10) (WI nvS v3)] (.tup 0 (fun _ => .junk)))] [] 0 [] fun N hN => ?_
             generalize hp : std Tryz.prog = p; generalize hv : nvS = nv; cbv; subst hp hv
             replace h := bindO_val h98 h; clear h98; obtain ⟨h98, h⟩ := h
             replace h := chk_some h; obtain ⟨h99, h⟩ := h
             refine ⟨rfl, rfl, (fun i _ _ j _ => trivial), rfl, rfl, (fun i _ _ j _ => trivial), (LentFn.arg (w5_ok (T_weak_text.mk o4 sos) v3 h98 (lenL v) (by first | rfl | omega) _) (And.intro (LeD.agg fun j hj => by
              have hj2 : j < 2 := hj
              rcases (show j = 0 ∨ j = 1 by omega) with rfl | rfl
              · exact LeD.refl _
              exact LeD.refl _) trivial)), ?_⟩
             subst hN; cases h
             show ∃ t', _ ∧ GeSt _ _ _
             refine ⟨⟨t'13_c + 10, gfn [(5, t'13_g 5), (10, t'13_g 10)], tfn [(5, false), (10, t'13_t 10)]⟩, (And.intro Wh Wf), ?_⟩
             exact (Wg (Wk rfl (Wk rfl (Wk rfl (Wk rfl trivial)))) (Wi rfl (Wa rfl trivial)))
           refine Wc [] [] [] 0 [] fun N hN => ?_
           generalize hp : std Tryz.prog = p; generalize hv : nvS = nv; cbv; subst hp hv
           replace h := chk_some h; obtain ⟨h100, h⟩ := h
           refine ⟨h100, ?_⟩
           subst hN; cases h
           show ∃ t', _ ∧ GeSt _ _ _
           refine ⟨⟨t'4_c + 11, gfn [(5, t'4_g 5), (10, t'4_g 10)], tfn [(5, false), (10, t'4_t 10)]⟩, Wh, ?_⟩
           exact (Wg (Wk rfl (Wq rfl (LeD.cndF rfl (LeD.cndF rfl (LeD.cndF rfl (LeD.cndF rfl (LeD.cndT rfl (LeD.refl _)))))) (Wk rfl (Wk rfl (Wk rfl trivial))))) (Wi rfl (Wi rfl trivial)))
         first | cases h92 | exact Bool.noConfusion (h92 : true = false)
       refine Wx [] [] [] 0 [] 2 fun N hN => ?_
       generalize hp : std Tryz.prog = p; generalize hv : nvS = nv; cbv; subst hp hv
       refine ⟨fun h101 => ?_, fun h101 => ?_⟩
       · subst hN
         show Tr _ _ _ _
         refine Tr.cutSeq (α := List Int) h (fun o11 t'14 => (WF 26 [(5, .bref 5 (t'14.g 5) 0), (14, .sl 1 7 false (fun ix jx => rowsF (std Tryz.prog) 1 7 [.fn (.func 29) 0 (fun _ => .junk), .fn (.func 30) 0 (fun _ => .junk), .fn (.func 31) 0 (fun _ => .junk), .fn (.func 32) 0 (fun _ => .junk), .fn (.func 33) 0 (fun _ => .junk), .fn (.func 34) 0 (fun _ => .junk), .fn (.func 35) 0 (fun _ => .junk)] 0 ix jx)), (15, WV 7), (16, WV 3)] 26 [(5, .box (t'14.g 5) [.vec 10 (t'14.g 10) 1 0 (nvS.len v), WV sos]), (10, .arr (t'14.g 10) 1 (nvS.len v) (t'14.t 10) (WI nvS o11))] t'14)) (fun o11 t => Hid.ok t ∧ lenL o11 = (lenL v)) (fun x t'14 ht'14 h => ?_) (fun f h => ?_)
         · revert h; revert ht'14; revert x; intro o11 ht'14 h
           obtain ⟨ht'14, ht'14_f0⟩ := ht'14
           obtain ⟨t'14_c, t'14_g, t'14_t⟩ := t'14; obtain ⟨ht'14_c, ht'14_g⟩ : 0 < t'14_c ∧ ∀ k, t'14_g k < t'14_c := ht'14
           refine Wc [] [] [] 0 [] fun N hN => ?_
           generalize hp : std Tryz.prog = p; generalize hv : nvS = nv; cbv; subst hp hv
           replace h := chk_some h; obtain ⟨h105, h⟩ := h
           refine ⟨h105, ?_⟩
           subst hN; cases h
           show ∃ t', _ ∧ GeSt _ _ _
           refine ⟨⟨t'14_c + 10, gfn [(5, t'14_g 5), (10, t'14_g 10)], tfn [(5, false), (10, t'14_t 10)]⟩, (And.intro Wh Wf), ?_⟩
           exact (Wg (Wk rfl (Wk rfl (Wk rfl (Wk rfl trivial)))) (Wi rfl (Wi rfl trivial)))
         refine Tr.block ?_
         refine Tr.cutSeq (α := Unit) h (fun _ t'15 => (WF 26 [(5, .bref 5 (t'15.g 5) 0), (8, .fn (.func 32) 0 (fun _ => .junk)), (14, .sl 1 7 false (fun ix jx => rowsF (std Tryz.prog) 1 7 [.fn (.func 29) 0 (fun _ => .junk), .fn (.func 30) 0 (fun _ => .junk), .fn (.func 31) 0 (fun _ => .junk), .fn (.func 32) 0 (fun _ => .junk), .fn (.func 33) 0 (fun _ => .junk), .fn (.func 34) 0 (fun _ => .junk), .fn (.func 35) 0 (fun _ => .junk)] 0 ix jx)), (15, WV 7), (16, WV 3)] 26 [(5, .box (t'15.g 5) [.vec 10 (t'15.g 10) 1 0 (nvS.len v), WV sos]), (10, .arr (t'15.g 10) 1 (nvS.len v) (t'15.t 10) (WI nvS o3))] t'15)) (fun _ t => Hid.ok t) (fun x t'15 ht'15 h => ?_) (fun f h => ?_)
         · obtain ⟨t'15_c, t'15_g, t'15_t⟩ := t'15; obtain ⟨ht'15_c, ht'15_g⟩ : 0 < t'15_c ∧ ∀ k, t'15_g k < t'15_c := ht'15
           obtain ⟨v4, h107⟩ : ∃ v4, valO [] (w4 (T_weak_text.mk o3 sos)) = v4 := ⟨_, rfl⟩
           refine Wc [(32, 2)] [(22, .lent [.arr 0 1 ((nvS.len v)) (t'15_t 10) (WI nvS v4)] (.tup 0 (fun _ => .junk)))] [] 0 [] fun N hN => ?_
           generalize hp : std Tryz.prog = p; generalize hv : nvS = nv; cbv; subst hp hv
           replace h := bindO_val h107 h; clear h107; obtain ⟨h107, h⟩ := h
           replace h := chk_some h; obtain ⟨h108, h⟩ := h
           refine ⟨rfl, rfl, (fun i _ _ j _ => trivial), rfl, rfl, (fun i _ _ j _ => trivial), (LentFn.arg (w4_ok (T_weak_text.mk o3 sos) v4 h107 (lenL v) (by first | rfl | omega) _) (And.intro (LeD.agg fun j hj => by
            have hj2 : j < 2 := hj
            rcases (show j = 0 ∨ j = 1 by omega) with rfl | rfl
            · exact LeD.refl _
            exact LeD.refl _) trivial)), ?_⟩
           subst hN; cases h
           show ∃ t', _ ∧ GeSt _ _ _
           refine ⟨⟨t'15_c + 10, gfn [(5, t'15_g 5), (10, t'15_g 10)], tfn [(5, false), (10, t'15_t 10)]⟩, (And.intro Wh Wf), ?_⟩
           exact (Wg (Wk rfl (Wk rfl (Wk rfl (Wk rfl trivial)))) (Wi rfl (Wa rfl trivial)))
         refine Wc [] [] [] 0 [] fun N hN => ?_
         generalize hp : std Tryz.prog = p; generalize hv : nvS = nv; cbv; subst hp hv
         replace h := chk_some h; obtain ⟨h109, h⟩ := h
         refine ⟨h109, ?_⟩
         subst hN; cases h
         show ∃ t', _ ∧ GeSt _ _ _
         refine ⟨⟨t'3_c + 11, gfn [(5, t'3_g 5), (10, t'3_g 10)], tfn [(5, false), (10, t'3_t 10)]⟩, Wh, ?_⟩
         exact (Wg (Wk rfl (Wq rfl (LeD.cndF rfl (LeD.cndF rfl (LeD.cndF rfl (LeD.cndT rfl (LeD.refl _))))) (Wk rfl (Wk rfl (Wk rfl trivial))))) (Wi rfl (Wi rfl trivial)))
       first | cases h101 | exact Bool.noConfusion (h101 : true = false)
     refine Wx [] [] [] 0 [] 2 fun N hN => ?_
     generalize hp : std Tryz.prog = p; generalize hv : nvS = nv; cbv; subst hp hv
     refine ⟨fun h110 => ?_, fun h110 => ?_⟩
     · subst hN
       show Tr _ _ _ _
       refine Tr.cutSeq (α := List Int) h (fun o12 t'16 => (WF 26 [(5, .bref 5 (t'16.g 5) 0), (14, .sl 1 7 false (fun ix jx => rowsF (std Tryz.prog) 1 7 [.fn (.func 29) 0 (fun _ => .junk), .fn (.func 30) 0 (fun _ => .junk), .fn (.func 31) 0 (fun _ => .junk), .fn (.func 32) 0 (fun _ => .junk), .fn (.func 33) 0 (fun _ => .junk), .fn (.func 34) 0 (fun _ => .junk), .fn (.func 35) 0 (fun _ => .junk)] 0 ix jx)), (15, WV 7), (16, WV 2)] 26 [(5, .box (t'16.g 5) [.vec 10 (t'16.g 10) 1 0 (nvS.len v), WV sos]), (10, .arr (t'16.g 10) 1 (nvS.len v) (t'16.t 10) (WI nvS o12))] t'16)) (fun o12 t => Hid.ok t ∧ lenL o12 = (lenL v)) (fun x t'16 ht'16 h => ?_) (fun f h => ?_)
       · revert h; revert ht'16; revert x; intro o12 ht'16 h
         obtain ⟨ht'16, ht'16_f0⟩ := ht'16
         obtain ⟨t'16_c, t'16_g, t'16_t⟩ := t'16; obtain ⟨ht'16_c, ht'16_g⟩ : 0 < t'16_c ∧ ∀ k, t'16_g k < t'16_c := ht'16
         refine Wc [] [] [] 0 [] fun N hN => ?_
         generalize hp : std Tryz.prog = p; generalize hv : nvS = nv; cbv; subst hp hv
         replace h := chk_some h; obtain ⟨h114, h⟩ := h
         refine ⟨h114, ?_⟩
         subst hN; cases h
         show ∃ t', _ ∧ GeSt _ _ _
         refine ⟨⟨t'16_c + 10, gfn [(5, t'16_g 5), (10, t'16_g 10)], tfn [(5, false), (10, t'16_t 10)]⟩, (And.intro Wh Wf), ?_⟩
         exact (Wg (Wk rfl (Wk rfl (Wk rfl (Wk rfl trivial)))) (Wi rfl (Wi rfl trivial)))
       refine Tr.block ?_
       refine Tr.cutSeq (α := Unit) h (fun _ t'17 => (WF 26 [(5, .bref 5 (t'17.g 5) 0), (8, .fn (.func 31) 0 (fun _ => .junk)), (14, .sl 1 7 false (fun ix jx => rowsF (std Tryz.prog) 1 7 [.fn (.func 29) 0 (fun _ => .junk), .fn (.func 30) 0 (fun _ => .junk), .fn (.func 31) 0 (fun _ => .junk), .fn (.func 32) 0 (fun _ => .junk), .fn (.func 33) 0 (fun _ => .junk), .fn (.func 34) 0 (fun _ => .junk), .fn (.func 35) 0 (fun _ => .junk)] 0 ix jx)), (15, WV 7), (16, WV 2)] 26 [(5, .box (t'17.g 5) [.vec 10 (t'17.g 10) 1 0 (nvS.len v), WV sos]), (10, .arr (t'17.g 10) 1 (nvS.len v) (t'17.t 10) (WI nvS o2))] t'17)) (fun _ t => Hid.ok t) (fun x t'17 ht'17 h => ?_) (fun f h => ?_)
       · obtain ⟨t'17_c, t'17_g, t'17_t⟩ := t'17; obtain ⟨ht'17_c, ht'17_g⟩ : 0 < t'17_c ∧ ∀ k, t'17_g k < t'17_c := ht'17
         obtain ⟨v5, h116⟩ : ∃ v5, valO [] (w3 (T_weak_text.mk o2 sos)) = v5 := ⟨_, rfl⟩
         refine Wc [(31, 2)] [(22, .lent [.arr 0 1 ((nvS.len v)) (t'17_t 10) (WI nvS v5)] (.tup 0 (fun _ => .junk)))] [] 0 [] fun N hN => ?_
         generalize hp : std Tryz.prog = p; generalize hv : nvS = nv; cbv; subst hp hv
         replace h := bindO_val h116 h; clear h116; obtain ⟨h116, h⟩ := h
         replace h := chk_some h; obtain ⟨h117, h⟩ := h
         refine ⟨rfl, rfl, (fun i _ _ j _ => trivial), rfl, rfl, (fun i _ _ j _ => trivial), (LentFn.arg (w3_ok (T_weak_text.mk o2 sos) v5 h116 (lenL v) (by first | rfl | omega) _) (And.intro (LeD.agg fun j hj => by
          have hj2 : j < 2 := hj
          rcases (show j = 0 ∨ j = 1 by omega) with rfl | rfl
          · exact LeD.refl _
          exact LeD.refl _) trivial)), ?_⟩
         subst hN; cases h
         show ∃ t', _ ∧ GeSt _ _ _
         refine ⟨⟨t'17_c + 10, gfn [(5, t'17_g 5), (10, t'17_g 10)], tfn [(5, false), (10, t'17_t 10)]⟩, (And.intro Wh Wf), ?_⟩
         exact (Wg (Wk rfl (Wk rfl (Wk rfl (Wk rfl trivial)))) (Wi rfl (Wa rfl trivial)))
       refine Wc [] [] [] 0 [] fun N hN => ?_
       generalize hp : std Tryz.prog = p; generalize hv : nvS = nv; cbv; subst hp hv
       replace h := chk_some h; obtain ⟨h118, h⟩ := h
       refine ⟨h118, ?_⟩
       subst hN; cases h
       show ∃ t', _ ∧ GeSt _ _ _
       refine ⟨⟨t'2_c + 11, gfn [(5, t'2_g 5), (10, t'2_g 10)], tfn [(5, false), (10, t'2_t 10)]⟩, Wh, ?_⟩
       exact (Wg (Wk rfl (Wq rfl (LeD.cndF rfl (LeD.cndF rfl (LeD.cndT rfl (LeD.refl _)))) (Wk rfl (Wk rfl (Wk rfl trivial))))) (Wi rfl (Wi rfl trivial)))
     first | cases h110 | exact Bool.noConfusion (h110 : true = false)
   refine Wx [] [] [] 0 [] 2 fun N hN => ?_
   generalize hp : std Tryz.prog = p; generalize hv : nvS = nv; cbv; subst hp hv
   refine ⟨fun h119 => ?_, fun h119 => ?_⟩
   · subst hN
     show Tr _ _ _ _
     refine Tr.cutSeq (α := List Int) h (fun o13 t'18 => (WF 26 [(5, .bref 5 (t'18.g 5) 0), (14, .sl 1 7 false (fun ix jx => rowsF (std Tryz.prog) 1 7 [.fn (.func 29) 0 (fun _ => .junk), .fn (.func 30) 0 (fun _ => .junk), .fn (.func 31) 0 (fun _ => .junk), .fn (.func 32) 0 (fun _ => .junk), .fn (.func 33) 0 (fun _ => .junk), .fn (.func 34) 0 (fun _ => .junk), .fn (.func 35) 0 (fun _ => .junk)] 0 ix jx)), (15, WV 7), (16, WV 1)] 26 [(5, .box (t'18.g 5) [.vec 10 (t'18.g 10) 1 0 (nvS.len v), WV sos]), (10, .arr (t'18.g 10) 1 (nvS.len v) (t'18.t 10) (WI nvS o13))] t'18)) (fun o13 t => Hid.ok t ∧ lenL o13 = (lenL v)) (fun x t'18 ht'18 h => ?_) (fun f h => ?_)
     · revert h; revert ht'18; revert x; intro o13 ht'18 h
       obtain ⟨ht'18, ht'18_f0⟩ := ht'18
       obtain ⟨t'18_c, t'18_g, t'18_t⟩ := t'18; obtain ⟨ht'18_c, ht'18_g⟩ : 0 < t'18_c ∧ ∀ k, t'18_g k < t'18_c := ht'18
       refine Wc [] [] [] 0 [] fun N hN => ?_
       generalize hp : std Tryz.prog = p; generalize hv : nvS = nv; cbv; subst hp hv
       replace h := chk_some h; obtain ⟨h123, h⟩ := h
       refine ⟨h123, ?_⟩
       subst hN; cases h
       show ∃ t', _ ∧ GeSt _ _ _
       refine ⟨⟨t'18_c + 10, gfn [(5, t'18_g 5), (10, t'18_g 10)], tfn [(5, false), (10, t'18_t 10)]⟩, (And.intro Wh Wf), ?_⟩
       exact (Wg (Wk rfl (Wk rfl (Wk rfl (Wk rfl trivial)))) (Wi rfl (Wi rfl trivial)))
     refine Tr.block ?_
     refine Tr.cutSeq (α := Unit) h (fun _ t'19 => (WF 26 [(5, .bref 5 (t'19.g 5) 0), (8, .fn (.func 30) 0 (fun _ => .junk)), (14, .sl 1 7 false (fun ix jx => rowsF (std Tryz.prog) 1 7 [.fn (.func 29) 0 (fun _ => .junk), .fn (.func 30) 0 (fun _ => .junk), .fn (.func 31) 0 (fun _ => .junk), .fn (.func 32) 0 (fun _ => .junk), .fn (.func 33) 0 (fun _ => .junk), .fn (.func 34) 0 (fun _ => .junk), .fn (.func 35) 0 (fun _ => .junk)] 0 ix jx)), (15, WV 7), (16, WV 1)] 26 [(5, .box (t'19.g 5) [.vec 10 (t'19.g 10) 1 0 (nvS.len v), WV sos]), (10, .arr (t'19.g 10) 1 (nvS.len v) (t'19.t 10) (WI nvS o1))] t'19)) (fun _ t => Hid.ok t) (fun x t'19 ht'19 h => ?_) (fun f h => ?_)
     · obtain ⟨t'19_c, t'19_g, t'19_t⟩ := t'19; obtain ⟨ht'19_c, ht'19_g⟩ : 0 < t'19_c ∧ ∀ k, t'19_g k < t'19_c := ht'19
       obtain ⟨v6, h125⟩ : ∃ v6, valO [] (w2 (T_weak_text.mk o1 sos)) = v6 := ⟨_, rfl⟩
       refine Wc [(30, 2)] [(22, .lent [.arr 0 1 ((nvS.len v)) (t'19_t 10) (WI nvS v6)] (.tup 0 (fun _ => .junk)))] [] 0 [] fun N hN => ?_
       generalize hp : std Tryz.prog = p; generalize hv : nvS = nv; cbv; subst hp hv
       replace h := bindO_val h125 h; clear h125; obtain ⟨h125, h⟩ := h
       replace h := chk_some h; obtain ⟨h126, h⟩ := h
       refine ⟨rfl, rfl, (fun i _ _ j _ => trivial), rfl, rfl, (fun i _ _ j _ => trivial), (LentFn.arg (w2_ok (T_weak_text.mk o1 sos) v6 h125 (lenL v) (by first | rfl | omega) _) (And.intro (LeD.agg fun j hj => by
        have hj2 : j < 2 := hj
        rcases (show j = 0 ∨ j = 1 by omega) with rfl | rfl
        · exact LeD.refl _
        exact LeD.refl _) trivial)), ?_⟩
       subst hN; cases h
       show ∃ t', _ ∧ GeSt _ _ _
       refine ⟨⟨t'19_c + 10, gfn [(5, t'19_g 5), (10, t'19_g 10)], tfn [(5, false), (10, t'19_t 10)]⟩, (And.intro Wh Wf), ?_⟩
       exact (Wg (Wk rfl (Wk rfl (Wk rfl (Wk rfl trivial)))) (Wi rfl (Wa rfl trivial)))
     refine Wc [] [] [] 0 [] fun N hN => ?_
     generalize hp : std Tryz.prog = p; generalize hv : nvS = nv; cbv; subst hp hv
     replace h := chk_some h; obtain ⟨h127, h⟩ := h
     refine ⟨h127, ?_⟩
     subst hN; cases h
     show ∃ t', _ ∧ GeSt _ _ _
     refine ⟨⟨t'1_c + 11, gfn [(5, t'1_g 5), (10, t'1_g 10)], tfn [(5, false), (10, t'1_t 10)]⟩, Wh, ?_⟩
     exact (Wg (Wk rfl (Wq rfl (LeD.cndF rfl (LeD.cndT rfl (LeD.refl _))) (Wk rfl (Wk rfl (Wk rfl trivial))))) (Wi rfl (Wi rfl trivial)))
   first | cases h119 | exact Bool.noConfusion (h119 : true = false)
 refine Wx [] [] [] 0 [] 2 fun N hN => ?_
 generalize hp : std Tryz.prog = p; generalize hv : nvS = nv; cbv; subst hp hv
 refine ⟨fun h128 => ?_, fun h128 => ?_⟩
 · subst hN
   show Tr _ _ _ _
   refine Tr.cutSeq (α := List Int) h (fun o14 t'20 => (WF 26 [(5, .bref 5 (t'20.g 5) 0), (14, .sl 1 7 false (fun ix jx => rowsF (std Tryz.prog) 1 7 [.fn (.func 29) 0 (fun _ => .junk), .fn (.func 30) 0 (fun _ => .junk), .fn (.func 31) 0 (fun _ => .junk), .fn (.func 32) 0 (fun _ => .junk), .fn (.func 33) 0 (fun _ => .junk), .fn (.func 34) 0 (fun _ => .junk), .fn (.func 35) 0 (fun _ => .junk)] 0 ix jx)), (15, WV 7), (16, WV 0)] 26 [(5, .box (t'20.g 5) [.vec 10 (t'20.g 10) 1 0 (nvS.len v), WV sos]), (10, .arr (t'20.g 10) 1 (nvS.len v) (t'20.t 10) (WI nvS o14))] t'20)) (fun o14 t => Hid.ok t ∧ lenL o14 = (lenL v)) (fun x t'20 ht'20 h => ?_) (fun f h => ?_)
   · revert h; revert ht'20; revert x; intro o14 ht'20 h
     obtain ⟨ht'20, ht'20_f0⟩ := ht'20
     obtain ⟨t'20_c, t'20_g, t'20_t⟩ := t'20; obtain ⟨ht'20_c, ht'20_g⟩ : 0 < t'20_c ∧ ∀ k, t'20_g k < t'20_c := ht'20
     refine Wc [] [] [] 0 [] fun N hN => ?_
     generalize hp : std Tryz.prog = p; generalize hv : nvS = nv; cbv; subst hp hv
     replace h := chk_some h; obtain ⟨h132, h⟩ := h
     refine ⟨h132, ?_⟩
     subst hN; cases h
     show ∃ t', _ ∧ GeSt _ _ _
     refine ⟨⟨t'20_c + 10, gfn [(5, t'20_g 5), (10, t'20_g 10)], tfn [(5, false), (10, t'20_t 10)]⟩, (And.intro Wh Wf), ?_⟩
     exact (Wg (Wk rfl (Wk rfl (Wk rfl (Wk rfl trivial)))) (Wi rfl (Wi rfl trivial)))
   refine Tr.block ?_
   refine Tr.cutSeq (α := Unit) h (fun _ t'21 => (WF 26 [(5, .bref 5 (t'21.g 5) 0), (8, .fn (.func 29) 0 (fun _ => .junk)), (14, .sl 1 7 false (fun ix jx => rowsF (std Tryz.prog) 1 7 [.fn (.func 29) 0 (fun _ => .junk), .fn (.func 30) 0 (fun _ => .junk), .fn (.func 31) 0 (fun _ => .junk), .fn (.func 32) 0 (fun _ => .junk), .fn (.func 33) 0 (fun _ => .junk), .fn (.func 34) 0 (fun _ => .junk), .fn (.func 35) 0 (fun _ => .junk)] 0 ix jx)), (15, WV 7), (16, WV 0)] 26 [(5, .box (t'21.g 5) [.vec 10 (t'21.g 10) 1 0 (nvS.len v), WV sos]), (10, .arr (t'21.g 10) 1 (nvS.len v) (t'21.t 10) (WI nvS v))] t'21)) (fun _ t => Hid.ok t) (fun x t'21 ht'21 h => ?_) (fun f h => ?_)
   · obtain ⟨t'21_c, t'21_g, t'21_t⟩ := t'21; obtain ⟨ht'21_c, ht'21_g⟩ : 0 < t'21_c ∧ ∀ k, t'21_g k < t'21_c := ht'21
     obtain ⟨v7, h134⟩ : ∃ v7, valO [] (w1 (T_weak_text.mk v sos)) = v7 := ⟨_, rfl⟩
     refine Wc [(29, 2)] [(22, .lent [.arr 0 1 ((nvS.len v)) (t'21_t 10) (WI nvS v7)] (.tup 0 (fun _ => .junk)))] [] 0 [] fun N hN => ?_
     generalize hp : std Tryz.prog = p; generalize hv : nvS = nv; cbv; subst hp hv
     replace h := bindO_val h134 h; clear h134; obtain ⟨h134, h⟩ := h
     replace h := chk_some h; obtain ⟨h135, h⟩ := h
     refine ⟨rfl, rfl, (fun i _ _ j _ => trivial), rfl, rfl, (fun i _ _ j _ => trivial), (LentFn.arg (w1_ok (T_weak_text.mk v sos) v7 h134 (lenL v) (by first | rfl | omega) _) (And.intro (LeD.agg fun j hj => by
      have hj2 : j < 2 := hj
      rcases (show j = 0 ∨ j = 1 by omega) with rfl | rfl
      · exact LeD.refl _
      exact LeD.refl _) trivial)), ?_⟩
     subst hN; cases h
     show ∃ t', _ ∧ GeSt _ _ _
     refine ⟨⟨t'21_c + 10, gfn [(5, t'21_g 5), (10, t'21_g 10)], tfn [(5, false), (10, t'21_t 10)]⟩, (And.intro Wh Wf), ?_⟩
     exact (Wg (Wk rfl (Wk rfl (Wk rfl (Wk rfl trivial)))) (Wi rfl (Wa rfl trivial)))
   refine Wc [] [] [] 0 [] fun N hN => ?_
   generalize hp : std Tryz.prog = p; generalize hv : nvS = nv; cbv; subst hp hv
   replace h := chk_some h; obtain ⟨h136, h⟩ := h
   refine ⟨h136, ?_⟩
   subst hN; cases h
   show ∃ t', _ ∧ GeSt _ _ _
   refine ⟨⟨ctr + 15, gfn [(5, ctr + 1), (10, ctr + 1)], tfn [(5, false), (10, false)]⟩, Wh, ?_⟩
   exact (Wg (Wk rfl (Wq rfl (LeD.cndT rfl (LeD.refl _)) (Wq rfl (LeD.slE rfl (fun i i0 i1 j hj => rfl)) (Wk rfl (Wk rfl trivial))))) (Wi rfl (Wi rfl trivial)))
 first | cases h128 | exact Bool.noConfusion (h128 : true = false)
theorem weak_line__direction_ok (x' : T_weak_line) (p' : T_Arr2_i64) (r : Int) (h : weak_line__direction x' p' = some r) : PureFn Tryz.prog 94 [(.agg 7 (fun j => (D_weak_line nvS x' j))), (.agg 2 (fun j => (D_Arr2_i64 nvS p' j)))] ((WV r)) := by
 obtain ⟨x_l, x_was, x_sos, x_eos, x_dir, x_against, x_pairs⟩ := x'
 obtain ⟨p_x0, p_x1⟩ := p'
 unfold weak_line__direction at h
 try dsimp only at h
 refine fn_tr tt0_ok Tryz.func94 (by kernel_rfl) (c := bodyOf Tryz.f94) (by kernel_rfl) ?_
 intro ctr hc
 refine Wx [] [] [] 0 [] 2 fun N hN => ?_
 generalize hp : std Tryz.prog = p; generalize hv : nvS = nv; cbv; subst hp hv
 subst hN; show Tr _ _ _ _
 refine Tr.cutSeq (α := Bool) h (fun found t' => (WF 65 [(2, .bref 2 (t'.g 2) 0), (3, .bref 3 (t'.g 3) 0), (5, .v (.bool found))] 65 [(2, .box (t'.g 2) [WS nvS x_l, WS nvS x_was, WV x_sos, WV x_eos, WV x_dir, WV x_against, .sl 2 (nvS.len x_pairs) false (fun ix jx => (D_Arr2_i64 nvS (nvS.get d_Arr2_i64 x_pairs ix) jx))]), (3, .box (t'.g 3) [WV p_x0, WV p_x1])] t')) (fun _ t => Hid.ok t) (fun x t' ht' h => ?_) (fun f h => ?_)
 · revert h; revert ht'; revert x; intro found ht' h
   obtain ⟨t'_c, t'_g, t'_t⟩ := t'; obtain ⟨ht'_c, ht'_g⟩ : 0 < t'_c ∧ ∀ k, t'_g k < t'_c := ht'
   refine Wx [] [] [] 0 [] 2 fun N hN => ?_
   generalize hp : std Tryz.prog = p; generalize hv : nvS = nv; cbv; subst hp hv
   refine ⟨fun h17 => ?_, fun h17 => ?_⟩
   · replace h := iteO_t h h17
     subst hN; have hr := Option.some.inj h
     subst hr
     try dsimp only [noGoto, inBlockQ, thenQ]
     repeat (first | refine Wt ?_ | refine We ?_)
     exact retQ_ret rfl trivial rfl
   replace h := iteO_f h h17
   refine ⟨rfl, ?_⟩
   subst hN; show Tr _ _ _ _
   refine Tr.cutSeq (α := Int) h (fun last1 t'1 => (WF 65 [(2, .bref 2 (t'1.g 2) 0), (8, WV last1)] 65 [(2, .box (t'1.g 2) [WS nvS x_l, WS nvS x_was, WV x_sos, WV x_eos, WV x_dir, WV x_against, .sl 2 (nvS.len x_pairs) false (fun ix jx => (D_Arr2_i64 nvS (nvS.get d_Arr2_i64 x_pairs ix) jx))])] t'1)) (fun _ t => Hid.ok t) (fun x t'1 ht'1 h => ?_) (fun f h => ?_)
   · revert h; revert ht'1; revert x; intro last1 ht'1 h
     obtain ⟨t'1_c, t'1_g, t'1_t⟩ := t'1; obtain ⟨ht'1_c, ht'1_g⟩ : 0 < t'1_c ∧ ∀ k, t'1_g k < t'1_c := ht'1
     refine Wc [] [] [] 0 [] fun N hN => ?_
     generalize hp : std Tryz.prog = p; generalize hv : nvS = nv; cbv; subst hp hv
     refine ⟨rfl, ?_⟩
     refine ⟨fun h29 => ?_, fun h29 => ?_⟩
     · replace h := iteO_t h h29
       refine ⟨rfl, ?_⟩
       subst hN; have hr := Option.some.inj h
       subst hr
       try dsimp only [noGoto, inBlockQ, thenQ]
       repeat (first | refine Wt ?_ | refine We ?_)
       exact retQ_ret rfl trivial rfl
     replace h := iteO_f h h29
     refine ⟨rfl, ?_⟩
     subst hN; have hr := Option.some.inj h
     subst hr
     try dsimp only [noGoto, inBlockQ, thenQ]
     repeat (first | refine Wt ?_ | refine We ?_)
     exact retQ_ret rfl trivial rfl
   refine Wx [] [] [] 0 [] 1 fun N hN => ?_
   generalize hp : std Tryz.prog = p; generalize hv : nvS = nv; cbv; subst hp hv
   replace h := chk_some h; obtain ⟨h30, h⟩ := h
   refine ⟨rfl, h30, ?_⟩
   subst hN; show Tr _ _ _ _
   refine Tr.block ?_
   refine Tr.loopO (α := Int) (fun i1 t'2 => (WF 65 [(2, .bref 2 (t'2.g 2) 0), (8, WV x_sos), (9, WV i1)] 65 [(2, .box (t'2.g 2) [WS nvS x_l, WS nvS x_was, WV x_sos, WV x_eos, WV x_dir, WV x_against, .sl 2 (nvS.len x_pairs) false (fun ix jx => (D_Arr2_i64 nvS (nvS.get d_Arr2_i64 x_pairs ix) jx))])] t'2)) (fun _ t => Hid.ok t) ⟨t'_c + 12, gfn [(2, t'_g 2)], tfn [(2, false)]⟩ h ?_ ?_ (fun x t'2 f ht'2 h => ?_)
   · exact Wh
   · exact (Wg (Wk rfl (Wk rfl (Wk rfl trivial))) (Wi rfl trivial))
   revert h; revert ht'2; revert x; intro i1 ht'2 h
   obtain ⟨t'2_c, t'2_g, t'2_t⟩ := t'2; obtain ⟨ht'2_c, ht'2_g⟩ : 0 < t'2_c ∧ ∀ k, t'2_g k < t'2_c := ht'2
   obtain ⟨v, h43⟩ : ∃ v, valO 0 (weak_strong (getL 0 x_l i1)) = v := ⟨_, rfl⟩
   refine Wc [] [(53, .plain (WV v))] [] 0 [] fun N hN => ?_
   generalize hp : std Tryz.prog = p; generalize hv : nvS = nv; cbv; subst hp hv
   refine ⟨fun h41 => ?_, fun h41 => ?_⟩
   · replace h := iteO_t h h41
     replace h := chk_some h; obtain ⟨h42, h⟩ := h
     try (have h42z := h42; simp only [Int.zero_add] at h42z)
     replace h := bindO_val h43 h; clear h43; obtain ⟨h43, h⟩ := h
     refine ⟨rfl, h42, (Or.inl (PureFn.arg (weak_strong_ok (getL 0 x_l i1) v h43) (And.intro (LeD.refl _) trivial))), ?_⟩
     refine ⟨fun h44 => ?_, fun h44 => ?_⟩
     · replace h := iteO_t h h44
       subst hN; cases h
       intro he; cases he
       show ∃ t', _ ∧ GeSt _ _ _
       refine ⟨⟨t'2_c + 13, gfn [(2, t'2_g 2)], tfn [(2, false)]⟩, Wh, ?_⟩
       exact (Wg (Wk rfl (Wk rfl trivial)) (Wi rfl trivial))
     replace h := iteO_f h h44
     replace h := chk_some h; obtain ⟨h45, h⟩ := h
     refine ⟨h45, ?_⟩
     subst hN; cases h
     show ∃ t', _ ∧ GeSt _ _ _
     refine ⟨⟨t'2_c + 13, gfn [(2, t'2_g 2)], tfn [(2, false)]⟩, Wh, ?_⟩
     exact (Wg (Wk rfl (Wk rfl (Wk rfl trivial))) (Wi rfl trivial))
   replace h := iteO_f h h41
   subst hN; cases h
   intro he; cases he
   show ∃ t', _ ∧ GeSt _ _ _
   refine ⟨⟨t'2_c + 10, gfn [(2, t'2_g 2)], tfn [(2, false)]⟩, Wh, ?_⟩
   exact (Wg (Wk rfl (Wk rfl trivial)) (Wi rfl trivial))
 refine Wx [] [] [] 0 [] 1 fun N hN => ?_
 generalize hp : std Tryz.prog = p; generalize hv : nvS = nv; cbv; subst hp hv
 replace h := chk_some h; obtain ⟨h46, h⟩ := h
 replace h := chk_some h; obtain ⟨h47, h⟩ := h
 try (have h47z := h47; simp only [Int.zero_add] at h47z)
 refine ⟨rfl, rfl, h46, rfl, h47, ?_⟩
 subst hN; show Tr _ _ _ _
 refine Tr.block ?_
 refine Tr.loopO (α := Bool × Int) (fun (found1, v1) t'3 => (WF 65 [(2, .bref 2 (t'3.g 2) 0), (3, .bref 3 (t'3.g 3) 0), (5, .v (.bool found1)), (18, .sl 1 (nvS.len (nvS.sub x_l ((std Tryz.prog).add p_x0 1) p_x1)) false (fun ix jx => (.v (.int .i64 (nvS.get 0 (nvS.sub x_l ((std Tryz.prog).add p_x0 1) p_x1) ix))))), (19, .v (.int .i64 ((std Tryz.prog).sub p_x1 ((std Tryz.prog).add p_x0 1)))), (20, WV v1)] 65 [(2, .box (t'3.g 2) [WS nvS x_l, WS nvS x_was, WV x_sos, WV x_eos, WV x_dir, WV x_against, .sl 2 (nvS.len x_pairs) false (fun ix jx => (D_Arr2_i64 nvS (nvS.get d_Arr2_i64 x_pairs ix) jx))]), (3, .box (t'3.g 3) [WV p_x0, WV p_x1])] t'3)) (fun _ t => Hid.ok t) ⟨ctr + 12, gfn [(2, ctr + 0), (3, ctr + 0)], tfn [(2, false), (3, false)]⟩ h ?_ ?_ (fun x t'3 f ht'3 h => ?_)
 · exact Wh
 · exact (Wg (Wk rfl (Wk rfl (Wk rfl (Wq rfl (LeD.slE Wy Wp) (Wk rfl (Wk rfl trivial)))))) (Wi rfl (Wi rfl trivial)))
 obtain ⟨found1, v1⟩ := x
 try dsimp only at h
 obtain ⟨t'3_c, t'3_g, t'3_t⟩ := t'3; obtain ⟨ht'3_c, ht'3_g⟩ : 0 < t'3_c ∧ ∀ k, t'3_g k < t'3_c := ht'3
 obtain ⟨v2, h64⟩ : ∃ v2, valO 0 (weak_strong (getL 0 (subL x_l (p_x0 + 1) p_x1) v1)) = v2 := ⟨_, rfl⟩
 refine Wc [] [(25, .plain (WV v2))] [] 0 [] fun N hN => ?_
 generalize hp : std Tryz.prog = p; generalize hv : nvS = nv; cbv; subst hp hv
 refine ⟨fun h62 => ?_, fun h62 => ?_⟩
 · replace h := iteO_t h h62
   replace h := chk_some h; obtain ⟨h63, h⟩ := h
   try (have h63z := h63; simp only [Int.zero_add] at h63z)
   refine ⟨h63, ?_⟩
   replace h := bindO_val h64 h; clear h64; obtain ⟨h64, h⟩ := h
   refine ⟨(Or.inl (PureFn.arg (weak_strong_ok (getL 0 (subL x_l (p_x0 + 1) p_x1) v1) v2 h64) (And.intro (LeD.refl _) trivial))), ?_⟩
   refine ⟨rfl, ?_⟩
   refine ⟨fun h65 => ?_, fun h65 => ?_⟩
   · replace h := iteO_t h h65
     refine ⟨rfl, ?_⟩
     subst hN; cases h
     intro he; cases he
     intro hr
     subst hr
     try dsimp only [noGoto, inBlockQ, thenQ]
     repeat (first | refine Wt ?_ | refine We ?_)
     exact retQ_ret rfl trivial rfl
   replace h := iteO_f h h65
   refine ⟨rfl, ?_⟩
   refine ⟨fun h66 => ?_, fun h66 => ?_⟩
   · replace h := iteO_t h h66
     replace h := chk_some h; obtain ⟨h67, h⟩ := h
     refine ⟨h67, ?_⟩
     subst hN; cases h
     show ∃ t', _ ∧ GeSt _ _ _
     refine ⟨⟨t'3_c + 16, gfn [(2, t'3_g 2), (3, t'3_g 3)], tfn [(2, false), (3, false)]⟩, Wh, ?_⟩
     exact (Wg (Wk rfl (Wk rfl (Wk rfl (Wk rfl (Wk rfl (Wk rfl trivial)))))) (Wi rfl (Wi rfl trivial)))
   replace h := iteO_f h h66
   replace h := chk_some h; obtain ⟨h68, h⟩ := h
   refine ⟨h68, ?_⟩
   subst hN; cases h
   show ∃ t', _ ∧ GeSt _ _ _
   refine ⟨⟨t'3_c + 15, gfn [(2, t'3_g 2), (3, t'3_g 3)], tfn [(2, false), (3, false)]⟩, Wh, ?_⟩
   exact (Wg (Wk rfl (Wk rfl (Wk rfl (Wk rfl (Wk rfl (Wk rfl trivial)))))) (Wi rfl (Wi rfl trivial)))
 replace h := iteO_f h h62
 subst hN; cases h
 intro he; cases he
 show ∃ t', _ ∧ GeSt _ _ _
 refine ⟨⟨t'3_c + 10, gfn [(2, t'3_g 2), (3, t'3_g 3)], tfn [(2, false), (3, false)]⟩, Wh, ?_⟩
 exact (Wg (Wk rfl (Wk rfl (Wk rfl trivial))) (Wi rfl (Wi rfl trivial)))
end Go.Vx
