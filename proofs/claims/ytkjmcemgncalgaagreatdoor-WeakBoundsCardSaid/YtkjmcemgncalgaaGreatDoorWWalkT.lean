/- Walks, by program (lift.py). -/
import Derived.Test.YtkjmcemgncalgaaGreatDoorWWalk
import Derived.Test.YtkjmcemgncalgaaGreatDoorWWalkW
set_option linter.all false
namespace Go.Vx
open Go.Proofs
set_option maxRecDepth 100000
set_option linter.unusedVariables false
set_option linter.unusedSimpArgs false
theorem slices_Clone___int_int__ok (s:(List Int)) (r:(List Int)) (h:slices_Clone___int_int_ s=some r):PureFn Tryz.prog 28 [(WS nvS s)] (.own 1 (nvS.len r) false (WI nvS r)):=by
 unfold slices_Clone___int_int_ at h
 refine fn_tr tt0_ok Tryz.func28 (by kernel_rfl) (c:=bodyOf Tryz.f28) (by kernel_rfl) ?_
 intro ctr hc
 refine Wx [] [] [] 0 [] 1 fun N hN=>?_
 generalize hp:std Tryz.prog=p;generalize hv:nvS=nv;cbv;subst hp hv
 subst hN;show Tr _ _ _ _
 refine Tr.cutNil (tt:=tt0) tt0_ok (t:=22) rfl rfl (x:=0) (a:=3) (d:=4) (by exact ⟨rfl,rfl,rfl⟩) (by exact ⟨rfl,rfl,rfl⟩) (by exact rfl) (by exact (show (3:Nat) < 8 by decide)) (α:=Unit) h (fun _ t'=>(WF 8 [(0,WS nvS s)] 8 [] t')) (fun _ t=>Hid.ok t) (fun x t' hu h=>?_) (fun h5 f h=>?_) (fun f h=>?_)
 · obtain ⟨uc,ug,ut⟩:=t';obtain ⟨huc,hug⟩:0 < uc∧∀ k,ug k < uc:=hu
   refine Wc [] [] [5,7] 0 [] fun N hN=>?_
   generalize hp:std Tryz.prog=p;generalize hv:nvS=nv;cbv;subst hp hv
   replace h:=chk_some h;obtain ⟨h4,h⟩:=h
   refine ⟨h4,rfl,rfl,?_⟩
   subst hN;have hr:=Option.some.inj h
   subst hr
   try dsimp only [noGoto,inBlockQ,thenQ]
   repeat (first | refine Wt ?_ | refine We ?_)
   exact retQ_ret rfl trivial (And.intro (rfl) (And.intro Wy (And.intro (fun h=>by cases h) (out0_all Wo Wp))))
 · show Tr _ _ _ _
   refine Wc [] [] [] 0 [] fun N hN=>?_
   generalize hp:std Tryz.prog=p;generalize hv:nvS=nv;cbv;subst hp hv
   refine ⟨fun h6=>?_,fun h6=>?_⟩
   · subst hN
     cases h
     intro hr
     subst hr
     try dsimp only [noGoto,inBlockQ,thenQ]
     repeat (first | refine Wt ?_ | refine We ?_)
     exact retQ_ret rfl trivial rfl
   cases h6
 show Tr _ _ _ _
 refine Wc [] [] [] 0 [] fun N hN=>?_
 generalize hp:std Tryz.prog=p;generalize hv:nvS=nv;cbv;subst hp hv
 refine ⟨fun h7=>?_,fun h7=>?_⟩
 · cases h7
 subst hN
 cases h
 exact Exists.intro ⟨ctr+10,gfn [],tfn []⟩ (And.intro Wh (Wg (Wk rfl trivial) trivial))
theorem w1_ok (t':T_weak_text) (r:(List Int)) (h:w1 t'=some r) (t'_N:Int) (ht'_N:lenL t'.fl=t'_N) (tg0:Bool):LentFn Tryz.prog 29 [.agg 2 (fun j=>match j with | 0=>.vec 0 0 1 0 t'_N | 1=>WV t'.fsos | _=>.junk)] [.arr 0 1 t'_N tg0 (WI nvS t'.fl)] [.arr 0 1 t'_N tg0 (WI nvS r)] (.tup 0 (fun _=>.junk)):=by
 obtain rfl:nvS.len t'.fl=t'_N:=ht'_N
 obtain ⟨t_l,t_sos⟩:=t'
 unfold w1 at h
 try dsimp only at h
 refine lent_tr tt0_ok Tryz.func29 (by kernel_rfl) (c:=bodyOf Tryz.f29) (by kernel_rfl) rfl ?_
 intro ctr hc
 refine Wx [] [] [] 1 [] 3 fun N hN=>?_
 generalize hp:std Tryz.prog=p;generalize hv:nvS=nv;cbv;subst hp hv
 refine ⟨rfl,?_⟩
 refine ⟨rfl,?_⟩
 subst hN;show Tr _ _ _ _
 refine Tr.block ?_
 refine Tr.loopO (α:=Int × Int × List Int) (fun (ahead1,v,o) t'1=>(WF 34 [(1,.bref 2 (t'1.g 2) 0),(2,WV ahead1),(8,.vec 0 (0) 1 0 (nvS.len t_l)),(9,WV (nvS.len t_l)),(10,WV v)] 35 [(0,.arr (0) 1 (nvS.len t_l) (tg0) (WI nvS o)),(2,.box (t'1.g 2) [.vec 0 (0) 1 0 (nvS.len t_l),WV t_sos])] t'1)) (fun (ahead1,v,o) t=>Hid.ok t∧lenL o=(lenL t_l)) ⟨ctr+12,gfn [(2,ctr+0)],tfn [(2,false)]⟩ h ?_ ?_ (fun x t'1 f hu1 h=>?_)
 · exact (And.intro Wh Wf)
 · exact (Wg (Wk rfl (Wk rfl (Wk rfl (Wk rfl (Wk rfl trivial))))) (Wi rfl (Wi rfl trivial)))
 obtain ⟨ahead1,v,o⟩:=x
 try dsimp only at h
 obtain ⟨hu1,ht'1_f0⟩:=hu1
 obtain ⟨u1c,u1g,u1t⟩:=t'1;obtain ⟨hu1c,hu1g⟩:0 < u1c∧∀ k,u1g k < u1c:=hu1
 refine Wx [] [] [] 1 [] 2 fun N hN=>?_
 generalize hp:std Tryz.prog=p;generalize hv:nvS=nv;cbv;subst hp hv
 refine ⟨fun h27=>?_,fun h27=>?_⟩
 · replace h:=iteO_t h h27
   subst hN;show Tr _ _ _ _
   refine Tr.cutSeq (α:=Int × List Int) h (fun (ahead2,o1) t'2=>(WF 34 [(1,.bref 2 (t'2.g 2) 0),(2,WV ahead2),(8,.vec 0 (0) 1 0 (nvS.len t_l)),(9,WV (nvS.len t_l)),(10,WV v)] 35 [(0,.arr (0) 1 (nvS.len t_l) (tg0) (WI nvS o1)),(2,.box (t'2.g 2) [.vec 0 (0) 1 0 (nvS.len t_l),WV t_sos])] t'2)) (fun (ahead2,o1) t=>Hid.ok t∧lenL o1=(lenL t_l)) (fun x t'2 hu2 h=>?_) (fun f h=>?_)
   · obtain ⟨ahead2,o1⟩:=x
     try dsimp only at h
     obtain ⟨hu2,ht'2_f0⟩:=hu2
     obtain ⟨u2c,u2g,u2t⟩:=t'2;obtain ⟨hu2c,hu2g⟩:0 < u2c∧∀ k,u2g k < u2c:=hu2
     refine Wc [] [] [] 1 [] fun N hN=>?_
     generalize hp:std Tryz.prog=p;generalize hv:nvS=nv;cbv;subst hp hv
     replace h:=chk_some h;obtain ⟨h39,h⟩:=h
     refine ⟨h39,?_⟩
     subst hN;cases h
     exact Exists.intro ⟨u2c+10,gfn [(2,u2g 2)],tfn [(2,false)]⟩ (And.intro ((And.intro Wh Wf)) (Wg (Wk rfl (Wk rfl (Wk rfl (Wk rfl (Wk rfl trivial))))) (Wi rfl (Wi rfl trivial))))
   refine Tr.block ?_
   refine Wx [] [] [] 1 [] 1 fun N hN=>?_
   generalize hp:std Tryz.prog=p;generalize hv:nvS=nv;cbv;subst hp hv
   replace h:=chk_some h;obtain ⟨h40,h⟩:=h
   try (have h40z:=h40;simp only [Int.zero_add] at h40z)
   refine ⟨h40,rfl,?_⟩
   subst hN;show Tr _ _ _ _
   refine Tr.cutSeq (α:=List Int) h (fun o2 t'3=>(WF 34 [(1,.bref 2 (t'3.g 2) 0),(3,WV v),(8,.vec 0 (0) 1 0 (nvS.len t_l)),(9,WV (nvS.len t_l)),(10,WV v)] 35 [(0,.arr (0) 1 (nvS.len t_l) (tg0) (WI nvS o2)),(2,.box (t'3.g 2) [.vec 0 (0) 1 0 (nvS.len t_l),WV t_sos])] t'3)) (fun o2 t=>Hid.ok t∧lenL o2=(lenL t_l)) (fun x t'3 hu3 h=>?_) (fun f h=>?_)
   · revert h;revert hu3;revert x;intro o2 hu3 h
     obtain ⟨hu3,ht'3_f0⟩:=hu3
     obtain ⟨u3c,u3g,u3t⟩:=t'3;obtain ⟨hu3c,hu3g⟩:0 < u3c∧∀ k,u3g k < u3c:=hu3
     refine Wc [] [] [] 1 [] fun N hN=>?_
     generalize hp:std Tryz.prog=p;generalize hv:nvS=nv;cbv;subst hp hv
     replace h:=chk_some h;obtain ⟨h43,h⟩:=h
     try (have h43z:=h43;simp only [Int.zero_add] at h43z)
     refine ⟨rfl,h43,rfl,?_⟩
     refine ⟨fun h44=>?_,fun h44=>?_⟩
     · replace h:=iteO_t h h44
       refine ⟨fun h45=>?_,fun h45=>?_⟩
       · replace h:=iteO_t h h45
         subst hN;cases h
         exact Exists.intro ⟨u3c+13,gfn [(2,u3g 2)],tfn [(2,false)]⟩ (And.intro ((And.intro Wh Wf)) (Wg (Wk rfl (Wk rfl (Wk rfl (Wk rfl (Wk rfl trivial))))) (Wi rfl (Wi rfl trivial))))
       replace h:=iteO_f h h45
       subst hN;cases h
       exact Exists.intro ⟨u3c+12,gfn [(2,u3g 2)],tfn [(2,false)]⟩ (And.intro ((And.intro Wh Wf)) (Wg (Wk rfl (Wk rfl (Wk rfl (Wk rfl (Wk rfl trivial))))) (Wi rfl (Wi rfl trivial))))
     replace h:=iteO_f h h44
     refine ⟨fun h46=>?_,fun h46=>?_⟩
     · replace h:=iteO_t h h46
       refine ⟨fun h47=>?_,fun h47=>?_⟩
       · replace h:=iteO_t h h47
         subst hN;cases h
         exact Exists.intro ⟨u3c+14,gfn [(2,u3g 2)],tfn [(2,false)]⟩ (And.intro ((And.intro Wh Wf)) (Wg (Wk rfl (Wk rfl (Wk rfl (Wk rfl (Wk rfl trivial))))) (Wi rfl (Wi rfl trivial))))
       replace h:=iteO_f h h47
       subst hN;cases h
       exact Exists.intro ⟨u3c+13,gfn [(2,u3g 2)],tfn [(2,false)]⟩ (And.intro ((And.intro Wh Wf)) (Wg (Wk rfl (Wk rfl (Wk rfl (Wk rfl (Wk rfl trivial))))) (Wi rfl (Wi rfl trivial))))
     replace h:=iteO_f h h46
     refine ⟨fun h48=>?_,fun h48=>?_⟩
     · replace h:=iteO_t h h48
       refine ⟨fun h49=>?_,fun h49=>?_⟩
       · replace h:=iteO_t h h49
         subst hN;cases h
         exact Exists.intro ⟨u3c+15,gfn [(2,u3g 2)],tfn [(2,false)]⟩ (And.intro ((And.intro Wh Wf)) (Wg (Wk rfl (Wk rfl (Wk rfl (Wk rfl (Wk rfl trivial))))) (Wi rfl (Wi rfl trivial))))
       replace h:=iteO_f h h49
       subst hN;cases h
       exact Exists.intro ⟨u3c+14,gfn [(2,u3g 2)],tfn [(2,false)]⟩ (And.intro ((And.intro Wh Wf)) (Wg (Wk rfl (Wk rfl (Wk rfl (Wk rfl (Wk rfl trivial))))) (Wi rfl (Wi rfl trivial))))
     replace h:=iteO_f h h48
     refine ⟨fun h50=>?_,fun h50=>?_⟩
     · replace h:=iteO_t h h50
       subst hN;cases h
       exact Exists.intro ⟨u3c+16,gfn [(2,u3g 2)],tfn [(2,false)]⟩ (And.intro ((And.intro Wh Wf)) (Wg (Wk rfl (Wk rfl (Wk rfl (Wk rfl (Wk rfl trivial))))) (Wi rfl (Wi rfl trivial))))
     replace h:=iteO_f h h50
     subst hN;cases h
     exact Exists.intro ⟨u3c+15,gfn [(2,u3g 2)],tfn [(2,false)]⟩ (And.intro ((And.intro Wh Wf)) (Wg (Wk rfl (Wk rfl (Wk rfl (Wk rfl (Wk rfl trivial))))) (Wi rfl (Wi rfl trivial))))
   refine Wc [] [] [] 1 [] fun N hN=>?_
   generalize hp:std Tryz.prog=p;generalize hv:nvS=nv;cbv;subst hp hv
   refine ⟨fun h51=>?_,fun h51=>?_⟩
   · replace h:=iteO_t h h51
     replace h:=chk_some h;obtain ⟨h52,h⟩:=h
     try (have h52z:=h52;simp only [Int.zero_add] at h52z)
     refine ⟨rfl,h52,rfl,?_⟩
     subst hN;cases h
     exact Exists.intro ⟨u1c+13,gfn [(2,u1g 2)],tfn [(2,false)]⟩ (And.intro ((And.intro Wh Wf)) (Wg (Wk rfl (Wk rfl (Wk rfl (Wk rfl (Wk rfl trivial))))) (Wa rfl (Wi rfl trivial))))
   replace h:=iteO_f h h51
   subst hN;cases h
   exact Exists.intro ⟨u1c+12,gfn [(2,u1g 2)],tfn [(2,false)]⟩ (And.intro ((And.intro Wh Wf)) (Wg (Wk rfl (Wk rfl (Wk rfl (Wk rfl (Wk rfl trivial))))) (Wi rfl (Wi rfl trivial))))
 replace h:=iteO_f h h27
 subst hN;cases h
 intro hr
 subst hr
 try dsimp only [noGoto,inBlockQ,thenQ]
 repeat (first | refine Wt ?_ | refine We ?_)
 refine lentQ_normal rfl ?_ ?_ [.top] ?_
 · exact trivial
 · exact trivial
 exact (And.intro (rfl) (And.intro (rfl) (And.intro (And.intro (rfl) (And.intro (rfl) (And.intro Wy (And.intro (rfl) (out0_all Wo Wp))))) trivial)))
theorem w2_ok (t':T_weak_text) (r:(List Int)) (h:w2 t'=some r) (t'_N:Int) (ht'_N:lenL t'.fl=t'_N) (tg0:Bool):LentFn Tryz.prog 30 [.agg 2 (fun j=>match j with | 0=>.vec 0 0 1 0 t'_N | 1=>WV t'.fsos | _=>.junk)] [.arr 0 1 t'_N tg0 (WI nvS t'.fl)] [.arr 0 1 t'_N tg0 (WI nvS r)] (.tup 0 (fun _=>.junk)):=by
 obtain rfl:nvS.len t'.fl=t'_N:=ht'_N
 obtain ⟨t_l,t_sos⟩:=t'
 unfold w2 at h
 try dsimp only at h
 refine lent_tr tt0_ok Tryz.func30 (by kernel_rfl) (c:=bodyOf Tryz.f30) (by kernel_rfl) rfl ?_
 intro ctr hc
 refine Wx [] [] [] 1 [] 3 fun N hN=>?_
 generalize hp:std Tryz.prog=p;generalize hv:nvS=nv;cbv;subst hp hv
 refine ⟨rfl,?_⟩
 refine ⟨rfl,?_⟩
 subst hN;show Tr _ _ _ _
 refine Tr.block ?_
 refine Tr.loopO (α:=Int × Int × List Int) (fun (last1,v,o) t'1=>(WF 30 [(1,.bref 2 (t'1.g 2) 0),(2,WV last1),(8,.vec 0 (0) 1 0 (nvS.len t_l)),(9,WV (nvS.len t_l)),(10,WV v)] 31 [(0,.arr (0) 1 (nvS.len t_l) (tg0) (WI nvS o)),(2,.box (t'1.g 2) [.vec 0 (0) 1 0 (nvS.len t_l),WV t_sos])] t'1)) (fun (last1,v,o) t=>Hid.ok t∧lenL o=(lenL t_l)) ⟨ctr+12,gfn [(2,ctr+0)],tfn [(2,false)]⟩ h ?_ ?_ (fun x t'1 f hu1 h=>?_)
 · exact (And.intro Wh Wf)
 · exact (Wg (Wk rfl (Wk rfl (Wk rfl (Wk rfl (Wk rfl trivial))))) (Wi rfl (Wi rfl trivial)))
 obtain ⟨last1,v,o⟩:=x
 try dsimp only at h
 obtain ⟨hu1,ht'1_f0⟩:=hu1
 obtain ⟨u1c,u1g,u1t⟩:=t'1;obtain ⟨hu1c,hu1g⟩:0 < u1c∧∀ k,u1g k < u1c:=hu1
 refine Wx [] [] [] 1 [] 2 fun N hN=>?_
 generalize hp:std Tryz.prog=p;generalize hv:nvS=nv;cbv;subst hp hv
 refine ⟨fun h19=>?_,fun h19=>?_⟩
 · replace h:=iteO_t h h19
   subst hN;show Tr _ _ _ _
   refine Tr.cutSeq (α:=Int × List Int) h (fun (last2,o1) t'2=>(WF 30 [(1,.bref 2 (t'2.g 2) 0),(2,WV last2),(8,.vec 0 (0) 1 0 (nvS.len t_l)),(9,WV (nvS.len t_l)),(10,WV v)] 31 [(0,.arr (0) 1 (nvS.len t_l) (tg0) (WI nvS o1)),(2,.box (t'2.g 2) [.vec 0 (0) 1 0 (nvS.len t_l),WV t_sos])] t'2)) (fun (last2,o1) t=>Hid.ok t∧lenL o1=(lenL t_l)) (fun x t'2 hu2 h=>?_) (fun f h=>?_)
   · obtain ⟨last2,o1⟩:=x
     try dsimp only at h
     obtain ⟨hu2,ht'2_f0⟩:=hu2
     obtain ⟨u2c,u2g,u2t⟩:=t'2;obtain ⟨hu2c,hu2g⟩:0 < u2c∧∀ k,u2g k < u2c:=hu2
     refine Wc [] [] [] 1 [] fun N hN=>?_
     generalize hp:std Tryz.prog=p;generalize hv:nvS=nv;cbv;subst hp hv
     replace h:=chk_some h;obtain ⟨h27,h⟩:=h
     refine ⟨h27,?_⟩
     subst hN;cases h
     exact Exists.intro ⟨u2c+10,gfn [(2,u2g 2)],tfn [(2,false)]⟩ (And.intro ((And.intro Wh Wf)) (Wg (Wk rfl (Wk rfl (Wk rfl (Wk rfl (Wk rfl trivial))))) (Wi rfl (Wi rfl trivial))))
   refine Tr.block ?_
   refine Wx [] [] [] 1 [] 2 fun N hN=>?_
   generalize hp:std Tryz.prog=p;generalize hv:nvS=nv;cbv;subst hp hv
   replace h:=chk_some h;obtain ⟨h28,h⟩:=h
   try (have h28z:=h28;simp only [Int.zero_add] at h28z)
   refine ⟨h28,rfl,?_⟩
   subst hN;show Tr _ _ _ _
   refine Tr.block ?_
   refine Tr.cutSeq (α:=Bool) h (fun v1 t'3=>(WF 30 [(1,.bref 2 (t'3.g 2) 0),(2,WV last1),(3,WV v),(4,WV (nvS.get 0 o ((std Tryz.prog).add 0 v))),(8,.vec 0 (0) 1 0 (nvS.len t_l)),(9,WV (nvS.len t_l)),(10,WV v),(15,WV (nvS.get 0 o ((std Tryz.prog).add 0 v))),(16,.v (.bool v1))] 31 [(0,.arr (0) 1 (nvS.len t_l) (tg0) (WI nvS o)),(2,.box (t'3.g 2) [.vec 0 (0) 1 0 (nvS.len t_l),WV t_sos])] t'3)) (fun _ t=>Hid.ok t) (fun x t'3 hu3 h=>?_) (fun f h=>?_)
   · revert h;revert hu3;revert x;intro v1 hu3 h
     obtain ⟨u3c,u3g,u3t⟩:=t'3;obtain ⟨hu3c,hu3g⟩:0 < u3c∧∀ k,u3g k < u3c:=hu3
     refine Wc [] [] [] 1 [] fun N hN=>?_
     generalize hp:std Tryz.prog=p;generalize hv:nvS=nv;cbv;subst hp hv
     refine ⟨fun h31=>?_,fun h31=>?_⟩
     · replace h:=iteO_t h h31
       subst hN;cases h
       exact Exists.intro ⟨u3c+10,gfn [(2,u3g 2)],tfn [(2,false)]⟩ (And.intro ((And.intro Wh Wf)) (Wg (Wk rfl (Wk rfl (Wk rfl (Wk rfl (Wk rfl trivial))))) (Wi rfl (Wi rfl trivial))))
     replace h:=iteO_f h h31
     refine ⟨fun h32=>?_,fun h32=>?_⟩
     · replace h:=iteO_t h h32
       refine ⟨fun h33=>?_,fun h33=>?_⟩
       · replace h:=iteO_t h h33
         replace h:=chk_some h;obtain ⟨h34,h⟩:=h
         try (have h34z:=h34;simp only [Int.zero_add] at h34z)
         refine ⟨rfl,h34,rfl,?_⟩
         subst hN;cases h
         exact Exists.intro ⟨u3c+12,gfn [(2,u3g 2)],tfn [(2,false)]⟩ (And.intro ((And.intro Wh Wf)) (Wg (Wk rfl (Wk rfl (Wk rfl (Wk rfl (Wk rfl trivial))))) (Wa rfl (Wi rfl trivial))))
       replace h:=iteO_f h h33
       subst hN;cases h
       exact Exists.intro ⟨u3c+11,gfn [(2,u3g 2)],tfn [(2,false)]⟩ (And.intro ((And.intro Wh Wf)) (Wg (Wk rfl (Wk rfl (Wk rfl (Wk rfl (Wk rfl trivial))))) (Wi rfl (Wi rfl trivial))))
     replace h:=iteO_f h h32
     subst hN;cases h
     exact Exists.intro ⟨u3c+10,gfn [(2,u3g 2)],tfn [(2,false)]⟩ (And.intro ((And.intro Wh Wf)) (Wg (Wk rfl (Wk rfl (Wk rfl (Wk rfl (Wk rfl trivial))))) (Wi rfl (Wi rfl trivial))))
   refine Wc [] [] [] 1 [] fun N hN=>?_
   generalize hp:std Tryz.prog=p;generalize hv:nvS=nv;cbv;subst hp hv
   refine ⟨fun h35=>?_,fun h35=>?_⟩
   · replace h:=iteO_t h h35
     subst hN;cases h
     exact Exists.intro ⟨u1c+13,gfn [(2,u1g 2)],tfn [(2,false)]⟩ (And.intro Wh (Wg (Wk rfl (Wk rfl (Wk rfl (Wk rfl (Wk rfl (Wk rfl (Wk rfl (Wk rfl (Wk rfl trivial))))))))) (Wi rfl (Wi rfl trivial))))
   replace h:=iteO_f h h35
   refine ⟨fun h36=>?_,fun h36=>?_⟩
   · replace h:=iteO_t h h36
     subst hN;cases h
     exact Exists.intro ⟨u1c+14,gfn [(2,u1g 2)],tfn [(2,false)]⟩ (And.intro Wh (Wg (Wk rfl (Wk rfl (Wk rfl (Wk rfl (Wk rfl (Wk rfl (Wk rfl (Wk rfl (Wk rfl trivial))))))))) (Wi rfl (Wi rfl trivial))))
   replace h:=iteO_f h h36
   subst hN;cases h
   exact Exists.intro ⟨u1c+15,gfn [(2,u1g 2)],tfn [(2,false)]⟩ (And.intro Wh (Wg (Wk rfl (Wk rfl (Wk rfl (Wk rfl (Wk rfl (Wk rfl (Wk rfl (Wk rfl (Wk rfl trivial))))))))) (Wi rfl (Wi rfl trivial))))
 replace h:=iteO_f h h19
 subst hN;cases h
 intro hr
 subst hr
 try dsimp only [noGoto,inBlockQ,thenQ]
 repeat (first | refine Wt ?_ | refine We ?_)
 refine lentQ_normal rfl ?_ ?_ [.top] ?_
 · exact trivial
 · exact trivial
 exact (And.intro (rfl) (And.intro (rfl) (And.intro (And.intro (rfl) (And.intro (rfl) (And.intro Wy (And.intro (rfl) (out0_all Wo Wp))))) trivial)))
theorem w3_ok (t':T_weak_text) (r:(List Int)) (h:w3 t'=some r) (t'_N:Int) (ht'_N:lenL t'.fl=t'_N) (tg0:Bool):LentFn Tryz.prog 31 [.agg 2 (fun j=>match j with | 0=>.vec 0 0 1 0 t'_N | 1=>WV t'.fsos | _=>.junk)] [.arr 0 1 t'_N tg0 (WI nvS t'.fl)] [.arr 0 1 t'_N tg0 (WI nvS r)] (.tup 0 (fun _=>.junk)):=by
 obtain rfl:nvS.len t'.fl=t'_N:=ht'_N
 obtain ⟨t_l,t_sos⟩:=t'
 unfold w3 at h
 try dsimp only at h
 refine lent_tr tt0_ok Tryz.func31 (by kernel_rfl) (c:=bodyOf Tryz.f31) (by kernel_rfl) rfl ?_
 intro ctr hc
 refine Wx [] [] [] 1 [] 2 fun N hN=>?_
 generalize hp:std Tryz.prog=p;generalize hv:nvS=nv;cbv;subst hp hv
 refine ⟨rfl,?_⟩
 subst hN;show Tr _ _ _ _
 refine Tr.block ?_
 refine Tr.loopO (α:=Int × List Int) (fun (v,o) t'1=>(WF 19 [(1,.bref 2 (t'1.g 2) 0),(5,.vec 0 (0) 1 0 (nvS.len t_l)),(6,WV (nvS.len t_l)),(7,WV v)] 20 [(0,.arr (0) 1 (nvS.len t_l) (tg0) (WI nvS o)),(2,.box (t'1.g 2) [.vec 0 (0) 1 0 (nvS.len t_l),WV t_sos])] t'1)) (fun (v,o) t=>Hid.ok t∧lenL o=(lenL t_l)) ⟨ctr+11,gfn [(2,ctr+0)],tfn [(2,false)]⟩ h ?_ ?_ (fun x t'1 f hu1 h=>?_)
 · exact (And.intro Wh Wf)
 · exact (Wg (Wk rfl (Wk rfl (Wk rfl (Wk rfl trivial)))) (Wi rfl (Wi rfl trivial)))
 obtain ⟨v,o⟩:=x
 try dsimp only at h
 obtain ⟨hu1,ht'1_f0⟩:=hu1
 obtain ⟨u1c,u1g,u1t⟩:=t'1;obtain ⟨hu1c,hu1g⟩:0 < u1c∧∀ k,u1g k < u1c:=hu1
 refine Wc [] [] [] 1 [] fun N hN=>?_
 generalize hp:std Tryz.prog=p;generalize hv:nvS=nv;cbv;subst hp hv
 refine ⟨fun h13=>?_,fun h13=>?_⟩
 · replace h:=iteO_t h h13
   replace h:=chk_some h;obtain ⟨h14,h⟩:=h
   try (have h14z:=h14;simp only [Int.zero_add] at h14z)
   refine ⟨h14,rfl,?_⟩
   refine ⟨fun h15=>?_,fun h15=>?_⟩
   · replace h:=iteO_t h h15
     replace h:=chk_some h;obtain ⟨h16,h⟩:=h
     try (have h16z:=h16;simp only [Int.zero_add] at h16z)
     refine ⟨rfl,h16,rfl,?_⟩
     replace h:=chk_some h;obtain ⟨h17,h⟩:=h
     refine ⟨h17,?_⟩
     subst hN;cases h
     exact Exists.intro ⟨u1c+14,gfn [(2,u1g 2)],tfn [(2,false)]⟩ (And.intro ((And.intro Wh Wf)) (Wg (Wk rfl (Wk rfl (Wk rfl (Wk rfl trivial)))) (Wa rfl (Wi rfl trivial))))
   replace h:=iteO_f h h15
   replace h:=chk_some h;obtain ⟨h18,h⟩:=h
   refine ⟨h18,?_⟩
   subst hN;cases h
   exact Exists.intro ⟨u1c+13,gfn [(2,u1g 2)],tfn [(2,false)]⟩ (And.intro ((And.intro Wh Wf)) (Wg (Wk rfl (Wk rfl (Wk rfl (Wk rfl trivial)))) (Wi rfl (Wi rfl trivial))))
 replace h:=iteO_f h h13
 subst hN;cases h
 intro hr
 subst hr
 try dsimp only [noGoto,inBlockQ,thenQ]
 repeat (first | refine Wt ?_ | refine We ?_)
 refine lentQ_normal rfl ?_ ?_ [.top] ?_
 · exact trivial
 · exact trivial
 exact (And.intro (rfl) (And.intro (rfl) (And.intro (And.intro (rfl) (And.intro (rfl) (And.intro Wy (And.intro (rfl) (out0_all Wo Wp))))) trivial)))
theorem w4_ok (t':T_weak_text) (r:(List Int)) (h:w4 t'=some r) (t'_N:Int) (ht'_N:lenL t'.fl=t'_N) (tg0:Bool):LentFn Tryz.prog 32 [.agg 2 (fun j=>match j with | 0=>.vec 0 0 1 0 t'_N | 1=>WV t'.fsos | _=>.junk)] [.arr 0 1 t'_N tg0 (WI nvS t'.fl)] [.arr 0 1 t'_N tg0 (WI nvS r)] (.tup 0 (fun _=>.junk)):=by
 obtain rfl:nvS.len t'.fl=t'_N:=ht'_N
 obtain ⟨t_l,t_sos⟩:=t'
 unfold w4 at h
 try dsimp only at h
 refine lent_tr tt0_ok Tryz.func32 (by kernel_rfl) (c:=bodyOf Tryz.f32) (by kernel_rfl) rfl ?_
 intro ctr hc
 refine Wx [] [] [] 1 [] 2 fun N hN=>?_
 generalize hp:std Tryz.prog=p;generalize hv:nvS=nv;cbv;subst hp hv
 refine ⟨rfl,?_⟩
 subst hN;show Tr _ _ _ _
 refine Tr.block ?_
 refine Tr.loopO (α:=Int × List Int) (fun (v,o) t'1=>(WF 47 [(1,.bref 2 (t'1.g 2) 0),(6,.vec 0 (0) 1 0 (nvS.len t_l)),(7,WV (nvS.len t_l)),(8,WV v)] 48 [(0,.arr (0) 1 (nvS.len t_l) (tg0) (WI nvS o)),(2,.box (t'1.g 2) [.vec 0 (0) 1 0 (nvS.len t_l),WV t_sos])] t'1)) (fun (v,o) t=>Hid.ok t∧lenL o=(lenL t_l)) ⟨ctr+11,gfn [(2,ctr+0)],tfn [(2,false)]⟩ h ?_ ?_ (fun x t'1 f hu1 h=>?_)
 · exact (And.intro Wh Wf)
 · exact (Wg (Wk rfl (Wk rfl (Wk rfl (Wk rfl trivial)))) (Wi rfl (Wi rfl trivial)))
 obtain ⟨v,o⟩:=x
 try dsimp only at h
 obtain ⟨hu1,ht'1_f0⟩:=hu1
 obtain ⟨u1c,u1g,u1t⟩:=t'1;obtain ⟨hu1c,hu1g⟩:0 < u1c∧∀ k,u1g k < u1c:=hu1
 obtain ⟨v1,h28⟩ : ∃ v1,valO 0 (weak_text__at (T_weak_text.mk o t_sos) (v-1))=v1:=⟨_,rfl⟩
 obtain ⟨v2,h30⟩ : ∃ v2,valO 0 (weak_text__at (T_weak_text.mk o t_sos) (v+1))=v2:=⟨_,rfl⟩
 refine Wc [(49,4)] [(17,.plain (WV v1)),(22,.plain (WV v2))] [] 1 [] fun N hN=>?_
 generalize hp:std Tryz.prog=p;generalize hv:nvS=nv;cbv;subst hp hv
 refine ⟨fun h25=>?_,fun h25=>?_⟩
 · replace h:=iteO_t h h25
   replace h:=chk_some h;obtain ⟨h26,h⟩:=h
   try (have h26z:=h26;simp only [Int.zero_add] at h26z)
   refine ⟨h26,rfl,?_⟩
   replace h:=chk_some h;obtain ⟨h27,h⟩:=h
   replace h:=bindO_val h28 h;clear h28;obtain ⟨h28,h⟩:=h
   refine ⟨rfl,h27,rfl,(PureFn.arg (weak_text__at_ok (T_weak_text.mk o t_sos) (v-1) v1 h28) (And.intro (LeD.agg fun j hj=>by
    have hj2:j < 2:=hj
    rcases (show j=0∨j=1 by omega) with rfl | rfl
    · exact LeD.slE Wy Wp
    exact LeD.refl _) (And.intro (LeD.refl _) trivial))),?_⟩
   replace h:=chk_some h;obtain ⟨h29,h⟩:=h
   replace h:=bindO_val h30 h;clear h30;obtain ⟨h30,h⟩:=h
   refine ⟨rfl,h29,rfl,(PureFn.arg (weak_text__at_ok (T_weak_text.mk o t_sos) (v+1) v2 h30) (And.intro (LeD.agg fun j hj=>by
    have hj2:j < 2:=hj
    rcases (show j=0∨j=1 by omega) with rfl | rfl
    · exact LeD.slE Wy Wp
    exact LeD.refl _) (And.intro (LeD.refl _) trivial))),?_⟩
   refine ⟨fun h31=>?_,fun h31=>?_⟩
   · replace h:=iteO_t h h31
     replace h:=chk_some h;obtain ⟨h32,h⟩:=h
     refine ⟨h32,?_⟩
     subst hN;cases h
     exact Exists.intro ⟨u1c+14,gfn [(2,u1g 2)],tfn [(2,false)]⟩ (And.intro ((And.intro Wh Wf)) (Wg (Wk rfl (Wk rfl (Wk rfl (Wk rfl trivial)))) (Wi rfl (Wi rfl trivial))))
   replace h:=iteO_f h h31
   refine ⟨(fun hg=>hg),(fun hg=>hg),(fun hg=>hg),(fun hg=>hg),(fun hg0=>(fun hg=>(and_t hg0 (and_t hg0 hg)))),(fun hg=>hg),(fun hg=>hg),(fun hg=>hg),(fun hg=>hg),(fun hg=>hg),(fun hg0=>(fun hg=>(and_t hg0 (and_t hg0 hg)))),(fun hg=>hg),?_⟩
   refine ⟨fun h33=>?_,fun h33=>?_⟩
   · replace h:=iteO_t h h33
     replace h:=chk_some h;obtain ⟨h34,h⟩:=h
     try (have h34z:=h34;simp only [Int.zero_add] at h34z)
     refine ⟨rfl,h34,rfl,?_⟩
     replace h:=chk_some h;obtain ⟨h35,h⟩:=h
     refine ⟨h35,?_⟩
     subst hN;cases h
     exact Exists.intro ⟨u1c+16,gfn [(2,u1g 2)],tfn [(2,false)]⟩ (And.intro ((And.intro Wh Wf)) (Wg (Wk rfl (Wk rfl (Wk rfl (Wk rfl trivial)))) (Wa rfl (Wi rfl trivial))))
   replace h:=iteO_f h h33
   replace h:=chk_some h;obtain ⟨h36,h⟩:=h
   refine ⟨h36,?_⟩
   subst hN;cases h
   exact Exists.intro ⟨u1c+15,gfn [(2,u1g 2)],tfn [(2,false)]⟩ (And.intro ((And.intro Wh Wf)) (Wg (Wk rfl (Wk rfl (Wk rfl (Wk rfl trivial)))) (Wi rfl (Wi rfl trivial))))
 replace h:=iteO_f h h25
 subst hN;cases h
 intro hr
 subst hr
 try dsimp only [noGoto,inBlockQ,thenQ]
 repeat (first | refine Wt ?_ | refine We ?_)
 refine lentQ_normal rfl ?_ ?_ [.top] ?_
 · exact trivial
 · exact trivial
 exact (And.intro (rfl) (And.intro (rfl) (And.intro (And.intro (rfl) (And.intro (rfl) (And.intro Wy (And.intro (rfl) (out0_all Wo Wp))))) trivial)))
theorem w5_ok (t':T_weak_text) (r:(List Int)) (h:w5 t'=some r) (t'_N:Int) (ht'_N:lenL t'.fl=t'_N) (tg0:Bool):LentFn Tryz.prog 33 [.agg 2 (fun j=>match j with | 0=>.vec 0 0 1 0 t'_N | 1=>WV t'.fsos | _=>.junk)] [.arr 0 1 t'_N tg0 (WI nvS t'.fl)] [.arr 0 1 t'_N tg0 (WI nvS r)] (.tup 0 (fun _=>.junk)):=by
 obtain rfl:nvS.len t'.fl=t'_N:=ht'_N
 obtain ⟨t_l,t_sos⟩:=t'
 unfold w5 at h
 try dsimp only at h
 refine lent_tr tt0_ok Tryz.func33 (by kernel_rfl) (c:=bodyOf Tryz.f33) (by kernel_rfl) rfl ?_
 intro ctr hc
 refine Wx [] [] [] 1 [] 2 fun N hN=>?_
 generalize hp:std Tryz.prog=p;generalize hv:nvS=nv;cbv;subst hp hv
 subst hN;show Tr _ _ _ _
 refine Tr.block ?_
 refine Tr.loopO (α:=Int × List Int) (fun (i,o) t'1=>(WF 47 [(1,.bref 2 (t'1.g 2) 0),(2,WV i)] 48 [(0,.arr (0) 1 (nvS.len t_l) (tg0) (WI nvS o)),(2,.box (t'1.g 2) [.vec 0 (0) 1 0 (nvS.len t_l),WV t_sos])] t'1)) (fun (i,o) t=>Hid.ok t∧lenL o=(lenL t_l)) ⟨ctr+11,gfn [(2,ctr+0)],tfn [(2,false)]⟩ h ?_ ?_ (fun x t'1 f hu1 h=>?_)
 · exact (And.intro Wh Wf)
 · exact (Wg (Wk rfl (Wk rfl trivial)) (Wi rfl (Wi rfl trivial)))
 obtain ⟨i,o⟩:=x
 try dsimp only at h
 obtain ⟨hu1,ht'1_f0⟩:=hu1
 obtain ⟨u1c,u1g,u1t⟩:=t'1;obtain ⟨hu1c,hu1g⟩:0 < u1c∧∀ k,u1g k < u1c:=hu1
 refine Wx [] [] [] 1 [] 1 fun N hN=>?_
 generalize hp:std Tryz.prog=p;generalize hv:nvS=nv;cbv;subst hp hv
 refine ⟨rfl,?_⟩
 refine ⟨fun h41=>?_,fun h41=>?_⟩
 · replace h:=iteO_t h h41
   subst hN;show Tr _ _ _ _
   refine Tr.block ?_
   refine Wx [] [] [] 1 [] 2 fun N hN=>?_
   generalize hp:std Tryz.prog=p;generalize hv:nvS=nv;cbv;subst hp hv
   replace h:=chk_some h;obtain ⟨h42,h⟩:=h
   try (have h42z:=h42;simp only [Int.zero_add] at h42z)
   refine ⟨rfl,h42,rfl,?_⟩
   refine ⟨fun h43=>?_,fun h43=>?_⟩
   · replace h:=iteO_t h h43
     replace h:=chk_some h;obtain ⟨h44,h⟩:=h
     refine ⟨h44,?_⟩
     subst hN;cases h
     exact Exists.intro ⟨u1c+12,gfn [(2,u1g 2)],tfn [(2,false)]⟩ (And.intro ((And.intro Wh Wf)) (Wg (Wk rfl (Wk rfl trivial)) (Wi rfl (Wi rfl trivial))))
   replace h:=iteO_f h h43
   subst hN;show Tr _ _ _ _
   refine Tr.cutSeq (α:=Int) h (fun end' t'2=>(WF 47 [(1,.bref 2 (t'2.g 2) 0),(2,WV i),(3,WV end')] 48 [(0,.arr (0) 1 (nvS.len t_l) (tg0) (WI nvS o)),(2,.box (t'2.g 2) [.vec 0 (0) 1 0 (nvS.len t_l),WV t_sos])] t'2)) (fun _ t=>Hid.ok t) (fun x t'2 hu2 h=>?_) (fun f h=>?_)
   · revert h;revert hu2;revert x;intro end' hu2 h
     obtain ⟨u2c,u2g,u2t⟩:=t'2;obtain ⟨hu2c,hu2g⟩:0 < u2c∧∀ k,u2g k < u2c:=hu2
     refine Tr.cutSeq (α:=List Int) h (fun o1 t'3=>(WF 47 [(1,.bref 2 (t'3.g 2) 0),(3,WV end')] 48 [(0,.arr (0) 1 (nvS.len t_l) (tg0) (WI nvS o1)),(2,.box (t'3.g 2) [.vec 0 (0) 1 0 (nvS.len t_l),WV t_sos])] t'3)) (fun o1 t=>Hid.ok t∧lenL o1=(lenL t_l)) (fun x t'3 hu3 h=>?_) (fun f h=>?_)
     · revert h;revert hu3;revert x;intro o1 hu3 h
       obtain ⟨hu3,ht'3_f0⟩:=hu3
       obtain ⟨u3c,u3g,u3t⟩:=t'3;obtain ⟨hu3c,hu3g⟩:0 < u3c∧∀ k,u3g k < u3c:=hu3
       refine Wc [] [] [] 1 [] fun N hN=>?_
       generalize hp:std Tryz.prog=p;generalize hv:nvS=nv;cbv;subst hp hv
       subst hN;cases h
       exact Exists.intro ⟨u3c+10,gfn [(2,u3g 2)],tfn [(2,false)]⟩ (And.intro ((And.intro Wh Wf)) (Wg (Wk rfl (Wk rfl trivial)) (Wi rfl (Wi rfl trivial))))
     obtain ⟨v,h62⟩ : ∃ v,valO 0 (weak_text__at (T_weak_text.mk o t_sos) (i-1))=v:=⟨_,rfl⟩
     obtain ⟨v1,h63⟩ : ∃ v1,valO 0 (if (!(v == 4))=true then weak_text__at (T_weak_text.mk o t_sos) end' else some 0)=v1:=⟨_,rfl⟩
     refine Wx [(49,4)] [(29,.plain (WV v)),(34,.plain (WV v1))] [] 1 [] 1 fun N hN=>?_
     generalize hp:std Tryz.prog=p;generalize hv:nvS=nv;cbv;subst hp hv
     replace h:=chk_some h;obtain ⟨h61,h⟩:=h
     replace h:=bindO_val h62 h;clear h62;obtain ⟨h62,h⟩:=h
     replace h:=bindO_val h63 h;clear h63;obtain ⟨h63,h⟩:=h
     refine ⟨rfl,h61,rfl,(PureFn.arg (weak_text__at_ok (T_weak_text.mk o t_sos) (i-1) v h62) (And.intro (LeD.agg fun j hj=>by
      have hj2:j < 2:=hj
      rcases (show j=0∨j=1 by omega) with rfl | rfl
      · exact LeD.slE Wy Wp
      · exact LeD.refl _) (And.intro (LeD.refl _) trivial))),(fun _=>rfl),(fun hg=>hg),(fun hg=>hg),(fun _=>rfl),(fun _=>trivial),(fun hg=>by have h63:=guardO h63 hg;exact (PureFn.arg (weak_text__at_ok (T_weak_text.mk o t_sos) end' v1 h63) (And.intro (LeD.agg fun j hj=>by
      have hj2:j < 2:=hj
      rcases (show j=0∨j=1 by omega) with rfl | rfl
      · exact LeD.slE Wy Wp
      exact LeD.refl _) (And.intro (LeD.refl _) trivial)))),(fun hg=>hg),(fun hg=>hg),?_⟩
     subst hN;show Tr _ _ _ _
     refine Tr.cond rfl (fun q hq=>by cases hq) (fun h64=>?_) (fun h64=>?_)
     · replace h:=iteO_t h h64
       refine Wx [] [] [] 1 [] 1 fun N hN=>?_
       generalize hp:std Tryz.prog=p;generalize hv:nvS=nv;cbv;subst hp hv
       subst hN;show Tr _ _ _ _
       refine Tr.block ?_
       refine Tr.loopO (α:=Int × List Int) (fun (j,o2) t'4=>(WF 47 [(1,.bref 2 (t'4.g 2) 0),(3,WV end'),(4,WV j)] 48 [(0,.arr (0) 1 (nvS.len t_l) (tg0) (WI nvS o2)),(2,.box (t'4.g 2) [.vec 0 (0) 1 0 (nvS.len t_l),WV t_sos])] t'4)) (fun (j,o2) t=>Hid.ok t∧lenL o2=(lenL t_l)) ⟨u2c+11,gfn [(2,u2g 2)],tfn [(2,false)]⟩ h ?_ ?_ (fun x t'4 f hu4 h=>?_)
       · exact (And.intro Wh Wf)
       · exact (Wg (Wk rfl (Wk rfl (Wk rfl trivial))) (Wi rfl (Wi rfl trivial)))
       obtain ⟨j,o2⟩:=x
       try dsimp only at h
       obtain ⟨hu4,ht'4_f0⟩:=hu4
       obtain ⟨u4c,u4g,u4t⟩:=t'4;obtain ⟨hu4c,hu4g⟩:0 < u4c∧∀ k,u4g k < u4c:=hu4
       refine Wc [] [] [] 1 [] fun N hN=>?_
       generalize hp:std Tryz.prog=p;generalize hv:nvS=nv;cbv;subst hp hv
       refine ⟨fun h71=>?_,fun h71=>?_⟩
       · replace h:=iteO_t h h71
         replace h:=chk_some h;obtain ⟨h72,h⟩:=h
         try (have h72z:=h72;simp only [Int.zero_add] at h72z)
         refine ⟨rfl,h72,rfl,?_⟩
         replace h:=chk_some h;obtain ⟨h73,h⟩:=h
         refine ⟨h73,?_⟩
         subst hN;cases h
         exact Exists.intro ⟨u4c+12,gfn [(2,u4g 2)],tfn [(2,false)]⟩ (And.intro ((And.intro Wh Wf)) (Wg (Wk rfl (Wk rfl (Wk rfl trivial))) (Wa rfl (Wi rfl trivial))))
       replace h:=iteO_f h h71
       subst hN;cases h
       intro he;cases he
       exact Exists.intro ⟨u4c+10,gfn [(2,u4g 2)],tfn [(2,false)]⟩ (And.intro ((And.intro Wh Wf)) (Wg (Wk rfl (Wk rfl trivial)) (Wi rfl (Wi rfl trivial))))
     replace h:=iteO_f h h64
     refine Wc [] [] [] 1 [] fun N hN=>?_
     generalize hp:std Tryz.prog=p;generalize hv:nvS=nv;cbv;subst hp hv
     subst hN;cases h
     exact Exists.intro ⟨u2c+10,gfn [(2,u2g 2)],tfn [(2,false)]⟩ (And.intro ((And.intro Wh Wf)) (Wg (Wk rfl (Wk rfl trivial)) (Wi rfl (Wi rfl trivial))))
   refine Tr.block ?_
   refine Tr.loopO (α:=Int) (fun end'1 t'5=>(WF 47 [(1,.bref 2 (t'5.g 2) 0),(2,WV i),(3,WV end'1)] 48 [(0,.arr (0) 1 (nvS.len t_l) (tg0) (WI nvS o)),(2,.box (t'5.g 2) [.vec 0 (0) 1 0 (nvS.len t_l),WV t_sos])] t'5)) (fun _ t=>Hid.ok t) ⟨u1c+12,gfn [(2,u1g 2)],tfn [(2,false)]⟩ h ?_ ?_ (fun x t'5 f hu5 h=>?_)
   · exact Wh
   · exact (Wg (Wk rfl (Wk rfl (Wk rfl trivial))) (Wi rfl (Wi rfl trivial)))
   revert h;revert hu5;revert x;intro end'1 hu5 h
   obtain ⟨u5c,u5g,u5t⟩:=t'5;obtain ⟨hu5c,hu5g⟩:0 < u5c∧∀ k,u5g k < u5c:=hu5
   obtain ⟨v2,h80⟩ : ∃ v2,valO 0 (weak_text__at (T_weak_text.mk o t_sos) end'1)=v2:=⟨_,rfl⟩
   refine Wc [(49,4)] [(22,.plain (WV v2))] [] 1 [] fun N hN=>?_
   generalize hp:std Tryz.prog=p;generalize hv:nvS=nv;cbv;subst hp hv
   replace h:=bindO_val h80 h;clear h80;obtain ⟨h80,h⟩:=h
   refine ⟨rfl,rfl,(PureFn.arg (weak_text__at_ok (T_weak_text.mk o t_sos) end'1 v2 h80) (And.intro (LeD.agg fun j hj=>by
    have hj2:j < 2:=hj
    rcases (show j=0∨j=1 by omega) with rfl | rfl
    · exact LeD.slE Wy Wp
    exact LeD.refl _) (And.intro (LeD.refl _) trivial))),?_⟩
   refine ⟨fun h81=>?_,fun h81=>?_⟩
   · replace h:=iteO_t h h81
     replace h:=chk_some h;obtain ⟨h82,h⟩:=h
     refine ⟨h82,?_⟩
     subst hN;cases h
     exact Exists.intro ⟨u5c+11,gfn [(2,u5g 2)],tfn [(2,false)]⟩ (And.intro Wh (Wg (Wk rfl (Wk rfl (Wk rfl trivial))) (Wi rfl (Wi rfl trivial))))
   replace h:=iteO_f h h81
   subst hN;cases h
   intro he;cases he
   exact Exists.intro ⟨u5c+10,gfn [(2,u5g 2)],tfn [(2,false)]⟩ (And.intro Wh (Wg (Wk rfl (Wk rfl (Wk rfl trivial))) (Wi rfl (Wi rfl trivial))))
 replace h:=iteO_f h h41
 subst hN;cases h
 intro hr
 subst hr
 try dsimp only [noGoto,inBlockQ,thenQ]
 repeat (first | refine Wt ?_ | refine We ?_)
 refine lentQ_normal rfl ?_ ?_ [.top] ?_
 · exact trivial
 · exact trivial
 exact (And.intro (rfl) (And.intro (rfl) (And.intro (And.intro (rfl) (And.intro (rfl) (And.intro Wy (And.intro (rfl) (out0_all Wo Wp))))) trivial)))
theorem w6_ok (t':T_weak_text) (r:(List Int)) (h:w6 t'=some r) (t'_N:Int) (ht'_N:lenL t'.fl=t'_N) (tg0:Bool):LentFn Tryz.prog 34 [.agg 2 (fun j=>match j with | 0=>.vec 0 0 1 0 t'_N | 1=>WV t'.fsos | _=>.junk)] [.arr 0 1 t'_N tg0 (WI nvS t'.fl)] [.arr 0 1 t'_N tg0 (WI nvS r)] (.tup 0 (fun _=>.junk)):=by
 obtain rfl:nvS.len t'.fl=t'_N:=ht'_N
 obtain ⟨t_l,t_sos⟩:=t'
 unfold w6 at h
 try dsimp only at h
 refine lent_tr tt0_ok Tryz.func34 (by kernel_rfl) (c:=bodyOf Tryz.f34) (by kernel_rfl) rfl ?_
 intro ctr hc
 refine Wx [] [] [] 1 [] 2 fun N hN=>?_
 generalize hp:std Tryz.prog=p;generalize hv:nvS=nv;cbv;subst hp hv
 refine ⟨rfl,?_⟩
 subst hN;show Tr _ _ _ _
 refine Tr.block ?_
 refine Tr.loopO (α:=Int × List Int) (fun (v,o) t'1=>(WF 22 [(1,.bref 2 (t'1.g 2) 0),(5,.vec 0 (0) 1 0 (nvS.len t_l)),(6,WV (nvS.len t_l)),(7,WV v)] 23 [(0,.arr (0) 1 (nvS.len t_l) (tg0) (WI nvS o)),(2,.box (t'1.g 2) [.vec 0 (0) 1 0 (nvS.len t_l),WV t_sos])] t'1)) (fun (v,o) t=>Hid.ok t∧lenL o=(lenL t_l)) ⟨ctr+11,gfn [(2,ctr+0)],tfn [(2,false)]⟩ h ?_ ?_ (fun x t'1 f hu1 h=>?_)
 · exact (And.intro Wh Wf)
 · exact (Wg (Wk rfl (Wk rfl (Wk rfl (Wk rfl trivial)))) (Wi rfl (Wi rfl trivial)))
 obtain ⟨v,o⟩:=x
 try dsimp only at h
 obtain ⟨hu1,ht'1_f0⟩:=hu1
 obtain ⟨u1c,u1g,u1t⟩:=t'1;obtain ⟨hu1c,hu1g⟩:0 < u1c∧∀ k,u1g k < u1c:=hu1
 refine Wc [] [] [] 1 [] fun N hN=>?_
 generalize hp:std Tryz.prog=p;generalize hv:nvS=nv;cbv;subst hp hv
 refine ⟨fun h33=>?_,fun h33=>?_⟩
 · replace h:=iteO_t h h33
   replace h:=chk_some h;obtain ⟨h34,h⟩:=h
   try (have h34z:=h34;simp only [Int.zero_add] at h34z)
   refine ⟨h34,rfl,?_⟩
   refine ⟨fun h35=>?_,fun h35=>?_⟩
   · replace h:=iteO_t h h35
     refine ⟨fun h36=>?_,fun h36=>?_⟩
     · replace h:=iteO_t h h36
       replace h:=chk_some h;obtain ⟨h37,h⟩:=h
       try (have h37z:=h37;simp only [Int.zero_add] at h37z)
       refine ⟨rfl,h37,rfl,?_⟩
       replace h:=chk_some h;obtain ⟨h38,h⟩:=h
       refine ⟨h38,?_⟩
       subst hN;cases h
       exact Exists.intro ⟨u1c+15,gfn [(2,u1g 2)],tfn [(2,false)]⟩ (And.intro ((And.intro Wh Wf)) (Wg (Wk rfl (Wk rfl (Wk rfl (Wk rfl trivial)))) (Wa rfl (Wi rfl trivial))))
     replace h:=iteO_f h h36
     replace h:=chk_some h;obtain ⟨h39,h⟩:=h
     refine ⟨h39,?_⟩
     subst hN;cases h
     exact Exists.intro ⟨u1c+14,gfn [(2,u1g 2)],tfn [(2,false)]⟩ (And.intro ((And.intro Wh Wf)) (Wg (Wk rfl (Wk rfl (Wk rfl (Wk rfl trivial)))) (Wi rfl (Wi rfl trivial))))
   replace h:=iteO_f h h35
   refine ⟨fun h40=>?_,fun h40=>?_⟩
   · replace h:=iteO_t h h40
     refine ⟨fun h41=>?_,fun h41=>?_⟩
     · replace h:=iteO_t h h41
       replace h:=chk_some h;obtain ⟨h42,h⟩:=h
       try (have h42z:=h42;simp only [Int.zero_add] at h42z)
       refine ⟨rfl,h42,rfl,?_⟩
       replace h:=chk_some h;obtain ⟨h43,h⟩:=h
       refine ⟨h43,?_⟩
       subst hN;cases h
       exact Exists.intro ⟨u1c+16,gfn [(2,u1g 2)],tfn [(2,false)]⟩ (And.intro ((And.intro Wh Wf)) (Wg (Wk rfl (Wk rfl (Wk rfl (Wk rfl trivial)))) (Wa rfl (Wi rfl trivial))))
     replace h:=iteO_f h h41
     replace h:=chk_some h;obtain ⟨h44,h⟩:=h
     refine ⟨h44,?_⟩
     subst hN;cases h
     exact Exists.intro ⟨u1c+15,gfn [(2,u1g 2)],tfn [(2,false)]⟩ (And.intro ((And.intro Wh Wf)) (Wg (Wk rfl (Wk rfl (Wk rfl (Wk rfl trivial)))) (Wi rfl (Wi rfl trivial))))
   replace h:=iteO_f h h40
   refine ⟨fun h45=>?_,fun h45=>?_⟩
   · replace h:=iteO_t h h45
     replace h:=chk_some h;obtain ⟨h46,h⟩:=h
     try (have h46z:=h46;simp only [Int.zero_add] at h46z)
     refine ⟨rfl,h46,rfl,?_⟩
     replace h:=chk_some h;obtain ⟨h47,h⟩:=h
     refine ⟨h47,?_⟩
     subst hN;cases h
     exact Exists.intro ⟨u1c+17,gfn [(2,u1g 2)],tfn [(2,false)]⟩ (And.intro ((And.intro Wh Wf)) (Wg (Wk rfl (Wk rfl (Wk rfl (Wk rfl trivial)))) (Wa rfl (Wi rfl trivial))))
   replace h:=iteO_f h h45
   replace h:=chk_some h;obtain ⟨h48,h⟩:=h
   refine ⟨h48,?_⟩
   subst hN;cases h
   exact Exists.intro ⟨u1c+16,gfn [(2,u1g 2)],tfn [(2,false)]⟩ (And.intro ((And.intro Wh Wf)) (Wg (Wk rfl (Wk rfl (Wk rfl (Wk rfl trivial)))) (Wi rfl (Wi rfl trivial))))
 replace h:=iteO_f h h33
 subst hN;cases h
 intro hr
 subst hr
 try dsimp only [noGoto,inBlockQ,thenQ]
 repeat (first | refine Wt ?_ | refine We ?_)
 refine lentQ_normal rfl ?_ ?_ [.top] ?_
 · exact trivial
 · exact trivial
 exact (And.intro (rfl) (And.intro (rfl) (And.intro (And.intro (rfl) (And.intro (rfl) (And.intro Wy (And.intro (rfl) (out0_all Wo Wp))))) trivial)))
theorem w7_ok (t':T_weak_text) (r:(List Int)) (h:w7 t'=some r) (t'_N:Int) (ht'_N:lenL t'.fl=t'_N) (tg0:Bool):LentFn Tryz.prog 35 [.agg 2 (fun j=>match j with | 0=>.vec 0 0 1 0 t'_N | 1=>WV t'.fsos | _=>.junk)] [.arr 0 1 t'_N tg0 (WI nvS t'.fl)] [.arr 0 1 t'_N tg0 (WI nvS r)] (.tup 0 (fun _=>.junk)):=by
 obtain rfl:nvS.len t'.fl=t'_N:=ht'_N
 obtain ⟨t_l,t_sos⟩:=t'
 unfold w7 at h
 try dsimp only at h
 refine lent_tr tt0_ok Tryz.func35 (by kernel_rfl) (c:=bodyOf Tryz.f35) (by kernel_rfl) rfl ?_
 intro ctr hc
 refine Wx [] [] [] 1 [] 3 fun N hN=>?_
 generalize hp:std Tryz.prog=p;generalize hv:nvS=nv;cbv;subst hp hv
 refine ⟨rfl,?_⟩
 refine ⟨rfl,?_⟩
 subst hN;show Tr _ _ _ _
 refine Tr.block ?_
 refine Tr.loopO (α:=Int × Int × List Int) (fun (last1,v,o) t'1=>(WF 29 [(1,.bref 2 (t'1.g 2) 0),(2,WV last1),(8,.vec 0 (0) 1 0 (nvS.len t_l)),(9,WV (nvS.len t_l)),(10,WV v)] 30 [(0,.arr (0) 1 (nvS.len t_l) (tg0) (WI nvS o)),(2,.box (t'1.g 2) [.vec 0 (0) 1 0 (nvS.len t_l),WV t_sos])] t'1)) (fun (last1,v,o) t=>Hid.ok t∧lenL o=(lenL t_l)) ⟨ctr+12,gfn [(2,ctr+0)],tfn [(2,false)]⟩ h ?_ ?_ (fun x t'1 f hu1 h=>?_)
 · exact (And.intro Wh Wf)
 · exact (Wg (Wk rfl (Wk rfl (Wk rfl (Wk rfl (Wk rfl trivial))))) (Wi rfl (Wi rfl trivial)))
 obtain ⟨last1,v,o⟩:=x
 try dsimp only at h
 obtain ⟨hu1,ht'1_f0⟩:=hu1
 obtain ⟨u1c,u1g,u1t⟩:=t'1;obtain ⟨hu1c,hu1g⟩:0 < u1c∧∀ k,u1g k < u1c:=hu1
 refine Wc [] [] [] 1 [] fun N hN=>?_
 generalize hp:std Tryz.prog=p;generalize hv:nvS=nv;cbv;subst hp hv
 refine ⟨fun h39=>?_,fun h39=>?_⟩
 · replace h:=iteO_t h h39
   replace h:=chk_some h;obtain ⟨h40,h⟩:=h
   try (have h40z:=h40;simp only [Int.zero_add] at h40z)
   refine ⟨h40,rfl,?_⟩
   refine ⟨fun h41=>?_,fun h41=>?_⟩
   · replace h:=iteO_t h h41
     refine ⟨fun h42=>?_,fun h42=>?_⟩
     · replace h:=iteO_t h h42
       replace h:=chk_some h;obtain ⟨h43,h⟩:=h
       refine ⟨h43,?_⟩
       subst hN;cases h
       exact Exists.intro ⟨u1c+15,gfn [(2,u1g 2)],tfn [(2,false)]⟩ (And.intro ((And.intro Wh Wf)) (Wg (Wk rfl (Wk rfl (Wk rfl (Wk rfl (Wk rfl trivial))))) (Wi rfl (Wi rfl trivial))))
     replace h:=iteO_f h h42
     refine ⟨fun h44=>?_,fun h44=>?_⟩
     · replace h:=iteO_t h h44
       refine ⟨fun h45=>?_,fun h45=>?_⟩
       · replace h:=iteO_t h h45
         replace h:=chk_some h;obtain ⟨h46,h⟩:=h
         try (have h46z:=h46;simp only [Int.zero_add] at h46z)
         refine ⟨rfl,h46,rfl,?_⟩
         replace h:=chk_some h;obtain ⟨h47,h⟩:=h
         refine ⟨h47,?_⟩
         subst hN;cases h
         exact Exists.intro ⟨u1c+17,gfn [(2,u1g 2)],tfn [(2,false)]⟩ (And.intro ((And.intro Wh Wf)) (Wg (Wk rfl (Wk rfl (Wk rfl (Wk rfl (Wk rfl trivial))))) (Wa rfl (Wi rfl trivial))))
       replace h:=iteO_f h h45
       replace h:=chk_some h;obtain ⟨h48,h⟩:=h
       refine ⟨h48,?_⟩
       subst hN;cases h
       exact Exists.intro ⟨u1c+16,gfn [(2,u1g 2)],tfn [(2,false)]⟩ (And.intro ((And.intro Wh Wf)) (Wg (Wk rfl (Wk rfl (Wk rfl (Wk rfl (Wk rfl trivial))))) (Wi rfl (Wi rfl trivial))))
     replace h:=iteO_f h h44
     replace h:=chk_some h;obtain ⟨h49,h⟩:=h
     refine ⟨h49,?_⟩
     subst hN;cases h
     exact Exists.intro ⟨u1c+15,gfn [(2,u1g 2)],tfn [(2,false)]⟩ (And.intro ((And.intro Wh Wf)) (Wg (Wk rfl (Wk rfl (Wk rfl (Wk rfl (Wk rfl trivial))))) (Wi rfl (Wi rfl trivial))))
   replace h:=iteO_f h h41
   refine ⟨fun h50=>?_,fun h50=>?_⟩
   · replace h:=iteO_t h h50
     replace h:=chk_some h;obtain ⟨h51,h⟩:=h
     refine ⟨h51,?_⟩
     subst hN;cases h
     exact Exists.intro ⟨u1c+16,gfn [(2,u1g 2)],tfn [(2,false)]⟩ (And.intro ((And.intro Wh Wf)) (Wg (Wk rfl (Wk rfl (Wk rfl (Wk rfl (Wk rfl trivial))))) (Wi rfl (Wi rfl trivial))))
   replace h:=iteO_f h h50
   refine ⟨fun h52=>?_,fun h52=>?_⟩
   · replace h:=iteO_t h h52
     refine ⟨fun h53=>?_,fun h53=>?_⟩
     · replace h:=iteO_t h h53
       replace h:=chk_some h;obtain ⟨h54,h⟩:=h
       try (have h54z:=h54;simp only [Int.zero_add] at h54z)
       refine ⟨rfl,h54,rfl,?_⟩
       replace h:=chk_some h;obtain ⟨h55,h⟩:=h
       refine ⟨h55,?_⟩
       subst hN;cases h
       exact Exists.intro ⟨u1c+18,gfn [(2,u1g 2)],tfn [(2,false)]⟩ (And.intro ((And.intro Wh Wf)) (Wg (Wk rfl (Wk rfl (Wk rfl (Wk rfl (Wk rfl trivial))))) (Wa rfl (Wi rfl trivial))))
     replace h:=iteO_f h h53
     replace h:=chk_some h;obtain ⟨h56,h⟩:=h
     refine ⟨h56,?_⟩
     subst hN;cases h
     exact Exists.intro ⟨u1c+17,gfn [(2,u1g 2)],tfn [(2,false)]⟩ (And.intro ((And.intro Wh Wf)) (Wg (Wk rfl (Wk rfl (Wk rfl (Wk rfl (Wk rfl trivial))))) (Wi rfl (Wi rfl trivial))))
   replace h:=iteO_f h h52
   replace h:=chk_some h;obtain ⟨h57,h⟩:=h
   refine ⟨h57,?_⟩
   subst hN;cases h
   exact Exists.intro ⟨u1c+16,gfn [(2,u1g 2)],tfn [(2,false)]⟩ (And.intro ((And.intro Wh Wf)) (Wg (Wk rfl (Wk rfl (Wk rfl (Wk rfl (Wk rfl trivial))))) (Wi rfl (Wi rfl trivial))))
 replace h:=iteO_f h h39
 subst hN;cases h
 intro hr
 subst hr
 try dsimp only [noGoto,inBlockQ,thenQ]
 repeat (first | refine Wt ?_ | refine We ?_)
 refine lentQ_normal rfl ?_ ?_ [.top] ?_
 · exact trivial
 · exact trivial
 exact (And.intro (rfl) (And.intro (rfl) (And.intro (And.intro (rfl) (And.intro (rfl) (And.intro Wy (And.intro (rfl) (out0_all Wo Wp))))) trivial)))
end Go.Vx
