/- Walks, by program (lift.py). -/
import Derived.Test.YtkjmcemgncalgaaGreatDoorWWalk
set_option linter.all false
namespace Go.Vx
open Go.Proofs
set_option maxRecDepth 100000
set_option linter.unusedVariables false
set_option linter.unusedSimpArgs false
theorem si_push_ok (s:T_embed_stack_int_) (x':Int) (r:(T_embed_stack_int_)) (h:si_push s x'=some r)   : LentFn Tryz.prog 55 [.bref 0 0 0,(WV x')] [.box 0 [.vec 1 0 1 0 (nvS.len s.fl)],.arr 0 1 (nvS.len s.fl) false (WI nvS s.fl)] [.box 0 [.vec 1 1 1 0 (nvS.len r.fl)],.arr 1 1 (nvS.len r.fl) false (WI nvS r.fl)] (.tup 0 (fun _=>.junk)):=by
 obtain ⟨s_l⟩:=s
 unfold si_push at h
 try dsimp only at h
 refine lent_tr tt0_ok Tryz.func55 (by kernel_rfl) (c:=bodyOf Tryz.f55) (by kernel_rfl) rfl ?_
 intro ctr hc
 refine Wc [] [] [10] 2 [] fun N hN=>?_
 generalize hp:std Tryz.prog=p;generalize hv:nvS=nv;cbv;subst hp hv
 replace h:=chk_some h;obtain ⟨h1,h⟩:=h
 refine ⟨rfl,rfl,h1,rfl,?_⟩
 subst hN;have hr:=Option.some.inj h
 subst hr
 try dsimp only [noGoto,inBlockQ,thenQ]
 repeat (first | refine Wt ?_ | refine We ?_)
 refine lentQ_normal rfl ?_ ?_ [.top,.at 13 0] ?_
 · exact trivial
 · exact trivial
 exact (And.intro (rfl) (And.intro (rfl) (And.intro (And.intro (rfl) (And.intro (rfl) (And.intro (And.intro (rfl) (And.intro (rfl) (And.intro (rfl) (And.intro Wy
  rfl)))) trivial))) (And.intro (obEnd_at0 rfl rfl (lenL_nn _) Wm Wo Wp) trivial))))
theorem si_size_ok (s:T_embed_stack_int_) (r:Int) (h:si_size s=some r):PureFn Tryz.prog 56 [.imm 1 1 (fun _ j=>(D_embed_stack_int_ nvS s j)) 0 0] ((WV r)):=by
 obtain ⟨s_l⟩:=s
 unfold si_size at h
 try dsimp only at h
 refine fn_tr tt0_ok Tryz.func56 (by kernel_rfl) (c:=bodyOf Tryz.f56) (by kernel_rfl) ?_
 intro ctr hc
 refine Wc [] [] [] 0 [] fun N hN=>?_
 generalize hp:std Tryz.prog=p;generalize hv:nvS=nv;cbv;subst hp hv
 subst hN;have hr:=Option.some.inj h
 subst hr
 try dsimp only [noGoto,inBlockQ,thenQ]
 repeat (first | refine Wt ?_ | refine We ?_)
 exact retQ_ret rfl trivial rfl
theorem si_last_ok (s:T_embed_stack_int_) (r:Int) (h:si_last s=some r):PureFn Tryz.prog 57 [.imm 1 1 (fun _ j=>(D_embed_stack_int_ nvS s j)) 0 0] ((WV r)):=by
 obtain ⟨s_l⟩:=s
 unfold si_last at h
 try dsimp only at h
 refine fn_tr tt0_ok Tryz.func57 (by kernel_rfl) (c:=bodyOf Tryz.f57) (by kernel_rfl) ?_
 intro ctr hc
 refine Wc [] [] [] 0 [] fun N hN=>?_
 generalize hp:std Tryz.prog=p;generalize hv:nvS=nv;cbv;subst hp hv
 replace h:=chk_some h;obtain ⟨h1,h⟩:=h
 replace h:=chk_some h;obtain ⟨h2,h⟩:=h
 try (have h2z:=h2;simp only [Int.zero_add] at h2z)
 refine ⟨h1,h2,(show drOk _ _=true by kernel_rfl),?_⟩
 subst hN;have hr:=Option.some.inj h
 subst hr
 try dsimp only [noGoto,inBlockQ,thenQ]
 repeat (first | refine Wt ?_ | refine We ?_)
 exact retQ_ret rfl trivial rfl
theorem si_pop_ok (s:T_embed_stack_int_) (r:(T_embed_stack_int_)) (h:si_pop s=some r)   : LentFn Tryz.prog 58 [.bref 0 0 0] [.box 0 [.vec 1 0 1 0 (nvS.len s.fl)],.arr 0 1 (nvS.len s.fl) false (WI nvS s.fl)] [.box 0 [.vec 1 1 1 0 (nvS.len r.fl)],.arr 1 1 (nvS.len r.fl) false (WI nvS r.fl)] (.tup 0 (fun _=>.junk)):=by
 obtain ⟨s_l⟩:=s
 unfold si_pop at h
 try dsimp only at h
 refine lent_tr tt0_ok Tryz.func58 (by kernel_rfl) (c:=bodyOf Tryz.f58) (by kernel_rfl) rfl ?_
 intro ctr hc
 refine Wc [] [] [] 2 [] fun N hN=>?_
 generalize hp:std Tryz.prog=p;generalize hv:nvS=nv;cbv;subst hp hv
 replace h:=chk_some h;obtain ⟨h1,h⟩:=h
 replace h:=chk_some h;obtain ⟨h2,h⟩:=h
 refine ⟨rfl,rfl,h1,h2,rfl,(show drOk _ _=true by kernel_rfl),?_⟩
 subst hN;have hr:=Option.some.inj h
 subst hr
 try dsimp only [noGoto,inBlockQ,thenQ]
 repeat (first | refine Wt ?_ | refine We ?_)
 refine lentQ_normal rfl ?_ ?_ [.top,.at 1 (0+0)] ?_
 · exact trivial
 · exact trivial
 exact (And.intro (rfl) (And.intro (rfl) (And.intro (And.intro (rfl) (And.intro (rfl) (And.intro (And.intro (rfl) (And.intro (rfl) (And.intro (rfl) (And.intro Wy
  rfl)))) trivial))) (And.intro (obEnd_at rfl rfl (by (try dsimp only [std_eq,stdN,nvS])<;>omega) (lenL_nn _) Wm Wo Wp) trivial))))
theorem embed_known_ok (l':(List Int)) (r:(List Int)) (h:embed_known l'=some r):PureFn Tryz.prog 59 [(WS nvS l')] (.own 1 (nvS.len r) false (WI nvS r)):=by
 unfold embed_known at h
 refine fn_tr tt0_ok Tryz.func59 (by kernel_rfl) (c:=bodyOf Tryz.f59) (by kernel_rfl) ?_
 intro ctr hc
 refine Wx [] [] [] 0 [] 2 fun N hN=>?_
 generalize hp:std Tryz.prog=p;generalize hv:nvS=nv;cbv;subst hp hv
 replace h:=chk_some h;obtain ⟨h1,h⟩:=h
 have h1':=h1.1;have h1'':=h1.2.1
 refine ⟨h1,?_⟩
 subst hN;show Tr _ _ _ _
 refine Tr.cutSeq (α:=List Int) h (fun out u=>(WF 28 [(3,.vec 8 (u.g 8) 1 0 (nvS.len l'))] 28 [(8,.arr (u.g 8) 1 (nvS.len l') (u.t 8) (WI nvS out))] u)) (fun out t=>Hid.ok t∧lenL out=(lenL l')) (fun x u hu h=>?_) (fun f h=>?_)
 · revert h;revert hu;revert x;intro out hu h
   obtain ⟨hu,ht'_f0⟩:=hu
   obtain ⟨uc,ug,ut⟩:=u;obtain ⟨huc,hug⟩:0 < uc∧∀ k,ug k < uc:=hu
   refine Wc [] [] [] 0 [] fun N hN=>?_
   generalize hp:std Tryz.prog=p;generalize hv:nvS=nv;cbv;subst hp hv
   subst hN;have hr:=Option.some.inj h
   subst hr
   try dsimp only [noGoto,inBlockQ,thenQ]
   repeat (first | refine Wt ?_ | refine We ?_)
   exact retQ_ret rfl trivial (And.intro (rfl) (And.intro Wy (And.intro (fun h=>by cases h) (out0_all Wo Wp))))
 refine Wx [] [] [] 0 [] 1 fun N hN=>?_
 generalize hp:std Tryz.prog=p;generalize hv:nvS=nv;cbv;subst hp hv
 subst hN;show Tr _ _ _ _
 refine Tr.block ?_
 refine Tr.loopO (α:=Int × List Int) (fun (v,out1) u1=>(WF 28 [(3,.vec 8 (u1.g 8) 1 0 (nvS.len l')),(9,WS nvS l'),(10,WV (nvS.len l')),(11,WV v)] 28 [(8,.arr (u1.g 8) 1 (nvS.len l') (u1.t 8) (WI nvS out1))] u1)) (fun (v,out1) t=>Hid.ok t∧lenL out1=(lenL l')) ⟨ctr+12,gfn [(8,ctr+1)],tfn [(8,((std Tryz.prog).eq (nvS.len l') (nvS.len l')))]⟩ h ?_ ?_ (fun x u1 f hu1 h=>?_)
 · exact (And.intro Wh Wf)
 · exact (Wg (Wk rfl (Wk rfl (Wk rfl (Wk rfl trivial)))) (Wa rfl trivial))
 obtain ⟨v,out1⟩:=x
 try dsimp only at h
 obtain ⟨hu1,ht'1_f0⟩:=hu1
 obtain ⟨u1c,u1g,u1t⟩:=u1;obtain ⟨hu1c,hu1g⟩:0 < u1c∧∀ k,u1g k < u1c:=hu1
 refine Wc [] [] [] 0 [] fun N hN=>?_
 generalize hp:std Tryz.prog=p;generalize hv:nvS=nv;cbv;subst hp hv
 refine ⟨fun h30=>?_,fun h30=>?_⟩
 · replace h:=iteO_t h h30
   replace h:=chk_some h;obtain ⟨h31,h⟩:=h
   try (have h31z:=h31;simp only [Int.zero_add] at h31z)
   refine ⟨h31,?_⟩
   refine ⟨(fun hg=>hg),(fun hg=>hg),?_⟩
   refine ⟨fun h32=>?_,fun h32=>?_⟩
   · replace h:=iteO_t h h32
     replace h:=chk_some h;obtain ⟨h33,h⟩:=h
     try (have h33z:=h33;simp only [Int.zero_add] at h33z)
     refine ⟨h33,rfl,?_⟩
     replace h:=chk_some h;obtain ⟨h34,h⟩:=h
     refine ⟨h34,?_⟩
     subst hN;cases h
     exact Exists.intro ⟨u1c+15,gfn [(8,u1g 8)],tfn [(8,u1t 8)]⟩ (And.intro ((And.intro Wh Wf)) (Wg (Wk rfl (Wk rfl (Wk rfl (Wk rfl trivial)))) (Wa rfl trivial)))
   replace h:=iteO_f h h32
   replace h:=chk_some h;obtain ⟨h35,h⟩:=h
   try (have h35z:=h35;simp only [Int.zero_add] at h35z)
   refine ⟨h35,rfl,?_⟩
   replace h:=chk_some h;obtain ⟨h36,h⟩:=h
   refine ⟨h36,?_⟩
   subst hN;cases h
   exact Exists.intro ⟨u1c+14,gfn [(8,u1g 8)],tfn [(8,u1t 8)]⟩ (And.intro ((And.intro Wh Wf)) (Wg (Wk rfl (Wk rfl (Wk rfl (Wk rfl trivial)))) (Wa rfl trivial)))
 replace h:=iteO_f h h30
 subst hN;cases h
 intro he;cases he
 exact Exists.intro ⟨u1c+10,gfn [(8,u1g 8)],tfn [(8,u1t 8)]⟩ (And.intro ((And.intro Wh Wf)) (Wg (Wk rfl trivial) (Wi rfl trivial)))
theorem embed_parity_ok (base:Int) (r:Int) (h:embed_parity base=some r):PureFn Tryz.prog 60 [(WV base)] ((WV r)):=by
 unfold embed_parity at h
 refine fn_tr tt0_ok Tryz.func60 (by kernel_rfl) (c:=bodyOf Tryz.f60) (by kernel_rfl) ?_
 intro ctr hc
 refine Wc [] [] [] 0 [] fun N hN=>?_
 generalize hp:std Tryz.prog=p;generalize hv:nvS=nv;cbv;subst hp hv
 replace h:=chk_some h;obtain ⟨h1,h⟩:=h
 refine ⟨h1,?_⟩
 subst hN;have hr:=Option.some.inj h
 subst hr
 try dsimp only [noGoto,inBlockQ,thenQ]
 repeat (first | refine Wt ?_ | refine We ?_)
 exact retQ_ret rfl trivial rfl
theorem ss_push_ok (s:T_embed_status_) (x':T_embed_status) (r:(T_embed_status_)) (h:ss_push s x'=some r)   : LentFn Tryz.prog 61 [.bref 0 0 0,(.agg 3 (fun j=>(D_embed_status nvS x' j)))] [.box 0 [.vec 1 0 3 0 (nvS.len s.fl)],.arr 0 3 (nvS.len s.fl) false (fun ix jx=>(D_embed_status nvS (nvS.get d_embed_status s.fl ix) jx))] [.box 0 [.vec 1 1 3 0 (nvS.len r.fl)],.arr 1 3 (nvS.len r.fl) false (fun ix jx=>(D_embed_status nvS (nvS.get d_embed_status r.fl ix) jx))] (.tup 0 (fun _=>.junk)):=by
 obtain ⟨s_l⟩:=s
 obtain ⟨x_level,x_override,x_isolate⟩:=x'
 unfold ss_push at h
 try dsimp only at h
 refine lent_tr tt0_ok Tryz.func61 (by kernel_rfl) (c:=bodyOf Tryz.f61) (by kernel_rfl) rfl ?_
 intro ctr hc
 refine Wc [] [] [10] 2 [] fun N hN=>?_
 generalize hp:std Tryz.prog=p;generalize hv:nvS=nv;cbv;subst hp hv
 replace h:=chk_some h;obtain ⟨h1,h⟩:=h
 refine ⟨rfl,rfl,rfl,h1,rfl,(show drOk _ _=true by kernel_rfl),?_⟩
 subst hN;have hr:=Option.some.inj h
 subst hr
 try dsimp only [noGoto,inBlockQ,thenQ]
 repeat (first | refine Wt ?_ | refine We ?_)
 refine lentQ_normal rfl ?_ ?_ [.top,.at 13 0] ?_
 · exact trivial
 · exact trivial
 exact (And.intro (rfl) (And.intro (rfl) (And.intro (And.intro (rfl) (And.intro (rfl) (And.intro (And.intro (rfl) (And.intro (rfl) (And.intro (rfl) (And.intro Wy
  rfl)))) trivial))) (And.intro (obEnd_at0 rfl rfl (lenL_nn _) Wm Wo Wp) trivial))))
theorem ss_last_ok (s:T_embed_status_) (r:T_embed_status) (h:ss_last s=some r):PureFn Tryz.prog 91 [.imm 1 1 (fun _ j=>(D_embed_status_ nvS s j)) 0 0] ((.agg 3 (fun j=>(D_embed_status nvS r j)))):=by
 obtain ⟨s_l⟩:=s
 unfold ss_last at h
 try dsimp only at h
 refine fn_tr tt0_ok Tryz.func91 (by kernel_rfl) (c:=bodyOf Tryz.f91) (by kernel_rfl) ?_
 intro ctr hc
 refine Wc [] [] [] 0 [] fun N hN=>?_
 generalize hp:std Tryz.prog=p;generalize hv:nvS=nv;cbv;subst hp hv
 replace h:=chk_some h;obtain ⟨h1,h⟩:=h
 replace h:=chk_some h;obtain ⟨h2,h⟩:=h
 try (have h2z:=h2;simp only [Int.zero_add] at h2z)
 refine ⟨h1,h2,rfl,(show drOk _ _=true by kernel_rfl),?_⟩
 subst hN;have hr:=Option.some.inj h
 subst hr
 try dsimp only [noGoto,inBlockQ,thenQ]
 repeat (first | refine Wt ?_ | refine We ?_)
 refine retQ_ret rfl ?_ ?_
 · exact (And.intro (rfl) trivial)
 exact (fun i _ _ j hj=>by
  have hj2:j < 3:=hj
  rcases (show j=0∨j=1∨j=2 by omega) with rfl | rfl | rfl
  · exact rfl
  · exact rfl
  exact rfl)
theorem ss_pop_ok (s:T_embed_status_) (r:(T_embed_status_)) (h:ss_pop s=some r)   : LentFn Tryz.prog 92 [.bref 0 0 0] [.box 0 [.vec 1 0 3 0 (nvS.len s.fl)],.arr 0 3 (nvS.len s.fl) false (fun ix jx=>(D_embed_status nvS (nvS.get d_embed_status s.fl ix) jx))] [.box 0 [.vec 1 1 3 0 (nvS.len r.fl)],.arr 1 3 (nvS.len r.fl) false (fun ix jx=>(D_embed_status nvS (nvS.get d_embed_status r.fl ix) jx))] (.tup 0 (fun _=>.junk)):=by
 obtain ⟨s_l⟩:=s
 unfold ss_pop at h
 try dsimp only at h
 refine lent_tr tt0_ok Tryz.func92 (by kernel_rfl) (c:=bodyOf Tryz.f92) (by kernel_rfl) rfl ?_
 intro ctr hc
 refine Wc [] [] [] 2 [] fun N hN=>?_
 generalize hp:std Tryz.prog=p;generalize hv:nvS=nv;cbv;subst hp hv
 replace h:=chk_some h;obtain ⟨h1,h⟩:=h
 replace h:=chk_some h;obtain ⟨h2,h⟩:=h
 refine ⟨rfl,rfl,h1,h2,rfl,(show drOk _ _=true by kernel_rfl),?_⟩
 subst hN;have hr:=Option.some.inj h
 subst hr
 try dsimp only [noGoto,inBlockQ,thenQ]
 repeat (first | refine Wt ?_ | refine We ?_)
 refine lentQ_normal rfl ?_ ?_ [.top,.at 1 (0+0)] ?_
 · exact trivial
 · exact trivial
 exact (And.intro (rfl) (And.intro (rfl) (And.intro (And.intro (rfl) (And.intro (rfl) (And.intro (And.intro (rfl) (And.intro (rfl) (And.intro (rfl) (And.intro Wy
  rfl)))) trivial))) (And.intro (obEnd_at rfl rfl (by (try dsimp only [std_eq,stdN,nvS])<;>omega) (lenL_nn _) Wm Wo Wp) trivial))))
theorem ss_size_ok (s:T_embed_status_) (r:Int) (h:ss_size s=some r):PureFn Tryz.prog 93 [.imm 1 1 (fun _ j=>(D_embed_status_ nvS s j)) 0 0] ((WV r)):=by
 obtain ⟨s_l⟩:=s
 unfold ss_size at h
 try dsimp only at h
 refine fn_tr tt0_ok Tryz.func93 (by kernel_rfl) (c:=bodyOf Tryz.f93) (by kernel_rfl) ?_
 intro ctr hc
 refine Wc [] [] [] 0 [] fun N hN=>?_
 generalize hp:std Tryz.prog=p;generalize hv:nvS=nv;cbv;subst hp hv
 subst hN;have hr:=Option.some.inj h
 subst hr
 try dsimp only [noGoto,inBlockQ,thenQ]
 repeat (first | refine Wt ?_ | refine We ?_)
 exact retQ_ret rfl trivial rfl
theorem embed_isolate_ok (c':Int) (r:Bool) (h:embed_isolate c'=some r):PureFn Tryz.prog 70 [(WV c')] ((.v (.bool r))):=by
 unfold embed_isolate at h
 refine fn_tr tt0_ok Tryz.func70 (by kernel_rfl) (c:=bodyOf Tryz.f70) (by kernel_rfl) ?_
 intro ctr hc
 refine Wc [] [] [] 0 [] fun N hN=>?_
 generalize hp:std Tryz.prog=p;generalize hv:nvS=nv;cbv;subst hp hv
 refine ⟨(fun hg=>hg),(fun hg=>hg),(fun hg=>hg),(fun hg=>hg),?_⟩
 subst hN;have hr:=Option.some.inj h
 subst hr
 try dsimp only [noGoto,inBlockQ,thenQ]
 repeat (first | refine Wt ?_ | refine We ?_)
 exact retQ_ret rfl trivial rfl
theorem embed_side_ok (level:Int) (r:Int) (h:embed_side level=some r):PureFn Tryz.prog 71 [(WV level)] ((WV r)):=by
 unfold embed_side at h
 refine fn_tr tt0_ok Tryz.func71 (by kernel_rfl) (c:=bodyOf Tryz.f71) (by kernel_rfl) ?_
 intro ctr hc
 refine Wc [] [] [] 0 [] fun N hN=>?_
 generalize hp:std Tryz.prog=p;generalize hv:nvS=nv;cbv;subst hp hv
 refine ⟨fun h1=>?_,fun h1=>?_⟩
 · replace h:=iteO_t h h1
   subst hN;have hr:=Option.some.inj h
   subst hr
   try dsimp only [noGoto,inBlockQ,thenQ]
   repeat (first | refine Wt ?_ | refine We ?_)
   exact retQ_ret rfl trivial rfl
 replace h:=iteO_f h h1
 subst hN;have hr:=Option.some.inj h
 subst hr
 try dsimp only [noGoto,inBlockQ,thenQ]
 repeat (first | refine Wt ?_ | refine We ?_)
 exact retQ_ret rfl trivial rfl
theorem embed_base__ok (l':(List Int)) (match':(List Int)) (from':Int) (to:Int) (r:Int) (h:embed_base_ l' match' from' to=some r):PureFn Tryz.prog 40 [(WS nvS l'),(WS nvS match'),(WV from'),(WV to)] ((WV r)):=by
 unfold embed_base_ at h
 refine fn_tr tt0_ok Tryz.func40 (by kernel_rfl) (c:=bodyOf Tryz.f40) (by kernel_rfl) ?_
 intro ctr hc
 refine Wx [] [] [] 0 [] 1 fun N hN=>?_
 generalize hp:std Tryz.prog=p;generalize hv:nvS=nv;cbv;subst hp hv
 subst hN;show Tr _ _ _ _
 refine Tr.cutSeq (α:=Unit) h (fun _ u=>(WF 34 [] 34 [] u)) (fun _ t=>Hid.ok t) (fun x u hu h=>?_) (fun f h=>?_)
 · obtain ⟨uc,ug,ut⟩:=u;obtain ⟨huc,hug⟩:0 < uc∧∀ k,ug k < uc:=hu
   refine Wc [] [] [] 0 [] fun N hN=>?_
   generalize hp:std Tryz.prog=p;generalize hv:nvS=nv;cbv;subst hp hv
   subst hN;have hr:=Option.some.inj h
   subst hr
   try dsimp only [noGoto,inBlockQ,thenQ]
   repeat (first | refine Wt ?_ | refine We ?_)
   exact retQ_ret rfl trivial rfl
 refine Wx [] [] [] 0 [] 1 fun N hN=>?_
 generalize hp:std Tryz.prog=p;generalize hv:nvS=nv;cbv;subst hp hv
 subst hN;show Tr _ _ _ _
 refine Tr.block ?_
 refine Tr.loopO (α:=Int) (fun i u1=>(WF 34 [(0,WS nvS l'),(1,WS nvS match'),(3,WV to),(9,WV i)] 34 [] u1)) (fun _ t=>Hid.ok t) ⟨ctr+11,gfn [],tfn []⟩ h ?_ ?_ (fun x u1 f hu1 h=>?_)
 · exact Wh
 · exact (Wg (Wk rfl (Wk rfl (Wk rfl (Wk rfl trivial)))) trivial)
 revert h;revert hu1;revert x;intro i hu1 h
 obtain ⟨u1c,u1g,u1t⟩:=u1;obtain ⟨hu1c,hu1g⟩:0 < u1c∧∀ k,u1g k < u1c:=hu1
 refine Wx [] [] [] 0 [] 1 fun N hN=>?_
 generalize hp:std Tryz.prog=p;generalize hv:nvS=nv;cbv;subst hp hv
 refine ⟨fun h61=>?_,fun h61=>?_⟩
 · replace h:=iteO_t h h61
   subst hN;show Tr _ _ _ _
   refine Tr.cutSeq (α:=Int) h (fun i1 u2=>(WF 34 [(0,WS nvS l'),(1,WS nvS match'),(3,WV to),(9,WV i1)] 34 [] u2)) (fun _ t=>Hid.ok t) (fun x u2 hu2 h=>?_) (fun f h=>?_)
   · revert h;revert hu2;revert x;intro i1 hu2 h
     obtain ⟨u2c,u2g,u2t⟩:=u2;obtain ⟨hu2c,hu2g⟩:0 < u2c∧∀ k,u2g k < u2c:=hu2
     refine Wc [] [] [] 0 [] fun N hN=>?_
     generalize hp:std Tryz.prog=p;generalize hv:nvS=nv;cbv;subst hp hv
     replace h:=chk_some h;obtain ⟨h75,h⟩:=h
     refine ⟨h75,?_⟩
     subst hN;cases h
     exact Exists.intro ⟨u2c+10,gfn [],tfn []⟩ (And.intro Wh (Wg (Wk rfl (Wk rfl (Wk rfl (Wk rfl trivial)))) trivial))
   refine Tr.block ?_
   refine Wx [] [] [] 0 [] 1 fun N hN=>?_
   generalize hp:std Tryz.prog=p;generalize hv:nvS=nv;cbv;subst hp hv
   replace h:=chk_some h;obtain ⟨h76,h⟩:=h
   try (have h76z:=h76;simp only [Int.zero_add] at h76z)
   refine ⟨h76,?_⟩
   subst hN;show Tr _ _ _ _
   refine Tr.block ?_
   refine Tr.cutSeq (α:=Bool) h (fun v u3=>(WF 34 [(0,WS nvS l'),(1,WS nvS match'),(3,WV to),(9,WV i),(19,WV (nvS.get 0 l' i)),(20,.v (.bool v))] 34 [] u3)) (fun _ t=>Hid.ok t) (fun x u3 hu3 h=>?_) (fun f h=>?_)
   · revert h;revert hu3;revert x;intro v hu3 h
     obtain ⟨u3c,u3g,u3t⟩:=u3;obtain ⟨hu3c,hu3g⟩:0 < u3c∧∀ k,u3g k < u3c:=hu3
     refine Tr.cond rfl (fun q hq=>by cases hq) (fun h78=>?_) (fun h78=>?_)
     · replace h:=iteO_t h h78
       refine Wc [] [] [] 0 [] fun N hN=>?_
       generalize hp:std Tryz.prog=p;generalize hv:nvS=nv;cbv;subst hp hv
       subst hN;cases h
       intro he;cases he
       intro he;cases he
       intro hr
       subst hr
       try dsimp only [noGoto,inBlockQ,thenQ]
       repeat (first | refine Wt ?_ | refine We ?_)
       exact retQ_ret rfl trivial rfl
     replace h:=iteO_f h h78
     refine Tr.cutSeq (α:=Bool) h (fun v1 u4=>(WF 34 [(0,WS nvS l'),(1,WS nvS match'),(3,WV to),(9,WV i),(19,WV (nvS.get 0 l' i)),(23,.v (.bool v1))] 34 [] u4)) (fun _ t=>Hid.ok t) (fun x u4 hu4 h=>?_) (fun f h=>?_)
     · revert h;revert hu4;revert x;intro v1 hu4 h
       obtain ⟨u4c,u4g,u4t⟩:=u4;obtain ⟨hu4c,hu4g⟩:0 < u4c∧∀ k,u4g k < u4c:=hu4
       refine Wc [] [] [] 0 [] fun N hN=>?_
       generalize hp:std Tryz.prog=p;generalize hv:nvS=nv;cbv;subst hp hv
       refine ⟨fun h80=>?_,fun h80=>?_⟩
       · replace h:=iteO_t h h80
         subst hN;cases h
         intro he;cases he
         intro he;cases he
         intro hr
         subst hr
         try dsimp only [noGoto,inBlockQ,thenQ]
         repeat (first | refine Wt ?_ | refine We ?_)
         exact retQ_ret rfl trivial rfl
       replace h:=iteO_f h h80
       refine ⟨fun h81=>?_,fun h81=>?_⟩
       · replace h:=iteO_t h h81
         refine ⟨fun h82=>?_,fun h82=>?_⟩
         · replace h:=iteO_t h h82
           replace h:=chk_some h;obtain ⟨h83,h⟩:=h
           try (have h83z:=h83;simp only [Int.zero_add] at h83z)
           refine ⟨h83,?_⟩
           subst hN;cases h
           exact Exists.intro ⟨u4c+11,gfn [],tfn []⟩ (And.intro Wh (Wg (Wk rfl (Wk rfl (Wk rfl (Wk rfl trivial)))) trivial))
         replace h:=iteO_f h h82
         subst hN;cases h
         exact Exists.intro ⟨u4c+10,gfn [],tfn []⟩ (And.intro Wh (Wg (Wk rfl (Wk rfl (Wk rfl (Wk rfl trivial)))) trivial))
       replace h:=iteO_f h h81
       refine ⟨fun h84=>?_,fun h84=>?_⟩
       · replace h:=iteO_t h h84
         refine ⟨fun h85=>?_,fun h85=>?_⟩
         · replace h:=iteO_t h h85
           replace h:=chk_some h;obtain ⟨h86,h⟩:=h
           try (have h86z:=h86;simp only [Int.zero_add] at h86z)
           refine ⟨h86,?_⟩
           subst hN;cases h
           exact Exists.intro ⟨u4c+12,gfn [],tfn []⟩ (And.intro Wh (Wg (Wk rfl (Wk rfl (Wk rfl (Wk rfl trivial)))) trivial))
         replace h:=iteO_f h h85
         subst hN;cases h
         exact Exists.intro ⟨u4c+11,gfn [],tfn []⟩ (And.intro Wh (Wg (Wk rfl (Wk rfl (Wk rfl (Wk rfl trivial)))) trivial))
       replace h:=iteO_f h h84
       refine ⟨fun h87=>?_,fun h87=>?_⟩
       · replace h:=iteO_t h h87
         replace h:=chk_some h;obtain ⟨h88,h⟩:=h
         try (have h88z:=h88;simp only [Int.zero_add] at h88z)
         refine ⟨h88,?_⟩
         subst hN;cases h
         exact Exists.intro ⟨u4c+13,gfn [],tfn []⟩ (And.intro Wh (Wg (Wk rfl (Wk rfl (Wk rfl (Wk rfl trivial)))) trivial))
       replace h:=iteO_f h h87
       subst hN;cases h
       exact Exists.intro ⟨u4c+12,gfn [],tfn []⟩ (And.intro Wh (Wg (Wk rfl (Wk rfl (Wk rfl (Wk rfl trivial)))) trivial))
     refine Wc [] [] [] 0 [] fun N hN=>?_
     generalize hp:std Tryz.prog=p;generalize hv:nvS=nv;cbv;subst hp hv
     refine ⟨fun h89=>?_,fun h89=>?_⟩
     · replace h:=iteO_t h h89
       subst hN;cases h
       exact Exists.intro ⟨u3c+10,gfn [],tfn []⟩ (And.intro Wh (Wg (Wk rfl (Wk rfl (Wk rfl (Wk rfl (Wk rfl (Wk rfl trivial)))))) trivial))
     replace h:=iteO_f h h89
     subst hN;cases h
     exact Exists.intro ⟨u3c+11,gfn [],tfn []⟩ (And.intro Wh (Wg (Wk rfl (Wk rfl (Wk rfl (Wk rfl (Wk rfl (Wk rfl trivial)))))) trivial))
   refine Wc [] [] [] 0 [] fun N hN=>?_
   generalize hp:std Tryz.prog=p;generalize hv:nvS=nv;cbv;subst hp hv
   refine ⟨fun h90=>?_,fun h90=>?_⟩
   · replace h:=iteO_t h h90
     subst hN;cases h
     exact Exists.intro ⟨u1c+12,gfn [],tfn []⟩ (And.intro Wh (Wg (Wk rfl (Wk rfl (Wk rfl (Wk rfl (Wk rfl (Wk rfl trivial)))))) trivial))
   replace h:=iteO_f h h90
   subst hN;cases h
   exact Exists.intro ⟨u1c+13,gfn [],tfn []⟩ (And.intro Wh (Wg (Wk rfl (Wk rfl (Wk rfl (Wk rfl (Wk rfl (Wk rfl trivial)))))) trivial))
 replace h:=iteO_f h h61
 subst hN;cases h
 intro he;cases he
 exact Exists.intro ⟨u1c+10,gfn [],tfn []⟩ (And.intro Wh (Wg trivial trivial))
end Go.Vx
