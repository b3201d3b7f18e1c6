/- Walks, by program (lift.py). -/
import Derived.Test.YtkjmcemgncalgaaGreatDoorWWalk
import Derived.Test.YtkjmcemgncalgaaGreatDoorWWalkA
set_option linter.all false
namespace Go.Vx
open Go.Proofs
set_option maxRecDepth 100000
set_option linter.unusedVariables false
set_option linter.unusedSimpArgs false
theorem m_embed_ok (m:T_embed_machine) (i:Int) (c':Int) (r:(T_embed_machine)) (h:m_embed m i c'=some r)   : LentFn Tryz.prog 62 [.bref 0 0 0,(WV i),(WV c')] [.box 0 [WS nvS m.fl,WS nvS m.fmatch,WV m.fbase,.vec 1 0 1 0 (nvS.len m.frun.fLevels),.vec 2 0 1 0 (nvS.len m.frun.fClasses),.vec 3 0 1 0 (nvS.len m.frun.fRemoved),.vec 4 0 3 0 (nvS.len m.fopen.fl),WV m.fisolates,WV m.fembeddings,WV m.fvalid],.arr 0 1 (nvS.len m.frun.fLevels) false (WI nvS m.frun.fLevels),.arr 0 1 (nvS.len m.frun.fClasses) false (WI nvS m.frun.fClasses),.arr 0 1 (nvS.len m.frun.fRemoved) false (fun ix jx=>(.v (.bool (nvS.get false m.frun.fRemoved ix)))),.arr 0 3 (nvS.len m.fopen.fl) false (fun ix jx=>(D_embed_status nvS (nvS.get d_embed_status m.fopen.fl ix) jx))] [.box 0 [WS nvS r.fl,WS nvS r.fmatch,WV r.fbase,.vec 1 1 1 0 (nvS.len r.frun.fLevels),.vec 2 1 1 0 (nvS.len r.frun.fClasses),.vec 3 1 1 0 (nvS.len r.frun.fRemoved),.vec 4 1 3 0 (nvS.len r.fopen.fl),WV r.fisolates,WV r.fembeddings,WV r.fvalid],.arr 1 1 (nvS.len r.frun.fLevels) false (WI nvS r.frun.fLevels),.arr 1 1 (nvS.len r.frun.fClasses) false (WI nvS r.frun.fClasses),.arr 1 1 (nvS.len r.frun.fRemoved) false (fun ix jx=>(.v (.bool (nvS.get false r.frun.fRemoved ix)))),.arr 1 3 (nvS.len r.fopen.fl) false (fun ix jx=>(D_embed_status nvS (nvS.get d_embed_status r.fopen.fl ix) jx))] (.tup 0 (fun _=>.junk)):=by
 obtain ⟨m_l,m_match,m_base,⟨m_run_Levels,m_run_Classes,m_run_Removed⟩,⟨m_open_l⟩,m_isolates,m_embeddings,m_valid⟩:=m
 unfold m_embed at h
 try dsimp only at h
 refine lent_tr tt0_ok Tryz.func62 (by kernel_rfl) (c:=bodyOf Tryz.f62) (by kernel_rfl) rfl ?_
 intro ctr hc
 obtain ⟨v,h1⟩ : ∃ v,valO d_embed_machine (m_remove (T_embed_machine.mk m_l m_match m_base (T_embed_Run.mk m_run_Levels m_run_Classes m_run_Removed) (T_embed_status_.mk m_open_l) m_isolates m_embeddings m_valid) i)=v:=⟨_,rfl⟩
 obtain ⟨v_l,v_match,v_base,⟨v_run_Levels,v_run_Classes,v_run_Removed⟩,⟨v_open_l⟩,v_isolates,v_embeddings,v_valid⟩:=v
 obtain ⟨v1,h2⟩ : ∃ v1,valO (0,false) (m_next (T_embed_machine.mk v_l v_match v_base (T_embed_Run.mk v_run_Levels v_run_Classes v_run_Removed) (T_embed_status_.mk v_open_l) v_isolates v_embeddings v_valid) (if (c' == 17)=true then true else (c' == 18)))=v1:=⟨_,rfl⟩
 obtain ⟨v1_0,v1_1⟩:=v1
 refine Wx [(66,2),(90,4)] [(16,.lent [.box 0 [WS nvS v_l,WS nvS v_match,WV v_base,.vec 1 1 1 0 (nvS.len v_run_Levels),.vec 2 1 1 0 (nvS.len v_run_Classes),.vec 3 1 1 0 (nvS.len v_run_Removed),.vec 4 1 3 0 (nvS.len v_open_l),WV v_isolates,WV v_embeddings,WV v_valid],.arr 1 1 (nvS.len v_run_Levels) false (WI nvS v_run_Levels),.arr 1 1 (nvS.len v_run_Classes) false (WI nvS v_run_Classes),.arr 1 1 (nvS.len v_run_Removed) false (fun ix jx=>(.v (.bool (nvS.get false v_run_Removed ix)))),.arr 1 3 (nvS.len v_open_l) false (fun ix jx=>(D_embed_status nvS (nvS.get d_embed_status v_open_l ix) jx))] (.tup 0 (fun _=>.junk))),(25,.plain (.tup 2 (fun j=>match j with | 0=>(WV v1_0) | 1=>(.v (.bool v1_1)) | _=>.junk)))] [] 5 [] 4 fun N hN=>?_
 generalize hp:std Tryz.prog=p;generalize hv:nvS=nv;cbv;subst hp hv
 replace h:=bindO_val h1 h;clear h1;obtain ⟨h1,h⟩:=h;try dsimp only at h
 refine ⟨rfl,(fun i _ _ j _=>trivial),(fun i _ _ j _=>trivial),rfl,Wl,(fun i _ _ j _=>trivial),rfl,Wl,(fun i _ _ j _=>trivial),rfl,Wl,(fun i _ _ j _=>trivial),rfl,Wl,(fun i _ _ j _=>clo_embed_status _ j),(fun i _ _ j _=>trivial),(fun i _ _ j _=>trivial),(fun i _ _ j _=>trivial),(fun i _ _ j _=>trivial),(fun i _ _ j _=>trivial),(fun i _ _ j _=>clo_embed_status _ j),(m_remove_ok (T_embed_machine.mk m_l m_match m_base (T_embed_Run.mk m_run_Levels m_run_Classes m_run_Removed) (T_embed_status_.mk m_open_l) m_isolates m_embeddings m_valid) i (T_embed_machine.mk v_l v_match v_base (T_embed_Run.mk v_run_Levels v_run_Classes v_run_Removed) (T_embed_status_.mk v_open_l) v_isolates v_embeddings v_valid) h1  ),?_⟩
 replace h:=bindO_val h2 h;clear h2;obtain ⟨h2,h⟩:=h;try dsimp only at h
 refine ⟨(fun hg=>hg),(fun hg=>hg),rfl,rfl,rfl,rfl,rfl,(fun i _ _ j hj=>by rcases (show j=0∨j=1 by omega) with rfl | rfl<;>exact trivial),(PureFn.arg (m_next_ok (T_embed_machine.mk v_l v_match v_base (T_embed_Run.mk v_run_Levels v_run_Classes v_run_Removed) (T_embed_status_.mk v_open_l) v_isolates v_embeddings v_valid) (if (c' == 17)=true then true else (c' == 18)) (v1_0,v1_1) h2) (And.intro (LeD.imm fun q j hj=>(by
  have hj2:j < 10:=hj
  rcases (show j=0∨j=1∨j=2∨j=3∨j=4∨j=5∨j=6∨j=7∨j=8∨j=9 by omega) with rfl | rfl | rfl | rfl | rfl | rfl | rfl | rfl | rfl | rfl
  · exact LeD.refl _
  · exact LeD.refl _
  · exact LeD.refl _
  · exact LeD.slE Wy Wp
  · exact LeD.slE Wy Wp
  · exact LeD.slE Wy Wp
  · exact LeD.slE Wy Wp
  · exact LeD.refl _
  · exact LeD.refl _
  exact LeD.refl _)) (And.intro (LeD.refl _) trivial))),?_⟩
 refine ⟨fun h3=>?_,fun h3=>?_⟩
 · replace h:=iteO_t h h3
   refine ⟨rfl,?_⟩
   refine ⟨fun h4=>?_,fun h4=>?_⟩
   · replace h:=iteO_t h h4
     replace h:=chk_some h;obtain ⟨h5,h⟩:=h
     refine ⟨rfl,h5,rfl,?_⟩
     subst hN;have hr:=Option.some.inj h
     subst hr
     try dsimp only [noGoto,inBlockQ,thenQ]
     repeat (first | refine Wt ?_ | refine We ?_)
     refine lentQ_ret rfl ?_ ?_ [.top,.at 1 0,.at 2 0,.at 3 0,.at 4 0] ?_
     · exact trivial
     · exact trivial
     exact (And.intro (rfl) (And.intro (rfl) (And.intro (And.intro (rfl) (And.intro (rfl) (And.intro (out0_sl (fun i j=>out0_int _ _)) (And.intro (out0_sl (fun i j=>out0_int _ _)) (And.intro (rfl) (And.intro (And.intro (rfl) (And.intro (rfl) (And.intro (rfl) (And.intro Wy
      rfl)))) (And.intro (And.intro (rfl) (And.intro (rfl) (And.intro (rfl) (And.intro Wy
      rfl)))) (And.intro (And.intro (rfl) (And.intro (rfl) (And.intro (rfl) (And.intro Wy
      rfl)))) (And.intro (And.intro (rfl) (And.intro (rfl) (And.intro (rfl) (And.intro Wy
      rfl)))) (And.intro (rfl) (And.intro (rfl) (And.intro (rfl) trivial)))))))))))) (And.intro (obEnd_at0 rfl rfl (lenL_nn _) Wm Wo Wp) (And.intro (obEnd_at0 rfl rfl (lenL_nn _) Wm Wo Wp) (And.intro (obEnd_at0 rfl rfl (lenL_nn _) Wm Wo Wp) (And.intro (obEnd_at0 rfl rfl (lenL_nn _) Wm Wo Wp) trivial)))))))
   replace h:=iteO_f h h4
   subst hN;have hr:=Option.some.inj h
   subst hr
   try dsimp only [noGoto,inBlockQ,thenQ]
   repeat (first | refine Wt ?_ | refine We ?_)
   refine lentQ_ret rfl ?_ ?_ [.top,.at 1 0,.at 2 0,.at 3 0,.at 4 0] ?_
   · exact trivial
   · exact trivial
   exact (And.intro (rfl) (And.intro (rfl) (And.intro (And.intro (rfl) (And.intro (rfl) (And.intro (out0_sl (fun i j=>out0_int _ _)) (And.intro (out0_sl (fun i j=>out0_int _ _)) (And.intro (rfl) (And.intro (And.intro (rfl) (And.intro (rfl) (And.intro (rfl) (And.intro Wy
    rfl)))) (And.intro (And.intro (rfl) (And.intro (rfl) (And.intro (rfl) (And.intro Wy
    rfl)))) (And.intro (And.intro (rfl) (And.intro (rfl) (And.intro (rfl) (And.intro Wy
    rfl)))) (And.intro (And.intro (rfl) (And.intro (rfl) (And.intro (rfl) (And.intro Wy
    rfl)))) (And.intro (rfl) (And.intro (rfl) (And.intro (rfl) trivial)))))))))))) (And.intro (obEnd_at0 rfl rfl (lenL_nn _) Wm Wo Wp) (And.intro (obEnd_at0 rfl rfl (lenL_nn _) Wm Wo Wp) (And.intro (obEnd_at0 rfl rfl (lenL_nn _) Wm Wo Wp) (And.intro (obEnd_at0 rfl rfl (lenL_nn _) Wm Wo Wp) trivial)))))))
 replace h:=iteO_f h h3
 subst hN;show Tr _ _ _ _
 refine Tr.cutSeq (α:=Int) h (fun override u=>(WF 49 [(0,.bref 0 (0) 0),(6,WV v1_0),(8,WV override)] 54 [(0,.box (0) [WS nvS v_l,WS nvS v_match,WV v_base,.vec 1 (u.g 1) 1 0 (nvS.len v_run_Levels),.vec 2 (u.g 2) 1 0 (nvS.len v_run_Classes),.vec 3 (u.g 3) 1 0 (nvS.len v_run_Removed),.vec 4 (u.g 4) 3 0 (nvS.len v_open_l),WV v_isolates,WV v_embeddings,WV v_valid]),(1,.arr (u.g 1) 1 (nvS.len v_run_Levels) (u.t 1) (WI nvS v_run_Levels)),(2,.arr (u.g 2) 1 (nvS.len v_run_Classes) (u.t 2) (WI nvS v_run_Classes)),(3,.arr (u.g 3) 1 (nvS.len v_run_Removed) (u.t 3) (fun ix jx=>(.v (.bool (nvS.get false v_run_Removed ix))))),(4,.arr (u.g 4) 3 (nvS.len v_open_l) (u.t 4) (fun ix jx=>(D_embed_status nvS (nvS.get d_embed_status v_open_l ix) jx)))] u)) (fun _ t=>Hid.ok t) (fun x u hu h=>?_) (fun f h=>?_)
 · revert h;revert hu;revert x;intro override hu h
   obtain ⟨uc,ug,ut⟩:=u;obtain ⟨huc,hug⟩:0 < uc∧∀ k,ug k < uc:=hu
   obtain ⟨v2,h8⟩ : ∃ v2,valO d_embed_status_ (ss_push (T_embed_status_.mk v_open_l) (T_embed_status.mk v1_0 override false))=v2:=⟨_,rfl⟩
   obtain ⟨v2_l⟩:=v2
   refine Wc [(61,2)] [(53,.lent [.box 0 [.vec 1 1 3 0 (nvS.len v2_l)],.arr 1 3 (nvS.len v2_l) false (fun ix jx=>(D_embed_status nvS (nvS.get d_embed_status v2_l ix) jx))] (.tup 0 (fun _=>.junk)))] [] 5 [] fun N hN=>?_
   generalize hp:std Tryz.prog=p;generalize hv:nvS=nv;cbv;subst hp hv
   replace h:=bindO_val h8 h;clear h8;obtain ⟨h8,h⟩:=h;try dsimp only at h
   refine ⟨rfl,(fun _ _ _ j hj=>by (have hj2:j < 3:=hj);(rcases (show j=0∨j=1∨j=2 by omega) with rfl | rfl | rfl);exact trivial;exact trivial;exact trivial),rfl,(by have:=hug 4;show (_:Nat) < _;(try dsimp only [std_eq,stdN]);omega),(fun i _ _ j _=>clo_embed_status _ j),(fun i _ _ j _=>clo_embed_status _ j),(LentFn.arg (ss_push_ok (T_embed_status_.mk v_open_l) (T_embed_status.mk v1_0 override false) (T_embed_status_.mk v2_l) h8  ) (And.intro (LeD.refl _) (And.intro (LeD.agg fun j hj=>by
    have hj2:j < 3:=hj
    rcases (show j=0∨j=1∨j=2 by omega) with rfl | rfl | rfl
    · exact LeD.refl _
    · exact LeD.refl _
    exact LeD.refl _) trivial))),?_⟩
   subst hN;have hr:=Option.some.inj h
   subst hr
   try dsimp only [noGoto,inBlockQ,thenQ]
   repeat (first | refine Wt ?_ | refine We ?_)
   refine lentQ_normal rfl ?_ ?_ [.top,.at 1 0,.at 2 0,.at 3 0,.at 4 0] ?_
   · exact trivial
   · exact trivial
   exact (And.intro (rfl) (And.intro (rfl) (And.intro (And.intro (rfl) (And.intro (rfl) (And.intro (out0_sl (fun i j=>out0_int _ _)) (And.intro (out0_sl (fun i j=>out0_int _ _)) (And.intro (rfl) (And.intro (And.intro (rfl) (And.intro (rfl) (And.intro (rfl) (And.intro Wy
    rfl)))) (And.intro (And.intro (rfl) (And.intro (rfl) (And.intro (rfl) (And.intro Wy
    rfl)))) (And.intro (And.intro (rfl) (And.intro (rfl) (And.intro (rfl) (And.intro Wy
    rfl)))) (And.intro (And.intro (rfl) (And.intro (rfl) (And.intro (rfl) (And.intro Wy
    rfl)))) (And.intro (rfl) (And.intro (rfl) (And.intro (rfl) trivial)))))))))))) (And.intro (obEnd_at0 rfl rfl (lenL_nn _) Wm Wo Wp) (And.intro (obEnd_at0 rfl rfl (lenL_nn _) Wm Wo Wp) (And.intro (obEnd_at0 rfl rfl (lenL_nn _) Wm Wo Wp) (And.intro (obEnd_at0 rfl rfl (lenL_nn _) Wm Wo Wp) trivial)))))))
 refine Wc [] [] [] 5 [] fun N hN=>?_
 generalize hp:std Tryz.prog=p;generalize hv:nvS=nv;cbv;subst hp hv
 refine ⟨fun h9=>?_,fun h9=>?_⟩
 · replace h:=iteO_t h h9
   subst hN;cases h
   exact Exists.intro ⟨ctr+16,gfn [(1,ctr+0),(2,ctr+0),(3,ctr+0),(4,ctr+0)],tfn [(1,false),(2,false),(3,false),(4,false)]⟩ (And.intro Wh (Wg (Wk rfl (Wk rfl (Wk rfl trivial))) (Wi rfl (Wi rfl (Wi rfl (Wi rfl (Wi rfl trivial)))))))
 replace h:=iteO_f h h9
 refine ⟨fun h10=>?_,fun h10=>?_⟩
 · replace h:=iteO_t h h10
   subst hN;cases h
   exact Exists.intro ⟨ctr+17,gfn [(1,ctr+0),(2,ctr+0),(3,ctr+0),(4,ctr+0)],tfn [(1,false),(2,false),(3,false),(4,false)]⟩ (And.intro Wh (Wg (Wk rfl (Wk rfl (Wk rfl trivial))) (Wi rfl (Wi rfl (Wi rfl (Wi rfl (Wi rfl trivial)))))))
 replace h:=iteO_f h h10
 subst hN;cases h
 exact Exists.intro ⟨ctr+16,gfn [(1,ctr+0),(2,ctr+0),(3,ctr+0),(4,ctr+0)],tfn [(1,false),(2,false),(3,false),(4,false)]⟩ (And.intro Wh (Wg (Wk rfl (Wk rfl (Wk rfl trivial))) (Wi rfl (Wi rfl (Wi rfl (Wi rfl (Wi rfl trivial)))))))
theorem m_isolate_ok (m:T_embed_machine) (i:Int) (c':Int) (r:(T_embed_machine)) (h:m_isolate m i c'=some r)   : LentFn Tryz.prog 63 [.bref 0 0 0,(WV i),(WV c')] [.box 0 [WS nvS m.fl,WS nvS m.fmatch,WV m.fbase,.vec 1 0 1 0 (nvS.len m.frun.fLevels),.vec 2 0 1 0 (nvS.len m.frun.fClasses),.vec 3 0 1 0 (nvS.len m.frun.fRemoved),.vec 4 0 3 0 (nvS.len m.fopen.fl),WV m.fisolates,WV m.fembeddings,WV m.fvalid],.arr 0 1 (nvS.len m.frun.fLevels) false (WI nvS m.frun.fLevels),.arr 0 1 (nvS.len m.frun.fClasses) false (WI nvS m.frun.fClasses),.arr 0 1 (nvS.len m.frun.fRemoved) false (fun ix jx=>(.v (.bool (nvS.get false m.frun.fRemoved ix)))),.arr 0 3 (nvS.len m.fopen.fl) false (fun ix jx=>(D_embed_status nvS (nvS.get d_embed_status m.fopen.fl ix) jx))] [.box 0 [WS nvS r.fl,WS nvS r.fmatch,WV r.fbase,.vec 1 1 1 0 (nvS.len r.frun.fLevels),.vec 2 1 1 0 (nvS.len r.frun.fClasses),.vec 3 1 1 0 (nvS.len r.frun.fRemoved),.vec 4 1 3 0 (nvS.len r.fopen.fl),WV r.fisolates,WV r.fembeddings,WV r.fvalid],.arr 1 1 (nvS.len r.frun.fLevels) false (WI nvS r.frun.fLevels),.arr 1 1 (nvS.len r.frun.fClasses) false (WI nvS r.frun.fClasses),.arr 1 1 (nvS.len r.frun.fRemoved) false (fun ix jx=>(.v (.bool (nvS.get false r.frun.fRemoved ix)))),.arr 1 3 (nvS.len r.fopen.fl) false (fun ix jx=>(D_embed_status nvS (nvS.get d_embed_status r.fopen.fl ix) jx))] (.tup 0 (fun _=>.junk)):=by
 obtain ⟨m_l,m_match,m_base,⟨m_run_Levels,m_run_Classes,m_run_Removed⟩,⟨m_open_l⟩,m_isolates,m_embeddings,m_valid⟩:=m
 unfold m_isolate at h
 try dsimp only at h
 refine lent_tr tt0_ok Tryz.func63 (by kernel_rfl) (c:=bodyOf Tryz.f63) (by kernel_rfl) rfl ?_
 intro ctr hc
 refine Wx [] [] [] 5 [] 1 fun N hN=>?_
 generalize hp:std Tryz.prog=p;generalize hv:nvS=nv;cbv;subst hp hv
 subst hN;show Tr _ _ _ _
 refine Tr.cutSeq (α:=Bool) h (fun odd1 u=>(WF 63 [(0,.bref 0 (0) 0),(1,WV i),(6,.v (.bool odd1))] 68 [(0,.box (0) [WS nvS m_l,WS nvS m_match,WV m_base,.vec 1 (u.g 1) 1 0 (nvS.len m_run_Levels),.vec 2 (u.g 2) 1 0 (nvS.len m_run_Classes),.vec 3 (u.g 3) 1 0 (nvS.len m_run_Removed),.vec 4 (u.g 4) 3 0 (nvS.len m_open_l),WV m_isolates,WV m_embeddings,WV m_valid]),(1,.arr (u.g 1) 1 (nvS.len m_run_Levels) (u.t 1) (WI nvS m_run_Levels)),(2,.arr (u.g 2) 1 (nvS.len m_run_Classes) (u.t 2) (WI nvS m_run_Classes)),(3,.arr (u.g 3) 1 (nvS.len m_run_Removed) (u.t 3) (fun ix jx=>(.v (.bool (nvS.get false m_run_Removed ix))))),(4,.arr (u.g 4) 3 (nvS.len m_open_l) (u.t 4) (fun ix jx=>(D_embed_status nvS (nvS.get d_embed_status m_open_l ix) jx)))] u)) (fun _ t=>Hid.ok t) (fun x u hu h=>?_) (fun f h=>?_)
 · revert h;revert hu;revert x;intro odd1 hu h
   obtain ⟨uc,ug,ut⟩:=u;obtain ⟨huc,hug⟩:0 < uc∧∀ k,ug k < uc:=hu
   obtain ⟨v,h5⟩ : ∃ v,valO d_embed_machine (m_take (T_embed_machine.mk m_l m_match m_base (T_embed_Run.mk m_run_Levels m_run_Classes m_run_Removed) (T_embed_status_.mk m_open_l) m_isolates m_embeddings m_valid) i)=v:=⟨_,rfl⟩
   obtain ⟨v_l,v_match,v_base,⟨v_run_Levels,v_run_Classes,v_run_Removed⟩,⟨v_open_l⟩,v_isolates,v_embeddings,v_valid⟩:=v
   obtain ⟨v1,h6⟩ : ∃ v1,valO (0,false) (m_next (T_embed_machine.mk v_l v_match v_base (T_embed_Run.mk v_run_Levels v_run_Classes v_run_Removed) (T_embed_status_.mk v_open_l) v_isolates v_embeddings v_valid) odd1)=v1:=⟨_,rfl⟩
   obtain ⟨v1_0,v1_1⟩:=v1
   obtain ⟨v2,h10⟩ : ∃ v2,valO d_embed_status_ (ss_push (T_embed_status_.mk v_open_l) (T_embed_status.mk v1_0 14 true))=v2:=⟨_,rfl⟩
   obtain ⟨v2_l⟩:=v2
   refine Wc [(61,2),(65,2),(90,4)] [(39,.lent [.box 0 [WS nvS v_l,WS nvS v_match,WV v_base,.vec 1 1 1 0 (nvS.len v_run_Levels),.vec 2 1 1 0 (nvS.len v_run_Classes),.vec 3 1 1 0 (nvS.len v_run_Removed),.vec 4 1 3 0 (nvS.len v_open_l),WV v_isolates,WV v_embeddings,WV v_valid],.arr 1 1 (nvS.len v_run_Levels) false (WI nvS v_run_Levels),.arr 1 1 (nvS.len v_run_Classes) false (WI nvS v_run_Classes),.arr 1 1 (nvS.len v_run_Removed) false (fun ix jx=>(.v (.bool (nvS.get false v_run_Removed ix)))),.arr 1 3 (nvS.len v_open_l) false (fun ix jx=>(D_embed_status nvS (nvS.get d_embed_status v_open_l ix) jx))] (.tup 0 (fun _=>.junk))),(43,.plain (.tup 2 (fun j=>match j with | 0=>(WV v1_0) | 1=>(.v (.bool v1_1)) | _=>.junk))),(67,.lent [.box 0 [.vec 1 1 3 0 (nvS.len v2_l)],.arr 1 3 (nvS.len v2_l) false (fun ix jx=>(D_embed_status nvS (nvS.get d_embed_status v2_l ix) jx))] (.tup 0 (fun _=>.junk)))] [] 5 [] fun N hN=>?_
   generalize hp:std Tryz.prog=p;generalize hv:nvS=nv;cbv;subst hp hv
   replace h:=bindO_val h5 h;clear h5;obtain ⟨h5,h⟩:=h;try dsimp only at h
   refine ⟨rfl,(fun i _ _ j _=>trivial),(fun i _ _ j _=>trivial),rfl,(by have:=hug 1;show (_:Nat) < _;(try dsimp only [std_eq,stdN]);omega),(fun i _ _ j _=>trivial),rfl,(by have:=hug 2;show (_:Nat) < _;(try dsimp only [std_eq,stdN]);omega),(fun i _ _ j _=>trivial),rfl,(by have:=hug 3;show (_:Nat) < _;(try dsimp only [std_eq,stdN]);omega),(fun i _ _ j _=>trivial),rfl,(by have:=hug 4;show (_:Nat) < _;(try dsimp only [std_eq,stdN]);omega),(fun i _ _ j _=>clo_embed_status _ j),(fun i _ _ j _=>trivial),(fun i _ _ j _=>trivial),(fun i _ _ j _=>trivial),(fun i _ _ j _=>trivial),(fun i _ _ j _=>trivial),(fun i _ _ j _=>clo_embed_status _ j),(m_take_ok (T_embed_machine.mk m_l m_match m_base (T_embed_Run.mk m_run_Levels m_run_Classes m_run_Removed) (T_embed_status_.mk m_open_l) m_isolates m_embeddings m_valid) i (T_embed_machine.mk v_l v_match v_base (T_embed_Run.mk v_run_Levels v_run_Classes v_run_Removed) (T_embed_status_.mk v_open_l) v_isolates v_embeddings v_valid) h5  ),?_⟩
   replace h:=bindO_val h6 h;clear h6;obtain ⟨h6,h⟩:=h;try dsimp only at h
   refine ⟨rfl,rfl,rfl,rfl,rfl,(fun i _ _ j hj=>by rcases (show j=0∨j=1 by omega) with rfl | rfl<;>exact trivial),(PureFn.arg (m_next_ok (T_embed_machine.mk v_l v_match v_base (T_embed_Run.mk v_run_Levels v_run_Classes v_run_Removed) (T_embed_status_.mk v_open_l) v_isolates v_embeddings v_valid) odd1 (v1_0,v1_1) h6) (And.intro (LeD.imm fun q j hj=>(by
    have hj2:j < 10:=hj
    rcases (show j=0∨j=1∨j=2∨j=3∨j=4∨j=5∨j=6∨j=7∨j=8∨j=9 by omega) with rfl | rfl | rfl | rfl | rfl | rfl | rfl | rfl | rfl | rfl
    · exact LeD.refl _
    · exact LeD.refl _
    · exact LeD.refl _
    · exact LeD.slE Wy Wp
    · exact LeD.slE Wy Wp
    · exact LeD.slE Wy Wp
    · exact LeD.slE Wy Wp
    · exact LeD.refl _
    · exact LeD.refl _
    exact LeD.refl _)) (And.intro (LeD.refl _) trivial))),?_⟩
   refine ⟨fun h7=>?_,fun h7=>?_⟩
   · replace h:=iteO_t h h7
     replace h:=chk_some h;obtain ⟨h8,h⟩:=h
     refine ⟨rfl,h8,rfl,?_⟩
     subst hN;have hr:=Option.some.inj h
     subst hr
     try dsimp only [noGoto,inBlockQ,thenQ]
     repeat (first | refine Wt ?_ | refine We ?_)
     refine lentQ_ret rfl ?_ ?_ [.top,.at 1 0,.at 2 0,.at 3 0,.at 4 0] ?_
     · exact trivial
     · exact trivial
     exact (And.intro (rfl) (And.intro (rfl) (And.intro (And.intro (rfl) (And.intro (rfl) (And.intro (out0_sl (fun i j=>out0_int _ _)) (And.intro (out0_sl (fun i j=>out0_int _ _)) (And.intro (rfl) (And.intro (And.intro (rfl) (And.intro (rfl) (And.intro (rfl) (And.intro Wy
      rfl)))) (And.intro (And.intro (rfl) (And.intro (rfl) (And.intro (rfl) (And.intro Wy
      rfl)))) (And.intro (And.intro (rfl) (And.intro (rfl) (And.intro (rfl) (And.intro Wy
      rfl)))) (And.intro (And.intro (rfl) (And.intro (rfl) (And.intro (rfl) (And.intro Wy
      rfl)))) (And.intro (rfl) (And.intro (rfl) (And.intro (rfl) trivial)))))))))))) (And.intro (obEnd_at0 rfl rfl (lenL_nn _) Wm Wo Wp) (And.intro (obEnd_at0 rfl rfl (lenL_nn _) Wm Wo Wp) (And.intro (obEnd_at0 rfl rfl (lenL_nn _) Wm Wo Wp) (And.intro (obEnd_at0 rfl rfl (lenL_nn _) Wm Wo Wp) trivial)))))))
   replace h:=iteO_f h h7
   replace h:=chk_some h;obtain ⟨h9,h⟩:=h
   refine ⟨rfl,h9,rfl,?_⟩
   replace h:=bindO_val h10 h;clear h10;obtain ⟨h10,h⟩:=h;try dsimp only at h
   refine ⟨rfl,(fun _ _ _ j hj=>by (have hj2:j < 3:=hj);(rcases (show j=0∨j=1∨j=2 by omega) with rfl | rfl | rfl);exact trivial;exact trivial;exact trivial),rfl,Wl,(fun i _ _ j _=>clo_embed_status _ j),(fun i _ _ j _=>clo_embed_status _ j),(LentFn.arg (ss_push_ok (T_embed_status_.mk v_open_l) (T_embed_status.mk v1_0 14 true) (T_embed_status_.mk v2_l) h10  ) (And.intro (LeD.refl _) (And.intro (LeD.agg fun j hj=>by
    have hj2:j < 3:=hj
    rcases (show j=0∨j=1∨j=2 by omega) with rfl | rfl | rfl
    · exact LeD.refl _
    · exact LeD.refl _
    exact LeD.refl _) trivial))),?_⟩
   subst hN;have hr:=Option.some.inj h
   subst hr
   try dsimp only [noGoto,inBlockQ,thenQ]
   repeat (first | refine Wt ?_ | refine We ?_)
   refine lentQ_normal rfl ?_ ?_ [.top,.at 1 0,.at 2 0,.at 3 0,.at 4 0] ?_
   · exact trivial
   · exact trivial
   exact (And.intro (rfl) (And.intro (rfl) (And.intro (And.intro (rfl) (And.intro (rfl) (And.intro (out0_sl (fun i j=>out0_int _ _)) (And.intro (out0_sl (fun i j=>out0_int _ _)) (And.intro (rfl) (And.intro (And.intro (rfl) (And.intro (rfl) (And.intro (rfl) (And.intro Wy
    rfl)))) (And.intro (And.intro (rfl) (And.intro (rfl) (And.intro (rfl) (And.intro Wy
    rfl)))) (And.intro (And.intro (rfl) (And.intro (rfl) (And.intro (rfl) (And.intro Wy
    rfl)))) (And.intro (And.intro (rfl) (And.intro (rfl) (And.intro (rfl) (And.intro Wy
    rfl)))) (And.intro (rfl) (And.intro (rfl) (And.intro (rfl) trivial)))))))))))) (And.intro (obEnd_at0 rfl rfl (lenL_nn _) Wm Wo Wp) (And.intro (obEnd_at0 rfl rfl (lenL_nn _) Wm Wo Wp) (And.intro (obEnd_at0 rfl rfl (lenL_nn _) Wm Wo Wp) (And.intro (obEnd_at0 rfl rfl (lenL_nn _) Wm Wo Wp) trivial)))))))
 obtain ⟨v3,h14⟩ : ∃ v3,valO 0 (embed_base_ m_l m_match (i+1) (getL 0 m_match i))=v3:=⟨_,rfl⟩
 refine Wc [] [(35,.plain (WV v3))] [] 5 [] fun N hN=>?_
 generalize hp:std Tryz.prog=p;generalize hv:nvS=nv;cbv;subst hp hv
 refine ⟨fun h11=>?_,fun h11=>?_⟩
 · replace h:=iteO_t h h11
   replace h:=chk_some h;obtain ⟨h12,h⟩:=h
   replace h:=chk_some h;obtain ⟨h13,h⟩:=h
   try (have h13z:=h13;simp only [Int.zero_add] at h13z)
   replace h:=bindO_val h14 h;clear h14;obtain ⟨h14,h⟩:=h
   refine ⟨rfl,rfl,h12,rfl,h13,(Or.inl (PureFn.arg (embed_base__ok m_l m_match (i+1) (getL 0 m_match i) v3 h14) (And.intro (LeD.refl _) (And.intro (LeD.refl _) (And.intro (LeD.refl _) (And.intro (LeD.refl _) trivial)))))),(show drOk _ _=true by kernel_rfl),?_⟩
   subst hN;cases h
   exact Exists.intro ⟨ctr+12,gfn [(1,0),(2,0),(3,0),(4,0)],tfn [(1,false),(2,false),(3,false),(4,false)]⟩ (And.intro Wh (Wg (Wk rfl (Wk rfl (Wk rfl trivial))) (Wi rfl (Wi rfl (Wi rfl (Wi rfl (Wi rfl trivial)))))))
 replace h:=iteO_f h h11
 subst hN;cases h
 exact Exists.intro ⟨ctr+11,gfn [(1,0),(2,0),(3,0),(4,0)],tfn [(1,false),(2,false),(3,false),(4,false)]⟩ (And.intro Wh (Wg (Wk rfl (Wk rfl (Wk rfl trivial))) (Wi rfl (Wi rfl (Wi rfl (Wi rfl (Wi rfl trivial)))))))
theorem m_endIsolate_ok (m:T_embed_machine) (r:(T_embed_machine)) (h:m_endIsolate m=some r)   : LentFn Tryz.prog 64 [.bref 0 0 0] [.box 0 [WS nvS m.fl,WS nvS m.fmatch,WV m.fbase,.vec 1 0 1 0 (nvS.len m.frun.fLevels),.vec 2 0 1 0 (nvS.len m.frun.fClasses),.vec 3 0 1 0 (nvS.len m.frun.fRemoved),.vec 4 0 3 0 (nvS.len m.fopen.fl),WV m.fisolates,WV m.fembeddings,WV m.fvalid],.arr 0 1 (nvS.len m.frun.fLevels) false (WI nvS m.frun.fLevels),.arr 0 1 (nvS.len m.frun.fClasses) false (WI nvS m.frun.fClasses),.arr 0 1 (nvS.len m.frun.fRemoved) false (fun ix jx=>(.v (.bool (nvS.get false m.frun.fRemoved ix)))),.arr 0 3 (nvS.len m.fopen.fl) false (fun ix jx=>(D_embed_status nvS (nvS.get d_embed_status m.fopen.fl ix) jx))] [.box 0 [WS nvS r.fl,WS nvS r.fmatch,WV r.fbase,.vec 1 1 1 0 (nvS.len r.frun.fLevels),.vec 2 1 1 0 (nvS.len r.frun.fClasses),.vec 3 1 1 0 (nvS.len r.frun.fRemoved),.vec 4 1 3 0 (nvS.len r.fopen.fl),WV r.fisolates,WV r.fembeddings,WV r.fvalid],.arr 1 1 (nvS.len r.frun.fLevels) false (WI nvS r.frun.fLevels),.arr 1 1 (nvS.len r.frun.fClasses) false (WI nvS r.frun.fClasses),.arr 1 1 (nvS.len r.frun.fRemoved) false (fun ix jx=>(.v (.bool (nvS.get false r.frun.fRemoved ix)))),.arr 1 3 (nvS.len r.fopen.fl) false (fun ix jx=>(D_embed_status nvS (nvS.get d_embed_status r.fopen.fl ix) jx))] (.tup 0 (fun _=>.junk)):=by
 obtain ⟨m_l,m_match,m_base,⟨m_run_Levels,m_run_Classes,m_run_Removed⟩,⟨m_open_l⟩,m_isolates,m_embeddings,m_valid⟩:=m
 unfold m_endIsolate at h
 try dsimp only at h
 refine lent_tr tt0_ok Tryz.func64 (by kernel_rfl) (c:=bodyOf Tryz.f64) (by kernel_rfl) rfl ?_
 intro ctr hc
 refine Wx [] [] [] 5 [] 3 fun N hN=>?_
 generalize hp:std Tryz.prog=p;generalize hv:nvS=nv;cbv;subst hp hv
 refine ⟨rfl,?_⟩
 refine ⟨fun h1=>?_,fun h1=>?_⟩
 · replace h:=iteO_t h h1
   replace h:=chk_some h;obtain ⟨h2,h⟩:=h
   refine ⟨rfl,h2,rfl,?_⟩
   subst hN;have hr:=Option.some.inj h
   subst hr
   try dsimp only [noGoto,inBlockQ,thenQ]
   repeat (first | refine Wt ?_ | refine We ?_)
   refine lentQ_ret rfl ?_ ?_ [.top,.at 1 0,.at 2 0,.at 3 0,.at 4 0] ?_
   · exact trivial
   · exact trivial
   exact (And.intro (rfl) (And.intro (rfl) (And.intro (And.intro (rfl) (And.intro (rfl) (And.intro (out0_sl (fun i j=>out0_int _ _)) (And.intro (out0_sl (fun i j=>out0_int _ _)) (And.intro (rfl) (And.intro (And.intro (rfl) (And.intro (rfl) (And.intro (rfl) (And.intro Wy
    rfl)))) (And.intro (And.intro (rfl) (And.intro (rfl) (And.intro (rfl) (And.intro Wy
    rfl)))) (And.intro (And.intro (rfl) (And.intro (rfl) (And.intro (rfl) (And.intro Wy
    rfl)))) (And.intro (And.intro (rfl) (And.intro (rfl) (And.intro (rfl) (And.intro Wy
    rfl)))) (And.intro (rfl) (And.intro (rfl) (And.intro (rfl) trivial)))))))))))) (And.intro (obEnd_at0 rfl rfl (lenL_nn _) Wm Wo Wp) (And.intro (obEnd_at0 rfl rfl (lenL_nn _) Wm Wo Wp) (And.intro (obEnd_at0 rfl rfl (lenL_nn _) Wm Wo Wp) (And.intro (obEnd_at0 rfl rfl (lenL_nn _) Wm Wo Wp) trivial)))))))
 replace h:=iteO_f h h1
 refine ⟨rfl,?_⟩
 refine ⟨fun h3=>?_,fun h3=>?_⟩
 · replace h:=iteO_t h h3
   subst hN;have hr:=Option.some.inj h
   subst hr
   try dsimp only [noGoto,inBlockQ,thenQ]
   repeat (first | refine Wt ?_ | refine We ?_)
   refine lentQ_ret rfl ?_ ?_ [.top,.at 1 0,.at 2 0,.at 3 0,.at 4 0] ?_
   · exact trivial
   · exact trivial
   exact (And.intro (rfl) (And.intro (rfl) (And.intro (And.intro (rfl) (And.intro (rfl) (And.intro (out0_sl (fun i j=>out0_int _ _)) (And.intro (out0_sl (fun i j=>out0_int _ _)) (And.intro (rfl) (And.intro (And.intro (rfl) (And.intro (rfl) (And.intro (rfl) (And.intro Wy
    rfl)))) (And.intro (And.intro (rfl) (And.intro (rfl) (And.intro (rfl) (And.intro Wy
    rfl)))) (And.intro (And.intro (rfl) (And.intro (rfl) (And.intro (rfl) (And.intro Wy
    rfl)))) (And.intro (And.intro (rfl) (And.intro (rfl) (And.intro (rfl) (And.intro Wy
    rfl)))) (And.intro (rfl) (And.intro (rfl) (And.intro (rfl) trivial)))))))))))) (And.intro (obEnd_at0 rfl rfl (lenL_nn _) Wm Wo Wp) (And.intro (obEnd_at0 rfl rfl (lenL_nn _) Wm Wo Wp) (And.intro (obEnd_at0 rfl rfl (lenL_nn _) Wm Wo Wp) (And.intro (obEnd_at0 rfl rfl (lenL_nn _) Wm Wo Wp) trivial)))))))
 replace h:=iteO_f h h3
 refine ⟨rfl,?_⟩
 subst hN;show Tr _ _ _ _
 refine Tr.cutSeq (α:=List T_embed_status) h (fun o u=>(WF 43 [(0,.bref 0 (0) 0)] 48 [(0,.box (0) [WS nvS m_l,WS nvS m_match,WV m_base,.vec 1 (u.g 1) 1 0 (nvS.len m_run_Levels),.vec 2 (u.g 2) 1 0 (nvS.len m_run_Classes),.vec 3 (u.g 3) 1 0 (nvS.len m_run_Removed),.vec 4 (u.g 4) 3 0 (nvS.len o),WV m_isolates,WV 0,WV m_valid]),(1,.arr (u.g 1) 1 (nvS.len m_run_Levels) (u.t 1) (WI nvS m_run_Levels)),(2,.arr (u.g 2) 1 (nvS.len m_run_Classes) (u.t 2) (WI nvS m_run_Classes)),(3,.arr (u.g 3) 1 (nvS.len m_run_Removed) (u.t 3) (fun ix jx=>(.v (.bool (nvS.get false m_run_Removed ix))))),(4,.arr (u.g 4) 3 (nvS.len o) (u.t 4) (fun ix jx=>(D_embed_status nvS (nvS.get d_embed_status o ix) jx)))] u)) (fun _ t=>Hid.ok t) (fun x u hu h=>?_) (fun f h=>?_)
 · revert h;revert hu;revert x;intro o hu h
   obtain ⟨uc,ug,ut⟩:=u;obtain ⟨huc,hug⟩:0 < uc∧∀ k,ug k < uc:=hu
   obtain ⟨v,h10⟩ : ∃ v,valO d_embed_status_ (ss_pop (T_embed_status_.mk o))=v:=⟨_,rfl⟩
   obtain ⟨v_l⟩:=v
   refine Wc [(92,2)] [(40,.lent [.box 0 [.vec 1 1 3 0 (nvS.len v_l)],.arr 1 3 (nvS.len v_l) false (fun ix jx=>(D_embed_status nvS (nvS.get d_embed_status v_l ix) jx))] (.tup 0 (fun _=>.junk)))] [] 5 [] fun N hN=>?_
   generalize hp:std Tryz.prog=p;generalize hv:nvS=nv;cbv;subst hp hv
   replace h:=bindO_val h10 h;clear h10;obtain ⟨h10,h⟩:=h;try dsimp only at h
   refine ⟨rfl,rfl,(by have:=hug 4;show (_:Nat) < _;(try dsimp only [std_eq,stdN]);omega),(fun i _ _ j _=>clo_embed_status _ j),(fun i _ _ j _=>clo_embed_status _ j),(ss_pop_ok (T_embed_status_.mk o) (T_embed_status_.mk v_l) h10  ),?_⟩
   replace h:=chk_some h;obtain ⟨h11,h⟩:=h
   refine ⟨rfl,h11,rfl,?_⟩
   subst hN;have hr:=Option.some.inj h
   subst hr
   try dsimp only [noGoto,inBlockQ,thenQ]
   repeat (first | refine Wt ?_ | refine We ?_)
   refine lentQ_normal rfl ?_ ?_ [.top,.at 1 0,.at 2 0,.at 3 0,.at 4 0] ?_
   · exact trivial
   · exact trivial
   exact (And.intro (rfl) (And.intro (rfl) (And.intro (And.intro (rfl) (And.intro (rfl) (And.intro (out0_sl (fun i j=>out0_int _ _)) (And.intro (out0_sl (fun i j=>out0_int _ _)) (And.intro (rfl) (And.intro (And.intro (rfl) (And.intro (rfl) (And.intro (rfl) (And.intro Wy
    rfl)))) (And.intro (And.intro (rfl) (And.intro (rfl) (And.intro (rfl) (And.intro Wy
    rfl)))) (And.intro (And.intro (rfl) (And.intro (rfl) (And.intro (rfl) (And.intro Wy
    rfl)))) (And.intro (And.intro (rfl) (And.intro (rfl) (And.intro (rfl) (And.intro Wy
    rfl)))) (And.intro (rfl) (And.intro (rfl) (And.intro (rfl) trivial)))))))))))) (And.intro (obEnd_at0 rfl rfl (lenL_nn _) Wm Wo Wp) (And.intro (obEnd_at0 rfl rfl (lenL_nn _) Wm Wo Wp) (And.intro (obEnd_at0 rfl rfl (lenL_nn _) Wm Wo Wp) (And.intro (obEnd_at0 rfl rfl (lenL_nn _) Wm Wo Wp) trivial)))))))
 refine Tr.block ?_
 refine Tr.loopO (α:=List T_embed_status) (fun o1 u1=>(WF 43 [(0,.bref 0 (0) 0)] 48 [(0,.box (0) [WS nvS m_l,WS nvS m_match,WV m_base,.vec 1 (u1.g 1) 1 0 (nvS.len m_run_Levels),.vec 2 (u1.g 2) 1 0 (nvS.len m_run_Classes),.vec 3 (u1.g 3) 1 0 (nvS.len m_run_Removed),.vec 4 (u1.g 4) 3 0 (nvS.len o1),WV m_isolates,WV 0,WV m_valid]),(1,.arr (u1.g 1) 1 (nvS.len m_run_Levels) (u1.t 1) (WI nvS m_run_Levels)),(2,.arr (u1.g 2) 1 (nvS.len m_run_Classes) (u1.t 2) (WI nvS m_run_Classes)),(3,.arr (u1.g 3) 1 (nvS.len m_run_Removed) (u1.t 3) (fun ix jx=>(.v (.bool (nvS.get false m_run_Removed ix))))),(4,.arr (u1.g 4) 3 (nvS.len o1) (u1.t 4) (fun ix jx=>(D_embed_status nvS (nvS.get d_embed_status o1 ix) jx)))] u1)) (fun _ t=>Hid.ok t) ⟨ctr+12,gfn [(1,0),(2,0),(3,0),(4,0)],tfn [(1,false),(2,false),(3,false),(4,false)]⟩ h ?_ ?_ (fun x u1 f hu1 h=>?_)
 · exact Wh
 · exact (Wg (Wk rfl trivial) (Wj rfl (LeOb.box (Wb (Wb (Wb (Wb (Wb (Wb (Wd (LeD.vec rfl Wy) (Wb (Wb (Wb trivial))))))))))) (Wi rfl (Wi rfl (Wi rfl (Wa rfl trivial))))))
 revert h;revert hu1;revert x;intro o1 hu1 h
 obtain ⟨u1c,u1g,u1t⟩:=u1;obtain ⟨hu1c,hu1g⟩:0 < u1c∧∀ k,u1g k < u1c:=hu1
 obtain ⟨v1,h18⟩ : ∃ v1,valO d_embed_status (ss_last (T_embed_status_.mk o1))=v1:=⟨_,rfl⟩
 obtain ⟨v1_level,v1_override,v1_isolate⟩:=v1
 obtain ⟨v2,h20⟩ : ∃ v2,valO d_embed_status_ (ss_pop (T_embed_status_.mk o1))=v2:=⟨_,rfl⟩
 obtain ⟨v2_l⟩:=v2
 refine Wc [(91,4),(92,2)] [(30,.plain (.agg 3 (fun j=>(D_embed_status nvS (T_embed_status.mk v1_level v1_override v1_isolate) j)))),(36,.lent [.box 0 [.vec 1 1 3 0 (nvS.len v2_l)],.arr 1 3 (nvS.len v2_l) false (fun ix jx=>(D_embed_status nvS (nvS.get d_embed_status v2_l ix) jx))] (.tup 0 (fun _=>.junk)))] [] 5 [] fun N hN=>?_
 generalize hp:std Tryz.prog=p;generalize hv:nvS=nv;cbv;subst hp hv
 replace h:=bindO_val h18 h;clear h18;obtain ⟨h18,h⟩:=h;try dsimp only at h
 refine ⟨rfl,rfl,rfl,rfl,rfl,(fun _ _ _ _ _=>flat_embed_status _ _),(PureFn.arg (ss_last_ok (T_embed_status_.mk o1) (T_embed_status.mk v1_level v1_override v1_isolate) h18) (And.intro (LeD.win (by decide) fun j hj=>(by
  have hj2:j < 1:=hj
  rcases (show j=0 by omega) with rfl
  · exact LeD.slE Wy Wp)) trivial)),?_⟩
 refine ⟨fun h19=>?_,fun h19=>?_⟩
 · replace h:=iteO_t h h19
   replace h:=bindO_val h20 h;clear h20;obtain ⟨h20,h⟩:=h;try dsimp only at h
   refine ⟨rfl,rfl,(by have:=hu1g 4;show (_:Nat) < _;(try dsimp only [std_eq,stdN]);omega),(fun i _ _ j _=>clo_embed_status _ j),(fun i _ _ j _=>clo_embed_status _ j),(ss_pop_ok (T_embed_status_.mk o1) (T_embed_status_.mk v2_l) h20  ),?_⟩
   subst hN;cases h
   exact Exists.intro ⟨u1c+11,gfn [(1,u1g 1),(2,u1g 2),(3,u1g 3),(4,u1c+1)],tfn [(1,u1t 1),(2,u1t 2),(3,u1t 3),(4,false)]⟩ (And.intro Wh (Wg (Wk rfl trivial) (Wj rfl (LeOb.box (Wb (Wb (Wb (Wb (Wb (Wb (Wd (LeD.vec rfl Wy) (Wb (Wb (Wb trivial))))))))))) (Wi rfl (Wi rfl (Wi rfl (Wa rfl trivial)))))))
 replace h:=iteO_f h h19
 subst hN;cases h
 intro he;cases he
 exact Exists.intro ⟨u1c+10,gfn [(1,u1g 1),(2,u1g 2),(3,u1g 3),(4,u1g 4)],tfn [(1,u1t 1),(2,u1t 2),(3,u1t 3),(4,u1t 4)]⟩ (And.intro Wh (Wg (Wk rfl trivial) (Wj rfl (LeOb.box (Wb (Wb (Wb (Wb (Wb (Wb (Wd (LeD.vec rfl Wy) (Wb (Wb (Wb trivial))))))))))) (Wi rfl (Wi rfl (Wi rfl (Wa rfl trivial)))))))
theorem m_endEmbedding_ok (m:T_embed_machine) (r:(T_embed_machine)) (h:m_endEmbedding m=some r)   : LentFn Tryz.prog 67 [.bref 0 0 0] [.box 0 [WS nvS m.fl,WS nvS m.fmatch,WV m.fbase,.vec 1 0 1 0 (nvS.len m.frun.fLevels),.vec 2 0 1 0 (nvS.len m.frun.fClasses),.vec 3 0 1 0 (nvS.len m.frun.fRemoved),.vec 4 0 3 0 (nvS.len m.fopen.fl),WV m.fisolates,WV m.fembeddings,WV m.fvalid],.arr 0 1 (nvS.len m.frun.fLevels) false (WI nvS m.frun.fLevels),.arr 0 1 (nvS.len m.frun.fClasses) false (WI nvS m.frun.fClasses),.arr 0 1 (nvS.len m.frun.fRemoved) false (fun ix jx=>(.v (.bool (nvS.get false m.frun.fRemoved ix)))),.arr 0 3 (nvS.len m.fopen.fl) false (fun ix jx=>(D_embed_status nvS (nvS.get d_embed_status m.fopen.fl ix) jx))] [.box 0 [WS nvS r.fl,WS nvS r.fmatch,WV r.fbase,.vec 1 1 1 0 (nvS.len r.frun.fLevels),.vec 2 1 1 0 (nvS.len r.frun.fClasses),.vec 3 1 1 0 (nvS.len r.frun.fRemoved),.vec 4 1 3 0 (nvS.len r.fopen.fl),WV r.fisolates,WV r.fembeddings,WV r.fvalid],.arr 1 1 (nvS.len r.frun.fLevels) false (WI nvS r.frun.fLevels),.arr 1 1 (nvS.len r.frun.fClasses) false (WI nvS r.frun.fClasses),.arr 1 1 (nvS.len r.frun.fRemoved) false (fun ix jx=>(.v (.bool (nvS.get false r.frun.fRemoved ix)))),.arr 1 3 (nvS.len r.fopen.fl) false (fun ix jx=>(D_embed_status nvS (nvS.get d_embed_status r.fopen.fl ix) jx))] (.tup 0 (fun _=>.junk)):=by
 obtain ⟨m_l,m_match,m_base,⟨m_run_Levels,m_run_Classes,m_run_Removed⟩,⟨m_open_l⟩,m_isolates,m_embeddings,m_valid⟩:=m
 unfold m_endEmbedding at h
 try dsimp only at h
 refine lent_tr tt0_ok Tryz.func67 (by kernel_rfl) (c:=bodyOf Tryz.f67) (by kernel_rfl) rfl ?_
 intro ctr hc
 obtain ⟨v,h4⟩ : ∃ v,valO d_embed_status (ss_last (T_embed_status_.mk m_open_l))=v:=⟨_,rfl⟩
 obtain ⟨v_level,v_override,v_isolate⟩:=v
 obtain ⟨v1,h5⟩ : ∃ v1,valO 0 (if (!v_isolate)=true then ss_size (T_embed_status_.mk m_open_l) else some 0)=v1:=⟨_,rfl⟩
 obtain ⟨v2,h7⟩ : ∃ v2,valO d_embed_status_ (ss_pop (T_embed_status_.mk m_open_l))=v2:=⟨_,rfl⟩
 obtain ⟨v2_l⟩:=v2
 refine Wc [(91,4),(92,2),(93,4)] [(30,.plain (.agg 3 (fun j=>(D_embed_status nvS (T_embed_status.mk v_level v_override v_isolate) j)))),(37,.plain (WV v1)),(43,.lent [.box 0 [.vec 1 1 3 0 (nvS.len v2_l)],.arr 1 3 (nvS.len v2_l) false (fun ix jx=>(D_embed_status nvS (nvS.get d_embed_status v2_l ix) jx))] (.tup 0 (fun _=>.junk)))] [] 5 [] fun N hN=>?_
 generalize hp:std Tryz.prog=p;generalize hv:nvS=nv;cbv;subst hp hv
 refine ⟨rfl,?_⟩
 refine ⟨fun h1=>?_,fun h1=>?_⟩
 · replace h:=iteO_t h h1
   subst hN;have hr:=Option.some.inj h
   subst hr
   try dsimp only [noGoto,inBlockQ,thenQ]
   repeat (first | refine Wt ?_ | refine We ?_)
   refine lentQ_normal rfl ?_ ?_ [.top,.at 1 0,.at 2 0,.at 3 0,.at 4 0] ?_
   · exact trivial
   · exact trivial
   exact (And.intro (rfl) (And.intro (rfl) (And.intro (And.intro (rfl) (And.intro (rfl) (And.intro (out0_sl (fun i j=>out0_int _ _)) (And.intro (out0_sl (fun i j=>out0_int _ _)) (And.intro (rfl) (And.intro (And.intro (rfl) (And.intro (rfl) (And.intro (rfl) (And.intro Wy
    rfl)))) (And.intro (And.intro (rfl) (And.intro (rfl) (And.intro (rfl) (And.intro Wy
    rfl)))) (And.intro (And.intro (rfl) (And.intro (rfl) (And.intro (rfl) (And.intro Wy
    rfl)))) (And.intro (And.intro (rfl) (And.intro (rfl) (And.intro (rfl) (And.intro Wy
    rfl)))) (And.intro (rfl) (And.intro (rfl) (And.intro (rfl) trivial)))))))))))) (And.intro (obEnd_at0 rfl rfl (lenL_nn _) Wm Wo Wp) (And.intro (obEnd_at0 rfl rfl (lenL_nn _) Wm Wo Wp) (And.intro (obEnd_at0 rfl rfl (lenL_nn _) Wm Wo Wp) (And.intro (obEnd_at0 rfl rfl (lenL_nn _) Wm Wo Wp) trivial)))))))
 replace h:=iteO_f h h1
 refine ⟨rfl,?_⟩
 refine ⟨fun h2=>?_,fun h2=>?_⟩
 · replace h:=iteO_t h h2
   replace h:=chk_some h;obtain ⟨h3,h⟩:=h
   refine ⟨rfl,h3,rfl,?_⟩
   subst hN;have hr:=Option.some.inj h
   subst hr
   try dsimp only [noGoto,inBlockQ,thenQ]
   repeat (first | refine Wt ?_ | refine We ?_)
   refine lentQ_normal rfl ?_ ?_ [.top,.at 1 0,.at 2 0,.at 3 0,.at 4 0] ?_
   · exact trivial
   · exact trivial
   exact (And.intro (rfl) (And.intro (rfl) (And.intro (And.intro (rfl) (And.intro (rfl) (And.intro (out0_sl (fun i j=>out0_int _ _)) (And.intro (out0_sl (fun i j=>out0_int _ _)) (And.intro (rfl) (And.intro (And.intro (rfl) (And.intro (rfl) (And.intro (rfl) (And.intro Wy
    rfl)))) (And.intro (And.intro (rfl) (And.intro (rfl) (And.intro (rfl) (And.intro Wy
    rfl)))) (And.intro (And.intro (rfl) (And.intro (rfl) (And.intro (rfl) (And.intro Wy
    rfl)))) (And.intro (And.intro (rfl) (And.intro (rfl) (And.intro (rfl) (And.intro Wy
    rfl)))) (And.intro (rfl) (And.intro (rfl) (And.intro (rfl) trivial)))))))))))) (And.intro (obEnd_at0 rfl rfl (lenL_nn _) Wm Wo Wp) (And.intro (obEnd_at0 rfl rfl (lenL_nn _) Wm Wo Wp) (And.intro (obEnd_at0 rfl rfl (lenL_nn _) Wm Wo Wp) (And.intro (obEnd_at0 rfl rfl (lenL_nn _) Wm Wo Wp) trivial)))))))
 replace h:=iteO_f h h2
 replace h:=bindO_val h4 h;clear h4;obtain ⟨h4,h⟩:=h;try dsimp only at h
 replace h:=bindO_val h5 h;clear h5;obtain ⟨h5,h⟩:=h
 refine ⟨rfl,rfl,rfl,rfl,rfl,(fun _ _ _ _ _=>flat_embed_status _ _),(PureFn.arg (ss_last_ok (T_embed_status_.mk m_open_l) (T_embed_status.mk v_level v_override v_isolate) h4) (And.intro (LeD.win (by decide) fun j hj=>(by
  have hj2:j < 1:=hj
  rcases (show j=0 by omega) with rfl
  · exact LeD.slE Wy Wp)) trivial)),(fun hg=>hg),(fun hg=>hg),(fun hg=>hg),(fun _=>rfl),(fun _=>rfl),(fun _=>rfl),(fun _=>rfl),(fun _=>rfl),(fun _=>trivial),(fun hg=>by have h5:=guardO h5 hg;exact (PureFn.arg (ss_size_ok (T_embed_status_.mk m_open_l) v1 h5) (And.intro (LeD.win (by decide) fun j hj=>(by
  have hj2:j < 1:=hj
  rcases (show j=0 by omega) with rfl
  · exact LeD.slE Wy Wp)) trivial))),(fun hg=>hg),(fun hg=>hg),?_⟩
 refine ⟨fun h6=>?_,fun h6=>?_⟩
 · replace h:=iteO_t h h6
   replace h:=bindO_val h7 h;clear h7;obtain ⟨h7,h⟩:=h;try dsimp only at h
   refine ⟨rfl,rfl,Wl,(fun i _ _ j _=>clo_embed_status _ j),(fun i _ _ j _=>clo_embed_status _ j),(ss_pop_ok (T_embed_status_.mk m_open_l) (T_embed_status_.mk v2_l) h7  ),?_⟩
   subst hN;have hr:=Option.some.inj h
   subst hr
   try dsimp only [noGoto,inBlockQ,thenQ]
   repeat (first | refine Wt ?_ | refine We ?_)
   refine lentQ_normal rfl ?_ ?_ [.top,.at 1 0,.at 2 0,.at 3 0,.at 4 0] ?_
   · exact trivial
   · exact trivial
   exact (And.intro (rfl) (And.intro (rfl) (And.intro (And.intro (rfl) (And.intro (rfl) (And.intro (out0_sl (fun i j=>out0_int _ _)) (And.intro (out0_sl (fun i j=>out0_int _ _)) (And.intro (rfl) (And.intro (And.intro (rfl) (And.intro (rfl) (And.intro (rfl) (And.intro Wy
    rfl)))) (And.intro (And.intro (rfl) (And.intro (rfl) (And.intro (rfl) (And.intro Wy
    rfl)))) (And.intro (And.intro (rfl) (And.intro (rfl) (And.intro (rfl) (And.intro Wy
    rfl)))) (And.intro (And.intro (rfl) (And.intro (rfl) (And.intro (rfl) (And.intro Wy
    rfl)))) (And.intro (rfl) (And.intro (rfl) (And.intro (rfl) trivial)))))))))))) (And.intro (obEnd_at0 rfl rfl (lenL_nn _) Wm Wo Wp) (And.intro (obEnd_at0 rfl rfl (lenL_nn _) Wm Wo Wp) (And.intro (obEnd_at0 rfl rfl (lenL_nn _) Wm Wo Wp) (And.intro (obEnd_at0 rfl rfl (lenL_nn _) Wm Wo Wp) trivial)))))))
 replace h:=iteO_f h h6
 subst hN;have hr:=Option.some.inj h
 subst hr
 try dsimp only [noGoto,inBlockQ,thenQ]
 repeat (first | refine Wt ?_ | refine We ?_)
 refine lentQ_normal rfl ?_ ?_ [.top,.at 1 0,.at 2 0,.at 3 0,.at 4 0] ?_
 · exact trivial
 · exact trivial
 exact (And.intro (rfl) (And.intro (rfl) (And.intro (And.intro (rfl) (And.intro (rfl) (And.intro (out0_sl (fun i j=>out0_int _ _)) (And.intro (out0_sl (fun i j=>out0_int _ _)) (And.intro (rfl) (And.intro (And.intro (rfl) (And.intro (rfl) (And.intro (rfl) (And.intro Wy
  rfl)))) (And.intro (And.intro (rfl) (And.intro (rfl) (And.intro (rfl) (And.intro Wy
  rfl)))) (And.intro (And.intro (rfl) (And.intro (rfl) (And.intro (rfl) (And.intro Wy
  rfl)))) (And.intro (And.intro (rfl) (And.intro (rfl) (And.intro (rfl) (And.intro Wy
  rfl)))) (And.intro (rfl) (And.intro (rfl) (And.intro (rfl) trivial)))))))))))) (And.intro (obEnd_at0 rfl rfl (lenL_nn _) Wm Wo Wp) (And.intro (obEnd_at0 rfl rfl (lenL_nn _) Wm Wo Wp) (And.intro (obEnd_at0 rfl rfl (lenL_nn _) Wm Wo Wp) (And.intro (obEnd_at0 rfl rfl (lenL_nn _) Wm Wo Wp) trivial)))))))
end Go.Vx
