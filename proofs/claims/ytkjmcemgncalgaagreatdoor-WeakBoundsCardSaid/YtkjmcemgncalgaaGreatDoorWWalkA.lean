/- Walks, by program (lift.py). -/
import Derived.Test.YtkjmcemgncalgaaGreatDoorWWalk
import Derived.Test.YtkjmcemgncalgaaGreatDoorWWalkS
set_option linter.all false
namespace Go.Vx
open Go.Proofs
set_option maxRecDepth 100000
set_option linter.unusedVariables false
set_option linter.unusedSimpArgs false
theorem embed_Match_ok (l':(List Int)) (r:(List Int)) (h:embed_Match l'=some r):PureFn Tryz.prog 41 [(WS nvS l')] (.own 1 (nvS.len r) false (WI nvS r)):=by
 unfold embed_Match at h
 refine fn_tr tt0_ok Tryz.func41 (by kernel_rfl) (c:=bodyOf Tryz.f41) (by kernel_rfl) ?_
 intro ctr hc
 refine Wx [] [] [] 0 [] 3 fun N hN=>?_
 generalize hp:std Tryz.prog=p;generalize hv:nvS=nv;cbv;subst hp hv
 replace h:=chk_some h;obtain ⟨h1,h⟩:=h
 have h1':=h1.1;have h1'':=h1.2.1
 refine ⟨h1,?_⟩
 subst hN;show Tr _ _ _ _
 refine Tr.cutSeq (α:=List Int) h (fun out u=>(WF 50 [(3,.vec 9 (u.g 9) 1 0 (nvS.len l'))] 50 [(9,.arr (u.g 9) 1 (nvS.len l') (u.t 9) (WI nvS out))] u)) (fun out t=>Hid.ok t∧lenL out=(lenL l')) (fun x u hu h=>?_) (fun f h=>?_)
 · revert h;revert hu;revert x;intro out hu h
   obtain ⟨hu,ht'_f0⟩:=hu
   obtain ⟨uc,ug,ut⟩:=u;obtain ⟨huc,hug⟩:0 < uc∧∀ k,ug k < uc:=hu
   refine Wc [] [] [] 0 [] fun N hN=>?_
   generalize hp:std Tryz.prog=p;generalize hv:nvS=nv;cbv;subst hp hv
   subst hN;have hr:=Option.some.inj h
   subst hr
   try dsimp only [noGoto,inBlockQ,thenQ]
   repeat (first | refine Wt ?_ | refine We ?_)
   exact retQ_ret rfl trivial (And.intro (rfl) (And.intro Wy (And.intro (fun h=>by cases h) (out0_all Wo Wp))))
 refine Wx [] [] [] 0 [] 1 fun N hN=>?_
 generalize hp:std Tryz.prog=p;generalize hv:nvS=nv;cbv;subst hp hv
 subst hN;show Tr _ _ _ _
 refine Tr.block ?_
 refine Tr.loopO (α:=Int × List Int × List Int) (fun (v,out1,o) u1=>(WF 50 [(0,WS nvS l'),(3,.vec 9 (u1.g 9) 1 0 (nvS.len l')),(4,.bref 4 (u1.g 4) 0),(10,WS nvS l'),(11,WV (nvS.len l')),(12,WV v)] 50 [(0,.arr (u1.g 0) 1 (nvS.len o) (u1.t 0) (WI nvS o)),(4,.box (u1.g 4) [.vec 0 (u1.g 0) 1 0 (nvS.len o)]),(9,.arr (u1.g 9) 1 (nvS.len l') (u1.t 9) (WI nvS out1))] u1)) (fun (v,out1,o) t=>Hid.ok t∧lenL out1=(lenL l')) ⟨ctr+14,gfn [(0,ctr+4),(4,ctr+2),(9,ctr+1)],tfn [(0,false),(4,false),(9,((std Tryz.prog).eq (nvS.len l') (nvS.len l')))]⟩ h ?_ ?_ (fun x u1 f hu1 h=>?_)
 · exact (And.intro Wh Wf)
 · refine GeSt.by [.thaw (.cell 4 0) 0 1] rfl ?_ ?_
   · exact trivial
   exact LeSt.frame (show ctr+5 < ctr+14 by omega) rfl rfl (Wk rfl (Wk rfl (Wk rfl (Wk rfl (Wk rfl (Wk rfl trivial)))))) (Wj rfl (LeOb.arr' rfl (fun i i0 i1 j hj=>by exfalso;revert i1;show i < (0:Int)→False;omega)) (Wi rfl (Wa rfl trivial)))
 obtain ⟨v,out1,o⟩:=x
 try dsimp only at h
 obtain ⟨hu1,ht'1_f0⟩:=hu1
 obtain ⟨u1c,u1g,u1t⟩:=u1;obtain ⟨hu1c,hu1g⟩:0 < u1c∧∀ k,u1g k < u1c:=hu1
 refine Wx [] [] [] 0 [] 2 fun N hN=>?_
 generalize hp:std Tryz.prog=p;generalize hv:nvS=nv;cbv;subst hp hv
 refine ⟨fun h74=>?_,fun h74=>?_⟩
 · replace h:=iteO_t h h74
   subst hN;show Tr _ _ _ _
   refine Tr.cutSeq (α:=List Int × List Int) h (fun (out2,o1) u2=>(WF 50 [(0,WS nvS l'),(3,.vec 9 (u2.g 9) 1 0 (nvS.len l')),(4,.bref 4 (u2.g 4) 0),(10,WS nvS l'),(11,WV (nvS.len l')),(12,WV v)] 50 [(0,.arr (u2.g 0) 1 (nvS.len o1) (u2.t 0) (WI nvS o1)),(4,.box (u2.g 4) [.vec 0 (u2.g 0) 1 0 (nvS.len o1)]),(9,.arr (u2.g 9) 1 (nvS.len l') (u2.t 9) (WI nvS out2))] u2)) (fun (out2,o1) t=>Hid.ok t∧lenL out2=(lenL l')) (fun x u2 hu2 h=>?_) (fun f h=>?_)
   · obtain ⟨out2,o1⟩:=x
     try dsimp only at h
     obtain ⟨hu2,ht'2_f0⟩:=hu2
     obtain ⟨u2c,u2g,u2t⟩:=u2;obtain ⟨hu2c,hu2g⟩:0 < u2c∧∀ k,u2g k < u2c:=hu2
     refine Wc [] [] [] 0 [] fun N hN=>?_
     generalize hp:std Tryz.prog=p;generalize hv:nvS=nv;cbv;subst hp hv
     replace h:=chk_some h;obtain ⟨h91,h⟩:=h
     refine ⟨h91,?_⟩
     subst hN;cases h
     exact Exists.intro ⟨u2c+10,gfn [(0,u2g 0),(4,u2g 4),(9,u2g 9)],tfn [(0,u2t 0),(4,false),(9,u2t 9)]⟩ (And.intro ((And.intro Wh Wf)) (Wg (Wk rfl (Wk rfl (Wk rfl (Wk rfl (Wk rfl (Wk rfl trivial)))))) (Wa rfl (Wj rfl (LeOb.box (Wd (LeD.vec rfl Wy) trivial)) (Wi rfl trivial)))))
   refine Tr.block ?_
   refine Wx [] [] [] 0 [] 3 fun N hN=>?_
   generalize hp:std Tryz.prog=p;generalize hv:nvS=nv;cbv;subst hp hv
   replace h:=chk_some h;obtain ⟨h92,h⟩:=h
   try (have h92z:=h92;simp only [Int.zero_add] at h92z)
   refine ⟨h92,?_⟩
   replace h:=chk_some h;obtain ⟨h93,h⟩:=h
   try (have h93z:=h93;simp only [Int.zero_add] at h93z)
   refine ⟨h93,rfl,?_⟩
   subst hN;show Tr _ _ _ _
   refine Tr.block ?_
   refine Tr.cutSeq (α:=Bool) h (fun v1 u3=>(WF 50 [(0,WS nvS l'),(3,.vec 9 (u3.g 9) 1 0 (nvS.len l')),(4,.bref 4 (u3.g 4) 0),(5,WV v),(10,WS nvS l'),(11,WV (nvS.len l')),(12,WV v),(20,WV (nvS.get 0 l' v)),(21,.v (.bool v1))] 50 [(0,.arr (u3.g 0) 1 (nvS.len o) (u3.t 0) (WI nvS o)),(4,.box (u3.g 4) [.vec 0 (u3.g 0) 1 0 (nvS.len o)]),(9,.arr (u3.g 9) 1 (nvS.len l') (u3.t 9) (fun ix jx=>(WV (nvS.get 0 (nvS.set out1 v (-1)) ix))))] u3)) (fun _ t=>Hid.ok t) (fun x u3 hu3 h=>?_) (fun f h=>?_)
   · revert h;revert hu3;revert x;intro v1 hu3 h
     obtain ⟨u3c,u3g,u3t⟩:=u3;obtain ⟨hu3c,hu3g⟩:0 < u3c∧∀ k,u3g k < u3c:=hu3
     obtain ⟨v2,h98⟩ : ∃ v2,valO d_embed_stack_int_ (si_push (T_embed_stack_int_.mk o) v)=v2:=⟨_,rfl⟩
     obtain ⟨v2_l⟩:=v2
     obtain ⟨v3,h100⟩ : ∃ v3,valO 0 (si_size (T_embed_stack_int_.mk o))=v3:=⟨_,rfl⟩
     obtain ⟨v4,h102⟩ : ∃ v4,valO 0 (si_last (T_embed_stack_int_.mk o))=v4:=⟨_,rfl⟩
     obtain ⟨v5,h104⟩ : ∃ v5,valO 0 (si_last (T_embed_stack_int_.mk o))=v5:=⟨_,rfl⟩
     obtain ⟨v6,h106⟩ : ∃ v6,valO d_embed_stack_int_ (si_pop (T_embed_stack_int_.mk o))=v6:=⟨_,rfl⟩
     obtain ⟨v6_l⟩:=v6
     refine Wc [(55,2),(56,4),(57,4),(58,2)] [(31,.lent [.box 0 [.vec 1 1 1 0 (nvS.len v2_l)],.arr 1 1 (nvS.len v2_l) false (WI nvS v2_l)] (.tup 0 (fun _=>.junk))),(34,.plain (WV v3)),(38,.plain (WV v4)),(41,.plain (WV v5)),(44,.lent [.box 0 [.vec 1 1 1 0 (nvS.len v6_l)],.arr 1 1 (nvS.len v6_l) false (WI nvS v6_l)] (.tup 0 (fun _=>.junk)))] [] 0 [] fun N hN=>?_
     generalize hp:std Tryz.prog=p;generalize hv:nvS=nv;cbv;subst hp hv
     refine ⟨fun h96=>?_,fun h96=>?_⟩
     · replace h:=iteO_t h h96
       replace h:=chk_some h;obtain ⟨h97,h⟩:=h
       try (have h97z:=h97;simp only [Int.zero_add] at h97z)
       refine ⟨h97,rfl,?_⟩
       replace h:=bindO_val h98 h;clear h98;obtain ⟨h98,h⟩:=h;try dsimp only at h
       refine ⟨rfl,rfl,(by have:=hu3g 0;show (_:Nat) < _;(try dsimp only [std_eq,stdN]);omega),(fun i _ _ j _=>trivial),(fun i _ _ j _=>trivial),(si_push_ok (T_embed_stack_int_.mk o) v (T_embed_stack_int_.mk v2_l) h98  ),?_⟩
       subst hN;cases h
       exact Exists.intro ⟨u3c+11,gfn [(0,u3c+1),(4,u3g 4),(9,u3g 9)],tfn [(0,false),(4,false),(9,u3t 9)]⟩ (And.intro ((And.intro Wh Wf)) (Wg (Wk rfl (Wk rfl (Wk rfl (Wk rfl (Wk rfl (Wk rfl trivial)))))) (Wa rfl (Wj rfl (LeOb.box (Wd (LeD.vec rfl Wy) trivial)) (Wa rfl trivial)))))
     replace h:=iteO_f h h96
     refine ⟨fun h99=>?_,fun h99=>?_⟩
     · replace h:=iteO_t h h99
       replace h:=bindO_val h100 h;clear h100;obtain ⟨h100,h⟩:=h
       refine ⟨rfl,rfl,(PureFn.arg (si_size_ok (T_embed_stack_int_.mk o) v3 h100) (And.intro (LeD.imm fun q j hj=>(by
        have hj2:j < 1:=hj
        rcases (show j=0 by omega) with rfl
        · exact LeD.slE Wy Wp)) trivial)),?_⟩
       refine ⟨fun h101=>?_,fun h101=>?_⟩
       · replace h:=iteO_t h h101
         replace h:=bindO_val h102 h;clear h102;obtain ⟨h102,h⟩:=h
         replace h:=chk_some h;obtain ⟨h103,h⟩:=h
         try (have h103z:=h103;simp only [Int.zero_add] at h103z)
         refine ⟨rfl,rfl,(PureFn.arg (si_last_ok (T_embed_stack_int_.mk o) v4 h102) (And.intro (LeD.imm fun q j hj=>(by
          have hj2:j < 1:=hj
          rcases (show j=0 by omega) with rfl
          · exact LeD.slE Wy Wp)) trivial)),h103,rfl,?_⟩
         replace h:=bindO_val h104 h;clear h104;obtain ⟨h104,h⟩:=h
         replace h:=chk_some h;obtain ⟨h105,h⟩:=h
         try (have h105z:=h105;simp only [Int.zero_add] at h105z)
         refine ⟨rfl,rfl,(PureFn.arg (si_last_ok (T_embed_stack_int_.mk o) v5 h104) (And.intro (LeD.imm fun q j hj=>(by
          have hj2:j < 1:=hj
          rcases (show j=0 by omega) with rfl
          · exact LeD.slE Wy Wp)) trivial)),h105,rfl,?_⟩
         replace h:=bindO_val h106 h;clear h106;obtain ⟨h106,h⟩:=h;try dsimp only at h
         refine ⟨rfl,rfl,(by have:=hu3g 0;show (_:Nat) < _;(try dsimp only [std_eq,stdN]);omega),(fun i _ _ j _=>trivial),(fun i _ _ j _=>trivial),(si_pop_ok (T_embed_stack_int_.mk o) (T_embed_stack_int_.mk v6_l) h106  ),?_⟩
         subst hN;cases h
         exact Exists.intro ⟨u3c+14,gfn [(0,u3c+4),(4,u3g 4),(9,u3g 9)],tfn [(0,false),(4,false),(9,u3t 9)]⟩ (And.intro ((And.intro Wh Wf)) (Wg (Wk rfl (Wk rfl (Wk rfl (Wk rfl (Wk rfl (Wk rfl trivial)))))) (Wa rfl (Wj rfl (LeOb.box (Wd (LeD.vec rfl Wy) trivial)) (Wa rfl trivial)))))
       replace h:=iteO_f h h101
       subst hN;cases h
       exact Exists.intro ⟨u3c+11,gfn [(0,u3g 0),(4,u3g 4),(9,u3g 9)],tfn [(0,u3t 0),(4,false),(9,u3t 9)]⟩ (And.intro ((And.intro Wh Wf)) (Wg (Wk rfl (Wk rfl (Wk rfl (Wk rfl (Wk rfl (Wk rfl trivial)))))) (Wa rfl (Wj rfl (LeOb.box (Wd (LeD.vec rfl Wy) trivial)) (Wi rfl trivial)))))
     replace h:=iteO_f h h99
     refine ⟨fun h107=>?_,fun h107=>?_⟩
     · replace h:=iteO_t h h107
       refine ⟨rfl,?_⟩
       subst hN;cases h
       show ∃ u,_∧GeSt _ _ _
       refine ⟨⟨u3c+14,gfn [(0,u3c+4),(4,u3g 4),(9,u3g 9)],tfn [(0,false),(4,false),(9,u3t 9)]⟩,(And.intro Wh Wf),?_⟩
       refine GeSt.by [.forget 0,.thaw (.cell 4 0) 0 1] rfl ?_ ?_
       · exact trivial
       exact LeSt.frame (show u3c+5 < u3c+14 by omega) rfl rfl (Wk rfl (Wk rfl (Wk rfl (Wk rfl (Wk rfl (Wk rfl trivial)))))) (Wj rfl (LeOb.arr' rfl (fun i i0 i1 j hj=>by exfalso;revert i1;show i < (0:Int)→False;omega)) (Wi rfl (Wi rfl trivial)))
     replace h:=iteO_f h h107
     subst hN;cases h
     exact Exists.intro ⟨u3c+11,gfn [(0,u3g 0),(4,u3g 4),(9,u3g 9)],tfn [(0,u3t 0),(4,false),(9,u3t 9)]⟩ (And.intro ((And.intro Wh Wf)) (Wg (Wk rfl (Wk rfl (Wk rfl (Wk rfl (Wk rfl (Wk rfl trivial)))))) (Wa rfl (Wj rfl (LeOb.box (Wd (LeD.vec rfl Wy) trivial)) (Wi rfl trivial)))))
   refine Wc [] [] [] 0 [] fun N hN=>?_
   generalize hp:std Tryz.prog=p;generalize hv:nvS=nv;cbv;subst hp hv
   refine ⟨fun h108=>?_,fun h108=>?_⟩
   · replace h:=iteO_t h h108
     subst hN;cases h
     exact Exists.intro ⟨u1c+14,gfn [(0,u1g 0),(4,u1g 4),(9,u1g 9)],tfn [(0,u1t 0),(4,false),(9,u1t 9)]⟩ (And.intro Wh (Wg (Wk rfl (Wk rfl (Wk rfl (Wk rfl (Wk rfl (Wk rfl (Wk rfl (Wk rfl (Wk rfl trivial))))))))) (Wi rfl (Wi rfl (Wa rfl trivial)))))
   replace h:=iteO_f h h108
   refine ⟨fun h109=>?_,fun h109=>?_⟩
   · replace h:=iteO_t h h109
     subst hN;cases h
     exact Exists.intro ⟨u1c+15,gfn [(0,u1g 0),(4,u1g 4),(9,u1g 9)],tfn [(0,u1t 0),(4,false),(9,u1t 9)]⟩ (And.intro Wh (Wg (Wk rfl (Wk rfl (Wk rfl (Wk rfl (Wk rfl (Wk rfl (Wk rfl (Wk rfl (Wk rfl trivial))))))))) (Wi rfl (Wi rfl (Wa rfl trivial)))))
   replace h:=iteO_f h h109
   subst hN;cases h
   exact Exists.intro ⟨u1c+16,gfn [(0,u1g 0),(4,u1g 4),(9,u1g 9)],tfn [(0,u1t 0),(4,false),(9,u1t 9)]⟩ (And.intro Wh (Wg (Wk rfl (Wk rfl (Wk rfl (Wk rfl (Wk rfl (Wk rfl (Wk rfl (Wk rfl (Wk rfl trivial))))))))) (Wi rfl (Wi rfl (Wa rfl trivial)))))
 replace h:=iteO_f h h74
 subst hN;cases h
 intro he;cases he
 exact Exists.intro ⟨u1c+10,gfn [(9,u1g 9)],tfn [(9,u1t 9)]⟩ (And.intro ((And.intro Wh Wf)) (Wg (Wk rfl trivial) (Wi rfl trivial)))
theorem embed_Base_ok (l':(List Int)) (r:Int) (h:embed_Base l'=some r):PureFn Tryz.prog 23 [(WS nvS l')] ((WV r)):=by
 unfold embed_Base at h
 refine fn_tr tt0_ok Tryz.func23 (by kernel_rfl) (c:=bodyOf Tryz.f23) (by kernel_rfl) ?_
 intro ctr hc
 obtain ⟨v,h1⟩ : ∃ v,valO [] (embed_Match l')=v:=⟨_,rfl⟩
 obtain ⟨v1,h2⟩ : ∃ v1,valO 0 (embed_base_ l' v 0 (lenL l'))=v1:=⟨_,rfl⟩
 refine Wc [(40,4),(41,1)] [(5,.own 1 (nvS.len v) false (WI nvS v)),(8,.plain (WV v1))] [] 0 [] fun N hN=>?_
 generalize hp:std Tryz.prog=p;generalize hv:nvS=nv;cbv;subst hp hv
 replace h:=bindO_val h1 h;clear h1;obtain ⟨h1,h⟩:=h
 replace h:=bindO_val h2 h;clear h2;obtain ⟨h2,h⟩:=h
 refine ⟨(Or.inl (PureFn.arg (embed_Match_ok l' v h1) (And.intro (LeD.refl _) trivial))),rfl,(PureFn.arg (embed_base__ok l' v 0 (lenL l') v1 h2) (And.intro (LeD.refl _) (And.intro (LeD.slE Wy Wp) (And.intro (LeD.refl _) (And.intro (LeD.refl _) trivial))))),?_⟩
 subst hN;have hr:=Option.some.inj h
 subst hr
 try dsimp only [noGoto,inBlockQ,thenQ]
 repeat (first | refine Wt ?_ | refine We ?_)
 exact retQ_ret rfl trivial rfl
theorem embed_fits_ok (l':(List Int)) (r':T_embed_Run) (r:Bool) (h:embed_fits l' r'=some r):PureFn Tryz.prog 68 [(WS nvS l'),(.agg 3 (fun j=>(D_embed_Run nvS r' j)))] ((.v (.bool r))):=by
 obtain ⟨r_Levels,r_Classes,r_Removed⟩:=r'
 unfold embed_fits at h
 try dsimp only at h
 refine fn_tr tt0_ok Tryz.func68 (by kernel_rfl) (c:=bodyOf Tryz.f68) (by kernel_rfl) ?_
 intro ctr hc
 refine Wc [] [] [] 0 [] fun N hN=>?_
 generalize hp:std Tryz.prog=p;generalize hv:nvS=nv;cbv;subst hp hv
 refine ⟨rfl,(fun hg=>hg),(fun _=>rfl),(fun hg=>hg),(fun hg=>hg),(fun hg=>hg),(fun hg=>hg),(fun hg=>hg),(fun hg=>hg),(fun _=>rfl),(fun hg=>hg),(fun hg=>hg),(fun hg=>hg),(fun hg=>hg),(fun hg=>hg),?_⟩
 subst hN;have hr:=Option.some.inj h
 subst hr
 try dsimp only [noGoto,inBlockQ,thenQ]
 repeat (first | refine Wt ?_ | refine We ?_)
 exact retQ_ret rfl trivial rfl
theorem m_next_ok (m:T_embed_machine) (odd:Bool) (r:(Int × Bool)) (h:m_next m odd=some r):PureFn Tryz.prog 90 [.imm 10 1 (fun _ j=>(D_embed_machine nvS m j)) 0 0,(.v (.bool odd))] (.tup 2 (fun j=>match j with | 0=>(WV r.1) | 1=>(.v (.bool r.2)) | _=>.junk)):=by
 obtain ⟨m_l,m_match,m_base,⟨m_run_Levels,m_run_Classes,m_run_Removed⟩,⟨m_open_l⟩,m_isolates,m_embeddings,m_valid⟩:=m
 unfold m_next at h
 try dsimp only at h
 refine fn_tr tt0_ok Tryz.func90 (by kernel_rfl) (c:=bodyOf Tryz.f90) (by kernel_rfl) ?_
 intro ctr hc
 obtain ⟨v,h1⟩ : ∃ v,valO d_embed_status (ss_last (T_embed_status_.mk m_open_l))=v:=⟨_,rfl⟩
 obtain ⟨v_level,v_override,v_isolate⟩:=v
 refine Wc [] [(10,.plain (.agg 3 (fun j=>(D_embed_status nvS (T_embed_status.mk v_level v_override v_isolate) j))))] [] 0 [] fun N hN=>?_
 generalize hp:std Tryz.prog=p;generalize hv:nvS=nv;cbv;subst hp hv
 replace h:=bindO_val h1 h;clear h1;obtain ⟨h1,h⟩:=h;try dsimp only at h
 replace h:=chk_some h;obtain ⟨h2,h⟩:=h
 refine ⟨(Or.inl (PureFn.arg (ss_last_ok (T_embed_status_.mk m_open_l) (T_embed_status.mk v_level v_override v_isolate) h1) (And.intro (LeD.win (by decide) fun j hj=>(by
  have hj2:j < 1:=hj
  rcases (show j=0 by omega) with rfl<;>exact LeD.refl _)) trivial))),h2,?_⟩
 replace h:=chk_some h;obtain ⟨h3,h⟩:=h
 refine ⟨h3,?_⟩
 refine ⟨fun h4=>?_,fun h4=>?_⟩
 · replace h:=iteO_t h h4
   replace h:=chk_some h;obtain ⟨h5,h⟩:=h
   refine ⟨h5,?_⟩
   refine ⟨(fun hg=>hg),(fun hg=>hg),(fun hg=>hg),(fun hg=>hg),(fun hg=>hg),(fun hg=>hg),(fun hg=>hg),(fun hg=>hg),(fun hg=>hg),(fun hg=>hg),(show drOk _ _=true by kernel_rfl),?_⟩
   subst hN;have hr:=Option.some.inj h
   subst hr
   try dsimp only [noGoto,inBlockQ,thenQ]
   repeat (first | refine Wt ?_ | refine We ?_)
   exact retQ_ret rfl trivial (And.intro (rfl)
    rfl)
 replace h:=iteO_f h h4
 refine ⟨(fun hg=>hg),(fun hg=>hg),(fun hg=>hg),(fun hg=>hg),(fun hg=>hg),(fun hg=>hg),(fun hg=>hg),(fun hg=>hg),(fun hg=>hg),(fun hg=>hg),(show drOk _ _=true by kernel_rfl),?_⟩
 subst hN;have hr:=Option.some.inj h
 subst hr
 try dsimp only [noGoto,inBlockQ,thenQ]
 repeat (first | refine Wt ?_ | refine We ?_)
 exact retQ_ret rfl trivial (And.intro (rfl)
  rfl)
theorem m_take_ok (m:T_embed_machine) (i:Int) (r:(T_embed_machine)) (h:m_take m i=some r)   : LentFn Tryz.prog 65 [.bref 0 0 0,(WV i)] [.box 0 [WS nvS m.fl,WS nvS m.fmatch,WV m.fbase,.vec 1 0 1 0 (nvS.len m.frun.fLevels),.vec 2 0 1 0 (nvS.len m.frun.fClasses),.vec 3 0 1 0 (nvS.len m.frun.fRemoved),.vec 4 0 3 0 (nvS.len m.fopen.fl),WV m.fisolates,WV m.fembeddings,WV m.fvalid],.arr 0 1 (nvS.len m.frun.fLevels) false (WI nvS m.frun.fLevels),.arr 0 1 (nvS.len m.frun.fClasses) false (WI nvS m.frun.fClasses),.arr 0 1 (nvS.len m.frun.fRemoved) false (fun ix jx=>(.v (.bool (nvS.get false m.frun.fRemoved ix)))),.arr 0 3 (nvS.len m.fopen.fl) false (fun ix jx=>(D_embed_status nvS (nvS.get d_embed_status m.fopen.fl ix) jx))] [.box 0 [WS nvS r.fl,WS nvS r.fmatch,WV r.fbase,.vec 1 1 1 0 (nvS.len r.frun.fLevels),.vec 2 1 1 0 (nvS.len r.frun.fClasses),.vec 3 1 1 0 (nvS.len r.frun.fRemoved),.vec 4 1 3 0 (nvS.len r.fopen.fl),WV r.fisolates,WV r.fembeddings,WV r.fvalid],.arr 1 1 (nvS.len r.frun.fLevels) false (WI nvS r.frun.fLevels),.arr 1 1 (nvS.len r.frun.fClasses) false (WI nvS r.frun.fClasses),.arr 1 1 (nvS.len r.frun.fRemoved) false (fun ix jx=>(.v (.bool (nvS.get false r.frun.fRemoved ix)))),.arr 1 3 (nvS.len r.fopen.fl) false (fun ix jx=>(D_embed_status nvS (nvS.get d_embed_status r.fopen.fl ix) jx))] (.tup 0 (fun _=>.junk)):=by
 obtain ⟨m_l,m_match,m_base,⟨m_run_Levels,m_run_Classes,m_run_Removed⟩,⟨m_open_l⟩,m_isolates,m_embeddings,m_valid⟩:=m
 unfold m_take at h
 try dsimp only at h
 refine lent_tr tt0_ok Tryz.func65 (by kernel_rfl) (c:=bodyOf Tryz.f65) (by kernel_rfl) rfl ?_
 intro ctr hc
 obtain ⟨v,h1⟩ : ∃ v,valO d_embed_status (ss_last (T_embed_status_.mk m_open_l))=v:=⟨_,rfl⟩
 obtain ⟨v_level,v_override,v_isolate⟩:=v
 refine Wc [(91,4)] [(13,.plain (.agg 3 (fun j=>(D_embed_status nvS (T_embed_status.mk v_level v_override v_isolate) j))))] [] 5 [] fun N hN=>?_
 generalize hp:std Tryz.prog=p;generalize hv:nvS=nv;cbv;subst hp hv
 replace h:=bindO_val h1 h;clear h1;obtain ⟨h1,h⟩:=h;try dsimp only at h
 refine ⟨rfl,rfl,rfl,rfl,rfl,(fun _ _ _ _ _=>flat_embed_status _ _),(PureFn.arg (ss_last_ok (T_embed_status_.mk m_open_l) (T_embed_status.mk v_level v_override v_isolate) h1) (And.intro (LeD.win (by decide) fun j hj=>(by
  have hj2:j < 1:=hj
  rcases (show j=0 by omega) with rfl
  · exact LeD.slE Wy Wp)) trivial)),rfl,?_⟩
 replace h:=chk_some h;obtain ⟨h2,h⟩:=h
 try (have h2z:=h2;simp only [Int.zero_add] at h2z)
 refine ⟨rfl,rfl,h2,rfl,(show drOk _ _=true by kernel_rfl),?_⟩
 refine ⟨rfl,?_⟩
 refine ⟨fun h3=>?_,fun h3=>?_⟩
 · replace h:=iteO_t h h3
   replace h:=chk_some h;obtain ⟨h4,h⟩:=h
   try (have h4z:=h4;simp only [Int.zero_add] at h4z)
   refine ⟨rfl,rfl,h4,rfl,(show drOk _ _=true by kernel_rfl),?_⟩
   subst hN;have hr:=Option.some.inj h
   subst hr
   try dsimp only [noGoto,inBlockQ,thenQ]
   repeat (first | refine Wt ?_ | refine We ?_)
   refine lentQ_normal rfl ?_ ?_ [.top,.at 1 0,.at 2 0,.at 3 0,.at 4 0] ?_
   · exact trivial
   · exact trivial
   exact (And.intro (rfl) (And.intro (rfl) (And.intro (And.intro (rfl) (And.intro (rfl) (And.intro (out0_sl (fun i j=>out0_int _ _)) (And.intro (out0_sl (fun i j=>out0_int _ _)) (And.intro (rfl) (And.intro (And.intro (rfl) (And.intro (rfl) (And.intro (rfl) (And.intro Wy
    rfl)))) (And.intro (And.intro (rfl) (And.intro (rfl) (And.intro (rfl) (And.intro Wy
    rfl)))) (And.intro (And.intro (rfl) (And.intro (rfl) (And.intro (rfl) (And.intro Wy
    rfl)))) (And.intro (And.intro (rfl) (And.intro (rfl) (And.intro (rfl) (And.intro Wy
    rfl)))) (And.intro (rfl) (And.intro (rfl) (And.intro (rfl) trivial)))))))))))) (And.intro (obEnd_at0 rfl rfl (lenL_nn _) Wm Wo Wp) (And.intro (obEnd_at0 rfl rfl (lenL_nn _) Wm Wo Wp) (And.intro (obEnd_at0 rfl rfl (lenL_nn _) Wm Wo Wp) (And.intro (obEnd_at0 rfl rfl (lenL_nn _) Wm Wo Wp) trivial)))))))
 replace h:=iteO_f h h3
 subst hN;have hr:=Option.some.inj h
 subst hr
 try dsimp only [noGoto,inBlockQ,thenQ]
 repeat (first | refine Wt ?_ | refine We ?_)
 refine lentQ_normal rfl ?_ ?_ [.top,.at 1 0,.at 2 0,.at 3 0,.at 4 0] ?_
 · exact trivial
 · exact trivial
 exact (And.intro (rfl) (And.intro (rfl) (And.intro (And.intro (rfl) (And.intro (rfl) (And.intro (out0_sl (fun i j=>out0_int _ _)) (And.intro (out0_sl (fun i j=>out0_int _ _)) (And.intro (rfl) (And.intro (And.intro (rfl) (And.intro (rfl) (And.intro (rfl) (And.intro Wy
  rfl)))) (And.intro (And.intro (rfl) (And.intro (rfl) (And.intro (rfl) (And.intro Wy
  rfl)))) (And.intro (And.intro (rfl) (And.intro (rfl) (And.intro (rfl) (And.intro Wy
  rfl)))) (And.intro (And.intro (rfl) (And.intro (rfl) (And.intro (rfl) (And.intro Wy
  rfl)))) (And.intro (rfl) (And.intro (rfl) (And.intro (rfl) trivial)))))))))))) (And.intro (obEnd_at0 rfl rfl (lenL_nn _) Wm Wo Wp) (And.intro (obEnd_at0 rfl rfl (lenL_nn _) Wm Wo Wp) (And.intro (obEnd_at0 rfl rfl (lenL_nn _) Wm Wo Wp) (And.intro (obEnd_at0 rfl rfl (lenL_nn _) Wm Wo Wp) trivial)))))))
theorem m_remove_ok (m:T_embed_machine) (i:Int) (r:(T_embed_machine)) (h:m_remove m i=some r)   : LentFn Tryz.prog 66 [.bref 0 0 0,(WV i)] [.box 0 [WS nvS m.fl,WS nvS m.fmatch,WV m.fbase,.vec 1 0 1 0 (nvS.len m.frun.fLevels),.vec 2 0 1 0 (nvS.len m.frun.fClasses),.vec 3 0 1 0 (nvS.len m.frun.fRemoved),.vec 4 0 3 0 (nvS.len m.fopen.fl),WV m.fisolates,WV m.fembeddings,WV m.fvalid],.arr 0 1 (nvS.len m.frun.fLevels) false (WI nvS m.frun.fLevels),.arr 0 1 (nvS.len m.frun.fClasses) false (WI nvS m.frun.fClasses),.arr 0 1 (nvS.len m.frun.fRemoved) false (fun ix jx=>(.v (.bool (nvS.get false m.frun.fRemoved ix)))),.arr 0 3 (nvS.len m.fopen.fl) false (fun ix jx=>(D_embed_status nvS (nvS.get d_embed_status m.fopen.fl ix) jx))] [.box 0 [WS nvS r.fl,WS nvS r.fmatch,WV r.fbase,.vec 1 1 1 0 (nvS.len r.frun.fLevels),.vec 2 1 1 0 (nvS.len r.frun.fClasses),.vec 3 1 1 0 (nvS.len r.frun.fRemoved),.vec 4 1 3 0 (nvS.len r.fopen.fl),WV r.fisolates,WV r.fembeddings,WV r.fvalid],.arr 1 1 (nvS.len r.frun.fLevels) false (WI nvS r.frun.fLevels),.arr 1 1 (nvS.len r.frun.fClasses) false (WI nvS r.frun.fClasses),.arr 1 1 (nvS.len r.frun.fRemoved) false (fun ix jx=>(.v (.bool (nvS.get false r.frun.fRemoved ix)))),.arr 1 3 (nvS.len r.fopen.fl) false (fun ix jx=>(D_embed_status nvS (nvS.get d_embed_status r.fopen.fl ix) jx))] (.tup 0 (fun _=>.junk)):=by
 obtain ⟨m_l,m_match,m_base,⟨m_run_Levels,m_run_Classes,m_run_Removed⟩,⟨m_open_l⟩,m_isolates,m_embeddings,m_valid⟩:=m
 unfold m_remove at h
 try dsimp only at h
 refine lent_tr tt0_ok Tryz.func66 (by kernel_rfl) (c:=bodyOf Tryz.f66) (by kernel_rfl) rfl ?_
 intro ctr hc
 obtain ⟨v,h1⟩ : ∃ v,valO d_embed_status (ss_last (T_embed_status_.mk m_open_l))=v:=⟨_,rfl⟩
 obtain ⟨v_level,v_override,v_isolate⟩:=v
 refine Wc [(91,4)] [(18,.plain (.agg 3 (fun j=>(D_embed_status nvS (T_embed_status.mk v_level v_override v_isolate) j))))] [] 5 [] fun N hN=>?_
 generalize hp:std Tryz.prog=p;generalize hv:nvS=nv;cbv;subst hp hv
 replace h:=bindO_val h1 h;clear h1;obtain ⟨h1,h⟩:=h;try dsimp only at h
 replace h:=chk_some h;obtain ⟨h2,h⟩:=h
 try (have h2z:=h2;simp only [Int.zero_add] at h2z)
 refine ⟨rfl,rfl,rfl,rfl,rfl,rfl,(fun _ _ _ _ _=>flat_embed_status _ _),(PureFn.arg (ss_last_ok (T_embed_status_.mk m_open_l) (T_embed_status.mk v_level v_override v_isolate) h1) (And.intro (LeD.win (by decide) fun j hj=>(by
  have hj2:j < 1:=hj
  rcases (show j=0 by omega) with rfl
  · exact LeD.slE Wy Wp)) trivial)),h2,rfl,(show drOk _ _=true by kernel_rfl),?_⟩
 replace h:=chk_some h;obtain ⟨h3,h⟩:=h
 try (have h3z:=h3;simp only [Int.zero_add] at h3z)
 refine ⟨rfl,h3,rfl,?_⟩
 subst hN;have hr:=Option.some.inj h
 subst hr
 try dsimp only [noGoto,inBlockQ,thenQ]
 repeat (first | refine Wt ?_ | refine We ?_)
 refine lentQ_normal rfl ?_ ?_ [.top,.at 1 0,.at 2 0,.at 3 0,.at 4 0] ?_
 · exact trivial
 · exact trivial
 exact (And.intro (rfl) (And.intro (rfl) (And.intro (And.intro (rfl) (And.intro (rfl) (And.intro (out0_sl (fun i j=>out0_int _ _)) (And.intro (out0_sl (fun i j=>out0_int _ _)) (And.intro (rfl) (And.intro (And.intro (rfl) (And.intro (rfl) (And.intro (rfl) (And.intro Wy
  rfl)))) (And.intro (And.intro (rfl) (And.intro (rfl) (And.intro (rfl) (And.intro Wy
  rfl)))) (And.intro (And.intro (rfl) (And.intro (rfl) (And.intro (rfl) (And.intro Wy
  rfl)))) (And.intro (And.intro (rfl) (And.intro (rfl) (And.intro (rfl) (And.intro Wy
  rfl)))) (And.intro (rfl) (And.intro (rfl) (And.intro (rfl) trivial)))))))))))) (And.intro (obEnd_at0 rfl rfl (lenL_nn _) Wm Wo Wp) (And.intro (obEnd_at0 rfl rfl (lenL_nn _) Wm Wo Wp) (And.intro (obEnd_at0 rfl rfl (lenL_nn _) Wm Wo Wp) (And.intro (obEnd_at0 rfl rfl (lenL_nn _) Wm Wo Wp) trivial)))))))
end Go.Vx
