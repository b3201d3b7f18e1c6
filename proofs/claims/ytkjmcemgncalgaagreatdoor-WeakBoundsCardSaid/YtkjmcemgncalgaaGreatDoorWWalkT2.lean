/- Walks, by program (lift.py). -/
import Derived.Test.YtkjmcemgncalgaaGreatDoorWWalk
import Derived.Test.YtkjmcemgncalgaaGreatDoorWWalkT
set_option linter.all false
namespace Go.Vx
open Go.Proofs
set_option maxRecDepth 100000
set_option linter.unusedVariables false
set_option linter.unusedSimpArgs false
theorem weak_Weak_ok (l':(List Int)) (sos:Int) (r:(List Int)) (h:weak_Weak l' sos=some r):PureFn Tryz.prog 13 [(WS nvS l'),(WV sos)] (.own 1 (nvS.len r) false (WI nvS r)):=by
 unfold weak_Weak at h
 refine fn_tr tt0_ok Tryz.func13 (by kernel_rfl) (c:=bodyOf Tryz.f13) (by kernel_rfl) ?_
 intro ctr hc
 obtain ⟨v,h1⟩ : ∃ v,valO [] (slices_Clone___int_int_ l')=v:=⟨_,rfl⟩
 refine Wx [(28,1)] [(10,.own 1 (nvS.len v) false (WI nvS v))] [13] 0 [] 3 fun N hN=>?_
 generalize hp:std Tryz.prog=p;generalize hv:nvS=nv;cbv;subst hp hv
 replace h:=bindO_val h1 h;clear h1;obtain ⟨h1,h⟩:=h
 refine ⟨(Or.inl (PureFn.arg (slices_Clone___int_int__ok l' v h1) (And.intro (LeD.refl _) trivial))),rfl,?_⟩
 subst hN;show Tr _ _ _ _
 refine Tr.cutSeq (α:=List Int) h (fun o u=>(WF 26 [(5,.bref 5 (u.g 5) 0)] 26 [(5,.box (u.g 5) [.vec 10 (u.g 10) 1 0 (nvS.len v),WV sos]),(10,.arr (u.g 10) 1 (nvS.len v) (u.t 10) (WI nvS o))] u)) (fun o t=>Hid.ok t∧lenL o=(lenL v)) (fun x u hu h=>?_) (fun f h=>?_)
 · revert h;revert hu;revert x;intro o hu h
   obtain ⟨hu,ht'_f0⟩:=hu
   obtain ⟨uc,ug,ut⟩:=u;obtain ⟨huc,hug⟩:0 < uc∧∀ k,ug k < uc:=hu
   refine Wc [] [] [] 0 [] fun N hN=>?_
   generalize hp:std Tryz.prog=p;generalize hv:nvS=nv;cbv;subst hp hv
   refine ⟨rfl,?_⟩
   subst hN;have hr:=Option.some.inj h
   subst hr
   try dsimp only [noGoto,inBlockQ,thenQ]
   repeat (first | refine Wt ?_ | refine We ?_)
   exact retQ_ret rfl trivial (And.intro (rfl) (And.intro Wy (And.intro (fun h=>by cases h) (out0_all Wo Wp))))
 refine Wx [] [] [] 0 [] 1 fun N hN=>?_
 generalize hp:std Tryz.prog=p;generalize hv:nvS=nv;cbv;subst hp hv
 subst hN;show Tr _ _ _ _
 refine Tr.block ?_
 refine Tr.rounds 8 ?_
 refine TrN.cut (α:=List Int) h (fun o1 u1=>(WF 26 [(5,.bref 5 (u1.g 5) 0),(14,.sl 1 7 false (fun ix jx=>rowsF (std Tryz.prog) 1 7 [.fn (.func 29) 0 (fun _=>.junk),.fn (.func 30) 0 (fun _=>.junk),.fn (.func 31) 0 (fun _=>.junk),.fn (.func 32) 0 (fun _=>.junk),.fn (.func 33) 0 (fun _=>.junk),.fn (.func 34) 0 (fun _=>.junk),.fn (.func 35) 0 (fun _=>.junk)] 0 ix jx)),(15,WV 7),(16,WV 1)] 26 [(5,.box (u1.g 5) [.vec 10 (u1.g 10) 1 0 (nvS.len v),WV sos]),(10,.arr (u1.g 10) 1 (nvS.len v) (u1.t 10) (WI nvS o1))] u1)) (fun o1 t=>Hid.ok t∧lenL o1=(lenL v)) (fun x u1 hu1 h=>?_) (fun f h=>?_)
 · revert h;revert hu1;revert x;intro o1 hu1 h
   obtain ⟨hu1,ht'1_f0⟩:=hu1
   obtain ⟨u1c,u1g,u1t⟩:=u1;obtain ⟨hu1c,hu1g⟩:0 < u1c∧∀ k,u1g k < u1c:=hu1
   refine TrN.cut (α:=List Int) h (fun o2 u2=>(WF 26 [(5,.bref 5 (u2.g 5) 0),(14,.sl 1 7 false (fun ix jx=>rowsF (std Tryz.prog) 1 7 [.fn (.func 29) 0 (fun _=>.junk),.fn (.func 30) 0 (fun _=>.junk),.fn (.func 31) 0 (fun _=>.junk),.fn (.func 32) 0 (fun _=>.junk),.fn (.func 33) 0 (fun _=>.junk),.fn (.func 34) 0 (fun _=>.junk),.fn (.func 35) 0 (fun _=>.junk)] 0 ix jx)),(15,WV 7),(16,WV 2)] 26 [(5,.box (u2.g 5) [.vec 10 (u2.g 10) 1 0 (nvS.len v),WV sos]),(10,.arr (u2.g 10) 1 (nvS.len v) (u2.t 10) (WI nvS o2))] u2)) (fun o2 t=>Hid.ok t∧lenL o2=(lenL v)) (fun x u2 hu2 h=>?_) (fun f h=>?_)
   · revert h;revert hu2;revert x;intro o2 hu2 h
     obtain ⟨hu2,ht'2_f0⟩:=hu2
     obtain ⟨u2c,u2g,u2t⟩:=u2;obtain ⟨hu2c,hu2g⟩:0 < u2c∧∀ k,u2g k < u2c:=hu2
     refine TrN.cut (α:=List Int) h (fun o3 u3=>(WF 26 [(5,.bref 5 (u3.g 5) 0),(14,.sl 1 7 false (fun ix jx=>rowsF (std Tryz.prog) 1 7 [.fn (.func 29) 0 (fun _=>.junk),.fn (.func 30) 0 (fun _=>.junk),.fn (.func 31) 0 (fun _=>.junk),.fn (.func 32) 0 (fun _=>.junk),.fn (.func 33) 0 (fun _=>.junk),.fn (.func 34) 0 (fun _=>.junk),.fn (.func 35) 0 (fun _=>.junk)] 0 ix jx)),(15,WV 7),(16,WV 3)] 26 [(5,.box (u3.g 5) [.vec 10 (u3.g 10) 1 0 (nvS.len v),WV sos]),(10,.arr (u3.g 10) 1 (nvS.len v) (u3.t 10) (WI nvS o3))] u3)) (fun o3 t=>Hid.ok t∧lenL o3=(lenL v)) (fun x u3 hu3 h=>?_) (fun f h=>?_)
     · revert h;revert hu3;revert x;intro o3 hu3 h
       obtain ⟨hu3,ht'3_f0⟩:=hu3
       obtain ⟨u3c,u3g,u3t⟩:=u3;obtain ⟨hu3c,hu3g⟩:0 < u3c∧∀ k,u3g k < u3c:=hu3
       refine TrN.cut (α:=List Int) h (fun o4 u4=>(WF 26 [(5,.bref 5 (u4.g 5) 0),(14,.sl 1 7 false (fun ix jx=>rowsF (std Tryz.prog) 1 7 [.fn (.func 29) 0 (fun _=>.junk),.fn (.func 30) 0 (fun _=>.junk),.fn (.func 31) 0 (fun _=>.junk),.fn (.func 32) 0 (fun _=>.junk),.fn (.func 33) 0 (fun _=>.junk),.fn (.func 34) 0 (fun _=>.junk),.fn (.func 35) 0 (fun _=>.junk)] 0 ix jx)),(15,WV 7),(16,WV 4)] 26 [(5,.box (u4.g 5) [.vec 10 (u4.g 10) 1 0 (nvS.len v),WV sos]),(10,.arr (u4.g 10) 1 (nvS.len v) (u4.t 10) (WI nvS o4))] u4)) (fun o4 t=>Hid.ok t∧lenL o4=(lenL v)) (fun x u4 hu4 h=>?_) (fun f h=>?_)
       · revert h;revert hu4;revert x;intro o4 hu4 h
         obtain ⟨hu4,ht'4_f0⟩:=hu4
         obtain ⟨u4c,u4g,u4t⟩:=u4;obtain ⟨hu4c,hu4g⟩:0 < u4c∧∀ k,u4g k < u4c:=hu4
         refine TrN.cut (α:=List Int) h (fun o5 u5=>(WF 26 [(5,.bref 5 (u5.g 5) 0),(14,.sl 1 7 false (fun ix jx=>rowsF (std Tryz.prog) 1 7 [.fn (.func 29) 0 (fun _=>.junk),.fn (.func 30) 0 (fun _=>.junk),.fn (.func 31) 0 (fun _=>.junk),.fn (.func 32) 0 (fun _=>.junk),.fn (.func 33) 0 (fun _=>.junk),.fn (.func 34) 0 (fun _=>.junk),.fn (.func 35) 0 (fun _=>.junk)] 0 ix jx)),(15,WV 7),(16,WV 5)] 26 [(5,.box (u5.g 5) [.vec 10 (u5.g 10) 1 0 (nvS.len v),WV sos]),(10,.arr (u5.g 10) 1 (nvS.len v) (u5.t 10) (WI nvS o5))] u5)) (fun o5 t=>Hid.ok t∧lenL o5=(lenL v)) (fun x u5 hu5 h=>?_) (fun f h=>?_)
         · revert h;revert hu5;revert x;intro o5 hu5 h
           obtain ⟨hu5,ht'5_f0⟩:=hu5
           obtain ⟨u5c,u5g,u5t⟩:=u5;obtain ⟨hu5c,hu5g⟩:0 < u5c∧∀ k,u5g k < u5c:=hu5
           refine TrN.cut (α:=List Int) h (fun o6 u6=>(WF 26 [(5,.bref 5 (u6.g 5) 0),(14,.sl 1 7 false (fun ix jx=>rowsF (std Tryz.prog) 1 7 [.fn (.func 29) 0 (fun _=>.junk),.fn (.func 30) 0 (fun _=>.junk),.fn (.func 31) 0 (fun _=>.junk),.fn (.func 32) 0 (fun _=>.junk),.fn (.func 33) 0 (fun _=>.junk),.fn (.func 34) 0 (fun _=>.junk),.fn (.func 35) 0 (fun _=>.junk)] 0 ix jx)),(15,WV 7),(16,WV 6)] 26 [(5,.box (u6.g 5) [.vec 10 (u6.g 10) 1 0 (nvS.len v),WV sos]),(10,.arr (u6.g 10) 1 (nvS.len v) (u6.t 10) (WI nvS o6))] u6)) (fun o6 t=>Hid.ok t∧lenL o6=(lenL v)) (fun x u6 hu6 h=>?_) (fun f h=>?_)
           · revert h;revert hu6;revert x;intro o6 hu6 h
             obtain ⟨hu6,ht'6_f0⟩:=hu6
             obtain ⟨u6c,u6g,u6t⟩:=u6;obtain ⟨hu6c,hu6g⟩:0 < u6c∧∀ k,u6g k < u6c:=hu6
             refine TrN.cut (α:=List Int) h (fun o7 u7=>(WF 26 [(5,.bref 5 (u7.g 5) 0),(14,.sl 1 7 false (fun ix jx=>rowsF (std Tryz.prog) 1 7 [.fn (.func 29) 0 (fun _=>.junk),.fn (.func 30) 0 (fun _=>.junk),.fn (.func 31) 0 (fun _=>.junk),.fn (.func 32) 0 (fun _=>.junk),.fn (.func 33) 0 (fun _=>.junk),.fn (.func 34) 0 (fun _=>.junk),.fn (.func 35) 0 (fun _=>.junk)] 0 ix jx)),(15,WV 7),(16,WV 7)] 26 [(5,.box (u7.g 5) [.vec 10 (u7.g 10) 1 0 (nvS.len v),WV sos]),(10,.arr (u7.g 10) 1 (nvS.len v) (u7.t 10) (WI nvS o7))] u7)) (fun o7 t=>Hid.ok t∧lenL o7=(lenL v)) (fun x u7 hu7 h=>?_) (fun f h=>?_)
             · revert h;revert hu7;revert x;intro o7 hu7 h
               obtain ⟨hu7,ht'7_f0⟩:=hu7
               obtain ⟨u7c,u7g,u7t⟩:=u7;obtain ⟨hu7c,hu7g⟩:0 < u7c∧∀ k,u7g k < u7c:=hu7
               show Tr _ _ _ _
               refine Wx [] [] [] 0 [] 2 fun N hN=>?_
               generalize hp:std Tryz.prog=p;generalize hv:nvS=nv;cbv;subst hp hv
               refine ⟨fun h73=>?_,fun h73=>?_⟩
               · first | cases h73 | exact Bool.noConfusion (h73:false=true)
               subst hN
               cases h
               exact Exists.intro ⟨u7c+10,gfn [(5,u7g 5),(10,u7g 10)],tfn [(5,false),(10,u7t 10)]⟩ (And.intro ((And.intro Wh Wf)) (Wg (Wk rfl trivial) (Wi rfl (Wi rfl trivial))))
             refine Wx [] [] [] 0 [] 2 fun N hN=>?_
             generalize hp:std Tryz.prog=p;generalize hv:nvS=nv;cbv;subst hp hv
             refine ⟨fun h74=>?_,fun h74=>?_⟩
             · subst hN
               show Tr _ _ _ _
               refine Tr.cutSeq (α:=List Int) h (fun o8 u8=>(WF 26 [(5,.bref 5 (u8.g 5) 0),(14,.sl 1 7 false (fun ix jx=>rowsF (std Tryz.prog) 1 7 [.fn (.func 29) 0 (fun _=>.junk),.fn (.func 30) 0 (fun _=>.junk),.fn (.func 31) 0 (fun _=>.junk),.fn (.func 32) 0 (fun _=>.junk),.fn (.func 33) 0 (fun _=>.junk),.fn (.func 34) 0 (fun _=>.junk),.fn (.func 35) 0 (fun _=>.junk)] 0 ix jx)),(15,WV 7),(16,WV 6)] 26 [(5,.box (u8.g 5) [.vec 10 (u8.g 10) 1 0 (nvS.len v),WV sos]),(10,.arr (u8.g 10) 1 (nvS.len v) (u8.t 10) (WI nvS o8))] u8)) (fun o8 t=>Hid.ok t∧lenL o8=(lenL v)) (fun x u8 hu8 h=>?_) (fun f h=>?_)
               · revert h;revert hu8;revert x;intro o8 hu8 h
                 obtain ⟨hu8,ht'8_f0⟩:=hu8
                 obtain ⟨u8c,u8g,u8t⟩:=u8;obtain ⟨hu8c,hu8g⟩:0 < u8c∧∀ k,u8g k < u8c:=hu8
                 refine Wc [] [] [] 0 [] fun N hN=>?_
                 generalize hp:std Tryz.prog=p;generalize hv:nvS=nv;cbv;subst hp hv
                 replace h:=chk_some h;obtain ⟨h78,h⟩:=h
                 refine ⟨h78,?_⟩
                 subst hN;cases h
                 exact Exists.intro ⟨u8c+10,gfn [(5,u8g 5),(10,u8g 10)],tfn [(5,false),(10,u8t 10)]⟩ (And.intro ((And.intro Wh Wf)) (Wg (Wk rfl (Wk rfl (Wk rfl (Wk rfl trivial)))) (Wi rfl (Wi rfl trivial))))
               refine Tr.block ?_
               refine Tr.cutSeq (α:=Unit) h (fun _ u9=>(WF 26 [(5,.bref 5 (u9.g 5) 0),(8,.fn (.func 35) 0 (fun _=>.junk)),(14,.sl 1 7 false (fun ix jx=>rowsF (std Tryz.prog) 1 7 [.fn (.func 29) 0 (fun _=>.junk),.fn (.func 30) 0 (fun _=>.junk),.fn (.func 31) 0 (fun _=>.junk),.fn (.func 32) 0 (fun _=>.junk),.fn (.func 33) 0 (fun _=>.junk),.fn (.func 34) 0 (fun _=>.junk),.fn (.func 35) 0 (fun _=>.junk)] 0 ix jx)),(15,WV 7),(16,WV 6)] 26 [(5,.box (u9.g 5) [.vec 10 (u9.g 10) 1 0 (nvS.len v),WV sos]),(10,.arr (u9.g 10) 1 (nvS.len v) (u9.t 10) (WI nvS o6))] u9)) (fun _ t=>Hid.ok t) (fun x u9 hu9 h=>?_) (fun f h=>?_)
               · obtain ⟨u9c,u9g,u9t⟩:=u9;obtain ⟨hu9c,hu9g⟩:0 < u9c∧∀ k,u9g k < u9c:=hu9
                 obtain ⟨v1,h80⟩ : ∃ v1,valO [] (w7 (T_weak_text.mk o6 sos))=v1:=⟨_,rfl⟩
                 refine Wc [(35,2)] [(22,.lent [.arr 0 1 ((nvS.len v)) (u9t 10) (WI nvS v1)] (.tup 0 (fun _=>.junk)))] [] 0 [] fun N hN=>?_
                 generalize hp:std Tryz.prog=p;generalize hv:nvS=nv;cbv;subst hp hv
                 replace h:=bindO_val h80 h;clear h80;obtain ⟨h80,h⟩:=h
                 replace h:=chk_some h;obtain ⟨h81,h⟩:=h
                 refine ⟨rfl,rfl,(fun i _ _ j _=>trivial),rfl,rfl,(fun i _ _ j _=>trivial),(LentFn.arg (w7_ok (T_weak_text.mk o6 sos) v1 h80 (lenL v) (by first | rfl | omega) _) (And.intro (LeD.agg fun j hj=>by
                  have hj2:j < 2:=hj
                  rcases (show j=0∨j=1 by omega) with rfl | rfl
                  · exact LeD.refl _
                  exact LeD.refl _) trivial)),?_⟩
                 subst hN;cases h
                 exact Exists.intro ⟨u9c+10,gfn [(5,u9g 5),(10,u9g 10)],tfn [(5,false),(10,u9t 10)]⟩ (And.intro ((And.intro Wh Wf)) (Wg (Wk rfl (Wk rfl (Wk rfl (Wk rfl trivial)))) (Wi rfl (Wa rfl trivial))))
               refine Wc [] [] [] 0 [] fun N hN=>?_
               generalize hp:std Tryz.prog=p;generalize hv:nvS=nv;cbv;subst hp hv
               replace h:=chk_some h;obtain ⟨h82,h⟩:=h
               refine ⟨h82,?_⟩
               subst hN;cases h
               exact Exists.intro ⟨u6c+11,gfn [(5,u6g 5),(10,u6g 10)],tfn [(5,false),(10,u6t 10)]⟩ (And.intro Wh (Wg (Wk rfl (Wq rfl (LeD.cndF rfl (LeD.cndF rfl (LeD.cndF rfl (LeD.cndF rfl (LeD.cndF rfl (LeD.cndF rfl (LeD.refl _))))))) (Wk rfl (Wk rfl (Wk rfl trivial))))) (Wi rfl (Wi rfl trivial))))
             first | cases h74 | exact Bool.noConfusion (h74:true=false)
           refine Wx [] [] [] 0 [] 2 fun N hN=>?_
           generalize hp:std Tryz.prog=p;generalize hv:nvS=nv;cbv;subst hp hv
           refine ⟨fun h83=>?_,fun h83=>?_⟩
           · subst hN
             show Tr _ _ _ _
             refine Tr.cutSeq (α:=List Int) h (fun o9 u10=>(WF 26 [(5,.bref 5 (u10.g 5) 0),(14,.sl 1 7 false (fun ix jx=>rowsF (std Tryz.prog) 1 7 [.fn (.func 29) 0 (fun _=>.junk),.fn (.func 30) 0 (fun _=>.junk),.fn (.func 31) 0 (fun _=>.junk),.fn (.func 32) 0 (fun _=>.junk),.fn (.func 33) 0 (fun _=>.junk),.fn (.func 34) 0 (fun _=>.junk),.fn (.func 35) 0 (fun _=>.junk)] 0 ix jx)),(15,WV 7),(16,WV 5)] 26 [(5,.box (u10.g 5) [.vec 10 (u10.g 10) 1 0 (nvS.len v),WV sos]),(10,.arr (u10.g 10) 1 (nvS.len v) (u10.t 10) (WI nvS o9))] u10)) (fun o9 t=>Hid.ok t∧lenL o9=(lenL v)) (fun x u10 hu10 h=>?_) (fun f h=>?_)
             · revert h;revert hu10;revert x;intro o9 hu10 h
               obtain ⟨hu10,ht'10_f0⟩:=hu10
               obtain ⟨u10c,u10g,u10t⟩:=u10;obtain ⟨hu10c,hu10g⟩:0 < u10c∧∀ k,u10g k < u10c:=hu10
               refine Wc [] [] [] 0 [] fun N hN=>?_
               generalize hp:std Tryz.prog=p;generalize hv:nvS=nv;cbv;subst hp hv
               replace h:=chk_some h;obtain ⟨h87,h⟩:=h
               refine ⟨h87,?_⟩
               subst hN;cases h
               exact Exists.intro ⟨u10c+10,gfn [(5,u10g 5),(10,u10g 10)],tfn [(5,false),(10,u10t 10)]⟩ (And.intro ((And.intro Wh Wf)) (Wg (Wk rfl (Wk rfl (Wk rfl (Wk rfl trivial)))) (Wi rfl (Wi rfl trivial))))
             refine Tr.block ?_
             refine Tr.cutSeq (α:=Unit) h (fun _ u11=>(WF 26 [(5,.bref 5 (u11.g 5) 0),(8,.fn (.func 34) 0 (fun _=>.junk)),(14,.sl 1 7 false (fun ix jx=>rowsF (std Tryz.prog) 1 7 [.fn (.func 29) 0 (fun _=>.junk),.fn (.func 30) 0 (fun _=>.junk),.fn (.func 31) 0 (fun _=>.junk),.fn (.func 32) 0 (fun _=>.junk),.fn (.func 33) 0 (fun _=>.junk),.fn (.func 34) 0 (fun _=>.junk),.fn (.func 35) 0 (fun _=>.junk)] 0 ix jx)),(15,WV 7),(16,WV 5)] 26 [(5,.box (u11.g 5) [.vec 10 (u11.g 10) 1 0 (nvS.len v),WV sos]),(10,.arr (u11.g 10) 1 (nvS.len v) (u11.t 10) (WI nvS o5))] u11)) (fun _ t=>Hid.ok t) (fun x u11 hu11 h=>?_) (fun f h=>?_)
             · obtain ⟨u11c,u11g,u11t⟩:=u11;obtain ⟨hu11c,hu11g⟩:0 < u11c∧∀ k,u11g k < u11c:=hu11
               obtain ⟨v2,h89⟩ : ∃ v2,valO [] (w6 (T_weak_text.mk o5 sos))=v2:=⟨_,rfl⟩
               refine Wc [(34,2)] [(22,.lent [.arr 0 1 ((nvS.len v)) (u11t 10) (WI nvS v2)] (.tup 0 (fun _=>.junk)))] [] 0 [] fun N hN=>?_
               generalize hp:std Tryz.prog=p;generalize hv:nvS=nv;cbv;subst hp hv
               replace h:=bindO_val h89 h;clear h89;obtain ⟨h89,h⟩:=h
               replace h:=chk_some h;obtain ⟨h90,h⟩:=h
               refine ⟨rfl,rfl,(fun i _ _ j _=>trivial),rfl,rfl,(fun i _ _ j _=>trivial),(LentFn.arg (w6_ok (T_weak_text.mk o5 sos) v2 h89 (lenL v) (by first | rfl | omega) _) (And.intro (LeD.agg fun j hj=>by
                have hj2:j < 2:=hj
                rcases (show j=0∨j=1 by omega) with rfl | rfl
                · exact LeD.refl _
                exact LeD.refl _) trivial)),?_⟩
               subst hN;cases h
               exact Exists.intro ⟨u11c+10,gfn [(5,u11g 5),(10,u11g 10)],tfn [(5,false),(10,u11t 10)]⟩ (And.intro ((And.intro Wh Wf)) (Wg (Wk rfl (Wk rfl (Wk rfl (Wk rfl trivial)))) (Wi rfl (Wa rfl trivial))))
             refine Wc [] [] [] 0 [] fun N hN=>?_
             generalize hp:std Tryz.prog=p;generalize hv:nvS=nv;cbv;subst hp hv
             replace h:=chk_some h;obtain ⟨h91,h⟩:=h
             refine ⟨h91,?_⟩
             subst hN;cases h
             exact Exists.intro ⟨u5c+11,gfn [(5,u5g 5),(10,u5g 10)],tfn [(5,false),(10,u5t 10)]⟩ (And.intro Wh (Wg (Wk rfl (Wq rfl (LeD.cndF rfl (LeD.cndF rfl (LeD.cndF rfl (LeD.cndF rfl (LeD.cndF rfl (LeD.cndT rfl (LeD.refl _))))))) (Wk rfl (Wk rfl (Wk rfl trivial))))) (Wi rfl (Wi rfl trivial))))
           first | cases h83 | exact Bool.noConfusion (h83:true=false)
         refine Wx [] [] [] 0 [] 2 fun N hN=>?_
         generalize hp:std Tryz.prog=p;generalize hv:nvS=nv;cbv;subst hp hv
         refine ⟨fun h92=>?_,fun h92=>?_⟩
         · subst hN
           show Tr _ _ _ _
           refine Tr.cutSeq (α:=List Int) h (fun o10 u12=>(WF 26 [(5,.bref 5 (u12.g 5) 0),(14,.sl 1 7 false (fun ix jx=>rowsF (std Tryz.prog) 1 7 [.fn (.func 29) 0 (fun _=>.junk),.fn (.func 30) 0 (fun _=>.junk),.fn (.func 31) 0 (fun _=>.junk),.fn (.func 32) 0 (fun _=>.junk),.fn (.func 33) 0 (fun _=>.junk),.fn (.func 34) 0 (fun _=>.junk),.fn (.func 35) 0 (fun _=>.junk)] 0 ix jx)),(15,WV 7),(16,WV 4)] 26 [(5,.box (u12.g 5) [.vec 10 (u12.g 10) 1 0 (nvS.len v),WV sos]),(10,.arr (u12.g 10) 1 (nvS.len v) (u12.t 10) (WI nvS o10))] u12)) (fun o10 t=>Hid.ok t∧lenL o10=(lenL v)) (fun x u12 hu12 h=>?_) (fun f h=>?_)
           · revert h;revert hu12;revert x;intro o10 hu12 h
             obtain ⟨hu12,ht'12_f0⟩:=hu12
             obtain ⟨u12c,u12g,u12t⟩:=u12;obtain ⟨hu12c,hu12g⟩:0 < u12c∧∀ k,u12g k < u12c:=hu12
             refine Wc [] [] [] 0 [] fun N hN=>?_
             generalize hp:std Tryz.prog=p;generalize hv:nvS=nv;cbv;subst hp hv
             replace h:=chk_some h;obtain ⟨h96,h⟩:=h
             refine ⟨h96,?_⟩
             subst hN;cases h
             exact Exists.intro ⟨u12c+10,gfn [(5,u12g 5),(10,u12g 10)],tfn [(5,false),(10,u12t 10)]⟩ (And.intro ((And.intro Wh Wf)) (Wg (Wk rfl (Wk rfl (Wk rfl (Wk rfl trivial)))) (Wi rfl (Wi rfl trivial))))
           refine Tr.block ?_
           refine Tr.cutSeq (α:=Unit) h (fun _ u13=>(WF 26 [(5,.bref 5 (u13.g 5) 0),(8,.fn (.func 33) 0 (fun _=>.junk)),(14,.sl 1 7 false (fun ix jx=>rowsF (std Tryz.prog) 1 7 [.fn (.func 29) 0 (fun _=>.junk),.fn (.func 30) 0 (fun _=>.junk),.fn (.func 31) 0 (fun _=>.junk),.fn (.func 32) 0 (fun _=>.junk),.fn (.func 33) 0 (fun _=>.junk),.fn (.func 34) 0 (fun _=>.junk),.fn (.func 35) 0 (fun _=>.junk)] 0 ix jx)),(15,WV 7),(16,WV 4)] 26 [(5,.box (u13.g 5) [.vec 10 (u13.g 10) 1 0 (nvS.len v),WV sos]),(10,.arr (u13.g 10) 1 (nvS.len v) (u13.t 10) (WI nvS o4))] u13)) (fun _ t=>Hid.ok t) (fun x u13 hu13 h=>?_) (fun f h=>?_)
           · obtain ⟨u13c,u13g,u13t⟩:=u13;obtain ⟨hu13c,hu13g⟩:0 < u13c∧∀ k,u13g k < u13c:=hu13
             obtain ⟨v3,h98⟩ : ∃ v3,valO [] (w5 (T_weak_text.mk o4 sos))=v3:=⟨_,rfl⟩
             refine Wc [(33,2)] [(22,.lent [.arr 0 1 ((nvS.len v)) (u13t 10) (WI nvS v3)] (.tup 0 (fun _=>.junk)))] [] 0 [] fun N hN=>?_
             generalize hp:std Tryz.prog=p;generalize hv:nvS=nv;cbv;subst hp hv
             replace h:=bindO_val h98 h;clear h98;obtain ⟨h98,h⟩:=h
             replace h:=chk_some h;obtain ⟨h99,h⟩:=h
             refine ⟨rfl,rfl,(fun i _ _ j _=>trivial),rfl,rfl,(fun i _ _ j _=>trivial),(LentFn.arg (w5_ok (T_weak_text.mk o4 sos) v3 h98 (lenL v) (by first | rfl | omega) _) (And.intro (LeD.agg fun j hj=>by
              have hj2:j < 2:=hj
              rcases (show j=0∨j=1 by omega) with rfl | rfl
              · exact LeD.refl _
              exact LeD.refl _) trivial)),?_⟩
             subst hN;cases h
             exact Exists.intro ⟨u13c+10,gfn [(5,u13g 5),(10,u13g 10)],tfn [(5,false),(10,u13t 10)]⟩ (And.intro ((And.intro Wh Wf)) (Wg (Wk rfl (Wk rfl (Wk rfl (Wk rfl trivial)))) (Wi rfl (Wa rfl trivial))))
           refine Wc [] [] [] 0 [] fun N hN=>?_
           generalize hp:std Tryz.prog=p;generalize hv:nvS=nv;cbv;subst hp hv
           replace h:=chk_some h;obtain ⟨h100,h⟩:=h
           refine ⟨h100,?_⟩
           subst hN;cases h
           exact Exists.intro ⟨u4c+11,gfn [(5,u4g 5),(10,u4g 10)],tfn [(5,false),(10,u4t 10)]⟩ (And.intro Wh (Wg (Wk rfl (Wq rfl (LeD.cndF rfl (LeD.cndF rfl (LeD.cndF rfl (LeD.cndF rfl (LeD.cndT rfl (LeD.refl _)))))) (Wk rfl (Wk rfl (Wk rfl trivial))))) (Wi rfl (Wi rfl trivial))))
         first | cases h92 | exact Bool.noConfusion (h92:true=false)
       refine Wx [] [] [] 0 [] 2 fun N hN=>?_
       generalize hp:std Tryz.prog=p;generalize hv:nvS=nv;cbv;subst hp hv
       refine ⟨fun h101=>?_,fun h101=>?_⟩
       · subst hN
         show Tr _ _ _ _
         refine Tr.cutSeq (α:=List Int) h (fun o11 u14=>(WF 26 [(5,.bref 5 (u14.g 5) 0),(14,.sl 1 7 false (fun ix jx=>rowsF (std Tryz.prog) 1 7 [.fn (.func 29) 0 (fun _=>.junk),.fn (.func 30) 0 (fun _=>.junk),.fn (.func 31) 0 (fun _=>.junk),.fn (.func 32) 0 (fun _=>.junk),.fn (.func 33) 0 (fun _=>.junk),.fn (.func 34) 0 (fun _=>.junk),.fn (.func 35) 0 (fun _=>.junk)] 0 ix jx)),(15,WV 7),(16,WV 3)] 26 [(5,.box (u14.g 5) [.vec 10 (u14.g 10) 1 0 (nvS.len v),WV sos]),(10,.arr (u14.g 10) 1 (nvS.len v) (u14.t 10) (WI nvS o11))] u14)) (fun o11 t=>Hid.ok t∧lenL o11=(lenL v)) (fun x u14 hu14 h=>?_) (fun f h=>?_)
         · revert h;revert hu14;revert x;intro o11 hu14 h
           obtain ⟨hu14,ht'14_f0⟩:=hu14
           obtain ⟨u14c,u14g,u14t⟩:=u14;obtain ⟨hu14c,hu14g⟩:0 < u14c∧∀ k,u14g k < u14c:=hu14
           refine Wc [] [] [] 0 [] fun N hN=>?_
           generalize hp:std Tryz.prog=p;generalize hv:nvS=nv;cbv;subst hp hv
           replace h:=chk_some h;obtain ⟨h105,h⟩:=h
           refine ⟨h105,?_⟩
           subst hN;cases h
           exact Exists.intro ⟨u14c+10,gfn [(5,u14g 5),(10,u14g 10)],tfn [(5,false),(10,u14t 10)]⟩ (And.intro ((And.intro Wh Wf)) (Wg (Wk rfl (Wk rfl (Wk rfl (Wk rfl trivial)))) (Wi rfl (Wi rfl trivial))))
         refine Tr.block ?_
         refine Tr.cutSeq (α:=Unit) h (fun _ u15=>(WF 26 [(5,.bref 5 (u15.g 5) 0),(8,.fn (.func 32) 0 (fun _=>.junk)),(14,.sl 1 7 false (fun ix jx=>rowsF (std Tryz.prog) 1 7 [.fn (.func 29) 0 (fun _=>.junk),.fn (.func 30) 0 (fun _=>.junk),.fn (.func 31) 0 (fun _=>.junk),.fn (.func 32) 0 (fun _=>.junk),.fn (.func 33) 0 (fun _=>.junk),.fn (.func 34) 0 (fun _=>.junk),.fn (.func 35) 0 (fun _=>.junk)] 0 ix jx)),(15,WV 7),(16,WV 3)] 26 [(5,.box (u15.g 5) [.vec 10 (u15.g 10) 1 0 (nvS.len v),WV sos]),(10,.arr (u15.g 10) 1 (nvS.len v) (u15.t 10) (WI nvS o3))] u15)) (fun _ t=>Hid.ok t) (fun x u15 hu15 h=>?_) (fun f h=>?_)
         · obtain ⟨u15c,u15g,u15t⟩:=u15;obtain ⟨hu15c,hu15g⟩:0 < u15c∧∀ k,u15g k < u15c:=hu15
           obtain ⟨v4,h107⟩ : ∃ v4,valO [] (w4 (T_weak_text.mk o3 sos))=v4:=⟨_,rfl⟩
           refine Wc [(32,2)] [(22,.lent [.arr 0 1 ((nvS.len v)) (u15t 10) (WI nvS v4)] (.tup 0 (fun _=>.junk)))] [] 0 [] fun N hN=>?_
           generalize hp:std Tryz.prog=p;generalize hv:nvS=nv;cbv;subst hp hv
           replace h:=bindO_val h107 h;clear h107;obtain ⟨h107,h⟩:=h
           replace h:=chk_some h;obtain ⟨h108,h⟩:=h
           refine ⟨rfl,rfl,(fun i _ _ j _=>trivial),rfl,rfl,(fun i _ _ j _=>trivial),(LentFn.arg (w4_ok (T_weak_text.mk o3 sos) v4 h107 (lenL v) (by first | rfl | omega) _) (And.intro (LeD.agg fun j hj=>by
            have hj2:j < 2:=hj
            rcases (show j=0∨j=1 by omega) with rfl | rfl
            · exact LeD.refl _
            exact LeD.refl _) trivial)),?_⟩
           subst hN;cases h
           exact Exists.intro ⟨u15c+10,gfn [(5,u15g 5),(10,u15g 10)],tfn [(5,false),(10,u15t 10)]⟩ (And.intro ((And.intro Wh Wf)) (Wg (Wk rfl (Wk rfl (Wk rfl (Wk rfl trivial)))) (Wi rfl (Wa rfl trivial))))
         refine Wc [] [] [] 0 [] fun N hN=>?_
         generalize hp:std Tryz.prog=p;generalize hv:nvS=nv;cbv;subst hp hv
         replace h:=chk_some h;obtain ⟨h109,h⟩:=h
         refine ⟨h109,?_⟩
         subst hN;cases h
         exact Exists.intro ⟨u3c+11,gfn [(5,u3g 5),(10,u3g 10)],tfn [(5,false),(10,u3t 10)]⟩ (And.intro Wh (Wg (Wk rfl (Wq rfl (LeD.cndF rfl (LeD.cndF rfl (LeD.cndF rfl (LeD.cndT rfl (LeD.refl _))))) (Wk rfl (Wk rfl (Wk rfl trivial))))) (Wi rfl (Wi rfl trivial))))
       first | cases h101 | exact Bool.noConfusion (h101:true=false)
     refine Wx [] [] [] 0 [] 2 fun N hN=>?_
     generalize hp:std Tryz.prog=p;generalize hv:nvS=nv;cbv;subst hp hv
     refine ⟨fun h110=>?_,fun h110=>?_⟩
     · subst hN
       show Tr _ _ _ _
       refine Tr.cutSeq (α:=List Int) h (fun o12 u16=>(WF 26 [(5,.bref 5 (u16.g 5) 0),(14,.sl 1 7 false (fun ix jx=>rowsF (std Tryz.prog) 1 7 [.fn (.func 29) 0 (fun _=>.junk),.fn (.func 30) 0 (fun _=>.junk),.fn (.func 31) 0 (fun _=>.junk),.fn (.func 32) 0 (fun _=>.junk),.fn (.func 33) 0 (fun _=>.junk),.fn (.func 34) 0 (fun _=>.junk),.fn (.func 35) 0 (fun _=>.junk)] 0 ix jx)),(15,WV 7),(16,WV 2)] 26 [(5,.box (u16.g 5) [.vec 10 (u16.g 10) 1 0 (nvS.len v),WV sos]),(10,.arr (u16.g 10) 1 (nvS.len v) (u16.t 10) (WI nvS o12))] u16)) (fun o12 t=>Hid.ok t∧lenL o12=(lenL v)) (fun x u16 hu16 h=>?_) (fun f h=>?_)
       · revert h;revert hu16;revert x;intro o12 hu16 h
         obtain ⟨hu16,ht'16_f0⟩:=hu16
         obtain ⟨u16c,u16g,u16t⟩:=u16;obtain ⟨hu16c,hu16g⟩:0 < u16c∧∀ k,u16g k < u16c:=hu16
         refine Wc [] [] [] 0 [] fun N hN=>?_
         generalize hp:std Tryz.prog=p;generalize hv:nvS=nv;cbv;subst hp hv
         replace h:=chk_some h;obtain ⟨h114,h⟩:=h
         refine ⟨h114,?_⟩
         subst hN;cases h
         exact Exists.intro ⟨u16c+10,gfn [(5,u16g 5),(10,u16g 10)],tfn [(5,false),(10,u16t 10)]⟩ (And.intro ((And.intro Wh Wf)) (Wg (Wk rfl (Wk rfl (Wk rfl (Wk rfl trivial)))) (Wi rfl (Wi rfl trivial))))
       refine Tr.block ?_
       refine Tr.cutSeq (α:=Unit) h (fun _ u17=>(WF 26 [(5,.bref 5 (u17.g 5) 0),(8,.fn (.func 31) 0 (fun _=>.junk)),(14,.sl 1 7 false (fun ix jx=>rowsF (std Tryz.prog) 1 7 [.fn (.func 29) 0 (fun _=>.junk),.fn (.func 30) 0 (fun _=>.junk),.fn (.func 31) 0 (fun _=>.junk),.fn (.func 32) 0 (fun _=>.junk),.fn (.func 33) 0 (fun _=>.junk),.fn (.func 34) 0 (fun _=>.junk),.fn (.func 35) 0 (fun _=>.junk)] 0 ix jx)),(15,WV 7),(16,WV 2)] 26 [(5,.box (u17.g 5) [.vec 10 (u17.g 10) 1 0 (nvS.len v),WV sos]),(10,.arr (u17.g 10) 1 (nvS.len v) (u17.t 10) (WI nvS o2))] u17)) (fun _ t=>Hid.ok t) (fun x u17 hu17 h=>?_) (fun f h=>?_)
       · obtain ⟨u17c,u17g,u17t⟩:=u17;obtain ⟨hu17c,hu17g⟩:0 < u17c∧∀ k,u17g k < u17c:=hu17
         obtain ⟨v5,h116⟩ : ∃ v5,valO [] (w3 (T_weak_text.mk o2 sos))=v5:=⟨_,rfl⟩
         refine Wc [(31,2)] [(22,.lent [.arr 0 1 ((nvS.len v)) (u17t 10) (WI nvS v5)] (.tup 0 (fun _=>.junk)))] [] 0 [] fun N hN=>?_
         generalize hp:std Tryz.prog=p;generalize hv:nvS=nv;cbv;subst hp hv
         replace h:=bindO_val h116 h;clear h116;obtain ⟨h116,h⟩:=h
         replace h:=chk_some h;obtain ⟨h117,h⟩:=h
         refine ⟨rfl,rfl,(fun i _ _ j _=>trivial),rfl,rfl,(fun i _ _ j _=>trivial),(LentFn.arg (w3_ok (T_weak_text.mk o2 sos) v5 h116 (lenL v) (by first | rfl | omega) _) (And.intro (LeD.agg fun j hj=>by
          have hj2:j < 2:=hj
          rcases (show j=0∨j=1 by omega) with rfl | rfl
          · exact LeD.refl _
          exact LeD.refl _) trivial)),?_⟩
         subst hN;cases h
         exact Exists.intro ⟨u17c+10,gfn [(5,u17g 5),(10,u17g 10)],tfn [(5,false),(10,u17t 10)]⟩ (And.intro ((And.intro Wh Wf)) (Wg (Wk rfl (Wk rfl (Wk rfl (Wk rfl trivial)))) (Wi rfl (Wa rfl trivial))))
       refine Wc [] [] [] 0 [] fun N hN=>?_
       generalize hp:std Tryz.prog=p;generalize hv:nvS=nv;cbv;subst hp hv
       replace h:=chk_some h;obtain ⟨h118,h⟩:=h
       refine ⟨h118,?_⟩
       subst hN;cases h
       exact Exists.intro ⟨u2c+11,gfn [(5,u2g 5),(10,u2g 10)],tfn [(5,false),(10,u2t 10)]⟩ (And.intro Wh (Wg (Wk rfl (Wq rfl (LeD.cndF rfl (LeD.cndF rfl (LeD.cndT rfl (LeD.refl _)))) (Wk rfl (Wk rfl (Wk rfl trivial))))) (Wi rfl (Wi rfl trivial))))
     first | cases h110 | exact Bool.noConfusion (h110:true=false)
   refine Wx [] [] [] 0 [] 2 fun N hN=>?_
   generalize hp:std Tryz.prog=p;generalize hv:nvS=nv;cbv;subst hp hv
   refine ⟨fun h119=>?_,fun h119=>?_⟩
   · subst hN
     show Tr _ _ _ _
     refine Tr.cutSeq (α:=List Int) h (fun o13 u18=>(WF 26 [(5,.bref 5 (u18.g 5) 0),(14,.sl 1 7 false (fun ix jx=>rowsF (std Tryz.prog) 1 7 [.fn (.func 29) 0 (fun _=>.junk),.fn (.func 30) 0 (fun _=>.junk),.fn (.func 31) 0 (fun _=>.junk),.fn (.func 32) 0 (fun _=>.junk),.fn (.func 33) 0 (fun _=>.junk),.fn (.func 34) 0 (fun _=>.junk),.fn (.func 35) 0 (fun _=>.junk)] 0 ix jx)),(15,WV 7),(16,WV 1)] 26 [(5,.box (u18.g 5) [.vec 10 (u18.g 10) 1 0 (nvS.len v),WV sos]),(10,.arr (u18.g 10) 1 (nvS.len v) (u18.t 10) (WI nvS o13))] u18)) (fun o13 t=>Hid.ok t∧lenL o13=(lenL v)) (fun x u18 hu18 h=>?_) (fun f h=>?_)
     · revert h;revert hu18;revert x;intro o13 hu18 h
       obtain ⟨hu18,ht'18_f0⟩:=hu18
       obtain ⟨u18c,u18g,u18t⟩:=u18;obtain ⟨hu18c,hu18g⟩:0 < u18c∧∀ k,u18g k < u18c:=hu18
       refine Wc [] [] [] 0 [] fun N hN=>?_
       generalize hp:std Tryz.prog=p;generalize hv:nvS=nv;cbv;subst hp hv
       replace h:=chk_some h;obtain ⟨h123,h⟩:=h
       refine ⟨h123,?_⟩
       subst hN;cases h
       exact Exists.intro ⟨u18c+10,gfn [(5,u18g 5),(10,u18g 10)],tfn [(5,false),(10,u18t 10)]⟩ (And.intro ((And.intro Wh Wf)) (Wg (Wk rfl (Wk rfl (Wk rfl (Wk rfl trivial)))) (Wi rfl (Wi rfl trivial))))
     refine Tr.block ?_
     refine Tr.cutSeq (α:=Unit) h (fun _ u19=>(WF 26 [(5,.bref 5 (u19.g 5) 0),(8,.fn (.func 30) 0 (fun _=>.junk)),(14,.sl 1 7 false (fun ix jx=>rowsF (std Tryz.prog) 1 7 [.fn (.func 29) 0 (fun _=>.junk),.fn (.func 30) 0 (fun _=>.junk),.fn (.func 31) 0 (fun _=>.junk),.fn (.func 32) 0 (fun _=>.junk),.fn (.func 33) 0 (fun _=>.junk),.fn (.func 34) 0 (fun _=>.junk),.fn (.func 35) 0 (fun _=>.junk)] 0 ix jx)),(15,WV 7),(16,WV 1)] 26 [(5,.box (u19.g 5) [.vec 10 (u19.g 10) 1 0 (nvS.len v),WV sos]),(10,.arr (u19.g 10) 1 (nvS.len v) (u19.t 10) (WI nvS o1))] u19)) (fun _ t=>Hid.ok t) (fun x u19 hu19 h=>?_) (fun f h=>?_)
     · obtain ⟨u19c,u19g,u19t⟩:=u19;obtain ⟨hu19c,hu19g⟩:0 < u19c∧∀ k,u19g k < u19c:=hu19
       obtain ⟨v6,h125⟩ : ∃ v6,valO [] (w2 (T_weak_text.mk o1 sos))=v6:=⟨_,rfl⟩
       refine Wc [(30,2)] [(22,.lent [.arr 0 1 ((nvS.len v)) (u19t 10) (WI nvS v6)] (.tup 0 (fun _=>.junk)))] [] 0 [] fun N hN=>?_
       generalize hp:std Tryz.prog=p;generalize hv:nvS=nv;cbv;subst hp hv
       replace h:=bindO_val h125 h;clear h125;obtain ⟨h125,h⟩:=h
       replace h:=chk_some h;obtain ⟨h126,h⟩:=h
       refine ⟨rfl,rfl,(fun i _ _ j _=>trivial),rfl,rfl,(fun i _ _ j _=>trivial),(LentFn.arg (w2_ok (T_weak_text.mk o1 sos) v6 h125 (lenL v) (by first | rfl | omega) _) (And.intro (LeD.agg fun j hj=>by
        have hj2:j < 2:=hj
        rcases (show j=0∨j=1 by omega) with rfl | rfl
        · exact LeD.refl _
        exact LeD.refl _) trivial)),?_⟩
       subst hN;cases h
       exact Exists.intro ⟨u19c+10,gfn [(5,u19g 5),(10,u19g 10)],tfn [(5,false),(10,u19t 10)]⟩ (And.intro ((And.intro Wh Wf)) (Wg (Wk rfl (Wk rfl (Wk rfl (Wk rfl trivial)))) (Wi rfl (Wa rfl trivial))))
     refine Wc [] [] [] 0 [] fun N hN=>?_
     generalize hp:std Tryz.prog=p;generalize hv:nvS=nv;cbv;subst hp hv
     replace h:=chk_some h;obtain ⟨h127,h⟩:=h
     refine ⟨h127,?_⟩
     subst hN;cases h
     exact Exists.intro ⟨u1c+11,gfn [(5,u1g 5),(10,u1g 10)],tfn [(5,false),(10,u1t 10)]⟩ (And.intro Wh (Wg (Wk rfl (Wq rfl (LeD.cndF rfl (LeD.cndT rfl (LeD.refl _))) (Wk rfl (Wk rfl (Wk rfl trivial))))) (Wi rfl (Wi rfl trivial))))
   first | cases h119 | exact Bool.noConfusion (h119:true=false)
 refine Wx [] [] [] 0 [] 2 fun N hN=>?_
 generalize hp:std Tryz.prog=p;generalize hv:nvS=nv;cbv;subst hp hv
 refine ⟨fun h128=>?_,fun h128=>?_⟩
 · subst hN
   show Tr _ _ _ _
   refine Tr.cutSeq (α:=List Int) h (fun o14 u20=>(WF 26 [(5,.bref 5 (u20.g 5) 0),(14,.sl 1 7 false (fun ix jx=>rowsF (std Tryz.prog) 1 7 [.fn (.func 29) 0 (fun _=>.junk),.fn (.func 30) 0 (fun _=>.junk),.fn (.func 31) 0 (fun _=>.junk),.fn (.func 32) 0 (fun _=>.junk),.fn (.func 33) 0 (fun _=>.junk),.fn (.func 34) 0 (fun _=>.junk),.fn (.func 35) 0 (fun _=>.junk)] 0 ix jx)),(15,WV 7),(16,WV 0)] 26 [(5,.box (u20.g 5) [.vec 10 (u20.g 10) 1 0 (nvS.len v),WV sos]),(10,.arr (u20.g 10) 1 (nvS.len v) (u20.t 10) (WI nvS o14))] u20)) (fun o14 t=>Hid.ok t∧lenL o14=(lenL v)) (fun x u20 hu20 h=>?_) (fun f h=>?_)
   · revert h;revert hu20;revert x;intro o14 hu20 h
     obtain ⟨hu20,ht'20_f0⟩:=hu20
     obtain ⟨u20c,u20g,u20t⟩:=u20;obtain ⟨hu20c,hu20g⟩:0 < u20c∧∀ k,u20g k < u20c:=hu20
     refine Wc [] [] [] 0 [] fun N hN=>?_
     generalize hp:std Tryz.prog=p;generalize hv:nvS=nv;cbv;subst hp hv
     replace h:=chk_some h;obtain ⟨h132,h⟩:=h
     refine ⟨h132,?_⟩
     subst hN;cases h
     exact Exists.intro ⟨u20c+10,gfn [(5,u20g 5),(10,u20g 10)],tfn [(5,false),(10,u20t 10)]⟩ (And.intro ((And.intro Wh Wf)) (Wg (Wk rfl (Wk rfl (Wk rfl (Wk rfl trivial)))) (Wi rfl (Wi rfl trivial))))
   refine Tr.block ?_
   refine Tr.cutSeq (α:=Unit) h (fun _ u21=>(WF 26 [(5,.bref 5 (u21.g 5) 0),(8,.fn (.func 29) 0 (fun _=>.junk)),(14,.sl 1 7 false (fun ix jx=>rowsF (std Tryz.prog) 1 7 [.fn (.func 29) 0 (fun _=>.junk),.fn (.func 30) 0 (fun _=>.junk),.fn (.func 31) 0 (fun _=>.junk),.fn (.func 32) 0 (fun _=>.junk),.fn (.func 33) 0 (fun _=>.junk),.fn (.func 34) 0 (fun _=>.junk),.fn (.func 35) 0 (fun _=>.junk)] 0 ix jx)),(15,WV 7),(16,WV 0)] 26 [(5,.box (u21.g 5) [.vec 10 (u21.g 10) 1 0 (nvS.len v),WV sos]),(10,.arr (u21.g 10) 1 (nvS.len v) (u21.t 10) (WI nvS v))] u21)) (fun _ t=>Hid.ok t) (fun x u21 hu21 h=>?_) (fun f h=>?_)
   · obtain ⟨u21c,u21g,u21t⟩:=u21;obtain ⟨hu21c,hu21g⟩:0 < u21c∧∀ k,u21g k < u21c:=hu21
     obtain ⟨v7,h134⟩ : ∃ v7,valO [] (w1 (T_weak_text.mk v sos))=v7:=⟨_,rfl⟩
     refine Wc [(29,2)] [(22,.lent [.arr 0 1 ((nvS.len v)) (u21t 10) (WI nvS v7)] (.tup 0 (fun _=>.junk)))] [] 0 [] fun N hN=>?_
     generalize hp:std Tryz.prog=p;generalize hv:nvS=nv;cbv;subst hp hv
     replace h:=bindO_val h134 h;clear h134;obtain ⟨h134,h⟩:=h
     replace h:=chk_some h;obtain ⟨h135,h⟩:=h
     refine ⟨rfl,rfl,(fun i _ _ j _=>trivial),rfl,rfl,(fun i _ _ j _=>trivial),(LentFn.arg (w1_ok (T_weak_text.mk v sos) v7 h134 (lenL v) (by first | rfl | omega) _) (And.intro (LeD.agg fun j hj=>by
      have hj2:j < 2:=hj
      rcases (show j=0∨j=1 by omega) with rfl | rfl
      · exact LeD.refl _
      exact LeD.refl _) trivial)),?_⟩
     subst hN;cases h
     exact Exists.intro ⟨u21c+10,gfn [(5,u21g 5),(10,u21g 10)],tfn [(5,false),(10,u21t 10)]⟩ (And.intro ((And.intro Wh Wf)) (Wg (Wk rfl (Wk rfl (Wk rfl (Wk rfl trivial)))) (Wi rfl (Wa rfl trivial))))
   refine Wc [] [] [] 0 [] fun N hN=>?_
   generalize hp:std Tryz.prog=p;generalize hv:nvS=nv;cbv;subst hp hv
   replace h:=chk_some h;obtain ⟨h136,h⟩:=h
   refine ⟨h136,?_⟩
   subst hN;cases h
   exact Exists.intro ⟨ctr+15,gfn [(5,ctr+1),(10,ctr+1)],tfn [(5,false),(10,false)]⟩ (And.intro Wh (Wg (Wk rfl (Wq rfl (LeD.cndT rfl (LeD.refl _)) (Wq rfl (LeD.slE rfl (fun i i0 i1 j hj=>rfl)) (Wk rfl (Wk rfl trivial))))) (Wi rfl (Wi rfl trivial))))
 first | cases h128 | exact Bool.noConfusion (h128:true=false)
theorem weak_line__direction_ok (x':T_weak_line) (p':T_Arr2_i64) (r:Int) (h:weak_line__direction x' p'=some r):PureFn Tryz.prog 94 [(.agg 7 (fun j=>(D_weak_line nvS x' j))),(.agg 2 (fun j=>(D_Arr2_i64 nvS p' j)))] ((WV r)):=by
 obtain ⟨x_l,x_was,x_sos,x_eos,x_dir,x_against,x_pairs⟩:=x'
 obtain ⟨p_x0,p_x1⟩:=p'
 unfold weak_line__direction at h
 try dsimp only at h
 refine fn_tr tt0_ok Tryz.func94 (by kernel_rfl) (c:=bodyOf Tryz.f94) (by kernel_rfl) ?_
 intro ctr hc
 refine Wx [] [] [] 0 [] 2 fun N hN=>?_
 generalize hp:std Tryz.prog=p;generalize hv:nvS=nv;cbv;subst hp hv
 subst hN;show Tr _ _ _ _
 refine Tr.cutSeq (α:=Bool) h (fun found u=>(WF 65 [(2,.bref 2 (u.g 2) 0),(3,.bref 3 (u.g 3) 0),(5,.v (.bool found))] 65 [(2,.box (u.g 2) [WS nvS x_l,WS nvS x_was,WV x_sos,WV x_eos,WV x_dir,WV x_against,.sl 2 (nvS.len x_pairs) false (fun ix jx=>(D_Arr2_i64 nvS (nvS.get d_Arr2_i64 x_pairs ix) jx))]),(3,.box (u.g 3) [WV p_x0,WV p_x1])] u)) (fun _ t=>Hid.ok t) (fun x u hu h=>?_) (fun f h=>?_)
 · revert h;revert hu;revert x;intro found hu h
   obtain ⟨uc,ug,ut⟩:=u;obtain ⟨huc,hug⟩:0 < uc∧∀ k,ug k < uc:=hu
   refine Wx [] [] [] 0 [] 2 fun N hN=>?_
   generalize hp:std Tryz.prog=p;generalize hv:nvS=nv;cbv;subst hp hv
   refine ⟨fun h17=>?_,fun h17=>?_⟩
   · replace h:=iteO_t h h17
     subst hN;have hr:=Option.some.inj h
     subst hr
     try dsimp only [noGoto,inBlockQ,thenQ]
     repeat (first | refine Wt ?_ | refine We ?_)
     exact retQ_ret rfl trivial rfl
   replace h:=iteO_f h h17
   refine ⟨rfl,?_⟩
   subst hN;show Tr _ _ _ _
   refine Tr.cutSeq (α:=Int) h (fun last1 u1=>(WF 65 [(2,.bref 2 (u1.g 2) 0),(8,WV last1)] 65 [(2,.box (u1.g 2) [WS nvS x_l,WS nvS x_was,WV x_sos,WV x_eos,WV x_dir,WV x_against,.sl 2 (nvS.len x_pairs) false (fun ix jx=>(D_Arr2_i64 nvS (nvS.get d_Arr2_i64 x_pairs ix) jx))])] u1)) (fun _ t=>Hid.ok t) (fun x u1 hu1 h=>?_) (fun f h=>?_)
   · revert h;revert hu1;revert x;intro last1 hu1 h
     obtain ⟨u1c,u1g,u1t⟩:=u1;obtain ⟨hu1c,hu1g⟩:0 < u1c∧∀ k,u1g k < u1c:=hu1
     refine Wc [] [] [] 0 [] fun N hN=>?_
     generalize hp:std Tryz.prog=p;generalize hv:nvS=nv;cbv;subst hp hv
     refine ⟨rfl,?_⟩
     refine ⟨fun h29=>?_,fun h29=>?_⟩
     · replace h:=iteO_t h h29
       refine ⟨rfl,?_⟩
       subst hN;have hr:=Option.some.inj h
       subst hr
       try dsimp only [noGoto,inBlockQ,thenQ]
       repeat (first | refine Wt ?_ | refine We ?_)
       exact retQ_ret rfl trivial rfl
     replace h:=iteO_f h h29
     refine ⟨rfl,?_⟩
     subst hN;have hr:=Option.some.inj h
     subst hr
     try dsimp only [noGoto,inBlockQ,thenQ]
     repeat (first | refine Wt ?_ | refine We ?_)
     exact retQ_ret rfl trivial rfl
   refine Wx [] [] [] 0 [] 1 fun N hN=>?_
   generalize hp:std Tryz.prog=p;generalize hv:nvS=nv;cbv;subst hp hv
   replace h:=chk_some h;obtain ⟨h30,h⟩:=h
   refine ⟨rfl,h30,?_⟩
   subst hN;show Tr _ _ _ _
   refine Tr.block ?_
   refine Tr.loopO (α:=Int) (fun i1 u2=>(WF 65 [(2,.bref 2 (u2.g 2) 0),(8,WV x_sos),(9,WV i1)] 65 [(2,.box (u2.g 2) [WS nvS x_l,WS nvS x_was,WV x_sos,WV x_eos,WV x_dir,WV x_against,.sl 2 (nvS.len x_pairs) false (fun ix jx=>(D_Arr2_i64 nvS (nvS.get d_Arr2_i64 x_pairs ix) jx))])] u2)) (fun _ t=>Hid.ok t) ⟨uc+12,gfn [(2,ug 2)],tfn [(2,false)]⟩ h ?_ ?_ (fun x u2 f hu2 h=>?_)
   · exact Wh
   · exact (Wg (Wk rfl (Wk rfl (Wk rfl trivial))) (Wi rfl trivial))
   revert h;revert hu2;revert x;intro i1 hu2 h
   obtain ⟨u2c,u2g,u2t⟩:=u2;obtain ⟨hu2c,hu2g⟩:0 < u2c∧∀ k,u2g k < u2c:=hu2
   obtain ⟨v,h43⟩ : ∃ v,valO 0 (weak_strong (getL 0 x_l i1))=v:=⟨_,rfl⟩
   refine Wc [] [(53,.plain (WV v))] [] 0 [] fun N hN=>?_
   generalize hp:std Tryz.prog=p;generalize hv:nvS=nv;cbv;subst hp hv
   refine ⟨fun h41=>?_,fun h41=>?_⟩
   · replace h:=iteO_t h h41
     replace h:=chk_some h;obtain ⟨h42,h⟩:=h
     try (have h42z:=h42;simp only [Int.zero_add] at h42z)
     replace h:=bindO_val h43 h;clear h43;obtain ⟨h43,h⟩:=h
     refine ⟨rfl,h42,(Or.inl (PureFn.arg (weak_strong_ok (getL 0 x_l i1) v h43) (And.intro (LeD.refl _) trivial))),?_⟩
     refine ⟨fun h44=>?_,fun h44=>?_⟩
     · replace h:=iteO_t h h44
       subst hN;cases h
       intro he;cases he
       exact Exists.intro ⟨u2c+13,gfn [(2,u2g 2)],tfn [(2,false)]⟩ (And.intro Wh (Wg (Wk rfl (Wk rfl trivial)) (Wi rfl trivial)))
     replace h:=iteO_f h h44
     replace h:=chk_some h;obtain ⟨h45,h⟩:=h
     refine ⟨h45,?_⟩
     subst hN;cases h
     exact Exists.intro ⟨u2c+13,gfn [(2,u2g 2)],tfn [(2,false)]⟩ (And.intro Wh (Wg (Wk rfl (Wk rfl (Wk rfl trivial))) (Wi rfl trivial)))
   replace h:=iteO_f h h41
   subst hN;cases h
   intro he;cases he
   exact Exists.intro ⟨u2c+10,gfn [(2,u2g 2)],tfn [(2,false)]⟩ (And.intro Wh (Wg (Wk rfl (Wk rfl trivial)) (Wi rfl trivial)))
 refine Wx [] [] [] 0 [] 1 fun N hN=>?_
 generalize hp:std Tryz.prog=p;generalize hv:nvS=nv;cbv;subst hp hv
 replace h:=chk_some h;obtain ⟨h46,h⟩:=h
 replace h:=chk_some h;obtain ⟨h47,h⟩:=h
 try (have h47z:=h47;simp only [Int.zero_add] at h47z)
 refine ⟨rfl,rfl,h46,rfl,h47,?_⟩
 subst hN;show Tr _ _ _ _
 refine Tr.block ?_
 refine Tr.loopO (α:=Bool × Int) (fun (found1,v1) u3=>(WF 65 [(2,.bref 2 (u3.g 2) 0),(3,.bref 3 (u3.g 3) 0),(5,.v (.bool found1)),(18,.sl 1 (nvS.len (nvS.sub x_l ((std Tryz.prog).add p_x0 1) p_x1)) false (fun ix jx=>(WV (nvS.get 0 (nvS.sub x_l ((std Tryz.prog).add p_x0 1) p_x1) ix)))),(19,WV ((std Tryz.prog).sub p_x1 ((std Tryz.prog).add p_x0 1))),(20,WV v1)] 65 [(2,.box (u3.g 2) [WS nvS x_l,WS nvS x_was,WV x_sos,WV x_eos,WV x_dir,WV x_against,.sl 2 (nvS.len x_pairs) false (fun ix jx=>(D_Arr2_i64 nvS (nvS.get d_Arr2_i64 x_pairs ix) jx))]),(3,.box (u3.g 3) [WV p_x0,WV p_x1])] u3)) (fun _ t=>Hid.ok t) ⟨ctr+12,gfn [(2,ctr+0),(3,ctr+0)],tfn [(2,false),(3,false)]⟩ h ?_ ?_ (fun x u3 f hu3 h=>?_)
 · exact Wh
 · exact (Wg (Wk rfl (Wk rfl (Wk rfl (Wq rfl (LeD.slE Wy Wp) (Wk rfl (Wk rfl trivial)))))) (Wi rfl (Wi rfl trivial)))
 obtain ⟨found1,v1⟩:=x
 try dsimp only at h
 obtain ⟨u3c,u3g,u3t⟩:=u3;obtain ⟨hu3c,hu3g⟩:0 < u3c∧∀ k,u3g k < u3c:=hu3
 obtain ⟨v2,h64⟩ : ∃ v2,valO 0 (weak_strong (getL 0 (subL x_l (p_x0+1) p_x1) v1))=v2:=⟨_,rfl⟩
 refine Wc [] [(25,.plain (WV v2))] [] 0 [] fun N hN=>?_
 generalize hp:std Tryz.prog=p;generalize hv:nvS=nv;cbv;subst hp hv
 refine ⟨fun h62=>?_,fun h62=>?_⟩
 · replace h:=iteO_t h h62
   replace h:=chk_some h;obtain ⟨h63,h⟩:=h
   try (have h63z:=h63;simp only [Int.zero_add] at h63z)
   refine ⟨h63,?_⟩
   replace h:=bindO_val h64 h;clear h64;obtain ⟨h64,h⟩:=h
   refine ⟨(Or.inl (PureFn.arg (weak_strong_ok (getL 0 (subL x_l (p_x0+1) p_x1) v1) v2 h64) (And.intro (LeD.refl _) trivial))),?_⟩
   refine ⟨rfl,?_⟩
   refine ⟨fun h65=>?_,fun h65=>?_⟩
   · replace h:=iteO_t h h65
     refine ⟨rfl,?_⟩
     subst hN;cases h
     intro he;cases he
     intro hr
     subst hr
     try dsimp only [noGoto,inBlockQ,thenQ]
     repeat (first | refine Wt ?_ | refine We ?_)
     exact retQ_ret rfl trivial rfl
   replace h:=iteO_f h h65
   refine ⟨rfl,?_⟩
   refine ⟨fun h66=>?_,fun h66=>?_⟩
   · replace h:=iteO_t h h66
     replace h:=chk_some h;obtain ⟨h67,h⟩:=h
     refine ⟨h67,?_⟩
     subst hN;cases h
     exact Exists.intro ⟨u3c+16,gfn [(2,u3g 2),(3,u3g 3)],tfn [(2,false),(3,false)]⟩ (And.intro Wh (Wg (Wk rfl (Wk rfl (Wk rfl (Wk rfl (Wk rfl (Wk rfl trivial)))))) (Wi rfl (Wi rfl trivial))))
   replace h:=iteO_f h h66
   replace h:=chk_some h;obtain ⟨h68,h⟩:=h
   refine ⟨h68,?_⟩
   subst hN;cases h
   exact Exists.intro ⟨u3c+15,gfn [(2,u3g 2),(3,u3g 3)],tfn [(2,false),(3,false)]⟩ (And.intro Wh (Wg (Wk rfl (Wk rfl (Wk rfl (Wk rfl (Wk rfl (Wk rfl trivial)))))) (Wi rfl (Wi rfl trivial))))
 replace h:=iteO_f h h62
 subst hN;cases h
 intro he;cases he
 exact Exists.intro ⟨u3c+10,gfn [(2,u3g 2),(3,u3g 3)],tfn [(2,false),(3,false)]⟩ (And.intro Wh (Wg (Wk rfl (Wk rfl (Wk rfl trivial))) (Wi rfl (Wi rfl trivial))))
end Go.Vx
