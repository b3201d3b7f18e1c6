/- Walks, by program (lift.py). -/
import Derived.Test.YtkjmcemgncalgaaGreatDoorWWalk
import Derived.Test.YtkjmcemgncalgaaGreatDoorWWalkL1
set_option linter.all false
namespace Go.Vx
open Go.Proofs
set_option maxRecDepth 100000
set_option linter.unusedVariables false
set_option linter.unusedSimpArgs false
theorem strings_Fields_ok (s:ByteArray) (r:(List ByteArray)) (h:strings_Fields s=some r):PureFn Tryz.prog 39 [(.v (.string s))] (.own 1 (nvS.len r) false (fun ix jx=>(.v (.string (nvS.get ByteArray.empty r ix))))):=by
 unfold strings_Fields at h
 refine fn_tr tt0_ok Tryz.func39 (by kernel_rfl) (c:=bodyOf Tryz.f39) (by kernel_rfl) ?_
 intro ctr hc
 refine Wx [] [] [] 0 [] 4 fun N hN=>?_
 generalize hp:std Tryz.prog=p;generalize hv:nvS=nv;cbv;subst hp hv
 subst hN;show Tr _ _ _ _
 refine Tr.cutSeq (α:=Int × Int) h (fun (n,setBits) u=>(WF 106 [(0,.v (.string s)),(3,WV n),(5,.v (.int .u8 setBits))] 106 [] u)) (fun _ t=>Hid.ok t) (fun x u hu h=>?_) (fun f h=>?_)
 · obtain ⟨n,setBits⟩:=x
   try dsimp only at h
   obtain ⟨uc,ug,ut⟩:=u;obtain ⟨huc,hug⟩:0 < uc∧∀ k,ug k < uc:=hu
   refine Wx [] [] [] 0 [] 5 fun N hN=>?_
   generalize hp:std Tryz.prog=p;generalize hv:nvS=nv;cbv;subst hp hv
   refine ⟨fun h11=>?_,fun h11=>?_⟩
   · replace h:=iteO_t h h11
     cases h
   replace h:=iteO_f h h11
   replace h:=chk_some h;obtain ⟨h12,h⟩:=h
   have h12':=h12.1;have h12'':=h12.2.1
   refine ⟨h12,?_⟩
   subst hN;show Tr _ _ _ _
   refine Tr.cutSeq (α:=Int) h (fun i u1=>(WF 106 [(0,.v (.string s)),(9,.vec 41 (u1.g 41) 1 0 n),(10,WV 0),(12,WV i)] 106 [(41,.arr (u1.g 41) 1 n (u1.t 41) (fun ix jx=>(.v (.string (nvS.get ByteArray.empty (nvS.rep n ByteArray.empty) ix)))))] u1)) (fun _ t=>Hid.ok t) (fun x u1 hu1 h=>?_) (fun f h=>?_)
   · revert h;revert hu1;revert x;intro i hu1 h
     obtain ⟨u1c,u1g,u1t⟩:=u1;obtain ⟨hu1c,hu1g⟩:0 < u1c∧∀ k,u1g k < u1c:=hu1
     refine Wx [] [] [] 0 [] 1 fun N hN=>?_
     generalize hp:std Tryz.prog=p;generalize hv:nvS=nv;cbv;subst hp hv
     subst hN;show Tr _ _ _ _
     refine Tr.cutSeq (α:=Int × Int × List ByteArray) h (fun (na,fieldStart,a) u2=>(WF 106 [(0,.v (.string s)),(9,.vec 41 (u2.g 41) 1 0 n),(10,WV na),(11,WV fieldStart)] 106 [(41,.arr (u2.g 41) 1 n (u2.t 41) (fun ix jx=>(.v (.string (nvS.get ByteArray.empty a ix)))))] u2)) (fun (na,fieldStart,a) t=>Hid.ok t∧lenL a=n) (fun x u2 hu2 h=>?_) (fun f h=>?_)
     · obtain ⟨na,fieldStart,a⟩:=x
       try dsimp only at h
       obtain ⟨hu2,ht'2_f0⟩:=hu2
       obtain ⟨u2c,u2g,u2t⟩:=u2;obtain ⟨hu2c,hu2g⟩:0 < u2c∧∀ k,u2g k < u2c:=hu2
       refine Wc [] [] [] 0 [] fun N hN=>?_
       generalize hp:std Tryz.prog=p;generalize hv:nvS=nv;cbv;subst hp hv
       refine ⟨fun h55=>?_,fun h55=>?_⟩
       · replace h:=iteO_t h h55
         replace h:=chk_some h;obtain ⟨h56,h⟩:=h
         try (have h56z:=h56;simp only [Int.zero_add] at h56z)
         replace h:=chk_some h;obtain ⟨h57,h⟩:=h
         try (have h57z:=h57;simp only [Int.zero_add] at h57z)
         refine ⟨h56,h57,rfl,?_⟩
         subst hN;have hr:=Option.some.inj h
         subst hr
         try dsimp only [noGoto,inBlockQ,thenQ]
         repeat (first | refine Wt ?_ | refine We ?_)
         exact retQ_ret rfl trivial (And.intro (rfl) (And.intro Wy (And.intro (fun h=>by cases h) (out0_all Wo Wp))))
       replace h:=iteO_f h h55
       subst hN;have hr:=Option.some.inj h
       subst hr
       try dsimp only [noGoto,inBlockQ,thenQ]
       repeat (first | refine Wt ?_ | refine We ?_)
       exact retQ_ret rfl trivial (And.intro (rfl) (And.intro Wy (And.intro (fun h=>by cases h) (out0_all Wo Wp))))
     refine Tr.block ?_
     refine Tr.loopO (α:=Int × Int × Int × List ByteArray) (fun (na1,fieldStart1,i1,a1) u3=>(WF 106 [(0,.v (.string s)),(9,.vec 41 (u3.g 41) 1 0 n),(10,WV na1),(11,WV fieldStart1),(12,WV i1)] 106 [(41,.arr (u3.g 41) 1 n (u3.t 41) (fun ix jx=>(.v (.string (nvS.get ByteArray.empty a1 ix)))))] u3)) (fun (na1,fieldStart1,i1,a1) t=>Hid.ok t∧lenL a1=n) ⟨u1c+10,gfn [(41,u1g 41)],tfn [(41,u1t 41)]⟩ h ?_ ?_ (fun x u3 f hu3 h=>?_)
     · exact (And.intro Wh Wf)
     · exact (Wg (Wk rfl (Wk rfl (Wk rfl (Wk rfl (Wk rfl trivial))))) (Wi rfl trivial))
     obtain ⟨na1,fieldStart1,i1,a1⟩:=x
     try dsimp only at h
     obtain ⟨hu3,ht'3_f0⟩:=hu3
     obtain ⟨u3c,u3g,u3t⟩:=u3;obtain ⟨hu3c,hu3g⟩:0 < u3c∧∀ k,u3g k < u3c:=hu3
     refine Wx [] [] [] 0 [] 1 fun N hN=>?_
     generalize hp:std Tryz.prog=p;generalize hv:nvS=nv;cbv;subst hp hv
     refine ⟨fun h92=>?_,fun h92=>?_⟩
     · replace h:=iteO_t h h92
       subst hN;show Tr _ _ _ _
       refine Tr.block ?_
       refine Wx [] [] [] 0 [] 4 fun N hN=>?_
       generalize hp:std Tryz.prog=p;generalize hv:nvS=nv;cbv;subst hp hv
       replace h:=chk_some h;obtain ⟨h93,h⟩:=h
       try (have h93z:=h93;simp only [Int.zero_add] at h93z)
       replace h:=chk_some h;obtain ⟨h94,h⟩:=h
       try (have h94z:=h94;simp only [Int.zero_add] at h94z)
       refine ⟨h93,h94,?_⟩
       refine ⟨fun h95=>?_,fun h95=>?_⟩
       · replace h:=iteO_t h h95
         replace h:=chk_some h;obtain ⟨h96,h⟩:=h
         refine ⟨h96,?_⟩
         subst hN;cases h
         exact Exists.intro ⟨u3c+12,gfn [(41,u3g 41)],tfn [(41,u3t 41)]⟩ (And.intro ((And.intro Wh Wf)) (Wg (Wk rfl (Wk rfl (Wk rfl (Wk rfl (Wk rfl trivial))))) (Wi rfl trivial)))
       replace h:=iteO_f h h95
       replace h:=chk_some h;obtain ⟨h97,h⟩:=h
       try (have h97z:=h97;simp only [Int.zero_add] at h97z)
       replace h:=chk_some h;obtain ⟨h98,h⟩:=h
       try (have h98z:=h98;simp only [Int.zero_add] at h98z)
       refine ⟨h97,h98,rfl,?_⟩
       replace h:=chk_some h;obtain ⟨h99,h⟩:=h
       refine ⟨h99,?_⟩
       replace h:=chk_some h;obtain ⟨h100,h⟩:=h
       refine ⟨h100,?_⟩
       subst hN;show Tr _ _ _ _
       refine Tr.cutSeq (α:=Int) h (fun i4 u4=>(WF 106 [(0,.v (.string s)),(9,.vec 41 (u4.g 41) 1 0 n),(10,WV ((std Tryz.prog).add na1 1)),(12,WV i4)] 106 [(41,.arr (u4.g 41) 1 n (u4.t 41) (fun ix jx=>(.v (.string (nvS.get ByteArray.empty (nvS.set a1 na1 ((std Tryz.prog).ssub s fieldStart1 i1)) ix)))))] u4)) (fun _ t=>Hid.ok t) (fun x u4 hu4 h=>?_) (fun f h=>?_)
       · revert h;revert hu4;revert x;intro i4 hu4 h
         obtain ⟨u4c,u4g,u4t⟩:=u4;obtain ⟨hu4c,hu4g⟩:0 < u4c∧∀ k,u4g k < u4c:=hu4
         refine Wc [] [] [] 0 [] fun N hN=>?_
         generalize hp:std Tryz.prog=p;generalize hv:nvS=nv;cbv;subst hp hv
         subst hN;cases h
         exact Exists.intro ⟨u4c+10,gfn [(41,u4g 41)],tfn [(41,u4t 41)]⟩ (And.intro ((And.intro Wh Wf)) (Wg (Wk rfl (Wk rfl (Wk rfl (Wk rfl (Wk rfl trivial))))) (Wi rfl trivial)))
       refine Tr.block ?_
       refine Tr.loopO (α:=Int) (fun i5 u5=>(WF 106 [(0,.v (.string s)),(9,.vec 41 (u5.g 41) 1 0 n),(10,WV ((std Tryz.prog).add na1 1)),(12,WV i5)] 106 [(41,.arr (u5.g 41) 1 n (u5.t 41) (fun ix jx=>(.v (.string (nvS.get ByteArray.empty (nvS.set a1 na1 ((std Tryz.prog).ssub s fieldStart1 i1)) ix)))))] u5)) (fun _ t=>Hid.ok t) ⟨u3c+14,gfn [(41,u3g 41)],tfn [(41,u3t 41)]⟩ h ?_ ?_ (fun x u5 f hu5 h=>?_)
       · exact Wh
       · exact (Wg (Wk rfl (Wk rfl (Wk rfl (Wk rfl trivial)))) (Wa rfl trivial))
       revert h;revert hu5;revert x;intro i5 hu5 h
       obtain ⟨u5c,u5g,u5t⟩:=u5;obtain ⟨hu5c,hu5g⟩:0 < u5c∧∀ k,u5g k < u5c:=hu5
       refine Wc [] [] [] 0 [] fun N hN=>?_
       generalize hp:std Tryz.prog=p;generalize hv:nvS=nv;cbv;subst hp hv
       replace h:=chk_some h;obtain ⟨h117,h⟩:=h
       replace h:=chk_some h;obtain ⟨h118,h⟩:=h
       refine ⟨(fun hg=>hg),(fun hg=>hg),h117,(fun hg=>hg),h118,(fun hg=>hg),(fun hg=>hg),(fun hg=>hg),?_⟩
       refine ⟨fun h119=>?_,fun h119=>?_⟩
       · replace h:=iteO_t h h119
         replace h:=chk_some h;obtain ⟨h120,h⟩:=h
         refine ⟨h120,?_⟩
         subst hN;cases h
         exact Exists.intro ⟨u5c+11,gfn [(41,u5g 41)],tfn [(41,u5t 41)]⟩ (And.intro Wh (Wg (Wk rfl (Wk rfl (Wk rfl (Wk rfl trivial)))) (Wi rfl trivial)))
       replace h:=iteO_f h h119
       subst hN;cases h
       intro he;cases he
       exact Exists.intro ⟨u5c+10,gfn [(41,u5g 41)],tfn [(41,u5t 41)]⟩ (And.intro Wh (Wg (Wk rfl (Wk rfl (Wk rfl (Wk rfl trivial)))) (Wi rfl trivial)))
     replace h:=iteO_f h h92
     subst hN;cases h
     intro he;cases he
     exact Exists.intro ⟨u3c+10,gfn [(41,u3g 41)],tfn [(41,u3t 41)]⟩ (And.intro ((And.intro Wh Wf)) (Wg (Wk rfl (Wk rfl (Wk rfl (Wk rfl trivial)))) (Wi rfl trivial)))
   refine Tr.block ?_
   refine Tr.loopO (α:=Int) (fun i7 u6=>(WF 106 [(0,.v (.string s)),(9,.vec 41 (u6.g 41) 1 0 n),(10,WV 0),(12,WV i7)] 106 [(41,.arr (u6.g 41) 1 n (u6.t 41) (fun ix jx=>(.v (.string (nvS.get ByteArray.empty (nvS.rep n ByteArray.empty) ix)))))] u6)) (fun _ t=>Hid.ok t) ⟨uc+14,gfn [(41,uc+1)],tfn [(41,((std Tryz.prog).eq n n))]⟩ h ?_ ?_ (fun x u6 f hu6 h=>?_)
   · exact Wh
   · exact (Wg (Wk rfl (Wk rfl (Wk rfl (Wk rfl trivial)))) (Wa rfl trivial))
   revert h;revert hu6;revert x;intro i7 hu6 h
   obtain ⟨u6c,u6g,u6t⟩:=u6;obtain ⟨hu6c,hu6g⟩:0 < u6c∧∀ k,u6g k < u6c:=hu6
   refine Wc [] [] [] 0 [] fun N hN=>?_
   generalize hp:std Tryz.prog=p;generalize hv:nvS=nv;cbv;subst hp hv
   replace h:=chk_some h;obtain ⟨h129,h⟩:=h
   replace h:=chk_some h;obtain ⟨h130,h⟩:=h
   refine ⟨(fun hg=>hg),(fun hg=>hg),h129,(fun hg=>hg),h130,(fun hg=>hg),(fun hg=>hg),(fun hg=>hg),?_⟩
   refine ⟨fun h131=>?_,fun h131=>?_⟩
   · replace h:=iteO_t h h131
     replace h:=chk_some h;obtain ⟨h132,h⟩:=h
     refine ⟨h132,?_⟩
     subst hN;cases h
     exact Exists.intro ⟨u6c+11,gfn [(41,u6g 41)],tfn [(41,u6t 41)]⟩ (And.intro Wh (Wg (Wk rfl (Wk rfl (Wk rfl (Wk rfl trivial)))) (Wi rfl trivial)))
   replace h:=iteO_f h h131
   subst hN;cases h
   intro he;cases he
   exact Exists.intro ⟨u6c+10,gfn [(41,u6g 41)],tfn [(41,u6t 41)]⟩ (And.intro Wh (Wg (Wk rfl (Wk rfl (Wk rfl (Wk rfl trivial)))) (Wi rfl trivial)))
 refine Wx [] [] [] 0 [] 1 fun N hN=>?_
 generalize hp:std Tryz.prog=p;generalize hv:nvS=nv;cbv;subst hp hv
 subst hN;show Tr _ _ _ _
 refine Tr.block ?_
 refine Tr.loopO (α:=Int × Int × Int × Int) (fun (n1,wasSpace,setBits1,i9) u7=>(WF 106 [(0,.v (.string s)),(3,WV n1),(4,WV wasSpace),(5,.v (.int .u8 setBits1)),(6,WV i9)] 106 [] u7)) (fun _ t=>Hid.ok t) ⟨ctr+14,gfn [],tfn []⟩ h ?_ ?_ (fun x u7 f hu7 h=>?_)
 · exact Wh
 · exact (Wg (Wk rfl (Wk rfl (Wk rfl (Wk rfl (Wk rfl trivial))))) trivial)
 obtain ⟨n1,wasSpace,setBits1,i9⟩:=x
 try dsimp only at h
 obtain ⟨u7c,u7g,u7t⟩:=u7;obtain ⟨hu7c,hu7g⟩:0 < u7c∧∀ k,u7g k < u7c:=hu7
 refine Wc [] [] [] 0 [] fun N hN=>?_
 generalize hp:std Tryz.prog=p;generalize hv:nvS=nv;cbv;subst hp hv
 refine ⟨fun h143=>?_,fun h143=>?_⟩
 · replace h:=iteO_t h h143
   replace h:=chk_some h;obtain ⟨h144,h⟩:=h
   try (have h144z:=h144;simp only [Int.zero_add] at h144z)
   refine ⟨h144,?_⟩
   replace h:=chk_some h;obtain ⟨h145,h⟩:=h
   try (have h145z:=h145;simp only [Int.zero_add] at h145z)
   refine ⟨h145,?_⟩
   replace h:=chk_some h;obtain ⟨h146,h⟩:=h
   refine ⟨h146,?_⟩
   replace h:=chk_some h;obtain ⟨h147,h⟩:=h
   refine ⟨h147,?_⟩
   subst hN;cases h
   exact Exists.intro ⟨u7c+16,gfn [],tfn []⟩ (And.intro Wh (Wg (Wk rfl (Wk rfl (Wk rfl (Wk rfl (Wk rfl trivial))))) trivial))
 replace h:=iteO_f h h143
 subst hN;cases h
 intro he;cases he
 exact Exists.intro ⟨u7c+10,gfn [],tfn []⟩ (And.intro Wh (Wg (Wk rfl (Wk rfl (Wk rfl trivial))) trivial))
theorem ucd_className_ok (s:ByteArray) (r:Int) (h:ucd_className s=some r):PureFn Tryz.prog 17 [(.v (.string s))] ((WV r)):=by
 unfold ucd_className at h
 refine fn_tr tt0_ok Tryz.func17 (by kernel_rfl) (c:=bodyOf Tryz.f17) (by kernel_rfl) ?_
 intro ctr hc
 refine Wx [] [] [] 0 [] 1 fun N hN=>?_
 generalize hp:std Tryz.prog=p;generalize hv:nvS=nv;cbv;subst hp hv
 subst hN;show Tr _ _ _ _
 refine Tr.cutSeq (α:=Unit) h (fun _ u=>(WF 18 [] 18 [] u)) (fun _ t=>Hid.ok t) (fun x u hu h=>?_) (fun f h=>?_)
 · obtain ⟨uc,ug,ut⟩:=u;obtain ⟨huc,hug⟩:0 < uc∧∀ k,ug k < uc:=hu
   refine Wc [] [] [] 0 [] fun N hN=>?_
   generalize hp:std Tryz.prog=p;generalize hv:nvS=nv;cbv;subst hp hv
   subst hN;have hr:=Option.some.inj h
   subst hr
   try dsimp only [noGoto,inBlockQ,thenQ]
   repeat (first | refine Wt ?_ | refine We ?_)
   exact retQ_ret rfl trivial rfl
 obtain ⟨v,h12⟩ : ∃ v,valO [] (strings_Fields kS0)=v:=⟨_,rfl⟩
 refine Wx [(39,1)] [(5,.own 1 (nvS.len v) false (fun ix jx=>(.v (.string (nvS.get ByteArray.empty v ix)))))] [] 0 [] 1 fun N hN=>?_
 generalize hp:std Tryz.prog=p;generalize hv:nvS=nv;cbv;subst hp hv
 replace h:=bindO_val h12 h;clear h12;obtain ⟨h12,h⟩:=h
 refine ⟨(Or.inl (PureFn.arg (strings_Fields_ok kS0 v h12) (And.intro (LeD.refl _) trivial))),?_⟩
 subst hN;show Tr _ _ _ _
 refine Tr.block ?_
 refine Tr.loopO (α:=Int) (fun v1 u1=>(WF 18 [(0,.v (.string s)),(5,.vec 5 (u1.g 5) 1 0 (nvS.len v)),(6,WV (nvS.len v)),(7,WV v1)] 18 [(5,.arr (u1.g 5) 1 (nvS.len v) (u1.t 5) (fun ix jx=>(.v (.string (nvS.get ByteArray.empty v ix)))))] u1)) (fun _ t=>Hid.ok t) ⟨ctr+11,gfn [(5,ctr+1)],tfn [(5,false)]⟩ h ?_ ?_ (fun x u1 f hu1 h=>?_)
 · exact Wh
 · exact (Wg (Wk rfl (Wk rfl (Wk rfl (Wk rfl trivial)))) (Wi rfl trivial))
 revert h;revert hu1;revert x;intro v1 hu1 h
 obtain ⟨u1c,u1g,u1t⟩:=u1;obtain ⟨hu1c,hu1g⟩:0 < u1c∧∀ k,u1g k < u1c:=hu1
 refine Wc [] [] [] 0 [] fun N hN=>?_
 generalize hp:std Tryz.prog=p;generalize hv:nvS=nv;cbv;subst hp hv
 refine ⟨fun h23=>?_,fun h23=>?_⟩
 · replace h:=iteO_t h h23
   replace h:=chk_some h;obtain ⟨h24,h⟩:=h
   try (have h24z:=h24;simp only [Int.zero_add] at h24z)
   refine ⟨h24,rfl,?_⟩
   refine ⟨fun h25=>?_,fun h25=>?_⟩
   · replace h:=iteO_t h h25
     replace h:=chk_some h;obtain ⟨h26,h⟩:=h
     refine ⟨h26,?_⟩
     subst hN;cases h
     intro he;cases he
     intro hr
     subst hr
     try dsimp only [noGoto,inBlockQ,thenQ]
     repeat (first | refine Wt ?_ | refine We ?_)
     exact retQ_ret rfl trivial rfl
   replace h:=iteO_f h h25
   replace h:=chk_some h;obtain ⟨h27,h⟩:=h
   refine ⟨h27,?_⟩
   subst hN;cases h
   exact Exists.intro ⟨u1c+13,gfn [(5,u1g 5)],tfn [(5,u1t 5)]⟩ (And.intro Wh (Wg (Wk rfl (Wk rfl (Wk rfl (Wk rfl trivial)))) (Wi rfl trivial)))
 replace h:=iteO_f h h23
 subst hN;cases h
 intro he;cases he
 exact Exists.intro ⟨u1c+10,gfn [],tfn []⟩ (And.intro Wh (Wg trivial trivial))
theorem ucd_wideName_ok (s:ByteArray) (r:Int) (h:ucd_wideName s=some r):PureFn Tryz.prog 18 [(.v (.string s))] ((WV r)):=by
 unfold ucd_wideName at h
 refine fn_tr tt0_ok Tryz.func18 (by kernel_rfl) (c:=bodyOf Tryz.f18) (by kernel_rfl) ?_
 intro ctr hc
 obtain ⟨v,h1⟩ : ∃ v,valO 0 (ucd_hex s)=v:=⟨_,rfl⟩
 refine Wc [] [(4,.plain (WV v))] [] 0 [] fun N hN=>?_
 generalize hp:std Tryz.prog=p;generalize hv:nvS=nv;cbv;subst hp hv
 replace h:=bindO_val h1 h;clear h1;obtain ⟨h1,h⟩:=h
 replace h:=chk_some h;obtain ⟨h2,h⟩:=h
 refine ⟨(Or.inl (PureFn.arg (ucd_hex_ok s v h1) (And.intro (LeD.refl _) trivial))),h2,?_⟩
 subst hN;have hr:=Option.some.inj h
 subst hr
 try dsimp only [noGoto,inBlockQ,thenQ]
 repeat (first | refine Wt ?_ | refine We ?_)
 exact retQ_ret rfl trivial rfl
theorem ucd_joinName_ok (s:ByteArray) (r:Int) (h:ucd_joinName s=some r):PureFn Tryz.prog 19 [(.v (.string s))] ((WV r)):=by
 unfold ucd_joinName at h
 refine fn_tr tt0_ok Tryz.func19 (by kernel_rfl) (c:=bodyOf Tryz.f19) (by kernel_rfl) ?_
 intro ctr hc
 refine Wc [] [] [] 0 [] fun N hN=>?_
 generalize hp:std Tryz.prog=p;generalize hv:nvS=nv;cbv;subst hp hv
 refine ⟨fun h1=>?_,fun h1=>?_⟩
 · replace h:=iteO_t h h1
   subst hN;have hr:=Option.some.inj h
   subst hr
   try dsimp only [noGoto,inBlockQ,thenQ]
   repeat (first | refine Wt ?_ | refine We ?_)
   exact retQ_ret rfl trivial rfl
 replace h:=iteO_f h h1
 refine ⟨fun h2=>?_,fun h2=>?_⟩
 · replace h:=iteO_t h h2
   subst hN;have hr:=Option.some.inj h
   subst hr
   try dsimp only [noGoto,inBlockQ,thenQ]
   repeat (first | refine Wt ?_ | refine We ?_)
   exact retQ_ret rfl trivial rfl
 replace h:=iteO_f h h2
 refine ⟨fun h3=>?_,fun h3=>?_⟩
 · replace h:=iteO_t h h3
   subst hN;have hr:=Option.some.inj h
   subst hr
   try dsimp only [noGoto,inBlockQ,thenQ]
   repeat (first | refine Wt ?_ | refine We ?_)
   exact retQ_ret rfl trivial rfl
 replace h:=iteO_f h h3
 refine ⟨fun h4=>?_,fun h4=>?_⟩
 · replace h:=iteO_t h h4
   subst hN;have hr:=Option.some.inj h
   subst hr
   try dsimp only [noGoto,inBlockQ,thenQ]
   repeat (first | refine Wt ?_ | refine We ?_)
   exact retQ_ret rfl trivial rfl
 replace h:=iteO_f h h4
 subst hN;have hr:=Option.some.inj h
 subst hr
 try dsimp only [noGoto,inBlockQ,thenQ]
 repeat (first | refine Wt ?_ | refine We ?_)
 exact retQ_ret rfl trivial rfl
theorem ucd_table_class_ok (text:ByteArray) (r:T_ranges_Table) (h:ucd_table_class text=some r):PureFn Tryz.prog 16 [(.v (.string text)),.fn (.func 17) 0 (fun _=>.junk)] ((.agg 1 (fun j=>(D_ranges_Table nvS r j)))):=by
 unfold ucd_table_class at h
 refine fn_tr tt0_ok Tryz.func16 (by kernel_rfl) (c:=bodyOf Tryz.f16) (by kernel_rfl) ?_
 intro ctr hc
 refine Wx [] [] [] 0 [] 2 fun N hN=>?_
 generalize hp:std Tryz.prog=p;generalize hv:nvS=nv;cbv;subst hp hv
 subst hN;show Tr _ _ _ _
 refine Tr.cutSeq (α:=List T_ranges_Row) h (fun o u=>(WF 58 [(4,.bref 4 (u.g 4) 0),(5,.bref 5 (u.g 5) 0)] 58 [(4,.box (u.g 4) [.nilsl]),(5,.box (u.g 5) [.vec 54 (u.g 54) 3 0 (nvS.len o)]),(54,.arr (u.g 54) 3 (nvS.len o) (u.t 54) (fun ix jx=>(D_ranges_Row nvS (nvS.get d_ranges_Row o ix) jx)))] u)) (fun _ t=>Hid.ok t) (fun x u hu h=>?_) (fun f h=>?_)
 · revert h;revert hu;revert x;intro o hu h
   obtain ⟨uc,ug,ut⟩:=u;obtain ⟨huc,hug⟩:0 < uc∧∀ k,ug k < uc:=hu
   refine Wc [] [] [] 0 [] fun N hN=>?_
   generalize hp:std Tryz.prog=p;generalize hv:nvS=nv;cbv;subst hp hv
   refine ⟨rfl,rfl,?_⟩
   subst hN;have hr:=Option.some.inj h
   subst hr
   try dsimp only [noGoto,inBlockQ,thenQ]
   repeat (first | refine Wt ?_ | refine We ?_)
   refine retQ_ret rfl ?_ ?_
   · exact (And.intro (rfl) trivial)
   exact (fun i _ _ j hj=>by
    have hj2:j < 1:=hj
    rcases (show j=0 by omega) with rfl
    · exact (And.intro (rfl) (And.intro Wy (And.intro (fun h=>by cases h) (out0_all Wo Wp)))))
 obtain ⟨v,h30⟩ : ∃ v,valO [] (strings_Split text (⟨#[44]⟩:ByteArray))=v:=⟨_,rfl⟩
 refine Wx [(36,1)] [(11,.own 1 (nvS.len v) false (fun ix jx=>(.v (.string (nvS.get ByteArray.empty v ix)))))] [] 0 [] 1 fun N hN=>?_
 generalize hp:std Tryz.prog=p;generalize hv:nvS=nv;cbv;subst hp hv
 replace h:=bindO_val h30 h;clear h30;obtain ⟨h30,h⟩:=h
 refine ⟨(Or.inl (PureFn.arg (strings_Split_ok text (⟨#[44]⟩:ByteArray) v h30) (And.intro (LeD.refl _) (And.intro (LeD.refl _) trivial)))),?_⟩
 subst hN;show Tr _ _ _ _
 refine Tr.block ?_
 refine Tr.loopO (α:=Int × List T_ranges_Row) (fun (v1,o1) u1=>(WF 58 [(1,.fn (.func 17) 0 (fun _=>.junk)),(4,.bref 4 (u1.g 4) 0),(5,.bref 5 (u1.g 5) 0),(11,.vec 11 (u1.g 11) 1 0 (nvS.len v)),(12,WV (nvS.len v)),(13,WV v1)] 58 [(4,.box (u1.g 4) [.nilsl]),(5,.box (u1.g 5) [.vec 54 (u1.g 54) 3 0 (nvS.len o1)]),(11,.arr (u1.g 11) 1 (nvS.len v) (u1.t 11) (fun ix jx=>(.v (.string (nvS.get ByteArray.empty v ix))))),(54,.arr (u1.g 54) 3 (nvS.len o1) (u1.t 54) (fun ix jx=>(D_ranges_Row nvS (nvS.get d_ranges_Row o1 ix) jx)))] u1)) (fun _ t=>Hid.ok t) ⟨ctr+13,gfn [(4,ctr+0),(5,ctr+1),(11,ctr+2),(54,ctr+3)],tfn [(4,false),(5,false),(11,false),(54,false)]⟩ h ?_ ?_ (fun x u1 f hu1 h=>?_)
 · exact Wh
 · refine GeSt.by [.thaw (.cell 5 0) 54 3] rfl ?_ ?_
   · exact trivial
   exact LeSt.frame (show ctr+4 < ctr+13 by omega) rfl rfl (Wk rfl (Wk rfl (Wk rfl (Wk rfl (Wk rfl (Wk rfl trivial)))))) (Wi rfl (Wi rfl (Wi rfl (Wj rfl (LeOb.arr' rfl (fun i i0 i1 j hj=>by exfalso;revert i1;show i < (0:Int)→False;omega)) trivial))))
 obtain ⟨v1,o1⟩:=x
 try dsimp only at h
 obtain ⟨u1c,u1g,u1t⟩:=u1;obtain ⟨hu1c,hu1g⟩:0 < u1c∧∀ k,u1g k < u1c:=hu1
 refine Wx [] [] [] 0 [] 2 fun N hN=>?_
 generalize hp:std Tryz.prog=p;generalize hv:nvS=nv;cbv;subst hp hv
 refine ⟨fun h59=>?_,fun h59=>?_⟩
 · replace h:=iteO_t h h59
   subst hN;show Tr _ _ _ _
   refine Tr.cutSeq (α:=List T_ranges_Row) h (fun o2 u2=>(WF 58 [(1,.fn (.func 17) 0 (fun _=>.junk)),(4,.bref 4 (u2.g 4) 0),(5,.bref 5 (u2.g 5) 0),(11,.vec 11 (u2.g 11) 1 0 (nvS.len v)),(12,WV (nvS.len v)),(13,WV v1)] 58 [(4,.box (u2.g 4) [.nilsl]),(5,.box (u2.g 5) [.vec 54 (u2.g 54) 3 0 ((std Tryz.prog).add (nvS.len o1) 1)]),(11,.arr (u2.g 11) 1 (nvS.len v) (u2.t 11) (fun ix jx=>(.v (.string (nvS.get ByteArray.empty v ix))))),(54,.arr (u2.g 54) 3 ((std Tryz.prog).add (nvS.len o1) 1) (u2.t 54) (fun ix jx=>(D_ranges_Row nvS (nvS.get d_ranges_Row o2 ix) jx)))] u2)) (fun o2 t=>Hid.ok t∧lenL o2=((lenL o1)+1)) (fun x u2 hu2 h=>?_) (fun f h=>?_)
   · revert h;revert hu2;revert x;intro o2 hu2 h
     obtain ⟨hu2,ht'2_f0⟩:=hu2
     obtain ⟨u2c,u2g,u2t⟩:=u2;obtain ⟨hu2c,hu2g⟩:0 < u2c∧∀ k,u2g k < u2c:=hu2
     refine Wc [] [] [] 0 [] fun N hN=>?_
     generalize hp:std Tryz.prog=p;generalize hv:nvS=nv;cbv;subst hp hv
     replace h:=chk_some h;obtain ⟨h72,h⟩:=h
     refine ⟨h72,?_⟩
     subst hN;cases h
     exact Exists.intro ⟨u2c+10,gfn [(4,u2g 4),(5,u2g 5),(11,u2g 11),(54,u2g 54)],tfn [(4,false),(5,false),(11,u2t 11),(54,u2t 54)]⟩ (And.intro Wh (Wg (Wk rfl (Wk rfl (Wk rfl (Wk rfl (Wk rfl (Wk rfl trivial)))))) (Wi rfl (Wj rfl (LeOb.box (Wd (LeD.vec rfl Wy) trivial)) (Wi rfl (Wa rfl trivial))))))
   refine Tr.block ?_
   obtain ⟨v2,h74⟩ : ∃ v2,valO [] (ucd_words (getL ByteArray.empty v (0+v1)))=v2:=⟨_,rfl⟩
   refine Wx [(37,1)] [(18,.own 1 (nvS.len v2) false (fun ix jx=>(.v (.string (nvS.get ByteArray.empty v2 ix)))))] [] 0 [] 3 fun N hN=>?_
   generalize hp:std Tryz.prog=p;generalize hv:nvS=nv;cbv;subst hp hv
   replace h:=chk_some h;obtain ⟨h73,h⟩:=h
   try (have h73z:=h73;simp only [Int.zero_add] at h73z)
   refine ⟨h73,rfl,?_⟩
   replace h:=bindO_val h74 h;clear h74;obtain ⟨h74,h⟩:=h
   refine ⟨(Or.inl (PureFn.arg (ucd_words_ok (getL ByteArray.empty v (0+v1)) v2 h74) (And.intro (LeD.refl _) trivial))),?_⟩
   subst hN;show Tr _ _ _ _
   refine Tr.cutSeq (α:=Int × Int × Int) h (fun (b9_0,b9_1,b9_2) u3=>(WF 58 [(1,.fn (.func 17) 0 (fun _=>.junk)),(4,.bref 4 (u3.g 4) 0),(5,.bref 5 (u3.g 5) 0),(9,.bref 9 (u3.g 9) 0),(11,.vec 11 (u3.g 11) 1 0 (nvS.len v)),(12,WV (nvS.len v)),(13,WV v1)] 58 [(4,.box (u3.g 4) [.nilsl]),(5,.box (u3.g 5) [.vec 54 (u3.g 54) 3 0 (nvS.len o1)]),(9,.box (u3.g 9) [WV b9_0,WV b9_1,WV b9_2]),(11,.arr (u3.g 11) 1 (nvS.len v) (u3.t 11) (fun ix jx=>(.v (.string (nvS.get ByteArray.empty v ix))))),(54,.arr (u3.g 54) 3 (nvS.len o1) (u3.t 54) (fun ix jx=>(D_ranges_Row nvS (nvS.get d_ranges_Row o1 ix) jx)))] u3)) (fun _ t=>Hid.ok t) (fun x u3 hu3 h=>?_) (fun f h=>?_)
   · obtain ⟨b9_0,b9_1,b9_2⟩:=x
     try dsimp only at h
     obtain ⟨u3c,u3g,u3t⟩:=u3;obtain ⟨hu3c,hu3g⟩:0 < u3c∧∀ k,u3g k < u3c:=hu3
     refine Wc [] [] [53] 0 [] fun N hN=>?_
     generalize hp:std Tryz.prog=p;generalize hv:nvS=nv;cbv;subst hp hv
     refine ⟨rfl,rfl,rfl,?_⟩
     replace h:=chk_some h;obtain ⟨h84,h⟩:=h
     refine ⟨rfl,rfl,rfl,(by have:=hu3g 54;show (_:Nat) < _;(try dsimp only [std_eq,stdN]);omega),h84,rfl,?_⟩
     subst hN;cases h
     exact Exists.intro ⟨u3c+11,gfn [(4,u3g 4),(5,u3g 5),(11,u3g 11),(54,u3c+1)],tfn [(4,false),(5,false),(11,u3t 11),(54,false)]⟩ (And.intro ((And.intro Wh Wf)) (Wg (Wk rfl (Wk rfl (Wk rfl (Wk rfl (Wk rfl (Wk rfl trivial)))))) (Wi rfl (Wi rfl (Wi rfl (Wa rfl trivial))))))
   refine Wx [] [] [] 0 [] 1 fun N hN=>?_
   generalize hp:std Tryz.prog=p;generalize hv:nvS=nv;cbv;subst hp hv
   subst hN;show Tr _ _ _ _
   refine Tr.block ?_
   refine Tr.cutSeq (α:=Int) h (fun b9_11 u4=>(WF 58 [(1,.fn (.func 17) 0 (fun _=>.junk)),(4,.bref 4 (u4.g 4) 0),(5,.bref 5 (u4.g 5) 0),(8,.vec 18 (u4.g 18) 1 0 (nvS.len v2)),(9,.bref 9 (u4.g 9) 0),(11,.vec 11 (u4.g 11) 1 0 (nvS.len v)),(12,WV (nvS.len v)),(13,WV v1)] 58 [(4,.box (u4.g 4) [.nilsl]),(5,.box (u4.g 5) [.vec 54 (u4.g 54) 3 0 (nvS.len o1)]),(9,.box (u4.g 9) [WV 0,WV b9_11,WV 0]),(11,.arr (u4.g 11) 1 (nvS.len v) (u4.t 11) (fun ix jx=>(.v (.string (nvS.get ByteArray.empty v ix))))),(18,.arr (u4.g 18) 1 (nvS.len v2) (u4.t 18) (fun ix jx=>(.v (.string (nvS.get ByteArray.empty v2 ix))))),(54,.arr (u4.g 54) 3 (nvS.len o1) (u4.t 54) (fun ix jx=>(D_ranges_Row nvS (nvS.get d_ranges_Row o1 ix) jx)))] u4)) (fun _ t=>Hid.ok t) (fun x u4 hu4 h=>?_) (fun f h=>?_)
   · revert h;revert hu4;revert x;intro b9_11 hu4 h
     obtain ⟨u4c,u4g,u4t⟩:=u4;obtain ⟨hu4c,hu4g⟩:0 < u4c∧∀ k,u4g k < u4c:=hu4
     obtain ⟨v3,h90⟩ : ∃ v3,valO 0 (ucd_hex (getL ByteArray.empty v2 (0+0)))=v3:=⟨_,rfl⟩
     obtain ⟨v4,h93⟩ : ∃ v4,valO 0 (ucd_className (getL ByteArray.empty v2 (0+((lenL v2)-1))))=v4:=⟨_,rfl⟩
     refine Wc [] [(33,.plain (WV v3)),(41,.plain (WV v4))] [] 0 [] fun N hN=>?_
     generalize hp:std Tryz.prog=p;generalize hv:nvS=nv;cbv;subst hp hv
     replace h:=chk_some h;obtain ⟨h89,h⟩:=h
     replace h:=bindO_val h90 h;clear h90;obtain ⟨h90,h⟩:=h
     replace h:=chk_some h;obtain ⟨h91,h⟩:=h
     replace h:=chk_some h;obtain ⟨h92,h⟩:=h
     try (have h92z:=h92;simp only [Int.zero_add] at h92z)
     replace h:=bindO_val h93 h;clear h93;obtain ⟨h93,h⟩:=h
     refine ⟨h89,rfl,(Or.inl (PureFn.arg (ucd_hex_ok (getL ByteArray.empty v2 (0+0)) v3 h90) (And.intro (LeD.refl _) trivial))),h91,h92,rfl,(Or.inl (PureFn.arg (ucd_className_ok (getL ByteArray.empty v2 (0+((lenL v2)-1))) v4 h93) (And.intro (LeD.refl _) trivial))),rfl,rfl,(show drOk _ _=true by kernel_rfl),?_⟩
     subst hN;cases h
     exact Exists.intro ⟨u4c+10,gfn [(4,u4g 4),(5,u4g 5),(9,u4g 9),(11,u4g 11),(54,u4g 54)],tfn [(4,false),(5,false),(9,false),(11,u4t 11),(54,u4t 54)]⟩ (And.intro Wh (Wg (Wk rfl (Wk rfl (Wk rfl (Wk rfl (Wk rfl (Wk rfl (Wk rfl trivial))))))) (Wi rfl (Wi rfl (Wi rfl (Wi rfl (Wi rfl trivial)))))))
   obtain ⟨v5,h96⟩ : ∃ v5,valO 0 (ucd_hex (getL ByteArray.empty v2 (0+1)))=v5:=⟨_,rfl⟩
   refine Wc [] [(28,.plain (WV v5))] [] 0 [] fun N hN=>?_
   generalize hp:std Tryz.prog=p;generalize hv:nvS=nv;cbv;subst hp hv
   refine ⟨fun h94=>?_,fun h94=>?_⟩
   · replace h:=iteO_t h h94
     replace h:=chk_some h;obtain ⟨h95,h⟩:=h
     replace h:=bindO_val h96 h;clear h96;obtain ⟨h96,h⟩:=h
     refine ⟨h95,rfl,(Or.inl (PureFn.arg (ucd_hex_ok (getL ByteArray.empty v2 (0+1)) v5 h96) (And.intro (LeD.refl _) trivial))),rfl,?_⟩
     subst hN;cases h
     exact Exists.intro ⟨u1c+16,gfn [(4,u1g 4),(5,u1g 5),(9,u1c+3),(11,u1g 11),(18,u1c+2),(54,u1g 54)],tfn [(4,false),(5,false),(9,false),(11,u1t 11),(18,false),(54,u1t 54)]⟩ (And.intro Wh (Wg (Wk rfl (Wk rfl (Wk rfl (Wk rfl (Wk rfl (Wk rfl (Wk rfl (Wk rfl trivial)))))))) (Wi rfl (Wi rfl (Wi rfl (Wi rfl (Wi rfl (Wi rfl trivial))))))))
   replace h:=iteO_f h h94
   refine ⟨fun h97=>?_,fun h97=>?_⟩
   · replace h:=iteO_t h h97
     subst hN;cases h
     exact Exists.intro ⟨u1c+16,gfn [(4,u1g 4),(5,u1g 5),(9,u1c+3),(11,u1g 11),(18,u1c+2),(54,u1g 54)],tfn [(4,false),(5,false),(9,false),(11,u1t 11),(18,false),(54,u1t 54)]⟩ (And.intro Wh (Wg (Wk rfl (Wk rfl (Wk rfl (Wk rfl (Wk rfl (Wk rfl (Wk rfl (Wk rfl trivial)))))))) (Wi rfl (Wi rfl (Wi rfl (Wi rfl (Wi rfl (Wi rfl trivial))))))))
   replace h:=iteO_f h h97
   subst hN;cases h
   intro he;cases he
   exact Exists.intro ⟨u1c+16,gfn [(4,u1g 4),(5,u1g 5),(9,u1c+3),(11,u1g 11),(54,u1g 54)],tfn [(4,false),(5,false),(9,false),(11,u1t 11),(54,u1t 54)]⟩ (And.intro Wh (Wg (Wk rfl (Wk rfl (Wk rfl (Wk rfl (Wk rfl (Wk rfl (Wk rfl trivial))))))) (Wi rfl (Wi rfl (Wi rfl (Wi rfl (Wi rfl trivial)))))))
 replace h:=iteO_f h h59
 subst hN;cases h
 intro he;cases he
 exact Exists.intro ⟨u1c+10,gfn [(4,u1g 4),(5,u1g 5),(54,u1g 54)],tfn [(4,false),(5,false),(54,u1t 54)]⟩ (And.intro Wh (Wg (Wk rfl (Wk rfl trivial)) (Wi rfl (Wj rfl (LeOb.box (Wd (LeD.vec rfl Wy) trivial)) (Wa rfl trivial)))))
theorem ucd_table_wide_ok (text:ByteArray) (r:T_ranges_Table) (h:ucd_table_wide text=some r):PureFn Tryz.prog 16 [(.v (.string text)),.fn (.func 18) 0 (fun _=>.junk)] ((.agg 1 (fun j=>(D_ranges_Table nvS r j)))):=by
 unfold ucd_table_wide at h
 refine fn_tr tt0_ok Tryz.func16 (by kernel_rfl) (c:=bodyOf Tryz.f16) (by kernel_rfl) ?_
 intro ctr hc
 refine Wx [] [] [] 0 [] 2 fun N hN=>?_
 generalize hp:std Tryz.prog=p;generalize hv:nvS=nv;cbv;subst hp hv
 subst hN;show Tr _ _ _ _
 refine Tr.cutSeq (α:=List T_ranges_Row) h (fun o u=>(WF 58 [(4,.bref 4 (u.g 4) 0),(5,.bref 5 (u.g 5) 0)] 58 [(4,.box (u.g 4) [.nilsl]),(5,.box (u.g 5) [.vec 54 (u.g 54) 3 0 (nvS.len o)]),(54,.arr (u.g 54) 3 (nvS.len o) (u.t 54) (fun ix jx=>(D_ranges_Row nvS (nvS.get d_ranges_Row o ix) jx)))] u)) (fun _ t=>Hid.ok t) (fun x u hu h=>?_) (fun f h=>?_)
 · revert h;revert hu;revert x;intro o hu h
   obtain ⟨uc,ug,ut⟩:=u;obtain ⟨huc,hug⟩:0 < uc∧∀ k,ug k < uc:=hu
   refine Wc [] [] [] 0 [] fun N hN=>?_
   generalize hp:std Tryz.prog=p;generalize hv:nvS=nv;cbv;subst hp hv
   refine ⟨rfl,rfl,?_⟩
   subst hN;have hr:=Option.some.inj h
   subst hr
   try dsimp only [noGoto,inBlockQ,thenQ]
   repeat (first | refine Wt ?_ | refine We ?_)
   refine retQ_ret rfl ?_ ?_
   · exact (And.intro (rfl) trivial)
   exact (fun i _ _ j hj=>by
    have hj2:j < 1:=hj
    rcases (show j=0 by omega) with rfl
    · exact (And.intro (rfl) (And.intro Wy (And.intro (fun h=>by cases h) (out0_all Wo Wp)))))
 obtain ⟨v,h30⟩ : ∃ v,valO [] (strings_Split text (⟨#[44]⟩:ByteArray))=v:=⟨_,rfl⟩
 refine Wx [(36,1)] [(11,.own 1 (nvS.len v) false (fun ix jx=>(.v (.string (nvS.get ByteArray.empty v ix)))))] [] 0 [] 1 fun N hN=>?_
 generalize hp:std Tryz.prog=p;generalize hv:nvS=nv;cbv;subst hp hv
 replace h:=bindO_val h30 h;clear h30;obtain ⟨h30,h⟩:=h
 refine ⟨(Or.inl (PureFn.arg (strings_Split_ok text (⟨#[44]⟩:ByteArray) v h30) (And.intro (LeD.refl _) (And.intro (LeD.refl _) trivial)))),?_⟩
 subst hN;show Tr _ _ _ _
 refine Tr.block ?_
 refine Tr.loopO (α:=Int × List T_ranges_Row) (fun (v1,o1) u1=>(WF 58 [(1,.fn (.func 18) 0 (fun _=>.junk)),(4,.bref 4 (u1.g 4) 0),(5,.bref 5 (u1.g 5) 0),(11,.vec 11 (u1.g 11) 1 0 (nvS.len v)),(12,WV (nvS.len v)),(13,WV v1)] 58 [(4,.box (u1.g 4) [.nilsl]),(5,.box (u1.g 5) [.vec 54 (u1.g 54) 3 0 (nvS.len o1)]),(11,.arr (u1.g 11) 1 (nvS.len v) (u1.t 11) (fun ix jx=>(.v (.string (nvS.get ByteArray.empty v ix))))),(54,.arr (u1.g 54) 3 (nvS.len o1) (u1.t 54) (fun ix jx=>(D_ranges_Row nvS (nvS.get d_ranges_Row o1 ix) jx)))] u1)) (fun _ t=>Hid.ok t) ⟨ctr+13,gfn [(4,ctr+0),(5,ctr+1),(11,ctr+2),(54,ctr+3)],tfn [(4,false),(5,false),(11,false),(54,false)]⟩ h ?_ ?_ (fun x u1 f hu1 h=>?_)
 · exact Wh
 · refine GeSt.by [.thaw (.cell 5 0) 54 3] rfl ?_ ?_
   · exact trivial
   exact LeSt.frame (show ctr+4 < ctr+13 by omega) rfl rfl (Wk rfl (Wk rfl (Wk rfl (Wk rfl (Wk rfl (Wk rfl trivial)))))) (Wi rfl (Wi rfl (Wi rfl (Wj rfl (LeOb.arr' rfl (fun i i0 i1 j hj=>by exfalso;revert i1;show i < (0:Int)→False;omega)) trivial))))
 obtain ⟨v1,o1⟩:=x
 try dsimp only at h
 obtain ⟨u1c,u1g,u1t⟩:=u1;obtain ⟨hu1c,hu1g⟩:0 < u1c∧∀ k,u1g k < u1c:=hu1
 refine Wx [] [] [] 0 [] 2 fun N hN=>?_
 generalize hp:std Tryz.prog=p;generalize hv:nvS=nv;cbv;subst hp hv
 refine ⟨fun h59=>?_,fun h59=>?_⟩
 · replace h:=iteO_t h h59
   subst hN;show Tr _ _ _ _
   refine Tr.cutSeq (α:=List T_ranges_Row) h (fun o2 u2=>(WF 58 [(1,.fn (.func 18) 0 (fun _=>.junk)),(4,.bref 4 (u2.g 4) 0),(5,.bref 5 (u2.g 5) 0),(11,.vec 11 (u2.g 11) 1 0 (nvS.len v)),(12,WV (nvS.len v)),(13,WV v1)] 58 [(4,.box (u2.g 4) [.nilsl]),(5,.box (u2.g 5) [.vec 54 (u2.g 54) 3 0 ((std Tryz.prog).add (nvS.len o1) 1)]),(11,.arr (u2.g 11) 1 (nvS.len v) (u2.t 11) (fun ix jx=>(.v (.string (nvS.get ByteArray.empty v ix))))),(54,.arr (u2.g 54) 3 ((std Tryz.prog).add (nvS.len o1) 1) (u2.t 54) (fun ix jx=>(D_ranges_Row nvS (nvS.get d_ranges_Row o2 ix) jx)))] u2)) (fun o2 t=>Hid.ok t∧lenL o2=((lenL o1)+1)) (fun x u2 hu2 h=>?_) (fun f h=>?_)
   · revert h;revert hu2;revert x;intro o2 hu2 h
     obtain ⟨hu2,ht'2_f0⟩:=hu2
     obtain ⟨u2c,u2g,u2t⟩:=u2;obtain ⟨hu2c,hu2g⟩:0 < u2c∧∀ k,u2g k < u2c:=hu2
     refine Wc [] [] [] 0 [] fun N hN=>?_
     generalize hp:std Tryz.prog=p;generalize hv:nvS=nv;cbv;subst hp hv
     replace h:=chk_some h;obtain ⟨h72,h⟩:=h
     refine ⟨h72,?_⟩
     subst hN;cases h
     exact Exists.intro ⟨u2c+10,gfn [(4,u2g 4),(5,u2g 5),(11,u2g 11),(54,u2g 54)],tfn [(4,false),(5,false),(11,u2t 11),(54,u2t 54)]⟩ (And.intro Wh (Wg (Wk rfl (Wk rfl (Wk rfl (Wk rfl (Wk rfl (Wk rfl trivial)))))) (Wi rfl (Wj rfl (LeOb.box (Wd (LeD.vec rfl Wy) trivial)) (Wi rfl (Wa rfl trivial))))))
   refine Tr.block ?_
   obtain ⟨v2,h74⟩ : ∃ v2,valO [] (ucd_words (getL ByteArray.empty v (0+v1)))=v2:=⟨_,rfl⟩
   refine Wx [(37,1)] [(18,.own 1 (nvS.len v2) false (fun ix jx=>(.v (.string (nvS.get ByteArray.empty v2 ix)))))] [] 0 [] 3 fun N hN=>?_
   generalize hp:std Tryz.prog=p;generalize hv:nvS=nv;cbv;subst hp hv
   replace h:=chk_some h;obtain ⟨h73,h⟩:=h
   try (have h73z:=h73;simp only [Int.zero_add] at h73z)
   refine ⟨h73,rfl,?_⟩
   replace h:=bindO_val h74 h;clear h74;obtain ⟨h74,h⟩:=h
   refine ⟨(Or.inl (PureFn.arg (ucd_words_ok (getL ByteArray.empty v (0+v1)) v2 h74) (And.intro (LeD.refl _) trivial))),?_⟩
   subst hN;show Tr _ _ _ _
   refine Tr.cutSeq (α:=Int × Int × Int) h (fun (b9_0,b9_1,b9_2) u3=>(WF 58 [(1,.fn (.func 18) 0 (fun _=>.junk)),(4,.bref 4 (u3.g 4) 0),(5,.bref 5 (u3.g 5) 0),(9,.bref 9 (u3.g 9) 0),(11,.vec 11 (u3.g 11) 1 0 (nvS.len v)),(12,WV (nvS.len v)),(13,WV v1)] 58 [(4,.box (u3.g 4) [.nilsl]),(5,.box (u3.g 5) [.vec 54 (u3.g 54) 3 0 (nvS.len o1)]),(9,.box (u3.g 9) [WV b9_0,WV b9_1,WV b9_2]),(11,.arr (u3.g 11) 1 (nvS.len v) (u3.t 11) (fun ix jx=>(.v (.string (nvS.get ByteArray.empty v ix))))),(54,.arr (u3.g 54) 3 (nvS.len o1) (u3.t 54) (fun ix jx=>(D_ranges_Row nvS (nvS.get d_ranges_Row o1 ix) jx)))] u3)) (fun _ t=>Hid.ok t) (fun x u3 hu3 h=>?_) (fun f h=>?_)
   · obtain ⟨b9_0,b9_1,b9_2⟩:=x
     try dsimp only at h
     obtain ⟨u3c,u3g,u3t⟩:=u3;obtain ⟨hu3c,hu3g⟩:0 < u3c∧∀ k,u3g k < u3c:=hu3
     refine Wc [] [] [53] 0 [] fun N hN=>?_
     generalize hp:std Tryz.prog=p;generalize hv:nvS=nv;cbv;subst hp hv
     refine ⟨rfl,rfl,rfl,?_⟩
     replace h:=chk_some h;obtain ⟨h84,h⟩:=h
     refine ⟨rfl,rfl,rfl,(by have:=hu3g 54;show (_:Nat) < _;(try dsimp only [std_eq,stdN]);omega),h84,rfl,?_⟩
     subst hN;cases h
     exact Exists.intro ⟨u3c+11,gfn [(4,u3g 4),(5,u3g 5),(11,u3g 11),(54,u3c+1)],tfn [(4,false),(5,false),(11,u3t 11),(54,false)]⟩ (And.intro ((And.intro Wh Wf)) (Wg (Wk rfl (Wk rfl (Wk rfl (Wk rfl (Wk rfl (Wk rfl trivial)))))) (Wi rfl (Wi rfl (Wi rfl (Wa rfl trivial))))))
   refine Wx [] [] [] 0 [] 1 fun N hN=>?_
   generalize hp:std Tryz.prog=p;generalize hv:nvS=nv;cbv;subst hp hv
   subst hN;show Tr _ _ _ _
   refine Tr.block ?_
   refine Tr.cutSeq (α:=Int) h (fun b9_11 u4=>(WF 58 [(1,.fn (.func 18) 0 (fun _=>.junk)),(4,.bref 4 (u4.g 4) 0),(5,.bref 5 (u4.g 5) 0),(8,.vec 18 (u4.g 18) 1 0 (nvS.len v2)),(9,.bref 9 (u4.g 9) 0),(11,.vec 11 (u4.g 11) 1 0 (nvS.len v)),(12,WV (nvS.len v)),(13,WV v1)] 58 [(4,.box (u4.g 4) [.nilsl]),(5,.box (u4.g 5) [.vec 54 (u4.g 54) 3 0 (nvS.len o1)]),(9,.box (u4.g 9) [WV 0,WV b9_11,WV 0]),(11,.arr (u4.g 11) 1 (nvS.len v) (u4.t 11) (fun ix jx=>(.v (.string (nvS.get ByteArray.empty v ix))))),(18,.arr (u4.g 18) 1 (nvS.len v2) (u4.t 18) (fun ix jx=>(.v (.string (nvS.get ByteArray.empty v2 ix))))),(54,.arr (u4.g 54) 3 (nvS.len o1) (u4.t 54) (fun ix jx=>(D_ranges_Row nvS (nvS.get d_ranges_Row o1 ix) jx)))] u4)) (fun _ t=>Hid.ok t) (fun x u4 hu4 h=>?_) (fun f h=>?_)
   · revert h;revert hu4;revert x;intro b9_11 hu4 h
     obtain ⟨u4c,u4g,u4t⟩:=u4;obtain ⟨hu4c,hu4g⟩:0 < u4c∧∀ k,u4g k < u4c:=hu4
     obtain ⟨v3,h90⟩ : ∃ v3,valO 0 (ucd_hex (getL ByteArray.empty v2 (0+0)))=v3:=⟨_,rfl⟩
     obtain ⟨v4,h93⟩ : ∃ v4,valO 0 (ucd_wideName (getL ByteArray.empty v2 (0+((lenL v2)-1))))=v4:=⟨_,rfl⟩
     refine Wc [] [(33,.plain (WV v3)),(41,.plain (WV v4))] [] 0 [] fun N hN=>?_
     generalize hp:std Tryz.prog=p;generalize hv:nvS=nv;cbv;subst hp hv
     replace h:=chk_some h;obtain ⟨h89,h⟩:=h
     replace h:=bindO_val h90 h;clear h90;obtain ⟨h90,h⟩:=h
     replace h:=chk_some h;obtain ⟨h91,h⟩:=h
     replace h:=chk_some h;obtain ⟨h92,h⟩:=h
     try (have h92z:=h92;simp only [Int.zero_add] at h92z)
     replace h:=bindO_val h93 h;clear h93;obtain ⟨h93,h⟩:=h
     refine ⟨h89,rfl,(Or.inl (PureFn.arg (ucd_hex_ok (getL ByteArray.empty v2 (0+0)) v3 h90) (And.intro (LeD.refl _) trivial))),h91,h92,rfl,(Or.inl (PureFn.arg (ucd_wideName_ok (getL ByteArray.empty v2 (0+((lenL v2)-1))) v4 h93) (And.intro (LeD.refl _) trivial))),rfl,rfl,(show drOk _ _=true by kernel_rfl),?_⟩
     subst hN;cases h
     exact Exists.intro ⟨u4c+10,gfn [(4,u4g 4),(5,u4g 5),(9,u4g 9),(11,u4g 11),(54,u4g 54)],tfn [(4,false),(5,false),(9,false),(11,u4t 11),(54,u4t 54)]⟩ (And.intro Wh (Wg (Wk rfl (Wk rfl (Wk rfl (Wk rfl (Wk rfl (Wk rfl (Wk rfl trivial))))))) (Wi rfl (Wi rfl (Wi rfl (Wi rfl (Wi rfl trivial)))))))
   obtain ⟨v5,h96⟩ : ∃ v5,valO 0 (ucd_hex (getL ByteArray.empty v2 (0+1)))=v5:=⟨_,rfl⟩
   refine Wc [] [(28,.plain (WV v5))] [] 0 [] fun N hN=>?_
   generalize hp:std Tryz.prog=p;generalize hv:nvS=nv;cbv;subst hp hv
   refine ⟨fun h94=>?_,fun h94=>?_⟩
   · replace h:=iteO_t h h94
     replace h:=chk_some h;obtain ⟨h95,h⟩:=h
     replace h:=bindO_val h96 h;clear h96;obtain ⟨h96,h⟩:=h
     refine ⟨h95,rfl,(Or.inl (PureFn.arg (ucd_hex_ok (getL ByteArray.empty v2 (0+1)) v5 h96) (And.intro (LeD.refl _) trivial))),rfl,?_⟩
     subst hN;cases h
     exact Exists.intro ⟨u1c+16,gfn [(4,u1g 4),(5,u1g 5),(9,u1c+3),(11,u1g 11),(18,u1c+2),(54,u1g 54)],tfn [(4,false),(5,false),(9,false),(11,u1t 11),(18,false),(54,u1t 54)]⟩ (And.intro Wh (Wg (Wk rfl (Wk rfl (Wk rfl (Wk rfl (Wk rfl (Wk rfl (Wk rfl (Wk rfl trivial)))))))) (Wi rfl (Wi rfl (Wi rfl (Wi rfl (Wi rfl (Wi rfl trivial))))))))
   replace h:=iteO_f h h94
   refine ⟨fun h97=>?_,fun h97=>?_⟩
   · replace h:=iteO_t h h97
     subst hN;cases h
     exact Exists.intro ⟨u1c+16,gfn [(4,u1g 4),(5,u1g 5),(9,u1c+3),(11,u1g 11),(18,u1c+2),(54,u1g 54)],tfn [(4,false),(5,false),(9,false),(11,u1t 11),(18,false),(54,u1t 54)]⟩ (And.intro Wh (Wg (Wk rfl (Wk rfl (Wk rfl (Wk rfl (Wk rfl (Wk rfl (Wk rfl (Wk rfl trivial)))))))) (Wi rfl (Wi rfl (Wi rfl (Wi rfl (Wi rfl (Wi rfl trivial))))))))
   replace h:=iteO_f h h97
   subst hN;cases h
   intro he;cases he
   exact Exists.intro ⟨u1c+16,gfn [(4,u1g 4),(5,u1g 5),(9,u1c+3),(11,u1g 11),(54,u1g 54)],tfn [(4,false),(5,false),(9,false),(11,u1t 11),(54,u1t 54)]⟩ (And.intro Wh (Wg (Wk rfl (Wk rfl (Wk rfl (Wk rfl (Wk rfl (Wk rfl (Wk rfl trivial))))))) (Wi rfl (Wi rfl (Wi rfl (Wi rfl (Wi rfl trivial)))))))
 replace h:=iteO_f h h59
 subst hN;cases h
 intro he;cases he
 exact Exists.intro ⟨u1c+10,gfn [(4,u1g 4),(5,u1g 5),(54,u1g 54)],tfn [(4,false),(5,false),(54,u1t 54)]⟩ (And.intro Wh (Wg (Wk rfl (Wk rfl trivial)) (Wi rfl (Wj rfl (LeOb.box (Wd (LeD.vec rfl Wy) trivial)) (Wa rfl trivial)))))
theorem ucd_table_join_ok (text:ByteArray) (r:T_ranges_Table) (h:ucd_table_join text=some r):PureFn Tryz.prog 16 [(.v (.string text)),.fn (.func 19) 0 (fun _=>.junk)] ((.agg 1 (fun j=>(D_ranges_Table nvS r j)))):=by
 unfold ucd_table_join at h
 refine fn_tr tt0_ok Tryz.func16 (by kernel_rfl) (c:=bodyOf Tryz.f16) (by kernel_rfl) ?_
 intro ctr hc
 refine Wx [] [] [] 0 [] 2 fun N hN=>?_
 generalize hp:std Tryz.prog=p;generalize hv:nvS=nv;cbv;subst hp hv
 subst hN;show Tr _ _ _ _
 refine Tr.cutSeq (α:=List T_ranges_Row) h (fun o u=>(WF 58 [(4,.bref 4 (u.g 4) 0),(5,.bref 5 (u.g 5) 0)] 58 [(4,.box (u.g 4) [.nilsl]),(5,.box (u.g 5) [.vec 54 (u.g 54) 3 0 (nvS.len o)]),(54,.arr (u.g 54) 3 (nvS.len o) (u.t 54) (fun ix jx=>(D_ranges_Row nvS (nvS.get d_ranges_Row o ix) jx)))] u)) (fun _ t=>Hid.ok t) (fun x u hu h=>?_) (fun f h=>?_)
 · revert h;revert hu;revert x;intro o hu h
   obtain ⟨uc,ug,ut⟩:=u;obtain ⟨huc,hug⟩:0 < uc∧∀ k,ug k < uc:=hu
   refine Wc [] [] [] 0 [] fun N hN=>?_
   generalize hp:std Tryz.prog=p;generalize hv:nvS=nv;cbv;subst hp hv
   refine ⟨rfl,rfl,?_⟩
   subst hN;have hr:=Option.some.inj h
   subst hr
   try dsimp only [noGoto,inBlockQ,thenQ]
   repeat (first | refine Wt ?_ | refine We ?_)
   refine retQ_ret rfl ?_ ?_
   · exact (And.intro (rfl) trivial)
   exact (fun i _ _ j hj=>by
    have hj2:j < 1:=hj
    rcases (show j=0 by omega) with rfl
    · exact (And.intro (rfl) (And.intro Wy (And.intro (fun h=>by cases h) (out0_all Wo Wp)))))
 obtain ⟨v,h30⟩ : ∃ v,valO [] (strings_Split text (⟨#[44]⟩:ByteArray))=v:=⟨_,rfl⟩
 refine Wx [(36,1)] [(11,.own 1 (nvS.len v) false (fun ix jx=>(.v (.string (nvS.get ByteArray.empty v ix)))))] [] 0 [] 1 fun N hN=>?_
 generalize hp:std Tryz.prog=p;generalize hv:nvS=nv;cbv;subst hp hv
 replace h:=bindO_val h30 h;clear h30;obtain ⟨h30,h⟩:=h
 refine ⟨(Or.inl (PureFn.arg (strings_Split_ok text (⟨#[44]⟩:ByteArray) v h30) (And.intro (LeD.refl _) (And.intro (LeD.refl _) trivial)))),?_⟩
 subst hN;show Tr _ _ _ _
 refine Tr.block ?_
 refine Tr.loopO (α:=Int × List T_ranges_Row) (fun (v1,o1) u1=>(WF 58 [(1,.fn (.func 19) 0 (fun _=>.junk)),(4,.bref 4 (u1.g 4) 0),(5,.bref 5 (u1.g 5) 0),(11,.vec 11 (u1.g 11) 1 0 (nvS.len v)),(12,WV (nvS.len v)),(13,WV v1)] 58 [(4,.box (u1.g 4) [.nilsl]),(5,.box (u1.g 5) [.vec 54 (u1.g 54) 3 0 (nvS.len o1)]),(11,.arr (u1.g 11) 1 (nvS.len v) (u1.t 11) (fun ix jx=>(.v (.string (nvS.get ByteArray.empty v ix))))),(54,.arr (u1.g 54) 3 (nvS.len o1) (u1.t 54) (fun ix jx=>(D_ranges_Row nvS (nvS.get d_ranges_Row o1 ix) jx)))] u1)) (fun _ t=>Hid.ok t) ⟨ctr+13,gfn [(4,ctr+0),(5,ctr+1),(11,ctr+2),(54,ctr+3)],tfn [(4,false),(5,false),(11,false),(54,false)]⟩ h ?_ ?_ (fun x u1 f hu1 h=>?_)
 · exact Wh
 · refine GeSt.by [.thaw (.cell 5 0) 54 3] rfl ?_ ?_
   · exact trivial
   exact LeSt.frame (show ctr+4 < ctr+13 by omega) rfl rfl (Wk rfl (Wk rfl (Wk rfl (Wk rfl (Wk rfl (Wk rfl trivial)))))) (Wi rfl (Wi rfl (Wi rfl (Wj rfl (LeOb.arr' rfl (fun i i0 i1 j hj=>by exfalso;revert i1;show i < (0:Int)→False;omega)) trivial))))
 obtain ⟨v1,o1⟩:=x
 try dsimp only at h
 obtain ⟨u1c,u1g,u1t⟩:=u1;obtain ⟨hu1c,hu1g⟩:0 < u1c∧∀ k,u1g k < u1c:=hu1
 refine Wx [] [] [] 0 [] 2 fun N hN=>?_
 generalize hp:std Tryz.prog=p;generalize hv:nvS=nv;cbv;subst hp hv
 refine ⟨fun h59=>?_,fun h59=>?_⟩
 · replace h:=iteO_t h h59
   subst hN;show Tr _ _ _ _
   refine Tr.cutSeq (α:=List T_ranges_Row) h (fun o2 u2=>(WF 58 [(1,.fn (.func 19) 0 (fun _=>.junk)),(4,.bref 4 (u2.g 4) 0),(5,.bref 5 (u2.g 5) 0),(11,.vec 11 (u2.g 11) 1 0 (nvS.len v)),(12,WV (nvS.len v)),(13,WV v1)] 58 [(4,.box (u2.g 4) [.nilsl]),(5,.box (u2.g 5) [.vec 54 (u2.g 54) 3 0 ((std Tryz.prog).add (nvS.len o1) 1)]),(11,.arr (u2.g 11) 1 (nvS.len v) (u2.t 11) (fun ix jx=>(.v (.string (nvS.get ByteArray.empty v ix))))),(54,.arr (u2.g 54) 3 ((std Tryz.prog).add (nvS.len o1) 1) (u2.t 54) (fun ix jx=>(D_ranges_Row nvS (nvS.get d_ranges_Row o2 ix) jx)))] u2)) (fun o2 t=>Hid.ok t∧lenL o2=((lenL o1)+1)) (fun x u2 hu2 h=>?_) (fun f h=>?_)
   · revert h;revert hu2;revert x;intro o2 hu2 h
     obtain ⟨hu2,ht'2_f0⟩:=hu2
     obtain ⟨u2c,u2g,u2t⟩:=u2;obtain ⟨hu2c,hu2g⟩:0 < u2c∧∀ k,u2g k < u2c:=hu2
     refine Wc [] [] [] 0 [] fun N hN=>?_
     generalize hp:std Tryz.prog=p;generalize hv:nvS=nv;cbv;subst hp hv
     replace h:=chk_some h;obtain ⟨h72,h⟩:=h
     refine ⟨h72,?_⟩
     subst hN;cases h
     exact Exists.intro ⟨u2c+10,gfn [(4,u2g 4),(5,u2g 5),(11,u2g 11),(54,u2g 54)],tfn [(4,false),(5,false),(11,u2t 11),(54,u2t 54)]⟩ (And.intro Wh (Wg (Wk rfl (Wk rfl (Wk rfl (Wk rfl (Wk rfl (Wk rfl trivial)))))) (Wi rfl (Wj rfl (LeOb.box (Wd (LeD.vec rfl Wy) trivial)) (Wi rfl (Wa rfl trivial))))))
   refine Tr.block ?_
   obtain ⟨v2,h74⟩ : ∃ v2,valO [] (ucd_words (getL ByteArray.empty v (0+v1)))=v2:=⟨_,rfl⟩
   refine Wx [(37,1)] [(18,.own 1 (nvS.len v2) false (fun ix jx=>(.v (.string (nvS.get ByteArray.empty v2 ix)))))] [] 0 [] 3 fun N hN=>?_
   generalize hp:std Tryz.prog=p;generalize hv:nvS=nv;cbv;subst hp hv
   replace h:=chk_some h;obtain ⟨h73,h⟩:=h
   try (have h73z:=h73;simp only [Int.zero_add] at h73z)
   refine ⟨h73,rfl,?_⟩
   replace h:=bindO_val h74 h;clear h74;obtain ⟨h74,h⟩:=h
   refine ⟨(Or.inl (PureFn.arg (ucd_words_ok (getL ByteArray.empty v (0+v1)) v2 h74) (And.intro (LeD.refl _) trivial))),?_⟩
   subst hN;show Tr _ _ _ _
   refine Tr.cutSeq (α:=Int × Int × Int) h (fun (b9_0,b9_1,b9_2) u3=>(WF 58 [(1,.fn (.func 19) 0 (fun _=>.junk)),(4,.bref 4 (u3.g 4) 0),(5,.bref 5 (u3.g 5) 0),(9,.bref 9 (u3.g 9) 0),(11,.vec 11 (u3.g 11) 1 0 (nvS.len v)),(12,WV (nvS.len v)),(13,WV v1)] 58 [(4,.box (u3.g 4) [.nilsl]),(5,.box (u3.g 5) [.vec 54 (u3.g 54) 3 0 (nvS.len o1)]),(9,.box (u3.g 9) [WV b9_0,WV b9_1,WV b9_2]),(11,.arr (u3.g 11) 1 (nvS.len v) (u3.t 11) (fun ix jx=>(.v (.string (nvS.get ByteArray.empty v ix))))),(54,.arr (u3.g 54) 3 (nvS.len o1) (u3.t 54) (fun ix jx=>(D_ranges_Row nvS (nvS.get d_ranges_Row o1 ix) jx)))] u3)) (fun _ t=>Hid.ok t) (fun x u3 hu3 h=>?_) (fun f h=>?_)
   · obtain ⟨b9_0,b9_1,b9_2⟩:=x
     try dsimp only at h
     obtain ⟨u3c,u3g,u3t⟩:=u3;obtain ⟨hu3c,hu3g⟩:0 < u3c∧∀ k,u3g k < u3c:=hu3
     refine Wc [] [] [53] 0 [] fun N hN=>?_
     generalize hp:std Tryz.prog=p;generalize hv:nvS=nv;cbv;subst hp hv
     refine ⟨rfl,rfl,rfl,?_⟩
     replace h:=chk_some h;obtain ⟨h84,h⟩:=h
     refine ⟨rfl,rfl,rfl,(by have:=hu3g 54;show (_:Nat) < _;(try dsimp only [std_eq,stdN]);omega),h84,rfl,?_⟩
     subst hN;cases h
     exact Exists.intro ⟨u3c+11,gfn [(4,u3g 4),(5,u3g 5),(11,u3g 11),(54,u3c+1)],tfn [(4,false),(5,false),(11,u3t 11),(54,false)]⟩ (And.intro ((And.intro Wh Wf)) (Wg (Wk rfl (Wk rfl (Wk rfl (Wk rfl (Wk rfl (Wk rfl trivial)))))) (Wi rfl (Wi rfl (Wi rfl (Wa rfl trivial))))))
   refine Wx [] [] [] 0 [] 1 fun N hN=>?_
   generalize hp:std Tryz.prog=p;generalize hv:nvS=nv;cbv;subst hp hv
   subst hN;show Tr _ _ _ _
   refine Tr.block ?_
   refine Tr.cutSeq (α:=Int) h (fun b9_11 u4=>(WF 58 [(1,.fn (.func 19) 0 (fun _=>.junk)),(4,.bref 4 (u4.g 4) 0),(5,.bref 5 (u4.g 5) 0),(8,.vec 18 (u4.g 18) 1 0 (nvS.len v2)),(9,.bref 9 (u4.g 9) 0),(11,.vec 11 (u4.g 11) 1 0 (nvS.len v)),(12,WV (nvS.len v)),(13,WV v1)] 58 [(4,.box (u4.g 4) [.nilsl]),(5,.box (u4.g 5) [.vec 54 (u4.g 54) 3 0 (nvS.len o1)]),(9,.box (u4.g 9) [WV 0,WV b9_11,WV 0]),(11,.arr (u4.g 11) 1 (nvS.len v) (u4.t 11) (fun ix jx=>(.v (.string (nvS.get ByteArray.empty v ix))))),(18,.arr (u4.g 18) 1 (nvS.len v2) (u4.t 18) (fun ix jx=>(.v (.string (nvS.get ByteArray.empty v2 ix))))),(54,.arr (u4.g 54) 3 (nvS.len o1) (u4.t 54) (fun ix jx=>(D_ranges_Row nvS (nvS.get d_ranges_Row o1 ix) jx)))] u4)) (fun _ t=>Hid.ok t) (fun x u4 hu4 h=>?_) (fun f h=>?_)
   · revert h;revert hu4;revert x;intro b9_11 hu4 h
     obtain ⟨u4c,u4g,u4t⟩:=u4;obtain ⟨hu4c,hu4g⟩:0 < u4c∧∀ k,u4g k < u4c:=hu4
     obtain ⟨v3,h90⟩ : ∃ v3,valO 0 (ucd_hex (getL ByteArray.empty v2 (0+0)))=v3:=⟨_,rfl⟩
     obtain ⟨v4,h93⟩ : ∃ v4,valO 0 (ucd_joinName (getL ByteArray.empty v2 (0+((lenL v2)-1))))=v4:=⟨_,rfl⟩
     refine Wc [] [(33,.plain (WV v3)),(41,.plain (WV v4))] [] 0 [] fun N hN=>?_
     generalize hp:std Tryz.prog=p;generalize hv:nvS=nv;cbv;subst hp hv
     replace h:=chk_some h;obtain ⟨h89,h⟩:=h
     replace h:=bindO_val h90 h;clear h90;obtain ⟨h90,h⟩:=h
     replace h:=chk_some h;obtain ⟨h91,h⟩:=h
     replace h:=chk_some h;obtain ⟨h92,h⟩:=h
     try (have h92z:=h92;simp only [Int.zero_add] at h92z)
     replace h:=bindO_val h93 h;clear h93;obtain ⟨h93,h⟩:=h
     refine ⟨h89,rfl,(Or.inl (PureFn.arg (ucd_hex_ok (getL ByteArray.empty v2 (0+0)) v3 h90) (And.intro (LeD.refl _) trivial))),h91,h92,rfl,(Or.inl (PureFn.arg (ucd_joinName_ok (getL ByteArray.empty v2 (0+((lenL v2)-1))) v4 h93) (And.intro (LeD.refl _) trivial))),rfl,rfl,(show drOk _ _=true by kernel_rfl),?_⟩
     subst hN;cases h
     exact Exists.intro ⟨u4c+10,gfn [(4,u4g 4),(5,u4g 5),(9,u4g 9),(11,u4g 11),(54,u4g 54)],tfn [(4,false),(5,false),(9,false),(11,u4t 11),(54,u4t 54)]⟩ (And.intro Wh (Wg (Wk rfl (Wk rfl (Wk rfl (Wk rfl (Wk rfl (Wk rfl (Wk rfl trivial))))))) (Wi rfl (Wi rfl (Wi rfl (Wi rfl (Wi rfl trivial)))))))
   obtain ⟨v5,h96⟩ : ∃ v5,valO 0 (ucd_hex (getL ByteArray.empty v2 (0+1)))=v5:=⟨_,rfl⟩
   refine Wc [] [(28,.plain (WV v5))] [] 0 [] fun N hN=>?_
   generalize hp:std Tryz.prog=p;generalize hv:nvS=nv;cbv;subst hp hv
   refine ⟨fun h94=>?_,fun h94=>?_⟩
   · replace h:=iteO_t h h94
     replace h:=chk_some h;obtain ⟨h95,h⟩:=h
     replace h:=bindO_val h96 h;clear h96;obtain ⟨h96,h⟩:=h
     refine ⟨h95,rfl,(Or.inl (PureFn.arg (ucd_hex_ok (getL ByteArray.empty v2 (0+1)) v5 h96) (And.intro (LeD.refl _) trivial))),rfl,?_⟩
     subst hN;cases h
     exact Exists.intro ⟨u1c+16,gfn [(4,u1g 4),(5,u1g 5),(9,u1c+3),(11,u1g 11),(18,u1c+2),(54,u1g 54)],tfn [(4,false),(5,false),(9,false),(11,u1t 11),(18,false),(54,u1t 54)]⟩ (And.intro Wh (Wg (Wk rfl (Wk rfl (Wk rfl (Wk rfl (Wk rfl (Wk rfl (Wk rfl (Wk rfl trivial)))))))) (Wi rfl (Wi rfl (Wi rfl (Wi rfl (Wi rfl (Wi rfl trivial))))))))
   replace h:=iteO_f h h94
   refine ⟨fun h97=>?_,fun h97=>?_⟩
   · replace h:=iteO_t h h97
     subst hN;cases h
     exact Exists.intro ⟨u1c+16,gfn [(4,u1g 4),(5,u1g 5),(9,u1c+3),(11,u1g 11),(18,u1c+2),(54,u1g 54)],tfn [(4,false),(5,false),(9,false),(11,u1t 11),(18,false),(54,u1t 54)]⟩ (And.intro Wh (Wg (Wk rfl (Wk rfl (Wk rfl (Wk rfl (Wk rfl (Wk rfl (Wk rfl (Wk rfl trivial)))))))) (Wi rfl (Wi rfl (Wi rfl (Wi rfl (Wi rfl (Wi rfl trivial))))))))
   replace h:=iteO_f h h97
   subst hN;cases h
   intro he;cases he
   exact Exists.intro ⟨u1c+16,gfn [(4,u1g 4),(5,u1g 5),(9,u1c+3),(11,u1g 11),(54,u1g 54)],tfn [(4,false),(5,false),(9,false),(11,u1t 11),(54,u1t 54)]⟩ (And.intro Wh (Wg (Wk rfl (Wk rfl (Wk rfl (Wk rfl (Wk rfl (Wk rfl (Wk rfl trivial))))))) (Wi rfl (Wi rfl (Wi rfl (Wi rfl (Wi rfl trivial)))))))
 replace h:=iteO_f h h59
 subst hN;cases h
 intro he;cases he
 exact Exists.intro ⟨u1c+10,gfn [(4,u1g 4),(5,u1g 5),(54,u1g 54)],tfn [(4,false),(5,false),(54,u1t 54)]⟩ (And.intro Wh (Wg (Wk rfl (Wk rfl trivial)) (Wi rfl (Wj rfl (LeOb.box (Wd (LeD.vec rfl Wy) trivial)) (Wa rfl trivial)))))
theorem ucd_pairs_ok (text:ByteArray) (r:(List T_ucd_Pair)) (h:ucd_pairs text=some r):PureFn Tryz.prog 20 [(.v (.string text))] (.own 2 (nvS.len r) false (fun ix jx=>(D_ucd_Pair nvS (nvS.get d_ucd_Pair r ix) jx))):=by
 unfold ucd_pairs at h
 refine fn_tr tt0_ok Tryz.func20 (by kernel_rfl) (c:=bodyOf Tryz.f20) (by kernel_rfl) ?_
 intro ctr hc
 refine Wx [] [] [] 0 [] 2 fun N hN=>?_
 generalize hp:std Tryz.prog=p;generalize hv:nvS=nv;cbv;subst hp hv
 subst hN;show Tr _ _ _ _
 refine Tr.cutSeq (α:=List T_ucd_Pair) h (fun l' u=>(WF 33 [(3,.vec 30 (u.g 30) 2 0 (nvS.len l'))] 33 [(30,.arr (u.g 30) 2 (nvS.len l') (u.t 30) (fun ix jx=>(D_ucd_Pair nvS (nvS.get d_ucd_Pair l' ix) jx)))] u)) (fun _ t=>Hid.ok t) (fun x u hu h=>?_) (fun f h=>?_)
 · revert h;revert hu;revert x;intro l' hu h
   obtain ⟨uc,ug,ut⟩:=u;obtain ⟨huc,hug⟩:0 < uc∧∀ k,ug k < uc:=hu
   refine Wc [] [] [] 0 [] fun N hN=>?_
   generalize hp:std Tryz.prog=p;generalize hv:nvS=nv;cbv;subst hp hv
   subst hN;have hr:=Option.some.inj h
   subst hr
   try dsimp only [noGoto,inBlockQ,thenQ]
   repeat (first | refine Wt ?_ | refine We ?_)
   exact retQ_ret rfl trivial (And.intro (rfl) (And.intro Wy (And.intro (fun h=>by cases h) (out0_all Wo Wp))))
 obtain ⟨v,h24⟩ : ∃ v,valO [] (strings_Split text (⟨#[44]⟩:ByteArray))=v:=⟨_,rfl⟩
 refine Wx [(36,1)] [(8,.own 1 (nvS.len v) false (fun ix jx=>(.v (.string (nvS.get ByteArray.empty v ix)))))] [] 0 [] 1 fun N hN=>?_
 generalize hp:std Tryz.prog=p;generalize hv:nvS=nv;cbv;subst hp hv
 replace h:=bindO_val h24 h;clear h24;obtain ⟨h24,h⟩:=h
 refine ⟨(Or.inl (PureFn.arg (strings_Split_ok text (⟨#[44]⟩:ByteArray) v h24) (And.intro (LeD.refl _) (And.intro (LeD.refl _) trivial)))),?_⟩
 subst hN;show Tr _ _ _ _
 refine Tr.block ?_
 refine Tr.loopO (α:=Int × List T_ucd_Pair) (fun (v1,l'1) u1=>(WF 33 [(3,.vec 30 (u1.g 30) 2 0 (nvS.len l'1)),(8,.vec 8 (u1.g 8) 1 0 (nvS.len v)),(9,WV (nvS.len v)),(10,WV v1)] 33 [(8,.arr (u1.g 8) 1 (nvS.len v) (u1.t 8) (fun ix jx=>(.v (.string (nvS.get ByteArray.empty v ix))))),(30,.arr (u1.g 30) 2 (nvS.len l'1) (u1.t 30) (fun ix jx=>(D_ucd_Pair nvS (nvS.get d_ucd_Pair l'1 ix) jx)))] u1)) (fun _ t=>Hid.ok t) ⟨ctr+13,gfn [(8,ctr+2),(30,ctr+3)],tfn [(8,false),(30,false)]⟩ h ?_ ?_ (fun x u1 f hu1 h=>?_)
 · exact Wh
 · refine GeSt.by [.thaw (.slot 3) 30 2] rfl ?_ ?_
   · exact trivial
   exact LeSt.frame (show ctr+4 < ctr+13 by omega) rfl rfl (Wk rfl (Wk rfl (Wk rfl (Wk rfl trivial)))) (Wi rfl (Wj rfl (LeOb.arr' rfl (fun i i0 i1 j hj=>by exfalso;revert i1;show i < (0:Int)→False;omega)) trivial))
 obtain ⟨v1,l'1⟩:=x
 try dsimp only at h
 obtain ⟨u1c,u1g,u1t⟩:=u1;obtain ⟨hu1c,hu1g⟩:0 < u1c∧∀ k,u1g k < u1c:=hu1
 obtain ⟨v2,h49⟩ : ∃ v2,valO [] (ucd_words (getL ByteArray.empty v (0+v1)))=v2:=⟨_,rfl⟩
 obtain ⟨v3,h52⟩ : ∃ v3,valO 0 (ucd_hex (getL ByteArray.empty v2 (0+0)))=v3:=⟨_,rfl⟩
 obtain ⟨v4,h54⟩ : ∃ v4,valO 0 (ucd_hex (getL ByteArray.empty v2 (0+1)))=v4:=⟨_,rfl⟩
 refine Wc [(37,1)] [(15,.own 1 (nvS.len v2) false (fun ix jx=>(.v (.string (nvS.get ByteArray.empty v2 ix))))),(23,.plain (WV v3)),(27,.plain (WV v4))] [29] 0 [] fun N hN=>?_
 generalize hp:std Tryz.prog=p;generalize hv:nvS=nv;cbv;subst hp hv
 refine ⟨fun h47=>?_,fun h47=>?_⟩
 · replace h:=iteO_t h h47
   replace h:=chk_some h;obtain ⟨h48,h⟩:=h
   try (have h48z:=h48;simp only [Int.zero_add] at h48z)
   refine ⟨h48,rfl,?_⟩
   replace h:=bindO_val h49 h;clear h49;obtain ⟨h49,h⟩:=h
   refine ⟨(Or.inl (PureFn.arg (ucd_words_ok (getL ByteArray.empty v (0+v1)) v2 h49) (And.intro (LeD.refl _) trivial))),?_⟩
   refine ⟨fun h50=>?_,fun h50=>?_⟩
   · replace h:=iteO_t h h50
     replace h:=chk_some h;obtain ⟨h51,h⟩:=h
     replace h:=bindO_val h52 h;clear h52;obtain ⟨h52,h⟩:=h
     replace h:=chk_some h;obtain ⟨h53,h⟩:=h
     replace h:=bindO_val h54 h;clear h54;obtain ⟨h54,h⟩:=h
     replace h:=chk_some h;obtain ⟨h55,h⟩:=h
     refine ⟨h51,rfl,(Or.inl (PureFn.arg (ucd_hex_ok (getL ByteArray.empty v2 (0+0)) v3 h52) (And.intro (LeD.refl _) trivial))),h53,rfl,(Or.inl (PureFn.arg (ucd_hex_ok (getL ByteArray.empty v2 (0+1)) v4 h54) (And.intro (LeD.refl _) trivial))),rfl,(by have:=hu1g 30;show (_:Nat) < _;(try dsimp only [std_eq,stdN]);omega),h55,(show drOk _ _=true by kernel_rfl),?_⟩
     replace h:=chk_some h;obtain ⟨h56,h⟩:=h
     refine ⟨h56,?_⟩
     subst hN;cases h
     exact Exists.intro ⟨u1c+15,gfn [(8,u1g 8),(30,u1c+4)],tfn [(8,u1t 8),(30,false)]⟩ (And.intro Wh (Wg (Wq rfl (LeD.vec rfl Wy) (Wk rfl (Wk rfl (Wk rfl trivial)))) (Wi rfl (Wa rfl trivial))))
   replace h:=iteO_f h h50
   replace h:=chk_some h;obtain ⟨h57,h⟩:=h
   refine ⟨h57,?_⟩
   subst hN;cases h
   exact Exists.intro ⟨u1c+14,gfn [(8,u1g 8),(30,u1g 30)],tfn [(8,u1t 8),(30,u1t 30)]⟩ (And.intro Wh (Wg (Wq rfl ((by first | exact LeD.refl _ | exact LeD.vec rfl Wy)) (Wk rfl (Wk rfl (Wk rfl trivial)))) (Wi rfl (Wi rfl trivial))))
 replace h:=iteO_f h h47
 subst hN;cases h
 intro he;cases he
 exact Exists.intro ⟨u1c+10,gfn [(30,u1g 30)],tfn [(30,u1t 30)]⟩ (And.intro Wh (Wg (Wq rfl (LeD.vec rfl Wy) trivial) (Wa rfl trivial)))
theorem ucd_forms_ok (text:ByteArray) (r:(List T_ucd_Form)) (h:ucd_forms text=some r):PureFn Tryz.prog 21 [(.v (.string text))] (.own 3 (nvS.len r) false (fun ix jx=>(D_ucd_Form nvS (nvS.get d_ucd_Form r ix) jx))):=by
 unfold ucd_forms at h
 refine fn_tr tt0_ok Tryz.func21 (by kernel_rfl) (c:=bodyOf Tryz.f21) (by kernel_rfl) ?_
 intro ctr hc
 refine Wx [] [] [] 0 [] 2 fun N hN=>?_
 generalize hp:std Tryz.prog=p;generalize hv:nvS=nv;cbv;subst hp hv
 subst hN;show Tr _ _ _ _
 refine Tr.cutSeq (α:=List T_ucd_Form) h (fun l' u=>(WF 37 [(3,.vec 34 (u.g 34) 3 0 (nvS.len l'))] 37 [(34,.arr (u.g 34) 3 (nvS.len l') (u.t 34) (fun ix jx=>(D_ucd_Form nvS (nvS.get d_ucd_Form l' ix) jx)))] u)) (fun _ t=>Hid.ok t) (fun x u hu h=>?_) (fun f h=>?_)
 · revert h;revert hu;revert x;intro l' hu h
   obtain ⟨uc,ug,ut⟩:=u;obtain ⟨huc,hug⟩:0 < uc∧∀ k,ug k < uc:=hu
   refine Wc [] [] [] 0 [] fun N hN=>?_
   generalize hp:std Tryz.prog=p;generalize hv:nvS=nv;cbv;subst hp hv
   subst hN;have hr:=Option.some.inj h
   subst hr
   try dsimp only [noGoto,inBlockQ,thenQ]
   repeat (first | refine Wt ?_ | refine We ?_)
   exact retQ_ret rfl trivial (And.intro (rfl) (And.intro Wy (And.intro (fun h=>by cases h) (out0_all Wo Wp))))
 obtain ⟨v,h28⟩ : ∃ v,valO [] (strings_Split text (⟨#[44]⟩:ByteArray))=v:=⟨_,rfl⟩
 refine Wx [(36,1)] [(8,.own 1 (nvS.len v) false (fun ix jx=>(.v (.string (nvS.get ByteArray.empty v ix)))))] [] 0 [] 1 fun N hN=>?_
 generalize hp:std Tryz.prog=p;generalize hv:nvS=nv;cbv;subst hp hv
 replace h:=bindO_val h28 h;clear h28;obtain ⟨h28,h⟩:=h
 refine ⟨(Or.inl (PureFn.arg (strings_Split_ok text (⟨#[44]⟩:ByteArray) v h28) (And.intro (LeD.refl _) (And.intro (LeD.refl _) trivial)))),?_⟩
 subst hN;show Tr _ _ _ _
 refine Tr.block ?_
 refine Tr.loopO (α:=Int × List T_ucd_Form) (fun (v1,l'1) u1=>(WF 37 [(3,.vec 34 (u1.g 34) 3 0 (nvS.len l'1)),(8,.vec 8 (u1.g 8) 1 0 (nvS.len v)),(9,WV (nvS.len v)),(10,WV v1)] 37 [(8,.arr (u1.g 8) 1 (nvS.len v) (u1.t 8) (fun ix jx=>(.v (.string (nvS.get ByteArray.empty v ix))))),(34,.arr (u1.g 34) 3 (nvS.len l'1) (u1.t 34) (fun ix jx=>(D_ucd_Form nvS (nvS.get d_ucd_Form l'1 ix) jx)))] u1)) (fun _ t=>Hid.ok t) ⟨ctr+13,gfn [(8,ctr+2),(34,ctr+3)],tfn [(8,false),(34,false)]⟩ h ?_ ?_ (fun x u1 f hu1 h=>?_)
 · exact Wh
 · refine GeSt.by [.thaw (.slot 3) 34 3] rfl ?_ ?_
   · exact trivial
   exact LeSt.frame (show ctr+4 < ctr+13 by omega) rfl rfl (Wk rfl (Wk rfl (Wk rfl (Wk rfl trivial)))) (Wi rfl (Wj rfl (LeOb.arr' rfl (fun i i0 i1 j hj=>by exfalso;revert i1;show i < (0:Int)→False;omega)) trivial))
 obtain ⟨v1,l'1⟩:=x
 try dsimp only at h
 obtain ⟨u1c,u1g,u1t⟩:=u1;obtain ⟨hu1c,hu1g⟩:0 < u1c∧∀ k,u1g k < u1c:=hu1
 obtain ⟨v2,h57⟩ : ∃ v2,valO [] (ucd_words (getL ByteArray.empty v (0+v1)))=v2:=⟨_,rfl⟩
 obtain ⟨v3,h60⟩ : ∃ v3,valO 0 (ucd_hex (getL ByteArray.empty v2 (0+0)))=v3:=⟨_,rfl⟩
 obtain ⟨v4,h62⟩ : ∃ v4,valO 0 (ucd_hex (getL ByteArray.empty v2 (0+1)))=v4:=⟨_,rfl⟩
 obtain ⟨v5,h64⟩ : ∃ v5,valO 0 (ucd_hex (getL ByteArray.empty v2 (0+2)))=v5:=⟨_,rfl⟩
 refine Wc [(37,1)] [(15,.own 1 (nvS.len v2) false (fun ix jx=>(.v (.string (nvS.get ByteArray.empty v2 ix))))),(23,.plain (WV v3)),(27,.plain (WV v4)),(31,.plain (WV v5))] [33] 0 [] fun N hN=>?_
 generalize hp:std Tryz.prog=p;generalize hv:nvS=nv;cbv;subst hp hv
 refine ⟨fun h55=>?_,fun h55=>?_⟩
 · replace h:=iteO_t h h55
   replace h:=chk_some h;obtain ⟨h56,h⟩:=h
   try (have h56z:=h56;simp only [Int.zero_add] at h56z)
   refine ⟨h56,rfl,?_⟩
   replace h:=bindO_val h57 h;clear h57;obtain ⟨h57,h⟩:=h
   refine ⟨(Or.inl (PureFn.arg (ucd_words_ok (getL ByteArray.empty v (0+v1)) v2 h57) (And.intro (LeD.refl _) trivial))),?_⟩
   refine ⟨fun h58=>?_,fun h58=>?_⟩
   · replace h:=iteO_t h h58
     replace h:=chk_some h;obtain ⟨h59,h⟩:=h
     replace h:=bindO_val h60 h;clear h60;obtain ⟨h60,h⟩:=h
     replace h:=chk_some h;obtain ⟨h61,h⟩:=h
     replace h:=bindO_val h62 h;clear h62;obtain ⟨h62,h⟩:=h
     replace h:=chk_some h;obtain ⟨h63,h⟩:=h
     replace h:=bindO_val h64 h;clear h64;obtain ⟨h64,h⟩:=h
     replace h:=chk_some h;obtain ⟨h65,h⟩:=h
     refine ⟨h59,rfl,(Or.inl (PureFn.arg (ucd_hex_ok (getL ByteArray.empty v2 (0+0)) v3 h60) (And.intro (LeD.refl _) trivial))),h61,rfl,(Or.inl (PureFn.arg (ucd_hex_ok (getL ByteArray.empty v2 (0+1)) v4 h62) (And.intro (LeD.refl _) trivial))),h63,rfl,(Or.inl (PureFn.arg (ucd_hex_ok (getL ByteArray.empty v2 (0+2)) v5 h64) (And.intro (LeD.refl _) trivial))),rfl,(by have:=hu1g 34;show (_:Nat) < _;(try dsimp only [std_eq,stdN]);omega),h65,(show drOk _ _=true by kernel_rfl),?_⟩
     replace h:=chk_some h;obtain ⟨h66,h⟩:=h
     refine ⟨h66,?_⟩
     subst hN;cases h
     exact Exists.intro ⟨u1c+15,gfn [(8,u1g 8),(34,u1c+4)],tfn [(8,u1t 8),(34,false)]⟩ (And.intro Wh (Wg (Wq rfl (LeD.vec rfl Wy) (Wk rfl (Wk rfl (Wk rfl trivial)))) (Wi rfl (Wa rfl trivial))))
   replace h:=iteO_f h h58
   replace h:=chk_some h;obtain ⟨h67,h⟩:=h
   refine ⟨h67,?_⟩
   subst hN;cases h
   exact Exists.intro ⟨u1c+14,gfn [(8,u1g 8),(34,u1g 34)],tfn [(8,u1t 8),(34,u1t 34)]⟩ (And.intro Wh (Wg (Wq rfl ((by first | exact LeD.refl _ | exact LeD.vec rfl Wy)) (Wk rfl (Wk rfl (Wk rfl trivial)))) (Wi rfl (Wi rfl trivial))))
 replace h:=iteO_f h h55
 subst hN;cases h
 intro he;cases he
 exact Exists.intro ⟨u1c+10,gfn [(34,u1g 34)],tfn [(34,u1t 34)]⟩ (And.intro Wh (Wg (Wq rfl (LeD.vec rfl Wy) trivial) (Wa rfl trivial)))
theorem ucd_Load_ok  (r:T_ucd_Data) (h:ucd_Load=some r):PureFn Tryz.prog 8 [] ((.agg 6 (fun j=>(D_ucd_Data nvS r j)))):=by
 unfold ucd_Load at h
 refine fn_tr tt0_ok Tryz.func8 (by kernel_rfl) (c:=bodyOf Tryz.f8) (by kernel_rfl) ?_
 intro ctr hc
 obtain ⟨v,h1⟩ : ∃ v,valO d_ranges_Table (ucd_table_class kS1)=v:=⟨_,rfl⟩
 obtain ⟨v_L⟩:=v
 obtain ⟨v1,h2⟩ : ∃ v1,valO d_ranges_Table (ucd_table_wide kS2)=v1:=⟨_,rfl⟩
 obtain ⟨v1_L⟩:=v1
 obtain ⟨v2,h3⟩ : ∃ v2,valO d_ranges_Table (ucd_table_join kS3)=v2:=⟨_,rfl⟩
 obtain ⟨v2_L⟩:=v2
 obtain ⟨v3,h4⟩ : ∃ v3,valO [] (ucd_pairs kS4)=v3:=⟨_,rfl⟩
 obtain ⟨v4,h5⟩ : ∃ v4,valO [] (ucd_pairs kS5)=v4:=⟨_,rfl⟩
 obtain ⟨v5,h6⟩ : ∃ v5,valO [] (ucd_forms kS6)=v5:=⟨_,rfl⟩
 refine Wc [(20,1),(21,1)] [(1,.plain (.agg 1 (fun j=>(D_ranges_Table nvS (T_ranges_Table.mk v_L) j)))),(2,.plain (.agg 1 (fun j=>(D_ranges_Table nvS (T_ranges_Table.mk v1_L) j)))),(3,.plain (.agg 1 (fun j=>(D_ranges_Table nvS (T_ranges_Table.mk v2_L) j)))),(4,.own 2 (nvS.len v3) false (fun ix jx=>(D_ucd_Pair nvS (nvS.get d_ucd_Pair v3 ix) jx))),(5,.own 2 (nvS.len v4) false (fun ix jx=>(D_ucd_Pair nvS (nvS.get d_ucd_Pair v4 ix) jx))),(6,.own 3 (nvS.len v5) false (fun ix jx=>(D_ucd_Form nvS (nvS.get d_ucd_Form v5 ix) jx)))] [] 0 [] fun N hN=>?_
 generalize hp:std Tryz.prog=p;generalize hv:nvS=nv;cbv;subst hp hv
 replace h:=bindO_val h1 h;clear h1;obtain ⟨h1,h⟩:=h;try dsimp only at h
 replace h:=bindO_val h2 h;clear h2;obtain ⟨h2,h⟩:=h;try dsimp only at h
 replace h:=bindO_val h3 h;clear h3;obtain ⟨h3,h⟩:=h;try dsimp only at h
 replace h:=bindO_val h4 h;clear h4;obtain ⟨h4,h⟩:=h
 replace h:=bindO_val h5 h;clear h5;obtain ⟨h5,h⟩:=h
 replace h:=bindO_val h6 h;clear h6;obtain ⟨h6,h⟩:=h
 refine ⟨(Or.inl (PureFn.arg (ucd_table_class_ok kS1 (T_ranges_Table.mk v_L) h1) (And.intro (LeD.refl _) (And.intro (LeD.refl _) trivial)))),(Or.inl (PureFn.arg (ucd_table_wide_ok kS2 (T_ranges_Table.mk v1_L) h2) (And.intro (LeD.refl _) (And.intro (LeD.refl _) trivial)))),(Or.inl (PureFn.arg (ucd_table_join_ok kS3 (T_ranges_Table.mk v2_L) h3) (And.intro (LeD.refl _) (And.intro (LeD.refl _) trivial)))),(Or.inl (PureFn.arg (ucd_pairs_ok kS4 v3 h4) (And.intro (LeD.refl _) trivial))),(Or.inl (PureFn.arg (ucd_pairs_ok kS5 v4 h5) (And.intro (LeD.refl _) trivial))),(Or.inl (PureFn.arg (ucd_forms_ok kS6 v5 h6) (And.intro (LeD.refl _) trivial))),rfl,?_⟩
 subst hN;have hr:=Option.some.inj h
 subst hr
 try dsimp only [noGoto,inBlockQ,thenQ]
 repeat (first | refine Wt ?_ | refine We ?_)
 refine retQ_ret rfl ?_ ?_
 · exact (And.intro (rfl) trivial)
 exact (fun i _ _ j hj=>by
  have hj2:j < 6:=hj
  rcases (show j=0∨j=1∨j=2∨j=3∨j=4∨j=5 by omega) with rfl | rfl | rfl | rfl | rfl | rfl
  · exact out0_sl (fun i j=>out_ranges_Row _ _)
  · exact out0_sl (fun i j=>out_ranges_Row _ _)
  · exact out0_sl (fun i j=>out_ranges_Row _ _)
  · exact (And.intro (rfl) (And.intro Wy (And.intro (fun h=>by cases h) (out0_all Wo Wp))))
  · exact (And.intro (rfl) (And.intro Wy (And.intro (fun h=>by cases h) (out0_all Wo Wp))))
  exact (And.intro (rfl) (And.intro Wy (And.intro (fun h=>by cases h) (out0_all Wo Wp)))))
end Go.Vx
