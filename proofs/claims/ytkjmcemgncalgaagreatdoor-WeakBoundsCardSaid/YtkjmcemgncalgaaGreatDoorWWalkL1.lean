/- Walks, by program (lift.py). -/
import Derived.Test.YtkjmcemgncalgaaGreatDoorWWalk
set_option linter.all false
namespace Go.Vx
open Go.Proofs
set_option maxRecDepth 100000
set_option linter.unusedVariables false
set_option linter.unusedSimpArgs false
theorem strconv_lower_ok (c':Int) (r:Int) (h:strconv_lower c'=some r):PureFn Tryz.prog 119 [(.v (.int .u8 c'))] ((.v (.int .u8 r))):=by
 unfold strconv_lower at h
 refine fn_tr tt0_ok Tryz.func119 (by kernel_rfl) (c:=bodyOf Tryz.f119) (by kernel_rfl) ?_
 intro ctr hc
 refine Wc [] [] [] 0 [] fun N hN=>?_
 generalize hp:std Tryz.prog=p;generalize hv:nvS=nv;cbv;subst hp hv
 subst hN;have hr:=Option.some.inj h
 subst hr
 try dsimp only [noGoto,inBlockQ,thenQ]
 repeat (first | refine Wt ?_ | refine We ?_)
 exact retQ_ret rfl trivial rfl
theorem stringslite_IndexByte_ok (s:ByteArray) (c':Int) (r:Int) (h:stringslite_IndexByte s c'=some r):PureFn Tryz.prog 115 [(.v (.string s)),(.v (.int .u8 c'))] ((WV r)):=by
 unfold stringslite_IndexByte at h
 refine fn_tr tt0_ok Tryz.func115 (by kernel_rfl) (c:=bodyOf Tryz.f115) (by kernel_rfl) ?_
 intro ctr hc
 obtain ⟨v,h1⟩ : ∃ v,valO 0 (bytealg_IndexByteString s c')=v:=⟨_,rfl⟩
 refine Wc [] [(7,.plain (WV v))] [] 0 [] fun N hN=>?_
 generalize hp:std Tryz.prog=p;generalize hv:nvS=nv;cbv;subst hp hv
 replace h:=bindO_val h1 h;clear h1;obtain ⟨h1,h⟩:=h
 refine ⟨(Or.inr (ExtFn.arg (bytealg_IndexByteString_ok s c' v h1) (And.intro (LeD.refl _) (And.intro (LeD.refl _) trivial)))),?_⟩
 subst hN;have hr:=Option.some.inj h
 subst hr
 try dsimp only [noGoto,inBlockQ,thenQ]
 repeat (first | refine Wt ?_ | refine We ?_)
 exact retQ_ret rfl trivial rfl
theorem stringslite_Index_ok (s:ByteArray) (substr:ByteArray) (r:Int) (h:stringslite_Index s substr=some r):PureFn Tryz.prog 105 [(.v (.string s)),(.v (.string substr))] ((WV r)):=by
 unfold stringslite_Index at h
 refine fn_tr tt0_ok Tryz.func105 (by kernel_rfl) (c:=bodyOf Tryz.f105) (by kernel_rfl) ?_
 intro ctr hc
 obtain ⟨v,h4⟩ : ∃ v,valO 0 (stringslite_IndexByte s (sidxS substr 0))=v:=⟨_,rfl⟩
 refine Wx [] [(30,.plain (WV v))] [] 0 [] 8 fun N hN=>?_
 generalize hp:std Tryz.prog=p;generalize hv:nvS=nv;cbv;subst hp hv
 refine ⟨(fun hg=>hg),(fun hg=>hg),(fun hg=>hg),?_⟩
 refine ⟨fun h1=>?_,fun h1=>?_⟩
 · replace h:=iteO_t h h1
   subst hN;have hr:=Option.some.inj h
   subst hr
   try dsimp only [noGoto,inBlockQ,thenQ]
   repeat (first | refine Wt ?_ | refine We ?_)
   exact retQ_ret rfl trivial rfl
 replace h:=iteO_f h h1
 refine ⟨fun h2=>?_,fun h2=>?_⟩
 · replace h:=iteO_t h h2
   replace h:=chk_some h;obtain ⟨h3,h⟩:=h
   replace h:=bindO_val h4 h;clear h4;obtain ⟨h4,h⟩:=h
   refine ⟨h3,(Or.inl (PureFn.arg (stringslite_IndexByte_ok s (sidxS substr 0) v h4) (And.intro (LeD.refl _) (And.intro (LeD.refl _) trivial)))),?_⟩
   subst hN;have hr:=Option.some.inj h
   subst hr
   try dsimp only [noGoto,inBlockQ,thenQ]
   repeat (first | refine Wt ?_ | refine We ?_)
   exact retQ_ret rfl trivial rfl
 replace h:=iteO_f h h2
 refine ⟨fun h5=>?_,fun h5=>?_⟩
 · replace h:=iteO_t h h5
   subst hN;have hr:=Option.some.inj h
   subst hr
   try dsimp only [noGoto,inBlockQ,thenQ]
   repeat (first | refine Wt ?_ | refine We ?_)
   exact retQ_ret rfl trivial rfl
 replace h:=iteO_f h h5
 cases h
theorem strings_Index_ok (s:ByteArray) (substr:ByteArray) (r:Int) (h:strings_Index s substr=some r):PureFn Tryz.prog 86 [(.v (.string s)),(.v (.string substr))] ((WV r)):=by
 unfold strings_Index at h
 refine fn_tr tt0_ok Tryz.func86 (by kernel_rfl) (c:=bodyOf Tryz.f86) (by kernel_rfl) ?_
 intro ctr hc
 obtain ⟨v,h1⟩ : ∃ v,valO 0 (stringslite_Index s substr)=v:=⟨_,rfl⟩
 refine Wc [] [(7,.plain (WV v))] [] 0 [] fun N hN=>?_
 generalize hp:std Tryz.prog=p;generalize hv:nvS=nv;cbv;subst hp hv
 replace h:=bindO_val h1 h;clear h1;obtain ⟨h1,h⟩:=h
 refine ⟨(Or.inl (PureFn.arg (stringslite_Index_ok s substr v h1) (And.intro (LeD.refl _) (And.intro (LeD.refl _) trivial)))),?_⟩
 subst hN;have hr:=Option.some.inj h
 subst hr
 try dsimp only [noGoto,inBlockQ,thenQ]
 repeat (first | refine Wt ?_ | refine We ?_)
 exact retQ_ret rfl trivial rfl
theorem strings_Count_ok (s:ByteArray) (substr:ByteArray) (r:Int) (h:strings_Count s substr=some r):PureFn Tryz.prog 85 [(.v (.string s)),(.v (.string substr))] ((WV r)):=by
 unfold strings_Count at h
 refine fn_tr tt0_ok Tryz.func85 (by kernel_rfl) (c:=bodyOf Tryz.f85) (by kernel_rfl) ?_
 intro ctr hc
 obtain ⟨v,h4⟩ : ∃ v,valO 0 (bytealg_CountString s (sidxS substr 0))=v:=⟨_,rfl⟩
 refine Wx [] [(19,.plain (WV v))] [] 0 [] 4 fun N hN=>?_
 generalize hp:std Tryz.prog=p;generalize hv:nvS=nv;cbv;subst hp hv
 refine ⟨fun h1=>?_,fun h1=>?_⟩
 · replace h:=iteO_t h h1
   cases h
 replace h:=iteO_f h h1
 refine ⟨fun h2=>?_,fun h2=>?_⟩
 · replace h:=iteO_t h h2
   replace h:=chk_some h;obtain ⟨h3,h⟩:=h
   replace h:=bindO_val h4 h;clear h4;obtain ⟨h4,h⟩:=h
   refine ⟨h3,(Or.inr (ExtFn.arg (bytealg_CountString_ok s (sidxS substr 0) v h4) (And.intro (LeD.refl _) (And.intro (LeD.refl _) trivial)))),?_⟩
   subst hN;have hr:=Option.some.inj h
   subst hr
   try dsimp only [noGoto,inBlockQ,thenQ]
   repeat (first | refine Wt ?_ | refine We ?_)
   exact retQ_ret rfl trivial rfl
 replace h:=iteO_f h h2
 subst hN;show Tr _ _ _ _
 refine Tr.block ?_
 refine Tr.loopO (α:=ByteArray × Int) (fun (s1,n) u=>(WF 34 [(0,.v (.string s1)),(1,.v (.string substr)),(5,WV n)] 34 [] u)) (fun _ t=>Hid.ok t) ⟨ctr+13,gfn [],tfn []⟩ h ?_ ?_ (fun x u f hu h=>?_)
 · exact Wh
 · exact (Wg (Wk rfl (Wk rfl (Wk rfl trivial))) trivial)
 obtain ⟨s1,n⟩:=x
 try dsimp only at h
 obtain ⟨uc,ug,ut⟩:=u;obtain ⟨huc,hug⟩:0 < uc∧∀ k,ug k < uc:=hu
 obtain ⟨v1,h15⟩ : ∃ v1,valO 0 (strings_Index s1 substr)=v1:=⟨_,rfl⟩
 refine Wc [] [(22,.plain (WV v1))] [] 0 [] fun N hN=>?_
 generalize hp:std Tryz.prog=p;generalize hv:nvS=nv;cbv;subst hp hv
 replace h:=bindO_val h15 h;clear h15;obtain ⟨h15,h⟩:=h
 refine ⟨(Or.inl (PureFn.arg (strings_Index_ok s1 substr v1 h15) (And.intro (LeD.refl _) (And.intro (LeD.refl _) trivial)))),?_⟩
 refine ⟨fun h16=>?_,fun h16=>?_⟩
 · replace h:=iteO_t h h16
   subst hN;cases h
   intro hr
   subst hr
   try dsimp only [noGoto,inBlockQ,thenQ]
   repeat (first | refine Wt ?_ | refine We ?_)
   exact retQ_ret rfl trivial rfl
 replace h:=iteO_f h h16
 replace h:=chk_some h;obtain ⟨h17,h⟩:=h
 refine ⟨h17,?_⟩
 replace h:=chk_some h;obtain ⟨h18,h⟩:=h
 replace h:=chk_some h;obtain ⟨h19,h⟩:=h
 try (have h19z:=h19;simp only [Int.zero_add] at h19z)
 refine ⟨h18,h19,?_⟩
 subst hN;cases h
 exact Exists.intro ⟨uc+13,gfn [],tfn []⟩ (And.intro Wh (Wg (Wk rfl (Wk rfl (Wk rfl trivial))) trivial))
theorem strings_genSplit_ok (s:ByteArray) (sep:ByteArray) (sepSave:Int) (n:Int) (r:(List ByteArray)) (h:strings_genSplit s sep sepSave n=some r):PureFn Tryz.prog 50 [(.v (.string s)),(.v (.string sep)),(WV sepSave),(WV n)] (.own 1 (nvS.len r) false (fun ix jx=>(.v (.string (nvS.get ByteArray.empty r ix))))):=by
 unfold strings_genSplit at h
 refine fn_tr tt0_ok Tryz.func50 (by kernel_rfl) (c:=bodyOf Tryz.f50) (by kernel_rfl) ?_
 intro ctr hc
 refine Wx [] [] [] 0 [] 3 fun N hN=>?_
 generalize hp:std Tryz.prog=p;generalize hv:nvS=nv;cbv;subst hp hv
 refine ⟨fun h1=>?_,fun h1=>?_⟩
 · replace h:=iteO_t h h1
   subst hN;have hr:=Option.some.inj h
   subst hr
   try dsimp only [noGoto,inBlockQ,thenQ]
   repeat (first | refine Wt ?_ | refine We ?_)
   exact retQ_ret rfl trivial rfl
 replace h:=iteO_f h h1
 refine ⟨fun h2=>?_,fun h2=>?_⟩
 · replace h:=iteO_t h h2
   cases h
 replace h:=iteO_f h h2
 subst hN;show Tr _ _ _ _
 refine Tr.cutSeq (α:=Int) h (fun n1 u=>(WF 66 [(0,.v (.string s)),(1,.v (.string sep)),(2,WV sepSave),(3,WV n1)] 66 [] u)) (fun _ t=>Hid.ok t) (fun x u hu h=>?_) (fun f h=>?_)
 · revert h;revert hu;revert x;intro n1 hu h
   obtain ⟨uc,ug,ut⟩:=u;obtain ⟨huc,hug⟩:0 < uc∧∀ k,ug k < uc:=hu
   refine Wx [] [] [] 0 [] 4 fun N hN=>?_
   generalize hp:std Tryz.prog=p;generalize hv:nvS=nv;cbv;subst hp hv
   replace h:=chk_some h;obtain ⟨h6,h⟩:=h
   refine ⟨h6,?_⟩
   replace h:=chk_some h;obtain ⟨h7,h⟩:=h
   have h7':=h7.1;have h7'':=h7.2.1
   refine ⟨h7,?_⟩
   replace h:=chk_some h;obtain ⟨h8,h⟩:=h
   refine ⟨h8,?_⟩
   subst hN;show Tr _ _ _ _
   refine Tr.cutSeq (α:=ByteArray × Int × List ByteArray) h (fun (s1,i,a) u1=>(WF 66 [(0,.v (.string s1)),(9,.vec 31 (u1.g 31) 1 0 ((std Tryz.prog).imin n1 ((std Tryz.prog).add ((std Tryz.prog).slen s) 1))),(10,WV i)] 66 [(31,.arr (u1.g 31) 1 ((std Tryz.prog).imin n1 ((std Tryz.prog).add ((std Tryz.prog).slen s) 1)) (u1.t 31) (fun ix jx=>(.v (.string (nvS.get ByteArray.empty a ix)))))] u1)) (fun (s1,i,a) t=>Hid.ok t∧lenL a=(iminI n1 ((slenS s)+1))) (fun x u1 hu1 h=>?_) (fun f h=>?_)
   · obtain ⟨s1,i,a⟩:=x
     try dsimp only at h
     obtain ⟨hu1,ht'1_f0⟩:=hu1
     obtain ⟨u1c,u1g,u1t⟩:=u1;obtain ⟨hu1c,hu1g⟩:0 < u1c∧∀ k,u1g k < u1c:=hu1
     refine Wc [] [] [] 0 [] fun N hN=>?_
     generalize hp:std Tryz.prog=p;generalize hv:nvS=nv;cbv;subst hp hv
     replace h:=chk_some h;obtain ⟨h27,h⟩:=h
     try (have h27z:=h27;simp only [Int.zero_add] at h27z)
     refine ⟨h27,rfl,?_⟩
     replace h:=chk_some h;obtain ⟨h28,h⟩:=h
     replace h:=chk_some h;obtain ⟨h29,h⟩:=h
     refine ⟨h28,h29,?_⟩
     subst hN;have hr:=Option.some.inj h
     subst hr
     try dsimp only [noGoto,inBlockQ,thenQ]
     repeat (first | refine Wt ?_ | refine We ?_)
     exact retQ_ret rfl trivial (And.intro (rfl) (And.intro Wy (And.intro (fun h=>by cases h) (out0_all Wo Wp))))
   refine Tr.block ?_
   refine Tr.loopO (α:=ByteArray × Int × List ByteArray) (fun (s2,i1,a1) u2=>(WF 66 [(0,.v (.string s2)),(1,.v (.string sep)),(2,WV sepSave),(3,WV ((std Tryz.prog).sub ((std Tryz.prog).imin n1 ((std Tryz.prog).add ((std Tryz.prog).slen s) 1)) 1)),(9,.vec 31 (u2.g 31) 1 0 ((std Tryz.prog).imin n1 ((std Tryz.prog).add ((std Tryz.prog).slen s) 1))),(10,WV i1)] 66 [(31,.arr (u2.g 31) 1 ((std Tryz.prog).imin n1 ((std Tryz.prog).add ((std Tryz.prog).slen s) 1)) (u2.t 31) (fun ix jx=>(.v (.string (nvS.get ByteArray.empty a1 ix)))))] u2)) (fun (s2,i1,a1) t=>Hid.ok t∧lenL a1=(iminI n1 ((slenS s)+1))) ⟨uc+13,gfn [(31,uc+1)],tfn [(31,((std Tryz.prog).eq ((std Tryz.prog).imin n1 ((std Tryz.prog).add ((std Tryz.prog).slen s) 1)) ((std Tryz.prog).imin n1 ((std Tryz.prog).add ((std Tryz.prog).slen s) 1))))]⟩ h ?_ ?_ (fun x u2 f hu2 h=>?_)
   · exact (And.intro Wh Wf)
   · exact (Wg (Wk rfl (Wk rfl (Wk rfl (Wk rfl (Wk rfl (Wk rfl trivial)))))) (Wa rfl trivial))
   obtain ⟨s2,i1,a1⟩:=x
   try dsimp only at h
   obtain ⟨hu2,ht'2_f0⟩:=hu2
   obtain ⟨u2c,u2g,u2t⟩:=u2;obtain ⟨hu2c,hu2g⟩:0 < u2c∧∀ k,u2g k < u2c:=hu2
   obtain ⟨v,h49⟩ : ∃ v,valO 0 (strings_Index s2 sep)=v:=⟨_,rfl⟩
   refine Wc [] [(39,.plain (WV v))] [] 0 [] fun N hN=>?_
   generalize hp:std Tryz.prog=p;generalize hv:nvS=nv;cbv;subst hp hv
   refine ⟨fun h48=>?_,fun h48=>?_⟩
   · replace h:=iteO_t h h48
     replace h:=bindO_val h49 h;clear h49;obtain ⟨h49,h⟩:=h
     refine ⟨(Or.inl (PureFn.arg (strings_Index_ok s2 sep v h49) (And.intro (LeD.refl _) (And.intro (LeD.refl _) trivial)))),?_⟩
     refine ⟨fun h50=>?_,fun h50=>?_⟩
     · replace h:=iteO_t h h50
       subst hN;cases h
       intro he;cases he
       exact Exists.intro ⟨u2c+12,gfn [(31,u2g 31)],tfn [(31,u2t 31)]⟩ (And.intro ((And.intro Wh Wf)) (Wg (Wk rfl (Wk rfl (Wk rfl trivial))) (Wi rfl trivial)))
     replace h:=iteO_f h h50
     replace h:=chk_some h;obtain ⟨h51,h⟩:=h
     replace h:=chk_some h;obtain ⟨h52,h⟩:=h
     replace h:=chk_some h;obtain ⟨h53,h⟩:=h
     try (have h53z:=h53;simp only [Int.zero_add] at h53z)
     refine ⟨h51,h52,h53,rfl,?_⟩
     replace h:=chk_some h;obtain ⟨h54,h⟩:=h
     replace h:=chk_some h;obtain ⟨h55,h⟩:=h
     try (have h55z:=h55;simp only [Int.zero_add] at h55z)
     refine ⟨h54,h55,?_⟩
     replace h:=chk_some h;obtain ⟨h56,h⟩:=h
     refine ⟨h56,?_⟩
     subst hN;cases h
     exact Exists.intro ⟨u2c+15,gfn [(31,u2g 31)],tfn [(31,u2t 31)]⟩ (And.intro ((And.intro Wh Wf)) (Wg (Wk rfl (Wk rfl (Wk rfl (Wk rfl (Wk rfl (Wk rfl trivial)))))) (Wa rfl trivial)))
   replace h:=iteO_f h h48
   subst hN;cases h
   intro he;cases he
   exact Exists.intro ⟨u2c+10,gfn [(31,u2g 31)],tfn [(31,u2t 31)]⟩ (And.intro ((And.intro Wh Wf)) (Wg (Wk rfl (Wk rfl (Wk rfl trivial))) (Wi rfl trivial)))
 obtain ⟨v1,h58⟩ : ∃ v1,valO 0 (strings_Count s sep)=v1:=⟨_,rfl⟩
 refine Wc [] [(23,.plain (WV v1))] [] 0 [] fun N hN=>?_
 generalize hp:std Tryz.prog=p;generalize hv:nvS=nv;cbv;subst hp hv
 refine ⟨fun h57=>?_,fun h57=>?_⟩
 · replace h:=iteO_t h h57
   replace h:=bindO_val h58 h;clear h58;obtain ⟨h58,h⟩:=h
   replace h:=chk_some h;obtain ⟨h59,h⟩:=h
   refine ⟨(Or.inl (PureFn.arg (strings_Count_ok s sep v1 h58) (And.intro (LeD.refl _) (And.intro (LeD.refl _) trivial)))),h59,?_⟩
   subst hN;cases h
   exact Exists.intro ⟨ctr+14,gfn [],tfn []⟩ (And.intro Wh (Wg (Wk rfl (Wk rfl (Wk rfl (Wk rfl trivial)))) trivial))
 replace h:=iteO_f h h57
 subst hN;cases h
 exact Exists.intro ⟨ctr+13,gfn [],tfn []⟩ (And.intro Wh (Wg (Wk rfl (Wk rfl (Wk rfl (Wk rfl trivial)))) trivial))
theorem strings_Split_ok (s:ByteArray) (sep:ByteArray) (r:(List ByteArray)) (h:strings_Split s sep=some r):PureFn Tryz.prog 36 [(.v (.string s)),(.v (.string sep))] (.own 1 (nvS.len r) false (fun ix jx=>(.v (.string (nvS.get ByteArray.empty r ix))))):=by
 unfold strings_Split at h
 refine fn_tr tt0_ok Tryz.func36 (by kernel_rfl) (c:=bodyOf Tryz.f36) (by kernel_rfl) ?_
 intro ctr hc
 obtain ⟨v,h1⟩ : ∃ v,valO [] (strings_genSplit s sep 0 (-1))=v:=⟨_,rfl⟩
 refine Wc [(50,1)] [(7,.own 1 (nvS.len v) false (fun ix jx=>(.v (.string (nvS.get ByteArray.empty v ix)))))] [] 0 [] fun N hN=>?_
 generalize hp:std Tryz.prog=p;generalize hv:nvS=nv;cbv;subst hp hv
 replace h:=bindO_val h1 h;clear h1;obtain ⟨h1,h⟩:=h
 refine ⟨(Or.inl (PureFn.arg (strings_genSplit_ok s sep 0 (-1) v h1) (And.intro (LeD.refl _) (And.intro (LeD.refl _) (And.intro (LeD.refl _) (And.intro (LeD.refl _) trivial)))))),?_⟩
 subst hN;have hr:=Option.some.inj h
 subst hr
 try dsimp only [noGoto,inBlockQ,thenQ]
 repeat (first | refine Wt ?_ | refine We ?_)
 exact retQ_ret rfl trivial (And.intro (rfl) (And.intro Wy (And.intro (fun h=>by cases h) (out0_all Wo Wp))))
theorem ucd_words_1_ok (c':Int) (r:Bool) (h:ucd_words_1 c'=some r):PureFn Tryz.prog 52 [(.v (.int .i32 c'))] ((.v (.bool r))):=by
 unfold ucd_words_1 at h
 refine fn_tr tt0_ok Tryz.func52 (by kernel_rfl) (c:=bodyOf Tryz.f52) (by kernel_rfl) ?_
 intro ctr hc
 refine Wc [] [] [] 0 [] fun N hN=>?_
 generalize hp:std Tryz.prog=p;generalize hv:nvS=nv;cbv;subst hp hv
 refine ⟨(fun hg=>hg),(fun hg=>hg),(fun hg=>hg),(fun hg=>hg),?_⟩
 subst hN;have hr:=Option.some.inj h
 subst hr
 try dsimp only [noGoto,inBlockQ,thenQ]
 repeat (first | refine Wt ?_ | refine We ?_)
 exact retQ_ret rfl trivial rfl
theorem strings_FieldsFunc_52_ok (s:ByteArray) (r:(List ByteArray)) (h:strings_FieldsFunc_52 s=some r):PureFn Tryz.prog 51 [(.v (.string s)),.fn (.func 52) 0 (fun _=>.junk)] (.own 1 (nvS.len r) false (fun ix jx=>(.v (.string (nvS.get ByteArray.empty r ix))))):=by
 unfold strings_FieldsFunc_52 at h
 refine fn_tr tt0_ok Tryz.func51 (by kernel_rfl) (c:=bodyOf Tryz.f51) (by kernel_rfl) ?_
 intro ctr hc
 refine Wx [] [] [] 0 [] 3 fun N hN=>?_
 generalize hp:std Tryz.prog=p;generalize hv:nvS=nv;cbv;subst hp hv
 replace h:=chk_some h;obtain ⟨h1,h⟩:=h
 have h1':=h1.1;have h1'':=h1.2.1
 refine ⟨h1,?_⟩
 subst hN;show Tr _ _ _ _
 refine Tr.cutSeq (α:=Int × List T_strings_span) h (fun (start,spans) u=>(WF 65 [(0,.v (.string s)),(5,.vec 12 (u.g 12) 2 0 (nvS.len spans)),(6,WV start)] 65 [(12,.arr (u.g 12) 2 (nvS.len spans) (u.t 12) (fun ix jx=>(D_strings_span nvS (nvS.get d_strings_span spans ix) jx)))] u)) (fun _ t=>Hid.ok t) (fun x u hu h=>?_) (fun f h=>?_)
 · obtain ⟨start,spans⟩:=x
   try dsimp only at h
   obtain ⟨uc,ug,ut⟩:=u;obtain ⟨huc,hug⟩:0 < uc∧∀ k,ug k < uc:=hu
   refine Tr.cutSeq (α:=List T_strings_span) h (fun spans1 u1=>(WF 65 [(0,.v (.string s)),(5,.vec 12 (u1.g 12) 2 0 (nvS.len spans1))] 65 [(12,.arr (u1.g 12) 2 (nvS.len spans1) (u1.t 12) (fun ix jx=>(D_strings_span nvS (nvS.get d_strings_span spans1 ix) jx)))] u1)) (fun _ t=>Hid.ok t) (fun x u1 hu1 h=>?_) (fun f h=>?_)
   · revert h;revert hu1;revert x;intro spans1 hu1 h
     obtain ⟨u1c,u1g,u1t⟩:=u1;obtain ⟨hu1c,hu1g⟩:0 < u1c∧∀ k,u1g k < u1c:=hu1
     refine Wx [] [] [] 0 [] 1 fun N hN=>?_
     generalize hp:std Tryz.prog=p;generalize hv:nvS=nv;cbv;subst hp hv
     replace h:=chk_some h;obtain ⟨h16,h⟩:=h
     have h16':=h16.1;have h16'':=h16.2.1
     refine ⟨h16,?_⟩
     subst hN;show Tr _ _ _ _
     refine Tr.cutSeq (α:=List ByteArray) h (fun a u2=>(WF 65 [(9,.vec 46 (u2.g 46) 1 0 (nvS.len spans1))] 65 [(46,.arr (u2.g 46) 1 (nvS.len spans1) (u2.t 46) (fun ix jx=>(.v (.string (nvS.get ByteArray.empty a ix)))))] u2)) (fun a t=>Hid.ok t∧lenL a=(lenL spans1)) (fun x u2 hu2 h=>?_) (fun f h=>?_)
     · revert h;revert hu2;revert x;intro a hu2 h
       obtain ⟨hu2,ht'2_f0⟩:=hu2
       obtain ⟨u2c,u2g,u2t⟩:=u2;obtain ⟨hu2c,hu2g⟩:0 < u2c∧∀ k,u2g k < u2c:=hu2
       refine Wc [] [] [] 0 [] fun N hN=>?_
       generalize hp:std Tryz.prog=p;generalize hv:nvS=nv;cbv;subst hp hv
       subst hN;have hr:=Option.some.inj h
       subst hr
       try dsimp only [noGoto,inBlockQ,thenQ]
       repeat (first | refine Wt ?_ | refine We ?_)
       exact retQ_ret rfl trivial (And.intro (rfl) (And.intro Wy (And.intro (fun h=>by cases h) (out0_all Wo Wp))))
     refine Wx [] [] [] 0 [] 1 fun N hN=>?_
     generalize hp:std Tryz.prog=p;generalize hv:nvS=nv;cbv;subst hp hv
     subst hN;show Tr _ _ _ _
     refine Tr.block ?_
     refine Tr.loopO (α:=Int × List ByteArray) (fun (v,a1) u3=>(WF 65 [(0,.v (.string s)),(9,.vec 46 (u3.g 46) 1 0 (nvS.len spans1)),(47,.vec 12 (u3.g 12) 2 0 (nvS.len spans1)),(48,WV (nvS.len spans1)),(49,WV v)] 65 [(12,.arr (u3.g 12) 2 (nvS.len spans1) (u3.t 12) (fun ix jx=>(D_strings_span nvS (nvS.get d_strings_span spans1 ix) jx))),(46,.arr (u3.g 46) 1 (nvS.len spans1) (u3.t 46) (fun ix jx=>(.v (.string (nvS.get ByteArray.empty a1 ix)))))] u3)) (fun (v,a1) t=>Hid.ok t∧lenL a1=(lenL spans1)) ⟨u1c+11,gfn [(12,u1g 12),(46,u1c+0)],tfn [(12,u1t 12),(46,((std Tryz.prog).eq (nvS.len spans1) (nvS.len spans1)))]⟩ h ?_ ?_ (fun x u3 f hu3 h=>?_)
     · exact (And.intro Wh Wf)
     · exact (Wg (Wk rfl (Wk rfl (Wk rfl (Wk rfl (Wk rfl trivial))))) (Wi rfl (Wa rfl trivial)))
     obtain ⟨v,a1⟩:=x
     try dsimp only at h
     obtain ⟨hu3,ht'3_f0⟩:=hu3
     obtain ⟨u3c,u3g,u3t⟩:=u3;obtain ⟨hu3c,hu3g⟩:0 < u3c∧∀ k,u3g k < u3c:=hu3
     refine Wc [] [] [] 0 [] fun N hN=>?_
     generalize hp:std Tryz.prog=p;generalize hv:nvS=nv;cbv;subst hp hv
     refine ⟨fun h37=>?_,fun h37=>?_⟩
     · replace h:=iteO_t h h37
       replace h:=chk_some h;obtain ⟨h38,h⟩:=h
       try (have h38z:=h38;simp only [Int.zero_add] at h38z)
       refine ⟨h38,rfl,rfl,?_⟩
       replace h:=chk_some h;obtain ⟨h39,h⟩:=h
       try (have h39z:=h39;simp only [Int.zero_add] at h39z)
       replace h:=chk_some h;obtain ⟨h40,h⟩:=h
       try (have h40z:=h40;simp only [Int.zero_add] at h40z)
       refine ⟨rfl,rfl,h39,h40,rfl,?_⟩
       replace h:=chk_some h;obtain ⟨h41,h⟩:=h
       refine ⟨h41,?_⟩
       subst hN;cases h
       exact Exists.intro ⟨u3c+13,gfn [(12,u3g 12),(46,u3g 46)],tfn [(12,u3t 12),(46,u3t 46)]⟩ (And.intro ((And.intro Wh Wf)) (Wg (Wk rfl (Wk rfl (Wk rfl (Wk rfl (Wk rfl trivial))))) (Wi rfl (Wa rfl trivial))))
     replace h:=iteO_f h h37
     subst hN;cases h
     intro he;cases he
     exact Exists.intro ⟨u3c+10,gfn [(46,u3g 46)],tfn [(46,u3t 46)]⟩ (And.intro ((And.intro Wh Wf)) (Wg (Wk rfl trivial) (Wi rfl trivial)))
   refine Wc [] [] [42] 0 [] fun N hN=>?_
   generalize hp:std Tryz.prog=p;generalize hv:nvS=nv;cbv;subst hp hv
   refine ⟨fun h42=>?_,fun h42=>?_⟩
   · replace h:=iteO_t h h42
     replace h:=chk_some h;obtain ⟨h43,h⟩:=h
     refine ⟨rfl,h43,?_⟩
     subst hN;cases h
     show ∃ u,_∧GeSt _ _ _
     refine ⟨⟨uc+13,gfn [(12,uc+3)],tfn [(12,false)]⟩,Wh,?_⟩
     refine GeSt.by [.forget 12,.move (.slot 5) 12] rfl ?_ ?_
     · exact (And.intro (rfl) trivial)
     exact LeSt.frame (show uc+4 < uc+13 by omega) rfl rfl (Wk rfl (Wq rfl (LeD.vec rfl Wy) trivial)) (Wa rfl trivial)
   replace h:=iteO_f h h42
   subst hN;cases h
   exact Exists.intro ⟨uc+10,gfn [(12,ug 12)],tfn [(12,ut 12)]⟩ (And.intro Wh (Wg (Wk rfl (Wq rfl (LeD.vec rfl Wy) trivial)) (Wa rfl trivial)))
 refine Wx [] [] [] 0 [] 1 fun N hN=>?_
 generalize hp:std Tryz.prog=p;generalize hv:nvS=nv;cbv;subst hp hv
 subst hN;show Tr _ _ _ _
 refine Tr.block ?_
 refine Tr.loopO (α:=Int × List T_strings_span × Int) (fun (start1,spans2,pos) u4=>(WF 65 [(0,.v (.string s)),(1,.fn (.func 52) 0 (fun _=>.junk)),(5,.vec 12 (u4.g 12) 2 0 (nvS.len spans2)),(6,WV start1),(14,.iref 14 (u4.g 14))] 65 [(12,.arr (u4.g 12) 2 (nvS.len spans2) (u4.t 12) (fun ix jx=>(D_strings_span nvS (nvS.get d_strings_span spans2 ix) jx))),(14,.iter (u4.g 14) s pos)] u4)) (fun _ t=>Hid.ok t) ⟨ctr+13,gfn [(12,ctr+1),(14,ctr+3)],tfn [(12,((std Tryz.prog).eq 0 32)),(14,false)]⟩ h ?_ ?_ (fun x u4 f hu4 h=>?_)
 · exact Wh
 · exact (Wg (Wk rfl (Wk rfl (Wq rfl (LeD.vec rfl Wy) (Wk rfl (Wk rfl trivial))))) (Wa rfl (Wi rfl trivial)))
 obtain ⟨start1,spans2,pos⟩:=x
 try dsimp only at h
 obtain ⟨u4c,u4g,u4t⟩:=u4;obtain ⟨hu4c,hu4g⟩:0 < u4c∧∀ k,u4g k < u4c:=hu4
 obtain ⟨v1,h57⟩ : ∃ v1,valO false (ucd_words_1 (rdecS s pos))=v1:=⟨_,rfl⟩
 refine Wc [] [(21,.plain (.v (.bool v1)))] [28] 0 [] fun N hN=>?_
 generalize hp:std Tryz.prog=p;generalize hv:nvS=nv;cbv;subst hp hv
 refine ⟨rfl,?_⟩
 refine ⟨fun h56=>?_,fun h56=>?_⟩
 · replace h:=iteO_t h h56
   refine ⟨(by first | assumption | (dsimp only [std_eq,stdN];simp_all)),(by first | assumption | (dsimp only [std_eq,stdN];simp_all)),?_⟩
   replace h:=bindO_val h57 h;clear h57;obtain ⟨h57,h⟩:=h
   refine ⟨(Or.inl (PureFn.arg (ucd_words_1_ok (rdecS s pos) v1 h57) (And.intro (LeD.refl _) trivial))),?_⟩
   refine ⟨fun h58=>?_,fun h58=>?_⟩
   · replace h:=iteO_t h h58
     refine ⟨fun h59=>?_,fun h59=>?_⟩
     · replace h:=iteO_t h h59
       replace h:=chk_some h;obtain ⟨h60,h⟩:=h
       refine ⟨rfl,h60,?_⟩
       subst hN;cases h
       show ∃ u,_∧GeSt _ _ _
       refine ⟨⟨u4c+17,gfn [(12,u4c+7),(14,u4g 14)],tfn [(12,false),(14,false)]⟩,Wh,?_⟩
       refine GeSt.by [.forget 12,.move (.slot 5) 12] rfl ?_ ?_
       · exact (And.intro (rfl) trivial)
       exact LeSt.frame (show u4c+8 < u4c+17 by omega) rfl rfl (Wk rfl (Wk rfl (Wq rfl (LeD.vec rfl Wy) (Wk rfl (Wk rfl trivial))))) (Wa rfl (Wi rfl trivial))
     replace h:=iteO_f h h59
     subst hN;cases h
     exact Exists.intro ⟨u4c+13,gfn [(12,u4g 12),(14,u4g 14)],tfn [(12,u4t 12),(14,false)]⟩ (And.intro Wh (Wg (Wk rfl (Wk rfl (Wq rfl ((by first | exact LeD.refl _ | exact LeD.vec rfl Wy)) (Wk rfl (Wk rfl trivial))))) (Wi rfl (Wi rfl trivial))))
   replace h:=iteO_f h h58
   refine ⟨fun h61=>?_,fun h61=>?_⟩
   · replace h:=iteO_t h h61
     subst hN;cases h
     exact Exists.intro ⟨u4c+14,gfn [(12,u4g 12),(14,u4g 14)],tfn [(12,u4t 12),(14,false)]⟩ (And.intro Wh (Wg (Wk rfl (Wk rfl (Wq rfl ((by first | exact LeD.refl _ | exact LeD.vec rfl Wy)) (Wk rfl (Wk rfl trivial))))) (Wi rfl (Wi rfl trivial))))
   replace h:=iteO_f h h61
   subst hN;cases h
   exact Exists.intro ⟨u4c+13,gfn [(12,u4g 12),(14,u4g 14)],tfn [(12,u4t 12),(14,false)]⟩ (And.intro Wh (Wg (Wk rfl (Wk rfl (Wq rfl ((by first | exact LeD.refl _ | exact LeD.vec rfl Wy)) (Wk rfl (Wk rfl trivial))))) (Wi rfl (Wi rfl trivial))))
 replace h:=iteO_f h h56
 subst hN;cases h
 intro he;cases he
 exact Exists.intro ⟨u4c+10,gfn [(12,u4g 12)],tfn [(12,u4t 12)]⟩ (And.intro Wh (Wg (Wk rfl (Wq rfl (LeD.vec rfl Wy) (Wk rfl trivial))) (Wa rfl trivial)))
theorem ucd_words_ok (e:ByteArray) (r:(List ByteArray)) (h:ucd_words e=some r):PureFn Tryz.prog 37 [(.v (.string e))] (.own 1 (nvS.len r) false (fun ix jx=>(.v (.string (nvS.get ByteArray.empty r ix))))):=by
 unfold ucd_words at h
 refine fn_tr tt0_ok Tryz.func37 (by kernel_rfl) (c:=bodyOf Tryz.f37) (by kernel_rfl) ?_
 intro ctr hc
 obtain ⟨v,h1⟩ : ∃ v,valO [] (strings_FieldsFunc_52 e)=v:=⟨_,rfl⟩
 refine Wc [(51,1)] [(4,.own 1 (nvS.len v) false (fun ix jx=>(.v (.string (nvS.get ByteArray.empty v ix)))))] [] 0 [] fun N hN=>?_
 generalize hp:std Tryz.prog=p;generalize hv:nvS=nv;cbv;subst hp hv
 replace h:=bindO_val h1 h;clear h1;obtain ⟨h1,h⟩:=h
 refine ⟨(Or.inl (PureFn.arg (strings_FieldsFunc_52_ok e v h1) (And.intro (LeD.refl _) (And.intro (LeD.refl _) trivial)))),?_⟩
 subst hN;have hr:=Option.some.inj h
 subst hr
 try dsimp only [noGoto,inBlockQ,thenQ]
 repeat (first | refine Wt ?_ | refine We ?_)
 exact retQ_ret rfl trivial (And.intro (rfl) (And.intro Wy (And.intro (fun h=>by cases h) (out0_all Wo Wp))))
theorem istrconv_underscoreOK_ok (a0:ByteArray) (r:Bool) (h:istrconv_underscoreOK a0=some r):PureFn Tryz.prog 120 [(.v (.string a0))] ((.v (.bool r))):=by cases h
theorem istrconv_ParseUint_ok (s:ByteArray) (base:Int) (bitSize:Int) (r:(Int × Unit)) (h:istrconv_ParseUint s base bitSize=some r):PureFn Tryz.prog 106 [(.v (.string s)),(WV base),(WV bitSize)] (.tup 2 (fun j=>match j with | 0=>(.v (.int .u64 r.1)) | 1=>(.v .nilIface) | _=>.junk)):=by
 unfold istrconv_ParseUint at h
 refine fn_tr tt0_ok Tryz.func106 (by kernel_rfl) (c:=bodyOf Tryz.f106) (by kernel_rfl) ?_
 intro ctr hc
 refine Wx [] [] [] 0 [] 4 fun N hN=>?_
 generalize hp:std Tryz.prog=p;generalize hv:nvS=nv;cbv;subst hp hv
 refine ⟨fun h1=>?_,fun h1=>?_⟩
 · replace h:=iteO_t h h1
   cases h
 replace h:=iteO_f h h1
 subst hN;show Tr _ _ _ _
 refine Tr.cutSeq (α:=ByteArray × Int) h (fun (s1,base1) u=>(WF 172 [(0,.v (.string s1)),(1,WV base1),(2,WV bitSize),(8,.v (.bool ((std Tryz.prog).eq base 0))),(9,.v (.string s))] 172 [] u)) (fun _ t=>Hid.ok t) (fun x u hu h=>?_) (fun f h=>?_)
 · obtain ⟨s1,base1⟩:=x
   try dsimp only at h
   obtain ⟨uc,ug,ut⟩:=u;obtain ⟨huc,hug⟩:0 < uc∧∀ k,ug k < uc:=hu
   refine Tr.cutSeq (α:=Int) h (fun bitSize1 u1=>(WF 172 [(0,.v (.string s1)),(1,WV base1),(2,WV bitSize1),(8,.v (.bool ((std Tryz.prog).eq base 0))),(9,.v (.string s))] 172 [] u1)) (fun _ t=>Hid.ok t) (fun x u1 hu1 h=>?_) (fun f h=>?_)
   · revert h;revert hu1;revert x;intro bitSize1 hu1 h
     obtain ⟨u1c,u1g,u1t⟩:=u1;obtain ⟨hu1c,hu1g⟩:0 < u1c∧∀ k,u1g k < u1c:=hu1
     refine Wx [] [] [] 0 [] 1 fun N hN=>?_
     generalize hp:std Tryz.prog=p;generalize hv:nvS=nv;cbv;subst hp hv
     subst hN;show Tr _ _ _ _
     refine Tr.cutSeq (α:=Int) h (fun cutoff u2=>(WF 172 [(0,.v (.string s1)),(1,WV base1),(2,WV bitSize1),(8,.v (.bool ((std Tryz.prog).eq base 0))),(9,.v (.string s)),(10,.v (.int .u64 cutoff))] 172 [] u2)) (fun _ t=>Hid.ok t) (fun x u2 hu2 h=>?_) (fun f h=>?_)
     · revert h;revert hu2;revert x;intro cutoff hu2 h
       obtain ⟨u2c,u2g,u2t⟩:=u2;obtain ⟨hu2c,hu2g⟩:0 < u2c∧∀ k,u2g k < u2c:=hu2
       refine Wx [] [] [] 0 [] 3 fun N hN=>?_
       generalize hp:std Tryz.prog=p;generalize hv:nvS=nv;cbv;subst hp hv
       replace h:=chk_some h;obtain ⟨h26,h⟩:=h
       replace h:=chk_some h;obtain ⟨h27,h⟩:=h
       refine ⟨h26,h27,?_⟩
       subst hN;show Tr _ _ _ _
       refine Tr.cutSeq (α:=Bool × Int) h (fun (underscores,n) u3=>(WF 172 [(9,.v (.string s)),(12,.v (.bool underscores)),(13,.v (.int .u64 n))] 172 [] u3)) (fun _ t=>Hid.ok t) (fun x u3 hu3 h=>?_) (fun f h=>?_)
       · obtain ⟨underscores,n⟩:=x
         try dsimp only at h
         obtain ⟨u3c,u3g,u3t⟩:=u3;obtain ⟨hu3c,hu3g⟩:0 < u3c∧∀ k,u3g k < u3c:=hu3
         obtain ⟨v,h62⟩ : ∃ v,valO false (if underscores=true then istrconv_underscoreOK s else some false)=v:=⟨_,rfl⟩
         refine Wc [] [(167,.plain (.v (.bool v)))] [] 0 [] fun N hN=>?_
         generalize hp:std Tryz.prog=p;generalize hv:nvS=nv;cbv;subst hp hv
         replace h:=bindO_val h62 h;clear h62;obtain ⟨h62,h⟩:=h
         refine ⟨(fun hg=>hg),(fun hg=>by have h62:=guardO h62 hg;exact (Or.inl (PureFn.arg (istrconv_underscoreOK_ok s v h62) (And.intro (LeD.refl _) trivial)))),(fun hg=>hg),(fun hg=>hg),?_⟩
         refine ⟨fun h63=>?_,fun h63=>?_⟩
         · replace h:=iteO_t h h63
           cases h
         replace h:=iteO_f h h63
         subst hN;have hr:=Option.some.inj h
         subst hr
         try dsimp only [noGoto,inBlockQ,thenQ]
         repeat (first | refine Wt ?_ | refine We ?_)
         exact retQ_ret rfl trivial (And.intro (rfl) trivial)
       refine Wx [] [] [] 0 [] 1 fun N hN=>?_
       generalize hp:std Tryz.prog=p;generalize hv:nvS=nv;cbv;subst hp hv
       subst hN;show Tr _ _ _ _
       refine Tr.block ?_
       refine Tr.loopO (α:=Bool × Int × Int) (fun (underscores1,n1,v1) u4=>(WF 172 [(1,WV base1),(8,.v (.bool ((std Tryz.prog).eq base 0))),(9,.v (.string s)),(10,.v (.int .u64 cutoff)),(11,.v (.int .u64 ((std Tryz.prog).sub ((std Tryz.prog).shl .u64 1 ((std Tryz.prog).wrap .u64 bitSize1)) 1))),(12,.v (.bool underscores1)),(13,.v (.int .u64 n1)),(99,.sl 1 (nvS.len (nvS.bys s1)) false (fun ix jx=>(.v (.int .u8 (nvS.get 0 (nvS.bys s1) ix))))),(100,WV ((std Tryz.prog).slen s1)),(101,WV v1)] 172 [] u4)) (fun _ t=>Hid.ok t) ⟨u2c+13,gfn [],tfn []⟩ h ?_ ?_ (fun x u4 f hu4 h=>?_)
       · exact Wh
       · exact (Wg (Wk rfl (Wk rfl (Wk rfl (Wk rfl (Wk rfl (Wk rfl (Wk rfl (Wq rfl (LeD.slE Wy Wp) (Wk rfl (Wk rfl trivial)))))))))) trivial)
       obtain ⟨underscores1,n1,v1⟩:=x
       try dsimp only at h
       obtain ⟨u4c,u4g,u4t⟩:=u4;obtain ⟨hu4c,hu4g⟩:0 < u4c∧∀ k,u4g k < u4c:=hu4
       refine Wx [] [] [] 0 [] 2 fun N hN=>?_
       generalize hp:std Tryz.prog=p;generalize hv:nvS=nv;cbv;subst hp hv
       refine ⟨fun h98=>?_,fun h98=>?_⟩
       · replace h:=iteO_t h h98
         subst hN;show Tr _ _ _ _
         refine Tr.cutSeq (α:=Bool × Int) h (fun (underscores2,n2) u5=>(WF 172 [(1,WV base1),(8,.v (.bool ((std Tryz.prog).eq base 0))),(9,.v (.string s)),(10,.v (.int .u64 cutoff)),(11,.v (.int .u64 ((std Tryz.prog).sub ((std Tryz.prog).shl .u64 1 ((std Tryz.prog).wrap .u64 bitSize1)) 1))),(12,.v (.bool underscores2)),(13,.v (.int .u64 n2)),(99,.sl 1 (nvS.len (nvS.bys s1)) false (fun ix jx=>(.v (.int .u8 (nvS.get 0 (nvS.bys s1) ix))))),(100,WV ((std Tryz.prog).slen s1)),(101,WV v1)] 172 [] u5)) (fun _ t=>Hid.ok t) (fun x u5 hu5 h=>?_) (fun f h=>?_)
         · obtain ⟨underscores2,n2⟩:=x
           try dsimp only at h
           obtain ⟨u5c,u5g,u5t⟩:=u5;obtain ⟨hu5c,hu5g⟩:0 < u5c∧∀ k,u5g k < u5c:=hu5
           refine Wc [] [] [] 0 [] fun N hN=>?_
           generalize hp:std Tryz.prog=p;generalize hv:nvS=nv;cbv;subst hp hv
           replace h:=chk_some h;obtain ⟨h114,h⟩:=h
           refine ⟨h114,?_⟩
           subst hN;cases h
           exact Exists.intro ⟨u5c+10,gfn [],tfn []⟩ (And.intro Wh (Wg (Wk rfl (Wk rfl (Wk rfl (Wk rfl (Wk rfl (Wk rfl (Wk rfl (Wk rfl (Wk rfl (Wk rfl trivial)))))))))) trivial))
         refine Tr.block ?_
         refine Wx [] [] [] 0 [] 2 fun N hN=>?_
         generalize hp:std Tryz.prog=p;generalize hv:nvS=nv;cbv;subst hp hv
         replace h:=chk_some h;obtain ⟨h115,h⟩:=h
         try (have h115z:=h115;simp only [Int.zero_add] at h115z)
         refine ⟨h115,?_⟩
         subst hN;show Tr _ _ _ _
         refine Tr.cutSeq (α:=Int) h (fun d' u6=>(WF 172 [(1,WV base1),(8,.v (.bool ((std Tryz.prog).eq base 0))),(9,.v (.string s)),(10,.v (.int .u64 cutoff)),(11,.v (.int .u64 ((std Tryz.prog).sub ((std Tryz.prog).shl .u64 1 ((std Tryz.prog).wrap .u64 bitSize1)) 1))),(12,.v (.bool underscores1)),(13,.v (.int .u64 n1)),(16,.v (.int .u8 d')),(99,.sl 1 (nvS.len (nvS.bys s1)) false (fun ix jx=>(.v (.int .u8 (nvS.get 0 (nvS.bys s1) ix))))),(100,WV ((std Tryz.prog).slen s1)),(101,WV v1)] 172 [] u6)) (fun _ t=>Hid.ok t) (fun x u6 hu6 h=>?_) (fun f h=>?_)
         · revert h;revert hu6;revert x;intro d' hu6 h
           obtain ⟨u6c,u6g,u6t⟩:=u6;obtain ⟨hu6c,hu6g⟩:0 < u6c∧∀ k,u6g k < u6c:=hu6
           refine Wc [] [] [] 0 [] fun N hN=>?_
           generalize hp:std Tryz.prog=p;generalize hv:nvS=nv;cbv;subst hp hv
           refine ⟨fun h125=>?_,fun h125=>?_⟩
           · replace h:=iteO_t h h125
             cases h
           replace h:=iteO_f h h125
           refine ⟨fun h126=>?_,fun h126=>?_⟩
           · replace h:=iteO_t h h126
             cases h
           replace h:=iteO_f h h126
           replace h:=chk_some h;obtain ⟨h127,h⟩:=h
           refine ⟨h127,?_⟩
           replace h:=chk_some h;obtain ⟨h128,h⟩:=h
           refine ⟨h128,?_⟩
           refine ⟨(fun hg=>hg),(fun hg=>hg),(fun hg=>hg),?_⟩
           refine ⟨fun h129=>?_,fun h129=>?_⟩
           · replace h:=iteO_t h h129
             cases h
           replace h:=iteO_f h h129
           subst hN;cases h
           exact Exists.intro ⟨u6c+15,gfn [],tfn []⟩ (And.intro Wh (Wg (Wk rfl (Wk rfl (Wk rfl (Wk rfl (Wk rfl (Wk rfl (Wk rfl (Wk rfl (Wk rfl (Wk rfl trivial)))))))))) trivial))
         obtain ⟨v2,h133⟩ : ∃ v2,valO 0 (strconv_lower (getL 0 (bytesL s1) v1))=v2:=⟨_,rfl⟩
         obtain ⟨v3,h134⟩ : ∃ v3,valO 0 (if (decide (97≤v2))=true then strconv_lower (getL 0 (bytesL s1) v1) else some 0)=v3:=⟨_,rfl⟩
         obtain ⟨v4,h136⟩ : ∃ v4,valO 0 (strconv_lower (getL 0 (bytesL s1) v1))=v4:=⟨_,rfl⟩
         refine Wc [] [(123,.plain (.v (.int .u8 v2))),(127,.plain (.v (.int .u8 v3))),(131,.plain (.v (.int .u8 v4)))] [] 0 [] fun N hN=>?_
         generalize hp:std Tryz.prog=p;generalize hv:nvS=nv;cbv;subst hp hv
         refine ⟨(fun hg=>hg),?_⟩
         refine ⟨fun h130=>?_,fun h130=>?_⟩
         · replace h:=iteO_t h h130
           subst hN;cases h
           intro he;cases he
           exact Exists.intro ⟨u4c+14,gfn [],tfn []⟩ (And.intro Wh (Wg (Wk rfl (Wk rfl (Wk rfl (Wk rfl (Wk rfl (Wk rfl (Wk rfl (Wk rfl (Wk rfl (Wk rfl trivial)))))))))) trivial))
         replace h:=iteO_f h h130
         refine ⟨(fun hg=>hg),(fun hg=>hg),?_⟩
         refine ⟨fun h131=>?_,fun h131=>?_⟩
         · replace h:=iteO_t h h131
           replace h:=chk_some h;obtain ⟨h132,h⟩:=h
           refine ⟨h132,?_⟩
           subst hN;cases h
           exact Exists.intro ⟨u4c+15,gfn [],tfn []⟩ (And.intro Wh (Wg (Wk rfl (Wk rfl (Wk rfl (Wk rfl (Wk rfl (Wk rfl (Wk rfl (Wk rfl (Wk rfl (Wk rfl (Wk rfl trivial))))))))))) trivial))
         replace h:=iteO_f h h131
         replace h:=bindO_val h133 h;clear h133;obtain ⟨h133,h⟩:=h
         replace h:=bindO_val h134 h;clear h134;obtain ⟨h134,h⟩:=h
         refine ⟨(Or.inl (PureFn.arg (strconv_lower_ok (getL 0 (bytesL s1) v1) v2 h133) (And.intro (LeD.refl _) trivial))),(fun hg=>hg),(fun hg=>by have h134:=guardO h134 hg;exact (Or.inl (PureFn.arg (strconv_lower_ok (getL 0 (bytesL s1) v1) v3 h134) (And.intro (LeD.refl _) trivial)))),(fun hg=>hg),(fun hg=>hg),?_⟩
         refine ⟨fun h135=>?_,fun h135=>?_⟩
         · replace h:=iteO_t h h135
           replace h:=bindO_val h136 h;clear h136;obtain ⟨h136,h⟩:=h
           replace h:=chk_some h;obtain ⟨h137,h⟩:=h
           replace h:=chk_some h;obtain ⟨h138,h⟩:=h
           refine ⟨(Or.inl (PureFn.arg (strconv_lower_ok (getL 0 (bytesL s1) v1) v4 h136) (And.intro (LeD.refl _) trivial))),h137,h138,?_⟩
           subst hN;cases h
           exact Exists.intro ⟨u4c+16,gfn [],tfn []⟩ (And.intro Wh (Wg (Wk rfl (Wk rfl (Wk rfl (Wk rfl (Wk rfl (Wk rfl (Wk rfl (Wk rfl (Wk rfl (Wk rfl (Wk rfl trivial))))))))))) trivial))
         replace h:=iteO_f h h135
         cases h
       replace h:=iteO_f h h98
       subst hN;cases h
       intro he;cases he
       exact Exists.intro ⟨u4c+10,gfn [],tfn []⟩ (And.intro Wh (Wg (Wk rfl (Wk rfl (Wk rfl trivial))) trivial))
     refine Wc [] [] [] 0 [] fun N hN=>?_
     generalize hp:std Tryz.prog=p;generalize hv:nvS=nv;cbv;subst hp hv
     refine ⟨fun h139=>?_,fun h139=>?_⟩
     · replace h:=iteO_t h h139
       subst hN;cases h
       exact Exists.intro ⟨u1c+13,gfn [],tfn []⟩ (And.intro Wh (Wg (Wk rfl (Wk rfl (Wk rfl (Wk rfl (Wk rfl (Wk rfl trivial)))))) trivial))
     replace h:=iteO_f h h139
     refine ⟨fun h140=>?_,fun h140=>?_⟩
     · replace h:=iteO_t h h140
       subst hN;cases h
       exact Exists.intro ⟨u1c+14,gfn [],tfn []⟩ (And.intro Wh (Wg (Wk rfl (Wk rfl (Wk rfl (Wk rfl (Wk rfl (Wk rfl trivial)))))) trivial))
     replace h:=iteO_f h h140
     replace h:=chk_some h;obtain ⟨h141,h⟩:=h
     replace h:=chk_some h;obtain ⟨h142,h⟩:=h
     replace h:=chk_some h;obtain ⟨h143,h⟩:=h
     refine ⟨h141,h142,h143,?_⟩
     subst hN;cases h
     exact Exists.intro ⟨u1c+14,gfn [],tfn []⟩ (And.intro Wh (Wg (Wk rfl (Wk rfl (Wk rfl (Wk rfl (Wk rfl (Wk rfl trivial)))))) trivial))
   refine Wc [] [] [] 0 [] fun N hN=>?_
   generalize hp:std Tryz.prog=p;generalize hv:nvS=nv;cbv;subst hp hv
   refine ⟨fun h144=>?_,fun h144=>?_⟩
   · replace h:=iteO_t h h144
     subst hN;cases h
     exact Exists.intro ⟨uc+11,gfn [],tfn []⟩ (And.intro Wh (Wg (Wk rfl (Wk rfl (Wk rfl (Wk rfl (Wk rfl trivial))))) trivial))
   replace h:=iteO_f h h144
   refine ⟨(fun hg=>hg),(fun hg=>hg),?_⟩
   refine ⟨fun h145=>?_,fun h145=>?_⟩
   · replace h:=iteO_t h h145
     cases h
   replace h:=iteO_f h h145
   subst hN;cases h
   exact Exists.intro ⟨uc+11,gfn [],tfn []⟩ (And.intro Wh (Wg (Wk rfl (Wk rfl (Wk rfl (Wk rfl (Wk rfl trivial))))) trivial))
 obtain ⟨v5,h151⟩ : ∃ v5,valO 0 (if (decide (3≤(slenS s)))=true then strconv_lower (sidxS s 1) else some 0)=v5:=⟨_,rfl⟩
 obtain ⟨v6,h155⟩ : ∃ v6,valO 0 (if (decide (3≤(slenS s)))=true then strconv_lower (sidxS s 1) else some 0)=v6:=⟨_,rfl⟩
 obtain ⟨v7,h159⟩ : ∃ v7,valO 0 (if (decide (3≤(slenS s)))=true then strconv_lower (sidxS s 1) else some 0)=v7:=⟨_,rfl⟩
 refine Wc [] [(47,.plain (.v (.int .u8 v5))),(59,.plain (.v (.int .u8 v6))),(71,.plain (.v (.int .u8 v7)))] [] 0 [] fun N hN=>?_
 generalize hp:std Tryz.prog=p;generalize hv:nvS=nv;cbv;subst hp hv
 refine ⟨(fun hg=>hg),(fun hg=>hg),?_⟩
 refine ⟨fun h146=>?_,fun h146=>?_⟩
 · replace h:=iteO_t h h146
   subst hN;cases h
   exact Exists.intro ⟨ctr+14,gfn [],tfn []⟩ (And.intro Wh (Wg (Wk rfl (Wk rfl (Wk rfl (Wk rfl (Wk rfl trivial))))) trivial))
 replace h:=iteO_f h h146
 refine ⟨fun h147=>?_,fun h147=>?_⟩
 · replace h:=iteO_t h h147
   replace h:=chk_some h;obtain ⟨h148,h⟩:=h
   refine ⟨h148,?_⟩
   refine ⟨fun h149=>?_,fun h149=>?_⟩
   · replace h:=iteO_t h h149
     replace h:=chk_some h;obtain ⟨h150,h⟩:=h
     replace h:=bindO_val h151 h;clear h151;obtain ⟨h151,h⟩:=h
     refine ⟨(fun hg=>hg),h150,(fun hg=>hg),(fun hg=>by have h151:=guardO h151 hg;have h150:=h150 hg;exact (Or.inl (PureFn.arg (strconv_lower_ok (sidxS s 1) v5 h151) (And.intro (LeD.refl _) trivial)))),(fun hg=>hg),(fun hg=>hg),?_⟩
     refine ⟨fun h152=>?_,fun h152=>?_⟩
     · replace h:=iteO_t h h152
       replace h:=chk_some h;obtain ⟨h153,h⟩:=h
       refine ⟨h153,?_⟩
       subst hN;cases h
       exact Exists.intro ⟨ctr+20,gfn [],tfn []⟩ (And.intro Wh (Wg (Wk rfl (Wk rfl (Wk rfl (Wk rfl (Wk rfl trivial))))) trivial))
     replace h:=iteO_f h h152
     replace h:=chk_some h;obtain ⟨h154,h⟩:=h
     replace h:=bindO_val h155 h;clear h155;obtain ⟨h155,h⟩:=h
     refine ⟨(fun hg=>hg),h154,(fun hg=>hg),(fun hg=>by have h155:=guardO h155 hg;have h154:=h154 hg;exact (Or.inl (PureFn.arg (strconv_lower_ok (sidxS s 1) v6 h155) (And.intro (LeD.refl _) trivial)))),(fun hg=>hg),(fun hg=>hg),?_⟩
     refine ⟨fun h156=>?_,fun h156=>?_⟩
     · replace h:=iteO_t h h156
       replace h:=chk_some h;obtain ⟨h157,h⟩:=h
       refine ⟨h157,?_⟩
       subst hN;cases h
       exact Exists.intro ⟨ctr+21,gfn [],tfn []⟩ (And.intro Wh (Wg (Wk rfl (Wk rfl (Wk rfl (Wk rfl (Wk rfl trivial))))) trivial))
     replace h:=iteO_f h h156
     replace h:=chk_some h;obtain ⟨h158,h⟩:=h
     replace h:=bindO_val h159 h;clear h159;obtain ⟨h159,h⟩:=h
     refine ⟨(fun hg=>hg),h158,(fun hg=>hg),(fun hg=>by have h159:=guardO h159 hg;have h158:=h158 hg;exact (Or.inl (PureFn.arg (strconv_lower_ok (sidxS s 1) v7 h159) (And.intro (LeD.refl _) trivial)))),(fun hg=>hg),(fun hg=>hg),?_⟩
     refine ⟨fun h160=>?_,fun h160=>?_⟩
     · replace h:=iteO_t h h160
       replace h:=chk_some h;obtain ⟨h161,h⟩:=h
       refine ⟨h161,?_⟩
       subst hN;cases h
       exact Exists.intro ⟨ctr+22,gfn [],tfn []⟩ (And.intro Wh (Wg (Wk rfl (Wk rfl (Wk rfl (Wk rfl (Wk rfl trivial))))) trivial))
     replace h:=iteO_f h h160
     replace h:=chk_some h;obtain ⟨h162,h⟩:=h
     refine ⟨h162,?_⟩
     subst hN;cases h
     exact Exists.intro ⟨ctr+22,gfn [],tfn []⟩ (And.intro Wh (Wg (Wk rfl (Wk rfl (Wk rfl (Wk rfl (Wk rfl trivial))))) trivial))
   replace h:=iteO_f h h149
   subst hN;cases h
   exact Exists.intro ⟨ctr+17,gfn [],tfn []⟩ (And.intro Wh (Wg (Wk rfl (Wk rfl (Wk rfl (Wk rfl (Wk rfl trivial))))) trivial))
 replace h:=iteO_f h h147
 cases h
theorem istrconv_ParseInt_ok (s:ByteArray) (base:Int) (bitSize:Int) (r:(Int × Unit)) (h:istrconv_ParseInt s base bitSize=some r):PureFn Tryz.prog 87 [(.v (.string s)),(WV base),(WV bitSize)] (.tup 2 (fun j=>match j with | 0=>(WV r.1) | 1=>(.v .nilIface) | _=>.junk)):=by
 unfold istrconv_ParseInt at h
 refine fn_tr tt0_ok Tryz.func87 (by kernel_rfl) (c:=bodyOf Tryz.f87) (by kernel_rfl) ?_
 intro ctr hc
 refine Wx [] [] [] 0 [] 3 fun N hN=>?_
 generalize hp:std Tryz.prog=p;generalize hv:nvS=nv;cbv;subst hp hv
 refine ⟨fun h1=>?_,fun h1=>?_⟩
 · replace h:=iteO_t h h1
   cases h
 replace h:=iteO_f h h1
 subst hN;show Tr _ _ _ _
 refine Tr.cutSeq (α:=ByteArray × Bool) h (fun (s1,neg) u=>(WF 73 [(0,.v (.string s1)),(1,WV base),(2,WV bitSize),(8,.v (.bool neg))] 73 [] u)) (fun _ t=>Hid.ok t) (fun x u hu h=>?_) (fun f h=>?_)
 · obtain ⟨s1,neg⟩:=x
   try dsimp only at h
   obtain ⟨uc,ug,ut⟩:=u;obtain ⟨huc,hug⟩:0 < uc∧∀ k,ug k < uc:=hu
   obtain ⟨v,h7⟩ : ∃ v,valO (0,()) (istrconv_ParseUint s1 base bitSize)=v:=⟨_,rfl⟩
   obtain ⟨v_0,v_1⟩:=v
   refine Wc [] [(29,.plain (.tup 2 (fun j=>match j with | 0=>(.v (.int .u64 v_0)) | 1=>(.v .nilIface) | _=>.junk)))] [] 0 [] fun N hN=>?_
   generalize hp:std Tryz.prog=p;generalize hv:nvS=nv;cbv;subst hp hv
   replace h:=bindO_val h7 h;clear h7;obtain ⟨h7,h⟩:=h;try dsimp only at h
   refine ⟨(Or.inl (PureFn.arg (istrconv_ParseUint_ok s1 base bitSize (v_0,v_1) h7) (And.intro (LeD.refl _) (And.intro (LeD.refl _) (And.intro (LeD.refl _) trivial))))),?_⟩
   refine ⟨(fun h=>Bool.noConfusion h),(fun h=>Bool.noConfusion h),(fun hg=>hg),?_⟩
   refine ⟨fun h8=>?_,fun h8=>?_⟩
   · replace h:=iteO_t h h8
     subst hN;have hr:=Option.some.inj h
     subst hr
     try dsimp only [noGoto,inBlockQ,thenQ]
     repeat (first | refine Wt ?_ | refine We ?_)
     exact retQ_ret rfl trivial (And.intro (rfl) trivial)
   replace h:=iteO_f h h8
   refine ⟨fun h9=>?_,fun h9=>?_⟩
   · replace h:=iteO_t h h9
     replace h:=chk_some h;obtain ⟨h10,h⟩:=h
     replace h:=chk_some h;obtain ⟨h11,h⟩:=h
     refine ⟨h10,h11,?_⟩
     refine ⟨(fun hg=>hg),(fun hg=>hg),(fun hg=>hg),?_⟩
     refine ⟨fun h12=>?_,fun h12=>?_⟩
     · replace h:=iteO_t h h12
       cases h
     replace h:=iteO_f h h12
     refine ⟨(fun hg=>hg),(fun hg=>hg),(fun hg=>hg),?_⟩
     refine ⟨fun h14=>?_,fun h14=>?_⟩
     · replace h:=iteO_t h h14
       cases h
     replace h:=iteO_f h h14
     refine ⟨fun h16=>?_,fun h16=>?_⟩
     · replace h:=iteO_t h h16
       replace h:=chk_some h;obtain ⟨h17,h⟩:=h
       refine ⟨h17,?_⟩
       subst hN;have hr:=Option.some.inj h
       subst hr
       try dsimp only [noGoto,inBlockQ,thenQ]
       repeat (first | refine Wt ?_ | refine We ?_)
       exact retQ_ret rfl trivial (And.intro (rfl) trivial)
     replace h:=iteO_f h h16
     subst hN;have hr:=Option.some.inj h
     subst hr
     try dsimp only [noGoto,inBlockQ,thenQ]
     repeat (first | refine Wt ?_ | refine We ?_)
     exact retQ_ret rfl trivial (And.intro (rfl) trivial)
   replace h:=iteO_f h h9
   replace h:=chk_some h;obtain ⟨h18,h⟩:=h
   replace h:=chk_some h;obtain ⟨h19,h⟩:=h
   refine ⟨h18,h19,?_⟩
   refine ⟨(fun hg=>hg),(fun hg=>hg),(fun hg=>hg),?_⟩
   refine ⟨fun h20=>?_,fun h20=>?_⟩
   · replace h:=iteO_t h h20
     cases h
   replace h:=iteO_f h h20
   refine ⟨(fun hg=>hg),(fun hg=>hg),(fun hg=>hg),?_⟩
   refine ⟨fun h22=>?_,fun h22=>?_⟩
   · replace h:=iteO_t h h22
     cases h
   replace h:=iteO_f h h22
   refine ⟨fun h24=>?_,fun h24=>?_⟩
   · replace h:=iteO_t h h24
     replace h:=chk_some h;obtain ⟨h25,h⟩:=h
     refine ⟨h25,?_⟩
     subst hN;have hr:=Option.some.inj h
     subst hr
     try dsimp only [noGoto,inBlockQ,thenQ]
     repeat (first | refine Wt ?_ | refine We ?_)
     exact retQ_ret rfl trivial (And.intro (rfl) trivial)
   replace h:=iteO_f h h24
   subst hN;have hr:=Option.some.inj h
   subst hr
   try dsimp only [noGoto,inBlockQ,thenQ]
   repeat (first | refine Wt ?_ | refine We ?_)
   exact retQ_ret rfl trivial (And.intro (rfl) trivial)
 refine Wc [] [] [] 0 [] fun N hN=>?_
 generalize hp:std Tryz.prog=p;generalize hv:nvS=nv;cbv;subst hp hv
 replace h:=chk_some h;obtain ⟨h26,h⟩:=h
 refine ⟨h26,?_⟩
 refine ⟨fun h27=>?_,fun h27=>?_⟩
 · replace h:=iteO_t h h27
   replace h:=chk_some h;obtain ⟨h28,h⟩:=h
   refine ⟨h28,?_⟩
   subst hN;cases h
   exact Exists.intro ⟨ctr+15,gfn [],tfn []⟩ (And.intro Wh (Wg (Wk rfl (Wk rfl (Wk rfl (Wk rfl trivial)))) trivial))
 replace h:=iteO_f h h27
 refine ⟨fun h29=>?_,fun h29=>?_⟩
 · replace h:=iteO_t h h29
   replace h:=chk_some h;obtain ⟨h30,h⟩:=h
   refine ⟨h30,?_⟩
   subst hN;cases h
   exact Exists.intro ⟨ctr+17,gfn [],tfn []⟩ (And.intro Wh (Wg (Wk rfl (Wk rfl (Wk rfl (Wk rfl trivial)))) trivial))
 replace h:=iteO_f h h29
 subst hN;cases h
 exact Exists.intro ⟨ctr+15,gfn [],tfn []⟩ (And.intro Wh (Wg (Wk rfl (Wk rfl (Wk rfl (Wk rfl trivial)))) trivial))
theorem strconv_ParseInt_ok (s:ByteArray) (base:Int) (bitSize:Int) (r:(Int × Unit)) (h:strconv_ParseInt s base bitSize=some r):PureFn Tryz.prog 53 [(.v (.string s)),(WV base),(WV bitSize)] (.tup 2 (fun j=>match j with | 0=>(WV r.1) | 1=>(.v .nilIface) | _=>.junk)):=by
 unfold strconv_ParseInt at h
 refine fn_tr tt0_ok Tryz.func53 (by kernel_rfl) (c:=bodyOf Tryz.f53) (by kernel_rfl) ?_
 intro ctr hc
 obtain ⟨v,h1⟩ : ∃ v,valO (0,()) (istrconv_ParseInt s base bitSize)=v:=⟨_,rfl⟩
 obtain ⟨v_0,v_1⟩:=v
 refine Wc [] [(13,.plain (.tup 2 (fun j=>match j with | 0=>(WV v_0) | 1=>(.v .nilIface) | _=>.junk)))] [] 0 [] fun N hN=>?_
 generalize hp:std Tryz.prog=p;generalize hv:nvS=nv;cbv;subst hp hv
 replace h:=bindO_val h1 h;clear h1;obtain ⟨h1,h⟩:=h;try dsimp only at h
 refine ⟨(Or.inl (PureFn.arg (istrconv_ParseInt_ok s base bitSize (v_0,v_1) h1) (And.intro (LeD.refl _) (And.intro (LeD.refl _) (And.intro (LeD.refl _) trivial))))),?_⟩
 refine ⟨fun h2=>?_,fun h2=>?_⟩
 · cases h2
 subst hN
 have hr:=Option.some.inj h
 subst hr
 try dsimp only [noGoto,inBlockQ,thenQ]
 repeat (first | refine Wt ?_ | refine We ?_)
 exact retQ_ret rfl trivial (And.intro (rfl) trivial)
theorem ucd_hex_ok (s:ByteArray) (r:Int) (h:ucd_hex s=some r):PureFn Tryz.prog 38 [(.v (.string s))] ((WV r)):=by
 unfold ucd_hex at h
 refine fn_tr tt0_ok Tryz.func38 (by kernel_rfl) (c:=bodyOf Tryz.f38) (by kernel_rfl) ?_
 intro ctr hc
 obtain ⟨v,h1⟩ : ∃ v,valO (0,()) (strconv_ParseInt s 16 32)=v:=⟨_,rfl⟩
 obtain ⟨v_0,v_1⟩:=v
 refine Wc [] [(7,.plain (.tup 2 (fun j=>match j with | 0=>(WV v_0) | 1=>(.v .nilIface) | _=>.junk)))] [] 0 [] fun N hN=>?_
 generalize hp:std Tryz.prog=p;generalize hv:nvS=nv;cbv;subst hp hv
 replace h:=bindO_val h1 h;clear h1;obtain ⟨h1,h⟩:=h;try dsimp only at h
 refine ⟨(Or.inl (PureFn.arg (strconv_ParseInt_ok s 16 32 (v_0,v_1) h1) (And.intro (LeD.refl _) (And.intro (LeD.refl _) (And.intro (LeD.refl _) trivial))))),?_⟩
 refine ⟨fun h2=>?_,fun h2=>?_⟩
 · cases h2
 subst hN
 have hr:=Option.some.inj h
 subst hr
 try dsimp only [noGoto,inBlockQ,thenQ]
 repeat (first | refine Wt ?_ | refine We ?_)
 exact retQ_ret rfl trivial rfl
end Go.Vx
