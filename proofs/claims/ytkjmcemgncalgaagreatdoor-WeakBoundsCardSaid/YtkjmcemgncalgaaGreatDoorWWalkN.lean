/- Walks, by program (lift.py). -/
import Derived.Test.YtkjmcemgncalgaaGreatDoorWWalk
import Derived.Test.YtkjmcemgncalgaaGreatDoorWWalkN0
import Derived.Test.YtkjmcemgncalgaaGreatDoorWWalkP
set_option linter.all false
namespace Go.Vx
open Go.Proofs
set_option maxRecDepth 100000
set_option linter.unusedVariables false
set_option linter.unusedSimpArgs false
theorem n12_ok (x':T_weak_line) (r:(List Int)) (h:n12 x'=some r) (x'_N:Int) (hx'_N:lenL x'.fl=x'_N) (tg0:Bool):LentFn Tryz.prog 73 [.agg 7 (fun j=>match j with | 0=>.vec 0 0 1 0 x'_N | 1=>WS nvS x'.fwas | 2=>WV x'.fsos | 3=>WV x'.feos | 4=>WV x'.fdir | 5=>WV x'.fagainst | 6=>.sl 2 (nvS.len x'.fpairs) false (fun ix jx=>(D_Arr2_i64 nvS (nvS.get d_Arr2_i64 x'.fpairs ix) jx)) | _=>.junk)] [.arr 0 1 x'_N tg0 (WI nvS x'.fl)] [.arr 0 1 x'_N tg0 (WI nvS r)] (.tup 0 (fun _=>.junk)):=by
 obtain rfl:nvS.len x'.fl=x'_N:=hx'_N
 obtain ⟨x_l,x_was,x_sos,x_eos,x_dir,x_against,x_pairs⟩:=x'
 unfold n12 at h
 try dsimp only at h
 refine lent_tr tt0_ok Tryz.func73 (by kernel_rfl) (c:=bodyOf Tryz.f73) (by kernel_rfl) rfl ?_
 intro ctr hc
 refine Wx [] [] [] 1 [] 2 fun N hN=>?_
 generalize hp:std Tryz.prog=p;generalize hv:nvS=nv;cbv;subst hp hv
 subst hN;show Tr _ _ _ _
 refine Tr.block ?_
 refine Tr.loopO (α:=Int × List Int) (fun (i,o) u=>(WF 81 [(1,.bref 2 (u.g 2) 0),(2,WV i)] 82 [(0,.arr (0) 1 (nvS.len x_l) (tg0) (WI nvS o)),(2,.box (u.g 2) [.vec 0 (0) 1 0 (nvS.len x_l),WS nvS x_was,WV x_sos,WV x_eos,WV x_dir,WV x_against,.sl 2 (nvS.len x_pairs) false (fun ix jx=>(D_Arr2_i64 nvS (nvS.get d_Arr2_i64 x_pairs ix) jx))])] u)) (fun (i,o) t=>Hid.ok t∧lenL o=(lenL x_l)) ⟨ctr+11,gfn [(2,ctr+0)],tfn [(2,false)]⟩ h ?_ ?_ (fun x u f hu h=>?_)
 · exact (And.intro Wh Wf)
 · exact (Wg (Wk rfl (Wk rfl trivial)) (Wi rfl (Wi rfl trivial)))
 obtain ⟨i,o⟩:=x
 try dsimp only at h
 obtain ⟨hu,ht'_f0⟩:=hu
 obtain ⟨uc,ug,ut⟩:=u;obtain ⟨huc,hug⟩:0 < uc∧∀ k,ug k < uc:=hu
 refine Wx [] [] [] 1 [] 1 fun N hN=>?_
 generalize hp:std Tryz.prog=p;generalize hv:nvS=nv;cbv;subst hp hv
 refine ⟨rfl,?_⟩
 refine ⟨fun h55=>?_,fun h55=>?_⟩
 · replace h:=iteO_t h h55
   subst hN;show Tr _ _ _ _
   refine Tr.block ?_
   obtain ⟨v,h57⟩ : ∃ v,valO false (weak_neutral (getL 0 o (0+i)))=v:=⟨_,rfl⟩
   refine Wx [] [(18,.plain (.v (.bool v)))] [] 1 [] 2 fun N hN=>?_
   generalize hp:std Tryz.prog=p;generalize hv:nvS=nv;cbv;subst hp hv
   replace h:=chk_some h;obtain ⟨h56,h⟩:=h
   try (have h56z:=h56;simp only [Int.zero_add] at h56z)
   replace h:=bindO_val h57 h;clear h57;obtain ⟨h57,h⟩:=h
   refine ⟨rfl,h56,rfl,(Or.inl (PureFn.arg (weak_neutral_ok (getL 0 o (0+i)) v h57) (And.intro (LeD.refl _) trivial))),?_⟩
   refine ⟨fun h58=>?_,fun h58=>?_⟩
   · replace h:=iteO_t h h58
     replace h:=chk_some h;obtain ⟨h59,h⟩:=h
     refine ⟨h59,?_⟩
     subst hN;cases h
     exact Exists.intro ⟨uc+12,gfn [(2,ug 2)],tfn [(2,false)]⟩ (And.intro ((And.intro Wh Wf)) (Wg (Wk rfl (Wk rfl trivial)) (Wi rfl (Wi rfl trivial))))
   replace h:=iteO_f h h58
   subst hN;show Tr _ _ _ _
   refine Tr.cutSeq (α:=Int) h (fun end' u1=>(WF 81 [(1,.bref 2 (u1.g 2) 0),(2,WV i),(3,WV end')] 82 [(0,.arr (0) 1 (nvS.len x_l) (tg0) (WI nvS o)),(2,.box (u1.g 2) [.vec 0 (0) 1 0 (nvS.len x_l),WS nvS x_was,WV x_sos,WV x_eos,WV x_dir,WV x_against,.sl 2 (nvS.len x_pairs) false (fun ix jx=>(D_Arr2_i64 nvS (nvS.get d_Arr2_i64 x_pairs ix) jx))])] u1)) (fun _ t=>Hid.ok t) (fun x u1 hu1 h=>?_) (fun f h=>?_)
   · revert h;revert hu1;revert x;intro end' hu1 h
     obtain ⟨u1c,u1g,u1t⟩:=u1;obtain ⟨hu1c,hu1g⟩:0 < u1c∧∀ k,u1g k < u1c:=hu1
     refine Wx [] [] [] 1 [] 1 fun N hN=>?_
     generalize hp:std Tryz.prog=p;generalize hv:nvS=nv;cbv;subst hp hv
     refine ⟨rfl,rfl,(show drOk _ _=true by kernel_rfl),?_⟩
     subst hN;show Tr _ _ _ _
     refine Tr.cutSeq (α:=Int) h (fun ahead1 u2=>(WF 81 [(1,.bref 2 (u2.g 2) 0),(2,WV i),(3,WV end'),(4,WV ahead1),(5,WV x_eos)] 82 [(0,.arr (0) 1 (nvS.len x_l) (tg0) (WI nvS o)),(2,.box (u2.g 2) [.vec 0 (0) 1 0 (nvS.len x_l),WS nvS x_was,WV x_sos,WV x_eos,WV x_dir,WV x_against,.sl 2 (nvS.len x_pairs) false (fun ix jx=>(D_Arr2_i64 nvS (nvS.get d_Arr2_i64 x_pairs ix) jx))])] u2)) (fun _ t=>Hid.ok t) (fun x u2 hu2 h=>?_) (fun f h=>?_)
     · revert h;revert hu2;revert x;intro ahead1 hu2 h
       obtain ⟨u2c,u2g,u2t⟩:=u2;obtain ⟨hu2c,hu2g⟩:0 < u2c∧∀ k,u2g k < u2c:=hu2
       refine Tr.cutSeq (α:=Int) h (fun behind1 u3=>(WF 81 [(1,.bref 2 (u3.g 2) 0),(2,WV i),(3,WV end'),(4,WV ahead1),(5,WV behind1)] 82 [(0,.arr (0) 1 (nvS.len x_l) (tg0) (WI nvS o)),(2,.box (u3.g 2) [.vec 0 (0) 1 0 (nvS.len x_l),WS nvS x_was,WV x_sos,WV x_eos,WV x_dir,WV x_against,.sl 2 (nvS.len x_pairs) false (fun ix jx=>(D_Arr2_i64 nvS (nvS.get d_Arr2_i64 x_pairs ix) jx))])] u3)) (fun _ t=>Hid.ok t) (fun x u3 hu3 h=>?_) (fun f h=>?_)
       · revert h;revert hu3;revert x;intro behind1 hu3 h
         obtain ⟨u3c,u3g,u3t⟩:=u3;obtain ⟨hu3c,hu3g⟩:0 < u3c∧∀ k,u3g k < u3c:=hu3
         refine Wx [] [] [] 1 [] 1 fun N hN=>?_
         generalize hp:std Tryz.prog=p;generalize hv:nvS=nv;cbv;subst hp hv
         refine ⟨rfl,?_⟩
         subst hN;show Tr _ _ _ _
         refine Tr.cutSeq (α:=Int) h (fun c'1 u4=>(WF 81 [(1,.bref 2 (u4.g 2) 0),(2,WV i),(3,WV end'),(6,WV c'1)] 82 [(0,.arr (0) 1 (nvS.len x_l) (tg0) (WI nvS o)),(2,.box (u4.g 2) [.vec 0 (0) 1 0 (nvS.len x_l),WS nvS x_was,WV x_sos,WV x_eos,WV x_dir,WV x_against,.sl 2 (nvS.len x_pairs) false (fun ix jx=>(D_Arr2_i64 nvS (nvS.get d_Arr2_i64 x_pairs ix) jx))])] u4)) (fun _ t=>Hid.ok t) (fun x u4 hu4 h=>?_) (fun f h=>?_)
         · revert h;revert hu4;revert x;intro c'1 hu4 h
           obtain ⟨u4c,u4g,u4t⟩:=u4;obtain ⟨hu4c,hu4g⟩:0 < u4c∧∀ k,u4g k < u4c:=hu4
           refine Tr.block ?_
           refine Tr.loopO (α:=Int × List Int) (fun (i2,o1) u5=>(WF 81 [(1,.bref 2 (u5.g 2) 0),(2,WV i2),(3,WV end'),(6,WV c'1)] 82 [(0,.arr (0) 1 (nvS.len x_l) (tg0) (WI nvS o1)),(2,.box (u5.g 2) [.vec 0 (0) 1 0 (nvS.len x_l),WS nvS x_was,WV x_sos,WV x_eos,WV x_dir,WV x_against,.sl 2 (nvS.len x_pairs) false (fun ix jx=>(D_Arr2_i64 nvS (nvS.get d_Arr2_i64 x_pairs ix) jx))])] u5)) (fun (i2,o1) t=>Hid.ok t∧lenL o1=(lenL x_l)) ⟨u4c+9,gfn [(2,u4g 2)],tfn [(2,false)]⟩ h ?_ ?_ (fun x u5 f hu5 h=>?_)
           · exact (And.intro Wh Wf)
           · exact (Wg (Wk rfl (Wk rfl (Wk rfl (Wk rfl trivial)))) (Wi rfl (Wi rfl trivial)))
           obtain ⟨i2,o1⟩:=x
           try dsimp only at h
           obtain ⟨hu5,ht'5_f0⟩:=hu5
           obtain ⟨u5c,u5g,u5t⟩:=u5;obtain ⟨hu5c,hu5g⟩:0 < u5c∧∀ k,u5g k < u5c:=hu5
           refine Wc [] [] [] 1 [] fun N hN=>?_
           generalize hp:std Tryz.prog=p;generalize hv:nvS=nv;cbv;subst hp hv
           refine ⟨fun h82=>?_,fun h82=>?_⟩
           · replace h:=iteO_t h h82
             replace h:=chk_some h;obtain ⟨h83,h⟩:=h
             try (have h83z:=h83;simp only [Int.zero_add] at h83z)
             refine ⟨rfl,h83,rfl,?_⟩
             replace h:=chk_some h;obtain ⟨h84,h⟩:=h
             refine ⟨h84,?_⟩
             subst hN;cases h
             exact Exists.intro ⟨u5c+12,gfn [(2,u5g 2)],tfn [(2,false)]⟩ (And.intro ((And.intro Wh Wf)) (Wg (Wk rfl (Wk rfl (Wk rfl (Wk rfl trivial)))) (Wa rfl (Wi rfl trivial))))
           replace h:=iteO_f h h82
           subst hN;cases h
           intro he;cases he
           exact Exists.intro ⟨u5c+10,gfn [(2,u5g 2)],tfn [(2,false)]⟩ (And.intro ((And.intro Wh Wf)) (Wg (Wk rfl (Wk rfl trivial)) (Wi rfl (Wi rfl trivial))))
         refine Wc [] [] [] 1 [] fun N hN=>?_
         generalize hp:std Tryz.prog=p;generalize hv:nvS=nv;cbv;subst hp hv
         refine ⟨(fun hg=>hg),(fun hg=>hg),?_⟩
         refine ⟨fun h85=>?_,fun h85=>?_⟩
         · replace h:=iteO_t h h85
           subst hN;cases h
           exact Exists.intro ⟨u3c+12,gfn [(2,u3g 2)],tfn [(2,false)]⟩ (And.intro Wh (Wg (Wk rfl (Wk rfl (Wk rfl (Wk rfl trivial)))) (Wi rfl (Wi rfl trivial))))
         replace h:=iteO_f h h85
         subst hN;cases h
         exact Exists.intro ⟨u3c+11,gfn [(2,u3g 2)],tfn [(2,false)]⟩ (And.intro Wh (Wg (Wk rfl (Wk rfl (Wk rfl (Wk rfl trivial)))) (Wi rfl (Wi rfl trivial))))
       obtain ⟨v1,h88⟩ : ∃ v1,valO 0 (weak_strong (getL 0 o (0+end')))=v1:=⟨_,rfl⟩
       refine Wc [] [(61,.plain (WV v1))] [] 1 [] fun N hN=>?_
       generalize hp:std Tryz.prog=p;generalize hv:nvS=nv;cbv;subst hp hv
       refine ⟨rfl,?_⟩
       refine ⟨fun h86=>?_,fun h86=>?_⟩
       · replace h:=iteO_t h h86
         replace h:=chk_some h;obtain ⟨h87,h⟩:=h
         try (have h87z:=h87;simp only [Int.zero_add] at h87z)
         replace h:=bindO_val h88 h;clear h88;obtain ⟨h88,h⟩:=h
         refine ⟨rfl,h87,rfl,(Or.inl (PureFn.arg (weak_strong_ok (getL 0 o (0+end')) v1 h88) (And.intro (LeD.refl _) trivial))),?_⟩
         subst hN;cases h
         exact Exists.intro ⟨u2c+11,gfn [(2,u2g 2)],tfn [(2,false)]⟩ (And.intro Wh (Wg (Wk rfl (Wk rfl (Wk rfl (Wk rfl (Wk rfl trivial))))) (Wi rfl (Wi rfl trivial))))
       replace h:=iteO_f h h86
       subst hN;cases h
       exact Exists.intro ⟨u2c+10,gfn [(2,u2g 2)],tfn [(2,false)]⟩ (And.intro Wh (Wg (Wk rfl (Wk rfl (Wk rfl (Wk rfl (Wk rfl trivial))))) (Wi rfl (Wi rfl trivial))))
     obtain ⟨v2,h92⟩ : ∃ v2,valO 0 (weak_strong (getL 0 o (0+(i-1))))=v2:=⟨_,rfl⟩
     refine Wc [] [(50,.plain (WV v2))] [] 1 [] fun N hN=>?_
     generalize hp:std Tryz.prog=p;generalize hv:nvS=nv;cbv;subst hp hv
     refine ⟨fun h89=>?_,fun h89=>?_⟩
     · replace h:=iteO_t h h89
       replace h:=chk_some h;obtain ⟨h90,h⟩:=h
       replace h:=chk_some h;obtain ⟨h91,h⟩:=h
       try (have h91z:=h91;simp only [Int.zero_add] at h91z)
       replace h:=bindO_val h92 h;clear h92;obtain ⟨h92,h⟩:=h
       refine ⟨rfl,h90,h91,rfl,(Or.inl (PureFn.arg (weak_strong_ok (getL 0 o (0+(i-1))) v2 h92) (And.intro (LeD.refl _) trivial))),?_⟩
       subst hN;cases h
       exact Exists.intro ⟨u1c+12,gfn [(2,u1g 2)],tfn [(2,false)]⟩ (And.intro Wh (Wg (Wk rfl (Wk rfl (Wk rfl (Wk rfl (Wk rfl trivial))))) (Wi rfl (Wi rfl trivial))))
     replace h:=iteO_f h h89
     subst hN;cases h
     exact Exists.intro ⟨u1c+11,gfn [(2,u1g 2)],tfn [(2,false)]⟩ (And.intro Wh (Wg (Wk rfl (Wk rfl (Wk rfl (Wk rfl (Wk rfl trivial))))) (Wi rfl (Wi rfl trivial))))
   refine Tr.block ?_
   refine Tr.loopO (α:=Int) (fun end'1 u6=>(WF 81 [(1,.bref 2 (u6.g 2) 0),(2,WV i),(3,WV end'1)] 82 [(0,.arr (0) 1 (nvS.len x_l) (tg0) (WI nvS o)),(2,.box (u6.g 2) [.vec 0 (0) 1 0 (nvS.len x_l),WS nvS x_was,WV x_sos,WV x_eos,WV x_dir,WV x_against,.sl 2 (nvS.len x_pairs) false (fun ix jx=>(D_Arr2_i64 nvS (nvS.get d_Arr2_i64 x_pairs ix) jx))])] u6)) (fun _ t=>Hid.ok t) ⟨uc+12,gfn [(2,ug 2)],tfn [(2,false)]⟩ h ?_ ?_ (fun x u6 f hu6 h=>?_)
   · exact Wh
   · exact (Wg (Wk rfl (Wk rfl (Wk rfl trivial))) (Wi rfl (Wi rfl trivial)))
   revert h;revert hu6;revert x;intro end'1 hu6 h
   obtain ⟨u6c,u6g,u6t⟩:=u6;obtain ⟨hu6c,hu6g⟩:0 < u6c∧∀ k,u6g k < u6c:=hu6
   obtain ⟨v3,h102⟩ : ∃ v3,valO false (if (decide (end'1 < (lenL x_l)))=true then weak_neutral (getL 0 o (0+end'1)) else some false)=v3:=⟨_,rfl⟩
   refine Wc [] [(34,.plain (.v (.bool v3)))] [] 1 [] fun N hN=>?_
   generalize hp:std Tryz.prog=p;generalize hv:nvS=nv;cbv;subst hp hv
   replace h:=chk_some h;obtain ⟨h101,h⟩:=h
   replace h:=bindO_val h102 h;clear h102;obtain ⟨h102,h⟩:=h
   refine ⟨rfl,(fun hg=>hg),(fun _=>rfl),(fun hg=>hg),(fun hg=>hg),h101,(fun hg=>hg),(fun _=>rfl),(fun hg=>hg),(fun hg=>by have h102:=guardO h102 hg;have h101:=h101 hg;exact (Or.inl (PureFn.arg (weak_neutral_ok (getL 0 o (0+end'1)) v3 h102) (And.intro (LeD.refl _) trivial)))),(fun hg=>hg),?_⟩
   refine ⟨fun h103=>?_,fun h103=>?_⟩
   · replace h:=iteO_t h h103
     replace h:=chk_some h;obtain ⟨h104,h⟩:=h
     refine ⟨h104,?_⟩
     subst hN;cases h
     exact Exists.intro ⟨u6c+11,gfn [(2,u6g 2)],tfn [(2,false)]⟩ (And.intro Wh (Wg (Wk rfl (Wk rfl (Wk rfl trivial))) (Wi rfl (Wi rfl trivial))))
   replace h:=iteO_f h h103
   subst hN;cases h
   intro he;cases he
   exact Exists.intro ⟨u6c+10,gfn [(2,u6g 2)],tfn [(2,false)]⟩ (And.intro Wh (Wg (Wk rfl (Wk rfl (Wk rfl trivial))) (Wi rfl (Wi rfl trivial))))
 replace h:=iteO_f h h55
 subst hN;cases h
 intro hr
 subst hr
 try dsimp only [noGoto,inBlockQ,thenQ]
 repeat (first | refine Wt ?_ | refine We ?_)
 refine lentQ_normal rfl ?_ ?_ [.top] ?_
 · exact trivial
 · exact trivial
 exact (And.intro (rfl) (And.intro (rfl) (And.intro (And.intro (rfl) (And.intro (rfl) (And.intro Wy (And.intro (rfl) (out0_all Wo Wp))))) trivial)))
theorem weak_Neutral_ok (d':T_ucd_Data) (r':(List Int)) (was:(List Int)) (l':(List Int)) (level:Int) (sos:Int) (eos:Int) (r:(List Int)) (h:weak_Neutral d' r' was l' level sos eos=some r):PureFn Tryz.prog 46 [(.agg 6 (fun j=>(D_ucd_Data nvS d' j))),(WS nvS r'),(WS nvS was),(WS nvS l'),(WV level),(WV sos),(WV eos)] (.own 1 (nvS.len r) false (WI nvS r)):=by
 obtain ⟨⟨d_Class_L⟩,⟨d_Wide_L⟩,⟨d_Join_L⟩,d_Mirror,d_Brackets,d_Forms⟩:=d'
 unfold weak_Neutral at h
 try dsimp only at h
 refine fn_tr tt0_ok Tryz.func46 (by kernel_rfl) (c:=bodyOf Tryz.f46) (by kernel_rfl) ?_
 intro ctr hc
 obtain ⟨v,h1⟩ : ∃ v,valO [] (slices_Clone___int_int_ l')=v:=⟨_,rfl⟩
 obtain ⟨v1,h3⟩ : ∃ v1,valO [] (weak_Pairs (T_ucd_Data.mk (T_ranges_Table.mk d_Class_L) (T_ranges_Table.mk d_Wide_L) (T_ranges_Table.mk d_Join_L) d_Mirror d_Brackets d_Forms) r' l')=v1:=⟨_,rfl⟩
 refine Wx [(28,1)] [(20,.own 1 (nvS.len v) false (WI nvS v)),(41,.plain (.sl 2 (nvS.len v1) false (fun ix jx=>(D_Arr2_i64 nvS (nvS.get d_Arr2_i64 v1 ix) jx))))] [] 0 [] 4 fun N hN=>?_
 generalize hp:std Tryz.prog=p;generalize hv:nvS=nv;cbv;subst hp hv
 replace h:=bindO_val h1 h;clear h1;obtain ⟨h1,h⟩:=h
 refine ⟨(Or.inl (PureFn.arg (slices_Clone___int_int__ok l' v h1) (And.intro (LeD.refl _) trivial))),?_⟩
 refine ⟨(fun hg=>hg),(fun hg=>hg),(fun hg=>hg),(fun hg=>hg),(fun hg=>hg),?_⟩
 refine ⟨fun h2=>?_,fun h2=>?_⟩
 · replace h:=iteO_t h h2
   subst hN;have hr:=Option.some.inj h
   subst hr
   try dsimp only [noGoto,inBlockQ,thenQ]
   repeat (first | refine Wt ?_ | refine We ?_)
   exact retQ_ret rfl trivial (And.intro (rfl) (And.intro Wy (And.intro (fun h=>by cases h) (out0_all Wo Wp))))
 replace h:=iteO_f h h2
 replace h:=bindO_val h3 h;clear h3;obtain ⟨h3,h⟩:=h
 refine ⟨rfl,(Or.inl (PureFn.arg (PureFn.sl (weak_Pairs_ok (T_ucd_Data.mk (T_ranges_Table.mk d_Class_L) (T_ranges_Table.mk d_Wide_L) (T_ranges_Table.mk d_Join_L) d_Mirror d_Brackets d_Forms) r' l' v1 h3)) (And.intro (LeD.agg fun j hj=>by
  have hj2:j < 6:=hj
  rcases (show j=0∨j=1∨j=2∨j=3∨j=4∨j=5 by omega) with rfl | rfl | rfl | rfl | rfl | rfl
  · exact LeD.refl _
  · exact LeD.refl _
  · exact LeD.refl _
  · exact LeD.refl _
  · exact LeD.refl _
  exact LeD.refl _) (And.intro (LeD.refl _) (And.intro (LeD.refl _) trivial))))),rfl,?_⟩
 subst hN;show Tr _ _ _ _
 refine Tr.cutSeq (α:=Int × Int) h (fun (b16_4,b16_5) u=>(WF 59 [(15,.vec 20 (u.g 20) 1 0 (nvS.len v)),(16,.bref 16 (u.g 16) 0)] 59 [(16,.box (u.g 16) [.vec 20 (u.g 20) 1 0 (nvS.len v),WS nvS was,WV sos,WV eos,WV b16_4,WV b16_5,.sl 2 (nvS.len v1) false (fun ix jx=>(D_Arr2_i64 nvS (nvS.get d_Arr2_i64 v1 ix) jx))]),(20,.arr (u.g 20) 1 (nvS.len v) (u.t 20) (WI nvS v))] u)) (fun _ t=>Hid.ok t) (fun x u hu h=>?_) (fun f h=>?_)
 · obtain ⟨b16_4,b16_5⟩:=x
   try dsimp only at h
   obtain ⟨uc,ug,ut⟩:=u;obtain ⟨huc,hug⟩:0 < uc∧∀ k,ug k < uc:=hu
   refine Tr.cutSeq (α:=List Int) h (fun out u1=>(WF 59 [(15,.vec 20 (u1.g 20) 1 0 (nvS.len v))] 59 [(20,.arr (u1.g 20) 1 (nvS.len v) (u1.t 20) (WI nvS out))] u1)) (fun out t=>Hid.ok t∧lenL out=(lenL v)) (fun x u1 hu1 h=>?_) (fun f h=>?_)
   · revert h;revert hu1;revert x;intro out hu1 h
     obtain ⟨hu1,ht'1_f0⟩:=hu1
     obtain ⟨u1c,u1g,u1t⟩:=u1;obtain ⟨hu1c,hu1g⟩:0 < u1c∧∀ k,u1g k < u1c:=hu1
     refine Wc [] [] [] 0 [] fun N hN=>?_
     generalize hp:std Tryz.prog=p;generalize hv:nvS=nv;cbv;subst hp hv
     subst hN;have hr:=Option.some.inj h
     subst hr
     try dsimp only [noGoto,inBlockQ,thenQ]
     repeat (first | refine Wt ?_ | refine We ?_)
     exact retQ_ret rfl trivial (And.intro (rfl) (And.intro Wy (And.intro (fun h=>by cases h) (out0_all Wo Wp))))
   refine Wx [] [] [48] 0 [] 1 fun N hN=>?_
   generalize hp:std Tryz.prog=p;generalize hv:nvS=nv;cbv;subst hp hv
   subst hN;show Tr _ _ _ _
   refine Tr.block ?_
   refine Tr.rounds 3 ?_
   refine TrN.cut (α:=List Int) h (fun out1 u2=>(WF 59 [(15,.vec 20 (u2.g 20) 1 0 (nvS.len v)),(16,.bref 16 (u2.g 16) 0),(48,.sl 1 2 false (fun ix jx=>rowsF (std Tryz.prog) 1 2 [.fn (.func 72) 0 (fun _=>.junk),.fn (.func 73) 0 (fun _=>.junk)] 0 ix jx)),(49,WV 2),(50,WV 1)] 59 [(16,.box (u2.g 16) [.vec 20 (u2.g 20) 1 0 (nvS.len v),WS nvS was,WV sos,WV eos,WV b16_4,WV b16_5,.sl 2 (nvS.len v1) false (fun ix jx=>(D_Arr2_i64 nvS (nvS.get d_Arr2_i64 v1 ix) jx))]),(20,.arr (u2.g 20) 1 (nvS.len v) (u2.t 20) (WI nvS out1))] u2)) (fun out1 t=>Hid.ok t∧lenL out1=(lenL v)) (fun x u2 hu2 h=>?_) (fun f h=>?_)
   · revert h;revert hu2;revert x;intro out1 hu2 h
     obtain ⟨hu2,ht'2_f0⟩:=hu2
     obtain ⟨u2c,u2g,u2t⟩:=u2;obtain ⟨hu2c,hu2g⟩:0 < u2c∧∀ k,u2g k < u2c:=hu2
     refine TrN.cut (α:=List Int) h (fun out2 u3=>(WF 59 [(15,.vec 20 (u3.g 20) 1 0 (nvS.len v)),(16,.bref 16 (u3.g 16) 0),(48,.sl 1 2 false (fun ix jx=>rowsF (std Tryz.prog) 1 2 [.fn (.func 72) 0 (fun _=>.junk),.fn (.func 73) 0 (fun _=>.junk)] 0 ix jx)),(49,WV 2),(50,WV 2)] 59 [(16,.box (u3.g 16) [.vec 20 (u3.g 20) 1 0 (nvS.len v),WS nvS was,WV sos,WV eos,WV b16_4,WV b16_5,.sl 2 (nvS.len v1) false (fun ix jx=>(D_Arr2_i64 nvS (nvS.get d_Arr2_i64 v1 ix) jx))]),(20,.arr (u3.g 20) 1 (nvS.len v) (u3.t 20) (WI nvS out2))] u3)) (fun out2 t=>Hid.ok t∧lenL out2=(lenL v)) (fun x u3 hu3 h=>?_) (fun f h=>?_)
     · revert h;revert hu3;revert x;intro out2 hu3 h
       obtain ⟨hu3,ht'3_f0⟩:=hu3
       obtain ⟨u3c,u3g,u3t⟩:=u3;obtain ⟨hu3c,hu3g⟩:0 < u3c∧∀ k,u3g k < u3c:=hu3
       show Tr _ _ _ _
       refine Wx [] [] [] 0 [] 2 fun N hN=>?_
       generalize hp:std Tryz.prog=p;generalize hv:nvS=nv;cbv;subst hp hv
       refine ⟨fun h26=>?_,fun h26=>?_⟩
       · first | cases h26 | exact Bool.noConfusion (h26:false=true)
       subst hN
       cases h
       exact Exists.intro ⟨u3c+10,gfn [(20,u3g 20)],tfn [(20,u3t 20)]⟩ (And.intro ((And.intro Wh Wf)) (Wg (Wk rfl trivial) (Wi rfl trivial)))
     refine Wx [] [] [] 0 [] 2 fun N hN=>?_
     generalize hp:std Tryz.prog=p;generalize hv:nvS=nv;cbv;subst hp hv
     refine ⟨fun h27=>?_,fun h27=>?_⟩
     · subst hN
       show Tr _ _ _ _
       refine Tr.cutSeq (α:=List Int) h (fun out3 u4=>(WF 59 [(15,.vec 20 (u4.g 20) 1 0 (nvS.len v)),(16,.bref 16 (u4.g 16) 0),(48,.sl 1 2 false (fun ix jx=>rowsF (std Tryz.prog) 1 2 [.fn (.func 72) 0 (fun _=>.junk),.fn (.func 73) 0 (fun _=>.junk)] 0 ix jx)),(49,WV 2),(50,WV 1)] 59 [(16,.box (u4.g 16) [.vec 20 (u4.g 20) 1 0 (nvS.len v),WS nvS was,WV sos,WV eos,WV b16_4,WV b16_5,.sl 2 (nvS.len v1) false (fun ix jx=>(D_Arr2_i64 nvS (nvS.get d_Arr2_i64 v1 ix) jx))]),(20,.arr (u4.g 20) 1 (nvS.len v) (u4.t 20) (WI nvS out3))] u4)) (fun out3 t=>Hid.ok t∧lenL out3=(lenL v)) (fun x u4 hu4 h=>?_) (fun f h=>?_)
       · revert h;revert hu4;revert x;intro out3 hu4 h
         obtain ⟨hu4,ht'4_f0⟩:=hu4
         obtain ⟨u4c,u4g,u4t⟩:=u4;obtain ⟨hu4c,hu4g⟩:0 < u4c∧∀ k,u4g k < u4c:=hu4
         refine Wc [] [] [] 0 [] fun N hN=>?_
         generalize hp:std Tryz.prog=p;generalize hv:nvS=nv;cbv;subst hp hv
         replace h:=chk_some h;obtain ⟨h31,h⟩:=h
         refine ⟨h31,?_⟩
         subst hN;cases h
         exact Exists.intro ⟨u4c+10,gfn [(16,u4g 16),(20,u4g 20)],tfn [(16,false),(20,u4t 20)]⟩ (And.intro ((And.intro Wh Wf)) (Wg (Wk rfl (Wk rfl (Wk rfl (Wk rfl (Wk rfl trivial))))) (Wi rfl (Wi rfl trivial))))
       refine Tr.block ?_
       refine Tr.cutSeq (α:=Unit) h (fun _ u5=>(WF 59 [(15,.vec 20 (u5.g 20) 1 0 (nvS.len v)),(16,.bref 16 (u5.g 16) 0),(18,.fn (.func 73) 0 (fun _=>.junk)),(48,.sl 1 2 false (fun ix jx=>rowsF (std Tryz.prog) 1 2 [.fn (.func 72) 0 (fun _=>.junk),.fn (.func 73) 0 (fun _=>.junk)] 0 ix jx)),(49,WV 2),(50,WV 1)] 59 [(16,.box (u5.g 16) [.vec 20 (u5.g 20) 1 0 (nvS.len v),WS nvS was,WV sos,WV eos,WV b16_4,WV b16_5,.sl 2 (nvS.len v1) false (fun ix jx=>(D_Arr2_i64 nvS (nvS.get d_Arr2_i64 v1 ix) jx))]),(20,.arr (u5.g 20) 1 (nvS.len v) (u5.t 20) (WI nvS out1))] u5)) (fun _ t=>Hid.ok t) (fun x u5 hu5 h=>?_) (fun f h=>?_)
       · obtain ⟨u5c,u5g,u5t⟩:=u5;obtain ⟨hu5c,hu5g⟩:0 < u5c∧∀ k,u5g k < u5c:=hu5
         obtain ⟨v2,h33⟩ : ∃ v2,valO [] (n12 (T_weak_line.mk out1 was sos eos b16_4 b16_5 v1))=v2:=⟨_,rfl⟩
         refine Wc [(73,2)] [(56,.lent [.arr 0 1 ((nvS.len v)) (u5t 20) (WI nvS v2)] (.tup 0 (fun _=>.junk)))] [] 0 [] fun N hN=>?_
         generalize hp:std Tryz.prog=p;generalize hv:nvS=nv;cbv;subst hp hv
         replace h:=bindO_val h33 h;clear h33;obtain ⟨h33,h⟩:=h
         replace h:=chk_some h;obtain ⟨h34,h⟩:=h
         refine ⟨rfl,rfl,(fun i _ _ j _=>trivial),(fun i _ _ j _=>clo_Arr2_i64 _ j),(fun i _ _ j _=>trivial),rfl,rfl,(fun i _ _ j _=>trivial),(LentFn.arg (n12_ok (T_weak_line.mk out1 was sos eos b16_4 b16_5 v1) v2 h33 (lenL v) (by first | rfl | omega) _) (And.intro (LeD.agg fun j hj=>by
          have hj2:j < 7:=hj
          rcases (show j=0∨j=1∨j=2∨j=3∨j=4∨j=5∨j=6 by omega) with rfl | rfl | rfl | rfl | rfl | rfl | rfl
          · exact LeD.refl _
          · exact LeD.refl _
          · exact LeD.refl _
          · exact LeD.refl _
          · exact LeD.refl _
          · exact LeD.refl _
          exact LeD.refl _) trivial)),?_⟩
         subst hN;cases h
         exact Exists.intro ⟨u5c+10,gfn [(16,u5g 16),(20,u5g 20)],tfn [(16,false),(20,u5t 20)]⟩ (And.intro ((And.intro Wh Wf)) (Wg (Wk rfl (Wk rfl (Wk rfl (Wk rfl (Wk rfl trivial))))) (Wi rfl (Wa rfl trivial))))
       refine Wc [] [] [] 0 [] fun N hN=>?_
       generalize hp:std Tryz.prog=p;generalize hv:nvS=nv;cbv;subst hp hv
       replace h:=chk_some h;obtain ⟨h35,h⟩:=h
       refine ⟨h35,?_⟩
       subst hN;cases h
       exact Exists.intro ⟨u2c+11,gfn [(16,u2g 16),(20,u2g 20)],tfn [(16,false),(20,u2t 20)]⟩ (And.intro Wh (Wg (Wk rfl (Wk rfl (Wq rfl (LeD.cndF rfl (LeD.refl _)) (Wk rfl (Wk rfl (Wk rfl trivial)))))) (Wi rfl (Wi rfl trivial))))
     first | cases h27 | exact Bool.noConfusion (h27:true=false)
   refine Wx [] [] [] 0 [] 2 fun N hN=>?_
   generalize hp:std Tryz.prog=p;generalize hv:nvS=nv;cbv;subst hp hv
   refine ⟨fun h36=>?_,fun h36=>?_⟩
   · subst hN
     show Tr _ _ _ _
     refine Tr.cutSeq (α:=List Int) h (fun out4 u6=>(WF 59 [(15,.vec 20 (u6.g 20) 1 0 (nvS.len v)),(16,.bref 16 (u6.g 16) 0),(48,.sl 1 2 false (fun ix jx=>rowsF (std Tryz.prog) 1 2 [.fn (.func 72) 0 (fun _=>.junk),.fn (.func 73) 0 (fun _=>.junk)] 0 ix jx)),(49,WV 2),(50,WV 0)] 59 [(16,.box (u6.g 16) [.vec 20 (u6.g 20) 1 0 (nvS.len v),WS nvS was,WV sos,WV eos,WV b16_4,WV b16_5,.sl 2 (nvS.len v1) false (fun ix jx=>(D_Arr2_i64 nvS (nvS.get d_Arr2_i64 v1 ix) jx))]),(20,.arr (u6.g 20) 1 (nvS.len v) (u6.t 20) (WI nvS out4))] u6)) (fun out4 t=>Hid.ok t∧lenL out4=(lenL v)) (fun x u6 hu6 h=>?_) (fun f h=>?_)
     · revert h;revert hu6;revert x;intro out4 hu6 h
       obtain ⟨hu6,ht'6_f0⟩:=hu6
       obtain ⟨u6c,u6g,u6t⟩:=u6;obtain ⟨hu6c,hu6g⟩:0 < u6c∧∀ k,u6g k < u6c:=hu6
       refine Wc [] [] [] 0 [] fun N hN=>?_
       generalize hp:std Tryz.prog=p;generalize hv:nvS=nv;cbv;subst hp hv
       replace h:=chk_some h;obtain ⟨h40,h⟩:=h
       refine ⟨h40,?_⟩
       subst hN;cases h
       exact Exists.intro ⟨u6c+10,gfn [(16,u6g 16),(20,u6g 20)],tfn [(16,false),(20,u6t 20)]⟩ (And.intro ((And.intro Wh Wf)) (Wg (Wk rfl (Wk rfl (Wk rfl (Wk rfl (Wk rfl trivial))))) (Wi rfl (Wi rfl trivial))))
     refine Tr.block ?_
     refine Tr.cutSeq (α:=Unit) h (fun _ u7=>(WF 59 [(15,.vec 20 (u7.g 20) 1 0 (nvS.len v)),(16,.bref 16 (u7.g 16) 0),(18,.fn (.func 72) 0 (fun _=>.junk)),(48,.sl 1 2 false (fun ix jx=>rowsF (std Tryz.prog) 1 2 [.fn (.func 72) 0 (fun _=>.junk),.fn (.func 73) 0 (fun _=>.junk)] 0 ix jx)),(49,WV 2),(50,WV 0)] 59 [(16,.box (u7.g 16) [.vec 20 (u7.g 20) 1 0 (nvS.len v),WS nvS was,WV sos,WV eos,WV b16_4,WV b16_5,.sl 2 (nvS.len v1) false (fun ix jx=>(D_Arr2_i64 nvS (nvS.get d_Arr2_i64 v1 ix) jx))]),(20,.arr (u7.g 20) 1 (nvS.len v) (u7.t 20) (WI nvS v))] u7)) (fun _ t=>Hid.ok t) (fun x u7 hu7 h=>?_) (fun f h=>?_)
     · obtain ⟨u7c,u7g,u7t⟩:=u7;obtain ⟨hu7c,hu7g⟩:0 < u7c∧∀ k,u7g k < u7c:=hu7
       obtain ⟨v3,h42⟩ : ∃ v3,valO [] (n0 (T_weak_line.mk v was sos eos b16_4 b16_5 v1))=v3:=⟨_,rfl⟩
       refine Wc [(72,2)] [(56,.lent [.arr 0 1 ((nvS.len v)) (u7t 20) (WI nvS v3)] (.tup 0 (fun _=>.junk)))] [] 0 [] fun N hN=>?_
       generalize hp:std Tryz.prog=p;generalize hv:nvS=nv;cbv;subst hp hv
       replace h:=bindO_val h42 h;clear h42;obtain ⟨h42,h⟩:=h
       replace h:=chk_some h;obtain ⟨h43,h⟩:=h
       refine ⟨rfl,rfl,(fun i _ _ j _=>trivial),(fun i _ _ j _=>clo_Arr2_i64 _ j),(fun i _ _ j _=>trivial),rfl,rfl,(fun i _ _ j _=>trivial),(LentFn.arg (n0_ok (T_weak_line.mk v was sos eos b16_4 b16_5 v1) v3 h42 (lenL v) (by first | rfl | omega) _) (And.intro (LeD.agg fun j hj=>by
        have hj2:j < 7:=hj
        rcases (show j=0∨j=1∨j=2∨j=3∨j=4∨j=5∨j=6 by omega) with rfl | rfl | rfl | rfl | rfl | rfl | rfl
        · exact LeD.refl _
        · exact LeD.refl _
        · exact LeD.refl _
        · exact LeD.refl _
        · exact LeD.refl _
        · exact LeD.refl _
        exact LeD.refl _) trivial)),?_⟩
       subst hN;cases h
       exact Exists.intro ⟨u7c+10,gfn [(16,u7g 16),(20,u7g 20)],tfn [(16,false),(20,u7t 20)]⟩ (And.intro ((And.intro Wh Wf)) (Wg (Wk rfl (Wk rfl (Wk rfl (Wk rfl (Wk rfl trivial))))) (Wi rfl (Wa rfl trivial))))
     refine Wc [] [] [] 0 [] fun N hN=>?_
     generalize hp:std Tryz.prog=p;generalize hv:nvS=nv;cbv;subst hp hv
     replace h:=chk_some h;obtain ⟨h44,h⟩:=h
     refine ⟨h44,?_⟩
     subst hN;cases h
     exact Exists.intro ⟨uc+12,gfn [(16,ug 16),(20,ug 20)],tfn [(16,false),(20,ut 20)]⟩ (And.intro Wh (Wg (Wk rfl (Wk rfl (Wq rfl (LeD.cndT rfl (LeD.refl _)) (Wq rfl (LeD.slE rfl (fun i i0 i1 j hj=>rfl)) (Wk rfl (Wk rfl trivial)))))) (Wi rfl (Wi rfl trivial))))
   first | cases h36 | exact Bool.noConfusion (h36:true=false)
 refine Wc [] [] [] 0 [] fun N hN=>?_
 generalize hp:std Tryz.prog=p;generalize hv:nvS=nv;cbv;subst hp hv
 refine ⟨fun h45=>?_,fun h45=>?_⟩
 · replace h:=iteO_t h h45
   refine ⟨rfl,rfl,?_⟩
   subst hN;cases h
   exact Exists.intro ⟨ctr+15,gfn [(16,ctr+3),(20,ctr+1)],tfn [(16,false),(20,false)]⟩ (And.intro Wh (Wg (Wk rfl (Wk rfl trivial)) (Wi rfl (Wi rfl trivial))))
 replace h:=iteO_f h h45
 subst hN;cases h
 exact Exists.intro ⟨ctr+14,gfn [(16,ctr+3),(20,ctr+1)],tfn [(16,false),(20,false)]⟩ (And.intro Wh (Wg (Wk rfl (Wk rfl trivial)) (Wi rfl (Wi rfl trivial))))
end Go.Vx
