/- Walks, by program (lift.py). -/
import Derived.Test.YtkjmcemgncalgaaGreatDoorWWalk
import Derived.Test.YtkjmcemgncalgaaGreatDoorWWalkU
set_option linter.all false
namespace Go.Vx
open Go.Proofs
set_option maxRecDepth 100000
set_option linter.unusedVariables false
set_option linter.unusedSimpArgs false
theorem weak_neutral_ok (c':Int) (r:Bool) (h:weak_neutral c'=some r):PureFn Tryz.prog 95 [(WV c')] ((.v (.bool r))):=by
 unfold weak_neutral at h
 refine fn_tr tt0_ok Tryz.func95 (by kernel_rfl) (c:=bodyOf Tryz.f95) (by kernel_rfl) ?_
 intro ctr hc
 refine Wx [] [] [] 0 [] 1 fun N hN=>?_
 generalize hp:std Tryz.prog=p;generalize hv:nvS=nv;cbv;subst hp hv
 subst hN;show Tr _ _ _ _
 refine Tr.cutSeq (α:=Unit) h (fun _ t'=>(WF 13 [] 13 [] t')) (fun _ t=>Hid.ok t) (fun x t' hu h=>?_) (fun f h=>?_)
 · obtain ⟨uc,ug,ut⟩:=t';obtain ⟨huc,hug⟩:0 < uc∧∀ k,ug k < uc:=hu
   refine Wc [] [] [] 0 [] fun N hN=>?_
   generalize hp:std Tryz.prog=p;generalize hv:nvS=nv;cbv;subst hp hv
   subst hN;have hr:=Option.some.inj h
   subst hr
   try dsimp only [noGoto,inBlockQ,thenQ]
   repeat (first | refine Wt ?_ | refine We ?_)
   exact retQ_ret rfl trivial rfl
 refine Wx [] [] [] 0 [] 1 fun N hN=>?_
 generalize hp:std Tryz.prog=p;generalize hv:nvS=nv;cbv;subst hp hv
 subst hN;show Tr _ _ _ _
 refine Tr.block ?_
 refine Tr.cutSeq (α:=Bool) h (fun v t'1=>(WF 13 [(4,.v (.bool v))] 13 [] t'1)) (fun _ t=>Hid.ok t) (fun x t'1 hu1 h=>?_) (fun f h=>?_)
 · revert h;revert hu1;revert x;intro v hu1 h
   obtain ⟨u1c,u1g,u1t⟩:=t'1;obtain ⟨hu1c,hu1g⟩:0 < u1c∧∀ k,u1g k < u1c:=hu1
   refine Wc [] [] [] 0 [] fun N hN=>?_
   generalize hp:std Tryz.prog=p;generalize hv:nvS=nv;cbv;subst hp hv
   refine ⟨fun h16=>?_,fun h16=>?_⟩
   · replace h:=iteO_t h h16
     subst hN;cases h
     intro hr
     subst hr
     try dsimp only [noGoto,inBlockQ,thenQ]
     repeat (first | refine Wt ?_ | refine We ?_)
     exact retQ_ret rfl trivial rfl
   replace h:=iteO_f h h16
   subst hN;cases h
   exact Exists.intro ⟨u1c+9,gfn [],tfn []⟩ (And.intro Wh (Wg trivial trivial))
 refine Wc [] [] [] 0 [] fun N hN=>?_
 generalize hp:std Tryz.prog=p;generalize hv:nvS=nv;cbv;subst hp hv
 refine ⟨fun h17=>?_,fun h17=>?_⟩
 · replace h:=iteO_t h h17
   subst hN;cases h
   exact Exists.intro ⟨ctr+12,gfn [],tfn []⟩ (And.intro Wh (Wg (Wk rfl trivial) trivial))
 replace h:=iteO_f h h17
 refine ⟨fun h18=>?_,fun h18=>?_⟩
 · replace h:=iteO_t h h18
   subst hN;cases h
   exact Exists.intro ⟨ctr+13,gfn [],tfn []⟩ (And.intro Wh (Wg (Wk rfl trivial) trivial))
 replace h:=iteO_f h h18
 refine ⟨fun h19=>?_,fun h19=>?_⟩
 · replace h:=iteO_t h h19
   subst hN;cases h
   exact Exists.intro ⟨ctr+14,gfn [],tfn []⟩ (And.intro Wh (Wg (Wk rfl trivial) trivial))
 replace h:=iteO_f h h19
 refine ⟨fun h20=>?_,fun h20=>?_⟩
 · replace h:=iteO_t h h20
   subst hN;cases h
   exact Exists.intro ⟨ctr+15,gfn [],tfn []⟩ (And.intro Wh (Wg (Wk rfl trivial) trivial))
 replace h:=iteO_f h h20
 refine ⟨fun h21=>?_,fun h21=>?_⟩
 · replace h:=iteO_t h h21
   subst hN;cases h
   exact Exists.intro ⟨ctr+16,gfn [],tfn []⟩ (And.intro Wh (Wg (Wk rfl trivial) trivial))
 replace h:=iteO_f h h21
 refine ⟨fun h22=>?_,fun h22=>?_⟩
 · replace h:=iteO_t h h22
   subst hN;cases h
   exact Exists.intro ⟨ctr+17,gfn [],tfn []⟩ (And.intro Wh (Wg (Wk rfl trivial) trivial))
 replace h:=iteO_f h h22
 refine ⟨fun h23=>?_,fun h23=>?_⟩
 · replace h:=iteO_t h h23
   subst hN;cases h
   exact Exists.intro ⟨ctr+18,gfn [],tfn []⟩ (And.intro Wh (Wg (Wk rfl trivial) trivial))
 replace h:=iteO_f h h23
 subst hN;cases h
 exact Exists.intro ⟨ctr+19,gfn [],tfn []⟩ (And.intro Wh (Wg (Wk rfl trivial) trivial))
theorem weak_strong_ok (c':Int) (r:Int) (h:weak_strong c'=some r):PureFn Tryz.prog 96 [(WV c')] ((WV r)):=by
 unfold weak_strong at h
 refine fn_tr tt0_ok Tryz.func96 (by kernel_rfl) (c:=bodyOf Tryz.f96) (by kernel_rfl) ?_
 intro ctr hc
 refine Wc [] [] [] 0 [] fun N hN=>?_
 generalize hp:std Tryz.prog=p;generalize hv:nvS=nv;cbv;subst hp hv
 refine ⟨fun h1=>?_,fun h1=>?_⟩
 · replace h:=iteO_t h h1
   subst hN;have hr:=Option.some.inj h
   subst hr
   try dsimp only [noGoto,inBlockQ,thenQ]
   repeat (first | refine Wt ?_ | refine We ?_)
   exact retQ_ret rfl trivial rfl
 replace h:=iteO_f h h1
 refine ⟨fun h2=>?_,fun h2=>?_⟩
 · replace h:=iteO_t h h2
   refine ⟨fun h3=>?_,fun h3=>?_⟩
   · replace h:=iteO_t h h3
     subst hN;have hr:=Option.some.inj h
     subst hr
     try dsimp only [noGoto,inBlockQ,thenQ]
     repeat (first | refine Wt ?_ | refine We ?_)
     exact retQ_ret rfl trivial rfl
   replace h:=iteO_f h h3
   subst hN;have hr:=Option.some.inj h
   subst hr
   try dsimp only [noGoto,inBlockQ,thenQ]
   repeat (first | refine Wt ?_ | refine We ?_)
   exact retQ_ret rfl trivial rfl
 replace h:=iteO_f h h2
 refine ⟨fun h4=>?_,fun h4=>?_⟩
 · replace h:=iteO_t h h4
   refine ⟨fun h5=>?_,fun h5=>?_⟩
   · replace h:=iteO_t h h5
     subst hN;have hr:=Option.some.inj h
     subst hr
     try dsimp only [noGoto,inBlockQ,thenQ]
     repeat (first | refine Wt ?_ | refine We ?_)
     exact retQ_ret rfl trivial rfl
   replace h:=iteO_f h h5
   subst hN;have hr:=Option.some.inj h
   subst hr
   try dsimp only [noGoto,inBlockQ,thenQ]
   repeat (first | refine Wt ?_ | refine We ?_)
   exact retQ_ret rfl trivial rfl
 replace h:=iteO_f h h4
 refine ⟨fun h6=>?_,fun h6=>?_⟩
 · replace h:=iteO_t h h6
   subst hN;have hr:=Option.some.inj h
   subst hr
   try dsimp only [noGoto,inBlockQ,thenQ]
   repeat (first | refine Wt ?_ | refine We ?_)
   exact retQ_ret rfl trivial rfl
 replace h:=iteO_f h h6
 subst hN;have hr:=Option.some.inj h
 subst hr
 try dsimp only [noGoto,inBlockQ,thenQ]
 repeat (first | refine Wt ?_ | refine We ?_)
 exact retQ_ret rfl trivial rfl
theorem weak_Implicit_ok (c':Int) (level:Int) (r:Int) (h:weak_Implicit c' level=some r):PureFn Tryz.prog 15 [(WV c'),(WV level)] ((WV r)):=by
 unfold weak_Implicit at h
 refine fn_tr tt0_ok Tryz.func15 (by kernel_rfl) (c:=bodyOf Tryz.f15) (by kernel_rfl) ?_
 intro ctr hc
 refine Wc [] [] [] 0 [] fun N hN=>?_
 generalize hp:std Tryz.prog=p;generalize hv:nvS=nv;cbv;subst hp hv
 refine ⟨(fun hg=>hg),(fun hg=>hg),(fun hg=>hg),(fun hg=>hg),(fun hg0=>(fun hg=>(and_t hg0 (and_t hg0 hg)))),(fun hg=>hg),(fun hg=>hg),(fun hg=>hg),(fun hg0=>(fun hg=>(and_t hg0 (and_t hg0 hg)))),(fun hg=>hg),?_⟩
 refine ⟨fun h1=>?_,fun h1=>?_⟩
 · replace h:=iteO_t h h1
   replace h:=chk_some h;obtain ⟨h2,h⟩:=h
   refine ⟨h2,?_⟩
   subst hN;have hr:=Option.some.inj h
   subst hr
   try dsimp only [noGoto,inBlockQ,thenQ]
   repeat (first | refine Wt ?_ | refine We ?_)
   exact retQ_ret rfl trivial rfl
 replace h:=iteO_f h h1
 refine ⟨(fun hg=>hg),(fun hg=>hg),?_⟩
 refine ⟨fun h3=>?_,fun h3=>?_⟩
 · replace h:=iteO_t h h3
   replace h:=chk_some h;obtain ⟨h4,h⟩:=h
   refine ⟨h4,?_⟩
   subst hN;have hr:=Option.some.inj h
   subst hr
   try dsimp only [noGoto,inBlockQ,thenQ]
   repeat (first | refine Wt ?_ | refine We ?_)
   exact retQ_ret rfl trivial rfl
 replace h:=iteO_f h h3
 refine ⟨(fun hg=>hg),(fun hg=>hg),(fun hg=>hg),(fun hg=>hg),(fun hg0=>(fun hg=>(and_t hg0 (and_t hg0 hg)))),(fun hg=>hg),?_⟩
 refine ⟨fun h5=>?_,fun h5=>?_⟩
 · replace h:=iteO_t h h5
   replace h:=chk_some h;obtain ⟨h6,h⟩:=h
   refine ⟨h6,?_⟩
   subst hN;have hr:=Option.some.inj h
   subst hr
   try dsimp only [noGoto,inBlockQ,thenQ]
   repeat (first | refine Wt ?_ | refine We ?_)
   exact retQ_ret rfl trivial rfl
 replace h:=iteO_f h h5
 subst hN;have hr:=Option.some.inj h
 subst hr
 try dsimp only [noGoto,inBlockQ,thenQ]
 repeat (first | refine Wt ?_ | refine We ?_)
 exact retQ_ret rfl trivial rfl
theorem weak_classes_ok (d':T_ucd_Data) (r':(List Int)) (r:(List Int)) (h:weak_classes d' r'=some r):PureFn Tryz.prog 22 [(.agg 6 (fun j=>(D_ucd_Data nvS d' j))),(WS nvS r')] (.own 1 (nvS.len r) false (WI nvS r)):=by
 obtain ⟨⟨d_Class_L⟩,⟨d_Wide_L⟩,⟨d_Join_L⟩,d_Mirror,d_Brackets,d_Forms⟩:=d'
 unfold weak_classes at h
 try dsimp only at h
 refine fn_tr tt0_ok Tryz.func22 (by kernel_rfl) (c:=bodyOf Tryz.f22) (by kernel_rfl) ?_
 intro ctr hc
 refine Wx [] [] [] 0 [] 2 fun N hN=>?_
 generalize hp:std Tryz.prog=p;generalize hv:nvS=nv;cbv;subst hp hv
 replace h:=chk_some h;obtain ⟨h1,h⟩:=h
 have h1':=h1.1;have h1'':=h1.2.1
 refine ⟨h1,?_⟩
 subst hN;show Tr _ _ _ _
 refine Tr.cutSeq (α:=List Int) h (fun out t'=>(WF 26 [(5,.vec 10 (t'.g 10) 1 0 (nvS.len r'))] 26 [(10,.arr (t'.g 10) 1 (nvS.len r') (t'.t 10) (WI nvS out))] t')) (fun out t=>Hid.ok t∧lenL out=(lenL r')) (fun x t' hu h=>?_) (fun f h=>?_)
 · revert h;revert hu;revert x;intro out hu h
   obtain ⟨hu,ht'_f0⟩:=hu
   obtain ⟨uc,ug,ut⟩:=t';obtain ⟨huc,hug⟩:0 < uc∧∀ k,ug k < uc:=hu
   refine Wc [] [] [] 0 [] fun N hN=>?_
   generalize hp:std Tryz.prog=p;generalize hv:nvS=nv;cbv;subst hp hv
   subst hN;have hr:=Option.some.inj h
   subst hr
   try dsimp only [noGoto,inBlockQ,thenQ]
   repeat (first | refine Wt ?_ | refine We ?_)
   exact retQ_ret rfl trivial (And.intro (rfl) (And.intro Wy (And.intro (fun h=>by cases h) (out0_all Wo Wp))))
 refine Wx [] [] [] 0 [] 1 fun N hN=>?_
 generalize hp:std Tryz.prog=p;generalize hv:nvS=nv;cbv;subst hp hv
 subst hN;show Tr _ _ _ _
 refine Tr.block ?_
 refine Tr.loopO (α:=Int × List Int) (fun (v,out1) t'1=>(WF 26 [(2,.bref 2 (t'1.g 2) 0),(5,.vec 10 (t'1.g 10) 1 0 (nvS.len r')),(11,WS nvS r'),(12,WV (nvS.len r')),(13,WV v)] 26 [(2,.box (t'1.g 2) [.sl 3 (nvS.len d_Class_L) false (fun ix jx=>(D_ranges_Row nvS (nvS.get d_ranges_Row d_Class_L ix) jx)),.sl 3 (nvS.len d_Wide_L) false (fun ix jx=>(D_ranges_Row nvS (nvS.get d_ranges_Row d_Wide_L ix) jx)),.sl 3 (nvS.len d_Join_L) false (fun ix jx=>(D_ranges_Row nvS (nvS.get d_ranges_Row d_Join_L ix) jx)),.sl 2 (nvS.len d_Mirror) false (fun ix jx=>(D_ucd_Pair nvS (nvS.get d_ucd_Pair d_Mirror ix) jx)),.sl 2 (nvS.len d_Brackets) false (fun ix jx=>(D_ucd_Pair nvS (nvS.get d_ucd_Pair d_Brackets ix) jx)),.sl 3 (nvS.len d_Forms) false (fun ix jx=>(D_ucd_Form nvS (nvS.get d_ucd_Form d_Forms ix) jx))]),(10,.arr (t'1.g 10) 1 (nvS.len r') (t'1.t 10) (WI nvS out1))] t'1)) (fun (v,out1) t=>Hid.ok t∧lenL out1=(lenL r')) ⟨ctr+12,gfn [(2,ctr+0),(10,ctr+1)],tfn [(2,false),(10,((std Tryz.prog).eq (nvS.len r') (nvS.len r')))]⟩ h ?_ ?_ (fun x t'1 f hu1 h=>?_)
 · exact (And.intro Wh Wf)
 · exact (Wg (Wk rfl (Wk rfl (Wk rfl (Wk rfl (Wk rfl trivial))))) (Wi rfl (Wa rfl trivial)))
 obtain ⟨v,out1⟩:=x
 try dsimp only at h
 obtain ⟨hu1,ht'1_f0⟩:=hu1
 obtain ⟨u1c,u1g,u1t⟩:=t'1;obtain ⟨hu1c,hu1g⟩:0 < u1c∧∀ k,u1g k < u1c:=hu1
 obtain ⟨v1,h24⟩ : ∃ v1,valO 0 (ucd_Class (T_ucd_Data.mk (T_ranges_Table.mk d_Class_L) (T_ranges_Table.mk d_Wide_L) (T_ranges_Table.mk d_Join_L) d_Mirror d_Brackets d_Forms) (getL 0 r' v))=v1:=⟨_,rfl⟩
 refine Wc [] [(22,.plain (WV v1))] [] 0 [] fun N hN=>?_
 generalize hp:std Tryz.prog=p;generalize hv:nvS=nv;cbv;subst hp hv
 refine ⟨fun h22=>?_,fun h22=>?_⟩
 · replace h:=iteO_t h h22
   replace h:=chk_some h;obtain ⟨h23,h⟩:=h
   try (have h23z:=h23;simp only [Int.zero_add] at h23z)
   refine ⟨h23,?_⟩
   replace h:=bindO_val h24 h;clear h24;obtain ⟨h24,h⟩:=h
   replace h:=chk_some h;obtain ⟨h25,h⟩:=h
   try (have h25z:=h25;simp only [Int.zero_add] at h25z)
   refine ⟨rfl,(Or.inl (PureFn.arg (ucd_Class_ok (T_ucd_Data.mk (T_ranges_Table.mk d_Class_L) (T_ranges_Table.mk d_Wide_L) (T_ranges_Table.mk d_Join_L) d_Mirror d_Brackets d_Forms) (getL 0 r' v) v1 h24) (And.intro (LeD.agg fun j hj=>by
    have hj2:j < 6:=hj
    rcases (show j=0∨j=1∨j=2∨j=3∨j=4∨j=5 by omega) with rfl | rfl | rfl | rfl | rfl | rfl
    · exact LeD.refl _
    · exact LeD.refl _
    · exact LeD.refl _
    · exact LeD.refl _
    · exact LeD.refl _
    exact LeD.refl _) (And.intro (LeD.refl _) trivial)))),h25,rfl,?_⟩
   replace h:=chk_some h;obtain ⟨h26,h⟩:=h
   refine ⟨h26,?_⟩
   subst hN;cases h
   exact Exists.intro ⟨u1c+13,gfn [(2,u1g 2),(10,u1g 10)],tfn [(2,false),(10,u1t 10)]⟩ (And.intro ((And.intro Wh Wf)) (Wg (Wk rfl (Wk rfl (Wk rfl (Wk rfl (Wk rfl trivial))))) (Wi rfl (Wa rfl trivial))))
 replace h:=iteO_f h h22
 subst hN;cases h
 intro he;cases he
 exact Exists.intro ⟨u1c+10,gfn [(10,u1g 10)],tfn [(10,u1t 10)]⟩ (And.intro ((And.intro Wh Wf)) (Wg (Wk rfl trivial) (Wi rfl trivial)))
theorem weak_pick_ok (l':(List Int)) (seq:(List Int)) (r:(List Int)) (h:weak_pick l' seq=some r):PureFn Tryz.prog 44 [(WS nvS l'),(WS nvS seq)] (.own 1 (nvS.len r) false (WI nvS r)):=by
 unfold weak_pick at h
 refine fn_tr tt0_ok Tryz.func44 (by kernel_rfl) (c:=bodyOf Tryz.f44) (by kernel_rfl) ?_
 intro ctr hc
 refine Wx [] [] [] 0 [] 2 fun N hN=>?_
 generalize hp:std Tryz.prog=p;generalize hv:nvS=nv;cbv;subst hp hv
 replace h:=chk_some h;obtain ⟨h1,h⟩:=h
 have h1':=h1.1;have h1'':=h1.2.1
 refine ⟨h1,?_⟩
 subst hN;show Tr _ _ _ _
 refine Tr.cutSeq (α:=List Int) h (fun out t'=>(WF 27 [(5,.vec 10 (t'.g 10) 1 0 (nvS.len seq))] 27 [(10,.arr (t'.g 10) 1 (nvS.len seq) (t'.t 10) (WI nvS out))] t')) (fun out t=>Hid.ok t∧lenL out=(lenL seq)) (fun x t' hu h=>?_) (fun f h=>?_)
 · revert h;revert hu;revert x;intro out hu h
   obtain ⟨hu,ht'_f0⟩:=hu
   obtain ⟨uc,ug,ut⟩:=t';obtain ⟨huc,hug⟩:0 < uc∧∀ k,ug k < uc:=hu
   refine Wc [] [] [] 0 [] fun N hN=>?_
   generalize hp:std Tryz.prog=p;generalize hv:nvS=nv;cbv;subst hp hv
   subst hN;have hr:=Option.some.inj h
   subst hr
   try dsimp only [noGoto,inBlockQ,thenQ]
   repeat (first | refine Wt ?_ | refine We ?_)
   exact retQ_ret rfl trivial (And.intro (rfl) (And.intro Wy (And.intro (fun h=>by cases h) (out0_all Wo Wp))))
 refine Wx [] [] [] 0 [] 1 fun N hN=>?_
 generalize hp:std Tryz.prog=p;generalize hv:nvS=nv;cbv;subst hp hv
 subst hN;show Tr _ _ _ _
 refine Tr.block ?_
 refine Tr.loopO (α:=Int × List Int) (fun (v,out1) t'1=>(WF 27 [(0,WS nvS l'),(5,.vec 10 (t'1.g 10) 1 0 (nvS.len seq)),(11,WS nvS seq),(12,WV (nvS.len seq)),(13,WV v)] 27 [(10,.arr (t'1.g 10) 1 (nvS.len seq) (t'1.t 10) (WI nvS out1))] t'1)) (fun (v,out1) t=>Hid.ok t∧lenL out1=(lenL seq)) ⟨ctr+12,gfn [(10,ctr+1)],tfn [(10,((std Tryz.prog).eq (nvS.len seq) (nvS.len seq)))]⟩ h ?_ ?_ (fun x t'1 f hu1 h=>?_)
 · exact (And.intro Wh Wf)
 · exact (Wg (Wk rfl (Wk rfl (Wk rfl (Wk rfl (Wk rfl trivial))))) (Wa rfl trivial))
 obtain ⟨v,out1⟩:=x
 try dsimp only at h
 obtain ⟨hu1,ht'1_f0⟩:=hu1
 obtain ⟨u1c,u1g,u1t⟩:=t'1;obtain ⟨hu1c,hu1g⟩:0 < u1c∧∀ k,u1g k < u1c:=hu1
 refine Wc [] [] [] 0 [] fun N hN=>?_
 generalize hp:std Tryz.prog=p;generalize hv:nvS=nv;cbv;subst hp hv
 refine ⟨fun h22=>?_,fun h22=>?_⟩
 · replace h:=iteO_t h h22
   replace h:=chk_some h;obtain ⟨h23,h⟩:=h
   try (have h23z:=h23;simp only [Int.zero_add] at h23z)
   refine ⟨h23,?_⟩
   replace h:=chk_some h;obtain ⟨h24,h⟩:=h
   try (have h24z:=h24;simp only [Int.zero_add] at h24z)
   replace h:=chk_some h;obtain ⟨h25,h⟩:=h
   try (have h25z:=h25;simp only [Int.zero_add] at h25z)
   refine ⟨h24,h25,rfl,?_⟩
   replace h:=chk_some h;obtain ⟨h26,h⟩:=h
   refine ⟨h26,?_⟩
   subst hN;cases h
   exact Exists.intro ⟨u1c+13,gfn [(10,u1g 10)],tfn [(10,u1t 10)]⟩ (And.intro ((And.intro Wh Wf)) (Wg (Wk rfl (Wk rfl (Wk rfl (Wk rfl (Wk rfl trivial))))) (Wa rfl trivial)))
 replace h:=iteO_f h h22
 subst hN;cases h
 intro he;cases he
 exact Exists.intro ⟨u1c+10,gfn [(10,u1g 10)],tfn [(10,u1t 10)]⟩ (And.intro ((And.intro Wh Wf)) (Wg (Wk rfl trivial) (Wi rfl trivial)))
theorem weak_text__at_ok (t':T_weak_text) (i:Int) (r:Int) (h:weak_text__at t' i=some r):PureFn Tryz.prog 49 [(.agg 2 (fun j=>(D_weak_text nvS t' j))),(WV i)] ((WV r)):=by
 obtain ⟨t_l,t_sos⟩:=t'
 unfold weak_text__at at h
 try dsimp only at h
 refine fn_tr tt0_ok Tryz.func49 (by kernel_rfl) (c:=bodyOf Tryz.f49) (by kernel_rfl) ?_
 intro ctr hc
 refine Wc [] [] [] 0 [] fun N hN=>?_
 generalize hp:std Tryz.prog=p;generalize hv:nvS=nv;cbv;subst hp hv
 refine ⟨(fun hg=>hg),(fun _=>rfl),(fun hg=>hg),(fun hg=>hg),(fun hg=>hg),(fun hg=>hg),?_⟩
 refine ⟨fun h1=>?_,fun h1=>?_⟩
 · replace h:=iteO_t h h1
   subst hN;have hr:=Option.some.inj h
   subst hr
   try dsimp only [noGoto,inBlockQ,thenQ]
   repeat (first | refine Wt ?_ | refine We ?_)
   exact retQ_ret rfl trivial rfl
 replace h:=iteO_f h h1
 replace h:=chk_some h;obtain ⟨h2,h⟩:=h
 try (have h2z:=h2;simp only [Int.zero_add] at h2z)
 refine ⟨rfl,h2,?_⟩
 subst hN;have hr:=Option.some.inj h
 subst hr
 try dsimp only [noGoto,inBlockQ,thenQ]
 repeat (first | refine Wt ?_ | refine We ?_)
 exact retQ_ret rfl trivial rfl
end Go.Vx
