/- Walks, by program (lift.py). -/
import Derived.Test.YtkjmcemgncalgaaGreatDoorWWalk
import Derived.Test.YtkjmcemgncalgaaGreatDoorWWalkL2
set_option linter.all false
namespace Go.Vx
open Go.Proofs
set_option maxRecDepth 100000
set_option linter.unusedVariables false
set_option linter.unusedSimpArgs false
theorem ranges_Get_ok (t':T_ranges_Table) (r':Int) (r:Int) (h:ranges_Get t' r'=some r):PureFn Tryz.prog 25 [(.agg 1 (fun j=>(D_ranges_Table nvS t' j))),(WV r')] ((WV r)):=by
 obtain ⟨t_L⟩:=t'
 unfold ranges_Get at h
 try dsimp only at h
 refine fn_tr tt0_ok Tryz.func25 (by kernel_rfl) (c:=bodyOf Tryz.f25) (by kernel_rfl) ?_
 intro ctr hc
 refine Wx [] [] [] 0 [] 1 fun N hN=>?_
 generalize hp:std Tryz.prog=p;generalize hv:nvS=nv;cbv;subst hp hv
 subst hN;show Tr _ _ _ _
 refine Tr.cutSeq (α:=Unit) h (fun _ t'1=>(WF 27 [] 27 [] t'1)) (fun _ t=>Hid.ok t) (fun x t'1 hu1 h=>?_) (fun f h=>?_)
 · obtain ⟨u1c,u1g,u1t⟩:=t'1;obtain ⟨hu1c,hu1g⟩:0 < u1c∧∀ k,u1g k < u1c:=hu1
   refine Wc [] [] [] 0 [] fun N hN=>?_
   generalize hp:std Tryz.prog=p;generalize hv:nvS=nv;cbv;subst hp hv
   subst hN;have hr:=Option.some.inj h
   subst hr
   try dsimp only [noGoto,inBlockQ,thenQ]
   repeat (first | refine Wt ?_ | refine We ?_)
   exact retQ_ret rfl trivial rfl
 refine Wx [] [] [] 0 [] 1 fun N hN=>?_
 generalize hp:std Tryz.prog=p;generalize hv:nvS=nv;cbv;subst hp hv
 refine ⟨rfl,?_⟩
 subst hN;show Tr _ _ _ _
 refine Tr.block ?_
 refine Tr.loopO (α:=Int) (fun v t'2=>(WF 27 [(1,WV r'),(8,.sl 3 (nvS.len t_L) false (fun ix jx=>(D_ranges_Row nvS (nvS.get d_ranges_Row t_L ix) jx))),(9,WV (nvS.len t_L)),(10,WV v)] 27 [] t'2)) (fun _ t=>Hid.ok t) ⟨ctr+11,gfn [],tfn []⟩ h ?_ ?_ (fun x t'2 f hu2 h=>?_)
 · exact Wh
 · exact (Wg (Wk rfl (Wk rfl (Wk rfl (Wk rfl trivial)))) trivial)
 revert h;revert hu2;revert x;intro v hu2 h
 obtain ⟨u2c,u2g,u2t⟩:=t'2;obtain ⟨hu2c,hu2g⟩:0 < u2c∧∀ k,u2g k < u2c:=hu2
 refine Wc [] [] [] 0 [] fun N hN=>?_
 generalize hp:std Tryz.prog=p;generalize hv:nvS=nv;cbv;subst hp hv
 refine ⟨fun h17=>?_,fun h17=>?_⟩
 · replace h:=iteO_t h h17
   replace h:=chk_some h;obtain ⟨h18,h⟩:=h
   try (have h18z:=h18;simp only [Int.zero_add] at h18z)
   refine ⟨h18,rfl,?_⟩
   refine ⟨rfl,(fun hg=>hg),(fun _=>rfl),(fun hg=>hg),(fun hg=>hg),(fun hg=>hg),?_⟩
   refine ⟨fun h19=>?_,fun h19=>?_⟩
   · replace h:=iteO_t h h19
     refine ⟨rfl,?_⟩
     subst hN;cases h
     intro he;cases he
     intro hr
     subst hr
     try dsimp only [noGoto,inBlockQ,thenQ]
     repeat (first | refine Wt ?_ | refine We ?_)
     exact retQ_ret rfl trivial rfl
   replace h:=iteO_f h h19
   replace h:=chk_some h;obtain ⟨h20,h⟩:=h
   refine ⟨h20,?_⟩
   subst hN;cases h
   exact Exists.intro ⟨u2c+13,gfn [],tfn []⟩ (And.intro Wh (Wg (Wk rfl (Wk rfl (Wk rfl (Wk rfl trivial)))) trivial))
 replace h:=iteO_f h h17
 subst hN;cases h
 intro he;cases he
 exact Exists.intro ⟨u2c+10,gfn [],tfn []⟩ (And.intro Wh (Wg trivial trivial))
theorem ucd_Bracket_ok (d':T_ucd_Data) (r':Int) (r:(Int × Int)) (h:ucd_Bracket d' r'=some r):PureFn Tryz.prog 12 [(.agg 6 (fun j=>(D_ucd_Data nvS d' j))),(WV r')] (.tup 2 (fun j=>match j with | 0=>(WV r.1) | 1=>(WV r.2) | _=>.junk)):=by
 obtain ⟨⟨d_Class_L⟩,⟨d_Wide_L⟩,⟨d_Join_L⟩,d_Mirror,d_Brackets,d_Forms⟩:=d'
 unfold ucd_Bracket at h
 try dsimp only at h
 refine fn_tr tt0_ok Tryz.func12 (by kernel_rfl) (c:=bodyOf Tryz.f12) (by kernel_rfl) ?_
 intro ctr hc
 refine Wx [] [] [] 0 [] 1 fun N hN=>?_
 generalize hp:std Tryz.prog=p;generalize hv:nvS=nv;cbv;subst hp hv
 subst hN;show Tr _ _ _ _
 refine Tr.cutSeq (α:=Unit) h (fun _ t'=>(WF 29 [] 29 [] t')) (fun _ t=>Hid.ok t) (fun x t' hu h=>?_) (fun f h=>?_)
 · obtain ⟨uc,ug,ut⟩:=t';obtain ⟨huc,hug⟩:0 < uc∧∀ k,ug k < uc:=hu
   refine Wc [] [] [] 0 [] fun N hN=>?_
   generalize hp:std Tryz.prog=p;generalize hv:nvS=nv;cbv;subst hp hv
   subst hN;have hr:=Option.some.inj h
   subst hr
   try dsimp only [noGoto,inBlockQ,thenQ]
   repeat (first | refine Wt ?_ | refine We ?_)
   exact retQ_ret rfl trivial (And.intro (rfl)
    rfl)
 refine Wx [] [] [] 0 [] 1 fun N hN=>?_
 generalize hp:std Tryz.prog=p;generalize hv:nvS=nv;cbv;subst hp hv
 refine ⟨rfl,?_⟩
 subst hN;show Tr _ _ _ _
 refine Tr.block ?_
 refine Tr.loopO (α:=Int) (fun v t'1=>(WF 29 [(1,WV r'),(9,.sl 2 (nvS.len d_Brackets) false (fun ix jx=>(D_ucd_Pair nvS (nvS.get d_ucd_Pair d_Brackets ix) jx))),(10,WV (nvS.len d_Brackets)),(11,WV v)] 29 [] t'1)) (fun _ t=>Hid.ok t) ⟨ctr+11,gfn [],tfn []⟩ h ?_ ?_ (fun x t'1 f hu1 h=>?_)
 · exact Wh
 · exact (Wg (Wk rfl (Wk rfl (Wk rfl (Wk rfl trivial)))) trivial)
 revert h;revert hu1;revert x;intro v hu1 h
 obtain ⟨u1c,u1g,u1t⟩:=t'1;obtain ⟨hu1c,hu1g⟩:0 < u1c∧∀ k,u1g k < u1c:=hu1
 refine Wc [] [] [] 0 [] fun N hN=>?_
 generalize hp:std Tryz.prog=p;generalize hv:nvS=nv;cbv;subst hp hv
 refine ⟨fun h21=>?_,fun h21=>?_⟩
 · replace h:=iteO_t h h21
   replace h:=chk_some h;obtain ⟨h22,h⟩:=h
   try (have h22z:=h22;simp only [Int.zero_add] at h22z)
   refine ⟨h22,rfl,?_⟩
   refine ⟨rfl,?_⟩
   refine ⟨fun h23=>?_,fun h23=>?_⟩
   · replace h:=iteO_t h h23
     refine ⟨rfl,?_⟩
     subst hN;cases h
     intro he;cases he
     intro hr
     subst hr
     try dsimp only [noGoto,inBlockQ,thenQ]
     repeat (first | refine Wt ?_ | refine We ?_)
     exact retQ_ret rfl trivial (And.intro (rfl)
      rfl)
   replace h:=iteO_f h h23
   refine ⟨rfl,?_⟩
   refine ⟨fun h24=>?_,fun h24=>?_⟩
   · replace h:=iteO_t h h24
     refine ⟨rfl,?_⟩
     subst hN;cases h
     intro he;cases he
     intro hr
     subst hr
     try dsimp only [noGoto,inBlockQ,thenQ]
     repeat (first | refine Wt ?_ | refine We ?_)
     exact retQ_ret rfl trivial (And.intro (rfl)
      rfl)
   replace h:=iteO_f h h24
   replace h:=chk_some h;obtain ⟨h25,h⟩:=h
   refine ⟨h25,?_⟩
   subst hN;cases h
   exact Exists.intro ⟨u1c+15,gfn [],tfn []⟩ (And.intro Wh (Wg (Wk rfl (Wk rfl (Wk rfl (Wk rfl trivial)))) trivial))
 replace h:=iteO_f h h21
 subst hN;cases h
 intro he;cases he
 exact Exists.intro ⟨u1c+10,gfn [],tfn []⟩ (And.intro Wh (Wg trivial trivial))
theorem ucd_Class_ok (d':T_ucd_Data) (r':Int) (r:Int) (h:ucd_Class d' r'=some r):PureFn Tryz.prog 10 [(.agg 6 (fun j=>(D_ucd_Data nvS d' j))),(WV r')] ((WV r)):=by
 obtain ⟨⟨d_Class_L⟩,⟨d_Wide_L⟩,⟨d_Join_L⟩,d_Mirror,d_Brackets,d_Forms⟩:=d'
 unfold ucd_Class at h
 try dsimp only at h
 refine fn_tr tt0_ok Tryz.func10 (by kernel_rfl) (c:=bodyOf Tryz.f10) (by kernel_rfl) ?_
 intro ctr hc
 obtain ⟨v,h1⟩ : ∃ v,valO 0 (ranges_Get (T_ranges_Table.mk d_Class_L) r')=v:=⟨_,rfl⟩
 refine Wc [] [(9,.plain (WV v))] [] 0 [] fun N hN=>?_
 generalize hp:std Tryz.prog=p;generalize hv:nvS=nv;cbv;subst hp hv
 replace h:=bindO_val h1 h;clear h1;obtain ⟨h1,h⟩:=h
 refine ⟨rfl,(Or.inl (PureFn.arg (ranges_Get_ok (T_ranges_Table.mk d_Class_L) r' v h1) (And.intro (LeD.agg fun j hj=>by
  have hj2:j < 1:=hj
  rcases (show j=0 by omega) with rfl
  · exact LeD.refl _) (And.intro (LeD.refl _) trivial)))),?_⟩
 refine ⟨fun h2=>?_,fun h2=>?_⟩
 · replace h:=iteO_t h h2
   subst hN;have hr:=Option.some.inj h
   subst hr
   try dsimp only [noGoto,inBlockQ,thenQ]
   repeat (first | refine Wt ?_ | refine We ?_)
   exact retQ_ret rfl trivial rfl
 replace h:=iteO_f h h2
 subst hN;have hr:=Option.some.inj h
 subst hr
 try dsimp only [noGoto,inBlockQ,thenQ]
 repeat (first | refine Wt ?_ | refine We ?_)
 exact retQ_ret rfl trivial rfl
end Go.Vx
