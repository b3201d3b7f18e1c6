/- Walks, by program (lift.py). -/
import Derived.Test.YtkjmcemgncalgaaGreatDoorWWalk
import Derived.Test.YtkjmcemgncalgaaGreatDoorWWalkLA
set_option linter.all false
namespace Go.Vx
open Go.Proofs
set_option maxRecDepth 100000
set_option linter.unusedVariables false
set_option linter.unusedSimpArgs false
theorem lapwinglaw18_WeakBounds_ok (r':(List Int)) (dir:Int) (r:Bool) (h:lapwinglaw18_WeakBounds r' dir=some r):PureFn Tryz.prog 3 [(WS nvS r'),(WV dir)] ((.v (.bool r))):=by
 unfold lapwinglaw18_WeakBounds at h
 refine fn_tr tt0_ok Tryz.func3 (by kernel_rfl) (c:=bodyOf Tryz.f3) (by kernel_rfl) ?_
 intro ctr hc
 obtain ⟨v,h1⟩ : ∃ v,valO false (lapwinglaw18_awake)=v:=⟨_,rfl⟩
 obtain ⟨v1,h3⟩ : ∃ v1,valO d_ucd_Data (ucd_Load)=v1:=⟨_,rfl⟩
 obtain ⟨⟨v1_Class_L⟩,⟨v1_Wide_L⟩,⟨v1_Join_L⟩,v1_Mirror,v1_Brackets,v1_Forms⟩:=v1
 obtain ⟨v2,h4⟩ : ∃ v2,valO ([],0) (weak_Paragraph (T_ucd_Data.mk (T_ranges_Table.mk v1_Class_L) (T_ranges_Table.mk v1_Wide_L) (T_ranges_Table.mk v1_Join_L) v1_Mirror v1_Brackets v1_Forms) r' (bndI .i64 dir 3))=v2:=⟨_,rfl⟩
 obtain ⟨v2_0,v2_1⟩:=v2
 refine Wx [] [(14,.plain (.v (.bool v))),(19,.plain (.agg 6 (fun j=>(D_ucd_Data nvS (T_ucd_Data.mk (T_ranges_Table.mk v1_Class_L) (T_ranges_Table.mk v1_Wide_L) (T_ranges_Table.mk v1_Join_L) v1_Mirror v1_Brackets v1_Forms) j)))),(25,.plain (.tup 2 (fun j=>match j with | 0=>(WS nvS v2_0) | 1=>(WV v2_1) | _=>.junk)))] [] 0 [] 7 fun N hN=>?_
 generalize hp:std Tryz.prog=p;generalize hv:nvS=nv;cbv;subst hp hv
 replace h:=bindO_val h1 h;clear h1;obtain ⟨h1,h⟩:=h
 refine ⟨(Or.inl (PureFn.arg (lapwinglaw18_awake_ok  v h1) trivial)),?_⟩
 refine ⟨fun h2=>?_,fun h2=>?_⟩
 · replace h:=iteO_t h h2
   subst hN;have hr:=Option.some.inj h
   subst hr
   try dsimp only [noGoto,inBlockQ,thenQ]
   repeat (first | refine Wt ?_ | refine We ?_)
   exact retQ_ret rfl trivial rfl
 replace h:=iteO_f h h2
 replace h:=bindO_val h3 h;clear h3;obtain ⟨h3,h⟩:=h;try dsimp only at h
 refine ⟨(Or.inl (PureFn.arg (ucd_Load_ok  (T_ucd_Data.mk (T_ranges_Table.mk v1_Class_L) (T_ranges_Table.mk v1_Wide_L) (T_ranges_Table.mk v1_Join_L) v1_Mirror v1_Brackets v1_Forms) h3) trivial)),rfl,?_⟩
 replace h:=bindO_val h4 h;clear h4;obtain ⟨h4,h⟩:=h;try dsimp only at h
 refine ⟨rfl,(Or.inl (PureFn.arg (weak_Paragraph_ok (T_ucd_Data.mk (T_ranges_Table.mk v1_Class_L) (T_ranges_Table.mk v1_Wide_L) (T_ranges_Table.mk v1_Join_L) v1_Mirror v1_Brackets v1_Forms) r' (bndI .i64 dir 3) (v2_0,v2_1) h4) (And.intro (LeD.agg fun j hj=>by
  have hj2:j < 6:=hj
  rcases (show j=0∨j=1∨j=2∨j=3∨j=4∨j=5 by omega) with rfl | rfl | rfl | rfl | rfl | rfl
  · exact LeD.refl _
  · exact LeD.refl _
  · exact LeD.refl _
  · exact LeD.refl _
  · exact LeD.refl _
  exact LeD.refl _) (And.intro (LeD.refl _) (And.intro (LeD.refl _) trivial))))),?_⟩
 refine ⟨(fun hg=>hg),(fun hg=>hg),(fun hg=>hg),(fun hg=>hg),?_⟩
 refine ⟨fun h5=>?_,fun h5=>?_⟩
 · replace h:=iteO_t h h5
   subst hN;have hr:=Option.some.inj h
   subst hr
   try dsimp only [noGoto,inBlockQ,thenQ]
   repeat (first | refine Wt ?_ | refine We ?_)
   exact retQ_ret rfl trivial rfl
 replace h:=iteO_f h h5
 subst hN;show Tr _ _ _ _
 refine Tr.cutSeq (α:=Bool) h (fun plain u=>(WF 140 [(0,WS nvS r'),(5,.v (.bool v)),(6,.bref 6 (u.g 6) 0),(7,WS nvS v2_0),(9,.v (.bool plain))] 140 [(6,.box (u.g 6) [.sl 3 (nvS.len v1_Class_L) false (fun ix jx=>(D_ranges_Row nvS (nvS.get d_ranges_Row v1_Class_L ix) jx)),.sl 3 (nvS.len v1_Wide_L) false (fun ix jx=>(D_ranges_Row nvS (nvS.get d_ranges_Row v1_Wide_L ix) jx)),.sl 3 (nvS.len v1_Join_L) false (fun ix jx=>(D_ranges_Row nvS (nvS.get d_ranges_Row v1_Join_L ix) jx)),.sl 2 (nvS.len v1_Mirror) false (fun ix jx=>(D_ucd_Pair nvS (nvS.get d_ucd_Pair v1_Mirror ix) jx)),.sl 2 (nvS.len v1_Brackets) false (fun ix jx=>(D_ucd_Pair nvS (nvS.get d_ucd_Pair v1_Brackets ix) jx)),.sl 3 (nvS.len v1_Forms) false (fun ix jx=>(D_ucd_Form nvS (nvS.get d_ucd_Form v1_Forms ix) jx))])] u)) (fun _ t=>Hid.ok t) (fun x u hu h=>?_) (fun f h=>?_)
 · revert h;revert hu;revert x;intro plain hu h
   obtain ⟨uc,ug,ut⟩:=u;obtain ⟨huc,hug⟩:0 < uc∧∀ k,ug k < uc:=hu
   refine Tr.cutSeq (α:=Unit) h (fun _ u1=>(WF 140 [(5,.v (.bool v))] 140 [] u1)) (fun _ t=>Hid.ok t) (fun x u1 hu1 h=>?_) (fun f h=>?_)
   · obtain ⟨u1c,u1g,u1t⟩:=u1;obtain ⟨hu1c,hu1g⟩:0 < u1c∧∀ k,u1g k < u1c:=hu1
     refine Wc [] [] [] 0 [] fun N hN=>?_
     generalize hp:std Tryz.prog=p;generalize hv:nvS=nv;cbv;subst hp hv
     subst hN;have hr:=Option.some.inj h
     subst hr
     try dsimp only [noGoto,inBlockQ,thenQ]
     repeat (first | refine Wt ?_ | refine We ?_)
     exact retQ_ret rfl trivial rfl
   refine Wx [] [] [] 0 [] 1 fun N hN=>?_
   generalize hp:std Tryz.prog=p;generalize hv:nvS=nv;cbv;subst hp hv
   subst hN;show Tr _ _ _ _
   refine Tr.block ?_
   refine Tr.loopO (α:=Int) (fun i u2=>(WF 140 [(0,WS nvS r'),(5,.v (.bool v)),(6,.bref 6 (u2.g 6) 0),(7,WS nvS v2_0),(9,.v (.bool plain)),(12,WV i)] 140 [(6,.box (u2.g 6) [.sl 3 (nvS.len v1_Class_L) false (fun ix jx=>(D_ranges_Row nvS (nvS.get d_ranges_Row v1_Class_L ix) jx)),.sl 3 (nvS.len v1_Wide_L) false (fun ix jx=>(D_ranges_Row nvS (nvS.get d_ranges_Row v1_Wide_L ix) jx)),.sl 3 (nvS.len v1_Join_L) false (fun ix jx=>(D_ranges_Row nvS (nvS.get d_ranges_Row v1_Join_L ix) jx)),.sl 2 (nvS.len v1_Mirror) false (fun ix jx=>(D_ucd_Pair nvS (nvS.get d_ucd_Pair v1_Mirror ix) jx)),.sl 2 (nvS.len v1_Brackets) false (fun ix jx=>(D_ucd_Pair nvS (nvS.get d_ucd_Pair v1_Brackets ix) jx)),.sl 3 (nvS.len v1_Forms) false (fun ix jx=>(D_ucd_Form nvS (nvS.get d_ucd_Form v1_Forms ix) jx))])] u2)) (fun _ t=>Hid.ok t) ⟨uc+10,gfn [(6,ug 6)],tfn [(6,false)]⟩ h ?_ ?_ (fun x u2 f hu2 h=>?_)
   · exact Wh
   · exact (Wg (Wk rfl (Wk rfl (Wk rfl (Wk rfl (Wk rfl (Wk rfl trivial)))))) (Wi rfl trivial))
   revert h;revert hu2;revert x;intro i hu2 h
   obtain ⟨u2c,u2g,u2t⟩:=u2;obtain ⟨hu2c,hu2g⟩:0 < u2c∧∀ k,u2g k < u2c:=hu2
   obtain ⟨v3,h58⟩ : ∃ v3,valO 0 (ucd_Class (T_ucd_Data.mk (T_ranges_Table.mk v1_Class_L) (T_ranges_Table.mk v1_Wide_L) (T_ranges_Table.mk v1_Join_L) v1_Mirror v1_Brackets v1_Forms) (getL 0 r' i))=v3:=⟨_,rfl⟩
   refine Wc [] [(89,.plain (WV v3))] [] 0 [] fun N hN=>?_
   generalize hp:std Tryz.prog=p;generalize hv:nvS=nv;cbv;subst hp hv
   refine ⟨(fun hg=>hg),?_⟩
   refine ⟨fun h56=>?_,fun h56=>?_⟩
   · replace h:=iteO_t h h56
     replace h:=chk_some h;obtain ⟨h57,h⟩:=h
     try (have h57z:=h57;simp only [Int.zero_add] at h57z)
     replace h:=bindO_val h58 h;clear h58;obtain ⟨h58,h⟩:=h
     refine ⟨rfl,h57,(Or.inl (PureFn.arg (ucd_Class_ok (T_ucd_Data.mk (T_ranges_Table.mk v1_Class_L) (T_ranges_Table.mk v1_Wide_L) (T_ranges_Table.mk v1_Join_L) v1_Mirror v1_Brackets v1_Forms) (getL 0 r' i) v3 h58) (And.intro (LeD.agg fun j hj=>by
      have hj2:j < 6:=hj
      rcases (show j=0∨j=1∨j=2∨j=3∨j=4∨j=5 by omega) with rfl | rfl | rfl | rfl | rfl | rfl
      · exact LeD.refl _
      · exact LeD.refl _
      · exact LeD.refl _
      · exact LeD.refl _
      · exact LeD.refl _
      exact LeD.refl _) (And.intro (LeD.refl _) trivial)))),(show drOk _ _=true by kernel_rfl),?_⟩
     replace h:=chk_some h;obtain ⟨h59,h⟩:=h
     replace h:=chk_some h;obtain ⟨h60,h⟩:=h
     replace h:=chk_some h;obtain ⟨h61,h⟩:=h
     replace h:=chk_some h;obtain ⟨h62,h⟩:=h
     refine ⟨(fun hg=>hg),(fun hg=>hg),h59,(fun hg=>hg),(fun hg=>hg),(fun hg=>hg),(fun hg=>hg),(fun hg=>hg),(fun hg=>hg),(fun hg=>hg),(fun hg=>hg),(fun hg0=>(fun hg=>(and_t hg0 (and_t hg0 hg)))),(fun hg=>hg),(fun hg=>hg),h60,(fun hg=>hg),(fun hg=>hg),(fun hg=>hg),(fun hg=>hg),(fun hg=>hg),(fun hg0=>(fun hg=>(and_t hg0 (and_t hg0 hg)))),(fun hg=>hg),(fun hg=>hg),(fun hg=>hg),(fun hg=>hg),(fun hg=>hg),(fun hg0=>(fun hg=>(and_t hg0 (and_t hg0 hg)))),(fun hg=>hg),(fun hg=>hg),h61,(fun hg=>hg),(fun hg=>hg),(fun hg=>hg),(fun hg=>hg),(fun hg=>hg),(fun hg0=>(fun hg=>(and_t hg0 (and_t hg0 hg)))),(fun hg=>hg),(fun hg=>hg),(fun hg=>hg),h62,(fun hg=>hg),(fun hg=>hg),(fun hg=>hg),?_⟩
     refine ⟨fun h63=>?_,fun h63=>?_⟩
     · replace h:=iteO_t h h63
       subst hN;cases h
       intro he;cases he
       intro hr
       subst hr
       try dsimp only [noGoto,inBlockQ,thenQ]
       repeat (first | refine Wt ?_ | refine We ?_)
       exact retQ_ret rfl trivial rfl
     replace h:=iteO_f h h63
     replace h:=chk_some h;obtain ⟨h64,h⟩:=h
     refine ⟨h64,?_⟩
     subst hN;cases h
     exact Exists.intro ⟨u2c+13,gfn [(6,u2g 6)],tfn [(6,false)]⟩ (And.intro Wh (Wg (Wk rfl (Wk rfl (Wk rfl (Wk rfl (Wk rfl (Wk rfl trivial)))))) (Wi rfl trivial)))
   replace h:=iteO_f h h56
   subst hN;cases h
   intro he;cases he
   exact Exists.intro ⟨u2c+10,gfn [],tfn []⟩ (And.intro Wh (Wg (Wk rfl trivial) trivial))
 refine Wx [] [] [] 0 [] 1 fun N hN=>?_
 generalize hp:std Tryz.prog=p;generalize hv:nvS=nv;cbv;subst hp hv
 subst hN;show Tr _ _ _ _
 refine Tr.block ?_
 refine Tr.loopO (α:=Bool × Int) (fun (plain1,i2) u3=>(WF 140 [(0,WS nvS r'),(5,.v (.bool v)),(6,.bref 6 (u3.g 6) 0),(7,WS nvS v2_0),(8,WV v2_1),(9,.v (.bool plain1)),(10,WV i2)] 140 [(6,.box (u3.g 6) [.sl 3 (nvS.len v1_Class_L) false (fun ix jx=>(D_ranges_Row nvS (nvS.get d_ranges_Row v1_Class_L ix) jx)),.sl 3 (nvS.len v1_Wide_L) false (fun ix jx=>(D_ranges_Row nvS (nvS.get d_ranges_Row v1_Wide_L ix) jx)),.sl 3 (nvS.len v1_Join_L) false (fun ix jx=>(D_ranges_Row nvS (nvS.get d_ranges_Row v1_Join_L ix) jx)),.sl 2 (nvS.len v1_Mirror) false (fun ix jx=>(D_ucd_Pair nvS (nvS.get d_ucd_Pair v1_Mirror ix) jx)),.sl 2 (nvS.len v1_Brackets) false (fun ix jx=>(D_ucd_Pair nvS (nvS.get d_ucd_Pair v1_Brackets ix) jx)),.sl 3 (nvS.len v1_Forms) false (fun ix jx=>(D_ucd_Form nvS (nvS.get d_ucd_Form v1_Forms ix) jx))])] u3)) (fun _ t=>Hid.ok t) ⟨ctr+17,gfn [(6,ctr+3)],tfn [(6,false)]⟩ h ?_ ?_ (fun x u3 f hu3 h=>?_)
 · exact Wh
 · exact (Wg (Wk rfl (Wk rfl (Wk rfl (Wk rfl (Wk rfl (Wk rfl (Wk rfl trivial))))))) (Wi rfl trivial))
 obtain ⟨plain1,i2⟩:=x
 try dsimp only at h
 obtain ⟨u3c,u3g,u3t⟩:=u3;obtain ⟨hu3c,hu3g⟩:0 < u3c∧∀ k,u3g k < u3c:=hu3
 obtain ⟨v4,h81⟩ : ∃ v4,valO 0 (ucd_Class (T_ucd_Data.mk (T_ranges_Table.mk v1_Class_L) (T_ranges_Table.mk v1_Wide_L) (T_ranges_Table.mk v1_Join_L) v1_Mirror v1_Brackets v1_Forms) (getL 0 r' i2))=v4:=⟨_,rfl⟩
 refine Wc [] [(52,.plain (WV v4))] [] 0 [] fun N hN=>?_
 generalize hp:std Tryz.prog=p;generalize hv:nvS=nv;cbv;subst hp hv
 refine ⟨fun h79=>?_,fun h79=>?_⟩
 · replace h:=iteO_t h h79
   replace h:=chk_some h;obtain ⟨h80,h⟩:=h
   try (have h80z:=h80;simp only [Int.zero_add] at h80z)
   replace h:=bindO_val h81 h;clear h81;obtain ⟨h81,h⟩:=h
   refine ⟨rfl,h80,(Or.inl (PureFn.arg (ucd_Class_ok (T_ucd_Data.mk (T_ranges_Table.mk v1_Class_L) (T_ranges_Table.mk v1_Wide_L) (T_ranges_Table.mk v1_Join_L) v1_Mirror v1_Brackets v1_Forms) (getL 0 r' i2) v4 h81) (And.intro (LeD.agg fun j hj=>by
    have hj2:j < 6:=hj
    rcases (show j=0∨j=1∨j=2∨j=3∨j=4∨j=5 by omega) with rfl | rfl | rfl | rfl | rfl | rfl
    · exact LeD.refl _
    · exact LeD.refl _
    · exact LeD.refl _
    · exact LeD.refl _
    · exact LeD.refl _
    exact LeD.refl _) (And.intro (LeD.refl _) trivial)))),(show drOk _ _=true by kernel_rfl),?_⟩
   refine ⟨(fun hg=>hg),(fun hg=>hg),(fun hg=>hg),(fun hg=>hg),(fun hg0=>(fun hg=>(and_t hg0 (and_t hg0 hg)))),(fun hg=>hg),?_⟩
   replace h:=chk_some h;obtain ⟨h82,h⟩:=h
   try (have h82z:=h82;simp only [Int.zero_add] at h82z)
   replace h:=chk_some h;obtain ⟨h83,h⟩:=h
   refine ⟨h82,(fun hg=>hg),(fun hg=>hg),h83,(fun hg=>hg),(fun hg=>hg),(fun hg=>hg),?_⟩
   refine ⟨fun h84=>?_,fun h84=>?_⟩
   · replace h:=iteO_t h h84
     subst hN;cases h
     intro he;cases he
     intro hr
     subst hr
     try dsimp only [noGoto,inBlockQ,thenQ]
     repeat (first | refine Wt ?_ | refine We ?_)
     exact retQ_ret rfl trivial rfl
   replace h:=iteO_f h h84
   replace h:=chk_some h;obtain ⟨h85,h⟩:=h
   refine ⟨h85,?_⟩
   subst hN;cases h
   exact Exists.intro ⟨u3c+14,gfn [(6,u3g 6)],tfn [(6,false)]⟩ (And.intro Wh (Wg (Wk rfl (Wk rfl (Wk rfl (Wk rfl (Wk rfl (Wk rfl (Wk rfl trivial))))))) (Wi rfl trivial)))
 replace h:=iteO_f h h79
 subst hN;cases h
 intro he;cases he
 exact Exists.intro ⟨u3c+10,gfn [(6,u3g 6)],tfn [(6,false)]⟩ (And.intro Wh (Wg (Wk rfl (Wk rfl (Wk rfl (Wk rfl (Wk rfl trivial))))) (Wi rfl trivial)))
end Go.Vx
