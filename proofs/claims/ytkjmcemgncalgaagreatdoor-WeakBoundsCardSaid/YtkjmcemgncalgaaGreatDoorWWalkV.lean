/- Walks, by program (lift.py). -/
import Derived.Test.YtkjmcemgncalgaaGreatDoorWWalk
import Derived.Test.YtkjmcemgncalgaaGreatDoorWWalkN
import Derived.Test.YtkjmcemgncalgaaGreatDoorWWalkQ
import Derived.Test.YtkjmcemgncalgaaGreatDoorWWalkX
set_option linter.all false
namespace Go.Vx
open Go.Proofs
set_option maxRecDepth 100000
set_option linter.unusedVariables false
set_option linter.unusedSimpArgs false
theorem weak_levels_ok (d':T_ucd_Data) (r':(List Int)) (l':(List Int)) (base:Int) (r:(List Int)) (h:weak_levels d' r' l' base=some r):PureFn Tryz.prog 24 [(.agg 6 (fun j=>(D_ucd_Data nvS d' j))),(WS nvS r'),(WS nvS l'),(WV base)] (.own 1 (nvS.len r) false (WI nvS r)):=by
 obtain ⟨⟨d_Class_L⟩,⟨d_Wide_L⟩,⟨d_Join_L⟩,d_Mirror,d_Brackets,d_Forms⟩:=d'
 unfold weak_levels at h
 try dsimp only at h
 refine fn_tr tt0_ok Tryz.func24 (by kernel_rfl) (c:=bodyOf Tryz.f24) (by kernel_rfl) ?_
 intro ctr hc
 obtain ⟨v,h1⟩ : ∃ v,valO d_embed_Run (embed_Explicit l' base)=v:=⟨_,rfl⟩
 obtain ⟨v_Levels,v_Classes,v_Removed⟩:=v
 obtain ⟨v1,h2⟩ : ∃ v1,valO [] (slices_Clone___int_int_ v_Levels)=v1:=⟨_,rfl⟩
 refine Wx [(28,1)] [(25,.plain (.agg 3 (fun j=>(D_embed_Run nvS (T_embed_Run.mk v_Levels v_Classes v_Removed) j)))),(28,.own 1 (nvS.len v1) false (WI nvS v1))] [] 0 [] 3 fun N hN=>?_
 generalize hp:std Tryz.prog=p;generalize hv:nvS=nv;cbv;subst hp hv
 replace h:=bindO_val h1 h;clear h1;obtain ⟨h1,h⟩:=h;try dsimp only at h
 refine ⟨(Or.inl (PureFn.arg (embed_Explicit_ok l' base (T_embed_Run.mk v_Levels v_Classes v_Removed) h1) (And.intro (LeD.refl _) (And.intro (LeD.refl _) trivial)))),rfl,?_⟩
 replace h:=bindO_val h2 h;clear h2;obtain ⟨h2,h⟩:=h
 refine ⟨rfl,(Or.inl (PureFn.arg (slices_Clone___int_int__ok v_Levels v1 h2) (And.intro (LeD.refl _) trivial))),?_⟩
 subst hN;show Tr _ _ _ _
 refine Tr.cutSeq (α:=List Int) h (fun out u=>(WF 109 [(3,WV base),(9,.bref 9 (u.g 9) 0),(10,.vec 28 (u.g 28) 1 0 (nvS.len v1))] 109 [(9,.box (u.g 9) [WS nvS v_Levels,WS nvS v_Classes,.sl 1 (nvS.len v_Removed) false (fun ix jx=>(.v (.bool (nvS.get false v_Removed ix))))]),(28,.arr (u.g 28) 1 (nvS.len v1) (u.t 28) (WI nvS out))] u)) (fun out t=>Hid.ok t∧lenL out=(lenL v1)) (fun x u hu h=>?_) (fun f h=>?_)
 · revert h;revert hu;revert x;intro out hu h
   obtain ⟨hu,ht'_f0⟩:=hu
   obtain ⟨uc,ug,ut⟩:=u;obtain ⟨huc,hug⟩:0 < uc∧∀ k,ug k < uc:=hu
   refine Wx [] [] [] 0 [] 1 fun N hN=>?_
   generalize hp:std Tryz.prog=p;generalize hv:nvS=nv;cbv;subst hp hv
   replace h:=chk_some h;obtain ⟨h48,h⟩:=h
   refine ⟨h48,?_⟩
   subst hN;show Tr _ _ _ _
   refine Tr.cutSeq (α:=List Int) h (fun out1 u1=>(WF 109 [(10,.vec 28 (u1.g 28) 1 0 (nvS.len v1))] 109 [(28,.arr (u1.g 28) 1 (nvS.len v1) (u1.t 28) (WI nvS out1))] u1)) (fun out1 t=>Hid.ok t∧lenL out1=(lenL v1)) (fun x u1 hu1 h=>?_) (fun f h=>?_)
   · revert h;revert hu1;revert x;intro out1 hu1 h
     obtain ⟨hu1,ht'1_f0⟩:=hu1
     obtain ⟨u1c,u1g,u1t⟩:=u1;obtain ⟨hu1c,hu1g⟩:0 < u1c∧∀ k,u1g k < u1c:=hu1
     refine Wc [] [] [] 0 [] fun N hN=>?_
     generalize hp:std Tryz.prog=p;generalize hv:nvS=nv;cbv;subst hp hv
     subst hN;have hr:=Option.some.inj h
     subst hr
     try dsimp only [noGoto,inBlockQ,thenQ]
     repeat (first | refine Wt ?_ | refine We ?_)
     exact retQ_ret rfl trivial (And.intro (rfl) (And.intro Wy (And.intro (fun h=>by cases h) (out0_all Wo Wp))))
   refine Wx [] [] [] 0 [] 1 fun N hN=>?_
   generalize hp:std Tryz.prog=p;generalize hv:nvS=nv;cbv;subst hp hv
   refine ⟨rfl,?_⟩
   subst hN;show Tr _ _ _ _
   refine Tr.block ?_
   refine Tr.loopO (α:=Int × Int × List Int) (fun (ahead1,v2,out2) u2=>(WF 109 [(10,.vec 28 (u2.g 28) 1 0 (nvS.len v1)),(20,WV ahead1),(91,.sl 1 (nvS.len v_Removed) false (fun ix jx=>(.v (.bool (nvS.get false v_Removed ix))))),(92,WV (nvS.len v_Removed)),(93,WV v2)] 109 [(28,.arr (u2.g 28) 1 (nvS.len v1) (u2.t 28) (WI nvS out2))] u2)) (fun (ahead1,v2,out2) t=>Hid.ok t∧lenL out2=(lenL v1)) ⟨uc+11,gfn [(28,ug 28)],tfn [(28,ut 28)]⟩ h ?_ ?_ (fun x u2 f hu2 h=>?_)
   · exact (And.intro Wh Wf)
   · exact (Wg (Wk rfl (Wk rfl (Wk rfl (Wk rfl (Wk rfl trivial))))) (Wi rfl trivial))
   obtain ⟨ahead1,v2,out2⟩:=x
   try dsimp only at h
   obtain ⟨hu2,ht'2_f0⟩:=hu2
   obtain ⟨u2c,u2g,u2t⟩:=u2;obtain ⟨hu2c,hu2g⟩:0 < u2c∧∀ k,u2g k < u2c:=hu2
   refine Wx [] [] [] 0 [] 2 fun N hN=>?_
   generalize hp:std Tryz.prog=p;generalize hv:nvS=nv;cbv;subst hp hv
   refine ⟨fun h73=>?_,fun h73=>?_⟩
   · replace h:=iteO_t h h73
     subst hN;show Tr _ _ _ _
     refine Tr.cutSeq (α:=Int × List Int) h (fun (ahead2,out3) u3=>(WF 109 [(10,.vec 28 (u3.g 28) 1 0 (nvS.len v1)),(20,WV ahead2),(91,.sl 1 (nvS.len v_Removed) false (fun ix jx=>(.v (.bool (nvS.get false v_Removed ix))))),(92,WV (nvS.len v_Removed)),(93,WV v2)] 109 [(28,.arr (u3.g 28) 1 (nvS.len v1) (u3.t 28) (WI nvS out3))] u3)) (fun (ahead2,out3) t=>Hid.ok t∧lenL out3=(lenL v1)) (fun x u3 hu3 h=>?_) (fun f h=>?_)
     · obtain ⟨ahead2,out3⟩:=x
       try dsimp only at h
       obtain ⟨hu3,ht'3_f0⟩:=hu3
       obtain ⟨u3c,u3g,u3t⟩:=u3;obtain ⟨hu3c,hu3g⟩:0 < u3c∧∀ k,u3g k < u3c:=hu3
       refine Wc [] [] [] 0 [] fun N hN=>?_
       generalize hp:std Tryz.prog=p;generalize hv:nvS=nv;cbv;subst hp hv
       replace h:=chk_some h;obtain ⟨h78,h⟩:=h
       refine ⟨h78,?_⟩
       subst hN;cases h
       exact Exists.intro ⟨u3c+10,gfn [(28,u3g 28)],tfn [(28,u3t 28)]⟩ (And.intro ((And.intro Wh Wf)) (Wg (Wk rfl (Wk rfl (Wk rfl (Wk rfl (Wk rfl trivial))))) (Wi rfl trivial)))
     refine Tr.block ?_
     refine Wx [] [] [] 0 [] 1 fun N hN=>?_
     generalize hp:std Tryz.prog=p;generalize hv:nvS=nv;cbv;subst hp hv
     replace h:=chk_some h;obtain ⟨h79,h⟩:=h
     try (have h79z:=h79;simp only [Int.zero_add] at h79z)
     refine ⟨h79,?_⟩
     subst hN;show Tr _ _ _ _
     refine Tr.cutSeq (α:=List Int) h (fun out4 u4=>(WF 109 [(10,.vec 28 (u4.g 28) 1 0 (nvS.len v1)),(21,WV v2),(91,.sl 1 (nvS.len v_Removed) false (fun ix jx=>(.v (.bool (nvS.get false v_Removed ix))))),(92,WV (nvS.len v_Removed)),(93,WV v2)] 109 [(28,.arr (u4.g 28) 1 (nvS.len v1) (u4.t 28) (WI nvS out4))] u4)) (fun out4 t=>Hid.ok t∧lenL out4=(lenL v1)) (fun x u4 hu4 h=>?_) (fun f h=>?_)
     · revert h;revert hu4;revert x;intro out4 hu4 h
       obtain ⟨hu4,ht'4_f0⟩:=hu4
       obtain ⟨u4c,u4g,u4t⟩:=u4;obtain ⟨hu4c,hu4g⟩:0 < u4c∧∀ k,u4g k < u4c:=hu4
       refine Wc [] [] [] 0 [] fun N hN=>?_
       generalize hp:std Tryz.prog=p;generalize hv:nvS=nv;cbv;subst hp hv
       replace h:=chk_some h;obtain ⟨h82,h⟩:=h
       try (have h82z:=h82;simp only [Int.zero_add] at h82z)
       refine ⟨h82,rfl,?_⟩
       subst hN;cases h
       exact Exists.intro ⟨u4c+10,gfn [(28,u4g 28)],tfn [(28,u4t 28)]⟩ (And.intro ((And.intro Wh Wf)) (Wg (Wk rfl (Wk rfl (Wk rfl (Wk rfl (Wk rfl trivial))))) (Wi rfl trivial)))
     refine Wc [] [] [] 0 [] fun N hN=>?_
     generalize hp:std Tryz.prog=p;generalize hv:nvS=nv;cbv;subst hp hv
     refine ⟨fun h83=>?_,fun h83=>?_⟩
     · replace h:=iteO_t h h83
       replace h:=chk_some h;obtain ⟨h84,h⟩:=h
       try (have h84z:=h84;simp only [Int.zero_add] at h84z)
       refine ⟨h84,rfl,?_⟩
       subst hN;cases h
       exact Exists.intro ⟨u2c+13,gfn [(28,u2g 28)],tfn [(28,u2t 28)]⟩ (And.intro ((And.intro Wh Wf)) (Wg (Wk rfl (Wk rfl (Wk rfl (Wk rfl (Wk rfl trivial))))) (Wa rfl trivial)))
     replace h:=iteO_f h h83
     subst hN;cases h
     exact Exists.intro ⟨u2c+12,gfn [(28,u2g 28)],tfn [(28,u2t 28)]⟩ (And.intro ((And.intro Wh Wf)) (Wg (Wk rfl (Wk rfl (Wk rfl (Wk rfl (Wk rfl trivial))))) (Wi rfl trivial)))
   replace h:=iteO_f h h73
   subst hN;cases h
   intro he;cases he
   exact Exists.intro ⟨u2c+10,gfn [(28,u2g 28)],tfn [(28,u2t 28)]⟩ (And.intro ((And.intro Wh Wf)) (Wg (Wk rfl trivial) (Wi rfl trivial)))
 obtain ⟨v3,h85⟩ : ∃ v3,valO [] (embed_Sequences l' (T_embed_Run.mk v_Levels v_Classes v_Removed) base)=v3:=⟨_,rfl⟩
 refine Wx [(43,1)] [(32,.own 1 (nvS.len v3) false (fun ix jx=>(.sl 1 (nvS.len (nvS.get [] v3 ix)) false (fun ix1 jx1=>(WV (nvS.get 0 (nvS.get [] v3 ix) ix1))))))] [] 0 [] 1 fun N hN=>?_
 generalize hp:std Tryz.prog=p;generalize hv:nvS=nv;cbv;subst hp hv
 replace h:=bindO_val h85 h;clear h85;obtain ⟨h85,h⟩:=h
 refine ⟨rfl,(Or.inl (PureFn.arg (embed_Sequences_ok l' (T_embed_Run.mk v_Levels v_Classes v_Removed) base v3 h85) (And.intro (LeD.refl _) (And.intro (LeD.agg fun j hj=>by
  have hj2:j < 3:=hj
  rcases (show j=0∨j=1∨j=2 by omega) with rfl | rfl | rfl
  · exact LeD.refl _
  · exact LeD.refl _
  exact LeD.refl _) (And.intro (LeD.refl _) trivial))))),?_⟩
 subst hN;show Tr _ _ _ _
 refine Tr.block ?_
 refine Tr.loopO (α:=Int × List Int) (fun (v4,out5) u5=>(WF 109 [(1,WS nvS r'),(2,WS nvS l'),(3,WV base),(4,.bref 4 (u5.g 4) 0),(9,.bref 9 (u5.g 9) 0),(10,.vec 28 (u5.g 28) 1 0 (nvS.len v1)),(32,.vec 32 (u5.g 32) 1 0 (nvS.len v3)),(33,WV (nvS.len v3)),(34,WV v4)] 109 [(4,.box (u5.g 4) [.sl 3 (nvS.len d_Class_L) false (fun ix jx=>(D_ranges_Row nvS (nvS.get d_ranges_Row d_Class_L ix) jx)),.sl 3 (nvS.len d_Wide_L) false (fun ix jx=>(D_ranges_Row nvS (nvS.get d_ranges_Row d_Wide_L ix) jx)),.sl 3 (nvS.len d_Join_L) false (fun ix jx=>(D_ranges_Row nvS (nvS.get d_ranges_Row d_Join_L ix) jx)),.sl 2 (nvS.len d_Mirror) false (fun ix jx=>(D_ucd_Pair nvS (nvS.get d_ucd_Pair d_Mirror ix) jx)),.sl 2 (nvS.len d_Brackets) false (fun ix jx=>(D_ucd_Pair nvS (nvS.get d_ucd_Pair d_Brackets ix) jx)),.sl 3 (nvS.len d_Forms) false (fun ix jx=>(D_ucd_Form nvS (nvS.get d_ucd_Form d_Forms ix) jx))]),(9,.box (u5.g 9) [WS nvS v_Levels,WS nvS v_Classes,.sl 1 (nvS.len v_Removed) false (fun ix jx=>(.v (.bool (nvS.get false v_Removed ix))))]),(28,.arr (u5.g 28) 1 (nvS.len v1) (u5.t 28) (WI nvS out5)),(32,.arr (u5.g 32) 1 (nvS.len v3) (u5.t 32) (fun ix jx=>(.sl 1 (nvS.len (nvS.get [] v3 ix)) false (fun ix1 jx1=>(WV (nvS.get 0 (nvS.get [] v3 ix) ix1))))))] u5)) (fun (v4,out5) t=>Hid.ok t∧lenL out5=(lenL v1)) ⟨ctr+13,gfn [(4,ctr+0),(9,ctr+1),(28,ctr+2),(32,ctr+3)],tfn [(4,false),(9,false),(28,false),(32,false)]⟩ h ?_ ?_ (fun x u5 f hu5 h=>?_)
 · exact (And.intro Wh Wf)
 · exact (Wg (Wk rfl (Wk rfl (Wk rfl (Wk rfl (Wk rfl (Wk rfl (Wk rfl (Wk rfl (Wk rfl trivial))))))))) (Wi rfl (Wi rfl (Wi rfl (Wi rfl trivial)))))
 obtain ⟨v4,out5⟩:=x
 try dsimp only at h
 obtain ⟨hu5,ht'5_f0⟩:=hu5
 obtain ⟨u5c,u5g,u5t⟩:=u5;obtain ⟨hu5c,hu5g⟩:0 < u5c∧∀ k,u5g k < u5c:=hu5
 refine Wx [] [] [] 0 [] 2 fun N hN=>?_
 generalize hp:std Tryz.prog=p;generalize hv:nvS=nv;cbv;subst hp hv
 refine ⟨fun h130=>?_,fun h130=>?_⟩
 · replace h:=iteO_t h h130
   subst hN;show Tr _ _ _ _
   refine Tr.cutSeq (α:=List Int) h (fun out6 u6=>(WF 109 [(1,WS nvS r'),(2,WS nvS l'),(3,WV base),(4,.bref 4 (u6.g 4) 0),(9,.bref 9 (u6.g 9) 0),(10,.vec 28 (u6.g 28) 1 0 (nvS.len v1)),(32,.vec 32 (u6.g 32) 1 0 (nvS.len v3)),(33,WV (nvS.len v3)),(34,WV v4)] 109 [(4,.box (u6.g 4) [.sl 3 (nvS.len d_Class_L) false (fun ix jx=>(D_ranges_Row nvS (nvS.get d_ranges_Row d_Class_L ix) jx)),.sl 3 (nvS.len d_Wide_L) false (fun ix jx=>(D_ranges_Row nvS (nvS.get d_ranges_Row d_Wide_L ix) jx)),.sl 3 (nvS.len d_Join_L) false (fun ix jx=>(D_ranges_Row nvS (nvS.get d_ranges_Row d_Join_L ix) jx)),.sl 2 (nvS.len d_Mirror) false (fun ix jx=>(D_ucd_Pair nvS (nvS.get d_ucd_Pair d_Mirror ix) jx)),.sl 2 (nvS.len d_Brackets) false (fun ix jx=>(D_ucd_Pair nvS (nvS.get d_ucd_Pair d_Brackets ix) jx)),.sl 3 (nvS.len d_Forms) false (fun ix jx=>(D_ucd_Form nvS (nvS.get d_ucd_Form d_Forms ix) jx))]),(9,.box (u6.g 9) [WS nvS v_Levels,WS nvS v_Classes,.sl 1 (nvS.len v_Removed) false (fun ix jx=>(.v (.bool (nvS.get false v_Removed ix))))]),(28,.arr (u6.g 28) 1 (nvS.len v1) (u6.t 28) (WI nvS out6)),(32,.arr (u6.g 32) 1 (nvS.len v3) (u6.t 32) (fun ix jx=>(.sl 1 (nvS.len (nvS.get [] v3 ix)) false (fun ix1 jx1=>(WV (nvS.get 0 (nvS.get [] v3 ix) ix1))))))] u6)) (fun out6 t=>Hid.ok t∧lenL out6=(lenL v1)) (fun x u6 hu6 h=>?_) (fun f h=>?_)
   · revert h;revert hu6;revert x;intro out6 hu6 h
     obtain ⟨hu6,ht'6_f0⟩:=hu6
     obtain ⟨u6c,u6g,u6t⟩:=u6;obtain ⟨hu6c,hu6g⟩:0 < u6c∧∀ k,u6g k < u6c:=hu6
     refine Wc [] [] [] 0 [] fun N hN=>?_
     generalize hp:std Tryz.prog=p;generalize hv:nvS=nv;cbv;subst hp hv
     replace h:=chk_some h;obtain ⟨h151,h⟩:=h
     refine ⟨h151,?_⟩
     subst hN;cases h
     exact Exists.intro ⟨u6c+10,gfn [(4,u6g 4),(9,u6g 9),(28,u6g 28),(32,u6g 32)],tfn [(4,false),(9,false),(28,u6t 28),(32,u6t 32)]⟩ (And.intro ((And.intro Wh Wf)) (Wg (Wk rfl (Wk rfl (Wk rfl (Wk rfl (Wk rfl (Wk rfl (Wk rfl (Wk rfl (Wk rfl trivial))))))))) (Wi rfl (Wi rfl (Wi rfl (Wi rfl trivial))))))
   refine Tr.block ?_
   obtain ⟨v5,h153⟩ : ∃ v5,valO [] (weak_pick v_Classes (getL [] v3 (0+v4)))=v5:=⟨_,rfl⟩
   obtain ⟨v6,h156⟩ : ∃ v6,valO (0,0) (embed_Edges l' (T_embed_Run.mk v_Levels v_Classes v_Removed) base (getL [] v3 (0+v4)))=v6:=⟨_,rfl⟩
   obtain ⟨v6_0,v6_1⟩:=v6
   obtain ⟨v7,h157⟩ : ∃ v7,valO [] (weak_pick r' (getL [] v3 (0+v4)))=v7:=⟨_,rfl⟩
   obtain ⟨v8,h158⟩ : ∃ v8,valO [] (weak_Weak v5 v6_0)=v8:=⟨_,rfl⟩
   obtain ⟨v9,h159⟩ : ∃ v9,valO [] (weak_Neutral (T_ucd_Data.mk (T_ranges_Table.mk d_Class_L) (T_ranges_Table.mk d_Wide_L) (T_ranges_Table.mk d_Join_L) d_Mirror d_Brackets d_Forms) v7 v5 v8 (getL 0 v_Levels (getL 0 (getL [] v3 (0+v4)) 0)) v6_0 v6_1)=v9:=⟨_,rfl⟩
   refine Wx [(46,1)] [(41,.plain (WS nvS v5)),(54,.plain (.tup 2 (fun j=>match j with | 0=>(WV v6_0) | 1=>(WV v6_1) | _=>.junk))),(60,.plain (WS nvS v7)),(64,.plain (WS nvS v8)),(68,.own 1 (nvS.len v9) false (WI nvS v9))] [] 0 [] 6 fun N hN=>?_
   generalize hp:std Tryz.prog=p;generalize hv:nvS=nv;cbv;subst hp hv
   replace h:=chk_some h;obtain ⟨h152,h⟩:=h
   try (have h152z:=h152;simp only [Int.zero_add] at h152z)
   refine ⟨h152,rfl,?_⟩
   replace h:=bindO_val h153 h;clear h153;obtain ⟨h153,h⟩:=h
   refine ⟨rfl,(Or.inl (PureFn.arg (PureFn.sl (weak_pick_ok v_Classes (getL [] v3 (0+v4)) v5 h153)) (And.intro (LeD.refl _) (And.intro (LeD.refl _) trivial)))),?_⟩
   replace h:=chk_some h;obtain ⟨h154,h⟩:=h
   replace h:=chk_some h;obtain ⟨h155,h⟩:=h
   try (have h155z:=h155;simp only [Int.zero_add] at h155z)
   refine ⟨rfl,h154,h155,(show drOk _ _=true by kernel_rfl),?_⟩
   replace h:=bindO_val h156 h;clear h156;obtain ⟨h156,h⟩:=h;try dsimp only at h
   refine ⟨rfl,(Or.inl (PureFn.arg (embed_Edges_ok l' (T_embed_Run.mk v_Levels v_Classes v_Removed) base (getL [] v3 (0+v4)) (v6_0,v6_1) h156) (And.intro (LeD.refl _) (And.intro (LeD.agg fun j hj=>by
    have hj2:j < 3:=hj
    rcases (show j=0∨j=1∨j=2 by omega) with rfl | rfl | rfl
    · exact LeD.refl _
    · exact LeD.refl _
    exact LeD.refl _) (And.intro (LeD.refl _) (And.intro (LeD.refl _) trivial)))))),?_⟩
   replace h:=bindO_val h157 h;clear h157;obtain ⟨h157,h⟩:=h
   replace h:=bindO_val h158 h;clear h158;obtain ⟨h158,h⟩:=h
   replace h:=bindO_val h159 h;clear h159;obtain ⟨h159,h⟩:=h
   refine ⟨rfl,(Or.inl (PureFn.arg (PureFn.sl (weak_pick_ok r' (getL [] v3 (0+v4)) v7 h157)) (And.intro (LeD.refl _) (And.intro (LeD.refl _) trivial)))),(Or.inl (PureFn.arg (PureFn.sl (weak_Weak_ok v5 v6_0 v8 h158)) (And.intro (LeD.refl _) (And.intro (LeD.refl _) trivial)))),(Or.inl (PureFn.arg (weak_Neutral_ok (T_ucd_Data.mk (T_ranges_Table.mk d_Class_L) (T_ranges_Table.mk d_Wide_L) (T_ranges_Table.mk d_Join_L) d_Mirror d_Brackets d_Forms) v7 v5 v8 (getL 0 v_Levels (getL 0 (getL [] v3 (0+v4)) 0)) v6_0 v6_1 v9 h159) (And.intro (LeD.agg fun j hj=>by
    have hj2:j < 6:=hj
    rcases (show j=0∨j=1∨j=2∨j=3∨j=4∨j=5 by omega) with rfl | rfl | rfl | rfl | rfl | rfl
    · exact LeD.refl _
    · exact LeD.refl _
    · exact LeD.refl _
    · exact LeD.refl _
    · exact LeD.refl _
    exact LeD.refl _) (And.intro (LeD.refl _) (And.intro (LeD.refl _) (And.intro (LeD.refl _) (And.intro (LeD.refl _) (And.intro (LeD.refl _) (And.intro (LeD.refl _) trivial))))))))),(show drOk _ _=true by kernel_rfl),?_⟩
   subst hN;show Tr _ _ _ _
   refine Tr.block ?_
   refine Tr.loopO (α:=Int × List Int) (fun (v10,out7) u7=>(WF 109 [(1,WS nvS r'),(2,WS nvS l'),(3,WV base),(4,.bref 4 (u7.g 4) 0),(9,.bref 9 (u7.g 9) 0),(10,.vec 28 (u7.g 28) 1 0 (nvS.len v1)),(14,WV (nvS.get 0 v_Levels (nvS.get 0 (nvS.get [] v3 ((std Tryz.prog).add 0 v4)) 0))),(17,.vec 68 (u7.g 68) 1 0 (nvS.len v9)),(32,.vec 32 (u7.g 32) 1 0 (nvS.len v3)),(33,WV (nvS.len v3)),(34,WV v4),(69,.sl 1 (nvS.len (nvS.get [] v3 ((std Tryz.prog).add 0 v4))) false (fun ix jx=>(WV (nvS.get 0 (nvS.get [] v3 ((std Tryz.prog).add 0 v4)) ix)))),(70,WV (nvS.len (nvS.get [] v3 ((std Tryz.prog).add 0 v4)))),(71,WV v10)] 109 [(4,.box (u7.g 4) [.sl 3 (nvS.len d_Class_L) false (fun ix jx=>(D_ranges_Row nvS (nvS.get d_ranges_Row d_Class_L ix) jx)),.sl 3 (nvS.len d_Wide_L) false (fun ix jx=>(D_ranges_Row nvS (nvS.get d_ranges_Row d_Wide_L ix) jx)),.sl 3 (nvS.len d_Join_L) false (fun ix jx=>(D_ranges_Row nvS (nvS.get d_ranges_Row d_Join_L ix) jx)),.sl 2 (nvS.len d_Mirror) false (fun ix jx=>(D_ucd_Pair nvS (nvS.get d_ucd_Pair d_Mirror ix) jx)),.sl 2 (nvS.len d_Brackets) false (fun ix jx=>(D_ucd_Pair nvS (nvS.get d_ucd_Pair d_Brackets ix) jx)),.sl 3 (nvS.len d_Forms) false (fun ix jx=>(D_ucd_Form nvS (nvS.get d_ucd_Form d_Forms ix) jx))]),(9,.box (u7.g 9) [WS nvS v_Levels,WS nvS v_Classes,.sl 1 (nvS.len v_Removed) false (fun ix jx=>(.v (.bool (nvS.get false v_Removed ix))))]),(28,.arr (u7.g 28) 1 (nvS.len v1) (u7.t 28) (WI nvS out7)),(32,.arr (u7.g 32) 1 (nvS.len v3) (u7.t 32) (fun ix jx=>(.sl 1 (nvS.len (nvS.get [] v3 ix)) false (fun ix1 jx1=>(WV (nvS.get 0 (nvS.get [] v3 ix) ix1)))))),(68,.arr (u7.g 68) 1 (nvS.len v9) (u7.t 68) (WI nvS v9))] u7)) (fun (v10,out7) t=>Hid.ok t∧lenL out7=(lenL v1)) ⟨u5c+16,gfn [(4,u5g 4),(9,u5g 9),(28,u5g 28),(32,u5g 32),(68,u5c+5)],tfn [(4,false),(9,false),(28,u5t 28),(32,u5t 32),(68,false)]⟩ h ?_ ?_ (fun x u7 f hu7 h=>?_)
   · exact (And.intro Wh Wf)
   · exact (Wg (Wk rfl (Wk rfl (Wk rfl (Wk rfl (Wk rfl (Wk rfl (Wk rfl (Wk rfl (Wk rfl (Wk rfl (Wk rfl (Wk rfl (Wk rfl (Wk rfl trivial)))))))))))))) (Wi rfl (Wi rfl (Wi rfl (Wi rfl (Wi rfl trivial))))))
   obtain ⟨v10,out7⟩:=x
   try dsimp only at h
   obtain ⟨hu7,ht'7_f0⟩:=hu7
   obtain ⟨u7c,u7g,u7t⟩:=u7;obtain ⟨hu7c,hu7g⟩:0 < u7c∧∀ k,u7g k < u7c:=hu7
   obtain ⟨v11,h175⟩ : ∃ v11,valO 0 (weak_Implicit (getL 0 v9 (0+v10)) (getL 0 v_Levels (getL 0 (getL [] v3 (0+v4)) 0)))=v11:=⟨_,rfl⟩
   refine Wc [] [(83,.plain (WV v11))] [] 0 [] fun N hN=>?_
   generalize hp:std Tryz.prog=p;generalize hv:nvS=nv;cbv;subst hp hv
   refine ⟨fun h172=>?_,fun h172=>?_⟩
   · replace h:=iteO_t h h172
     replace h:=chk_some h;obtain ⟨h173,h⟩:=h
     try (have h173z:=h173;simp only [Int.zero_add] at h173z)
     refine ⟨h173,?_⟩
     replace h:=chk_some h;obtain ⟨h174,h⟩:=h
     try (have h174z:=h174;simp only [Int.zero_add] at h174z)
     replace h:=bindO_val h175 h;clear h175;obtain ⟨h175,h⟩:=h
     replace h:=chk_some h;obtain ⟨h176,h⟩:=h
     try (have h176z:=h176;simp only [Int.zero_add] at h176z)
     refine ⟨h174,rfl,(Or.inl (PureFn.arg (weak_Implicit_ok (getL 0 v9 (0+v10)) (getL 0 v_Levels (getL 0 (getL [] v3 (0+v4)) 0)) v11 h175) (And.intro (LeD.refl _) (And.intro (LeD.refl _) trivial)))),h176,rfl,?_⟩
     replace h:=chk_some h;obtain ⟨h177,h⟩:=h
     refine ⟨h177,?_⟩
     subst hN;cases h
     exact Exists.intro ⟨u7c+13,gfn [(4,u7g 4),(9,u7g 9),(28,u7g 28),(32,u7g 32),(68,u7g 68)],tfn [(4,false),(9,false),(28,u7t 28),(32,u7t 32),(68,u7t 68)]⟩ (And.intro ((And.intro Wh Wf)) (Wg (Wk rfl (Wk rfl (Wk rfl (Wk rfl (Wk rfl (Wk rfl (Wk rfl (Wk rfl (Wk rfl (Wk rfl (Wk rfl (Wk rfl (Wk rfl (Wk rfl trivial)))))))))))))) (Wi rfl (Wi rfl (Wa rfl (Wi rfl (Wi rfl trivial)))))))
   replace h:=iteO_f h h172
   subst hN;cases h
   intro he;cases he
   exact Exists.intro ⟨u7c+10,gfn [(4,u7g 4),(9,u7g 9),(28,u7g 28),(32,u7g 32)],tfn [(4,false),(9,false),(28,u7t 28),(32,u7t 32)]⟩ (And.intro ((And.intro Wh Wf)) (Wg (Wk rfl (Wk rfl (Wk rfl (Wk rfl (Wk rfl (Wk rfl (Wk rfl (Wk rfl (Wk rfl trivial))))))))) (Wi rfl (Wi rfl (Wi rfl (Wi rfl trivial))))))
 replace h:=iteO_f h h130
 subst hN;cases h
 intro he;cases he
 exact Exists.intro ⟨u5c+10,gfn [(9,u5g 9),(28,u5g 28)],tfn [(9,false),(28,u5t 28)]⟩ (And.intro ((And.intro Wh Wf)) (Wg (Wk rfl (Wk rfl (Wk rfl trivial))) (Wi rfl (Wi rfl trivial))))
theorem weak_Paragraph_ok (d':T_ucd_Data) (r':(List Int)) (dir:Int) (r:((List Int) × Int)) (h:weak_Paragraph d' r' dir=some r):PureFn Tryz.prog 9 [(.agg 6 (fun j=>(D_ucd_Data nvS d' j))),(WS nvS r'),(WV dir)] (.tup 2 (fun j=>match j with | 0=>(WS nvS r.1) | 1=>(WV r.2) | _=>.junk)):=by
 obtain ⟨⟨d_Class_L⟩,⟨d_Wide_L⟩,⟨d_Join_L⟩,d_Mirror,d_Brackets,d_Forms⟩:=d'
 unfold weak_Paragraph at h
 try dsimp only at h
 refine fn_tr tt0_ok Tryz.func9 (by kernel_rfl) (c:=bodyOf Tryz.f9) (by kernel_rfl) ?_
 intro ctr hc
 obtain ⟨v,h1⟩ : ∃ v,valO [] (weak_classes (T_ucd_Data.mk (T_ranges_Table.mk d_Class_L) (T_ranges_Table.mk d_Wide_L) (T_ranges_Table.mk d_Join_L) d_Mirror d_Brackets d_Forms) r')=v:=⟨_,rfl⟩
 refine Wx [(22,1)] [(12,.own 1 (nvS.len v) false (WI nvS v))] [] 0 [] 3 fun N hN=>?_
 generalize hp:std Tryz.prog=p;generalize hv:nvS=nv;cbv;subst hp hv
 replace h:=bindO_val h1 h;clear h1;obtain ⟨h1,h⟩:=h
 refine ⟨rfl,(Or.inl (PureFn.arg (weak_classes_ok (T_ucd_Data.mk (T_ranges_Table.mk d_Class_L) (T_ranges_Table.mk d_Wide_L) (T_ranges_Table.mk d_Join_L) d_Mirror d_Brackets d_Forms) r' v h1) (And.intro (LeD.agg fun j hj=>by
  have hj2:j < 6:=hj
  rcases (show j=0∨j=1∨j=2∨j=3∨j=4∨j=5 by omega) with rfl | rfl | rfl | rfl | rfl | rfl
  · exact LeD.refl _
  · exact LeD.refl _
  · exact LeD.refl _
  · exact LeD.refl _
  · exact LeD.refl _
  exact LeD.refl _) (And.intro (LeD.refl _) trivial)))),?_⟩
 subst hN;show Tr _ _ _ _
 refine Tr.cutSeq (α:=Int) h (fun base u=>(WF 28 [(1,WS nvS r'),(3,.bref 3 (u.g 3) 0),(8,.vec 12 (u.g 12) 1 0 (nvS.len v)),(9,WV base)] 28 [(3,.box (u.g 3) [.sl 3 (nvS.len d_Class_L) false (fun ix jx=>(D_ranges_Row nvS (nvS.get d_ranges_Row d_Class_L ix) jx)),.sl 3 (nvS.len d_Wide_L) false (fun ix jx=>(D_ranges_Row nvS (nvS.get d_ranges_Row d_Wide_L ix) jx)),.sl 3 (nvS.len d_Join_L) false (fun ix jx=>(D_ranges_Row nvS (nvS.get d_ranges_Row d_Join_L ix) jx)),.sl 2 (nvS.len d_Mirror) false (fun ix jx=>(D_ucd_Pair nvS (nvS.get d_ucd_Pair d_Mirror ix) jx)),.sl 2 (nvS.len d_Brackets) false (fun ix jx=>(D_ucd_Pair nvS (nvS.get d_ucd_Pair d_Brackets ix) jx)),.sl 3 (nvS.len d_Forms) false (fun ix jx=>(D_ucd_Form nvS (nvS.get d_ucd_Form d_Forms ix) jx))]),(12,.arr (u.g 12) 1 (nvS.len v) (u.t 12) (WI nvS v))] u)) (fun _ t=>Hid.ok t) (fun x u hu h=>?_) (fun f h=>?_)
 · revert h;revert hu;revert x;intro base hu h
   obtain ⟨uc,ug,ut⟩:=u;obtain ⟨huc,hug⟩:0 < uc∧∀ k,ug k < uc:=hu
   obtain ⟨v1,h4⟩ : ∃ v1,valO [] (weak_levels (T_ucd_Data.mk (T_ranges_Table.mk d_Class_L) (T_ranges_Table.mk d_Wide_L) (T_ranges_Table.mk d_Join_L) d_Mirror d_Brackets d_Forms) r' v base)=v1:=⟨_,rfl⟩
   refine Wc [(24,3)] [(26,.own 1 (nvS.len v1) false (WI nvS v1))] [] 0 [] fun N hN=>?_
   generalize hp:std Tryz.prog=p;generalize hv:nvS=nv;cbv;subst hp hv
   replace h:=bindO_val h4 h;clear h4;obtain ⟨h4,h⟩:=h
   refine ⟨rfl,rfl,(fun _ _ _ _ _=>trivial),(PureFn.arg (weak_levels_ok (T_ucd_Data.mk (T_ranges_Table.mk d_Class_L) (T_ranges_Table.mk d_Wide_L) (T_ranges_Table.mk d_Join_L) d_Mirror d_Brackets d_Forms) r' v base v1 h4) (And.intro (LeD.agg fun j hj=>by
    have hj2:j < 6:=hj
    rcases (show j=0∨j=1∨j=2∨j=3∨j=4∨j=5 by omega) with rfl | rfl | rfl | rfl | rfl | rfl
    · exact LeD.refl _
    · exact LeD.refl _
    · exact LeD.refl _
    · exact LeD.refl _
    · exact LeD.refl _
    exact LeD.refl _) (And.intro (LeD.refl _) (And.intro (LeD.slE Wy Wp) (And.intro (LeD.refl _) trivial))))),?_⟩
   subst hN;have hr:=Option.some.inj h
   subst hr
   try dsimp only [noGoto,inBlockQ,thenQ]
   repeat (first | refine Wt ?_ | refine We ?_)
   exact retQ_ret rfl trivial (And.intro (And.intro (rfl) (And.intro Wy (And.intro (fun h=>by cases h) (out0_all Wo Wp))))
    rfl)
 obtain ⟨v2,h6⟩ : ∃ v2,valO 0 (embed_Base v)=v2:=⟨_,rfl⟩
 refine Wc [(23,4)] [(21,.plain (WV v2))] [] 0 [] fun N hN=>?_
 generalize hp:std Tryz.prog=p;generalize hv:nvS=nv;cbv;subst hp hv
 refine ⟨(fun hg=>hg),(fun hg=>hg),?_⟩
 refine ⟨fun h5=>?_,fun h5=>?_⟩
 · replace h:=iteO_t h h5
   replace h:=bindO_val h6 h;clear h6;obtain ⟨h6,h⟩:=h
   refine ⟨rfl,(PureFn.arg (embed_Base_ok v v2 h6) (And.intro (LeD.slE Wy Wp) trivial)),?_⟩
   subst hN;cases h
   exact Exists.intro ⟨ctr+14,gfn [(3,ctr+0),(12,ctr+1)],tfn [(3,false),(12,false)]⟩ (And.intro Wh (Wg (Wk rfl (Wk rfl (Wk rfl (Wk rfl trivial)))) (Wi rfl (Wi rfl trivial))))
 replace h:=iteO_f h h5
 subst hN;cases h
 exact Exists.intro ⟨ctr+13,gfn [(3,ctr+0),(12,ctr+1)],tfn [(3,false),(12,false)]⟩ (And.intro Wh (Wg (Wk rfl (Wk rfl (Wk rfl (Wk rfl trivial)))) (Wi rfl (Wi rfl trivial))))
end Go.Vx
