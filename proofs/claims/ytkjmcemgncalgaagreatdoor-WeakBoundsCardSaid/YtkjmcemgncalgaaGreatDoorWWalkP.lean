/- Walks, by program (lift.py). -/
import Derived.Test.YtkjmcemgncalgaaGreatDoorWWalk
import Derived.Test.YtkjmcemgncalgaaGreatDoorWWalkU
import Derived.Test.YtkjmcemgncalgaaGreatDoorWWalkSort
set_option linter.all false
namespace Go.Vx
open Go.Proofs
set_option maxRecDepth 100000
set_option linter.unusedVariables false
set_option linter.unusedSimpArgs false
theorem weak_Pairs_ok (d':T_ucd_Data) (r':(List Int)) (l':(List Int)) (r:(List T_Arr2_i64)) (h:weak_Pairs d' r' l'=some r):PureFn Tryz.prog 11 [(.agg 6 (fun j=>(D_ucd_Data nvS d' j))),(WS nvS r'),(WS nvS l')] (.own 2 (nvS.len r) false (fun ix jx=>(D_Arr2_i64 nvS (nvS.get d_Arr2_i64 r ix) jx))):=by
 obtain ⟨⟨d_Class_L⟩,⟨d_Wide_L⟩,⟨d_Join_L⟩,d_Mirror,d_Brackets,d_Forms⟩:=d'
 unfold weak_Pairs at h
 try dsimp only at h
 refine fn_tr tt0_ok Tryz.func11 (by kernel_rfl) (c:=bodyOf Tryz.f11) (by kernel_rfl) ?_
 intro ctr hc
 refine Wx [] [] [] 0 [] 4 fun N hN=>?_
 generalize hp:std Tryz.prog=p;generalize hv:nvS=nv;cbv;subst hp hv
 refine ⟨fun h1=>?_,fun h1=>?_⟩
 · replace h:=iteO_t h h1
   subst hN;have hr:=Option.some.inj h
   subst hr
   try dsimp only [noGoto,inBlockQ,thenQ]
   repeat (first | refine Wt ?_ | refine We ?_)
   exact retQ_ret rfl trivial rfl
 replace h:=iteO_f h h1
 subst hN;show Tr _ _ _ _
 refine Tr.cutSeq (α:=List T_Arr2_i64) h (fun out u=>(WF 81 [(8,.vec 73 (u.g 73) 2 0 (nvS.len out))] 81 [(73,.arr (u.g 73) 2 (nvS.len out) (u.t 73) (fun ix jx=>(D_Arr2_i64 nvS (nvS.get d_Arr2_i64 out ix) jx)))] u)) (fun _ t=>Hid.ok t) (fun x u hu h=>?_) (fun f h=>?_)
 · revert h;revert hu;revert x;intro out hu h
   obtain ⟨uc,ug,ut⟩:=u;obtain ⟨huc,hug⟩:0 < uc∧∀ k,ug k < uc:=hu
   obtain ⟨v,h78⟩ : ∃ v,valO [] (sortPairs out 0 (lenL out))=v:=⟨_,rfl⟩
   refine Wc [(26,2)] [(79,.lent [.arr 0 2 ((nvS.len out)) (ut 73) (fun ix jx=>(D_Arr2_i64 nvS (nvS.get d_Arr2_i64 v ix) jx))] (.tup 0 (fun _=>.junk)))] [] 0 [] fun N hN=>?_
   generalize hp:std Tryz.prog=p;generalize hv:nvS=nv;cbv;subst hp hv
   replace h:=bindO_val h78 h;clear h78;obtain ⟨h78,h⟩:=h
   replace h:=chk_some h;obtain ⟨h79,h⟩:=h
   refine ⟨rfl,(fun _ _ _ _ hj=>absurd hj (Nat.not_lt_zero _)),(fun i _ _ j _=>clo_Arr2_i64 _ j),rfl,rfl,(fun i _ _ j _=>clo_Arr2_i64 _ j),(LentFn.arg (sortPairs_ok out 0 (lenL out) v h78 (lenL out) (by first | rfl | omega) _) (And.intro (LeD.refl _) (And.intro (LeD.refl _) trivial))),?_⟩
   subst hN;have hr:=Option.some.inj h
   subst hr
   try dsimp only [noGoto,inBlockQ,thenQ]
   repeat (first | refine Wt ?_ | refine We ?_)
   exact retQ_ret rfl trivial (And.intro (rfl) (And.intro Wy (And.intro (fun h=>by cases h) (out0_all Wo Wp))))
 refine Wx [] [] [] 0 [] 1 fun N hN=>?_
 generalize hp:std Tryz.prog=p;generalize hv:nvS=nv;cbv;subst hp hv
 subst hN;show Tr _ _ _ _
 refine Tr.block ?_
 refine Tr.loopO (α:=Int × Int × Int × List Int × List T_Arr2_i64) (fun (open_off,open_n,v1,open',out1) u1=>(WF 81 [(1,WS nvS r'),(3,.bref 3 (u1.g 3) 0),(7,.vec 46 (u1.g 46) 1 open_off open_n),(8,.vec 73 (u1.g 73) 2 0 (nvS.len out1)),(19,WS nvS l'),(20,WV (nvS.len l')),(21,WV v1)] 81 [(3,.box (u1.g 3) [.sl 3 (nvS.len d_Class_L) false (fun ix jx=>(D_ranges_Row nvS (nvS.get d_ranges_Row d_Class_L ix) jx)),.sl 3 (nvS.len d_Wide_L) false (fun ix jx=>(D_ranges_Row nvS (nvS.get d_ranges_Row d_Wide_L ix) jx)),.sl 3 (nvS.len d_Join_L) false (fun ix jx=>(D_ranges_Row nvS (nvS.get d_ranges_Row d_Join_L ix) jx)),.sl 2 (nvS.len d_Mirror) false (fun ix jx=>(D_ucd_Pair nvS (nvS.get d_ucd_Pair d_Mirror ix) jx)),.sl 2 (nvS.len d_Brackets) false (fun ix jx=>(D_ucd_Pair nvS (nvS.get d_ucd_Pair d_Brackets ix) jx)),.sl 3 (nvS.len d_Forms) false (fun ix jx=>(D_ucd_Form nvS (nvS.get d_ucd_Form d_Forms ix) jx))]),(46,.arr (u1.g 46) 1 (nvS.len open') (u1.t 46) (WI nvS open')),(73,.arr (u1.g 73) 2 (nvS.len out1) (u1.t 73) (fun ix jx=>(D_Arr2_i64 nvS (nvS.get d_Arr2_i64 out1 ix) jx)))] u1)) (fun _ t=>Hid.ok t) ⟨ctr+16,gfn [(3,ctr+0),(46,ctr+5),(73,ctr+6)],tfn [(3,false),(46,false),(73,false)]⟩ h ?_ ?_ (fun x u1 f hu1 h=>?_)
 · exact Wh
 · refine GeSt.by [.thaw (.slot 7) 46 1,.thaw (.slot 8) 73 2] rfl ?_ ?_
   · exact trivial
   exact LeSt.frame (show ctr+7 < ctr+16 by omega) rfl rfl (Wk rfl (Wk rfl (Wk rfl (Wk rfl (Wk rfl (Wk rfl (Wk rfl trivial))))))) (Wi rfl (Wj rfl (LeOb.arr' rfl (fun i i0 i1 j hj=>by exfalso;revert i1;show i < (0:Int)→False;omega)) (Wj rfl (LeOb.arr' rfl (fun i i0 i1 j hj=>by exfalso;revert i1;show i < (0:Int)→False;omega)) trivial)))
 obtain ⟨open_off,open_n,v1,open',out1⟩:=x
 try dsimp only at h
 obtain ⟨u1c,u1g,u1t⟩:=u1;obtain ⟨hu1c,hu1g⟩:0 < u1c∧∀ k,u1g k < u1c:=hu1
 refine Wx [] [] [] 0 [] 2 fun N hN=>?_
 generalize hp:std Tryz.prog=p;generalize hv:nvS=nv;cbv;subst hp hv
 refine ⟨fun h156=>?_,fun h156=>?_⟩
 · replace h:=iteO_t h h156
   subst hN;show Tr _ _ _ _
   refine Tr.cutSeq (α:=Int × Int × List Int × List T_Arr2_i64) h (fun (open_off1,open_n1,open'1,out2) u2=>(WF 81 [(1,WS nvS r'),(3,.bref 3 (u2.g 3) 0),(7,.vec 46 (u2.g 46) 1 open_off1 open_n1),(8,.vec 73 (u2.g 73) 2 0 (nvS.len out2)),(19,WS nvS l'),(20,WV (nvS.len l')),(21,WV v1)] 81 [(3,.box (u2.g 3) [.sl 3 (nvS.len d_Class_L) false (fun ix jx=>(D_ranges_Row nvS (nvS.get d_ranges_Row d_Class_L ix) jx)),.sl 3 (nvS.len d_Wide_L) false (fun ix jx=>(D_ranges_Row nvS (nvS.get d_ranges_Row d_Wide_L ix) jx)),.sl 3 (nvS.len d_Join_L) false (fun ix jx=>(D_ranges_Row nvS (nvS.get d_ranges_Row d_Join_L ix) jx)),.sl 2 (nvS.len d_Mirror) false (fun ix jx=>(D_ucd_Pair nvS (nvS.get d_ucd_Pair d_Mirror ix) jx)),.sl 2 (nvS.len d_Brackets) false (fun ix jx=>(D_ucd_Pair nvS (nvS.get d_ucd_Pair d_Brackets ix) jx)),.sl 3 (nvS.len d_Forms) false (fun ix jx=>(D_ucd_Form nvS (nvS.get d_ucd_Form d_Forms ix) jx))]),(46,.arr (u2.g 46) 1 (nvS.len open'1) (u2.t 46) (WI nvS open'1)),(73,.arr (u2.g 73) 2 (nvS.len out2) (u2.t 73) (fun ix jx=>(D_Arr2_i64 nvS (nvS.get d_Arr2_i64 out2 ix) jx)))] u2)) (fun _ t=>Hid.ok t) (fun x u2 hu2 h=>?_) (fun f h=>?_)
   · obtain ⟨open_off1,open_n1,open'1,out2⟩:=x
     try dsimp only at h
     obtain ⟨u2c,u2g,u2t⟩:=u2;obtain ⟨hu2c,hu2g⟩:0 < u2c∧∀ k,u2g k < u2c:=hu2
     refine Wc [] [] [] 0 [] fun N hN=>?_
     generalize hp:std Tryz.prog=p;generalize hv:nvS=nv;cbv;subst hp hv
     replace h:=chk_some h;obtain ⟨h183,h⟩:=h
     refine ⟨h183,?_⟩
     subst hN;cases h
     exact Exists.intro ⟨u2c+10,gfn [(3,u2g 3),(46,u2g 46),(73,u2g 73)],tfn [(3,false),(46,u2t 46),(73,u2t 73)]⟩ (And.intro Wh (Wg (Wk rfl (Wk rfl (Wq rfl (LeD.vec Wy Wy) (Wq rfl (LeD.vec rfl Wy) (Wk rfl (Wk rfl (Wk rfl trivial))))))) (Wi rfl (Wa rfl (Wa rfl trivial)))))
   refine Tr.block ?_
   obtain ⟨v2,h187⟩ : ∃ v2,valO (0,0) (ucd_Bracket (T_ucd_Data.mk (T_ranges_Table.mk d_Class_L) (T_ranges_Table.mk d_Wide_L) (T_ranges_Table.mk d_Join_L) d_Mirror d_Brackets d_Forms) (getL 0 r' v1))=v2:=⟨_,rfl⟩
   obtain ⟨v2_0,v2_1⟩:=v2
   refine Wx [] [(34,.plain (.tup 2 (fun j=>match j with | 0=>(WV v2_0) | 1=>(WV v2_1) | _=>.junk)))] [] 0 [] 4 fun N hN=>?_
   generalize hp:std Tryz.prog=p;generalize hv:nvS=nv;cbv;subst hp hv
   replace h:=chk_some h;obtain ⟨h184,h⟩:=h
   try (have h184z:=h184;simp only [Int.zero_add] at h184z)
   refine ⟨h184,?_⟩
   refine ⟨fun h185=>?_,fun h185=>?_⟩
   · replace h:=iteO_t h h185
     subst hN;cases h
     exact Exists.intro ⟨u1c+12,gfn [(3,u1g 3),(46,u1g 46),(73,u1g 73)],tfn [(3,false),(46,u1t 46),(73,u1t 73)]⟩ (And.intro Wh (Wg (Wk rfl (Wk rfl (Wq rfl (LeD.vec Wy Wy) (Wq rfl (LeD.vec rfl Wy) (Wk rfl (Wk rfl (Wk rfl trivial))))))) (Wi rfl (Wa rfl (Wa rfl trivial)))))
   replace h:=iteO_f h h185
   replace h:=chk_some h;obtain ⟨h186,h⟩:=h
   try (have h186z:=h186;simp only [Int.zero_add] at h186z)
   replace h:=bindO_val h187 h;clear h187;obtain ⟨h187,h⟩:=h;try dsimp only at h
   refine ⟨rfl,h186,(Or.inl (PureFn.arg (ucd_Bracket_ok (T_ucd_Data.mk (T_ranges_Table.mk d_Class_L) (T_ranges_Table.mk d_Wide_L) (T_ranges_Table.mk d_Join_L) d_Mirror d_Brackets d_Forms) (getL 0 r' v1) (v2_0,v2_1) h187) (And.intro (LeD.agg fun j hj=>by
    have hj2:j < 6:=hj
    rcases (show j=0∨j=1∨j=2∨j=3∨j=4∨j=5 by omega) with rfl | rfl | rfl | rfl | rfl | rfl
    · exact LeD.refl _
    · exact LeD.refl _
    · exact LeD.refl _
    · exact LeD.refl _
    · exact LeD.refl _
    exact LeD.refl _) (And.intro (LeD.refl _) trivial)))),(show drOk _ _=true by kernel_rfl),?_⟩
   subst hN;show Tr _ _ _ _
   refine Tr.block ?_
   refine Wx [] [] [] 0 [] 1 fun N hN=>?_
   generalize hp:std Tryz.prog=p;generalize hv:nvS=nv;cbv;subst hp hv
   subst hN;show Tr _ _ _ _
   refine Tr.cond rfl (fun q hq=>by cases hq) (fun h188=>?_) (fun h188=>?_)
   · replace h:=iteO_t h h188
     refine Wc [] [] [45] 0 [] fun N hN=>?_
     generalize hp:std Tryz.prog=p;generalize hv:nvS=nv;cbv;subst hp hv
     refine ⟨fun h189=>?_,fun h189=>?_⟩
     · replace h:=iteO_t h h189
       subst hN;cases h
       intro he;cases he
       intro he;cases he
       intro hr
       subst hr
       try dsimp only [noGoto,inBlockQ,thenQ]
       repeat (first | refine Wt ?_ | refine We ?_)
       exact retQ_ret rfl trivial rfl
     replace h:=iteO_f h h189
     replace h:=chk_some h;obtain ⟨h190,h⟩:=h
     try (have h190z:=h190;simp only [Int.zero_add] at h190z)
     replace h:=chk_some h;obtain ⟨h191,h⟩:=h
     refine ⟨rfl,(by have:=hu1g 46;show (_:Nat) < _;(try dsimp only [std_eq,stdN]);omega),h191,?_⟩
     subst hN;cases h
     exact Exists.intro ⟨u1c+17,gfn [(3,u1g 3),(46,u1c+7),(73,u1g 73)],tfn [(3,false),(46,false),(73,u1t 73)]⟩ (And.intro Wh (Wg (Wk rfl (Wk rfl (Wq rfl (LeD.vec Wy Wy) (Wq rfl (LeD.vec rfl Wy) (Wk rfl (Wk rfl (Wk rfl trivial))))))) (Wi rfl (Wa rfl (Wa rfl trivial)))))
   replace h:=iteO_f h h188
   refine Wx [] [] [] 0 [] 1 fun N hN=>?_
   generalize hp:std Tryz.prog=p;generalize hv:nvS=nv;cbv;subst hp hv
   subst hN;show Tr _ _ _ _
   refine Tr.cond rfl (fun q hq=>by cases hq) (fun h192=>?_) (fun h192=>?_)
   · replace h:=iteO_t h h192
     refine Wx [] [] [] 0 [] 1 fun N hN=>?_
     generalize hp:std Tryz.prog=p;generalize hv:nvS=nv;cbv;subst hp hv
     replace h:=chk_some h;obtain ⟨h193,h⟩:=h
     refine ⟨h193,?_⟩
     subst hN;show Tr _ _ _ _
     refine Tr.block ?_
     refine Tr.loopO (α:=Int) (fun n1 u3=>(WF 81 [(1,WS nvS r'),(3,.bref 3 (u3.g 3) 0),(7,.vec 46 (u3.g 46) 1 open_off open_n),(8,.vec 73 (u3.g 73) 2 0 (nvS.len out1)),(9,WV v1),(11,WV v2_0),(13,WV n1),(19,WS nvS l'),(20,WV (nvS.len l')),(21,WV v1)] 81 [(3,.box (u3.g 3) [.sl 3 (nvS.len d_Class_L) false (fun ix jx=>(D_ranges_Row nvS (nvS.get d_ranges_Row d_Class_L ix) jx)),.sl 3 (nvS.len d_Wide_L) false (fun ix jx=>(D_ranges_Row nvS (nvS.get d_ranges_Row d_Wide_L ix) jx)),.sl 3 (nvS.len d_Join_L) false (fun ix jx=>(D_ranges_Row nvS (nvS.get d_ranges_Row d_Join_L ix) jx)),.sl 2 (nvS.len d_Mirror) false (fun ix jx=>(D_ucd_Pair nvS (nvS.get d_ucd_Pair d_Mirror ix) jx)),.sl 2 (nvS.len d_Brackets) false (fun ix jx=>(D_ucd_Pair nvS (nvS.get d_ucd_Pair d_Brackets ix) jx)),.sl 3 (nvS.len d_Forms) false (fun ix jx=>(D_ucd_Form nvS (nvS.get d_ucd_Form d_Forms ix) jx))]),(46,.arr (u3.g 46) 1 (nvS.len open') (u3.t 46) (WI nvS open')),(73,.arr (u3.g 73) 2 (nvS.len out1) (u3.t 73) (fun ix jx=>(D_Arr2_i64 nvS (nvS.get d_Arr2_i64 out1 ix) jx)))] u3)) (fun _ t=>Hid.ok t) ⟨u1c+17,gfn [(3,u1g 3),(46,u1g 46),(73,u1g 73)],tfn [(3,false),(46,u1t 46),(73,u1t 73)]⟩ h ?_ ?_ (fun x u3 f hu3 h=>?_)
     · exact Wh
     · exact (Wg (Wk rfl (Wk rfl (Wk rfl (Wk rfl (Wk rfl (Wk rfl (Wk rfl (Wk rfl (Wk rfl (Wk rfl trivial)))))))))) (Wi rfl (Wi rfl (Wi rfl trivial))))
     revert h;revert hu3;revert x;intro n1 hu3 h
     obtain ⟨u3c,u3g,u3t⟩:=u3;obtain ⟨hu3c,hu3g⟩:0 < u3c∧∀ k,u3g k < u3c:=hu3
     refine Wc [] [] [72] 0 [] fun N hN=>?_
     generalize hp:std Tryz.prog=p;generalize hv:nvS=nv;cbv;subst hp hv
     refine ⟨fun h210=>?_,fun h210=>?_⟩
     · replace h:=iteO_t h h210
       replace h:=chk_some h;obtain ⟨h211,h⟩:=h
       try (have h211z:=h211;simp only [Int.zero_add] at h211z)
       replace h:=chk_some h;obtain ⟨h212,h⟩:=h
       try (have h212z:=h212;simp only [Int.zero_add] at h212z)
       refine ⟨h211,rfl,h212,?_⟩
       refine ⟨fun h213=>?_,fun h213=>?_⟩
       · replace h:=iteO_t h h213
         replace h:=chk_some h;obtain ⟨h214,h⟩:=h
         try (have h214z:=h214;simp only [Int.zero_add] at h214z)
         replace h:=chk_some h;obtain ⟨h215,h⟩:=h
         refine ⟨h214,rfl,rfl,(by have:=hu3g 73;show (_:Nat) < _;(try dsimp only [std_eq,stdN]);omega),h215,?_⟩
         replace h:=chk_some h;obtain ⟨h216,h⟩:=h
         refine ⟨h216,?_⟩
         subst hN;cases h
         intro he;cases he
         exact Exists.intro ⟨u3c+13,gfn [(3,u3g 3),(46,u3g 46),(73,u3c+2)],tfn [(3,false),(46,u3t 46),(73,false)]⟩ (And.intro Wh (Wg (Wk rfl (Wk rfl (Wq rfl (LeD.vec Wy Wy) (Wq rfl (LeD.vec rfl Wy) (Wk rfl (Wk rfl (Wk rfl trivial))))))) (Wi rfl (Wa rfl (Wa rfl trivial)))))
       replace h:=iteO_f h h213
       replace h:=chk_some h;obtain ⟨h217,h⟩:=h
       refine ⟨h217,?_⟩
       subst hN;cases h
       exact Exists.intro ⟨u3c+12,gfn [(3,u3g 3),(46,u3g 46),(73,u3g 73)],tfn [(3,false),(46,u3t 46),(73,u3t 73)]⟩ (And.intro Wh (Wg (Wk rfl (Wk rfl (Wk rfl (Wk rfl (Wk rfl (Wk rfl (Wk rfl (Wk rfl (Wk rfl (Wk rfl trivial)))))))))) (Wi rfl (Wi rfl (Wi rfl trivial)))))
     replace h:=iteO_f h h210
     subst hN;cases h
     intro he;cases he
     exact Exists.intro ⟨u3c+10,gfn [(3,u3g 3),(46,u3g 46),(73,u3g 73)],tfn [(3,false),(46,u3t 46),(73,u3t 73)]⟩ (And.intro Wh (Wg (Wk rfl (Wk rfl (Wq rfl (LeD.vec Wy Wy) (Wq rfl (LeD.vec rfl Wy) (Wk rfl (Wk rfl (Wk rfl trivial))))))) (Wi rfl (Wa rfl (Wa rfl trivial)))))
   replace h:=iteO_f h h192
   refine Wc [] [] [] 0 [] fun N hN=>?_
   generalize hp:std Tryz.prog=p;generalize hv:nvS=nv;cbv;subst hp hv
   subst hN;cases h
   exact Exists.intro ⟨u1c+16,gfn [(3,u1g 3),(46,u1g 46),(73,u1g 73)],tfn [(3,false),(46,u1t 46),(73,u1t 73)]⟩ (And.intro Wh (Wg (Wk rfl (Wk rfl (Wq rfl (LeD.vec Wy Wy) (Wq rfl (LeD.vec rfl Wy) (Wk rfl (Wk rfl (Wk rfl trivial))))))) (Wi rfl (Wa rfl (Wa rfl trivial)))))
 replace h:=iteO_f h h156
 subst hN;cases h
 intro he;cases he
 exact Exists.intro ⟨u1c+10,gfn [(73,u1g 73)],tfn [(73,u1t 73)]⟩ (And.intro Wh (Wg (Wq rfl (LeD.vec rfl Wy) trivial) (Wa rfl trivial)))
end Go.Vx
