/- Walks, by program (lift.py). -/
import Derived.Test.YtkjmcemgncalgaaGreatDoorWWalk
import Derived.Test.YtkjmcemgncalgaaGreatDoorWWalkT2
set_option linter.all false
namespace Go.Vx
open Go.Proofs
set_option maxRecDepth 100000
set_option linter.unusedVariables false
set_option linter.unusedSimpArgs false
theorem n0_ok (x':T_weak_line) (r:(List Int)) (h:n0 x'=some r) (x'_N:Int) (hx'_N:lenL x'.fl=x'_N) (tg0:Bool):LentFn Tryz.prog 72 [.agg 7 (fun j=>match j with | 0=>.vec 0 0 1 0 x'_N | 1=>WS nvS x'.fwas | 2=>WV x'.fsos | 3=>WV x'.feos | 4=>WV x'.fdir | 5=>WV x'.fagainst | 6=>.sl 2 (nvS.len x'.fpairs) false (fun ix jx=>(D_Arr2_i64 nvS (nvS.get d_Arr2_i64 x'.fpairs ix) jx)) | _=>.junk)] [.arr 0 1 x'_N tg0 (WI nvS x'.fl)] [.arr 0 1 x'_N tg0 (WI nvS r)] (.tup 0 (fun _=>.junk)):=by
 obtain rfl:nvS.len x'.fl=x'_N:=hx'_N
 obtain ⟨x_l,x_was,x_sos,x_eos,x_dir,x_against,x_pairs⟩:=x'
 unfold n0 at h
 try dsimp only at h
 refine lent_tr tt0_ok Tryz.func72 (by kernel_rfl) (c:=bodyOf Tryz.f72) (by kernel_rfl) rfl ?_
 intro ctr hc
 refine Wx [] [] [] 1 [] 2 fun N hN=>?_
 generalize hp:std Tryz.prog=p;generalize hv:nvS=nv;cbv;subst hp hv
 refine ⟨rfl,?_⟩
 subst hN;show Tr _ _ _ _
 refine Tr.block ?_
 refine Tr.loopO (α:=Int × List Int) (fun (v,o) u=>(WF 53 [(1,.bref 2 (u.g 2) 0),(9,.sl 2 (nvS.len x_pairs) false (fun ix jx=>(D_Arr2_i64 nvS (nvS.get d_Arr2_i64 x_pairs ix) jx))),(10,WV (nvS.len x_pairs)),(11,WV v)] 54 [(0,.arr (0) 1 (nvS.len x_l) (tg0) (WI nvS o)),(2,.box (u.g 2) [.vec 0 (0) 1 0 (nvS.len x_l),WS nvS x_was,WV x_sos,WV x_eos,WV x_dir,WV x_against,.sl 2 (nvS.len x_pairs) false (fun ix jx=>(D_Arr2_i64 nvS (nvS.get d_Arr2_i64 x_pairs ix) jx))])] u)) (fun (v,o) t=>Hid.ok t∧lenL o=(lenL x_l)) ⟨ctr+11,gfn [(2,ctr+0)],tfn [(2,false)]⟩ h ?_ ?_ (fun x u f hu h=>?_)
 · exact (And.intro Wh Wf)
 · exact (Wg (Wk rfl (Wk rfl (Wk rfl (Wk rfl trivial)))) (Wi rfl (Wi rfl trivial)))
 obtain ⟨v,o⟩:=x
 try dsimp only at h
 obtain ⟨hu,ht'_f0⟩:=hu
 obtain ⟨uc,ug,ut⟩:=u;obtain ⟨huc,hug⟩:0 < uc∧∀ k,ug k < uc:=hu
 refine Wx [] [] [] 1 [] 2 fun N hN=>?_
 generalize hp:std Tryz.prog=p;generalize hv:nvS=nv;cbv;subst hp hv
 refine ⟨fun h61=>?_,fun h61=>?_⟩
 · replace h:=iteO_t h h61
   subst hN;show Tr _ _ _ _
   refine Tr.cutSeq (α:=List Int) h (fun o1 u1=>(WF 53 [(1,.bref 2 (u1.g 2) 0),(9,.sl 2 (nvS.len x_pairs) false (fun ix jx=>(D_Arr2_i64 nvS (nvS.get d_Arr2_i64 x_pairs ix) jx))),(10,WV (nvS.len x_pairs)),(11,WV v)] 54 [(0,.arr (0) 1 (nvS.len x_l) (tg0) (WI nvS o1)),(2,.box (u1.g 2) [.vec 0 (0) 1 0 (nvS.len x_l),WS nvS x_was,WV x_sos,WV x_eos,WV x_dir,WV x_against,.sl 2 (nvS.len x_pairs) false (fun ix jx=>(D_Arr2_i64 nvS (nvS.get d_Arr2_i64 x_pairs ix) jx))])] u1)) (fun o1 t=>Hid.ok t∧lenL o1=(lenL x_l)) (fun x u1 hu1 h=>?_) (fun f h=>?_)
   · revert h;revert hu1;revert x;intro o1 hu1 h
     obtain ⟨hu1,ht'1_f0⟩:=hu1
     obtain ⟨u1c,u1g,u1t⟩:=u1;obtain ⟨hu1c,hu1g⟩:0 < u1c∧∀ k,u1g k < u1c:=hu1
     refine Wc [] [] [] 1 [] fun N hN=>?_
     generalize hp:std Tryz.prog=p;generalize hv:nvS=nv;cbv;subst hp hv
     replace h:=chk_some h;obtain ⟨h90,h⟩:=h
     refine ⟨h90,?_⟩
     subst hN;cases h
     exact Exists.intro ⟨u1c+10,gfn [(2,u1g 2)],tfn [(2,false)]⟩ (And.intro ((And.intro Wh Wf)) (Wg (Wk rfl (Wk rfl (Wk rfl (Wk rfl trivial)))) (Wi rfl (Wi rfl trivial))))
   refine Tr.block ?_
   obtain ⟨v1,h92⟩ : ∃ v1,valO 0 (weak_line__direction (T_weak_line.mk o x_was x_sos x_eos x_dir x_against x_pairs) (getL d_Arr2_i64 x_pairs v))=v1:=⟨_,rfl⟩
   refine Wx [(94,4)] [(18,.plain (WV v1))] [] 1 [] 4 fun N hN=>?_
   generalize hp:std Tryz.prog=p;generalize hv:nvS=nv;cbv;subst hp hv
   replace h:=chk_some h;obtain ⟨h91,h⟩:=h
   try (have h91z:=h91;simp only [Int.zero_add] at h91z)
   refine ⟨h91,rfl,?_⟩
   replace h:=bindO_val h92 h;clear h92;obtain ⟨h92,h⟩:=h
   refine ⟨rfl,rfl,rfl,(PureFn.arg (weak_line__direction_ok (T_weak_line.mk o x_was x_sos x_eos x_dir x_against x_pairs) (getL d_Arr2_i64 x_pairs v) v1 h92) (And.intro (LeD.agg fun j hj=>by
    have hj2:j < 7:=hj
    rcases (show j=0∨j=1∨j=2∨j=3∨j=4∨j=5∨j=6 by omega) with rfl | rfl | rfl | rfl | rfl | rfl | rfl
    · exact LeD.slE Wy Wp
    · exact LeD.refl _
    · exact LeD.refl _
    · exact LeD.refl _
    · exact LeD.refl _
    · exact LeD.refl _
    · exact LeD.refl _) (And.intro (LeD.agg fun j hj=>by
    have hj2:j < 2:=hj
    rcases (show j=0∨j=1 by omega) with rfl | rfl
    · exact LeD.refl _
    exact LeD.refl _) trivial))),?_⟩
   refine ⟨fun h93=>?_,fun h93=>?_⟩
   · replace h:=iteO_t h h93
     subst hN;cases h
     exact Exists.intro ⟨uc+13,gfn [(2,ug 2)],tfn [(2,false)]⟩ (And.intro ((And.intro Wh Wf)) (Wg (Wk rfl (Wk rfl (Wk rfl (Wk rfl trivial)))) (Wi rfl (Wi rfl trivial))))
   replace h:=iteO_f h h93
   refine ⟨rfl,?_⟩
   subst hN;show Tr _ _ _ _
   refine Tr.block ?_
   refine Tr.rounds 3 ?_
   refine TrN.cut (α:=List Int) h (fun o2 u2=>(WF 53 [(1,.bref 2 (u2.g 2) 0),(4,WV v1),(9,.sl 2 (nvS.len x_pairs) false (fun ix jx=>(D_Arr2_i64 nvS (nvS.get d_Arr2_i64 x_pairs ix) jx))),(10,WV (nvS.len x_pairs)),(11,WV v),(20,(.agg 2 (fun j=>(D_Arr2_i64 nvS (nvS.get d_Arr2_i64 x_pairs v) j)))),(21,WV 1)] 54 [(0,.arr (0) 1 (nvS.len x_l) (tg0) (WI nvS o2)),(2,.box (u2.g 2) [.vec 0 (0) 1 0 (nvS.len x_l),WS nvS x_was,WV x_sos,WV x_eos,WV x_dir,WV x_against,.sl 2 (nvS.len x_pairs) false (fun ix jx=>(D_Arr2_i64 nvS (nvS.get d_Arr2_i64 x_pairs ix) jx))])] u2)) (fun o2 t=>Hid.ok t∧lenL o2=(lenL x_l)) (fun x u2 hu2 h=>?_) (fun f h=>?_)
   · revert h;revert hu2;revert x;intro o2 hu2 h
     obtain ⟨hu2,ht'2_f0⟩:=hu2
     obtain ⟨u2c,u2g,u2t⟩:=u2;obtain ⟨hu2c,hu2g⟩:0 < u2c∧∀ k,u2g k < u2c:=hu2
     refine TrN.cut (α:=List Int) h (fun o3 u3=>(WF 53 [(1,.bref 2 (u3.g 2) 0),(4,WV v1),(9,.sl 2 (nvS.len x_pairs) false (fun ix jx=>(D_Arr2_i64 nvS (nvS.get d_Arr2_i64 x_pairs ix) jx))),(10,WV (nvS.len x_pairs)),(11,WV v),(20,(.agg 2 (fun j=>(D_Arr2_i64 nvS (nvS.get d_Arr2_i64 x_pairs v) j)))),(21,WV 2)] 54 [(0,.arr (0) 1 (nvS.len x_l) (tg0) (WI nvS o3)),(2,.box (u3.g 2) [.vec 0 (0) 1 0 (nvS.len x_l),WS nvS x_was,WV x_sos,WV x_eos,WV x_dir,WV x_against,.sl 2 (nvS.len x_pairs) false (fun ix jx=>(D_Arr2_i64 nvS (nvS.get d_Arr2_i64 x_pairs ix) jx))])] u3)) (fun o3 t=>Hid.ok t∧lenL o3=(lenL x_l)) (fun x u3 hu3 h=>?_) (fun f h=>?_)
     · revert h;revert hu3;revert x;intro o3 hu3 h
       obtain ⟨hu3,ht'3_f0⟩:=hu3
       obtain ⟨u3c,u3g,u3t⟩:=u3;obtain ⟨hu3c,hu3g⟩:0 < u3c∧∀ k,u3g k < u3c:=hu3
       show Tr _ _ _ _
       refine Wx [] [] [] 1 [] 2 fun N hN=>?_
       generalize hp:std Tryz.prog=p;generalize hv:nvS=nv;cbv;subst hp hv
       refine ⟨fun h118=>?_,fun h118=>?_⟩
       · first | cases h118 | exact Bool.noConfusion (h118:false=true)
       subst hN
       cases h
       exact Exists.intro ⟨u3c+10,gfn [(2,u3g 2)],tfn [(2,false)]⟩ (And.intro ((And.intro Wh Wf)) (Wg (Wk rfl (Wk rfl (Wk rfl (Wk rfl trivial)))) (Wi rfl (Wi rfl trivial))))
     refine Wx [] [] [] 1 [] 2 fun N hN=>?_
     generalize hp:std Tryz.prog=p;generalize hv:nvS=nv;cbv;subst hp hv
     refine ⟨fun h119=>?_,fun h119=>?_⟩
     · subst hN
       show Tr _ _ _ _
       refine Tr.cutSeq (α:=List Int) h (fun o4 u4=>(WF 53 [(1,.bref 2 (u4.g 2) 0),(4,WV v1),(9,.sl 2 (nvS.len x_pairs) false (fun ix jx=>(D_Arr2_i64 nvS (nvS.get d_Arr2_i64 x_pairs ix) jx))),(10,WV (nvS.len x_pairs)),(11,WV v),(20,(.agg 2 (fun j=>(D_Arr2_i64 nvS (nvS.get d_Arr2_i64 x_pairs v) j)))),(21,WV 1)] 54 [(0,.arr (0) 1 (nvS.len x_l) (tg0) (WI nvS o4)),(2,.box (u4.g 2) [.vec 0 (0) 1 0 (nvS.len x_l),WS nvS x_was,WV x_sos,WV x_eos,WV x_dir,WV x_against,.sl 2 (nvS.len x_pairs) false (fun ix jx=>(D_Arr2_i64 nvS (nvS.get d_Arr2_i64 x_pairs ix) jx))])] u4)) (fun o4 t=>Hid.ok t∧lenL o4=(lenL x_l)) (fun x u4 hu4 h=>?_) (fun f h=>?_)
       · revert h;revert hu4;revert x;intro o4 hu4 h
         obtain ⟨hu4,ht'4_f0⟩:=hu4
         obtain ⟨u4c,u4g,u4t⟩:=u4;obtain ⟨hu4c,hu4g⟩:0 < u4c∧∀ k,u4g k < u4c:=hu4
         refine Wc [] [] [] 1 [] fun N hN=>?_
         generalize hp:std Tryz.prog=p;generalize hv:nvS=nv;cbv;subst hp hv
         replace h:=chk_some h;obtain ⟨h130,h⟩:=h
         refine ⟨h130,?_⟩
         subst hN;cases h
         exact Exists.intro ⟨u4c+10,gfn [(2,u4g 2)],tfn [(2,false)]⟩ (And.intro ((And.intro Wh Wf)) (Wg (Wk rfl (Wk rfl (Wk rfl (Wk rfl (Wk rfl (Wq rfl ((by first | exact LeD.refl _ | exact LeD.agg (fun j hj=>by (have hj2:j < 2:=hj);(rcases (show j=0∨j=1 by omega) with rfl | rfl)<;>exact LeD.refl _))) (Wk rfl trivial))))))) (Wi rfl (Wi rfl trivial))))
       refine Tr.block ?_
       refine Wx [] [] [] 1 [] 3 fun N hN=>?_
       generalize hp:std Tryz.prog=p;generalize hv:nvS=nv;cbv;subst hp hv
       replace h:=chk_some h;obtain ⟨h131,h⟩:=h
       try (have h131z:=h131;simp only [Int.zero_add] at h131z)
       refine ⟨rfl,h131,rfl,?_⟩
       replace h:=chk_some h;obtain ⟨h132,h⟩:=h
       refine ⟨h132,?_⟩
       subst hN;show Tr _ _ _ _
       refine Tr.block ?_
       refine Tr.loopO (α:=Int × List Int) (fun (j1,o5) u5=>(WF 53 [(1,.bref 2 (u5.g 2) 0),(4,WV v1),(7,WV j1),(9,.sl 2 (nvS.len x_pairs) false (fun ix jx=>(D_Arr2_i64 nvS (nvS.get d_Arr2_i64 x_pairs ix) jx))),(10,WV (nvS.len x_pairs)),(11,WV v),(20,(.agg 2 (fun j=>(D_Arr2_i64 nvS (nvS.get d_Arr2_i64 x_pairs v) j)))),(21,WV 1)] 54 [(0,.arr (0) 1 (nvS.len x_l) (tg0) (WI nvS o5)),(2,.box (u5.g 2) [.vec 0 (0) 1 0 (nvS.len x_l),WS nvS x_was,WV x_sos,WV x_eos,WV x_dir,WV x_against,.sl 2 (nvS.len x_pairs) false (fun ix jx=>(D_Arr2_i64 nvS (nvS.get d_Arr2_i64 x_pairs ix) jx))])] u5)) (fun (j1,o5) t=>Hid.ok t∧lenL o5=(lenL x_l)) ⟨u2c+13,gfn [(2,u2g 2)],tfn [(2,false)]⟩ h ?_ ?_ (fun x u5 f hu5 h=>?_)
       · exact (And.intro Wh Wf)
       · exact (Wg (Wk rfl (Wk rfl (Wk rfl (Wk rfl (Wk rfl (Wk rfl (Wq rfl ((by first | exact LeD.refl _ | exact LeD.agg (fun j hj=>by (have hj2:j < 2:=hj);(rcases (show j=0∨j=1 by omega) with rfl | rfl)<;>exact LeD.refl _))) (Wk rfl trivial)))))))) (Wa rfl (Wi rfl trivial)))
       obtain ⟨j1,o5⟩:=x
       try dsimp only at h
       obtain ⟨hu5,ht'5_f0⟩:=hu5
       obtain ⟨u5c,u5g,u5t⟩:=u5;obtain ⟨hu5c,hu5g⟩:0 < u5c∧∀ k,u5g k < u5c:=hu5
       refine Wc [] [] [] 1 [] fun N hN=>?_
       generalize hp:std Tryz.prog=p;generalize hv:nvS=nv;cbv;subst hp hv
       replace h:=chk_some h;obtain ⟨h141,h⟩:=h
       refine ⟨rfl,(fun hg=>hg),(fun _=>rfl),(fun hg=>hg),(fun hg=>hg),h141,(fun hg=>hg),(fun hg=>hg),(fun hg=>hg),?_⟩
       refine ⟨fun h142=>?_,fun h142=>?_⟩
       · replace h:=iteO_t h h142
         replace h:=chk_some h;obtain ⟨h143,h⟩:=h
         try (have h143z:=h143;simp only [Int.zero_add] at h143z)
         refine ⟨rfl,h143,rfl,?_⟩
         replace h:=chk_some h;obtain ⟨h144,h⟩:=h
         refine ⟨h144,?_⟩
         subst hN;cases h
         exact Exists.intro ⟨u5c+12,gfn [(2,u5g 2)],tfn [(2,false)]⟩ (And.intro ((And.intro Wh Wf)) (Wg (Wk rfl (Wk rfl (Wk rfl (Wk rfl (Wk rfl (Wk rfl (Wq rfl ((by first | exact LeD.refl _ | exact LeD.agg (fun j hj=>by (have hj2:j < 2:=hj);(rcases (show j=0∨j=1 by omega) with rfl | rfl)<;>exact LeD.refl _))) (Wk rfl trivial)))))))) (Wa rfl (Wi rfl trivial))))
       replace h:=iteO_f h h142
       subst hN;cases h
       intro he;cases he
       exact Exists.intro ⟨u5c+10,gfn [(2,u5g 2)],tfn [(2,false)]⟩ (And.intro ((And.intro Wh Wf)) (Wg (Wk rfl (Wk rfl (Wk rfl (Wk rfl (Wk rfl (Wq rfl ((by first | exact LeD.refl _ | exact LeD.agg (fun j hj=>by (have hj2:j < 2:=hj);(rcases (show j=0∨j=1 by omega) with rfl | rfl)<;>exact LeD.refl _))) (Wk rfl trivial))))))) (Wi rfl (Wi rfl trivial))))
     first | cases h119 | exact Bool.noConfusion (h119:true=false)
   refine Wx [] [] [] 1 [] 2 fun N hN=>?_
   generalize hp:std Tryz.prog=p;generalize hv:nvS=nv;cbv;subst hp hv
   refine ⟨fun h145=>?_,fun h145=>?_⟩
   · subst hN
     show Tr _ _ _ _
     refine Tr.cutSeq (α:=List Int) h (fun o6 u6=>(WF 53 [(1,.bref 2 (u6.g 2) 0),(4,WV v1),(9,.sl 2 (nvS.len x_pairs) false (fun ix jx=>(D_Arr2_i64 nvS (nvS.get d_Arr2_i64 x_pairs ix) jx))),(10,WV (nvS.len x_pairs)),(11,WV v),(20,(.agg 2 (fun j=>(D_Arr2_i64 nvS (nvS.get d_Arr2_i64 x_pairs v) j)))),(21,WV 0)] 54 [(0,.arr (0) 1 (nvS.len x_l) (tg0) (WI nvS o6)),(2,.box (u6.g 2) [.vec 0 (0) 1 0 (nvS.len x_l),WS nvS x_was,WV x_sos,WV x_eos,WV x_dir,WV x_against,.sl 2 (nvS.len x_pairs) false (fun ix jx=>(D_Arr2_i64 nvS (nvS.get d_Arr2_i64 x_pairs ix) jx))])] u6)) (fun o6 t=>Hid.ok t∧lenL o6=(lenL x_l)) (fun x u6 hu6 h=>?_) (fun f h=>?_)
     · revert h;revert hu6;revert x;intro o6 hu6 h
       obtain ⟨hu6,ht'6_f0⟩:=hu6
       obtain ⟨u6c,u6g,u6t⟩:=u6;obtain ⟨hu6c,hu6g⟩:0 < u6c∧∀ k,u6g k < u6c:=hu6
       refine Wc [] [] [] 1 [] fun N hN=>?_
       generalize hp:std Tryz.prog=p;generalize hv:nvS=nv;cbv;subst hp hv
       replace h:=chk_some h;obtain ⟨h156,h⟩:=h
       refine ⟨h156,?_⟩
       subst hN;cases h
       exact Exists.intro ⟨u6c+10,gfn [(2,u6g 2)],tfn [(2,false)]⟩ (And.intro ((And.intro Wh Wf)) (Wg (Wk rfl (Wk rfl (Wk rfl (Wk rfl (Wk rfl (Wq rfl ((by first | exact LeD.refl _ | exact LeD.agg (fun j hj=>by (have hj2:j < 2:=hj);(rcases (show j=0∨j=1 by omega) with rfl | rfl)<;>exact LeD.refl _))) (Wk rfl trivial))))))) (Wi rfl (Wi rfl trivial))))
     refine Tr.block ?_
     refine Wx [] [] [] 1 [] 3 fun N hN=>?_
     generalize hp:std Tryz.prog=p;generalize hv:nvS=nv;cbv;subst hp hv
     replace h:=chk_some h;obtain ⟨h157,h⟩:=h
     try (have h157z:=h157;simp only [Int.zero_add] at h157z)
     refine ⟨rfl,h157,rfl,?_⟩
     replace h:=chk_some h;obtain ⟨h158,h⟩:=h
     refine ⟨h158,?_⟩
     subst hN;show Tr _ _ _ _
     refine Tr.block ?_
     refine Tr.loopO (α:=Int × List Int) (fun (j4,o7) u7=>(WF 53 [(1,.bref 2 (u7.g 2) 0),(4,WV v1),(7,WV j4),(9,.sl 2 (nvS.len x_pairs) false (fun ix jx=>(D_Arr2_i64 nvS (nvS.get d_Arr2_i64 x_pairs ix) jx))),(10,WV (nvS.len x_pairs)),(11,WV v),(20,(.agg 2 (fun j=>(D_Arr2_i64 nvS (nvS.get d_Arr2_i64 x_pairs v) j)))),(21,WV 0)] 54 [(0,.arr (0) 1 (nvS.len x_l) (tg0) (WI nvS o7)),(2,.box (u7.g 2) [.vec 0 (0) 1 0 (nvS.len x_l),WS nvS x_was,WV x_sos,WV x_eos,WV x_dir,WV x_against,.sl 2 (nvS.len x_pairs) false (fun ix jx=>(D_Arr2_i64 nvS (nvS.get d_Arr2_i64 x_pairs ix) jx))])] u7)) (fun (j4,o7) t=>Hid.ok t∧lenL o7=(lenL x_l)) ⟨uc+18,gfn [(2,ug 2)],tfn [(2,false)]⟩ h ?_ ?_ (fun x u7 f hu7 h=>?_)
     · exact (And.intro Wh Wf)
     · exact (Wg (Wk rfl (Wk rfl (Wk rfl (Wk rfl (Wk rfl (Wk rfl (Wq rfl (LeD.agg fun j hj=>by
        have hj2:j < 2:=hj
        rcases (show j=0∨j=1 by omega) with rfl | rfl
        · exact LeD.refl _
        exact LeD.refl _) (Wk rfl trivial)))))))) (Wa rfl (Wi rfl trivial)))
     obtain ⟨j4,o7⟩:=x
     try dsimp only at h
     obtain ⟨hu7,ht'7_f0⟩:=hu7
     obtain ⟨u7c,u7g,u7t⟩:=u7;obtain ⟨hu7c,hu7g⟩:0 < u7c∧∀ k,u7g k < u7c:=hu7
     refine Wc [] [] [] 1 [] fun N hN=>?_
     generalize hp:std Tryz.prog=p;generalize hv:nvS=nv;cbv;subst hp hv
     replace h:=chk_some h;obtain ⟨h167,h⟩:=h
     refine ⟨rfl,(fun hg=>hg),(fun _=>rfl),(fun hg=>hg),(fun hg=>hg),h167,(fun hg=>hg),(fun hg=>hg),(fun hg=>hg),?_⟩
     refine ⟨fun h168=>?_,fun h168=>?_⟩
     · replace h:=iteO_t h h168
       replace h:=chk_some h;obtain ⟨h169,h⟩:=h
       try (have h169z:=h169;simp only [Int.zero_add] at h169z)
       refine ⟨rfl,h169,rfl,?_⟩
       replace h:=chk_some h;obtain ⟨h170,h⟩:=h
       refine ⟨h170,?_⟩
       subst hN;cases h
       exact Exists.intro ⟨u7c+12,gfn [(2,u7g 2)],tfn [(2,false)]⟩ (And.intro ((And.intro Wh Wf)) (Wg (Wk rfl (Wk rfl (Wk rfl (Wk rfl (Wk rfl (Wk rfl (Wq rfl ((by first | exact LeD.refl _ | exact LeD.agg (fun j hj=>by (have hj2:j < 2:=hj);(rcases (show j=0∨j=1 by omega) with rfl | rfl)<;>exact LeD.refl _))) (Wk rfl trivial)))))))) (Wa rfl (Wi rfl trivial))))
     replace h:=iteO_f h h168
     subst hN;cases h
     intro he;cases he
     exact Exists.intro ⟨u7c+10,gfn [(2,u7g 2)],tfn [(2,false)]⟩ (And.intro ((And.intro Wh Wf)) (Wg (Wk rfl (Wk rfl (Wk rfl (Wk rfl (Wk rfl (Wq rfl ((by first | exact LeD.refl _ | exact LeD.agg (fun j hj=>by (have hj2:j < 2:=hj);(rcases (show j=0∨j=1 by omega) with rfl | rfl)<;>exact LeD.refl _))) (Wk rfl trivial))))))) (Wi rfl (Wi rfl trivial))))
   first | cases h145 | exact Bool.noConfusion (h145:true=false)
 replace h:=iteO_f h h61
 subst hN;cases h
 intro hr
 subst hr
 try dsimp only [noGoto,inBlockQ,thenQ]
 repeat (first | refine Wt ?_ | refine We ?_)
 refine lentQ_normal rfl ?_ ?_ [.top] ?_
 · exact trivial
 · exact trivial
 exact (And.intro (rfl) (And.intro (rfl) (And.intro (And.intro (rfl) (And.intro (rfl) (And.intro Wy (And.intro (rfl) (out0_all Wo Wp))))) trivial)))
end Go.Vx
