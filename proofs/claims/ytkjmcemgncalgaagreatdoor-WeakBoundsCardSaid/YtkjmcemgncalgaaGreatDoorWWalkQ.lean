/- Walks, by program (lift.py). -/
import Derived.Test.YtkjmcemgncalgaaGreatDoorWWalk
import Derived.Test.YtkjmcemgncalgaaGreatDoorWWalkA
set_option linter.all false
namespace Go.Vx
open Go.Proofs
set_option maxRecDepth 100000
set_option linter.unusedVariables false
set_option linter.unusedSimpArgs false
theorem embed_runs_ok (r':T_embed_Run) (r:(List (List Int))) (h:embed_runs r'=some r):PureFn Tryz.prog 69 [(.agg 3 (fun j=>(D_embed_Run nvS r' j)))] (.own 1 (nvS.len r) false (fun ix jx=>(.sl 1 (nvS.len (nvS.get [] r ix)) false (fun ix1 jx1=>(WV (nvS.get 0 (nvS.get [] r ix) ix1)))))):=by
 obtain ⟨r_Levels,r_Classes,r_Removed⟩:=r'
 unfold embed_runs at h
 try dsimp only at h
 refine fn_tr tt0_ok Tryz.func69 (by kernel_rfl) (c:=bodyOf Tryz.f69) (by kernel_rfl) ?_
 intro ctr hc
 refine Wx [] [] [] 0 [] 2 fun N hN=>?_
 generalize hp:std Tryz.prog=p;generalize hv:nvS=nv;cbv;subst hp hv
 subst hN;show Tr _ _ _ _
 refine Tr.cutSeq (α:=List (List Int)) h (fun out u=>(WF 58 [(3,.vec 43 (u.g 43) 1 0 (nvS.len out))] 58 [(0,.arr (u.g 0) 1 (nvS.len (nvS.get [] out ((std Tryz.prog).sub (nvS.len out) 1))) (u.t 0) (fun ix jx=>(WV (nvS.get 0 (nvS.get [] out ((std Tryz.prog).sub (nvS.len out) 1)) ix)))),(43,.arr (u.g 43) 1 (nvS.len out) (u.t 43) (fun ix jx=>.cnd ((std Tryz.prog).eq ix ((std Tryz.prog).sub (nvS.len out) 1)) (.vec 0 (u.g 0) 1 0 (nvS.len (nvS.get [] out ((std Tryz.prog).sub (nvS.len out) 1)))) (.sl 1 (nvS.len (nvS.get [] out ix)) false (fun ix1 jx1=>(WV (nvS.get 0 (nvS.get [] out ix) ix1))))))] u)) (fun _ t=>Hid.ok t) (fun x u hu h=>?_) (fun f h=>?_)
 · revert h;revert hu;revert x;intro out hu h
   obtain ⟨uc,ug,ut⟩:=u;obtain ⟨huc,hug⟩:0 < uc∧∀ k,ug k < uc:=hu
   refine Wc [] [] [] 0 [(11,[.cool 43 0 (fun ix jx=>(.sl 1 (nvS.len (nvS.get [] out ix)) false (fun ix1 jx1=>(WV (nvS.get 0 (nvS.get [] out ix) ix1)))))])] fun N hN=>?_
   generalize hp:std Tryz.prog=p;generalize hv:nvS=nv;cbv;subst hp hv
   refine ⟨(coolP (P:=Tryz.prog) (fun x j=>(WV x)) 0 out 0 (ug 0) 1 _ ((lenL out)-1) (fun _ _=>out0_int _ _)),?_⟩
   subst hN;have hr:=Option.some.inj h
   subst hr
   try dsimp only [noGoto,inBlockQ,thenQ]
   repeat (first | refine Wt ?_ | refine We ?_)
   exact retQ_ret rfl trivial (And.intro (rfl) (And.intro Wy (And.intro (fun h=>by cases h) (out0_all Wo Wp))))
 refine Wx [] [] [] 0 [] 1 fun N hN=>?_
 generalize hp:std Tryz.prog=p;generalize hv:nvS=nv;cbv;subst hp hv
 refine ⟨rfl,?_⟩
 subst hN;show Tr _ _ _ _
 refine Tr.block ?_
 refine Tr.loopO (α:=Int × List (List Int)) (fun (v,out1) u1=>(WF 58 [(1,.bref 1 (u1.g 1) 0),(3,.vec 43 (u1.g 43) 1 0 (nvS.len out1)),(8,.sl 1 (nvS.len r_Removed) false (fun ix jx=>(.v (.bool (nvS.get false r_Removed ix))))),(9,WV (nvS.len r_Removed)),(10,WV v)] 58 [(0,.arr (u1.g 0) 1 (nvS.len (nvS.get [] out1 ((std Tryz.prog).sub (nvS.len out1) 1))) (u1.t 0) (fun ix jx=>(WV (nvS.get 0 (nvS.get [] out1 ((std Tryz.prog).sub (nvS.len out1) 1)) ix)))),(1,.box (u1.g 1) [WS nvS r_Levels,WS nvS r_Classes,.sl 1 (nvS.len r_Removed) false (fun ix jx=>(.v (.bool (nvS.get false r_Removed ix))))]),(43,.arr (u1.g 43) 1 (nvS.len out1) (u1.t 43) (fun ix jx=>.cnd ((std Tryz.prog).eq ix ((std Tryz.prog).sub (nvS.len out1) 1)) (.vec 0 (u1.g 0) 1 0 (nvS.len (nvS.get [] out1 ((std Tryz.prog).sub (nvS.len out1) 1)))) (.sl 1 (nvS.len (nvS.get [] out1 ix)) false (fun ix1 jx1=>(WV (nvS.get 0 (nvS.get [] out1 ix) ix1))))))] u1)) (fun _ t=>Hid.ok t) ⟨ctr+14,gfn [(0,ctr+4),(1,ctr+0),(43,ctr+3)],tfn [(0,false),(1,false),(43,false)]⟩ h ?_ ?_ (fun x u1 f hu1 h=>?_)
 · exact Wh
 · refine GeSt.by [.thaw (.slot 3) 43 1,.empty 0 1] rfl ?_ ?_
   · exact trivial
   exact LeSt.frame (show ctr+5 < ctr+14 by omega) rfl rfl (Wk rfl (Wk rfl (Wk rfl (Wk rfl (Wk rfl trivial))))) (Wj rfl (LeOb.arr' rfl (fun i i0 i1 j hj=>by exfalso;revert i1;show i < (0:Int)→False;omega)) (Wi rfl (Wj rfl (LeOb.arr' rfl (fun i i0 i1 j hj=>by exfalso;revert i1;show i < (0:Int)→False;omega)) trivial)))
 obtain ⟨v,out1⟩:=x
 try dsimp only at h
 obtain ⟨u1c,u1g,u1t⟩:=u1;obtain ⟨hu1c,hu1g⟩:0 < u1c∧∀ k,u1g k < u1c:=hu1
 refine Wc [] [] [42,53] 0 [(8,[.cool 43 0 (fun ix jx=>(.sl 1 (nvS.len (nvS.get [] out1 ix)) false (fun ix1 jx1=>(WV (nvS.get 0 (nvS.get [] out1 ix) ix1)))))])] fun N hN=>?_
 generalize hp:std Tryz.prog=p;generalize hv:nvS=nv;cbv;subst hp hv
 refine ⟨fun h63=>?_,fun h63=>?_⟩
 · replace h:=iteO_t h h63
   replace h:=chk_some h;obtain ⟨h64,h⟩:=h
   try (have h64z:=h64;simp only [Int.zero_add] at h64z)
   refine ⟨h64,?_⟩
   refine ⟨fun h65=>?_,fun h65=>?_⟩
   · replace h:=iteO_t h h65
     replace h:=chk_some h;obtain ⟨h66,h⟩:=h
     refine ⟨h66,?_⟩
     subst hN;cases h
     exact Exists.intro ⟨u1c+13,gfn [(0,u1g 0),(1,u1g 1),(43,u1g 43)],tfn [(0,u1t 0),(1,false),(43,u1t 43)]⟩ (And.intro Wh (Wg (Wk rfl (Wq rfl ((by first | exact LeD.refl _ | exact LeD.vec rfl Wy)) (Wk rfl (Wk rfl (Wk rfl trivial))))) (Wi rfl (Wi rfl (Wi rfl trivial)))))
   replace h:=iteO_f h h65
   replace h:=chk_some h;obtain ⟨h67,h⟩:=h
   replace h:=chk_some h;obtain ⟨h68,h⟩:=h
   replace h:=chk_some h;obtain ⟨h69,h⟩:=h
   replace h:=chk_some h;obtain ⟨h70,h⟩:=h
   replace h:=chk_some h;obtain ⟨h71,h⟩:=h
   refine ⟨(fun hg=>hg),(fun _=>rfl),(fun hg=>hg),h67,(fun hg=>hg),(fun hg=>hg),h68,(fun hg=>hg),(fun _=>rfl),(fun hg=>hg),(fun hg=>by dsimp only [std_eq,stdN] at hg ⊢;simp_all),h69,(fun hg=>hg),(fun _=>rfl),(fun hg=>hg),(fun hg=>hg),h70,(fun hg=>hg),(fun hg=>hg),(fun _=>rfl),(fun hg=>hg),(fun hg=>hg),h71,(fun hg=>hg),(fun hg=>hg),(fun hg=>hg),(fun hg=>hg),(show drOk _ _=true by kernel_rfl),?_⟩
   refine ⟨fun h72=>?_,fun h72=>?_⟩
   · replace h:=iteO_t h h72
     replace h:=chk_some h;obtain ⟨h73,h⟩:=h
     refine ⟨(coolP (P:=Tryz.prog) (fun x j=>(WV x)) 0 out1 0 (u1g 0) 1 _ ((lenL out1)-1) (fun _ _=>out0_int _ _)),rfl,(by have:=hu1g 43;show (_:Nat) < _;(try dsimp only [std_eq,stdN]);omega),h73,?_⟩
     replace h:=chk_some h;obtain ⟨h74,h⟩:=h
     refine ⟨h74,?_⟩
     subst hN;cases h
     show ∃ u,_∧GeSt _ _ _
     refine ⟨⟨u1c+18,gfn [(0,u1c+8),(1,u1g 1),(43,u1c+6)],tfn [(0,true),(1,false),(43,false)]⟩,Wh,?_⟩
     refine GeSt.by [.heat 43 41 0 (fun ix jx=>.cnd ((std Tryz.prog).eq ix ((std Tryz.prog).sub (nvS.len (nvS.app out1 ([([v]:List Int)]:List (List Int)))) 1)) (.vec 0 (u1c+8) 1 0 (nvS.len (nvS.get [] (nvS.app out1 ([([v]:List Int)]:List (List Int))) ((std Tryz.prog).sub (nvS.len (nvS.app out1 ([([v]:List Int)]:List (List Int)))) 1)))) (.sl 1 (nvS.len (nvS.get [] (nvS.app out1 ([([v]:List Int)]:List (List Int))) ix)) false (fun ix1 jx1=>(WV (nvS.get 0 (nvS.get [] (nvS.app out1 ([([v]:List Int)]:List (List Int))) ix) ix1)))))] rfl ?_ ?_
     · exact (And.intro (heatA (E:=(fun x j=>(WV x))) (d:=0) (out':=(out1++([([v]:List Int)]:List (List Int)))) (by (try dsimp only [std_eq,stdN,nvS]);first | omega | (simp (disch:=first | omega | (simp only [lenL_set,lenL_app,lenL_cons,lenL_nil]<;>omega)) only [lenL_bytes,lenL_set,lenL_app,lenL_cons,lenL_nil,lenL_rep,lenL_sub,lenL_cpy,Int.ofNat_eq_natCast,Int.zero_add,Int.sub_zero]<;>omega)) (by (try dsimp only [std_eq,stdN,nvS]);first | omega | (simp (disch:=first | omega | (simp only [lenL_set,lenL_app,lenL_cons,lenL_nil]<;>omega)) only [lenL_bytes,lenL_set,lenL_app,lenL_cons,lenL_nil,lenL_rep,lenL_sub,lenL_cpy,Int.ofNat_eq_natCast,Int.zero_add,Int.sub_zero]<;>omega)) (by have e:=(show (getL [] (out1++([([v]:List Int)]:List (List Int))) ((lenL (out1++([([v]:List Int)]:List (List Int))))-1))=([v]:List Int) from (by simp (disch:=first | omega | (simp only [lenL_set,lenL_app,lenL_cons,lenL_nil]<;>omega)) [getL_snoc,getL_put,getL_app,getL_zero,getL_one,lenL_set,lenL_app,lenL_cons,lenL_nil]));(try dsimp only [std_eq,stdN,nvS]);first | (rw [e];first | rfl | (simp (disch:=first | omega | (simp only [lenL_set,lenL_app,lenL_cons,lenL_nil]<;>omega)) only [lenL_bytes,lenL_set,lenL_app,lenL_cons,lenL_nil,lenL_rep,lenL_sub,lenL_cpy,Int.ofNat_eq_natCast]<;>first | done | omega)) | omega) (fun _=>rfl) (fun _ _=>rfl) (fun _ _=>rfl) (fun i i0 i1=>encL_out (E:=(fun x j=>(WV x))) (d:=0) (out:=out1) (out':=(out1++([([v]:List Int)]:List (List Int)))) (i:=0+i) (i2:=i) (fun _ _=>out0_int _ _) (by (try dsimp only [std_eq,stdN,nvS] at i1);rw [getL_app i0,if_pos i1,Int.zero_add])) (fun _=>rfl)) trivial)
     exact LeSt.frame (show u1c+9 < u1c+18 by omega) rfl rfl (Wk rfl (Wq rfl (LeD.vec rfl Wy) (Wk rfl (Wk rfl (Wk rfl trivial))))) (Wj rfl ((by have e:=(show (getL [] (out1++([([v]:List Int)]:List (List Int))) ((lenL (out1++([([v]:List Int)]:List (List Int))))-1))=([v]:List Int) from (by simp (disch:=first | omega | (simp only [lenL_set,lenL_app,lenL_cons,lenL_nil]<;>omega)) [getL_snoc,getL_put,getL_app,getL_zero,getL_one,lenL_set,lenL_app,lenL_cons,lenL_nil]));exact LeOb.arrE (by have e:=(show (getL [] (out1++([([v]:List Int)]:List (List Int))) ((lenL (out1++([([v]:List Int)]:List (List Int))))-1))=([v]:List Int) from (by simp (disch:=first | omega | (simp only [lenL_set,lenL_app,lenL_cons,lenL_nil]<;>omega)) [getL_snoc,getL_put,getL_app,getL_zero,getL_one,lenL_set,lenL_app,lenL_cons,lenL_nil]));(try dsimp only [std_eq,stdN,nvS]);first | (rw [e];first | rfl | (simp (disch:=first | omega | (simp only [lenL_set,lenL_app,lenL_cons,lenL_nil]<;>omega)) only [lenL_bytes,lenL_set,lenL_app,lenL_cons,lenL_nil,lenL_rep,lenL_sub,lenL_cpy,Int.ofNat_eq_natCast]<;>first | done | omega)) | omega) (fun i i0 i1 j hj=>by (have i2:i < 1:=i1);(obtain rfl:i=0:=(by omega));(obtain rfl:j=0:=(by omega));(show (D.v (.int .i64 v))=(WV (getL 0 (getL [] (out1++([([v]:List Int)]:List (List Int))) ((lenL (out1++([([v]:List Int)]:List (List Int))))-1)) 0)));(rw [e]);rfl))) (Wi rfl (Wj rfl (LeOb.arrE Wy (fun i i0 i1 j hj=>rfl)) trivial)))
   replace h:=iteO_f h h72
   replace h:=chk_some h;obtain ⟨h75,h⟩:=h
   replace h:=chk_some h;obtain ⟨h76,h⟩:=h
   replace h:=chk_some h;obtain ⟨h77,h⟩:=h
   try (have h77z:=h77;simp only [Int.zero_add] at h77z)
   replace h:=chk_some h;obtain ⟨h78,h⟩:=h
   replace h:=chk_some h;obtain ⟨h79,h⟩:=h
   try (have h79z:=h79;simp only [Int.zero_add] at h79z)
   refine ⟨h75,h76,h77,rfl,(by first | assumption | (dsimp only [std_eq,stdN];simp_all)),rfl,h78,h79,rfl,?_⟩
   replace h:=chk_some h;obtain ⟨h80,h⟩:=h
   refine ⟨h80,?_⟩
   subst hN;cases h
   show ∃ u,_∧GeSt _ _ _
   refine ⟨⟨u1c+18,gfn [(0,u1c+8),(1,u1g 1),(43,u1g 43)],tfn [(0,false),(1,false),(43,u1t 43)]⟩,Wh,?_⟩
   refine GeSt.by [.forget 0,.heat 43 54 0 (fun ix jx=>.cnd ((std Tryz.prog).eq ix ((std Tryz.prog).sub (nvS.len (nvS.set out1 ((std Tryz.prog).sub (nvS.len out1) 1) (nvS.app (nvS.get [] out1 ((std Tryz.prog).sub (nvS.len out1) 1)) ([v]:List Int)))) 1)) (.vec 0 (u1c+8) 1 0 (nvS.len (nvS.get [] (nvS.set out1 ((std Tryz.prog).sub (nvS.len out1) 1) (nvS.app (nvS.get [] out1 ((std Tryz.prog).sub (nvS.len out1) 1)) ([v]:List Int))) ((std Tryz.prog).sub (nvS.len (nvS.set out1 ((std Tryz.prog).sub (nvS.len out1) 1) (nvS.app (nvS.get [] out1 ((std Tryz.prog).sub (nvS.len out1) 1)) ([v]:List Int)))) 1)))) (.sl 1 (nvS.len (nvS.get [] (nvS.set out1 ((std Tryz.prog).sub (nvS.len out1) 1) (nvS.app (nvS.get [] out1 ((std Tryz.prog).sub (nvS.len out1) 1)) ([v]:List Int))) ix)) false (fun ix1 jx1=>(WV (nvS.get 0 (nvS.get [] (nvS.set out1 ((std Tryz.prog).sub (nvS.len out1) 1) (nvS.app (nvS.get [] out1 ((std Tryz.prog).sub (nvS.len out1) 1)) ([v]:List Int))) ix) ix1)))))] rfl ?_ ?_
   · exact (And.intro (heatS (E:=(fun x j=>(WV x))) (d:=0) (out:=out1) (out':=(setL out1 ((lenL out1)-1) ((getL [] out1 ((lenL out1)-1))++([v]:List Int)))) (fun _ _=>out0_int _ _) (by (try dsimp only [std_eq,stdN,nvS]);first | omega | (simp (disch:=first | omega | (simp only [lenL_set,lenL_app,lenL_cons,lenL_nil]<;>omega)) only [lenL_bytes,lenL_set,lenL_app,lenL_cons,lenL_nil,lenL_rep,lenL_sub,lenL_cpy,Int.ofNat_eq_natCast,Int.zero_add,Int.sub_zero]<;>omega)) (by (try dsimp only [std_eq,stdN,nvS]);first | omega | (simp (disch:=first | omega | (simp only [lenL_set,lenL_app,lenL_cons,lenL_nil]<;>omega)) only [lenL_bytes,lenL_set,lenL_app,lenL_cons,lenL_nil,lenL_rep,lenL_sub,lenL_cpy,Int.ofNat_eq_natCast,Int.zero_add,Int.sub_zero]<;>omega)) (by have e:=(show (getL [] (setL out1 ((lenL out1)-1) ((getL [] out1 ((lenL out1)-1))++([v]:List Int))) ((lenL (setL out1 ((lenL out1)-1) ((getL [] out1 ((lenL out1)-1))++([v]:List Int))))-1))=((getL [] out1 ((lenL out1)-1))++([v]:List Int)) from (by simp (disch:=first | omega | (simp only [lenL_set,lenL_app,lenL_cons,lenL_nil]<;>omega)) [getL_snoc,getL_put,getL_app,getL_zero,getL_one,lenL_set,lenL_app,lenL_cons,lenL_nil]));(try dsimp only [std_eq,stdN,nvS]);first | (rw [e];first | rfl | (simp (disch:=first | omega | (simp only [lenL_set,lenL_app,lenL_cons,lenL_nil]<;>omega)) only [lenL_bytes,lenL_set,lenL_app,lenL_cons,lenL_nil,lenL_rep,lenL_sub,lenL_cpy,Int.ofNat_eq_natCast]<;>first | done | omega)) | omega) (fun i i0 i1 i2=>by (try dsimp only [std_eq,stdN,nvS] at i1 i2);rw [getL_put (by first | omega | (simp only [lenL_set]<;>omega)) i0 (by first | omega | (simp only [lenL_set] at *<;>omega)),if_neg (by omega)])) trivial)
   exact LeSt.frame (show u1c+9 < u1c+18 by omega) rfl rfl (Wk rfl (Wq rfl ((by first | exact LeD.refl _ | exact LeD.vec rfl Wy)) (Wk rfl (Wk rfl (Wk rfl trivial))))) (Wj rfl ((by have e:=(show (getL [] (setL out1 ((lenL out1)-1) ((getL [] out1 ((lenL out1)-1))++([v]:List Int))) ((lenL (setL out1 ((lenL out1)-1) ((getL [] out1 ((lenL out1)-1))++([v]:List Int))))-1))=((getL [] out1 ((lenL out1)-1))++([v]:List Int)) from (by simp (disch:=first | omega | (simp only [lenL_set,lenL_app,lenL_cons,lenL_nil]<;>omega)) [getL_snoc,getL_put,getL_app,getL_zero,getL_one,lenL_set,lenL_app,lenL_cons,lenL_nil]));exact LeOb.arrE (by have e:=(show (getL [] (setL out1 ((lenL out1)-1) ((getL [] out1 ((lenL out1)-1))++([v]:List Int))) ((lenL (setL out1 ((lenL out1)-1) ((getL [] out1 ((lenL out1)-1))++([v]:List Int))))-1))=((getL [] out1 ((lenL out1)-1))++([v]:List Int)) from (by simp (disch:=first | omega | (simp only [lenL_set,lenL_app,lenL_cons,lenL_nil]<;>omega)) [getL_snoc,getL_put,getL_app,getL_zero,getL_one,lenL_set,lenL_app,lenL_cons,lenL_nil]));(try dsimp only [std_eq,stdN,nvS]);first | (rw [e];first | rfl | (simp (disch:=first | omega | (simp only [lenL_set,lenL_app,lenL_cons,lenL_nil]<;>omega)) only [lenL_bytes,lenL_set,lenL_app,lenL_cons,lenL_nil,lenL_rep,lenL_sub,lenL_cpy,Int.ofNat_eq_natCast]<;>first | done | omega)) | omega) (fun i i0 i1 j hj=>by (try dsimp only [std_eq,stdN,nvS] at i1);(try simp only [Int.ofNat_eq_natCast,lenL_app,lenL_cons,lenL_nil,lenL_set,lenL_bytes] at i1);(try simp (disch:=first | omega | (simp only [lenL_set,lenL_app,lenL_cons,lenL_nil]<;>omega)) only [lenL_sub,lenL_rep,lenL_cpy,Int.zero_add,Int.sub_zero] at i1);(obtain rfl:j=0:=(by omega))<;>(conv=>lhs;whnf)<;>(conv=>rhs;whnf)<;>(try dsimp only [std_eq,stdN,nvS])<;>((try rw [e]);(first | rfl | (simp (disch:=first | omega | (simp only [lenL_set,lenL_app,lenL_cons,lenL_nil]<;>omega)) only [getL_bytes,getL_put,getL_app,getL_rep,getL_sub,lenL_sub,addSubL,getL_cpy,Int.zero_add,Int.sub_zero,beq_iff_eq,decide_eq_true_eq,Bool.and_eq_true]<;>first | rfl | (split<;>first | rfl | (simp (disch:=first | omega | (simp only [lenL_set,lenL_app,lenL_cons,lenL_nil]<;>omega)) only [getL_one,getL_zero]<;>rfl)) | (simp (disch:=omega) only [getL_one,getL_zero]<;>rfl) | ((simp only [lenL_app,lenL_cons,lenL_nil,Int.ofNat_eq_natCast])<;>(repeat' split)<;>first | rfl | (exfalso;omega) | (simp (disch:=omega) only [getL_one,getL_zero]<;>rfl) | (congr 3;omega)))))))) (Wi rfl (Wj rfl (LeOb.arrE Wy (fun i i0 i1 j hj=>rfl)) trivial)))
 replace h:=iteO_f h h63
 subst hN;cases h
 intro he;cases he
 exact Exists.intro ⟨u1c+10,gfn [(0,u1g 0),(43,u1g 43)],tfn [(0,u1t 0),(43,u1t 43)]⟩ (And.intro Wh (Wg (Wq rfl (LeD.vec rfl Wy) trivial) (Wi rfl (Wi rfl trivial))))
theorem embed_Sequences_ok (l':(List Int)) (r':T_embed_Run) (base:Int) (r:(List (List Int))) (h:embed_Sequences l' r' base=some r):PureFn Tryz.prog 43 [(WS nvS l'),(.agg 3 (fun j=>(D_embed_Run nvS r' j))),(WV base)] (.own 1 (nvS.len r) false (fun ix jx=>(.sl 1 (nvS.len (nvS.get [] r ix)) false (fun ix1 jx1=>(WV (nvS.get 0 (nvS.get [] r ix) ix1)))))):=by
 obtain ⟨r_Levels,r_Classes,r_Removed⟩:=r'
 unfold embed_Sequences at h
 try dsimp only at h
 refine fn_tr tt0_ok Tryz.func43 (by kernel_rfl) (c:=bodyOf Tryz.f43) (by kernel_rfl) ?_
 intro ctr hc
 obtain ⟨v,h1⟩ : ∃ v,valO false (embed_fits l' (T_embed_Run.mk r_Levels r_Classes r_Removed))=v:=⟨_,rfl⟩
 obtain ⟨v1,h3⟩ : ∃ v1,valO [] (embed_Match l')=v1:=⟨_,rfl⟩
 obtain ⟨v2,h4⟩ : ∃ v2,valO [] (embed_runs (T_embed_Run.mk r_Levels r_Classes r_Removed))=v2:=⟨_,rfl⟩
 refine Wx [(41,1),(69,1)] [(25,.plain (.v (.bool v))),(28,.own 1 (nvS.len v1) false (WI nvS v1)),(30,.own 1 (nvS.len v2) false (fun ix jx=>(.sl 1 (nvS.len (nvS.get [] v2 ix)) false (fun ix1 jx1=>(WV (nvS.get 0 (nvS.get [] v2 ix) ix1))))))] [] 0 [] 5 fun N hN=>?_
 generalize hp:std Tryz.prog=p;generalize hv:nvS=nv;cbv;subst hp hv
 replace h:=bindO_val h1 h;clear h1;obtain ⟨h1,h⟩:=h
 refine ⟨rfl,(Or.inl (PureFn.arg (embed_fits_ok l' (T_embed_Run.mk r_Levels r_Classes r_Removed) v h1) (And.intro (LeD.refl _) (And.intro (LeD.agg fun j hj=>by
  have hj2:j < 3:=hj
  rcases (show j=0∨j=1∨j=2 by omega) with rfl | rfl | rfl
  · exact LeD.refl _
  · exact LeD.refl _
  exact LeD.refl _) trivial)))),?_⟩
 refine ⟨fun h2=>?_,fun h2=>?_⟩
 · replace h:=iteO_t h h2
   subst hN;have hr:=Option.some.inj h
   subst hr
   try dsimp only [noGoto,inBlockQ,thenQ]
   repeat (first | refine Wt ?_ | refine We ?_)
   exact retQ_ret rfl trivial rfl
 replace h:=iteO_f h h2
 replace h:=bindO_val h3 h;clear h3;obtain ⟨h3,h⟩:=h
 refine ⟨(Or.inl (PureFn.arg (embed_Match_ok l' v1 h3) (And.intro (LeD.refl _) trivial))),?_⟩
 replace h:=bindO_val h4 h;clear h4;obtain ⟨h4,h⟩:=h
 refine ⟨rfl,(Or.inl (PureFn.arg (embed_runs_ok (T_embed_Run.mk r_Levels r_Classes r_Removed) v2 h4) (And.intro (LeD.agg fun j hj=>by
  have hj2:j < 3:=hj
  rcases (show j=0∨j=1∨j=2 by omega) with rfl | rfl | rfl
  · exact LeD.refl _
  · exact LeD.refl _
  exact LeD.refl _) trivial))),?_⟩
 replace h:=chk_some h;obtain ⟨h5,h⟩:=h
 replace h:=chk_some h;obtain ⟨h6,h⟩:=h
 have h6':=h6.1;have h6'':=h6.2.1
 refine ⟨h5,h6,?_⟩
 subst hN;show Tr _ _ _ _
 refine Tr.cutSeq (α:=List Int) h (fun heads u=>(WF 131 [(0,WS nvS l'),(7,.vec 28 (u.g 28) 1 0 (nvS.len v1)),(8,.vec 30 (u.g 30) 1 0 (nvS.len v2)),(9,.vec 34 (u.g 34) 1 0 ((std Tryz.prog).add (nvS.len l') 1))] 131 [(28,.arr (u.g 28) 1 (nvS.len v1) (u.t 28) (WI nvS v1)),(30,.arr (u.g 30) 1 (nvS.len v2) (u.t 30) (fun ix jx=>(.sl 1 (nvS.len (nvS.get [] v2 ix)) false (fun ix1 jx1=>(WV (nvS.get 0 (nvS.get [] v2 ix) ix1)))))),(34,.arr (u.g 34) 1 ((std Tryz.prog).add (nvS.len l') 1) (u.t 34) (WI nvS heads))] u)) (fun heads t=>Hid.ok t∧lenL heads=((lenL l')+1)) (fun x u hu h=>?_) (fun f h=>?_)
 · revert h;revert hu;revert x;intro heads hu h
   obtain ⟨hu,ht'_f0⟩:=hu
   obtain ⟨uc,ug,ut⟩:=u;obtain ⟨huc,hug⟩:0 < uc∧∀ k,ug k < uc:=hu
   refine Tr.cutSeq (α:=List Int) h (fun heads1 u1=>(WF 131 [(0,WS nvS l'),(7,.vec 28 (u1.g 28) 1 0 (nvS.len v1)),(8,.vec 30 (u1.g 30) 1 0 (nvS.len v2)),(9,.vec 34 (u1.g 34) 1 0 ((std Tryz.prog).add (nvS.len l') 1))] 131 [(28,.arr (u1.g 28) 1 (nvS.len v1) (u1.t 28) (WI nvS v1)),(30,.arr (u1.g 30) 1 (nvS.len v2) (u1.t 30) (fun ix jx=>(.sl 1 (nvS.len (nvS.get [] v2 ix)) false (fun ix1 jx1=>(WV (nvS.get 0 (nvS.get [] v2 ix) ix1)))))),(34,.arr (u1.g 34) 1 ((std Tryz.prog).add (nvS.len l') 1) (u1.t 34) (WI nvS heads1))] u1)) (fun heads1 t=>Hid.ok t∧lenL heads1=((lenL l')+1)) (fun x u1 hu1 h=>?_) (fun f h=>?_)
   · revert h;revert hu1;revert x;intro heads1 hu1 h
     obtain ⟨hu1,ht'1_f0⟩:=hu1
     obtain ⟨u1c,u1g,u1t⟩:=u1;obtain ⟨hu1c,hu1g⟩:0 < u1c∧∀ k,u1g k < u1c:=hu1
     refine Wx [] [] [] 0 [] 2 fun N hN=>?_
     generalize hp:std Tryz.prog=p;generalize hv:nvS=nv;cbv;subst hp hv
     replace h:=chk_some h;obtain ⟨h23,h⟩:=h
     have h23':=h23.1;have h23'':=h23.2.1
     refine ⟨h23,?_⟩
     replace h:=chk_some h;obtain ⟨h24,h⟩:=h
     have h24':=h24.1;have h24'':=h24.2.1
     refine ⟨h24,?_⟩
     subst hN;show Tr _ _ _ _
     refine Tr.cutSeq (α:=List Int × List Bool) h (fun (behind,joined) u2=>(WF 131 [(8,.vec 30 (u2.g 30) 1 0 (nvS.len v2)),(13,.vec 60 (u2.g 60) 1 0 (nvS.len v2)),(14,.vec 63 (u2.g 63) 1 0 (nvS.len v2))] 131 [(30,.arr (u2.g 30) 1 (nvS.len v2) (u2.t 30) (fun ix jx=>(.sl 1 (nvS.len (nvS.get [] v2 ix)) false (fun ix1 jx1=>(WV (nvS.get 0 (nvS.get [] v2 ix) ix1)))))),(60,.arr (u2.g 60) 1 (nvS.len v2) (u2.t 60) (WI nvS behind)),(63,.arr (u2.g 63) 1 (nvS.len v2) (u2.t 63) (fun ix jx=>(.v (.bool (nvS.get false joined ix)))))] u2)) (fun (behind,joined) t=>Hid.ok t∧lenL behind=(lenL v2)∧lenL joined=(lenL v2)) (fun x u2 hu2 h=>?_) (fun f h=>?_)
     · obtain ⟨behind,joined⟩:=x
       try dsimp only at h
       obtain ⟨hu2,ht'2_f0,ht'2_f1⟩:=hu2
       obtain ⟨u2c,u2g,u2t⟩:=u2;obtain ⟨hu2c,hu2g⟩:0 < u2c∧∀ k,u2g k < u2c:=hu2
       refine Wx [] [] [] 0 [] 1 fun N hN=>?_
       generalize hp:std Tryz.prog=p;generalize hv:nvS=nv;cbv;subst hp hv
       subst hN;show Tr _ _ _ _
       refine Tr.cutSeq (α:=List (List Int)) h (fun out u3=>(WF 131 [(19,.vec 128 (u3.g 128) 1 0 (nvS.len out))] 131 [(128,.arr (u3.g 128) 1 (nvS.len out) (u3.t 128) (fun ix jx=>(.sl 1 (nvS.len (nvS.get [] out ix)) false (fun ix1 jx1=>(WV (nvS.get 0 (nvS.get [] out ix) ix1))))))] u3)) (fun _ t=>Hid.ok t) (fun x u3 hu3 h=>?_) (fun f h=>?_)
       · revert h;revert hu3;revert x;intro out hu3 h
         obtain ⟨u3c,u3g,u3t⟩:=u3;obtain ⟨hu3c,hu3g⟩:0 < u3c∧∀ k,u3g k < u3c:=hu3
         refine Wc [] [] [] 0 [] fun N hN=>?_
         generalize hp:std Tryz.prog=p;generalize hv:nvS=nv;cbv;subst hp hv
         subst hN;have hr:=Option.some.inj h
         subst hr
         try dsimp only [noGoto,inBlockQ,thenQ]
         repeat (first | refine Wt ?_ | refine We ?_)
         exact retQ_ret rfl trivial (And.intro (rfl) (And.intro Wy (And.intro (fun h=>by cases h) (out0_all Wo Wp))))
       refine Wx [] [] [] 0 [] 1 fun N hN=>?_
       generalize hp:std Tryz.prog=p;generalize hv:nvS=nv;cbv;subst hp hv
       subst hN;show Tr _ _ _ _
       refine Tr.block ?_
       refine Tr.loopO (α:=Int × List (List Int)) (fun (v3,out1) u4=>(WF 131 [(8,.vec 30 (u4.g 30) 1 0 (nvS.len v2)),(13,.vec 60 (u4.g 60) 1 0 (nvS.len v2)),(14,.vec 63 (u4.g 63) 1 0 (nvS.len v2)),(19,.vec 128 (u4.g 128) 1 0 (nvS.len out1)),(104,WV (nvS.len v2)),(105,WV v3)] 131 [(30,.arr (u4.g 30) 1 (nvS.len v2) (u4.t 30) (fun ix jx=>(.sl 1 (nvS.len (nvS.get [] v2 ix)) false (fun ix1 jx1=>(WV (nvS.get 0 (nvS.get [] v2 ix) ix1)))))),(60,.arr (u4.g 60) 1 (nvS.len v2) (u4.t 60) (WI nvS behind)),(63,.arr (u4.g 63) 1 (nvS.len v2) (u4.t 63) (fun ix jx=>(.v (.bool (nvS.get false joined ix))))),(128,.arr (u4.g 128) 1 (nvS.len out1) (u4.t 128) (fun ix jx=>(.sl 1 (nvS.len (nvS.get [] out1 ix)) false (fun ix1 jx1=>(WV (nvS.get 0 (nvS.get [] out1 ix) ix1))))))] u4)) (fun _ t=>Hid.ok t) ⟨u2c+12,gfn [(30,u2g 30),(60,u2g 60),(63,u2g 63),(128,u2c+2)],tfn [(30,u2t 30),(60,u2t 60),(63,u2t 63),(128,false)]⟩ h ?_ ?_ (fun x u4 f hu4 h=>?_)
       · exact Wh
       · refine GeSt.by [.thaw (.slot 19) 128 1] rfl ?_ ?_
         · exact trivial
         exact LeSt.frame (show u2c+3 < u2c+12 by omega) rfl rfl (Wk rfl (Wk rfl (Wk rfl (Wk rfl (Wk rfl (Wk rfl trivial)))))) (Wi rfl (Wi rfl (Wi rfl (Wj rfl (LeOb.arr' rfl (fun i i0 i1 j hj=>by exfalso;revert i1;show i < (0:Int)→False;omega)) trivial))))
       obtain ⟨v3,out1⟩:=x
       try dsimp only at h
       obtain ⟨u4c,u4g,u4t⟩:=u4;obtain ⟨hu4c,hu4g⟩:0 < u4c∧∀ k,u4g k < u4c:=hu4
       refine Wx [] [] [] 0 [] 2 fun N hN=>?_
       generalize hp:std Tryz.prog=p;generalize hv:nvS=nv;cbv;subst hp hv
       refine ⟨fun h109=>?_,fun h109=>?_⟩
       · replace h:=iteO_t h h109
         subst hN;show Tr _ _ _ _
         refine Tr.cutSeq (α:=List (List Int)) h (fun out2 u5=>(WF 131 [(8,.vec 30 (u5.g 30) 1 0 (nvS.len v2)),(13,.vec 60 (u5.g 60) 1 0 (nvS.len v2)),(14,.vec 63 (u5.g 63) 1 0 (nvS.len v2)),(19,.vec 128 (u5.g 128) 1 0 (nvS.len out2)),(104,WV (nvS.len v2)),(105,WV v3)] 131 [(30,.arr (u5.g 30) 1 (nvS.len v2) (u5.t 30) (fun ix jx=>(.sl 1 (nvS.len (nvS.get [] v2 ix)) false (fun ix1 jx1=>(WV (nvS.get 0 (nvS.get [] v2 ix) ix1)))))),(60,.arr (u5.g 60) 1 (nvS.len v2) (u5.t 60) (WI nvS behind)),(63,.arr (u5.g 63) 1 (nvS.len v2) (u5.t 63) (fun ix jx=>(.v (.bool (nvS.get false joined ix))))),(128,.arr (u5.g 128) 1 (nvS.len out2) (u5.t 128) (fun ix jx=>(.sl 1 (nvS.len (nvS.get [] out2 ix)) false (fun ix1 jx1=>(WV (nvS.get 0 (nvS.get [] out2 ix) ix1))))))] u5)) (fun _ t=>Hid.ok t) (fun x u5 hu5 h=>?_) (fun f h=>?_)
         · revert h;revert hu5;revert x;intro out2 hu5 h
           obtain ⟨u5c,u5g,u5t⟩:=u5;obtain ⟨hu5c,hu5g⟩:0 < u5c∧∀ k,u5g k < u5c:=hu5
           refine Wc [] [] [] 0 [] fun N hN=>?_
           generalize hp:std Tryz.prog=p;generalize hv:nvS=nv;cbv;subst hp hv
           replace h:=chk_some h;obtain ⟨h121,h⟩:=h
           refine ⟨h121,?_⟩
           subst hN;cases h
           exact Exists.intro ⟨u5c+10,gfn [(30,u5g 30),(60,u5g 60),(63,u5g 63),(128,u5g 128)],tfn [(30,u5t 30),(60,u5t 60),(63,u5t 63),(128,u5t 128)]⟩ (And.intro Wh (Wg (Wk rfl (Wk rfl (Wk rfl (Wq rfl (LeD.vec rfl Wy) (Wk rfl (Wk rfl trivial)))))) (Wi rfl (Wi rfl (Wi rfl (Wa rfl trivial))))))
         refine Tr.block ?_
         refine Wx [] [] [] 0 [] 3 fun N hN=>?_
         generalize hp:std Tryz.prog=p;generalize hv:nvS=nv;cbv;subst hp hv
         replace h:=chk_some h;obtain ⟨h122,h⟩:=h
         try (have h122z:=h122;simp only [Int.zero_add] at h122z)
         refine ⟨h122,rfl,?_⟩
         refine ⟨fun h123=>?_,fun h123=>?_⟩
         · replace h:=iteO_t h h123
           subst hN;cases h
           exact Exists.intro ⟨u4c+12,gfn [(30,u4g 30),(60,u4g 60),(63,u4g 63),(128,u4g 128)],tfn [(30,u4t 30),(60,u4t 60),(63,u4t 63),(128,u4t 128)]⟩ (And.intro Wh (Wg (Wk rfl (Wk rfl (Wk rfl (Wq rfl (LeD.vec rfl Wy) (Wk rfl (Wk rfl trivial)))))) (Wi rfl (Wi rfl (Wi rfl (Wa rfl trivial))))))
         replace h:=iteO_f h h123
         subst hN;show Tr _ _ _ _
         refine Tr.cutSeq (α:=List Int) h (fun seq u6=>(WF 131 [(8,.vec 30 (u6.g 30) 1 0 (nvS.len v2)),(13,.vec 60 (u6.g 60) 1 0 (nvS.len v2)),(14,.vec 63 (u6.g 63) 1 0 (nvS.len v2)),(19,.vec 128 (u6.g 128) 1 0 (nvS.len out1)),(21,.vec 124 (u6.g 124) 1 0 (nvS.len seq)),(104,WV (nvS.len v2)),(105,WV v3)] 131 [(30,.arr (u6.g 30) 1 (nvS.len v2) (u6.t 30) (fun ix jx=>(.sl 1 (nvS.len (nvS.get [] v2 ix)) false (fun ix1 jx1=>(WV (nvS.get 0 (nvS.get [] v2 ix) ix1)))))),(60,.arr (u6.g 60) 1 (nvS.len v2) (u6.t 60) (WI nvS behind)),(63,.arr (u6.g 63) 1 (nvS.len v2) (u6.t 63) (fun ix jx=>(.v (.bool (nvS.get false joined ix))))),(124,.arr (u6.g 124) 1 (nvS.len seq) (u6.t 124) (WI nvS seq)),(128,.arr (u6.g 128) 1 (nvS.len out1) (u6.t 128) (fun ix jx=>(.sl 1 (nvS.len (nvS.get [] out1 ix)) false (fun ix1 jx1=>(WV (nvS.get 0 (nvS.get [] out1 ix) ix1))))))] u6)) (fun _ t=>Hid.ok t) (fun x u6 hu6 h=>?_) (fun f h=>?_)
         · revert h;revert hu6;revert x;intro seq hu6 h
           obtain ⟨u6c,u6g,u6t⟩:=u6;obtain ⟨hu6c,hu6g⟩:0 < u6c∧∀ k,u6g k < u6c:=hu6
           refine Wc [] [] [127] 0 [(39,[.freeze (.slot 21)])] fun N hN=>?_
           generalize hp:std Tryz.prog=p;generalize hv:nvS=nv;cbv;subst hp hv
           replace h:=chk_some h;obtain ⟨h132,h⟩:=h
           refine ⟨rfl,rfl,(by have:=hu6g 128;show (_:Nat) < _;(try dsimp only [std_eq,stdN]);omega),h132,?_⟩
           subst hN;cases h
           exact Exists.intro ⟨u6c+11,gfn [(30,u6g 30),(60,u6g 60),(63,u6g 63),(128,u6c+1)],tfn [(30,u6t 30),(60,u6t 60),(63,u6t 63),(128,false)]⟩ (And.intro Wh (Wg (Wk rfl (Wk rfl (Wk rfl (Wq rfl (LeD.vec rfl Wy) (Wk rfl (Wk rfl trivial)))))) (Wi rfl (Wi rfl (Wi rfl (Wj rfl (LeOb.catL (E:=(fun x j=>(WV x))) (d:=0) (out':=(out1++([seq]:List (List Int)))) Wy (fun b x y j=>by cases b<;>exact LeD.refl _) (fun _=>rfl) (fun _=>rfl) (fun i i0 i1=>by (try dsimp only [std_eq,stdN,nvS] at i1);(have e:getL [] (out1++[seq]) i=getL [] out1 (0+i):=(by rw [getL_app i0,if_pos i1,Int.zero_add]));(rw [e]);(exact ⟨rfl,fun _ _ _=>rfl⟩)) (fun i i0 i1 i2=>by (try dsimp only [std_eq,stdN,nvS] at i1 i2);(try simp only [Int.ofNat_eq_natCast] at i2);(obtain rfl:i=lenL out1:=(by omega));(have e:=getL_snoc [] seq out1);(rw [e]);(exact ⟨rfl,fun i3 _ _=>(by first | rfl | (show getL _ _ (0+i3)=getL _ _ i3;rw [Int.zero_add]))⟩))) trivial))))))
         refine Wx [] [] [] 0 [] 1 fun N hN=>?_
         generalize hp:std Tryz.prog=p;generalize hv:nvS=nv;cbv;subst hp hv
         subst hN;show Tr _ _ _ _
         refine Tr.block ?_
         refine Tr.loopO (α:=Int × List Int) (fun (at',seq1) u7=>(WF 131 [(8,.vec 30 (u7.g 30) 1 0 (nvS.len v2)),(13,.vec 60 (u7.g 60) 1 0 (nvS.len v2)),(14,.vec 63 (u7.g 63) 1 0 (nvS.len v2)),(19,.vec 128 (u7.g 128) 1 0 (nvS.len out1)),(21,.vec 124 (u7.g 124) 1 0 (nvS.len seq1)),(22,WV at'),(104,WV (nvS.len v2)),(105,WV v3)] 131 [(30,.arr (u7.g 30) 1 (nvS.len v2) (u7.t 30) (fun ix jx=>(.sl 1 (nvS.len (nvS.get [] v2 ix)) false (fun ix1 jx1=>(WV (nvS.get 0 (nvS.get [] v2 ix) ix1)))))),(60,.arr (u7.g 60) 1 (nvS.len v2) (u7.t 60) (WI nvS behind)),(63,.arr (u7.g 63) 1 (nvS.len v2) (u7.t 63) (fun ix jx=>(.v (.bool (nvS.get false joined ix))))),(124,.arr (u7.g 124) 1 (nvS.len seq1) (u7.t 124) (WI nvS seq1)),(128,.arr (u7.g 128) 1 (nvS.len out1) (u7.t 128) (fun ix jx=>(.sl 1 (nvS.len (nvS.get [] out1 ix)) false (fun ix1 jx1=>(WV (nvS.get 0 (nvS.get [] out1 ix) ix1))))))] u7)) (fun _ t=>Hid.ok t) ⟨u4c+15,gfn [(30,u4g 30),(60,u4g 60),(63,u4g 63),(124,u4c+5),(128,u4g 128)],tfn [(30,u4t 30),(60,u4t 60),(63,u4t 63),(124,false),(128,u4t 128)]⟩ h ?_ ?_ (fun x u7 f hu7 h=>?_)
         · exact Wh
         · refine GeSt.by [.thaw (.slot 21) 124 1] rfl ?_ ?_
           · exact trivial
           exact LeSt.frame (show u4c+6 < u4c+15 by omega) rfl rfl (Wk rfl (Wk rfl (Wk rfl (Wk rfl (Wk rfl (Wk rfl (Wk rfl (Wk rfl trivial)))))))) (Wi rfl (Wi rfl (Wi rfl (Wj rfl (LeOb.arr' rfl (fun i i0 i1 j hj=>by exfalso;revert i1;show i < (0:Int)→False;omega)) (Wi rfl trivial)))))
         obtain ⟨at',seq1⟩:=x
         try dsimp only at h
         obtain ⟨u7c,u7g,u7t⟩:=u7;obtain ⟨hu7c,hu7g⟩:0 < u7c∧∀ k,u7g k < u7c:=hu7
         refine Wc [] [] [] 0 [] fun N hN=>?_
         generalize hp:std Tryz.prog=p;generalize hv:nvS=nv;cbv;subst hp hv
         refine ⟨fun h141=>?_,fun h141=>?_⟩
         · replace h:=iteO_t h h141
           replace h:=chk_some h;obtain ⟨h142,h⟩:=h
           try (have h142z:=h142;simp only [Int.zero_add] at h142z)
           replace h:=chk_some h;obtain ⟨h143,h⟩:=h
           refine ⟨h142,rfl,rfl,(by have:=hu7g 124;show (_:Nat) < _;(try dsimp only [std_eq,stdN]);omega),h143,?_⟩
           replace h:=chk_some h;obtain ⟨h144,h⟩:=h
           try (have h144z:=h144;simp only [Int.zero_add] at h144z)
           refine ⟨h144,rfl,?_⟩
           subst hN;cases h
           exact Exists.intro ⟨u7c+12,gfn [(30,u7g 30),(60,u7g 60),(63,u7g 63),(124,u7c+1),(128,u7g 128)],tfn [(30,u7t 30),(60,u7t 60),(63,u7t 63),(124,false),(128,u7t 128)]⟩ (And.intro Wh (Wg (Wk rfl (Wk rfl (Wk rfl (Wk rfl (Wq rfl (LeD.vec rfl Wy) (Wk rfl (Wk rfl (Wk rfl trivial)))))))) (Wi rfl (Wi rfl (Wi rfl (Wa rfl (Wi rfl trivial)))))))
         replace h:=iteO_f h h141
         subst hN;cases h
         intro he;cases he
         exact Exists.intro ⟨u7c+10,gfn [(30,u7g 30),(60,u7g 60),(63,u7g 63),(124,u7g 124),(128,u7g 128)],tfn [(30,u7t 30),(60,u7t 60),(63,u7t 63),(124,u7t 124),(128,u7t 128)]⟩ (And.intro Wh (Wg (Wk rfl (Wk rfl (Wk rfl (Wk rfl (Wq rfl (LeD.vec rfl Wy) (Wk rfl (Wk rfl trivial))))))) (Wi rfl (Wi rfl (Wi rfl (Wa rfl (Wi rfl trivial)))))))
       replace h:=iteO_f h h109
       subst hN;cases h
       intro he;cases he
       exact Exists.intro ⟨u4c+10,gfn [(128,u4g 128)],tfn [(128,u4t 128)]⟩ (And.intro Wh (Wg (Wq rfl (LeD.vec rfl Wy) trivial) (Wa rfl trivial)))
     refine Wx [] [] [] 0 [] 1 fun N hN=>?_
     generalize hp:std Tryz.prog=p;generalize hv:nvS=nv;cbv;subst hp hv
     subst hN;show Tr _ _ _ _
     refine Tr.block ?_
     refine Tr.loopO (α:=Int × List Int × List Bool) (fun (v4,behind1,joined1) u8=>(WF 131 [(0,WS nvS l'),(7,.vec 28 (u8.g 28) 1 0 (nvS.len v1)),(8,.vec 30 (u8.g 30) 1 0 (nvS.len v2)),(9,.vec 34 (u8.g 34) 1 0 ((std Tryz.prog).add (nvS.len l') 1)),(13,.vec 60 (u8.g 60) 1 0 (nvS.len v2)),(14,.vec 63 (u8.g 63) 1 0 (nvS.len v2)),(64,.vec 30 (u8.g 30) 1 0 (nvS.len v2)),(65,WV (nvS.len v2)),(66,WV v4)] 131 [(28,.arr (u8.g 28) 1 (nvS.len v1) (u8.t 28) (WI nvS v1)),(30,.arr (u8.g 30) 1 (nvS.len v2) (u8.t 30) (fun ix jx=>(.sl 1 (nvS.len (nvS.get [] v2 ix)) false (fun ix1 jx1=>(WV (nvS.get 0 (nvS.get [] v2 ix) ix1)))))),(34,.arr (u8.g 34) 1 ((std Tryz.prog).add (nvS.len l') 1) (u8.t 34) (WI nvS heads1)),(60,.arr (u8.g 60) 1 (nvS.len v2) (u8.t 60) (WI nvS behind1)),(63,.arr (u8.g 63) 1 (nvS.len v2) (u8.t 63) (fun ix jx=>(.v (.bool (nvS.get false joined1 ix)))))] u8)) (fun (v4,behind1,joined1) t=>Hid.ok t∧lenL behind1=(lenL v2)∧lenL joined1=(lenL v2)) ⟨u1c+12,gfn [(28,u1g 28),(30,u1g 30),(34,u1g 34),(60,u1c+0),(63,u1c+1)],tfn [(28,u1t 28),(30,u1t 30),(34,u1t 34),(60,((std Tryz.prog).eq (nvS.len v2) (nvS.len v2))),(63,((std Tryz.prog).eq (nvS.len v2) (nvS.len v2)))]⟩ h ?_ ?_ (fun x u8 f hu8 h=>?_)
     · exact (And.intro Wh (And.intro Wf Wf))
     · exact (Wg (Wk rfl (Wk rfl (Wk rfl (Wk rfl (Wk rfl (Wk rfl (Wk rfl (Wk rfl (Wk rfl trivial))))))))) (Wi rfl (Wi rfl (Wi rfl (Wa rfl (Wa rfl trivial))))))
     obtain ⟨v4,behind1,joined1⟩:=x
     try dsimp only at h
     obtain ⟨hu8,ht'8_f0,ht'8_f1⟩:=hu8
     obtain ⟨u8c,u8g,u8t⟩:=u8;obtain ⟨hu8c,hu8g⟩:0 < u8c∧∀ k,u8g k < u8c:=hu8
     obtain ⟨v5,h183⟩ : ∃ v5,valO false (embed_isolate (getL 0 l' (getL 0 (getL [] v2 (0+v4)) ((lenL (getL [] v2 (0+v4)))-1))))=v5:=⟨_,rfl⟩
     refine Wc [] [(84,.plain (.v (.bool v5)))] [] 0 [] fun N hN=>?_
     generalize hp:std Tryz.prog=p;generalize hv:nvS=nv;cbv;subst hp hv
     refine ⟨fun h177=>?_,fun h177=>?_⟩
     · replace h:=iteO_t h h177
       replace h:=chk_some h;obtain ⟨h178,h⟩:=h
       try (have h178z:=h178;simp only [Int.zero_add] at h178z)
       refine ⟨h178,rfl,?_⟩
       replace h:=chk_some h;obtain ⟨h179,h⟩:=h
       try (have h179z:=h179;simp only [Int.zero_add] at h179z)
       refine ⟨h179,rfl,?_⟩
       replace h:=chk_some h;obtain ⟨h180,h⟩:=h
       replace h:=chk_some h;obtain ⟨h181,h⟩:=h
       try (have h181z:=h181;simp only [Int.zero_add] at h181z)
       refine ⟨h180,h181,?_⟩
       replace h:=chk_some h;obtain ⟨h182,h⟩:=h
       try (have h182z:=h182;simp only [Int.zero_add] at h182z)
       replace h:=bindO_val h183 h;clear h183;obtain ⟨h183,h⟩:=h
       refine ⟨h182,(Or.inl (PureFn.arg (embed_isolate_ok (getL 0 l' (getL 0 (getL [] v2 (0+v4)) ((lenL (getL [] v2 (0+v4)))-1))) v5 h183) (And.intro (LeD.refl _) trivial))),?_⟩
       refine ⟨fun h184=>?_,fun h184=>?_⟩
       · replace h:=iteO_t h h184
         replace h:=chk_some h;obtain ⟨h185,h⟩:=h
         refine ⟨h185,?_⟩
         subst hN;cases h
         exact Exists.intro ⟨u8c+15,gfn [(28,u8g 28),(30,u8g 30),(34,u8g 34),(60,u8g 60),(63,u8g 63)],tfn [(28,u8t 28),(30,u8t 30),(34,u8t 34),(60,u8t 60),(63,u8t 63)]⟩ (And.intro ((And.intro Wh (And.intro Wf Wf))) (Wg (Wk rfl (Wk rfl (Wk rfl (Wk rfl (Wk rfl (Wk rfl (Wk rfl (Wk rfl (Wk rfl trivial))))))))) (Wi rfl (Wi rfl (Wi rfl (Wa rfl (Wi rfl trivial)))))))
       replace h:=iteO_f h h184
       replace h:=chk_some h;obtain ⟨h186,h⟩:=h
       try (have h186z:=h186;simp only [Int.zero_add] at h186z)
       replace h:=chk_some h;obtain ⟨h187,h⟩:=h
       try (have h187z:=h187;simp only [Int.zero_add] at h187z)
       refine ⟨h186,rfl,h187,rfl,?_⟩
       refine ⟨fun h188=>?_,fun h188=>?_⟩
       · replace h:=iteO_t h h188
         replace h:=chk_some h;obtain ⟨h189,h⟩:=h
         try (have h189z:=h189;simp only [Int.zero_add] at h189z)
         refine ⟨h189,rfl,?_⟩
         replace h:=chk_some h;obtain ⟨h190,h⟩:=h
         try (have h190z:=h190;simp only [Int.zero_add] at h190z)
         refine ⟨h190,rfl,?_⟩
         replace h:=chk_some h;obtain ⟨h191,h⟩:=h
         refine ⟨h191,?_⟩
         subst hN;cases h
         exact Exists.intro ⟨u8c+19,gfn [(28,u8g 28),(30,u8g 30),(34,u8g 34),(60,u8g 60),(63,u8g 63)],tfn [(28,u8t 28),(30,u8t 30),(34,u8t 34),(60,u8t 60),(63,u8t 63)]⟩ (And.intro ((And.intro Wh (And.intro Wf Wf))) (Wg (Wk rfl (Wk rfl (Wk rfl (Wk rfl (Wk rfl (Wk rfl (Wk rfl (Wk rfl (Wk rfl trivial))))))))) (Wi rfl (Wi rfl (Wi rfl (Wa rfl (Wa rfl trivial)))))))
       replace h:=iteO_f h h188
       replace h:=chk_some h;obtain ⟨h192,h⟩:=h
       refine ⟨h192,?_⟩
       subst hN;cases h
       exact Exists.intro ⟨u8c+17,gfn [(28,u8g 28),(30,u8g 30),(34,u8g 34),(60,u8g 60),(63,u8g 63)],tfn [(28,u8t 28),(30,u8t 30),(34,u8t 34),(60,u8t 60),(63,u8t 63)]⟩ (And.intro ((And.intro Wh (And.intro Wf Wf))) (Wg (Wk rfl (Wk rfl (Wk rfl (Wk rfl (Wk rfl (Wk rfl (Wk rfl (Wk rfl (Wk rfl trivial))))))))) (Wi rfl (Wi rfl (Wi rfl (Wa rfl (Wi rfl trivial)))))))
     replace h:=iteO_f h h177
     subst hN;cases h
     intro he;cases he
     exact Exists.intro ⟨u8c+10,gfn [(30,u8g 30),(60,u8g 60),(63,u8g 63)],tfn [(30,u8t 30),(60,u8t 60),(63,u8t 63)]⟩ (And.intro ((And.intro Wh (And.intro Wf Wf))) (Wg (Wk rfl (Wk rfl (Wk rfl trivial))) (Wi rfl (Wi rfl (Wi rfl trivial)))))
   refine Wx [] [] [] 0 [] 1 fun N hN=>?_
   generalize hp:std Tryz.prog=p;generalize hv:nvS=nv;cbv;subst hp hv
   subst hN;show Tr _ _ _ _
   refine Tr.block ?_
   refine Tr.loopO (α:=Int × List Int) (fun (v6,heads2) u9=>(WF 131 [(0,WS nvS l'),(7,.vec 28 (u9.g 28) 1 0 (nvS.len v1)),(8,.vec 30 (u9.g 30) 1 0 (nvS.len v2)),(9,.vec 34 (u9.g 34) 1 0 ((std Tryz.prog).add (nvS.len l') 1)),(44,.vec 30 (u9.g 30) 1 0 (nvS.len v2)),(45,WV (nvS.len v2)),(46,WV v6)] 131 [(28,.arr (u9.g 28) 1 (nvS.len v1) (u9.t 28) (WI nvS v1)),(30,.arr (u9.g 30) 1 (nvS.len v2) (u9.t 30) (fun ix jx=>(.sl 1 (nvS.len (nvS.get [] v2 ix)) false (fun ix1 jx1=>(WV (nvS.get 0 (nvS.get [] v2 ix) ix1)))))),(34,.arr (u9.g 34) 1 ((std Tryz.prog).add (nvS.len l') 1) (u9.t 34) (WI nvS heads2))] u9)) (fun (v6,heads2) t=>Hid.ok t∧lenL heads2=((lenL l')+1)) ⟨uc+10,gfn [(28,ug 28),(30,ug 30),(34,ug 34)],tfn [(28,ut 28),(30,ut 30),(34,ut 34)]⟩ h ?_ ?_ (fun x u9 f hu9 h=>?_)
   · exact (And.intro Wh Wf)
   · exact (Wg (Wk rfl (Wk rfl (Wk rfl (Wk rfl (Wk rfl (Wk rfl (Wk rfl trivial))))))) (Wi rfl (Wi rfl (Wi rfl trivial))))
   obtain ⟨v6,heads2⟩:=x
   try dsimp only at h
   obtain ⟨hu9,ht'9_f0⟩:=hu9
   obtain ⟨u9c,u9g,u9t⟩:=u9;obtain ⟨hu9c,hu9g⟩:0 < u9c∧∀ k,u9g k < u9c:=hu9
   refine Wc [] [] [] 0 [] fun N hN=>?_
   generalize hp:std Tryz.prog=p;generalize hv:nvS=nv;cbv;subst hp hv
   refine ⟨fun h203=>?_,fun h203=>?_⟩
   · replace h:=iteO_t h h203
     replace h:=chk_some h;obtain ⟨h204,h⟩:=h
     try (have h204z:=h204;simp only [Int.zero_add] at h204z)
     refine ⟨h204,rfl,?_⟩
     replace h:=chk_some h;obtain ⟨h205,h⟩:=h
     replace h:=chk_some h;obtain ⟨h206,h⟩:=h
     try (have h206z:=h206;simp only [Int.zero_add] at h206z)
     refine ⟨h205,h206,rfl,?_⟩
     replace h:=chk_some h;obtain ⟨h207,h⟩:=h
     refine ⟨h207,?_⟩
     subst hN;cases h
     exact Exists.intro ⟨u9c+13,gfn [(28,u9g 28),(30,u9g 30),(34,u9g 34)],tfn [(28,u9t 28),(30,u9t 30),(34,u9t 34)]⟩ (And.intro ((And.intro Wh Wf)) (Wg (Wk rfl (Wk rfl (Wk rfl (Wk rfl (Wk rfl (Wk rfl (Wk rfl trivial))))))) (Wi rfl (Wi rfl (Wa rfl trivial)))))
   replace h:=iteO_f h h203
   subst hN;cases h
   intro he;cases he
   exact Exists.intro ⟨u9c+10,gfn [(28,u9g 28),(30,u9g 30),(34,u9g 34)],tfn [(28,u9t 28),(30,u9t 30),(34,u9t 34)]⟩ (And.intro ((And.intro Wh Wf)) (Wg (Wk rfl (Wk rfl (Wk rfl (Wk rfl trivial)))) (Wi rfl (Wi rfl (Wi rfl trivial)))))
 refine Wx [] [] [] 0 [] 1 fun N hN=>?_
 generalize hp:std Tryz.prog=p;generalize hv:nvS=nv;cbv;subst hp hv
 subst hN;show Tr _ _ _ _
 refine Tr.block ?_
 refine Tr.loopO (α:=Int × List Int) (fun (v7,heads3) u10=>(WF 131 [(0,WS nvS l'),(7,.vec 28 (u10.g 28) 1 0 (nvS.len v1)),(8,.vec 30 (u10.g 30) 1 0 (nvS.len v2)),(9,.vec 34 (u10.g 34) 1 0 ((std Tryz.prog).add (nvS.len l') 1)),(36,WV ((std Tryz.prog).add (nvS.len l') 1)),(37,WV v7)] 131 [(28,.arr (u10.g 28) 1 (nvS.len v1) (u10.t 28) (WI nvS v1)),(30,.arr (u10.g 30) 1 (nvS.len v2) (u10.t 30) (fun ix jx=>(.sl 1 (nvS.len (nvS.get [] v2 ix)) false (fun ix1 jx1=>(WV (nvS.get 0 (nvS.get [] v2 ix) ix1)))))),(34,.arr (u10.g 34) 1 ((std Tryz.prog).add (nvS.len l') 1) (u10.t 34) (WI nvS heads3))] u10)) (fun (v7,heads3) t=>Hid.ok t∧lenL heads3=((lenL l')+1)) ⟨ctr+15,gfn [(28,ctr+2),(30,ctr+3),(34,ctr+4)],tfn [(28,false),(30,false),(34,((std Tryz.prog).eq ((std Tryz.prog).add (nvS.len l') 1) ((std Tryz.prog).add (nvS.len l') 1)))]⟩ h ?_ ?_ (fun x u10 f hu10 h=>?_)
 · exact (And.intro Wh Wf)
 · exact (Wg (Wk rfl (Wk rfl (Wk rfl (Wk rfl (Wk rfl (Wk rfl trivial)))))) (Wi rfl (Wi rfl (Wa rfl trivial))))
 obtain ⟨v7,heads3⟩:=x
 try dsimp only at h
 obtain ⟨hu10,ht'10_f0⟩:=hu10
 obtain ⟨u10c,u10g,u10t⟩:=u10;obtain ⟨hu10c,hu10g⟩:0 < u10c∧∀ k,u10g k < u10c:=hu10
 refine Wc [] [] [] 0 [] fun N hN=>?_
 generalize hp:std Tryz.prog=p;generalize hv:nvS=nv;cbv;subst hp hv
 refine ⟨fun h214=>?_,fun h214=>?_⟩
 · replace h:=iteO_t h h214
   replace h:=chk_some h;obtain ⟨h215,h⟩:=h
   try (have h215z:=h215;simp only [Int.zero_add] at h215z)
   refine ⟨h215,rfl,?_⟩
   replace h:=chk_some h;obtain ⟨h216,h⟩:=h
   refine ⟨h216,?_⟩
   subst hN;cases h
   exact Exists.intro ⟨u10c+13,gfn [(28,u10g 28),(30,u10g 30),(34,u10g 34)],tfn [(28,u10t 28),(30,u10t 30),(34,u10t 34)]⟩ (And.intro ((And.intro Wh Wf)) (Wg (Wk rfl (Wk rfl (Wk rfl (Wk rfl (Wk rfl (Wk rfl trivial)))))) (Wi rfl (Wi rfl (Wa rfl trivial)))))
 replace h:=iteO_f h h214
 subst hN;cases h
 intro he;cases he
 exact Exists.intro ⟨u10c+10,gfn [(28,u10g 28),(30,u10g 30),(34,u10g 34)],tfn [(28,u10t 28),(30,u10t 30),(34,u10t 34)]⟩ (And.intro ((And.intro Wh Wf)) (Wg (Wk rfl (Wk rfl (Wk rfl (Wk rfl trivial)))) (Wi rfl (Wi rfl (Wi rfl trivial)))))
theorem embed_Edges_ok (l':(List Int)) (r':T_embed_Run) (base:Int) (seq:(List Int)) (r:(Int × Int)) (h:embed_Edges l' r' base seq=some r):PureFn Tryz.prog 45 [(WS nvS l'),(.agg 3 (fun j=>(D_embed_Run nvS r' j))),(WV base),(WS nvS seq)] (.tup 2 (fun j=>match j with | 0=>(WV r.1) | 1=>(WV r.2) | _=>.junk)):=by
 obtain ⟨r_Levels,r_Classes,r_Removed⟩:=r'
 unfold embed_Edges at h
 try dsimp only at h
 refine fn_tr tt0_ok Tryz.func45 (by kernel_rfl) (c:=bodyOf Tryz.f45) (by kernel_rfl) ?_
 intro ctr hc
 obtain ⟨v,h1⟩ : ∃ v,valO false (embed_fits l' (T_embed_Run.mk r_Levels r_Classes r_Removed))=v:=⟨_,rfl⟩
 refine Wx [] [(21,.plain (.v (.bool v)))] [] 0 [] 2 fun N hN=>?_
 generalize hp:std Tryz.prog=p;generalize hv:nvS=nv;cbv;subst hp hv
 replace h:=bindO_val h1 h;clear h1;obtain ⟨h1,h⟩:=h
 refine ⟨rfl,(Or.inl (PureFn.arg (embed_fits_ok l' (T_embed_Run.mk r_Levels r_Classes r_Removed) v h1) (And.intro (LeD.refl _) (And.intro (LeD.agg fun j hj=>by
  have hj2:j < 3:=hj
  rcases (show j=0∨j=1∨j=2 by omega) with rfl | rfl | rfl
  · exact LeD.refl _
  · exact LeD.refl _
  exact LeD.refl _) trivial)))),(fun hg=>hg),(fun hg=>hg),(fun hg=>hg),?_⟩
 refine ⟨fun h2=>?_,fun h2=>?_⟩
 · replace h:=iteO_t h h2
   subst hN;have hr:=Option.some.inj h
   subst hr
   try dsimp only [noGoto,inBlockQ,thenQ]
   repeat (first | refine Wt ?_ | refine We ?_)
   exact retQ_ret rfl trivial (And.intro (rfl)
    rfl)
 replace h:=iteO_f h h2
 subst hN;show Tr _ _ _ _
 refine Tr.cutSeq (α:=Unit) h (fun _ u=>(WF 121 [(0,WS nvS l'),(2,WV base),(3,WS nvS seq),(5,.bref 5 (u.g 5) 0)] 121 [(5,.box (u.g 5) [WS nvS r_Levels,WS nvS r_Classes,.sl 1 (nvS.len r_Removed) false (fun ix jx=>(.v (.bool (nvS.get false r_Removed ix))))])] u)) (fun _ t=>Hid.ok t) (fun x u hu h=>?_) (fun f h=>?_)
 · obtain ⟨uc,ug,ut⟩:=u;obtain ⟨huc,hug⟩:0 < uc∧∀ k,ug k < uc:=hu
   obtain ⟨v1,h14⟩ : ∃ v1,valO 0 (embed_parity base)=v1:=⟨_,rfl⟩
   obtain ⟨v2,h15⟩ : ∃ v2,valO 0 (embed_parity base)=v2:=⟨_,rfl⟩
   refine Wx [] [(53,.plain (WV v1)),(55,.plain (WV v2))] [] 0 [] 2 fun N hN=>?_
   generalize hp:std Tryz.prog=p;generalize hv:nvS=nv;cbv;subst hp hv
   replace h:=chk_some h;obtain ⟨h11,h⟩:=h
   replace h:=chk_some h;obtain ⟨h12,h⟩:=h
   replace h:=chk_some h;obtain ⟨h13,h⟩:=h
   try (have h13z:=h13;simp only [Int.zero_add] at h13z)
   refine ⟨h11,h12,h13,(show drOk _ _=true by kernel_rfl),?_⟩
   replace h:=bindO_val h14 h;clear h14;obtain ⟨h14,h⟩:=h
   replace h:=bindO_val h15 h;clear h15;obtain ⟨h15,h⟩:=h
   refine ⟨(Or.inl (PureFn.arg (embed_parity_ok base v1 h14) (And.intro (LeD.refl _) trivial))),(Or.inl (PureFn.arg (embed_parity_ok base v2 h15) (And.intro (LeD.refl _) trivial))),?_⟩
   subst hN;show Tr _ _ _ _
   refine Tr.cutSeq (α:=Int) h (fun ahead u1=>(WF 121 [(0,WS nvS l'),(5,.bref 5 (u1.g 5) 0),(12,WV (nvS.get 0 seq 0)),(13,WV (nvS.get 0 seq ((std Tryz.prog).sub (nvS.len seq) 1))),(14,WV ahead),(15,WV v2)] 121 [(5,.box (u1.g 5) [WS nvS r_Levels,WS nvS r_Classes,.sl 1 (nvS.len r_Removed) false (fun ix jx=>(.v (.bool (nvS.get false r_Removed ix))))])] u1)) (fun _ t=>Hid.ok t) (fun x u1 hu1 h=>?_) (fun f h=>?_)
   · revert h;revert hu1;revert x;intro ahead hu1 h
     obtain ⟨u1c,u1g,u1t⟩:=u1;obtain ⟨hu1c,hu1g⟩:0 < u1c∧∀ k,u1g k < u1c:=hu1
     refine Tr.cutSeq (α:=Int) h (fun behind u2=>(WF 121 [(5,.bref 5 (u2.g 5) 0),(12,WV (nvS.get 0 seq 0)),(14,WV ahead),(15,WV behind)] 121 [(5,.box (u2.g 5) [WS nvS r_Levels,WS nvS r_Classes,.sl 1 (nvS.len r_Removed) false (fun ix jx=>(.v (.bool (nvS.get false r_Removed ix))))])] u2)) (fun _ t=>Hid.ok t) (fun x u2 hu2 h=>?_) (fun f h=>?_)
     · revert h;revert hu2;revert x;intro behind hu2 h
       obtain ⟨u2c,u2g,u2t⟩:=u2;obtain ⟨hu2c,hu2g⟩:0 < u2c∧∀ k,u2g k < u2c:=hu2
       obtain ⟨v3,h44⟩ : ∃ v3,valO 0 (embed_side (imaxI (getL 0 r_Levels (getL 0 seq 0)) ahead))=v3:=⟨_,rfl⟩
       obtain ⟨v4,h45⟩ : ∃ v4,valO 0 (embed_side (imaxI (getL 0 r_Levels (getL 0 seq 0)) behind))=v4:=⟨_,rfl⟩
       refine Wc [] [(116,.plain (WV v3)),(120,.plain (WV v4))] [] 0 [] fun N hN=>?_
       generalize hp:std Tryz.prog=p;generalize hv:nvS=nv;cbv;subst hp hv
       replace h:=chk_some h;obtain ⟨h43,h⟩:=h
       try (have h43z:=h43;simp only [Int.zero_add] at h43z)
       refine ⟨rfl,h43,?_⟩
       replace h:=bindO_val h44 h;clear h44;obtain ⟨h44,h⟩:=h
       replace h:=bindO_val h45 h;clear h45;obtain ⟨h45,h⟩:=h
       refine ⟨(Or.inl (PureFn.arg (embed_side_ok (imaxI (getL 0 r_Levels (getL 0 seq 0)) ahead) v3 h44) (And.intro (LeD.refl _) trivial))),(Or.inl (PureFn.arg (embed_side_ok (imaxI (getL 0 r_Levels (getL 0 seq 0)) behind) v4 h45) (And.intro (LeD.refl _) trivial))),?_⟩
       subst hN;have hr:=Option.some.inj h
       subst hr
       try dsimp only [noGoto,inBlockQ,thenQ]
       repeat (first | refine Wt ?_ | refine We ?_)
       exact retQ_ret rfl trivial (And.intro (rfl)
        rfl)
     obtain ⟨v5,h47⟩ : ∃ v5,valO false (embed_isolate (getL 0 l' (getL 0 seq ((lenL seq)-1))))=v5:=⟨_,rfl⟩
     obtain ⟨v6,h48⟩ : ∃ v6,valO [] (if (!(!v5))=true then embed_Match l' else some [])=v6:=⟨_,rfl⟩
     refine Wx [] [(77,.plain (.v (.bool v5))),(81,.plain (WS nvS v6))] [] 0 [] 1 fun N hN=>?_
     generalize hp:std Tryz.prog=p;generalize hv:nvS=nv;cbv;subst hp hv
     replace h:=chk_some h;obtain ⟨h46,h⟩:=h
     try (have h46z:=h46;simp only [Int.zero_add] at h46z)
     replace h:=bindO_val h47 h;clear h47;obtain ⟨h47,h⟩:=h
     replace h:=bindO_val h48 h;clear h48;obtain ⟨h48,h⟩:=h
     replace h:=chk_some h;obtain ⟨h49,h⟩:=h
     refine ⟨h46,(Or.inl (PureFn.arg (embed_isolate_ok (getL 0 l' (getL 0 seq ((lenL seq)-1))) v5 h47) (And.intro (LeD.refl _) trivial))),(fun hg=>hg),(fun hg=>by have h48:=guardO h48 hg;exact (Or.inl (PureFn.arg (PureFn.sl (embed_Match_ok l' v6 h48)) (And.intro (LeD.refl _) trivial)))),(fun hg=>hg),(fun hg=>hg),h49,(fun hg=>hg),(fun hg=>hg),(fun hg=>hg),(fun hg=>hg),(fun hg=>hg),?_⟩
     subst hN;show Tr _ _ _ _
     refine Tr.cond rfl (fun q hq=>by cases hq) (fun h50=>?_) (fun h50=>?_)
     · replace h:=iteO_t h h50
       refine Wx [] [] [] 0 [] 1 fun N hN=>?_
       generalize hp:std Tryz.prog=p;generalize hv:nvS=nv;cbv;subst hp hv
       replace h:=chk_some h;obtain ⟨h51,h⟩:=h
       refine ⟨h51,?_⟩
       subst hN;show Tr _ _ _ _
       refine Tr.block ?_
       refine Tr.loopO (α:=Int) (fun i1 u3=>(WF 121 [(0,WS nvS l'),(5,.bref 5 (u3.g 5) 0),(12,WV (nvS.get 0 seq 0)),(14,WV ahead),(15,WV v2),(17,WV i1)] 121 [(5,.box (u3.g 5) [WS nvS r_Levels,WS nvS r_Classes,.sl 1 (nvS.len r_Removed) false (fun ix jx=>(.v (.bool (nvS.get false r_Removed ix))))])] u3)) (fun _ t=>Hid.ok t) ⟨u1c+11,gfn [(5,u1g 5)],tfn [(5,false)]⟩ h ?_ ?_ (fun x u3 f hu3 h=>?_)
       · exact Wh
       · exact (Wg (Wk rfl (Wk rfl (Wk rfl (Wk rfl (Wk rfl (Wk rfl trivial)))))) (Wi rfl trivial))
       revert h;revert hu3;revert x;intro i1 hu3 h
       obtain ⟨u3c,u3g,u3t⟩:=u3;obtain ⟨hu3c,hu3g⟩:0 < u3c∧∀ k,u3g k < u3c:=hu3
       refine Wc [] [] [] 0 [] fun N hN=>?_
       generalize hp:std Tryz.prog=p;generalize hv:nvS=nv;cbv;subst hp hv
       refine ⟨fun h62=>?_,fun h62=>?_⟩
       · replace h:=iteO_t h h62
         replace h:=chk_some h;obtain ⟨h63,h⟩:=h
         try (have h63z:=h63;simp only [Int.zero_add] at h63z)
         refine ⟨rfl,h63,?_⟩
         refine ⟨fun h64=>?_,fun h64=>?_⟩
         · replace h:=iteO_t h h64
           replace h:=chk_some h;obtain ⟨h65,h⟩:=h
           try (have h65z:=h65;simp only [Int.zero_add] at h65z)
           refine ⟨rfl,h65,?_⟩
           subst hN;cases h
           intro he;cases he
           exact Exists.intro ⟨u3c+12,gfn [(5,u3g 5)],tfn [(5,false)]⟩ (And.intro Wh (Wg (Wk rfl (Wk rfl (Wk rfl (Wk rfl trivial)))) (Wi rfl trivial)))
         replace h:=iteO_f h h64
         replace h:=chk_some h;obtain ⟨h66,h⟩:=h
         refine ⟨h66,?_⟩
         subst hN;cases h
         exact Exists.intro ⟨u3c+12,gfn [(5,u3g 5)],tfn [(5,false)]⟩ (And.intro Wh (Wg (Wk rfl (Wk rfl (Wk rfl (Wk rfl (Wk rfl (Wk rfl trivial)))))) (Wi rfl trivial)))
       replace h:=iteO_f h h62
       subst hN;cases h
       intro he;cases he
       exact Exists.intro ⟨u3c+10,gfn [(5,u3g 5)],tfn [(5,false)]⟩ (And.intro Wh (Wg (Wk rfl (Wk rfl (Wk rfl (Wk rfl trivial)))) (Wi rfl trivial)))
     replace h:=iteO_f h h50
     refine Wc [] [] [] 0 [] fun N hN=>?_
     generalize hp:std Tryz.prog=p;generalize hv:nvS=nv;cbv;subst hp hv
     subst hN;cases h
     exact Exists.intro ⟨u1c+10,gfn [(5,u1g 5)],tfn [(5,false)]⟩ (And.intro Wh (Wg (Wk rfl (Wk rfl (Wk rfl (Wk rfl trivial)))) (Wi rfl trivial)))
   refine Wx [] [] [] 0 [] 1 fun N hN=>?_
   generalize hp:std Tryz.prog=p;generalize hv:nvS=nv;cbv;subst hp hv
   replace h:=chk_some h;obtain ⟨h67,h⟩:=h
   refine ⟨h67,?_⟩
   subst hN;show Tr _ _ _ _
   refine Tr.block ?_
   refine Tr.loopO (α:=Int) (fun i4 u4=>(WF 121 [(0,WS nvS l'),(5,.bref 5 (u4.g 5) 0),(12,WV (nvS.get 0 seq 0)),(13,WV (nvS.get 0 seq ((std Tryz.prog).sub (nvS.len seq) 1))),(14,WV v1),(15,WV v2),(16,WV i4)] 121 [(5,.box (u4.g 5) [WS nvS r_Levels,WS nvS r_Classes,.sl 1 (nvS.len r_Removed) false (fun ix jx=>(.v (.bool (nvS.get false r_Removed ix))))])] u4)) (fun _ t=>Hid.ok t) ⟨uc+12,gfn [(5,ug 5)],tfn [(5,false)]⟩ h ?_ ?_ (fun x u4 f hu4 h=>?_)
   · exact Wh
   · exact (Wg (Wk rfl (Wk rfl (Wk rfl (Wk rfl (Wk rfl (Wk rfl (Wk rfl trivial))))))) (Wi rfl trivial))
   revert h;revert hu4;revert x;intro i4 hu4 h
   obtain ⟨u4c,u4g,u4t⟩:=u4;obtain ⟨hu4c,hu4g⟩:0 < u4c∧∀ k,u4g k < u4c:=hu4
   refine Wc [] [] [] 0 [] fun N hN=>?_
   generalize hp:std Tryz.prog=p;generalize hv:nvS=nv;cbv;subst hp hv
   refine ⟨fun h78=>?_,fun h78=>?_⟩
   · replace h:=iteO_t h h78
     replace h:=chk_some h;obtain ⟨h79,h⟩:=h
     try (have h79z:=h79;simp only [Int.zero_add] at h79z)
     refine ⟨rfl,h79,?_⟩
     refine ⟨fun h80=>?_,fun h80=>?_⟩
     · replace h:=iteO_t h h80
       replace h:=chk_some h;obtain ⟨h81,h⟩:=h
       try (have h81z:=h81;simp only [Int.zero_add] at h81z)
       refine ⟨rfl,h81,?_⟩
       subst hN;cases h
       intro he;cases he
       exact Exists.intro ⟨u4c+12,gfn [(5,u4g 5)],tfn [(5,false)]⟩ (And.intro Wh (Wg (Wk rfl (Wk rfl (Wk rfl (Wk rfl (Wk rfl (Wk rfl trivial)))))) (Wi rfl trivial)))
     replace h:=iteO_f h h80
     replace h:=chk_some h;obtain ⟨h82,h⟩:=h
     refine ⟨h82,?_⟩
     subst hN;cases h
     exact Exists.intro ⟨u4c+12,gfn [(5,u4g 5)],tfn [(5,false)]⟩ (And.intro Wh (Wg (Wk rfl (Wk rfl (Wk rfl (Wk rfl (Wk rfl (Wk rfl (Wk rfl trivial))))))) (Wi rfl trivial)))
   replace h:=iteO_f h h78
   subst hN;cases h
   intro he;cases he
   exact Exists.intro ⟨u4c+10,gfn [(5,u4g 5)],tfn [(5,false)]⟩ (And.intro Wh (Wg (Wk rfl (Wk rfl (Wk rfl (Wk rfl (Wk rfl (Wk rfl trivial)))))) (Wi rfl trivial)))
 refine Wx [] [] [] 0 [] 1 fun N hN=>?_
 generalize hp:std Tryz.prog=p;generalize hv:nvS=nv;cbv;subst hp hv
 subst hN;show Tr _ _ _ _
 refine Tr.block ?_
 refine Tr.loopO (α:=Int) (fun v7 u5=>(WF 121 [(0,WS nvS l'),(2,WV base),(3,WS nvS seq),(5,.bref 5 (u5.g 5) 0),(28,WS nvS seq),(29,WV (nvS.len seq)),(30,WV v7)] 121 [(5,.box (u5.g 5) [WS nvS r_Levels,WS nvS r_Classes,.sl 1 (nvS.len r_Removed) false (fun ix jx=>(.v (.bool (nvS.get false r_Removed ix))))])] u5)) (fun _ t=>Hid.ok t) ⟨ctr+12,gfn [(5,ctr+0)],tfn [(5,false)]⟩ h ?_ ?_ (fun x u5 f hu5 h=>?_)
 · exact Wh
 · exact (Wg (Wk rfl (Wk rfl (Wk rfl (Wk rfl (Wk rfl (Wk rfl (Wk rfl trivial))))))) (Wi rfl trivial))
 revert h;revert hu5;revert x;intro v7 hu5 h
 obtain ⟨u5c,u5g,u5t⟩:=u5;obtain ⟨hu5c,hu5g⟩:0 < u5c∧∀ k,u5g k < u5c:=hu5
 refine Wc [] [] [] 0 [] fun N hN=>?_
 generalize hp:std Tryz.prog=p;generalize hv:nvS=nv;cbv;subst hp hv
 refine ⟨fun h91=>?_,fun h91=>?_⟩
 · replace h:=iteO_t h h91
   replace h:=chk_some h;obtain ⟨h92,h⟩:=h
   try (have h92z:=h92;simp only [Int.zero_add] at h92z)
   refine ⟨h92,?_⟩
   refine ⟨(fun hg=>hg),(fun hg=>hg),(fun hg=>hg),(fun hg=>hg),?_⟩
   refine ⟨fun h93=>?_,fun h93=>?_⟩
   · replace h:=iteO_t h h93
     subst hN;cases h
     intro he;cases he
     intro hr
     subst hr
     try dsimp only [noGoto,inBlockQ,thenQ]
     repeat (first | refine Wt ?_ | refine We ?_)
     exact retQ_ret rfl trivial (And.intro (rfl)
      rfl)
   replace h:=iteO_f h h93
   replace h:=chk_some h;obtain ⟨h94,h⟩:=h
   refine ⟨h94,?_⟩
   subst hN;cases h
   exact Exists.intro ⟨u5c+13,gfn [(5,u5g 5)],tfn [(5,false)]⟩ (And.intro Wh (Wg (Wk rfl (Wk rfl (Wk rfl (Wk rfl (Wk rfl (Wk rfl (Wk rfl trivial))))))) (Wi rfl trivial)))
 replace h:=iteO_f h h91
 subst hN;cases h
 intro he;cases he
 exact Exists.intro ⟨u5c+10,gfn [(5,u5g 5)],tfn [(5,false)]⟩ (And.intro Wh (Wg (Wk rfl (Wk rfl (Wk rfl (Wk rfl trivial)))) (Wi rfl trivial)))
theorem lapwingref03_Ints_ok (a:(List Int)) (b:(List Int)) (r:Bool) (h:lapwingref03_Ints a b=some r):PureFn Tryz.prog 14 [(WS nvS a),(WS nvS b)] ((.v (.bool r))):=by
 unfold lapwingref03_Ints at h
 refine fn_tr tt0_ok Tryz.func14 (by kernel_rfl) (c:=bodyOf Tryz.f14) (by kernel_rfl) ?_
 intro ctr hc
 refine Wx [] [] [] 0 [] 2 fun N hN=>?_
 generalize hp:std Tryz.prog=p;generalize hv:nvS=nv;cbv;subst hp hv
 refine ⟨fun h1=>?_,fun h1=>?_⟩
 · replace h:=iteO_t h h1
   subst hN;have hr:=Option.some.inj h
   subst hr
   try dsimp only [noGoto,inBlockQ,thenQ]
   repeat (first | refine Wt ?_ | refine We ?_)
   exact retQ_ret rfl trivial rfl
 replace h:=iteO_f h h1
 subst hN;show Tr _ _ _ _
 refine Tr.cutSeq (α:=Unit) h (fun _ u=>(WF 26 [] 26 [] u)) (fun _ t=>Hid.ok t) (fun x u hu h=>?_) (fun f h=>?_)
 · obtain ⟨uc,ug,ut⟩:=u;obtain ⟨huc,hug⟩:0 < uc∧∀ k,ug k < uc:=hu
   refine Wc [] [] [] 0 [] fun N hN=>?_
   generalize hp:std Tryz.prog=p;generalize hv:nvS=nv;cbv;subst hp hv
   subst hN;have hr:=Option.some.inj h
   subst hr
   try dsimp only [noGoto,inBlockQ,thenQ]
   repeat (first | refine Wt ?_ | refine We ?_)
   exact retQ_ret rfl trivial rfl
 refine Wx [] [] [] 0 [] 1 fun N hN=>?_
 generalize hp:std Tryz.prog=p;generalize hv:nvS=nv;cbv;subst hp hv
 subst hN;show Tr _ _ _ _
 refine Tr.block ?_
 refine Tr.loopO (α:=Int) (fun i u1=>(WF 26 [(0,WS nvS a),(1,WS nvS b),(5,WV i)] 26 [] u1)) (fun _ t=>Hid.ok t) ⟨ctr+12,gfn [],tfn []⟩ h ?_ ?_ (fun x u1 f hu1 h=>?_)
 · exact Wh
 · exact (Wg (Wk rfl (Wk rfl (Wk rfl trivial))) trivial)
 revert h;revert hu1;revert x;intro i hu1 h
 obtain ⟨u1c,u1g,u1t⟩:=u1;obtain ⟨hu1c,hu1g⟩:0 < u1c∧∀ k,u1g k < u1c:=hu1
 refine Wc [] [] [] 0 [] fun N hN=>?_
 generalize hp:std Tryz.prog=p;generalize hv:nvS=nv;cbv;subst hp hv
 refine ⟨fun h22=>?_,fun h22=>?_⟩
 · replace h:=iteO_t h h22
   replace h:=chk_some h;obtain ⟨h23,h⟩:=h
   try (have h23z:=h23;simp only [Int.zero_add] at h23z)
   replace h:=chk_some h;obtain ⟨h24,h⟩:=h
   try (have h24z:=h24;simp only [Int.zero_add] at h24z)
   refine ⟨h23,h24,(show drOk _ _=true by kernel_rfl),?_⟩
   refine ⟨fun h25=>?_,fun h25=>?_⟩
   · replace h:=iteO_t h h25
     subst hN;cases h
     intro he;cases he
     intro hr
     subst hr
     try dsimp only [noGoto,inBlockQ,thenQ]
     repeat (first | refine Wt ?_ | refine We ?_)
     exact retQ_ret rfl trivial rfl
   replace h:=iteO_f h h25
   replace h:=chk_some h;obtain ⟨h26,h⟩:=h
   refine ⟨h26,?_⟩
   subst hN;cases h
   exact Exists.intro ⟨u1c+12,gfn [],tfn []⟩ (And.intro Wh (Wg (Wk rfl (Wk rfl (Wk rfl trivial))) trivial))
 replace h:=iteO_f h h22
 subst hN;cases h
 intro he;cases he
 exact Exists.intro ⟨u1c+10,gfn [],tfn []⟩ (And.intro Wh (Wg trivial trivial))
end Go.Vx
