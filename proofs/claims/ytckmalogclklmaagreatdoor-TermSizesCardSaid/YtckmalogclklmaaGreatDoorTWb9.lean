/- Walks, by program (lift5.py): the code does what the lifted functions say. -/
import Derived.Test.YtckmalogclklmaaGreatDoorTHead
import Derived.Test.YtckmalogclklmaaGreatDoorTWb2
import Derived.Test.YtckmalogclklmaaGreatDoorTWb3
import Derived.Test.YtckmalogclklmaaGreatDoorTWb4
import Derived.Test.YtckmalogclklmaaGreatDoorTWb5
import Derived.Test.YtckmalogclklmaaGreatDoorTWb6
import Derived.Test.YtckmalogclklmaaGreatDoorTWb7
import Derived.Test.YtckmalogclklmaaGreatDoorTWb8
import Derived.Test.YtckmalogclklmaaGreatDoorTDg
import Derived.Test.YtckmalogclklmaaGreatDoorTSd
import Derived.Test.YtckmalogclklmaaGreatDoorTCh
set_option linter.all false
namespace Go.Vx
open Go.Proofs
set_option maxRecDepth 100000
set_option maxHeartbeats 8000000
set_option linter.unusedVariables false
set_option linter.unusedSimpArgs false
attribute [local irreducible] chk ay av aM lI

theorem Pq s r (h:Au s=some r):Pf 90 [dF aj s] (dF aj r):=by
  unfold Au at h
  refine bC Tryz.func90 fun ctr hc=>?_
  refine bB ?_
  refine Wi 6 0 h sB (sI _ _ _) fun v h1=>?_
  refine Wk [] 0 [] Wz

theorem ni r' r (h:mP r'=some r):Pf 117 [jS aj r'] (vb r):=by
  obtain ⟨q,_,_,_⟩:=r'
  unfold mP at h
  try dsimp only at h
  refine bC Tryz.func117 fun ctr hc=>?_
  revert h;refine bE 2 [] 0 [] (Wq ?_);intro h;intros
  refine bq h (ctr+2) [(2,3),(20,18)] [] (fun _ u=>Fa [] []) (fun x uc ug ut ht hu hp h=>?_) (fun f h=>?_)
  · refine Wx [] 0 [] Wz
  · revert h;refine bE 1 [] 0 [] (Wq ?_);intro h;intros
    refine Tr.block ?_
    refine dO h (ctr+3) [(2,3),(23,15)] [(4,1)] (fun v u1=>Fa [(28,vi v)] []) bW (fun v cu fJ fE f ht hu hp h=>?_)
    refine bB ?_
    refine Wi 34 0 h (sT (sC sB)) (Tm _) fun v1 h18=>?_
    refine IK 40 0 (!(!v1)) (Ti q v) false fun v2 h19=>?_
    refine Wk [] 0 [] Wz

theorem Hl g' r (h:vX g'=some r):Pf 116 [qP aj g'] (vb r):=by
  obtain ⟨_⟩:=g'
  unfold vX at h
  try dsimp only at h
  refine bC Tryz.func116 fun ctr hc=>?_
  revert h;refine bE 2 [] 0 [] (Wq ?_);intro h;intros
  refine bq h (ctr+2) [(2,1),(1,1),(10,23)] [] (fun _ u=>Fa [] []) (fun x uc ug ut ht hu hp h=>?_) (fun f h=>?_)
  · refine Wx [] 0 [] Wz
  · revert h;refine bE 1 [] 0 [] (Wq ?_);intro h;intros
    refine Tr.block ?_
    refine dO h (ctr+3) [(2,1),(1,1),(13,20)] [(4,1)] (fun v u1=>Fa [(18,vi v)] []) bW (fun v cu fJ fE f ht hu hp h=>?_)
    refine bB ?_
    refine mR 34 0 h (sT (sC (sC sB))) (ni _) fun v1 h19=>?_
    refine Wk [] 0 [] Wz

theorem ZM g' r (h:DL g'=some r):Pf 72 [qP aj g'] (.gX 2 (fun j=>match j with | 0=>(vi r.1) | 1=>(vi r.2) | _=>.junk)):=by
  obtain ⟨q⟩:=g'
  unfold DL at h
  try dsimp only at h
  refine bC Tryz.func72 fun ctr hc=>?_
  refine bB ?_
  refine Wo 5 0 (Hl ⟨q⟩) fun v h1=>?_
  refine Wk [] 0 [] Wz

theorem AY k' r (h:pF k'=some r):Pf 73 [oO aj k'] (vb r):=by
  obtain ⟨_,_⟩:=k'
  unfold pF at h
  try dsimp only at h
  refine bC Tryz.func73 fun ctr hc=>?_
  revert h;refine bE 2 [] 0 [] (Wq ?_);intro h;intros
  refine bq h (ctr+2) [(2,1),(1,1),(16,11)] [] (fun _ u=>Fa [] []) (fun x uc ug ut ht hu hp h=>?_) (fun f h=>?_)
  · refine Wx [] 0 [] Wz
  · revert h;refine bE 1 [] 0 [] (Wq ?_);intro h;intros
    refine Tr.block ?_
    refine dO h (ctr+3) [(2,1),(1,1),(19,8)] [(4,1)] (fun v u1=>Fa [(24,vi v)] []) bW (fun v cu fJ fE f ht hu hp h=>?_)
    refine bB ?_
    refine Wi 29 0 h (sT (sC sB)) (ni _) fun v1 h14=>?_
    refine Wk [] 0 [] Wz

theorem ac3 r' at' c' r (h:WY r' at' c'=some r):Pf 290 [jS aj r',vi at',zX aj c'] (jS aj r):=by
  obtain ⟨q,q1,q2,q3⟩:=r'
  obtain ⟨q4,⟨q5,q6⟩,q7,⟨q8,q9,yw⟩⟩:=c'
  unfold WY at h
  try dsimp only at h
  refine bC Tryz.func290 fun ctr hc=>?_
  refine bB ?_
  refine Wi 9 0 h sB (ni _) fun v h1=>?_
  refine mR 13 0 h (sK v sB) (Tm _) fun v1 h2=>?_
  refine Wo 37 1 (Z0 ⟨q,q1,q2,q3⟩) fun v2 h4=>?_
  revert h;refine jI 4 [] 0 [] (Wq ?_);intro h;intros
  refine bq h (ctr+4) [(42,10)] [(37,1)] (fun _ u=>Fa [] [(37,kS aj (ctr+2) (aj.len v2) (u.t 37) (aj.set v2 at' (aV.mk q4 (iV.mk q5 q6) q7 (fZ.mk q8 q9 yw))))]) (fun x uc ug ut ht hu hp h=>?_) (fun f h=>?_)
  · refine bB ?_
    refine IJ 54 (fun r h=>YQ ⟨q,q1,q2,q3⟩ (eB v2 at' ⟨q4,⟨q5,q6⟩,q7,⟨q8,q9,yw⟩⟩) 0 (ah v2) r h ((aj.len v2)) Wy (ut 37)) fun v3 h6=>?_
    refine Wk [] 0 [] Wz
  · refine Wx [] 0 [] Wz

theorem SA x' cap0 LQ cap2 yI yJ tT LU yK cap4 r (h:Cc x' cap0 LQ cap2 yI yJ tT LU yK cap4=some r):Pf 289 [jS aj x',.gY 1 1 (fun _ j=>(vi cap0)) 0 0,.gY 1 1 (fun _ j=>(vi LQ)) 0 0,.gY 1 1 (fun _ j=>(vi cap2)) 0 0,.gY 25 1 (fun _ j=>NS [(5,.int .i64 yI),(6,.int .i64 yJ),(7,.int .i64 tT),(23,.int .i64 LU),(24,.bool yK)] j) 0 0,.gY 1 1 (fun _ j=>(vb cap4)) 0 0] (jS aj r):=by
  unfold Cc at h
  refine bC Tryz.func289 fun ctr hc=>?_
  refine bB ?_
  refine Wi 16 0 h sB (ac3 _ _ _) fun v h1=>?_
  refine Wk [999] 0 [] Wz

theorem abb g' y' r' r (h:TV g' y' r'=some r):Pf 368 [qP aj g',vi y',jS aj r'] (qP aj r):=by
  obtain ⟨q⟩:=g'
  obtain ⟨_,_,_,_⟩:=r'
  unfold TV at h
  try dsimp only at h
  refine bC Tryz.func368 fun ctr hc=>?_
  refine bB ?_
  refine Wo 9 0 (Hl ⟨q⟩) fun v h6=>?_
  refine mR 36 0 h (sA (sK v (sC sB))) (ni _) fun v1 h8=>?_
  refine Wo 41 1 (Z5 ⟨q⟩) fun v2 h9=>?_
  refine Wkc 4 [] 0 [] h ctr [(3,1),(1,41)] [(3,1),(1,2),(34,1)] (fun l' u=>Fa [(6,.dI 6 (u.g 6) 0),(7,.vec 41 (u.g 41) 4 0 (aj.len l'))] [(6,.box (u.g 6) [.cO]),(41,iM aj (u.g 41) (aj.len l') (u.t 41) l')]) (fun l' uc ug ut ht hu hp h=>?_) (fun f h=>Wz)
  refine Wx [] 0 [] Wz

theorem YR r' r (h:AA r'=some r):Pf 126 [jS aj r'] (vi r):=by
  obtain ⟨_,_,_,_⟩:=r'
  unfold AA at h
  try dsimp only at h
  refine bC Tryz.func126 fun ctr hc=>?_
  refine bB ?_
  refine Wi 7 0 h sB (ni _) fun v h1=>?_
  revert h;refine jI 3 [] 0 [] (Wq ?_);intro h;intros
  refine bq h (ctr+3) [(3,3),(3,23)] [] (fun n u=>Fa [(3,vi n)] []) (fun n uc ug ut ht hu hp h=>?_) (fun f h=>?_)
  · refine Wx [] 0 [] Wz
  · revert h;refine bE 1 [] 0 [] (Wq ?_);intro h;intros
    refine Tr.block ?_
    refine dO h (ctr+4) [(3,3),(6,20)] [(5,1)] (fun (n1,v1) u1=>Fa [(3,vi n1),(12,vi v1)] []) bW (fun x cu fJ fE f ht hu hp h=>?_)
    obtain ⟨_,_⟩:=x
    try dsimp only at hp h
    refine Wx [] 0 [] Wz

theorem Xv s r (h:xY s=some r):Pf 83 [gJ aj s] (vi r):=by
  obtain ⟨⟨_⟩,⟨_,_,_,_,⟨_,_,_⟩,⟨⟨_,_,_,_⟩,_,_,_⟩⟩,⟨_,_,_,_⟩,⟨_,_⟩,⟨_,_⟩,_,_⟩:=s
  unfold xY at h
  try dsimp only at h
  refine bC Tryz.func83 fun ctr hc=>?_
  revert h;refine bE 2 [] 0 [] (Wq ?_);intro h;intros
  refine bq h (ctr+2) [(3,1),(3,19)] [] (fun n1 u=>Fa [(3,vi n1)] []) (fun n1 uc ug ut ht hu hp h=>?_) (fun f h=>?_)
  · refine Wx [] 0 [] Wz
  · refine Tr.block ?_
    refine dO h (ctr+2) [(3,1),(3,19)] [] (fun n2 u1=>Fa [(3,vi n2)] []) bW (fun n2 cu fJ fE f ht hu hp h=>?_)
    refine bB ?_
    refine mR 21 0 h (sC (sC (sC sB))) (YR _) fun v Ye=>?_
    refine Wk [] 0 [] Wz

theorem EO l' r (h:mQ l'=some r):Pf 172 [iC aj l'] (vb r):=by
  unfold mQ at h
  refine bC Tryz.func172 fun ctr hc=>?_
  revert h;refine bE 1 [] 0 [] (Wq ?_);intro h;intros
  refine bq h (ctr+1) [(2,1),(1,11)] [] (fun _ u=>Fa [] []) (fun x uc ug ut ht hu hp h=>?_) (fun f h=>?_)
  · refine Wx [] 0 [] Wz
  · revert h;refine bE 1 [] 0 [] (Wq ?_);intro h;intros
    refine Tr.block ?_
    refine dO h (ctr+2) [(2,1),(1,1),(2,8)] [(4,1)] (fun v u1=>Fa [(7,vi v)] []) bW (fun v cu fJ fE f ht hu hp h=>?_)
    refine bB ?_
    refine Wi 12 0 h (sT (sC sB)) (ni _) fun v1 h14=>?_
    refine Wk [] 0 [] Wz

theorem Xq l' y' at' r (h:xZ l' y' at'=some r):Pf 122 [iC aj l',vi y',vi at'] (.gX 2 (fun j=>match j with | 0=>(J2 aj r.1) | 1=>(vb r.2) | _=>.junk)):=by
  unfold xZ at h
  refine bC Tryz.func122 fun ctr hc=>?_
  refine bB ?_
  refine Wo 11 0 (EO l') fun v h1=>?_
  revert h;refine jI 3 [] 0 [] (Wq ?_);intro h;intros
  refine bq h (ctr+3) [(9,1),(28,22)] [(8,1)] (fun (afC,acJ) u=>Fa [] [(8,.box (ctr+2) [vi afC,vi acJ])]) (fun x uc ug ut ht hu hp h=>?_) (fun f h=>?_)
  · obtain ⟨_,_⟩:=x
    try dsimp only at hp h
    refine Wx [] 0 [] Wz
  · revert h;refine bE 1 [] 0 [] (Wq ?_);intro h;intros
    refine Tr.block ?_
    refine dO h (ctr+4) [(9,1),(29,21)] [(8,1)] (fun (v1,RA,Vp) u1=>Fa [(39,vi v1)] [(8,.box (ctr+2) [vi RA,vi Vp])]) bW (fun x cu fJ fE f ht hu hp h=>?_)
    obtain ⟨v1,_,_⟩:=x
    try dsimp only at hp h
    refine bB ?_
    refine Wo 51 0 (CF l' v1) fun v2 h29=>?_
    refine Wk [] 0 [] Wz

theorem Xr (l':(List aQ)) (r:(List aI)) (h:yc l'=some r):dn Tryz.prog 123 [(.sl 4 (aj.len l') false (fun ix jx=>(bU aj (aj.get aA l' ix) jx)))] (.own 3 (aj.len r) false (fun ix jx=>(bY aj (aj.get aC r ix) jx))):=by
  unfold yc at h
  refine acA iB Tryz.func123 (by kernel_rfl) (c:=mH Tryz.f123) (by kernel_rfl) ?_
  intro ctr hc
  obtain ⟨v,h1⟩ : ∃ v,ac4 false (mQ l')=v:=⟨_,rfl⟩
  refine Tr.pre (cx:=⟨xq,⟨fun f=>pE [] f,fun k _ _ _=>tO [(12,.plain (.v (.bool v)))] k,fun t=>nC [] t⟩,0,fun r=>Ae [] r⟩) iB sQ 4 fun N hN=>?_
  generalize hp:std Tryz.prog=p
  generalize hv:aj=nv
  cbv
  subst hp
  subst hv
  replace h:=QH h1 h;clear h1;obtain ⟨h1,h⟩:=h
  refine ⟨(Or.inl (dn.arg (EO l' v h1) (And.intro (aZ.refl _)
      trivial))),?_⟩
  refine ⟨fun h2=>?_,fun h2=>?_⟩
  · replace h:=vR h h2
    subst hN
    have hr:=Option.some.inj h
    subst hr
    try dsimp only [noGoto,vQ,qE]
    repeat (first | refine (if_pos rfl).mpr ?_ | refine (if_neg (by decide)).mpr ?_)
    refine Lp rfl ?_ ?_
    · exact trivial
    · exact rfl
  · replace h:=vS h h2
    subst hN
    show Tr _ _ _ _
    refine Tr.KQ (α:=List aI) h (fun lines t'=>⟨xB 81 [(3,.vec 30 (t'.g 30) 3 0 (aj.len lines))] 0,xC 81 [(0,.arr (t'.g 0) 7 (aj.len (aj.get aC lines ((std Tryz.prog).sub (aj.len lines) 1)).aH) (t'.t 0) (fun ix jx=>(dM aj (aj.get aD (aj.get aC lines ((std Tryz.prog).sub (aj.len lines) 1)).aH ix) jx))),(30,.arr (t'.g 30) 3 (aj.len lines) (t'.t 30) (D9 (.vec 0 (t'.g 0) 7 0 (aj.len (aj.get aC lines ((std Tryz.prog).sub (aj.len lines) 1)).aH)) (fun ix=>(std Tryz.prog).eq ix ((std Tryz.prog).sub (aj.len lines) 1)) (fun ix jx=>(bY aj (aj.get aC lines ix) jx))))] 0,t'.c⟩) (fun _ t=>Hid.ok t) (fun x t' ht' h=>?_) (fun f h=>?_)
    · revert h;revert ht';revert x;intro lines ht' h
      obtain ⟨XD,XE,akT⟩:=t'
      have amz:0 < XD:=ht'.1
      have aha : ∀ k,XE k < XD:=ht'.2
      refine Tr.KQ (α:=List aI) h (fun J9 xA=>⟨xB 81 [(3,.vec 30 (xA.g 30) 3 0 (aj.len J9))] 0,xC 81 [(30,.arr (xA.g 30) 3 (aj.len J9) (xA.t 30) (fun ix jx=>(bY aj (aj.get aC J9 ix) jx)))] 0,xA.c⟩) (fun _ t=>Hid.ok t) (fun x xA Uz h=>?_) (fun f h=>?_)
      · revert h;revert Uz;revert x;intro J9 Uz h
        obtain ⟨pV,yQ,RP⟩:=xA
        have akU:0 < pV:=Uz.1
        have yx : ∀ k,yQ k < pV:=Uz.2
        refine Tr.chunk (cx:=⟨xq,⟨fun f=>pE [] f,fun k _ _ _=>tO [] k,fun t=>nC [] t⟩,0,fun r=>Ae [] r⟩) iB sQ fun N hN=>?_
        generalize hp:std Tryz.prog=p
        generalize hv:aj=nv
        cbv
        subst hp
        subst hv
        subst hN
        have hr:=Option.some.inj h
        subst hr
        try dsimp only [noGoto,vQ,qE]
        repeat (first | refine (if_pos rfl).mpr ?_ | refine (if_neg (by decide)).mpr ?_)
        refine Lp rfl ?_ ?_
        · exact trivial
        · exact (And.intro (rfl)
              (And.intro (by first | with_reducible rfl | with_reducible assumption | (symm;with_reducible assumption) | ((try dsimp only [bN,dD,aj])<;>first | with_reducible rfl | omega | (simp (disch:=first | omega | (simp only [aJ,aG,aB,aF]<;>omega)) only [bM,aJ,aG,aB,aF,bn,aY,bV,Int.ofNat_eq_natCast,Int.zero_add,Int.sub_zero]<;>first | done | omega | with_reducible assumption)) | rfl)
              (And.intro (fun h=>by cases h)
              (TL (fun i j=>vk _ _) (fun i i0 i1 j hj=>by (try dsimp only [bN,dD,aj] at i1);(try simp only [Int.ofNat_eq_natCast,aG,aB,aF,aJ,bM] at i1);(try simp (disch:=first | omega | (simp only [aJ,aG,aB,aF]<;>omega)) only [aY,bn,bV,Int.zero_add,Int.sub_zero] at i1);(rcases (show j=0∨j=1∨j=2 by omega) with rfl | rfl | rfl)<;>(conv=>lhs;whnf)<;>(conv=>rhs;whnf)<;>(try dsimp only [bN,dD,aj])<;>(first | rfl | (simp (disch:=first | omega | (simp only [aJ,aG,aB,aF]<;>omega)) only [tL,gQ,fI,qU,jT,aY,BQ,pz,Int.zero_add,Int.sub_zero,beq_iff_eq,decide_eq_true_eq,Bool.and_eq_true]<;>first | rfl | (split<;>first | rfl | (simp (disch:=first | omega | (simp only [aJ,aG,aB,aF]<;>omega)) only [eD,eO]<;>rfl)) | (simp (disch:=omega) only [eD,eO]<;>rfl) | ((simp only [aG,aB,aF,Int.ofNat_eq_natCast])<;>(repeat' split)<;>first | rfl | (exfalso;omega) | (simp (disch:=omega) only [eD,eO]<;>rfl) | (congr 3;omega)))))))))
      · refine Tr.pre (cx:=⟨xq,⟨fun f=>pE [] f,fun k _ _ _=>tO [] k,fun t=>nC [] t⟩,0,fun r=>Ae [(19,[.QE 30 0 (fun ix jx=>(bY aj (aj.get aC lines ix) jx))])] r⟩) iB sQ 1 fun N hN=>?_
        generalize hp:std Tryz.prog=p
        generalize hv:aj=nv
        cbv
        subst hp
        subst hv
        refine ⟨(EF lines 0 (XE 0) _ ((ah lines)-1)),?_⟩
        subst hN
        show Tr _ _ _ _
        refine Tr.block ?_
        refine Tr.bD (α:=Int × List aI) (fun (v1,qI) NJ=>⟨xB 81 [(3,.vec 30 (NJ.g 30) 3 0 (aj.len qI)),(65,.v (.int .i64 (aj.len lines))),(66,.v (.int .i64 v1))] 0,xC 81 [(30,.arr (NJ.g 30) 3 (aj.len qI) (NJ.t 30) (fun ix jx=>(bY aj (aj.get aC qI ix) jx)))] 0,NJ.c⟩) (fun _ t=>Hid.ok t) ⟨XD+11,xD [(30,XE 30)],A8 [(30,akT 30)]⟩ h ?_ ?_ (fun x NJ f akW h=>?_)
        · exact Hid.oI (by omega) (And.intro (by have:=aha 30;omega)
              trivial)
        · exact iR.of (kW.frame (by show (_:Nat) < _;(try dsimp only [bN,dD]);omega) rfl rfl (And.intro ⟨_,rfl,aZ.vec rfl (by first | with_reducible rfl | with_reducible assumption | (symm;with_reducible assumption) | ((try dsimp only [bN,dD,aj])<;>first | with_reducible rfl | omega | (simp (disch:=first | omega | (simp only [aJ,aG,aB,aF]<;>omega)) only [bM,aJ,aG,aB,aF,bn,aY,bV,Int.ofNat_eq_natCast,Int.zero_add,Int.sub_zero]<;>first | done | omega | with_reducible assumption)) | rfl)⟩
              (And.intro ⟨_,rfl,aZ.refl _⟩
              (And.intro ⟨_,rfl,aZ.refl _⟩
              trivial))) (And.intro ⟨_,rfl,dN.ML (by first | with_reducible rfl | with_reducible assumption | (symm;with_reducible assumption) | ((try dsimp only [bN,dD,aj])<;>first | with_reducible rfl | omega | (simp (disch:=first | omega | (simp only [aJ,aG,aB,aF]<;>omega)) only [bM,aJ,aG,aB,aF,bn,aY,bV,Int.ofNat_eq_natCast,Int.zero_add,Int.sub_zero]<;>first | done | omega | with_reducible assumption)) | rfl) (fun i i0 i1 j hj=>by (try dsimp only [bN,dD,aj] at i1);(try simp only [Int.ofNat_eq_natCast,aG,aB,aF,aJ,bM] at i1);(try simp (disch:=first | omega | (simp only [aJ,aG,aB,aF]<;>omega)) only [aY,bn,bV,Int.zero_add,Int.sub_zero] at i1);(rcases (show j=0∨j=1∨j=2 by omega) with rfl | rfl | rfl)<;>(conv=>lhs;whnf)<;>(conv=>rhs;whnf)<;>(try dsimp only [bN,dD,aj])<;>(first | rfl | (simp (disch:=first | omega | (simp only [aJ,aG,aB,aF]<;>omega)) only [tL,gQ,fI,qU,jT,aY,BQ,pz,Int.zero_add,Int.sub_zero,beq_iff_eq,decide_eq_true_eq,Bool.and_eq_true]<;>first | rfl | (split<;>first | rfl | (simp (disch:=first | omega | (simp only [aJ,aG,aB,aF]<;>omega)) only [eD,eO]<;>rfl)) | (simp (disch:=omega) only [eD,eO]<;>rfl) | ((simp only [aG,aB,aF,Int.ofNat_eq_natCast])<;>(repeat' split)<;>first | rfl | (exfalso;omega) | (simp (disch:=omega) only [eD,eO]<;>rfl) | (congr 3;omega)))))⟩
              trivial))
        · obtain ⟨v1,qI⟩:=x
          try dsimp only at h
          obtain ⟨Y4,ac5,ahd⟩:=NJ
          have aqG:0 < Y4:=akW.1
          have aeJ : ∀ k,ac5 k < Y4:=akW.2
          obtain ⟨v2,h67⟩ : ∃ v2,ac4 [] (oU (au aC qI (0+v1)).aH)=v2:=⟨_,rfl⟩
          refine Tr.chunk (cx:=⟨xq,⟨fun f=>pE [] f,fun k _ _ _=>tO [(76,.plain (.sl 7 (aj.len v2) false (fun ix jx=>(dM aj (aj.get aD v2 ix) jx))))] k,fun t=>nC [] t⟩,0,fun r=>Ae [] r⟩) iB sQ fun N hN=>?_
          generalize hp:std Tryz.prog=p
          generalize hv:aj=nv
          cbv
          subst hp
          subst hv
          refine ⟨fun Z7=>?_,fun Z7=>?_⟩
          · replace h:=vR h Z7
            replace h:=dQ h;obtain ⟨h66,h⟩:=h
            try (have ao2:=h66;simp only [Int.zero_add] at ao2)
            replace h:=QH h67 h;clear h67;obtain ⟨h67,h⟩:=h
            replace h:=dQ h;obtain ⟨h68,h⟩:=h
            try (have ao3:=h68;simp only [Int.zero_add] at ao3)
            refine ⟨h66,rfl,(Or.inl (dn.arg (SI (au aC qI (0+v1)).aH v2 h67) (And.intro (aZ.refl _)
                trivial))),h68,rfl,?_⟩
            replace h:=dQ h;obtain ⟨h69,h⟩:=h
            refine ⟨h69,?_⟩
            subst hN
            cases h
            show ∃ t',_∧iR _ _ _
            refine ⟨⟨Y4+13,xD [(30,ac5 30)],A8 [(30,ahd 30)]⟩,Hid.oI (by omega) (And.intro (by have:=aeJ 30;omega)
                trivial),?_⟩
            exact iR.of (kW.frame (by show (_:Nat) < _;(try dsimp only [bN,dD]);omega) rfl rfl (And.intro ⟨_,rfl,(by first | exact aZ.refl _ | exact aZ.vec rfl (by first | with_reducible rfl | with_reducible assumption | (symm;with_reducible assumption) | ((try dsimp only [bN,dD,aj])<;>first | with_reducible rfl | omega | (simp (disch:=first | omega | (simp only [aJ,aG,aB,aF]<;>omega)) only [bM,aJ,aG,aB,aF,bn,aY,bV,Int.ofNat_eq_natCast,Int.zero_add,Int.sub_zero]<;>first | done | omega | with_reducible assumption)) | rfl))⟩
                (And.intro ⟨_,rfl,aZ.refl _⟩
                (And.intro ⟨_,rfl,aZ.refl _⟩
                trivial))) (And.intro ⟨_,rfl,(aof (by omega) (by omega) rfl rfl)⟩
                trivial))
          · replace h:=vS h Z7
            subst hN
            cases h
            intro he;cases he
            show ∃ t',_∧iR _ _ _
            refine ⟨⟨Y4+10,xD [(30,ac5 30)],A8 [(30,ahd 30)]⟩,Hid.oI (by omega) (And.intro (by have:=aeJ 30;omega)
                trivial),?_⟩
            exact iR.of (kW.frame (by show (_:Nat) < _;(try dsimp only [bN,dD]);omega) rfl rfl (And.intro ⟨_,rfl,aZ.vec rfl (by first | with_reducible rfl | with_reducible assumption | (symm;with_reducible assumption) | ((try dsimp only [bN,dD,aj])<;>first | with_reducible rfl | omega | (simp (disch:=first | omega | (simp only [aJ,aG,aB,aF]<;>omega)) only [bM,aJ,aG,aB,aF,bn,aY,bV,Int.ofNat_eq_natCast,Int.zero_add,Int.sub_zero]<;>first | done | omega | with_reducible assumption)) | rfl)⟩
                trivial) (And.intro ⟨_,rfl,dN.ML (by first | with_reducible rfl | with_reducible assumption | (symm;with_reducible assumption) | ((try dsimp only [bN,dD,aj])<;>first | with_reducible rfl | omega | (simp (disch:=first | omega | (simp only [aJ,aG,aB,aF]<;>omega)) only [bM,aJ,aG,aB,aF,bn,aY,bV,Int.ofNat_eq_natCast,Int.zero_add,Int.sub_zero]<;>first | done | omega | with_reducible assumption)) | rfl) (fun i i0 i1 j hj=>by (try dsimp only [bN,dD,aj] at i1);(try simp only [Int.ofNat_eq_natCast,aG,aB,aF,aJ,bM] at i1);(try simp (disch:=first | omega | (simp only [aJ,aG,aB,aF]<;>omega)) only [aY,bn,bV,Int.zero_add,Int.sub_zero] at i1);(rcases (show j=0∨j=1∨j=2 by omega) with rfl | rfl | rfl)<;>(conv=>lhs;whnf)<;>(conv=>rhs;whnf)<;>(try dsimp only [bN,dD,aj])<;>(first | rfl | (simp (disch:=first | omega | (simp only [aJ,aG,aB,aF]<;>omega)) only [tL,gQ,fI,qU,jT,aY,BQ,pz,Int.zero_add,Int.sub_zero,beq_iff_eq,decide_eq_true_eq,Bool.and_eq_true]<;>first | rfl | (split<;>first | rfl | (simp (disch:=first | omega | (simp only [aJ,aG,aB,aF]<;>omega)) only [eD,eO]<;>rfl)) | (simp (disch:=omega) only [eD,eO]<;>rfl) | ((simp only [aG,aB,aF,Int.ofNat_eq_natCast])<;>(repeat' split)<;>first | rfl | (exfalso;omega) | (simp (disch:=omega) only [eD,eO]<;>rfl) | (congr 3;omega)))))⟩
                trivial))
    · refine Tr.pre (cx:=⟨xq,⟨fun f=>pE [] f,fun k _ _ _=>tO [] k,fun t=>nC [] t⟩,0,fun r=>Ae [] r⟩) iB sQ 1 fun N hN=>?_
      generalize hp:std Tryz.prog=p
      generalize hv:aj=nv
      cbv
      subst hp
      subst hv
      subst hN
      show Tr _ _ _ _
      refine Tr.block ?_
      refine Tr.bD (α:=Bool × Int × List aI) (fun (Vq,v3,jV) IE=>⟨xB 81 [(0,.sl 4 (aj.len l') false (fun ix jx=>(bU aj (aj.get aA l' ix) jx))),(3,.vec 30 (IE.g 30) 3 0 (aj.len jV)),(4,.v (.bool Vq)),(14,.sl 4 (aj.len l') false (fun ix jx=>(bU aj (aj.get aA l' ix) jx))),(15,.v (.int .i64 (aj.len l'))),(16,.v (.int .i64 v3))] 0,xC 81 [(0,.arr (IE.g 0) 7 (aj.len (aj.get aC jV ((std Tryz.prog).sub (aj.len jV) 1)).aH) (IE.t 0) (fun ix jx=>(dM aj (aj.get aD (aj.get aC jV ((std Tryz.prog).sub (aj.len jV) 1)).aH ix) jx))),(30,.arr (IE.g 30) 3 (aj.len jV) (IE.t 30) (D9 (.vec 0 (IE.g 0) 7 0 (aj.len (aj.get aC jV ((std Tryz.prog).sub (aj.len jV) 1)).aH)) (fun ix=>(std Tryz.prog).eq ix ((std Tryz.prog).sub (aj.len jV) 1)) (fun ix jx=>(bY aj (aj.get aC jV ix) jx))))] 0,IE.c⟩) (fun _ t=>Hid.ok t) ⟨ctr+16,xD [(0,ctr+6),(30,ctr+5)],A8 [(0,false),(30,false)]⟩ h ?_ ?_ (fun x IE f akX h=>?_)
      · exact Hid.oI (by omega) (And.intro (by omega)
            (And.intro (by omega)
            trivial))
      · refine iR.by [.thaw (.slot 3) 30 3,.empty 0 7] rfl ?_ ?_
        · exact trivial
        · exact kW.frame (show ctr+7 < ctr+16 by omega) rfl rfl (And.intro ⟨_,rfl,aZ.refl _⟩
              (And.intro ⟨_,rfl,aZ.refl _⟩
              (And.intro ⟨_,rfl,aZ.refl _⟩
              (And.intro ⟨_,rfl,aZ.refl _⟩
              (And.intro ⟨_,rfl,aZ.refl _⟩
              (And.intro ⟨_,rfl,aZ.refl _⟩
              trivial)))))) (And.intro ⟨_,rfl,dN.arr' rfl (fun i i0 i1 j hj=>by exfalso;revert i1;show i < (0:Int)→False;omega)⟩
              (And.intro ⟨_,rfl,dN.arr' rfl (fun i i0 i1 j hj=>by exfalso;revert i1;show i < (0:Int)→False;omega)⟩
              trivial))
      · obtain ⟨Vq,v3,jV⟩:=x
        try dsimp only at h
        obtain ⟨yR,RQ,Y5⟩:=IE
        have aqH:0 < yR:=akX.1
        have QI : ∀ k,RQ k < yR:=akX.2
        refine Tr.pre (cx:=⟨xq,⟨fun f=>pE [] f,fun k _ _ _=>tO [] k,fun t=>nC [] t⟩,0,fun r=>Ae [] r⟩) iB sQ 2 fun N hN=>?_
        generalize hp:std Tryz.prog=p
        generalize hv:aj=nv
        cbv
        subst hp
        subst hv
        refine ⟨fun h112=>?_,fun h112=>?_⟩
        · replace h:=vR h h112
          subst hN
          show Tr _ _ _ _
          refine Tr.KQ (α:=List aI) h (fun sj DN=>⟨xB 81 [(0,.sl 4 (aj.len l') false (fun ix jx=>(bU aj (aj.get aA l' ix) jx))),(3,.vec 30 (DN.g 30) 3 0 (aj.len sj)),(4,.v (.bool (aj.get aA l' v3).bX)),(14,.sl 4 (aj.len l') false (fun ix jx=>(bU aj (aj.get aA l' ix) jx))),(15,.v (.int .i64 (aj.len l'))),(16,.v (.int .i64 v3))] 0,xC 81 [(0,.arr (DN.g 0) 7 (aj.len (aj.get aC sj ((std Tryz.prog).sub (aj.len sj) 1)).aH) (DN.t 0) (fun ix jx=>(dM aj (aj.get aD (aj.get aC sj ((std Tryz.prog).sub (aj.len sj) 1)).aH ix) jx))),(30,.arr (DN.g 30) 3 (aj.len sj) (DN.t 30) (D9 (.vec 0 (DN.g 0) 7 0 (aj.len (aj.get aC sj ((std Tryz.prog).sub (aj.len sj) 1)).aH)) (fun ix=>(std Tryz.prog).eq ix ((std Tryz.prog).sub (aj.len sj) 1)) (fun ix jx=>(bY aj (aj.get aC sj ix) jx))))] 0,DN.c⟩) (fun _ t=>Hid.ok t) (fun x DN ac6 h=>?_) (fun f h=>?_)
          · revert h;revert ac6;revert x;intro sj ac6 h
            obtain ⟨ac7,ac8,ahe⟩:=DN
            have aqI:0 < ac7:=ac6.1
            have aeK : ∀ k,ac8 k < ac7:=ac6.2
            refine Tr.chunk (cx:=⟨xq,⟨fun f=>pE [] f,fun k _ _ _=>tO [] k,fun t=>nC [] t⟩,0,fun r=>Ae [] r⟩) iB sQ fun N hN=>?_
            generalize hp:std Tryz.prog=p
            generalize hv:aj=nv
            cbv
            subst hp
            subst hv
            replace h:=dQ h;obtain ⟨ao4,h⟩:=h
            refine ⟨ao4,?_⟩
            subst hN
            cases h
            show ∃ t',_∧iR _ _ _
            refine ⟨⟨ac7+10,xD [(0,ac8 0),(30,ac8 30)],A8 [(0,ahe 0),(30,ahe 30)]⟩,Hid.oI (by omega) (And.intro (by have:=aeK 0;omega)
                (And.intro (by have:=aeK 30;omega)
                trivial)),?_⟩
            exact iR.of (kW.frame (by show (_:Nat) < _;(try dsimp only [bN,dD]);omega) rfl rfl (And.intro ⟨_,rfl,aZ.refl _⟩
                (And.intro ⟨_,rfl,aZ.vec rfl (by first | with_reducible rfl | with_reducible assumption | (symm;with_reducible assumption) | ((try dsimp only [bN,dD,aj])<;>first | with_reducible rfl | omega | (simp (disch:=first | omega | (simp only [aJ,aG,aB,aF]<;>omega)) only [bM,aJ,aG,aB,aF,bn,aY,bV,Int.ofNat_eq_natCast,Int.zero_add,Int.sub_zero]<;>first | done | omega | with_reducible assumption)) | rfl)⟩
                (And.intro ⟨_,rfl,aZ.refl _⟩
                (And.intro ⟨_,rfl,aZ.refl _⟩
                (And.intro ⟨_,rfl,aZ.refl _⟩
                (And.intro ⟨_,rfl,aZ.refl _⟩
                trivial)))))) (And.intro ⟨_,rfl,dN.refl _⟩
                (And.intro ⟨_,rfl,dN.refl _⟩
                trivial)))
          · refine Tr.block ?_
            refine Tr.pre (cx:=⟨xq,⟨fun f=>pE [] f,fun k _ _ _=>tO [] k,fun t=>nC [] t⟩,0,fun r=>Ae [] r⟩) iB sQ 1 fun N hN=>?_
            generalize hp:std Tryz.prog=p
            generalize hv:aj=nv
            cbv
            subst hp
            subst hv
            replace h:=dQ h;obtain ⟨akY,h⟩:=h
            try (have amD:=akY;simp only [Int.zero_add] at amD)
            refine ⟨akY,rfl,?_⟩
            subst hN
            show Tr _ _ _ _
            refine Tr.KQ (α:=List aI) h (fun nD QJ=>⟨xB 81 [(0,.sl 4 (aj.len l') false (fun ix jx=>(bU aj (aj.get aA l' ix) jx))),(3,.vec 30 (QJ.g 30) 3 0 (aj.len nD)),(5,.v (.int .i64 v3)),(6,.dI 6 (QJ.g 6) 0),(14,.sl 4 (aj.len l') false (fun ix jx=>(bU aj (aj.get aA l' ix) jx))),(15,.v (.int .i64 (aj.len l'))),(16,.v (.int .i64 v3))] 0,xC 81 [(0,.arr (QJ.g 0) 7 (aj.len (aj.get aC nD ((std Tryz.prog).sub (aj.len nD) 1)).aH) (QJ.t 0) (fun ix jx=>(dM aj (aj.get aD (aj.get aC nD ((std Tryz.prog).sub (aj.len nD) 1)).aH ix) jx))),(6,.box (QJ.g 6) [.sl 7 (aj.len (aj.get aA l' v3).aH) false (fun ix jx=>(dM aj (aj.get aD (aj.get aA l' v3).aH ix) jx)),.v (.bool (aj.get aA l' v3).bX),.v (.int .i64 (aj.get aA l' v3).dJ),.v (.bool (aj.get aA l' v3).bL)]),(30,.arr (QJ.g 30) 3 (aj.len nD) (QJ.t 30) (D9 (.vec 0 (QJ.g 0) 7 0 (aj.len (aj.get aC nD ((std Tryz.prog).sub (aj.len nD) 1)).aH)) (fun ix=>(std Tryz.prog).eq ix ((std Tryz.prog).sub (aj.len nD) 1)) (fun ix jx=>(bY aj (aj.get aC nD ix) jx))))] 0,QJ.c⟩) (fun _ t=>Hid.ok t) (fun x QJ ac9 h=>?_) (fun f h=>?_)
            · revert h;revert ac9;revert x;intro nD ac9 h
              obtain ⟨ada,Y6,ahf⟩:=QJ
              have aqJ:0 < ada:=ac9.1
              have Z8 : ∀ k,Y6 k < ada:=ac9.2
              refine Tr.pre (cx:=⟨xq,⟨fun f=>pE [] f,fun k _ _ _=>tO [] k,fun t=>nC [] t⟩,0,fun r=>Ae [] r⟩) iB sQ 1 fun N hN=>?_
              generalize hp:std Tryz.prog=p
              generalize hv:aj=nv
              cbv
              subst hp
              subst hv
              replace h:=dQ h;obtain ⟨ajv,h⟩:=h
              replace h:=dQ h;obtain ⟨akZ,h⟩:=h
              try (have amE:=akZ;simp only [Int.zero_add] at amE)
              refine ⟨ajv,akZ,?_⟩
              subst hN
              show Tr _ _ _ _
              refine Tr.KQ (α:=List aI) h (fun rZ QK=>⟨xB 81 [(0,.sl 4 (aj.len l') false (fun ix jx=>(bU aj (aj.get aA l' ix) jx))),(3,.vec 30 (QK.g 30) 3 0 (aj.len rZ)),(6,.dI 6 (QK.g 6) 0),(14,.sl 4 (aj.len l') false (fun ix jx=>(bU aj (aj.get aA l' ix) jx))),(15,.v (.int .i64 (aj.len l'))),(16,.v (.int .i64 v3))] 0,xC 81 [(0,.arr (QK.g 0) 7 (aj.len (aj.get aC rZ ((std Tryz.prog).sub (aj.len rZ) 1)).aH) (QK.t 0) (fun ix jx=>(dM aj (aj.get aD (aj.get aC rZ ((std Tryz.prog).sub (aj.len rZ) 1)).aH ix) jx))),(6,.box (QK.g 6) [.sl 7 (aj.len (aj.get aA l' v3).aH) false (fun ix jx=>(dM aj (aj.get aD (aj.get aA l' v3).aH ix) jx)),.v (.bool (aj.get aA l' v3).bX),.v (.int .i64 (aj.get aA l' v3).dJ),.v (.bool (aj.get aA l' v3).bL)]),(30,.arr (QK.g 30) 3 (aj.len rZ) (QK.t 30) (D9 (.vec 0 (QK.g 0) 7 0 (aj.len (aj.get aC rZ ((std Tryz.prog).sub (aj.len rZ) 1)).aH)) (fun ix=>(std Tryz.prog).eq ix ((std Tryz.prog).sub (aj.len rZ) 1)) (fun ix jx=>(bY aj (aj.get aC rZ ix) jx))))] 0,QK.c⟩) (fun _ t=>Hid.ok t) (fun x QK adb h=>?_) (fun f h=>?_)
              · revert h;revert adb;revert x;intro rZ adb h
                obtain ⟨ade,adf,ahg⟩:=QK
                have aqK:0 < ade:=adb.1
                have aeL : ∀ k,adf k < ade:=adb.2
                refine Tr.chunk (cx:=⟨xq,⟨fun f=>pE [] f,fun k _ _ _=>tO [] k,fun t=>nC [] t⟩,0,fun r=>Ae [] r⟩) iB sQ fun N hN=>?_
                generalize hp:std Tryz.prog=p
                generalize hv:aj=nv
                cbv
                subst hp
                subst hv
                refine ⟨rfl,?_⟩
                subst hN
                cases h
                show ∃ t',_∧iR _ _ _
                refine ⟨⟨ade+10,xD [(0,adf 0),(30,adf 30)],A8 [(0,ahg 0),(30,ahg 30)]⟩,Hid.oI (by omega) (And.intro (by have:=aeL 0;omega)
                    (And.intro (by have:=aeL 30;omega)
                    trivial)),?_⟩
                exact iR.of (kW.frame (by show (_:Nat) < _;(try dsimp only [bN,dD]);omega) rfl rfl (And.intro ⟨_,rfl,aZ.refl _⟩
                    (And.intro ⟨_,rfl,aZ.vec rfl (by first | with_reducible rfl | with_reducible assumption | (symm;with_reducible assumption) | ((try dsimp only [bN,dD,aj])<;>first | with_reducible rfl | omega | (simp (disch:=first | omega | (simp only [aJ,aG,aB,aF]<;>omega)) only [bM,aJ,aG,aB,aF,bn,aY,bV,Int.ofNat_eq_natCast,Int.zero_add,Int.sub_zero]<;>first | done | omega | with_reducible assumption)) | rfl)⟩
                    (And.intro ⟨_,rfl,aZ.refl _⟩
                    (And.intro ⟨_,rfl,aZ.refl _⟩
                    (And.intro ⟨_,rfl,aZ.refl _⟩
                    (And.intro ⟨_,rfl,aZ.refl _⟩
                    trivial)))))) (And.intro ⟨_,rfl,dN.refl _⟩
                    (And.intro ⟨_,rfl,dN.refl _⟩
                    trivial)))
              · obtain ⟨v4,adg⟩ : ∃ v4,ac4 0 (oK l' v3)=v4:=⟨_,rfl⟩
                refine Tr.pre (cx:=⟨xq,⟨fun f=>pE [] f,fun k _ _ _=>tO [(40,.plain (.v (.int .i64 v4)))] k,fun t=>nC [] t⟩,0,fun r=>Ae [] r⟩) iB sQ 1 fun N hN=>?_
                generalize hp:std Tryz.prog=p
                generalize hv:aj=nv
                cbv
                subst hp
                subst hv
                replace h:=QH adg h;clear adg;obtain ⟨adg,h⟩:=h
                replace h:=dQ h;obtain ⟨ao5,h⟩:=h
                refine ⟨rfl,(Or.inl (dn.arg (CF l' v3 v4 adg) (And.intro (aZ.refl _)
                    (And.intro (aZ.refl _)
                    trivial)))),ao5,(show F5 _ _ _=true by kernel_rfl),?_⟩
                subst hN
                show Tr _ _ _ _
                refine Tr.block ?_
                refine Tr.bD (α:=Int × List aI) (fun (v5,dB) NT=>⟨xB 81 [(0,.sl 4 (aj.len l') false (fun ix jx=>(bU aj (aj.get aA l' ix) jx))),(3,.vec 30 (NT.g 30) 3 0 (aj.len dB)),(6,.dI 6 (NT.g 6) 0),(7,.kX 30 (NT.g 30) 3 ((std Tryz.prog).sub (aj.len dB) 1) 0),(14,.sl 4 (aj.len l') false (fun ix jx=>(bU aj (aj.get aA l' ix) jx))),(15,.v (.int .i64 (aj.len l'))),(16,.v (.int .i64 v3)),(41,.sl 7 (aj.len (aj.sub (aj.get aA l' v3).aH 0 v4)) false (fun ix jx=>(dM aj (aj.get aD (aj.sub (aj.get aA l' v3).aH 0 v4) ix) jx))),(42,.v (.int .i64 ((std Tryz.prog).sub v4 0))),(43,.v (.int .i64 v5))] 0,xC 81 [(0,.arr (NT.g 0) 7 (aj.len (aj.get aC dB ((std Tryz.prog).sub (aj.len dB) 1)).aH) (NT.t 0) (fun ix jx=>(dM aj (aj.get aD (aj.get aC dB ((std Tryz.prog).sub (aj.len dB) 1)).aH ix) jx))),(6,.box (NT.g 6) [.sl 7 (aj.len (aj.get aA l' v3).aH) false (fun ix jx=>(dM aj (aj.get aD (aj.get aA l' v3).aH ix) jx)),.v (.bool (aj.get aA l' v3).bX),.v (.int .i64 (aj.get aA l' v3).dJ),.v (.bool (aj.get aA l' v3).bL)]),(30,.arr (NT.g 30) 3 (aj.len dB) (NT.t 30) (D9 (.vec 0 (NT.g 0) 7 0 (aj.len (aj.get aC dB ((std Tryz.prog).sub (aj.len dB) 1)).aH)) (fun ix=>(std Tryz.prog).eq ix ((std Tryz.prog).sub (aj.len dB) 1)) (fun ix jx=>(bY aj (aj.get aC dB ix) jx))))] 0,NT.c⟩) (fun (v5,dB) t=>Hid.ok t∧1≤ah dB) ⟨ada+11,xD [(0,Y6 0),(6,Y6 6),(30,Y6 30)],A8 [(0,ahf 0),(6,false),(30,ahf 30)]⟩ h ?_ ?_ (fun x NT f adh h=>?_)
                · exact (And.intro (Hid.oI (by omega) (And.intro (by have:=Z8 0;omega)
                      (And.intro (by have:=Z8 6;omega)
                      (And.intro (by have:=Z8 30;omega)
                      trivial))))
                      (by first | with_reducible assumption | (simp (disch:=first | omega | (simp only [aJ,aG,aB,aF]<;>omega)) only [bM,aJ,aG,aB,aF,bn,aY,bV,Int.ofNat_eq_natCast,Int.zero_add,Int.sub_zero]<;>first | done | with_reducible assumption | omega) | omega | rfl))
                · exact iR.of (kW.frame (by show (_:Nat) < _;(try dsimp only [bN,dD]);omega) rfl rfl (And.intro ⟨_,rfl,aZ.refl _⟩
                      (And.intro ⟨_,rfl,aZ.vec rfl (by first | with_reducible rfl | with_reducible assumption | (symm;with_reducible assumption) | ((try dsimp only [bN,dD,aj])<;>first | with_reducible rfl | omega | (simp (disch:=first | omega | (simp only [aJ,aG,aB,aF]<;>omega)) only [bM,aJ,aG,aB,aF,bn,aY,bV,Int.ofNat_eq_natCast,Int.zero_add,Int.sub_zero]<;>first | done | omega | with_reducible assumption)) | rfl)⟩
                      (And.intro ⟨_,rfl,aZ.refl _⟩
                      (And.intro ⟨_,rfl,(aZ.kX (by first | with_reducible rfl | with_reducible assumption | (symm;with_reducible assumption) | ((try dsimp only [bN,dD,aj])<;>first | with_reducible rfl | omega | (simp (disch:=first | omega | (simp only [aJ,aG,aB,aF]<;>omega)) only [bM,aJ,aG,aB,aF,bn,aY,bV,Int.ofNat_eq_natCast,Int.zero_add,Int.sub_zero]<;>first | done | omega | with_reducible assumption)) | rfl))⟩
                      (And.intro ⟨_,rfl,aZ.refl _⟩
                      (And.intro ⟨_,rfl,aZ.refl _⟩
                      (And.intro ⟨_,rfl,aZ.refl _⟩
                      (And.intro ⟨_,rfl,aZ.slE (by first | with_reducible rfl | with_reducible assumption | (symm;with_reducible assumption) | ((try dsimp only [bN,dD,aj])<;>first | with_reducible rfl | omega | (simp (disch:=first | omega | (simp only [aJ,aG,aB,aF]<;>omega)) only [bM,aJ,aG,aB,aF,bn,aY,bV,Int.ofNat_eq_natCast,Int.zero_add,Int.sub_zero]<;>first | done | omega | with_reducible assumption)) | rfl) (fun i i0 i1 j hj=>by (try dsimp only [bN,dD,aj] at i1);(try simp only [Int.ofNat_eq_natCast,aG,aB,aF,aJ,bM] at i1);(try simp (disch:=first | omega | (simp only [aJ,aG,aB,aF]<;>omega)) only [aY,bn,bV,Int.zero_add,Int.sub_zero] at i1);(rcases (show j=0∨j=1∨j=2∨j=3∨j=4∨j=5∨j=6 by omega) with rfl | rfl | rfl | rfl | rfl | rfl | rfl)<;>(conv=>lhs;whnf)<;>(conv=>rhs;whnf)<;>(try dsimp only [bN,dD,aj])<;>(first | rfl | (simp (disch:=first | omega | (simp only [aJ,aG,aB,aF]<;>omega)) only [tL,gQ,fI,qU,jT,aY,BQ,pz,Int.zero_add,Int.sub_zero,beq_iff_eq,decide_eq_true_eq,Bool.and_eq_true]<;>first | rfl | (split<;>first | rfl | (simp (disch:=first | omega | (simp only [aJ,aG,aB,aF]<;>omega)) only [eD,eO]<;>rfl)) | (simp (disch:=omega) only [eD,eO]<;>rfl) | ((simp only [aG,aB,aF,Int.ofNat_eq_natCast])<;>(repeat' split)<;>first | rfl | (exfalso;omega) | (simp (disch:=omega) only [eD,eO]<;>rfl) | (congr 3;omega)))))⟩
                      (And.intro ⟨_,rfl,aZ.refl _⟩
                      (And.intro ⟨_,rfl,aZ.refl _⟩
                      trivial)))))))))) (And.intro ⟨_,rfl,dN.refl _⟩
                      (And.intro ⟨_,rfl,dN.box (And.intro (aZ.refl _)
                      (And.intro (aZ.refl _)
                      (And.intro (aZ.refl _)
                      (And.intro (aZ.refl _)
                      trivial))))⟩
                      (And.intro ⟨_,rfl,dN.refl _⟩
                      trivial))))
                · obtain ⟨v5,dB⟩:=x
                  try dsimp only at h
                  obtain ⟨adh,apv⟩:=adh
                  obtain ⟨Fh,Fj,V4⟩:=NT
                  have aqL:0 < Fh:=adh.1
                  have DV : ∀ k,Fj k < Fh:=adh.2
                  refine Tr.chunk (cx:=⟨xq,⟨fun f=>pE [] f,fun k _ _ _=>tO [] k,fun t=>nC [56] t⟩,0,fun r=>Ae [] r⟩) iB sQ fun N hN=>?_
                  generalize hp:std Tryz.prog=p
                  generalize hv:aj=nv
                  cbv
                  subst hp
                  subst hv
                  refine ⟨fun afT=>?_,fun afT=>?_⟩
                  · replace h:=vR h afT
                    replace h:=dQ h;obtain ⟨ak0,h⟩:=h
                    try (have amF:=ak0;simp only [Int.zero_add] at amF)
                    refine ⟨ak0,rfl,?_⟩
                    refine ⟨rfl,?_⟩
                    refine ⟨fun afU=>?_,fun afU=>?_⟩
                    · replace h:=vR h afU
                      replace h:=dQ h;obtain ⟨ao6,h⟩:=h
                      refine ⟨rfl,rfl,(by first | assumption | (dsimp only [bN,dD];simp_all)),rfl,ao6,rfl,(show F5 _ _ _=true by kernel_rfl),?_⟩
                      replace h:=dQ h;obtain ⟨ao7,h⟩:=h
                      refine ⟨ao7,?_⟩
                      subst hN
                      cases h
                      show ∃ t',_∧iR _ _ _
                      refine ⟨⟨Fh+16,xD [(0,Fh+6),(6,Fj 6),(30,Fj 30)],A8 [(0,false),(6,false),(30,V4 30)]⟩,(And.intro (Hid.oI (by omega) (And.intro (by omega)
                          (And.intro (by have:=DV 6;omega)
                          (And.intro (by have:=DV 30;omega)
                          trivial))))
                          (by first | with_reducible assumption | (simp (disch:=first | omega | (simp only [aJ,aG,aB,aF]<;>omega)) only [bM,aJ,aG,aB,aF,bn,aY,bV,Int.ofNat_eq_natCast,Int.zero_add,Int.sub_zero]<;>first | done | with_reducible assumption | omega) | omega | rfl)),?_⟩
                      refine iR.by [.forget 0,.QF 30 57 0 (D9 (.vec 0 (Fh+6) 7 0 (aj.len (aj.get aC (aj.set dB ((std Tryz.prog).sub (aj.len dB) 1) (aI.mk (aj.app (aj.get aC dB ((std Tryz.prog).sub (aj.len dB) 1)).aH ([(aj.get aD (aj.sub (aj.get aA l' v3).aH 0 v4) v5)]:List aV)) (aj.get aC dB ((std Tryz.prog).sub (aj.len dB) 1)).dJ (aj.get aC dB ((std Tryz.prog).sub (aj.len dB) 1)).bL)) ((std Tryz.prog).sub (aj.len (aj.set dB ((std Tryz.prog).sub (aj.len dB) 1) (aI.mk (aj.app (aj.get aC dB ((std Tryz.prog).sub (aj.len dB) 1)).aH ([(aj.get aD (aj.sub (aj.get aA l' v3).aH 0 v4) v5)]:List aV)) (aj.get aC dB ((std Tryz.prog).sub (aj.len dB) 1)).dJ (aj.get aC dB ((std Tryz.prog).sub (aj.len dB) 1)).bL))) 1)).aH)) (fun ix=>(std Tryz.prog).eq ix ((std Tryz.prog).sub (aj.len (aj.set dB ((std Tryz.prog).sub (aj.len dB) 1) (aI.mk (aj.app (aj.get aC dB ((std Tryz.prog).sub (aj.len dB) 1)).aH ([(aj.get aD (aj.sub (aj.get aA l' v3).aH 0 v4) v5)]:List aV)) (aj.get aC dB ((std Tryz.prog).sub (aj.len dB) 1)).dJ (aj.get aC dB ((std Tryz.prog).sub (aj.len dB) 1)).bL))) 1)) (fun ix jx=>(bY aj (aj.get aC (aj.set dB ((std Tryz.prog).sub (aj.len dB) 1) (aI.mk (aj.app (aj.get aC dB ((std Tryz.prog).sub (aj.len dB) 1)).aH ([(aj.get aD (aj.sub (aj.get aA l' v3).aH 0 v4) v5)]:List aV)) (aj.get aC dB ((std Tryz.prog).sub (aj.len dB) 1)).dJ (aj.get aC dB ((std Tryz.prog).sub (aj.len dB) 1)).bL)) ix) jx)))] rfl ?_ ?_
                      · exact (And.intro (Sm (by first | rfl | (show ah _+1=ah (_++[_]);simp only [aG,aB,aF];rfl)))
                            trivial)
                      · exact kW.frame (show Fh+7 < Fh+16 by omega) rfl rfl (And.intro ⟨_,rfl,aZ.refl _⟩
                            (And.intro ⟨_,rfl,(by first | exact aZ.refl _ | exact aZ.vec rfl (by first | with_reducible rfl | with_reducible assumption | (symm;with_reducible assumption) | ((try dsimp only [bN,dD,aj])<;>first | with_reducible rfl | omega | (simp (disch:=first | omega | (simp only [aJ,aG,aB,aF]<;>omega)) only [bM,aJ,aG,aB,aF,bn,aY,bV,Int.ofNat_eq_natCast,Int.zero_add,Int.sub_zero]<;>first | done | omega | with_reducible assumption)) | rfl))⟩
                            (And.intro ⟨_,rfl,aZ.refl _⟩
                            (And.intro ⟨_,rfl,(aZ.kX (by first | with_reducible rfl | with_reducible assumption | (symm;with_reducible assumption) | ((try dsimp only [bN,dD,aj])<;>first | with_reducible rfl | omega | (simp (disch:=first | omega | (simp only [aJ,aG,aB,aF]<;>omega)) only [bM,aJ,aG,aB,aF,bn,aY,bV,Int.ofNat_eq_natCast,Int.zero_add,Int.sub_zero]<;>first | done | omega | with_reducible assumption)) | rfl))⟩
                            (And.intro ⟨_,rfl,aZ.refl _⟩
                            (And.intro ⟨_,rfl,aZ.refl _⟩
                            (And.intro ⟨_,rfl,aZ.refl _⟩
                            (And.intro ⟨_,rfl,aZ.refl _⟩
                            (And.intro ⟨_,rfl,aZ.refl _⟩
                            (And.intro ⟨_,rfl,aZ.refl _⟩
                            trivial)))))))))) (And.intro ⟨_,rfl,(alG (by omega) rfl (fun _ _=>rfl) (fun i j hj=>by (rcases (show j=0∨j=1∨j=2∨j=3∨j=4∨j=5∨j=6 by omega) with rfl | rfl | rfl | rfl | rfl | rfl | rfl)<;>rfl))⟩
                            (And.intro ⟨_,rfl,dN.box (And.intro (aZ.refl _)
                            (And.intro (aZ.refl _)
                            (And.intro (aZ.refl _)
                            (And.intro (aZ.refl _)
                            trivial))))⟩
                            (And.intro ⟨_,rfl,dN.ML (by first | with_reducible rfl | with_reducible assumption | (symm;with_reducible assumption) | ((try dsimp only [bN,dD,aj])<;>first | with_reducible rfl | omega | (simp (disch:=first | omega | (simp only [aJ,aG,aB,aF]<;>omega)) only [bM,aJ,aG,aB,aF,bn,aY,bV,Int.ofNat_eq_natCast,Int.zero_add,Int.sub_zero]<;>first | done | omega | with_reducible assumption)) | rfl) (fun i i0 i1 j hj=>rfl)⟩
                            trivial)))
                    · replace h:=vS h afU
                      replace h:=dQ h;obtain ⟨ao8,h⟩:=h
                      refine ⟨ao8,?_⟩
                      subst hN
                      cases h
                      show ∃ t',_∧iR _ _ _
                      refine ⟨⟨Fh+13,xD [(0,Fj 0),(6,Fj 6),(30,Fj 30)],A8 [(0,V4 0),(6,false),(30,V4 30)]⟩,(And.intro (Hid.oI (by omega) (And.intro (by have:=DV 0;omega)
                          (And.intro (by have:=DV 6;omega)
                          (And.intro (by have:=DV 30;omega)
                          trivial))))
                          (by first | with_reducible assumption | (simp (disch:=first | omega | (simp only [aJ,aG,aB,aF]<;>omega)) only [bM,aJ,aG,aB,aF,bn,aY,bV,Int.ofNat_eq_natCast,Int.zero_add,Int.sub_zero]<;>first | done | with_reducible assumption | omega) | omega | rfl)),?_⟩
                      exact iR.of (kW.frame (by show (_:Nat) < _;(try dsimp only [bN,dD]);omega) rfl rfl (And.intro ⟨_,rfl,aZ.refl _⟩
                          (And.intro ⟨_,rfl,(by first | exact aZ.refl _ | exact aZ.vec rfl (by first | with_reducible rfl | with_reducible assumption | (symm;with_reducible assumption) | ((try dsimp only [bN,dD,aj])<;>first | with_reducible rfl | omega | (simp (disch:=first | omega | (simp only [aJ,aG,aB,aF]<;>omega)) only [bM,aJ,aG,aB,aF,bn,aY,bV,Int.ofNat_eq_natCast,Int.zero_add,Int.sub_zero]<;>first | done | omega | with_reducible assumption)) | rfl))⟩
                          (And.intro ⟨_,rfl,aZ.refl _⟩
                          (And.intro ⟨_,rfl,(aZ.kX (by first | with_reducible rfl | with_reducible assumption | (symm;with_reducible assumption) | ((try dsimp only [bN,dD,aj])<;>first | with_reducible rfl | omega | (simp (disch:=first | omega | (simp only [aJ,aG,aB,aF]<;>omega)) only [bM,aJ,aG,aB,aF,bn,aY,bV,Int.ofNat_eq_natCast,Int.zero_add,Int.sub_zero]<;>first | done | omega | with_reducible assumption)) | rfl))⟩
                          (And.intro ⟨_,rfl,aZ.refl _⟩
                          (And.intro ⟨_,rfl,aZ.refl _⟩
                          (And.intro ⟨_,rfl,aZ.refl _⟩
                          (And.intro ⟨_,rfl,aZ.refl _⟩
                          (And.intro ⟨_,rfl,aZ.refl _⟩
                          (And.intro ⟨_,rfl,aZ.refl _⟩
                          trivial)))))))))) (And.intro ⟨_,rfl,dN.refl _⟩
                          (And.intro ⟨_,rfl,dN.box (And.intro (aZ.refl _)
                          (And.intro (aZ.refl _)
                          (And.intro (aZ.refl _)
                          (And.intro (aZ.refl _)
                          trivial))))⟩
                          (And.intro ⟨_,rfl,dN.refl _⟩
                          trivial))))
                  · replace h:=vS h afT
                    subst hN
                    cases h
                    intro he;cases he
                    show ∃ t',_∧iR _ _ _
                    refine ⟨⟨Fh+10,xD [(0,Fj 0),(6,Fj 6),(30,Fj 30)],A8 [(0,V4 0),(6,false),(30,V4 30)]⟩,Hid.oI (by omega) (And.intro (by have:=DV 0;omega)
                        (And.intro (by have:=DV 6;omega)
                        (And.intro (by have:=DV 30;omega)
                        trivial))),?_⟩
                    exact iR.of (kW.frame (by show (_:Nat) < _;(try dsimp only [bN,dD]);omega) rfl rfl (And.intro ⟨_,rfl,aZ.refl _⟩
                        (And.intro ⟨_,rfl,aZ.vec rfl (by first | with_reducible rfl | with_reducible assumption | (symm;with_reducible assumption) | ((try dsimp only [bN,dD,aj])<;>first | with_reducible rfl | omega | (simp (disch:=first | omega | (simp only [aJ,aG,aB,aF]<;>omega)) only [bM,aJ,aG,aB,aF,bn,aY,bV,Int.ofNat_eq_natCast,Int.zero_add,Int.sub_zero]<;>first | done | omega | with_reducible assumption)) | rfl)⟩
                        (And.intro ⟨_,rfl,aZ.refl _⟩
                        (And.intro ⟨_,rfl,aZ.refl _⟩
                        (And.intro ⟨_,rfl,aZ.refl _⟩
                        (And.intro ⟨_,rfl,aZ.refl _⟩
                        trivial)))))) (And.intro ⟨_,rfl,dN.refl _⟩
                        (And.intro ⟨_,rfl,dN.box (And.intro (aZ.refl _)
                        (And.intro (aZ.refl _)
                        (And.intro (aZ.refl _)
                        (And.intro (aZ.refl _)
                        trivial))))⟩
                        (And.intro ⟨_,rfl,dN.refl _⟩
                        trivial))))
            · refine Tr.chunk (cx:=⟨xq,⟨fun f=>pE [] f,fun k _ _ _=>tO [] k,fun t=>nC [29] t⟩,0,fun r=>Ae [(9,[.QE 30 0 (fun ix jx=>(bY aj (aj.get aC jV ix) jx))])] r⟩) iB sQ fun N hN=>?_
              generalize hp:std Tryz.prog=p
              generalize hv:aj=nv
              cbv
              subst hp
              subst hv
              refine ⟨fun afV=>?_,fun afV=>?_⟩
              · replace h:=vR h afV
                replace h:=dQ h;obtain ⟨ao9,h⟩:=h
                refine ⟨(EF jV 0 (RQ 0) _ ((ah jV)-1)),rfl,rfl,rfl,(by have:=QI 30;show (_:Nat) < _;(try dsimp only [bN,dD]);omega),ao9,?_⟩
                subst hN
                cases h
                show ∃ t',_∧iR _ _ _
                refine ⟨⟨yR+16,xD [(0,yR+6),(6,yR+1),(30,yR+4)],A8 [(0,false),(6,false),(30,false)]⟩,Hid.oI (by omega) (And.intro (by omega)
                    (And.intro (by omega)
                    (And.intro (by omega)
                    trivial))),?_⟩
                refine iR.by [.empty 1 7,.QF 30 1 0 (D9 (.vec 0 (yR+6) 7 0 (aj.len (aj.get aC (aj.app jV ([(aI.mk ([]:List aV) (aj.get aA l' v3).dJ (aj.get aA l' v3).bL)]:List aI)) ((std Tryz.prog).sub (aj.len (aj.app jV ([(aI.mk ([]:List aV) (aj.get aA l' v3).dJ (aj.get aA l' v3).bL)]:List aI))) 1)).aH)) (fun ix=>(std Tryz.prog).eq ix ((std Tryz.prog).sub (aj.len (aj.app jV ([(aI.mk ([]:List aV) (aj.get aA l' v3).dJ (aj.get aA l' v3).bL)]:List aI))) 1)) (fun ix jx=>(bY aj (aj.get aC (aj.app jV ([(aI.mk ([]:List aV) (aj.get aA l' v3).dJ (aj.get aA l' v3).bL)]:List aI)) ix) jx)))] rfl ?_ ?_
                · exact (And.intro (Sn (by first | with_reducible rfl | with_reducible assumption | (symm;with_reducible assumption) | ((try dsimp only [bN,dD,aj])<;>first | with_reducible rfl | omega | (simp (disch:=first | omega | (simp only [aJ,aG,aB,aF]<;>omega)) only [bM,aJ,aG,aB,aF,bn,aY,bV,Int.ofNat_eq_natCast,Int.zero_add,Int.sub_zero]<;>first | done | omega | with_reducible assumption)) | rfl) (fun _ _=>rfl) (fun _=>rfl) (fun _=>rfl) (fun _=>rfl))
                      trivial)
                · exact kW.frame (show yR+7 < yR+16 by omega) rfl rfl (And.intro ⟨_,rfl,aZ.refl _⟩
                      (And.intro ⟨_,rfl,aZ.vec rfl (by first | with_reducible rfl | with_reducible assumption | (symm;with_reducible assumption) | ((try dsimp only [bN,dD,aj])<;>first | with_reducible rfl | omega | (simp (disch:=first | omega | (simp only [aJ,aG,aB,aF]<;>omega)) only [bM,aJ,aG,aB,aF,bn,aY,bV,Int.ofNat_eq_natCast,Int.zero_add,Int.sub_zero]<;>first | done | omega | with_reducible assumption)) | rfl)⟩
                      (And.intro ⟨_,rfl,aZ.refl _⟩
                      (And.intro ⟨_,rfl,aZ.refl _⟩
                      (And.intro ⟨_,rfl,aZ.refl _⟩
                      (And.intro ⟨_,rfl,aZ.refl _⟩
                      (And.intro ⟨_,rfl,aZ.refl _⟩
                      trivial))))))) (And.intro ⟨_,rfl,(dN.arr' alH (fun i i0 i1 j hj=>by exfalso;revert i1;show i < (0:Int)→False;omega))⟩
                      (And.intro ⟨_,rfl,dN.box (And.intro (aZ.refl _)
                      (And.intro (aZ.refl _)
                      (And.intro (aZ.refl _)
                      (And.intro (aZ.refl _)
                      trivial))))⟩
                      (And.intro ⟨_,rfl,dN.ML (by first | with_reducible rfl | with_reducible assumption | (symm;with_reducible assumption) | ((try dsimp only [bN,dD,aj])<;>first | with_reducible rfl | omega | (simp (disch:=first | omega | (simp only [aJ,aG,aB,aF]<;>omega)) only [bM,aJ,aG,aB,aF,bn,aY,bV,Int.ofNat_eq_natCast,Int.zero_add,Int.sub_zero]<;>first | done | omega | with_reducible assumption)) | rfl) (fun i i0 i1 j hj=>rfl)⟩
                      trivial)))
              · replace h:=vS h afV
                subst hN
                cases h
                show ∃ t',_∧iR _ _ _
                refine ⟨⟨yR+12,xD [(0,RQ 0),(6,yR+1),(30,RQ 30)],A8 [(0,Y5 0),(6,false),(30,Y5 30)]⟩,Hid.oI (by omega) (And.intro (by have:=QI 0;omega)
                    (And.intro (by omega)
                    (And.intro (by have:=QI 30;omega)
                    trivial))),?_⟩
                exact iR.of (kW.frame (by show (_:Nat) < _;(try dsimp only [bN,dD]);omega) rfl rfl (And.intro ⟨_,rfl,aZ.refl _⟩
                    (And.intro ⟨_,rfl,aZ.vec rfl (by first | with_reducible rfl | with_reducible assumption | (symm;with_reducible assumption) | ((try dsimp only [bN,dD,aj])<;>first | with_reducible rfl | omega | (simp (disch:=first | omega | (simp only [aJ,aG,aB,aF]<;>omega)) only [bM,aJ,aG,aB,aF,bn,aY,bV,Int.ofNat_eq_natCast,Int.zero_add,Int.sub_zero]<;>first | done | omega | with_reducible assumption)) | rfl)⟩
                    (And.intro ⟨_,rfl,aZ.refl _⟩
                    (And.intro ⟨_,rfl,aZ.refl _⟩
                    (And.intro ⟨_,rfl,aZ.refl _⟩
                    (And.intro ⟨_,rfl,aZ.refl _⟩
                    (And.intro ⟨_,rfl,aZ.refl _⟩
                    trivial))))))) (And.intro ⟨_,rfl,dN.refl _⟩
                    (And.intro ⟨_,rfl,dN.box (And.intro (aZ.refl _)
                    (And.intro (aZ.refl _)
                    (And.intro (aZ.refl _)
                    (And.intro (aZ.refl _)
                    trivial))))⟩
                    (And.intro ⟨_,rfl,dN.refl _⟩
                    trivial))))
        · replace h:=vS h h112
          subst hN
          cases h
          intro he;cases he
          show ∃ t',_∧iR _ _ _
          refine ⟨⟨yR+10,xD [(0,RQ 0),(30,RQ 30)],A8 [(0,Y5 0),(30,Y5 30)]⟩,Hid.oI (by omega) (And.intro (by have:=QI 0;omega)
              (And.intro (by have:=QI 30;omega)
              trivial)),?_⟩
          exact iR.of (kW.frame (by show (_:Nat) < _;(try dsimp only [bN,dD]);omega) rfl rfl (And.intro ⟨_,rfl,aZ.vec rfl (by first | with_reducible rfl | with_reducible assumption | (symm;with_reducible assumption) | ((try dsimp only [bN,dD,aj])<;>first | with_reducible rfl | omega | (simp (disch:=first | omega | (simp only [aJ,aG,aB,aF]<;>omega)) only [bM,aJ,aG,aB,aF,bn,aY,bV,Int.ofNat_eq_natCast,Int.zero_add,Int.sub_zero]<;>first | done | omega | with_reducible assumption)) | rfl)⟩
              trivial) (And.intro ⟨_,rfl,dN.refl _⟩
              (And.intro ⟨_,rfl,dN.refl _⟩
              trivial)))

theorem KH x' r (h:qV x'=some r):Pf 175 [Nr aj x'] (vb r):=by
  obtain ⟨_,_,_⟩:=x'
  unfold qV at h
  try dsimp only at h
  refine bC Tryz.func175 fun ctr hc=>?_
  revert h;refine bE 2 [] 0 [] (Wq ?_);intro h;intros
  refine bq h (ctr+2) [(2,1),(1,1),(8,23)] [] (fun _ u=>Fa [] []) (fun x uc ug ut ht hu hp h=>?_) (fun f h=>?_)
  · refine Wx [] 0 [] Wz
  · revert h;refine bE 1 [] 0 [] (Wq ?_);intro h;intros
    refine Tr.block ?_
    refine dO h (ctr+3) [(2,1),(1,1),(11,20)] [(4,1)] (fun v u1=>Fa [(16,vi v)] []) bW (fun v cu fJ fE f ht hu hp h=>?_)
    refine bB ?_
    refine mR 30 0 h (sT (sC sB)) (IW _) fun v1 h18=>?_
    refine mR 32 0 h (sT (sC (sK v1 sB))) (ni _) fun v2 h19=>?_
    refine Wk [] 0 [] Wz

theorem IU x' w r (h:nE x' w=some r):Pf 176 [Nr aj x',vi w] (DC aj r):=by
  obtain ⟨_,_,_⟩:=x'
  unfold nE at h
  try dsimp only at h
  refine bC Tryz.func176 fun ctr hc=>?_
  revert h;refine bE 1 [999] 0 [] (Wq ?_);intro h;intros
  refine Tr.scope ?_
  refine bB ?_
  refine Wi 12 0 h sB (KH _) fun v h1=>?_
  revert h;refine jI 4 [999] 0 [] (Wq ?_);intro h;intros
  refine Tr.seq ?_
  refine Tr.label ?_
  show Tr _ _ _ _
  refine Tr.block ?_
  refine dO h (ctr+5) [(4,7),(8,48)] [(7,1),(2,1),(38,1)] (fun (left,l') u=>Fa [(5,.vec 49 (u.g 49) 4 0 (aj.len l')),(6,lQ aj left)] [(49,iM aj (u.g 49) (aj.len l') (u.t 49) l')]) bW (fun x uc ug ut f ht hu hp h=>?_)
  obtain ⟨left,l'⟩:=x
  try dsimp only at hp h
  refine Tr.block ?_
  refine bB ?_
  refine Wi 21 1 h sB (MH _ _) fun v1 h42=>?_
  obtain ⟨q3,_,_,_⟩:=v1
  revert h;refine jI 3 [999] 0 [] (Wq ?_);intro h;intros
  refine bq h (uc+3) [(5,2),(1,3),(17,35)] [(21,1),(27,1)] (fun o u1=>⟨[(5,.vec 49 (ug 49) 4 0 (aj.len l'))],[(21,kS aj (uc+0) (aj.len q3) (u1.t 21) o),(49,iM aj (ug 49) (aj.len l') (u1.t 49) l')],fun _=>ah o=(ah q3)⟩) (fun o cu fJ fE ht hu hp h=>?_) (fun f h=>?_)
  · try dsimp only at hp h
    refine Wx [65,999] 0 [(18,[.freeze (.cell 7 0)])] Wz
  · revert h;refine bE 1 [999] 0 [] (Wq ?_);intro h;intros
    refine Tr.block ?_
    refine dO h (uc+4) [(5,2),(1,3),(19,33)] [(10,1),(10,1),(27,1)] (fun (at',v2,o1) u2=>⟨[(5,.vec 49 (ug 49) 4 0 (aj.len l')),(6,lQ aj left),(8,vi at'),(30,vi v2)],[(21,kS aj (uc+0) (aj.len q3) (u2.t 21) o1),(49,iM aj (ug 49) (aj.len l') (u2.t 49) l')],fun _=>ah o1=(ah q3)⟩) bW (fun x jB ny mF f ht hu hp h=>?_)
    obtain ⟨_,v2,_⟩:=x
    try dsimp only at hp h
    refine bB ?_
    refine Wo 59 0 (IW (au aD left v2)) fun v3 h86=>?_
    refine Wk [48,999] 0 [(15,[.freeze (.cell 7 0)])] Wz

theorem VK k' l' r (h:wu k' l'=some r):Pf 84 [oO aj k',iC aj l'] (oO aj r):=by
  obtain ⟨q,q1⟩:=k'
  unfold wu at h
  try dsimp only at h
  refine bC Tryz.func84 fun ctr hc=>?_
  refine bB ?_
  refine Wo 10 0 (AY ⟨q,q1⟩) fun v h1=>?_
  revert h;refine jI 3 [] 0 [] (Wq ?_);intro h;intros
  refine bq h (ctr+3) [(5,1),(1,1),(8,13)] [(15,1)] (fun all u=>Fa [(5,.vec 15 (u.g 15) 4 0 (aj.len all))] [(15,iM aj (u.g 15) (aj.len all) (u.t 15) all)]) (fun all uc ug ut ht hu hp h=>?_) (fun f h=>?_)
  · refine Wx [] 0 [] Wz
  · revert h;refine bE 1 [] 0 [] (Wq ?_);intro h;intros
    refine Tr.block ?_
    refine dO h (ctr+4) [(5,1),(1,1),(10,11)] [(7,1),(7,1),(11,1)] (fun (v1,all1) u1=>Fa [(5,.vec 15 (u1.g 15) 4 0 (aj.len all1)),(18,vi v1)] [(15,iM aj (u1.g 15) (aj.len all1) (u1.t 15) all1)]) bW (fun x cu fJ fE f ht hu hp h=>?_)
    obtain ⟨_,_⟩:=x
    try dsimp only at hp h
    refine bB ?_
    refine Wi 23 0 h (sT (sC sB)) (ni _) fun v2 h27=>?_
    refine Wk [26] 0 [] Wz

theorem SE k' g' back r (h:Ci k' g' back=some r):Pf 114 [oO aj k',qP aj g',vi back] (DC aj r):=by
  obtain ⟨q,q1⟩:=k'
  obtain ⟨q2⟩:=g'
  unfold Ci at h
  try dsimp only at h
  refine bC Tryz.func114 fun ctr hc=>?_
  refine bB ?_
  refine Wo 10 0 (AY ⟨q,q1⟩) fun v1 h10=>?_
  refine IK 14 0 (!(!v1)) (Hl ⟨q2⟩) false fun v2 h11=>?_
  refine Wkc 4 [] 0 [] h ctr [(3,2),(1,2),(1,15)] [(3,2),(14,1),(3,1)] (fun _ u=>Fa [(3,.dI 3 (u.g 3) 0),(4,.dI 4 (u.g 4) 0),(7,.vec 23 (u.g 23) 4 0 ((std Tryz.prog).add (aj.len q) (aj.len q2)))] [(3,.box (u.g 3) [iC aj q,vi q1]),(4,.box (u.g 4) [iC aj q2]),(23,iM aj (u.g 23) ((std Tryz.prog).add (aj.len q) (aj.len q2)) (u.t 23) (aj.app q q2))]) (fun x uc ug ut ht hu hp h=>?_) (fun f h=>Wz)
  refine bB ?_
  refine Wi 30 0 h sB (DT _ _) fun v h5=>?_
  refine Wk [] 0 [] Wz

theorem YJ t' r (h:LX t'=some r):Pf 68 [gP aj t'] (vb r):=by
  unfold LX at h
  refine bC Tryz.func68 fun ctr hc=>?_
  refine bB ?_
  refine Wi 6 0 h sB (sI _ _ _) fun v h1=>?_
  refine Wk [] 0 [] Wz

theorem ZP l' r (h:OV l'=some r):Pf 109 [iC aj l'] (vb r):=by
  unfold OV at h
  refine bC Tryz.func109 fun ctr hc=>?_
  revert h;refine bE 1 [] 0 [] (Wq ?_);intro h;intros
  refine bq h (ctr+1) [(2,1),(1,11)] [] (fun _ u=>Fa [] []) (fun x uc ug ut ht hu hp h=>?_) (fun f h=>?_)
  · refine Wx [] 0 [] Wz
  · revert h;refine bE 1 [] 0 [] (Wq ?_);intro h;intros
    refine Tr.block ?_
    refine dO h (ctr+2) [(2,1),(1,1),(2,8)] [(4,1)] (fun v u1=>Fa [(7,vi v)] []) bW (fun v cu fJ fE f ht hu hp h=>?_)
    refine bB ?_
    refine Wi 12 0 h (sT (sC sB)) (ni _) fun v1 h14=>?_
    refine Wk [] 0 [] Wz

end Go.Vx
