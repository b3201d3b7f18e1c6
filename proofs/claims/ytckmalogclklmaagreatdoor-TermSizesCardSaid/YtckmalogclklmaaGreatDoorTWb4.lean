/- Walks, by program (lift5.py): the code does what the lifted functions say. -/
import Derived.Test.YtckmalogclklmaaGreatDoorTHead
import Derived.Test.YtckmalogclklmaaGreatDoorTDg
import Derived.Test.YtckmalogclklmaaGreatDoorTSd
import Derived.Test.YtckmalogclklmaaGreatDoorTCh
set_option linter.all false
namespace Go.Vx
open Go.Proofs
set_option maxRecDepth 100000
set_option maxHeartbeats 8000000
set_option linter.unusedVariables false
set_option linter.unusedSimpArgs false
attribute [local irreducible] chk ay av aM lI

theorem XB c' r (h:Jy c'=some r):Pf 106 [vr c'] (vb r):=by
  unfold Jy at h
  refine bC Tryz.func106 fun ctr hc=>?_
  refine Wx [] 0 [] Wz

theorem He c' r (h:uJ c'=some r):Pf 345 [vu c'] (vu r):=by
  unfold uJ at h
  refine bC Tryz.func345 fun ctr hc=>?_
  refine Wx [] 0 [] Wz

theorem rG v least most r (h:mO v least most=some r):Pf 80 [vi v,vi least,vi most] (vi r):=by
  unfold mO at h
  refine bC Tryz.func80 fun ctr hc=>?_
  refine Wx [] 0 [] Wz

theorem QD p' r (h:DK p'=some r):Pf 177 [zm aj p'] (zX aj r):=by
  unfold DK at h
  refine bC Tryz.func177 fun ctr hc=>?_
  refine Wx [] 0 [] Wz

theorem EA s r (h:oG s=some r):Pf 16 [gW aj s] (vb r):=by
  obtain ⟨_,_,_,⟨_,_⟩,_,_⟩:=s
  unfold oG at h
  try dsimp only at h
  refine bC Tryz.func16 fun ctr hc=>?_
  refine bB ?_
  refine mR 29 0 h sB (JX _) fun v h1=>?_
  revert h;refine jI 2 [] 0 [] (Wq ?_);intro h;intros
  refine bq h (ctr+2) [(2,4),(26,31)] [] (fun _ u=>Fa [] []) (fun x uc ug ut ht hu hp h=>?_) (fun f h=>?_)
  · refine Wx [] 0 [] Wz
  · revert h;refine bE 1 [] 0 [] (Wq ?_);intro h;intros
    refine Tr.block ?_
    refine dO h (ctr+3) [(2,4),(29,28)] [] (fun v1 u1=>Fa [(35,vi v1)] []) bW (fun v1 cu fJ fE f ht hu hp h=>?_)
    refine Wx [] 0 [] Wz

theorem Uy r' r (h:uK r'=some r):Pf 75 [jg aj r'] (vb r):=by
  obtain ⟨_,_,_,_⟩:=r'
  unfold uK at h
  try dsimp only at h
  refine bC Tryz.func75 fun ctr hc=>?_
  refine Wx [] 0 [] Wz

theorem IY c' r (h:vW c'=some r):Pf 118 [vi c'] (vb r):=by
  unfold vW at h
  refine bC Tryz.func118 fun ctr hc=>?_
  refine Wx [] 0 [] Wz

theorem uo final r (h:nV final=some r):Pf 119 [vu final] (vb r):=by
  unfold nV at h
  refine bC Tryz.func119 fun ctr hc=>?_
  refine Wx [] 0 [] Wz

theorem DU which r (h:qG which=some r):Pf 120 [vi which] (vb r):=by
  unfold qG at h
  refine bC Tryz.func120 fun ctr hc=>?_
  refine Wx [] 0 [] Wz

theorem Pm s r (h:zC s=some r):Pf 71 [vO aj s] (vb r):=by
  obtain ⟨_,_⟩:=s
  unfold zC at h
  try dsimp only at h
  refine bC Tryz.func71 fun ctr hc=>?_
  revert h;refine bE 3 [] 0 [] (Wq ?_);intro h;intros
  refine bq h (ctr+3) [(2,2),(1,1),(8,18)] [] (fun _ u=>Fa [] []) (fun x uc ug ut ht hu hp h=>?_) (fun f h=>?_)
  · refine Wx [] 0 [] Wz
  · revert h;refine bE 1 [] 0 [] (Wq ?_);intro h;intros
    refine Tr.block ?_
    refine dO h (ctr+4) [(2,2),(1,1),(11,15)] [] (fun (ahead,v) u1=>Fa [(3,vi ahead),(17,vi v)] []) bW (fun x cu fJ fE f ht hu hp h=>?_)
    obtain ⟨_,_⟩:=x
    try dsimp only at hp h
    refine Wx [] 0 [] Wz

theorem GY t' r (h:vZ t'=some r):Pf 18 [gP aj t'] (oO aj r):=by
  obtain ⟨⟨_⟩,⟨_,_,_,⟨_,_⟩,_,_⟩,⟨⟨⟨_⟩,⟨_,_,_,_,⟨_,_,_⟩,⟨⟨_,_,_,_⟩,_,_,_⟩⟩,⟨_,_,_,_⟩,⟨_,_⟩,⟨_,_⟩,_,_⟩,⟨⟨_⟩,⟨_,_,_,_,⟨_,_,_⟩,⟨⟨_,_,_,_⟩,_,_,_⟩⟩,⟨_,_,_,_⟩,⟨_,_⟩,⟨_,_⟩,_,_⟩,_,⟨_⟩,⟨⟨_,_,_,_,⟨_,_,_⟩,⟨⟨_,_,_,_⟩,_,_,_⟩⟩,⟨_,_,_,_,⟨_,_,_⟩,⟨⟨_,_,_,_⟩,_,_,_⟩⟩⟩,_,_,_⟩,_⟩:=t'
  unfold vZ at h
  try dsimp only at h
  refine bC Tryz.func18 fun ctr hc=>?_
  refine Wx [] 0 [] Wz

theorem ZU a r (h:OJ a=some r):Pf 51 [U5 aj a] ((.Ac 143 (WS aj r))):=by
  obtain ⟨_,_,_,_,_,_,⟨_,_,_,_,_⟩⟩:=a
  unfold OJ at h
  try dsimp only at h
  refine bC Tryz.func51 fun ctr hc=>?_
  refine Wx [] 0 [] Wz

theorem ZL s r (h:OL s=some r):Pf 186 [gW aj s] (Ov aj r):=by
  obtain ⟨_,_,_,⟨_,_⟩,_,_⟩:=s
  unfold OL at h
  try dsimp only at h
  refine bC Tryz.func186 fun ctr hc=>?_
  refine Wx [] 0 [] Wz

theorem EB t' r' r (h:Az t' r'=some r):Pf 282 [wL aj t',vi r'] (vi r):=by
  obtain ⟨_⟩:=t'
  unfold Az at h
  try dsimp only at h
  refine bC Tryz.func282 fun ctr hc=>?_
  revert h;refine bE 1 [] 0 [] (Wq ?_);intro h;intros
  refine bq h (ctr+1) [(4,1),(1,21)] [] (fun _ u=>Fa [] []) (fun x uc ug ut ht hu hp h=>?_) (fun f h=>?_)
  · refine Wx [] 0 [] Wz
  · revert h;refine bE 1 [] 0 [] (Wq ?_);intro h;intros
    refine Tr.block ?_
    refine dO h (ctr+2) [(4,1),(1,1),(3,17)] [(6,1)] (fun v u1=>Fa [(10,vi v)] []) bW (fun v cu fJ fE f ht hu hp h=>?_)
    refine Wx [] 0 [] Wz

theorem Z5 g' r (h:OP g'=some r):Pf 379 [qP aj g'] (DC aj r):=by
  obtain ⟨_⟩:=g'
  unfold OP at h
  try dsimp only at h
  refine bC Tryz.func379 fun ctr hc=>?_
  refine Wx [] 0 [] Wz

theorem Xu l' inter final r (h:JE l' inter final=some r):Pf 141 [Ns aj l',vs inter,vu final] ((.fn (.func (aj.fF r)) (aj.fK r) (aj.fC r))):=by
  unfold JE at h
  refine bC Tryz.func141 fun ctr hc=>?_
  revert h;refine bE 1 [] 0 [] (Wq ?_);intro h;intros
  refine bq h (ctr+1) [(6,1),(1,20)] [] (fun _ u=>Fa [] []) (fun x uc ug ut ht hu hp h=>?_) (fun f h=>?_)
  · cases h
  · revert h;refine bE 1 [] 0 [] (Wq ?_);intro h;intros
    refine Tr.block ?_
    refine dO h (ctr+2) [(6,1),(1,1),(2,17)] [(8,1)] (fun v u1=>Fa [(11,vi v)] []) bW (fun v cu fJ fE f ht hu hp h=>?_)
    refine Wx [] 0 [] Wz

theorem ji f' r (h:jE f'=some r):Pf 192 [(.fn (.func (aj.fF f')) (aj.fK f') (aj.fC f'))] ((.fn (.func (aj.fF r)) (aj.fK r) (aj.fC r))):=by
  unfold jE at h
  refine bC Tryz.func192 fun ctr hc=>?_
  refine Wx [] 0 [] Wz

theorem Uf k' text r (h:Ew k' text=some r):Pf 236 [vi k',(.fn (.func (aj.fF text)) (aj.fK text) (aj.fC text))] ((.fn (.func (aj.fF r)) (aj.fK r) (aj.fC r))):=by
  unfold Ew at h
  refine bC Tryz.func236 fun ctr hc=>?_
  refine Wx [] 0 [] Wz

theorem XC l' r (h:JG l'=some r):Pf 401 [Li aj l'] (Ui aj r):=by
  unfold JG at h
  refine bC Tryz.func401 fun ctr hc=>?_
  revert h;refine bE 2 [] 0 [] (Wq ?_);intro h;intros
  refine bq h (ctr+2) [(4,2),(3,18)] [(8,1)] (fun out u=>⟨[],[(8,Ri aj (ctr+1) (aj.len l') (u.t 8) out)],fun _=>ah out=(ah l')⟩) (fun out uc ug ut ht hu hp h=>?_) (fun f h=>?_)
  · try dsimp only at hp h
    refine Wx [] 0 [] Wz
  · revert h;refine bE 1 [] 0 [] (Wq ?_);intro h;intros
    refine Tr.block ?_
    refine dO h (ctr+3) [(4,2),(5,16)] [(8,1)] (fun (v,aO) u1=>⟨[(11,vi v)],[(8,Ri aj (ctr+1) (aj.len l') (u1.t 8) aO)],fun _=>ah aO=(ah l')⟩) bW (fun x cu fJ fE f ht hu hp h=>?_)
    obtain ⟨_,_⟩:=x
    try dsimp only at hp h
    refine Wx [] 0 [] Wz

theorem IZ base r (h:wz base=some r):Pf 402 [vi base] (vi r):=by
  unfold wz at h
  refine bC Tryz.func402 fun ctr hc=>?_
  refine Wx [] 0 [] Wz

theorem NR l' r' r (h:E9 l' r'=some r):Pf 410 [Li aj l',Di aj r'] (vb r):=by
  obtain ⟨_,_,_⟩:=r'
  unfold E9 at h
  try dsimp only at h
  refine bC Tryz.func410 fun ctr hc=>?_
  refine Wx [] 0 [] Wz

theorem YN (r':iN) (r:(List (List Int))) (h:LY r'=some r):dn Tryz.prog 411 [(.agg 3 (fun j=>(Dh aj r' j)))] (.own 1 (aj.len r) false (fun ix jx=>(.sl 1 (aj.len (aj.get [] r ix)) false (fun kL xL=>(.v (.int .i64 (aj.get 0 (aj.get [] r ix) kL))))))):=by
  obtain ⟨q,q1,q2⟩:=r'
  unfold LY at h
  try dsimp only at h
  refine acA iB Tryz.func411 (by kernel_rfl) (c:=mH Tryz.f411) (by kernel_rfl) ?_
  intro ctr hc
  refine Tr.pre (cx:=⟨xq,⟨fun f=>pE [] f,fun k _ _ _=>tO [] k,fun t=>nC [] t⟩,0,fun r=>Ae [] r⟩) iB sQ 2 fun N hN=>?_
  generalize hp:std Tryz.prog=p
  generalize hv:aj=nv
  cbv
  subst hp
  subst hv
  subst hN
  show Tr _ _ _ _
  refine Tr.KQ (α:=List (List Int)) h (fun out t'=>⟨xB 58 [(3,.vec 43 (t'.g 43) 1 0 (aj.len out))] 0,xC 58 [(0,.arr (t'.g 0) 1 (aj.len (aj.get [] out ((std Tryz.prog).sub (aj.len out) 1))) (t'.t 0) (fun ix jx=>(.v (.int .i64 (aj.get 0 (aj.get [] out ((std Tryz.prog).sub (aj.len out) 1)) ix))))),(43,.arr (t'.g 43) 1 (aj.len out) (t'.t 43) (fun ix jx=>.cnd ((std Tryz.prog).eq ix ((std Tryz.prog).sub (aj.len out) 1)) (.vec 0 (t'.g 0) 1 0 (aj.len (aj.get [] out ((std Tryz.prog).sub (aj.len out) 1)))) (.sl 1 (aj.len (aj.get [] out ix)) false (fun kL xL=>(.v (.int .i64 (aj.get 0 (aj.get [] out ix) kL)))))))] 0,t'.c⟩) (fun _ t=>Hid.ok t) (fun x t' ht' h=>?_) (fun f h=>?_)
  · revert h;revert ht';revert x;intro out ht' h
    obtain ⟨XD,XE,akT⟩:=t'
    have amz:0 < XD:=ht'.1
    have aha : ∀ k,XE k < XD:=ht'.2
    refine Tr.chunk (cx:=⟨xq,⟨fun f=>pE [] f,fun k _ _ _=>tO [] k,fun t=>nC [] t⟩,0,fun r=>Ae [(11,[.QE 43 0 (fun ix jx=>(.sl 1 (aj.len (aj.get [] out ix)) false (fun kL xL=>(.v (.int .i64 (aj.get 0 (aj.get [] out ix) kL))))))])] r⟩) iB sQ fun N hN=>?_
    generalize hp:std Tryz.prog=p
    generalize hv:aj=nv
    cbv
    subst hp
    subst hv
    refine ⟨(ahb (P:=Tryz.prog) (fun x j=>(.v (.int .i64 x))) 0 out 0 (XE 0) 1 _ ((ah out)-1) (fun _ _=>ak _ _)),?_⟩
    subst hN
    have hr:=Option.some.inj h
    subst hr
    try dsimp only [noGoto,vQ,qE]
    repeat (first | refine (if_pos rfl).mpr ?_ | refine (if_neg (by decide)).mpr ?_)
    refine Lp rfl ?_ ?_
    · exact trivial
    · exact (And.intro (rfl)
          (And.intro (by first | with_reducible rfl | with_reducible assumption | (symm;with_reducible assumption) | ((try dsimp only [bN,dD,aj])<;>first | with_reducible rfl | omega | (simp (disch:=first | omega | (simp only [aJ,aG,aB,aF]<;>omega)) only [bM,aJ,aG,aB,aF,bn,aY,bV,Int.ofNat_eq_natCast,Int.zero_add,Int.sub_zero]<;>first | done | omega | with_reducible assumption)) | rfl)
          (And.intro (fun h=>by cases h)
          (TL (fun i j=>aL (fun i j=>ak _ _)) (fun i i0 i1 j hj=>by (try dsimp only [bN,dD,aj] at i1);(try simp only [Int.ofNat_eq_natCast,aG,aB,aF,aJ,bM] at i1);(try simp (disch:=first | omega | (simp only [aJ,aG,aB,aF]<;>omega)) only [aY,bn,bV,Int.zero_add,Int.sub_zero] at i1);(obtain rfl:j=0:=(by omega))<;>(conv=>lhs;whnf)<;>(conv=>rhs;whnf)<;>(try dsimp only [bN,dD,aj])<;>(first | rfl | (simp (disch:=first | omega | (simp only [aJ,aG,aB,aF]<;>omega)) only [tL,gQ,fI,qU,jT,aY,BQ,pz,Int.zero_add,Int.sub_zero,beq_iff_eq,decide_eq_true_eq,Bool.and_eq_true]<;>first | rfl | (split<;>first | rfl | (simp (disch:=first | omega | (simp only [aJ,aG,aB,aF]<;>omega)) only [eD,eO]<;>rfl)) | (simp (disch:=omega) only [eD,eO]<;>rfl) | ((simp only [aG,aB,aF,Int.ofNat_eq_natCast])<;>(repeat' split)<;>first | rfl | (exfalso;omega) | (simp (disch:=omega) only [eD,eO]<;>rfl) | (congr 3;omega)))))))))
  · refine Tr.pre (cx:=⟨xq,⟨fun f=>pE [] f,fun k _ _ _=>tO [] k,fun t=>nC [] t⟩,0,fun r=>Ae [] r⟩) iB sQ 1 fun N hN=>?_
    generalize hp:std Tryz.prog=p
    generalize hv:aj=nv
    cbv
    subst hp
    subst hv
    refine ⟨rfl,?_⟩
    subst hN
    show Tr _ _ _ _
    refine Tr.block ?_
    refine Tr.bD (α:=Int × List (List Int)) (fun (v,aO) xA=>⟨xB 58 [(1,.dI 1 (xA.g 1) 0),(3,.vec 43 (xA.g 43) 1 0 (aj.len aO)),(8,.sl 1 (aj.len q2) false (fun ix jx=>(.v (.bool (aj.get false q2 ix))))),(9,.v (.int .i64 (aj.len q2))),(10,.v (.int .i64 v))] 0,xC 58 [(0,.arr (xA.g 0) 1 (aj.len (aj.get [] aO ((std Tryz.prog).sub (aj.len aO) 1))) (xA.t 0) (fun ix jx=>(.v (.int .i64 (aj.get 0 (aj.get [] aO ((std Tryz.prog).sub (aj.len aO) 1)) ix))))),(1,.box (xA.g 1) [.sl 1 (aj.len q) false (fun ix jx=>(.v (.int .i64 (aj.get 0 q ix)))),.sl 1 (aj.len q1) false (fun ix jx=>(.v (.int .i64 (aj.get 0 q1 ix)))),.sl 1 (aj.len q2) false (fun ix jx=>(.v (.bool (aj.get false q2 ix))))]),(43,.arr (xA.g 43) 1 (aj.len aO) (xA.t 43) (fun ix jx=>.cnd ((std Tryz.prog).eq ix ((std Tryz.prog).sub (aj.len aO) 1)) (.vec 0 (xA.g 0) 1 0 (aj.len (aj.get [] aO ((std Tryz.prog).sub (aj.len aO) 1)))) (.sl 1 (aj.len (aj.get [] aO ix)) false (fun kL xL=>(.v (.int .i64 (aj.get 0 (aj.get [] aO ix) kL)))))))] 0,xA.c⟩) (fun _ t=>Hid.ok t) ⟨ctr+14,xD [(0,ctr+4),(1,ctr+0),(43,ctr+3)],A8 [(0,false),(1,false),(43,false)]⟩ h ?_ ?_ (fun x xA f Uz h=>?_)
    · exact Hid.oI (by omega) (And.intro (by omega)
          (And.intro (by omega)
          (And.intro (by omega)
          trivial)))
    · refine iR.by [.thaw (.slot 3) 43 1,.empty 0 1] rfl ?_ ?_
      · exact trivial
      · exact kW.frame (show ctr+5 < ctr+14 by omega) rfl rfl (And.intro ⟨_,rfl,aZ.refl _⟩
            (And.intro ⟨_,rfl,aZ.refl _⟩
            (And.intro ⟨_,rfl,aZ.refl _⟩
            (And.intro ⟨_,rfl,aZ.refl _⟩
            (And.intro ⟨_,rfl,aZ.refl _⟩
            trivial))))) (And.intro ⟨_,rfl,dN.arr' rfl (fun i i0 i1 j hj=>by exfalso;revert i1;show i < (0:Int)→False;omega)⟩
            (And.intro ⟨_,rfl,dN.box (And.intro (aZ.refl _)
            (And.intro (aZ.refl _)
            (And.intro (aZ.refl _)
            trivial)))⟩
            (And.intro ⟨_,rfl,dN.arr' rfl (fun i i0 i1 j hj=>by exfalso;revert i1;show i < (0:Int)→False;omega)⟩
            trivial)))
    · obtain ⟨v,aO⟩:=x
      try dsimp only at h
      obtain ⟨pV,yQ,RP⟩:=xA
      have akU:0 < pV:=Uz.1
      have yx : ∀ k,yQ k < pV:=Uz.2
      refine Tr.chunk (cx:=⟨xq,⟨fun f=>pE [] f,fun k _ _ _=>tO [] k,fun t=>nC [42,53] t⟩,0,fun r=>Ae [(8,[.QE 43 0 (fun ix jx=>(.sl 1 (aj.len (aj.get [] aO ix)) false (fun kL xL=>(.v (.int .i64 (aj.get 0 (aj.get [] aO ix) kL))))))])] r⟩) iB sQ fun N hN=>?_
      generalize hp:std Tryz.prog=p
      generalize hv:aj=nv
      cbv
      subst hp
      subst hv
      refine ⟨fun h63=>?_,fun h63=>?_⟩
      · replace h:=vR h h63
        replace h:=dQ h;obtain ⟨h64,h⟩:=h
        try (have aoZ:=h64;simp only [Int.zero_add] at aoZ)
        refine ⟨h64,?_⟩
        refine ⟨fun Z7=>?_,fun Z7=>?_⟩
        · replace h:=vR h Z7
          replace h:=dQ h;obtain ⟨h66,h⟩:=h
          refine ⟨h66,?_⟩
          subst hN
          cases h
          show ∃ t',_∧iR _ _ _
          refine ⟨⟨pV+13,xD [(0,yQ 0),(1,yQ 1),(43,yQ 43)],A8 [(0,RP 0),(1,false),(43,RP 43)]⟩,Hid.oI (by omega) (And.intro (by have:=yx 0;omega)
              (And.intro (by have:=yx 1;omega)
              (And.intro (by have:=yx 43;omega)
              trivial))),?_⟩
          exact iR.of (kW.frame (by show (_:Nat) < _;(try dsimp only [bN,dD]);omega) rfl rfl (And.intro ⟨_,rfl,aZ.refl _⟩
              (And.intro ⟨_,rfl,(by first | exact aZ.refl _ | exact aZ.vec rfl (by first | with_reducible rfl | with_reducible assumption | (symm;with_reducible assumption) | ((try dsimp only [bN,dD,aj])<;>first | with_reducible rfl | omega | (simp (disch:=first | omega | (simp only [aJ,aG,aB,aF]<;>omega)) only [bM,aJ,aG,aB,aF,bn,aY,bV,Int.ofNat_eq_natCast,Int.zero_add,Int.sub_zero]<;>first | done | omega | with_reducible assumption)) | rfl))⟩
              (And.intro ⟨_,rfl,aZ.refl _⟩
              (And.intro ⟨_,rfl,aZ.refl _⟩
              (And.intro ⟨_,rfl,aZ.refl _⟩
              trivial))))) (And.intro ⟨_,rfl,dN.refl _⟩
              (And.intro ⟨_,rfl,dN.box (And.intro (aZ.refl _)
              (And.intro (aZ.refl _)
              (And.intro (aZ.refl _)
              trivial)))⟩
              (And.intro ⟨_,rfl,dN.refl _⟩
              trivial))))
        · replace h:=vS h Z7
          replace h:=dQ h;obtain ⟨h67,h⟩:=h
          replace h:=dQ h;obtain ⟨h68,h⟩:=h
          replace h:=dQ h;obtain ⟨h69,h⟩:=h
          replace h:=dQ h;obtain ⟨h70,h⟩:=h
          replace h:=dQ h;obtain ⟨XY,h⟩:=h
          refine ⟨(fun hg=>hg),(fun _=>rfl),(fun hg=>hg),h67,(fun hg=>hg),(fun hg=>hg),h68,(fun hg=>hg),(fun _=>rfl),(fun hg=>hg),(fun hg=>by dsimp only [bN,dD] at hg ⊢;simp_all),h69,(fun hg=>hg),(fun _=>rfl),(fun hg=>hg),(fun hg=>hg),h70,(fun hg=>hg),(fun hg=>hg),(fun _=>rfl),(fun hg=>hg),(fun hg=>hg),XY,(fun hg=>hg),(fun hg=>hg),(fun hg=>hg),(fun hg=>hg),(show F5 _ _ _=true by kernel_rfl),?_⟩
          refine ⟨fun h72=>?_,fun h72=>?_⟩
          · replace h:=vR h h72
            replace h:=dQ h;obtain ⟨h73,h⟩:=h
            refine ⟨(ahb (P:=Tryz.prog) (fun x j=>(.v (.int .i64 x))) 0 aO 0 (yQ 0) 1 _ ((ah aO)-1) (fun _ _=>ak _ _)),rfl,(by have:=yx 43;show (_:Nat) < _;(try dsimp only [bN,dD]);omega),h73,?_⟩
            replace h:=dQ h;obtain ⟨Zf,h⟩:=h
            refine ⟨Zf,?_⟩
            subst hN
            cases h
            show ∃ t',_∧iR _ _ _
            refine ⟨⟨pV+18,xD [(0,pV+8),(1,yQ 1),(43,pV+6)],A8 [(0,true),(1,false),(43,false)]⟩,Hid.oI (by omega) (And.intro (by omega)
                (And.intro (by have:=yx 1;omega)
                (And.intro (by omega)
                trivial))),?_⟩
            refine iR.by [.QF 43 41 0 (fun ix jx=>.cnd ((std Tryz.prog).eq ix ((std Tryz.prog).sub (aj.len (aj.app aO ([([v]:List Int)]:List (List Int)))) 1)) (.vec 0 (pV+8) 1 0 (aj.len (aj.get [] (aj.app aO ([([v]:List Int)]:List (List Int))) ((std Tryz.prog).sub (aj.len (aj.app aO ([([v]:List Int)]:List (List Int)))) 1)))) (.sl 1 (aj.len (aj.get [] (aj.app aO ([([v]:List Int)]:List (List Int))) ix)) false (fun kL xL=>(.v (.int .i64 (aj.get 0 (aj.get [] (aj.app aO ([([v]:List Int)]:List (List Int))) ix) kL))))))] rfl ?_ ?_
            · exact (And.intro (amA (E:=(fun x j=>(.v (.int .i64 x)))) (d:=0) (out':=(aO++([([v]:List Int)]:List (List Int)))) (by (try dsimp only [bN,dD,aj]);first | omega | (simp (disch:=first | omega | (simp only [aJ,aG,aB,aF]<;>omega)) only [bM,aJ,aG,aB,aF,bn,aY,bV,Int.ofNat_eq_natCast,Int.zero_add,Int.sub_zero]<;>omega)) (by (try dsimp only [bN,dD,aj]);first | omega | (simp (disch:=first | omega | (simp only [aJ,aG,aB,aF]<;>omega)) only [bM,aJ,aG,aB,aF,bn,aY,bV,Int.ofNat_eq_natCast,Int.zero_add,Int.sub_zero]<;>omega)) (by have e:=(show (au [] (aO++([([v]:List Int)]:List (List Int))) ((ah (aO++([([v]:List Int)]:List (List Int))))-1))=([v]:List Int) from (by simp (disch:=first | omega | (simp only [aJ,aG,aB,aF]<;>omega)) [qA,gQ,fI,eO,eD,aJ,aG,aB,aF]));(try dsimp only [bN,dD,aj]);first | (rw [e];first | rfl | (simp (disch:=first | omega | (simp only [aJ,aG,aB,aF]<;>omega)) only [bM,aJ,aG,aB,aF,bn,aY,bV,Int.ofNat_eq_natCast]<;>first | done | omega)) | omega) (fun _=>rfl) (fun _ _=>rfl) (fun _ _=>rfl) (fun i i0 i1=>UA (E:=(fun x j=>(.v (.int .i64 x)))) (d:=0) (out:=aO) (out':=(aO++([([v]:List Int)]:List (List Int)))) (i:=0+i) (i2:=i) (fun _ _=>ak _ _) (by (try dsimp only [bN,dD,aj] at i1);rw [fI i0,if_pos i1,Int.zero_add])) (fun _=>rfl))
                  trivial)
            · exact kW.frame (show pV+9 < pV+18 by omega) rfl rfl (And.intro ⟨_,rfl,aZ.refl _⟩
                  (And.intro ⟨_,rfl,aZ.vec rfl (by first | with_reducible rfl | with_reducible assumption | (symm;with_reducible assumption) | ((try dsimp only [bN,dD,aj])<;>first | with_reducible rfl | omega | (simp (disch:=first | omega | (simp only [aJ,aG,aB,aF]<;>omega)) only [bM,aJ,aG,aB,aF,bn,aY,bV,Int.ofNat_eq_natCast,Int.zero_add,Int.sub_zero]<;>first | done | omega | with_reducible assumption)) | rfl)⟩
                  (And.intro ⟨_,rfl,aZ.refl _⟩
                  (And.intro ⟨_,rfl,aZ.refl _⟩
                  (And.intro ⟨_,rfl,aZ.refl _⟩
                  trivial))))) (And.intro ⟨_,rfl,(by have e:=(show (au [] (aO++([([v]:List Int)]:List (List Int))) ((ah (aO++([([v]:List Int)]:List (List Int))))-1))=([v]:List Int) from (by simp (disch:=first | omega | (simp only [aJ,aG,aB,aF]<;>omega)) [qA,gQ,fI,eO,eD,aJ,aG,aB,aF]));exact dN.ML (by have e:=(show (au [] (aO++([([v]:List Int)]:List (List Int))) ((ah (aO++([([v]:List Int)]:List (List Int))))-1))=([v]:List Int) from (by simp (disch:=first | omega | (simp only [aJ,aG,aB,aF]<;>omega)) [qA,gQ,fI,eO,eD,aJ,aG,aB,aF]));(try dsimp only [bN,dD,aj]);first | (rw [e];first | rfl | (simp (disch:=first | omega | (simp only [aJ,aG,aB,aF]<;>omega)) only [bM,aJ,aG,aB,aF,bn,aY,bV,Int.ofNat_eq_natCast]<;>first | done | omega)) | omega) (fun i i0 i1 j hj=>by (have i2:i < 1:=i1);(obtain rfl:i=0:=(by omega));(obtain rfl:j=0:=(by omega));(show (D.v (.int .i64 v))=(.v (.int .i64 (au 0 (au [] (aO++([([v]:List Int)]:List (List Int))) ((ah (aO++([([v]:List Int)]:List (List Int))))-1)) 0))));(rw [e]);rfl))⟩
                  (And.intro ⟨_,rfl,dN.box (And.intro (aZ.refl _)
                  (And.intro (aZ.refl _)
                  (And.intro (aZ.refl _)
                  trivial)))⟩
                  (And.intro ⟨_,rfl,dN.ML (by first | with_reducible rfl | with_reducible assumption | (symm;with_reducible assumption) | ((try dsimp only [bN,dD,aj])<;>first | with_reducible rfl | omega | (simp (disch:=first | omega | (simp only [aJ,aG,aB,aF]<;>omega)) only [bM,aJ,aG,aB,aF,bn,aY,bV,Int.ofNat_eq_natCast,Int.zero_add,Int.sub_zero]<;>first | done | omega | with_reducible assumption)) | rfl) (fun i i0 i1 j hj=>rfl)⟩
                  trivial)))
          · replace h:=vS h h72
            replace h:=dQ h;obtain ⟨h75,h⟩:=h
            replace h:=dQ h;obtain ⟨h76,h⟩:=h
            replace h:=dQ h;obtain ⟨h77,h⟩:=h
            try (have ao0:=h77;simp only [Int.zero_add] at ao0)
            replace h:=dQ h;obtain ⟨h78,h⟩:=h
            replace h:=dQ h;obtain ⟨h79,h⟩:=h
            try (have ao1:=h79;simp only [Int.zero_add] at ao1)
            refine ⟨h75,h76,h77,rfl,(by first | assumption | (dsimp only [bN,dD];simp_all)),rfl,h78,h79,rfl,?_⟩
            replace h:=dQ h;obtain ⟨h80,h⟩:=h
            refine ⟨h80,?_⟩
            subst hN
            cases h
            show ∃ t',_∧iR _ _ _
            refine ⟨⟨pV+18,xD [(0,pV+8),(1,yQ 1),(43,yQ 43)],A8 [(0,false),(1,false),(43,RP 43)]⟩,Hid.oI (by omega) (And.intro (by omega)
                (And.intro (by have:=yx 1;omega)
                (And.intro (by have:=yx 43;omega)
                trivial))),?_⟩
            refine iR.by [.forget 0,.QF 43 54 0 (fun ix jx=>.cnd ((std Tryz.prog).eq ix ((std Tryz.prog).sub (aj.len (aj.set aO ((std Tryz.prog).sub (aj.len aO) 1) (aj.app (aj.get [] aO ((std Tryz.prog).sub (aj.len aO) 1)) ([v]:List Int)))) 1)) (.vec 0 (pV+8) 1 0 (aj.len (aj.get [] (aj.set aO ((std Tryz.prog).sub (aj.len aO) 1) (aj.app (aj.get [] aO ((std Tryz.prog).sub (aj.len aO) 1)) ([v]:List Int))) ((std Tryz.prog).sub (aj.len (aj.set aO ((std Tryz.prog).sub (aj.len aO) 1) (aj.app (aj.get [] aO ((std Tryz.prog).sub (aj.len aO) 1)) ([v]:List Int)))) 1)))) (.sl 1 (aj.len (aj.get [] (aj.set aO ((std Tryz.prog).sub (aj.len aO) 1) (aj.app (aj.get [] aO ((std Tryz.prog).sub (aj.len aO) 1)) ([v]:List Int))) ix)) false (fun kL xL=>(.v (.int .i64 (aj.get 0 (aj.get [] (aj.set aO ((std Tryz.prog).sub (aj.len aO) 1) (aj.app (aj.get [] aO ((std Tryz.prog).sub (aj.len aO) 1)) ([v]:List Int))) ix) kL))))))] rfl ?_ ?_
            · exact (And.intro (amB (E:=(fun x j=>(.v (.int .i64 x)))) (d:=0) (out:=aO) (out':=(eB aO ((ah aO)-1) ((au [] aO ((ah aO)-1))++([v]:List Int)))) (fun _ _=>ak _ _) (by (try dsimp only [bN,dD,aj]);first | omega | (simp (disch:=first | omega | (simp only [aJ,aG,aB,aF]<;>omega)) only [bM,aJ,aG,aB,aF,bn,aY,bV,Int.ofNat_eq_natCast,Int.zero_add,Int.sub_zero]<;>omega)) (by (try dsimp only [bN,dD,aj]);first | omega | (simp (disch:=first | omega | (simp only [aJ,aG,aB,aF]<;>omega)) only [bM,aJ,aG,aB,aF,bn,aY,bV,Int.ofNat_eq_natCast,Int.zero_add,Int.sub_zero]<;>omega)) (by have e:=(show (au [] (eB aO ((ah aO)-1) ((au [] aO ((ah aO)-1))++([v]:List Int))) ((ah (eB aO ((ah aO)-1) ((au [] aO ((ah aO)-1))++([v]:List Int))))-1))=((au [] aO ((ah aO)-1))++([v]:List Int)) from (by simp (disch:=first | omega | (simp only [aJ,aG,aB,aF]<;>omega)) [qA,gQ,fI,eO,eD,aJ,aG,aB,aF]));(try dsimp only [bN,dD,aj]);first | (rw [e];first | rfl | (simp (disch:=first | omega | (simp only [aJ,aG,aB,aF]<;>omega)) only [bM,aJ,aG,aB,aF,bn,aY,bV,Int.ofNat_eq_natCast]<;>first | done | omega)) | omega) (fun i i0 i1 i2=>by (try dsimp only [bN,dD,aj] at i1 i2);rw [gQ (by first | omega | (simp only [aJ]<;>omega)) i0 (by first | omega | (simp only [aJ] at *<;>omega)),if_neg (by omega)]))
                  trivial)
            · exact kW.frame (show pV+9 < pV+18 by omega) rfl rfl (And.intro ⟨_,rfl,aZ.refl _⟩
                  (And.intro ⟨_,rfl,(by first | exact aZ.refl _ | exact aZ.vec rfl (by first | with_reducible rfl | with_reducible assumption | (symm;with_reducible assumption) | ((try dsimp only [bN,dD,aj])<;>first | with_reducible rfl | omega | (simp (disch:=first | omega | (simp only [aJ,aG,aB,aF]<;>omega)) only [bM,aJ,aG,aB,aF,bn,aY,bV,Int.ofNat_eq_natCast,Int.zero_add,Int.sub_zero]<;>first | done | omega | with_reducible assumption)) | rfl))⟩
                  (And.intro ⟨_,rfl,aZ.refl _⟩
                  (And.intro ⟨_,rfl,aZ.refl _⟩
                  (And.intro ⟨_,rfl,aZ.refl _⟩
                  trivial))))) (And.intro ⟨_,rfl,(by have e:=(show (au [] (eB aO ((ah aO)-1) ((au [] aO ((ah aO)-1))++([v]:List Int))) ((ah (eB aO ((ah aO)-1) ((au [] aO ((ah aO)-1))++([v]:List Int))))-1))=((au [] aO ((ah aO)-1))++([v]:List Int)) from (by simp (disch:=first | omega | (simp only [aJ,aG,aB,aF]<;>omega)) [qA,gQ,fI,eO,eD,aJ,aG,aB,aF]));exact dN.ML (by have e:=(show (au [] (eB aO ((ah aO)-1) ((au [] aO ((ah aO)-1))++([v]:List Int))) ((ah (eB aO ((ah aO)-1) ((au [] aO ((ah aO)-1))++([v]:List Int))))-1))=((au [] aO ((ah aO)-1))++([v]:List Int)) from (by simp (disch:=first | omega | (simp only [aJ,aG,aB,aF]<;>omega)) [qA,gQ,fI,eO,eD,aJ,aG,aB,aF]));(try dsimp only [bN,dD,aj]);first | (rw [e];first | rfl | (simp (disch:=first | omega | (simp only [aJ,aG,aB,aF]<;>omega)) only [bM,aJ,aG,aB,aF,bn,aY,bV,Int.ofNat_eq_natCast]<;>first | done | omega)) | omega) (fun i i0 i1 j hj=>by (try dsimp only [bN,dD,aj] at i1);(try simp only [Int.ofNat_eq_natCast,aG,aB,aF,aJ,bM] at i1);(try simp (disch:=first | omega | (simp only [aJ,aG,aB,aF]<;>omega)) only [aY,bn,bV,Int.zero_add,Int.sub_zero] at i1);(obtain rfl:j=0:=(by omega))<;>(conv=>lhs;whnf)<;>(conv=>rhs;whnf)<;>(try dsimp only [bN,dD,aj])<;>((try rw [e]);(first | rfl | (simp (disch:=first | omega | (simp only [aJ,aG,aB,aF]<;>omega)) only [tL,gQ,fI,qU,jT,aY,BQ,pz,Int.zero_add,Int.sub_zero,beq_iff_eq,decide_eq_true_eq,Bool.and_eq_true]<;>first | rfl | (split<;>first | rfl | (simp (disch:=first | omega | (simp only [aJ,aG,aB,aF]<;>omega)) only [eD,eO]<;>rfl)) | (simp (disch:=omega) only [eD,eO]<;>rfl) | ((simp only [aG,aB,aF,Int.ofNat_eq_natCast])<;>(repeat' split)<;>first | rfl | (exfalso;omega) | (simp (disch:=omega) only [eD,eO]<;>rfl) | (congr 3;omega)))))))⟩
                  (And.intro ⟨_,rfl,dN.box (And.intro (aZ.refl _)
                  (And.intro (aZ.refl _)
                  (And.intro (aZ.refl _)
                  trivial)))⟩
                  (And.intro ⟨_,rfl,dN.ML (by first | with_reducible rfl | with_reducible assumption | (symm;with_reducible assumption) | ((try dsimp only [bN,dD,aj])<;>first | with_reducible rfl | omega | (simp (disch:=first | omega | (simp only [aJ,aG,aB,aF]<;>omega)) only [bM,aJ,aG,aB,aF,bn,aY,bV,Int.ofNat_eq_natCast,Int.zero_add,Int.sub_zero]<;>first | done | omega | with_reducible assumption)) | rfl) (fun i i0 i1 j hj=>rfl)⟩
                  trivial)))
      · replace h:=vS h h63
        subst hN
        cases h
        intro he;cases he
        show ∃ t',_∧iR _ _ _
        refine ⟨⟨pV+10,xD [(0,yQ 0),(43,yQ 43)],A8 [(0,RP 0),(43,RP 43)]⟩,Hid.oI (by omega) (And.intro (by have:=yx 0;omega)
            (And.intro (by have:=yx 43;omega)
            trivial)),?_⟩
        exact iR.of (kW.frame (by show (_:Nat) < _;(try dsimp only [bN,dD]);omega) rfl rfl (And.intro ⟨_,rfl,aZ.vec rfl (by first | with_reducible rfl | with_reducible assumption | (symm;with_reducible assumption) | ((try dsimp only [bN,dD,aj])<;>first | with_reducible rfl | omega | (simp (disch:=first | omega | (simp only [aJ,aG,aB,aF]<;>omega)) only [bM,aJ,aG,aB,aF,bn,aY,bV,Int.ofNat_eq_natCast,Int.zero_add,Int.sub_zero]<;>first | done | omega | with_reducible assumption)) | rfl)⟩
            trivial) (And.intro ⟨_,rfl,dN.refl _⟩
            (And.intro ⟨_,rfl,dN.refl _⟩
            trivial)))

theorem Pj l' seq r (h:IB l' seq=some r):Pf 354 [Li aj l',Li aj seq] (Ui aj r):=by
  unfold IB at h
  refine bC Tryz.func354 fun ctr hc=>?_
  revert h;refine bE 2 [] 0 [] (Wq ?_);intro h;intros
  refine bq h (ctr+2) [(6,2),(3,15)] [(10,1)] (fun out u=>⟨[],[(10,Ri aj (ctr+1) (aj.len seq) (u.t 10) out)],fun _=>ah out=(ah seq)⟩) (fun out uc ug ut ht hu hp h=>?_) (fun f h=>?_)
  · try dsimp only at hp h
    refine Wx [] 0 [] Wz
  · revert h;refine bE 1 [] 0 [] (Wq ?_);intro h;intros
    refine Tr.block ?_
    refine dO h (ctr+3) [(6,2),(5,13)] [(10,1)] (fun (v,aO) u1=>⟨[(13,vi v)],[(10,Ri aj (ctr+1) (aj.len seq) (u1.t 10) aO)],fun _=>ah aO=(ah seq)⟩) bW (fun x cu fJ fE f ht hu hp h=>?_)
    obtain ⟨_,_⟩:=x
    try dsimp only at hp h
    refine Wx [] 0 [] Wz

theorem YO x' r (h:bits_Len64 x'=some r):Pf 391 [(.v (.int .u64 x'))] (vi r):=by
  unfold bits_Len64 at h
  refine bC Tryz.func391 fun ctr hc=>?_
  refine Wx [] 0 [] Wz

theorem amr x' r (h:n0 x'=some r) (Hf:Int) (ac0:ah x'.fl=Hf) (l8:Bool):jc Tryz.prog 415 [.agg 7 (fun j=>match j with | 0=>.vec 0 0 1 0 Hf | 1=>Li aj x'.aco | 2=>vi x'.xE | 3=>vi x'.acp | 4=>vi x'.acr | 5=>vi x'.TH | 6=>tF aj x'.Ot | _=>.junk)] [Ri aj 0 Hf l8 x'.fl] [Ri aj 0 Hf l8 r] (.gX 0 (fun _=>.junk)):=by
  obtain rfl:aj.len x'.fl=Hf:=ac0
  obtain ⟨_,_,_,_,_,_,_⟩:=x'
  unfold n0 at h
  try dsimp only at h
  refine Il Tryz.func415 (mH Tryz.f415) fun ctr hc=>?_
  revert h;refine bE 2 [] 1 [] (Wq ?_);intro h;intros
  refine Tr.block ?_
  refine dO h (ctr+2) [(3,2),(1,2),(3,42)] [] (fun _ u=>Fa [(11,vi 0)] []) bW (fun x uc ug ut f ht hu hp h=>?_)
  refine Zk 2 [] 1 [] Wz

theorem I4 c' r (h:AO c'=some r):Pf 439 [vi c'] (vb r):=by
  unfold AO at h
  refine bC Tryz.func439 fun ctr hc=>?_
  revert h;refine bE 1 [] 0 [] (Wq ?_);intro h;intros
  refine bq h (ctr+1) [(2,11)] [] (fun _ u=>Fa [] []) (fun x uc ug ut ht hu hp h=>?_) (fun f h=>?_)
  · refine Wx [] 0 [] Wz
  · revert h;refine bE 1 [] 0 [] (Wq ?_);intro h;intros
    refine Tr.block ?_
    refine bq h (ctr+2) [(4,9)] [] (fun v u1=>Fa [(4,vb v)] []) (fun v cu fJ fE ht hu hp h=>?_) (fun f h=>?_)
    · refine Wx [] 0 [] Wz
    · refine Wx [] 0 [] Wz

theorem V3 c' r (h:Gx c'=some r):Pf 264 [vi c'] (vb r):=by
  unfold Gx at h
  refine bC Tryz.func264 fun ctr hc=>?_
  revert h;refine bE 1 [] 0 [] (Wq ?_);intro h;intros
  refine bq h (ctr+1) [(2,14)] [] (fun _ u=>Fa [] []) (fun x uc ug ut ht hu hp h=>?_) (fun f h=>?_)
  · refine Wx [] 0 [] Wz
  · revert h;refine bE 1 [] 0 [] (Wq ?_);intro h;intros
    refine Tr.block ?_
    refine bq h (ctr+2) [(4,12)] [] (fun v u1=>Fa [(4,vb v)] []) (fun v cu fJ fE ht hu hp h=>?_) (fun f h=>?_)
    · refine Wx [] 0 [] Wz
    · revert h;refine bE 1 [] 0 [] (Wq ?_);intro h;intros
      refine yP h rfl (fun _ h=>?_) (fun _ h=>?_)
      · refine Wx [] 0 [] Wz
      · revert h;refine bE 1 [] 0 [] (Wq ?_);intro h;intros
        refine yP h rfl (fun _ h=>?_) (fun _ h=>?_)
        · refine Wx [] 0 [] Wz
        · refine Wx [] 0 [] Wz

theorem YP l' at' r (h:L9 l' at'=some r):Pf 69 [Li aj l',vi at'] (vi r):=by
  unfold L9 at h
  refine bC Tryz.func69 fun ctr hc=>?_
  refine Wx [] 0 [] Wz

theorem sJ c' r (h:nH c'=some r):Pf 49 [kG aj c'] (zn aj r):=by
  unfold nH at h
  refine bC Tryz.func49 fun ctr hc=>?_
  refine Wx [] 0 [] Wz

theorem MN a b r (h:og a b=some r):Pf 46 [(.sl 1 (aj.len a) false (fun ix jx=>(.sl 1 (aj.len (aj.get [] a ix)) false (fun kL xL=>(vi (aj.get 0 (aj.get [] a ix) kL)))))),(.sl 1 (aj.len b) false (fun ix jx=>(.sl 1 (aj.len (aj.get [] b ix)) false (fun kL xL=>(vi (aj.get 0 (aj.get [] b ix) kL))))))] (vb r):=by
  unfold og at h
  refine bC Tryz.func46 fun ctr hc=>?_
  revert h;refine bE 2 [] 0 [] (Wq ?_);intro h;intros
  refine bq h (ctr+2) [(4,3),(5,41)] [] (fun _ u=>Fa [] []) (fun x uc ug ut ht hu hp h=>?_) (fun f h=>?_)
  · refine Wx [] 0 [] Wz
  · revert h;refine bE 1 [] 0 [] (Wq ?_);intro h;intros
    refine Tr.block ?_
    refine dO h (ctr+3) [(4,3),(5,41)] [] (fun i u1=>Fa [(5,vi i)] []) bW (fun i cu fJ fE f ht hu hp h=>?_)
    revert h;refine bE 1 [] 0 [] (Wq ?_);intro h;intros
    refine bq h (cu+1) [(4,1),(1,1),(11,35)] [] (fun _ u2=>Fa [] []) (fun x jB ny mF ht hu hp h=>?_) (fun f h=>?_)
    · refine Wx [] 0 [] Wz
    · refine Tr.block ?_
      revert h;refine bE 2 [] 0 [] (Wq ?_);intro h;intros
      refine Tr.block ?_
      refine dO h (cu+3) [(4,1),(1,1),(22,24)] [] (fun k' u3=>Fa [(6,vi k')] []) bW (fun k' nA vN vo f ht hu hp h=>?_)
      refine Wx [] 0 [] Wz

end Go.Vx
