/- Walks, by program (lift5.py): the code does what the lifted functions say. -/
import Derived.Test.YtmpgicplgjmjkaaGreatDoorTPi
import Derived.Test.YtmpgicplgjmjkaaGreatDoorTCh
set_option linter.all false
namespace Go.Vx
open Go.Proofs
set_option maxRecDepth 100000
set_option maxHeartbeats 8000000
set_option linter.unusedVariables false
set_option linter.unusedSimpArgs false
attribute [local irreducible] chk aA au aO oH

theorem aco s substr r (h:strings_Count s substr=some r):Pf 199 [vs s,vs substr] (vi r):=by
  unfold strings_Count at h;refine bf Tryz.func199 λctr hc=>?_;refine aZ ?_;refine Woe 19 0 (TU s (kY substr 0)) λv h2=>?_;refine Wkp 4 [] 0 [] Wz

theorem afF c' r (h:TY c'=some r):Pf 95 [vr c'] (vb r):=by
  unfold TY at h;refine bf Tryz.func95 λctr hc=>?_;refine Wx [] 0 [] Wz

theorem UU h' w r (h:LH h' w=some r):Pf 167 [vi h',vi w] (iD aj r):=by
  unfold LH at h;refine bf Tryz.func167 λctr hc=>?_;refine Wx [] 0 [] Wz

theorem ahd w r (h:Wj w=some r):Pf 270 [vi w] (vi r):=by
  unfold Wj at h;refine bf Tryz.func270 λctr hc=>?_;refine Wx [] 0 [] Wz

theorem MS n most r (h:Db n most=some r):Pf 271 [vi n,vi most] (vi r):=by
  unfold Db at h;refine bf Tryz.func271 λctr hc=>?_;refine Wx [] 0 [] Wz

theorem acC r' r (h:Bn r'=some r):Pf 179 [iD aj r'] (vb r):=by
  obtain⟨_,_,_,_⟩:=r';unfold Bn at h;try dsimp only at h
  refine bf Tryz.func179 λctr hc=>?_;refine Wx [] 0 [] Wz

theorem SL c' r (h:Dv c'=some r):Pf 275 [vi c'] (vb r):=by
  unfold Dv at h;refine bf Tryz.func275 λctr hc=>?_;refine Wx [] 0 [] Wz

theorem wD final r (h:qU final=some r):Pf 209 [vu final] (vb r):=by
  unfold qU at h;refine bf Tryz.func209 λctr hc=>?_;refine Wx [] 0 [] Wz

theorem ahe b r (h:Ac b=some r):Pf 50 [Lu aj b] (vr r):=by
  unfold Ac at h;refine bf Tryz.func50 λctr hc=>?_;revert h;refine bT 2 [] 0 [] (Wq ?_);intro h;intros;refine bR h (ctr+2) [(3,1),(6,14)] [] (λQ9 u=>Fa [(3,vr Q9)] []) (λQ9 uc ug ut ht hu hp h=>?_) (λf h=>?_)
  . refine bR h uc [(3,1),(1,1),(18,14)] [] (λr'2 u1=>Fa [(3,vr r'2)] []) (λr'2 dQ iN iG ht hu hp h=>?_) (λf h=>?_)
    . refine Wx [] 0 [] Wz
    revert h;refine bT 1 [] 0 [] (Wq ?_);intro h;intros;refine Tr.block ?_;refine gy h (uc+1) [(3,1),(1,1),(19,1),(1,11)] [] (λ(r'3,v) u2=>Fa [(3,vr r'3),(25,Lu aj (aj.sub b 1 (aj.len b))),(27,vi v)] []) dN (λx lD qW pU f ht hu hp h=>?_);obtain⟨_,_⟩:=x;try dsimp only at hp h
    refine Wx [] 0 [] Wz
  refine Wx [] 0 [] Wz

theorem Qc r' r (h:wW r'=some r):Pf 99 [vi r'] (Pn aj r):=by
  unfold wW at h;refine bf Tryz.func99 λctr hc=>?_;refine Wx [] 0 [] Wz

theorem Ny r' r (h:utf8_appendRuneNonASCII r'=some r):Pf 365 [.dX,vr r'] ((Lu aj r)):=by
  unfold utf8_appendRuneNonASCII at h;refine bf Tryz.func365 λctr hc=>?_;refine Wx [9,23,48,76] 0 [] Wz

theorem jc s x' r (h:iY s x'=some r):Pf 54 [aV aj s,aS aj x'] (aV aj r):=by
  obtain⟨⟨⟨_⟩,⟨_,_,_,_,⟨_,_,_⟩,⟨⟨_,_,_,_⟩,_,_,_⟩⟩,⟨_,_,_,_⟩,⟨_,_⟩,⟨_,_⟩,_,_⟩,⟨⟨_⟩,⟨_,_,_,_,⟨_,_,_⟩,⟨⟨_,_,_,_⟩,_,_,_⟩⟩,⟨_,_,_,_⟩,⟨_,_⟩,⟨_,_⟩,_,_⟩,_,⟨_⟩,⟨⟨_,_,_,_,⟨_,_,_⟩,⟨⟨_,_,_,_⟩,_,_,_⟩⟩,⟨_,_,_,_,⟨_,_,_⟩,⟨⟨_,_,_,_⟩,_,_,_⟩⟩⟩,_,_,_⟩:=s;unfold iY at h;try dsimp only at h
  refine bf Tryz.func54 λctr hc=>?_;refine Wx [] 0 [] Wz

theorem zJ r' r (h:sP r'=some r):Pf 310 [gH aj r'] (alP aj r):=by
  obtain⟨_,_,_,_⟩:=r';unfold sP at h;try dsimp only at h
  refine bf Tryz.func310 λctr hc=>?_;refine Wx [] 0 [] Wz

theorem Gm l' k' usual r (h:rP l' k' usual=some r):Pf 260 [(.sl 1 (aj.len l') false (λix jx=>(.sl 1 (aj.len (aj.get [] l' ix)) false (λlW zS=>(vi (aj.get 0 (aj.get [] l' ix) lW)))))),vi k',vi usual] (vi r):=by
  unfold rP at h;refine bf Tryz.func260 λctr hc=>?_;refine Wx [] 0 [] Wz

theorem afG from' cap0 r (h:FD from' cap0=some r):Pf 315 [vi from',.gX 2 1 (λ_ j=>(DF aj cap0 j)) 0 0] (vi r):=by
  obtain⟨_,_⟩:=cap0;unfold FD at h;try dsimp only at h
  refine bf Tryz.func315 λctr hc=>?_;revert h;refine bT 1 [] 0 [] (Wq ?_);intro h;intros;refine bR h (ctr+1) [(3,1),(1,13)] [] (λ_ u=>Fa [] []) (λx uc ug ut ht hu hp h=>?_) (λf h=>?_)
  . refine Wx [] 0 [] Wz
  revert h;refine bT 1 [] 0 [] (Wq ?_);intro h;intros;refine Tr.block ?_;refine gy h (ctr+2) [(3,1),(1,1),(3,9)] [] (λv u1=>Fa [(9,vi v)] []) dN (λv dQ iN iG f ht hu hp h=>?_);refine Wx [] 0 [] Wz

theorem ad9 x' cap0 r (h:PV x' cap0=some r):Pf 329 [vi x',.gX 1 1 (λ_ j=>(vi cap0)) 0 0] (vb r):=by
  unfold PV at h;refine bf Tryz.func329 λctr hc=>?_;refine Wx [] 0 [] Wz

theorem ahf x' cap0 r (h:Wu x' cap0=some r):Pf 320 [vi x',.gX 1 1 (λ_ j=>(vi cap0)) 0 0] (vb r):=by
  unfold Wu at h;refine bf Tryz.func320 λctr hc=>?_;refine Wx [] 0 [] Wz

theorem NU f' r (h:y9 f'=some r):Pf 229 [(.fn (.func (aj.fF f')) (aj.fK f') (aj.fC f'))] ((.fn (.func (aj.fF r)) (aj.fK r) (aj.fC r))):=by
  unfold y9 at h;refine bf Tryz.func229 λctr hc=>?_;refine Wx [] 0 [] Wz

theorem KN x' r (h:yj x'=some r):Pf 238 [aS aj x'] (aS aj r):=by
  obtain⟨⟨_⟩,⟨_,_,_,_,⟨_,_,_⟩,⟨⟨_,_,_,_⟩,_,_,_⟩⟩,⟨_,_,_,_⟩,⟨_,_⟩,⟨_,_⟩,_,_⟩:=x';unfold yj at h;try dsimp only at h
  refine bf Tryz.func238 λctr hc=>?_;refine Wx [] 0 [] Wz

theorem tK f' r (h:mW f'=some r):Pf 141 [(.fn (.func (aj.fF f')) (aj.fK f') (aj.fC f'))] ((.fn (.func (aj.fF r)) (aj.fK r) (aj.fC r))):=by
  unfold mW at h;refine bf Tryz.func141 λctr hc=>?_;refine Wx [] 0 [] Wz

theorem al9 p' q r (h:Um p' q=some r):Pf 330 [jN aj p',Li aj q] (jN aj r):=by
  obtain⟨_,_,_⟩:=p';unfold Um at h;try dsimp only at h
  refine bf Tryz.func330 λctr hc=>?_;revert h;refine bT 2 [] 0 [] (Wq ?_);intro h;intros;refine bR h (ctr+2) [(9,140)] [(2,1)] (λ(ab7,ab8,ab9) u=>Fa [] [(2,.box (ctr+0) [vi ab7,vi ab8,vi ab9])]) (λx uc ug ut ht hu hp h=>?_) (λf h=>?_)
  . obtain⟨_,_,_⟩:=x;try dsimp only at hp h
    refine Wx [] 0 [] Wz
  refine Tr.block ?_;revert h;refine bT 1 [] 0 [] (Wq ?_);intro h;intros;refine uY h rfl (λ_ h=>?_) (λ_ h=>?_)
  . refine Wx [] 0 [] Wz
  revert h;refine bT 1 [] 0 [] (Wq ?_);intro h;intros;refine uY h rfl (λ_ h=>?_) (λ_ h=>?_)
  . refine Wx [] 0 [] Wz
  revert h;refine bT 1 [] 0 [] (Wq ?_);intro h;intros;refine uY h rfl (λ_ h=>?_) (λ_ h=>?_)
  . refine Wx [] 0 [] Wz
  revert h;refine bT 1 [] 0 [] (Wq ?_);intro h;intros;refine uY h rfl (λ_ h=>?_) (λ_ h=>?_)
  . refine Wx [] 0 [] Wz
  refine Wx [] 0 [] Wz

theorem aiX l' r (h:L9 l'=some r):Pf 332 [Li aj l'] ((Li aj r)):=by
  unfold L9 at h;refine bf Tryz.func332 λctr hc=>?_;refine Wx [22] 0 [] Wz

theorem Gp n r (h:xB n=some r):Pf 368 [vi n] (vb r):=by
  unfold xB at h;refine bf Tryz.func368 λctr hc=>?_;refine Wx [] 0 [] Wz

theorem JU on r (h:vN on=some r):Pf 155 [vb on] ((.fn (.func (aj.fF r)) (aj.fK r) (aj.fC r))):=by
  unfold vN at h;refine bf Tryz.func155 λctr hc=>?_;refine Wx [] 0 [] Wz

theorem Qk s prefix' r (h:stringslite_HasPrefix s prefix'=some r):Pf 268 [vs s,vs prefix'] (vb r):=by
  unfold stringslite_HasPrefix at h;refine bf Tryz.func268 λctr hc=>?_;refine Wx [] 0 [] Wz

theorem SN base r (h:DT base=some r):Pf 413 [vi base] (vi r):=by
  unfold DT at h;refine bf Tryz.func413 λctr hc=>?_;refine Wx [] 0 [] Wz

theorem mI s r (h:kH s=some r):Pf 345 [Li aj s] (Ui aj r):=by
  unfold kH at h;refine bf Tryz.func345 λctr hc=>?_;revert h;refine bT 1 [] 0 [] (Wq ?_);intro h;intros;refine avZ 23 0 3 4 h (ctr+1) [(2,3)] [] (λ_ u=>Fa [] []) (λx uc ug ut ht hu hp h=>?_) (λ_ f h=>?_) (λf h=>?_)
  . refine Wx [5,7] 0 [] Wz
  . refine Wx [] 0 [] Wz
  refine Wx [] 0 [] Wz

theorem ahg(r':kV)(r:(List (List Int)))(h:WA r'=some r):d9 Tryz.prog 422 [(.agg 3 (λj=>(Lx aj r' j)))] (.own 1 (aj.len r) false (λix jx=>(.sl 1 (aj.len (aj.get [] r ix)) false (λlW zS=>(.v (.int .i64 (aj.get 0 (aj.get [] r ix) lW))))))):=by
  obtain⟨q,q1,q2⟩:=r';unfold WA at h;try dsimp only at h
  refine aqE uS Tryz.func422 (by kernel_rfl) (c:=tC Tryz.f422) (by kernel_rfl) ?_;intro ctr hc;refine Tr.pre (cx:=⟨tt0,⟨λf=>IK [] f,λk _ _ _=>ae9 [] k,λt=>Kz [] t⟩,0,λr=>ghL [] r⟩) uS XO 2 λN hN=>?_;generalize hp:std Tryz.prog=p;generalize hv:aj=nv;cbv;subst hp;subst hv;subst hN;show Tr _ _ _ _;refine Tr.auJ (α:=List (List Int)) h (λout t'=>⟨SQ 58 [(3,.vec 43 (t'.g 43) 1 0 (aj.len out))] 0,SS 58 [(0,.arr (t'.g 0) 1 (aj.len (aj.get [] out ((std Tryz.prog).sub (aj.len out) 1))) (t'.t 0) (λix jx=>(.v (.int .i64 (aj.get 0 (aj.get [] out ((std Tryz.prog).sub (aj.len out) 1)) ix))))),(43,.arr (t'.g 43) 1 (aj.len out) (t'.t 43) (λix jx=>.cnd ((std Tryz.prog).eq ix ((std Tryz.prog).sub (aj.len out) 1)) (.vec 0 (t'.g 0) 1 0 (aj.len (aj.get [] out ((std Tryz.prog).sub (aj.len out) 1)))) (.sl 1 (aj.len (aj.get [] out ix)) false (λlW zS=>(.v (.int .i64 (aj.get 0 (aj.get [] out ix) lW)))))))] 0,t'.c⟩) (λ_ t=>Hid.ok t) (λx t' ht' h=>?_) (λf h=>?_)
  . revert h;revert ht';revert x;intro out ht' h;obtain⟨auK,auL,aBs⟩:=t';have aA6:0<auK:=ht'.1;have aA7 : ∀ k,auL k<auK:=ht'.2;refine Tr.chunk (cx:=⟨tt0,⟨λf=>IK [] f,λk _ _ _=>ae9 [] k,λt=>Kz [] t⟩,0,λr=>ghL [(11,[.afH 43 0 (λix jx=>(.sl 1 (aj.len (aj.get [] out ix)) false (λlW zS=>(.v (.int .i64 (aj.get 0 (aj.get [] out ix) lW))))))])] r⟩) uS XO λN hN=>?_;generalize hp:std Tryz.prog=p;generalize hv:aj=nv;cbv;subst hp;subst hv;refine⟨(aq0 (P:=Tryz.prog) (λx j=>(.v (.int .i64 x))) 0 out 0 (auL 0) 1 _ ((ah out)-1) (λ_ _=>bI _ _)),?_⟩;subst hN;have hr:=Option.some.inj h;subst hr;try dsimp only[noGoto,Ky,Au]
    repeat (first|refine(if_pos rfl).mpr ?_|refine(if_neg (by decide)).mpr ?_)
    refine aiw rfl ?_ ?_
    . exact trivial
    exact(And.intro (rfl)
        (And.intro (by first|with_reducible rfl|with_reducible assumption|(symm;with_reducible assumption)|((try dsimp only[iH,kD,aj])<;>first|with_reducible rfl|omega|(simp(disch:=first|omega|(simp only[cu,bK,bE,bP]<;>omega)) only[iV,cu,bK,bE,bP,dK,dG,jB,Int.ofNat_eq_natCast,Int.zero_add,Int.sub_zero]<;>first|done|omega|with_reducible assumption))|rfl)
        (And.intro (λh=>by cases h)
        (aiv (λi j=>bJ (λi j=>bI _ _)) (λi i0 i1 j hj=>by(try dsimp only[iH,kD,aj] at i1);(try simp only[Int.ofNat_eq_natCast,bK,bE,bP,cu,iV] at i1);(try simp(disch:=first|omega|(simp only[cu,bK,bE,bP]<;>omega)) only[dG,dK,jB,Int.zero_add,Int.sub_zero] at i1);(obtain rfl:j=0:=(by omega))<;>(conv=>lhs;whnf)<;>(conv=>rhs;whnf)<;>(try dsimp only[iH,kD,aj])<;>(first|rfl|(simp(disch:=first|omega|(simp only[cu,bK,bE,bP]<;>omega)) only[VW,j5,lZ,Kw,Gx,dG,ae7,Gy,Int.zero_add,Int.sub_zero,beq_iff_eq,decide_eq_true_eq,Bool.and_eq_true]<;>first|rfl|(split<;>first|rfl|(simp(disch:=first|omega|(simp only[cu,bK,bE,bP]<;>omega)) only[j6,nD]<;>rfl))|(simp(disch:=omega) only[j6,nD]<;>rfl)|((simp only[bK,bE,bP,Int.ofNat_eq_natCast])<;>(repeat' split)<;>first|rfl|(exfalso;omega)|(simp(disch:=omega) only[j6,nD]<;>rfl)|(congr 3;omega)))))))))
  refine Tr.pre (cx:=⟨tt0,⟨λf=>IK [] f,λk _ _ _=>ae9 [] k,λt=>Kz [] t⟩,0,λr=>ghL [] r⟩) uS XO 1 λN hN=>?_;generalize hp:std Tryz.prog=p;generalize hv:aj=nv;cbv;subst hp;subst hv;refine⟨rfl,?_⟩;subst hN;show Tr _ _ _ _;refine Tr.block ?_;refine Tr.bZ (α:=Int×List (List Int)) (λ(v,aX) FT=>⟨SQ 58 [(1,.fq 1 (FT.g 1) 0),(3,.vec 43 (FT.g 43) 1 0 (aj.len aX)),(8,.sl 1 (aj.len q2) false (λix jx=>(.v (.bool (aj.get false q2 ix))))),(9,.v (.int .i64 (aj.len q2))),(10,.v (.int .i64 v))] 0,SS 58 [(0,.arr (FT.g 0) 1 (aj.len (aj.get [] aX ((std Tryz.prog).sub (aj.len aX) 1))) (FT.t 0) (λix jx=>(.v (.int .i64 (aj.get 0 (aj.get [] aX ((std Tryz.prog).sub (aj.len aX) 1)) ix))))),(1,.box (FT.g 1) [.sl 1 (aj.len q) false (λix jx=>(.v (.int .i64 (aj.get 0 q ix)))),.sl 1 (aj.len q1) false (λix jx=>(.v (.int .i64 (aj.get 0 q1 ix)))),.sl 1 (aj.len q2) false (λix jx=>(.v (.bool (aj.get false q2 ix))))]),(43,.arr (FT.g 43) 1 (aj.len aX) (FT.t 43) (λix jx=>.cnd ((std Tryz.prog).eq ix ((std Tryz.prog).sub (aj.len aX) 1)) (.vec 0 (FT.g 0) 1 0 (aj.len (aj.get [] aX ((std Tryz.prog).sub (aj.len aX) 1)))) (.sl 1 (aj.len (aj.get [] aX ix)) false (λlW zS=>(.v (.int .i64 (aj.get 0 (aj.get [] aX ix) lW)))))))] 0,FT.c⟩) (λ_ t=>Hid.ok t) ⟨ctr+14,gfn [(0,ctr+4),(1,ctr+0),(43,ctr+3)],tfn [(0,false),(1,false),(43,false)]⟩ h ?_ ?_ (λx FT f auM h=>?_)
  . exact Hid.aaH (by omega) (And.intro (by omega)
        (And.intro (by omega)
        (And.intro (by omega)
        trivial)))
  . refine AP.by [.thaw (.slot 3) 43 1,.empty 0 1] rfl ?_ ?_
    . exact trivial
    exact Ce.frame (show ctr+5<ctr+14 by omega) rfl rfl (And.intro ⟨_,rfl,dV.refl _⟩
        (And.intro ⟨_,rfl,dV.refl _⟩
        (And.intro ⟨_,rfl,dV.refl _⟩
        (And.intro ⟨_,rfl,dV.refl _⟩
        (And.intro ⟨_,rfl,dV.refl _⟩
        trivial))))) (And.intro ⟨_,rfl,jZ.arr' rfl (λi i0 i1 j hj=>by exfalso;revert i1;show i<(0:Int)->False;omega)⟩
        (And.intro ⟨_,rfl,jZ.box (And.intro (dV.refl _)
        (And.intro (dV.refl _)
        (And.intro (dV.refl _)
        trivial)))⟩
        (And.intro ⟨_,rfl,jZ.arr' rfl (λi i0 i1 j hj=>by exfalso;revert i1;show i<(0:Int)->False;omega)⟩
        trivial)))
  obtain⟨v,aX⟩:=x;try dsimp only at h
  obtain⟨AQ,LQ,aeb⟩:=FT;have aAG:0<AQ:=auM.1;have Jo : ∀ k,LQ k<AQ:=auM.2;refine Tr.chunk (cx:=⟨tt0,⟨λf=>IK [] f,λk _ _ _=>ae9 [] k,λt=>Kz [42,53] t⟩,0,λr=>ghL [(8,[.afH 43 0 (λix jx=>(.sl 1 (aj.len (aj.get [] aX ix)) false (λlW zS=>(.v (.int .i64 (aj.get 0 (aj.get [] aX ix) lW))))))])] r⟩) uS XO λN hN=>?_;generalize hp:std Tryz.prog=p;generalize hv:aj=nv;cbv;subst hp;subst hv;refine⟨λh63=>?_,λh63=>?_⟩
  . replace h:=YJ h h63;replace h:=jC h;obtain⟨h64,h⟩:=h;try (have azg:=h64;simp only[Int.zero_add] at azg)
    refine⟨h64,?_⟩;refine⟨λh65=>?_,λh65=>?_⟩
    . replace h:=YJ h h65;replace h:=jC h;obtain⟨h66,h⟩:=h;refine⟨h66,?_⟩;subst hN;cases h;show ∃ t',_/\AP _ _ _;refine⟨⟨AQ+13,gfn [(0,LQ 0),(1,LQ 1),(43,LQ 43)],tfn [(0,aeb 0),(1,false),(43,aeb 43)]⟩,Hid.aaH (by omega) (And.intro (by have:=Jo 0;omega)
          (And.intro (by have:=Jo 1;omega)
          (And.intro (by have:=Jo 43;omega)
          trivial))),?_⟩
      exact AP.of (Ce.frame (by show(_:Nat)<_;(try dsimp only[iH,kD]);omega) rfl rfl (And.intro ⟨_,rfl,dV.refl _⟩
          (And.intro ⟨_,rfl,(by first|exact dV.refl _|exact dV.vec rfl (by first|with_reducible rfl|with_reducible assumption|(symm;with_reducible assumption)|((try dsimp only[iH,kD,aj])<;>first|with_reducible rfl|omega|(simp(disch:=first|omega|(simp only[cu,bK,bE,bP]<;>omega)) only[iV,cu,bK,bE,bP,dK,dG,jB,Int.ofNat_eq_natCast,Int.zero_add,Int.sub_zero]<;>first|done|omega|with_reducible assumption))|rfl))⟩
          (And.intro ⟨_,rfl,dV.refl _⟩
          (And.intro ⟨_,rfl,dV.refl _⟩
          (And.intro ⟨_,rfl,dV.refl _⟩
          trivial))))) (And.intro ⟨_,rfl,jZ.refl _⟩
          (And.intro ⟨_,rfl,jZ.box (And.intro (dV.refl _)
          (And.intro (dV.refl _)
          (And.intro (dV.refl _)
          trivial)))⟩
          (And.intro ⟨_,rfl,jZ.refl _⟩
          trivial))))
    replace h:=YK h h65;replace h:=jC h;obtain⟨h67,h⟩:=h;replace h:=jC h;obtain⟨h68,h⟩:=h;replace h:=jC h;obtain⟨h69,h⟩:=h;replace h:=jC h;obtain⟨h70,h⟩:=h;replace h:=jC h;obtain⟨h71,h⟩:=h;refine⟨(λhg=>hg),(λ_=>rfl),(λhg=>hg),h67,(λhg=>hg),(λhg=>hg),h68,(λhg=>hg),(λ_=>rfl),(λhg=>hg),(λhg=>by dsimp only[iH,kD] at hg ⊢;simp_all),h69,(λhg=>hg),(λ_=>rfl),(λhg=>hg),(λhg=>hg),h70,(λhg=>hg),(λhg=>hg),(λ_=>rfl),(λhg=>hg),(λhg=>hg),h71,(λhg=>hg),(λhg=>hg),(λhg=>hg),(λhg=>hg),(show VX _ _ _=true by kernel_rfl),?_⟩;refine⟨λh72=>?_,λh72=>?_⟩
    . replace h:=YJ h h72;replace h:=jC h;obtain⟨h73,h⟩:=h;refine⟨(aq0 (P:=Tryz.prog) (λx j=>(.v (.int .i64 x))) 0 aX 0 (LQ 0) 1 _ ((ah aX)-1) (λ_ _=>bI _ _)),rfl,(by have:=Jo 43;show(_:Nat)<_;(try dsimp only[iH,kD]);omega),h73,?_⟩;replace h:=jC h;obtain⟨h74,h⟩:=h;refine⟨h74,?_⟩;subst hN;cases h;show ∃ t',_/\AP _ _ _;refine⟨⟨AQ+18,gfn [(0,AQ+8),(1,LQ 1),(43,AQ+6)],tfn [(0,true),(1,false),(43,false)]⟩,Hid.aaH (by omega) (And.intro (by omega)
          (And.intro (by have:=Jo 1;omega)
          (And.intro (by omega)
          trivial))),?_⟩
      refine AP.by [.afI 43 41 0 (λix jx=>.cnd ((std Tryz.prog).eq ix ((std Tryz.prog).sub (aj.len (aj.app aX ([([v]:List Int)]:List (List Int)))) 1)) (.vec 0 (AQ+8) 1 0 (aj.len (aj.get [] (aj.app aX ([([v]:List Int)]:List (List Int))) ((std Tryz.prog).sub (aj.len (aj.app aX ([([v]:List Int)]:List (List Int)))) 1)))) (.sl 1 (aj.len (aj.get [] (aj.app aX ([([v]:List Int)]:List (List Int))) ix)) false (λlW zS=>(.v (.int .i64 (aj.get 0 (aj.get [] (aj.app aX ([([v]:List Int)]:List (List Int))) ix) lW))))))] rfl ?_ ?_
      . exact(And.intro (awH (E:=(λx j=>(.v (.int .i64 x)))) (d:=0) (out':=(aX++([([v]:List Int)]:List (List Int)))) (by(try dsimp only[iH,kD,aj]);first|omega|(simp(disch:=first|omega|(simp only[cu,bK,bE,bP]<;>omega)) only[iV,cu,bK,bE,bP,dK,dG,jB,Int.ofNat_eq_natCast,Int.zero_add,Int.sub_zero]<;>omega)) (by(try dsimp only[iH,kD,aj]);first|omega|(simp(disch:=first|omega|(simp only[cu,bK,bE,bP]<;>omega)) only[iV,cu,bK,bE,bP,dK,dG,jB,Int.ofNat_eq_natCast,Int.zero_add,Int.sub_zero]<;>omega)) (by have e:=(show(aB [] (aX++([([v]:List Int)]:List (List Int))) ((ah (aX++([([v]:List Int)]:List (List Int))))-1))=([v]:List Int) from(by simp(disch:=first|omega|(simp only[cu,bK,bE,bP]<;>omega)) [HY,j5,lZ,nD,j6,cu,bK,bE,bP]));(try dsimp only[iH,kD,aj]);first|(rw[e];first|rfl|(simp(disch:=first|omega|(simp only[cu,bK,bE,bP]<;>omega)) only[iV,cu,bK,bE,bP,dK,dG,jB,Int.ofNat_eq_natCast]<;>first|done|omega))|omega) (λ_=>rfl) (λ_ _=>rfl) (λ_ _=>rfl) (λi i0 i1=>acD (E:=(λx j=>(.v (.int .i64 x)))) (d:=0) (out:=aX) (out':=(aX++([([v]:List Int)]:List (List Int)))) (i:=0+i) (i2:=i) (λ_ _=>bI _ _) (by(try dsimp only[iH,kD,aj] at i1);rw[lZ i0,if_pos i1,Int.zero_add])) (λ_=>rfl))
            trivial)
      exact Ce.frame (show AQ+9<AQ+18 by omega) rfl rfl (And.intro ⟨_,rfl,dV.refl _⟩
          (And.intro ⟨_,rfl,dV.vec rfl (by first|with_reducible rfl|with_reducible assumption|(symm;with_reducible assumption)|((try dsimp only[iH,kD,aj])<;>first|with_reducible rfl|omega|(simp(disch:=first|omega|(simp only[cu,bK,bE,bP]<;>omega)) only[iV,cu,bK,bE,bP,dK,dG,jB,Int.ofNat_eq_natCast,Int.zero_add,Int.sub_zero]<;>first|done|omega|with_reducible assumption))|rfl)⟩
          (And.intro ⟨_,rfl,dV.refl _⟩
          (And.intro ⟨_,rfl,dV.refl _⟩
          (And.intro ⟨_,rfl,dV.refl _⟩
          trivial))))) (And.intro ⟨_,rfl,(by have e:=(show(aB [] (aX++([([v]:List Int)]:List (List Int))) ((ah (aX++([([v]:List Int)]:List (List Int))))-1))=([v]:List Int) from(by simp(disch:=first|omega|(simp only[cu,bK,bE,bP]<;>omega)) [HY,j5,lZ,nD,j6,cu,bK,bE,bP]));exact jZ.ajd (by have e:=(show(aB [] (aX++([([v]:List Int)]:List (List Int))) ((ah (aX++([([v]:List Int)]:List (List Int))))-1))=([v]:List Int) from(by simp(disch:=first|omega|(simp only[cu,bK,bE,bP]<;>omega)) [HY,j5,lZ,nD,j6,cu,bK,bE,bP]));(try dsimp only[iH,kD,aj]);first|(rw[e];first|rfl|(simp(disch:=first|omega|(simp only[cu,bK,bE,bP]<;>omega)) only[iV,cu,bK,bE,bP,dK,dG,jB,Int.ofNat_eq_natCast]<;>first|done|omega))|omega) (λi i0 i1 j hj=>by(have i2:i<1:=i1);(obtain rfl:i=0:=(by omega));(obtain rfl:j=0:=(by omega));(show(D.v (.int .i64 v))=(.v (.int .i64 (aB 0 (aB [] (aX++([([v]:List Int)]:List (List Int))) ((ah (aX++([([v]:List Int)]:List (List Int))))-1)) 0))));(rw[e]);rfl))⟩
          (And.intro ⟨_,rfl,jZ.box (And.intro (dV.refl _)
          (And.intro (dV.refl _)
          (And.intro (dV.refl _)
          trivial)))⟩
          (And.intro ⟨_,rfl,jZ.ajd (by first|with_reducible rfl|with_reducible assumption|(symm;with_reducible assumption)|((try dsimp only[iH,kD,aj])<;>first|with_reducible rfl|omega|(simp(disch:=first|omega|(simp only[cu,bK,bE,bP]<;>omega)) only[iV,cu,bK,bE,bP,dK,dG,jB,Int.ofNat_eq_natCast,Int.zero_add,Int.sub_zero]<;>first|done|omega|with_reducible assumption))|rfl) (λi i0 i1 j hj=>rfl)⟩
          trivial)))
    replace h:=YK h h72;replace h:=jC h;obtain⟨h75,h⟩:=h;replace h:=jC h;obtain⟨h76,h⟩:=h;replace h:=jC h;obtain⟨h77,h⟩:=h;try (have azh:=h77;simp only[Int.zero_add] at azh)
    replace h:=jC h;obtain⟨h78,h⟩:=h;replace h:=jC h;obtain⟨h79,h⟩:=h;try (have azi:=h79;simp only[Int.zero_add] at azi)
    refine⟨h75,h76,h77,rfl,(by first|assumption|(dsimp only[iH,kD];simp_all)),rfl,h78,h79,rfl,?_⟩;replace h:=jC h;obtain⟨h80,h⟩:=h;refine⟨h80,?_⟩;subst hN;cases h;show ∃ t',_/\AP _ _ _;refine⟨⟨AQ+18,gfn [(0,AQ+8),(1,LQ 1),(43,LQ 43)],tfn [(0,false),(1,false),(43,aeb 43)]⟩,Hid.aaH (by omega) (And.intro (by omega)
        (And.intro (by have:=Jo 1;omega)
        (And.intro (by have:=Jo 43;omega)
        trivial))),?_⟩
    refine AP.by [.forget 0,.afI 43 54 0 (λix jx=>.cnd ((std Tryz.prog).eq ix ((std Tryz.prog).sub (aj.len (aj.set aX ((std Tryz.prog).sub (aj.len aX) 1) (aj.app (aj.get [] aX ((std Tryz.prog).sub (aj.len aX) 1)) ([v]:List Int)))) 1)) (.vec 0 (AQ+8) 1 0 (aj.len (aj.get [] (aj.set aX ((std Tryz.prog).sub (aj.len aX) 1) (aj.app (aj.get [] aX ((std Tryz.prog).sub (aj.len aX) 1)) ([v]:List Int))) ((std Tryz.prog).sub (aj.len (aj.set aX ((std Tryz.prog).sub (aj.len aX) 1) (aj.app (aj.get [] aX ((std Tryz.prog).sub (aj.len aX) 1)) ([v]:List Int)))) 1)))) (.sl 1 (aj.len (aj.get [] (aj.set aX ((std Tryz.prog).sub (aj.len aX) 1) (aj.app (aj.get [] aX ((std Tryz.prog).sub (aj.len aX) 1)) ([v]:List Int))) ix)) false (λlW zS=>(.v (.int .i64 (aj.get 0 (aj.get [] (aj.set aX ((std Tryz.prog).sub (aj.len aX) 1) (aj.app (aj.get [] aX ((std Tryz.prog).sub (aj.len aX) 1)) ([v]:List Int))) ix) lW))))))] rfl ?_ ?_
    . exact(And.intro (awI (E:=(λx j=>(.v (.int .i64 x)))) (d:=0) (out:=aX) (out':=(iM aX ((ah aX)-1) ((aB [] aX ((ah aX)-1))++([v]:List Int)))) (λ_ _=>bI _ _) (by(try dsimp only[iH,kD,aj]);first|omega|(simp(disch:=first|omega|(simp only[cu,bK,bE,bP]<;>omega)) only[iV,cu,bK,bE,bP,dK,dG,jB,Int.ofNat_eq_natCast,Int.zero_add,Int.sub_zero]<;>omega)) (by(try dsimp only[iH,kD,aj]);first|omega|(simp(disch:=first|omega|(simp only[cu,bK,bE,bP]<;>omega)) only[iV,cu,bK,bE,bP,dK,dG,jB,Int.ofNat_eq_natCast,Int.zero_add,Int.sub_zero]<;>omega)) (by have e:=(show(aB [] (iM aX ((ah aX)-1) ((aB [] aX ((ah aX)-1))++([v]:List Int))) ((ah (iM aX ((ah aX)-1) ((aB [] aX ((ah aX)-1))++([v]:List Int))))-1))=((aB [] aX ((ah aX)-1))++([v]:List Int)) from(by simp(disch:=first|omega|(simp only[cu,bK,bE,bP]<;>omega)) [HY,j5,lZ,nD,j6,cu,bK,bE,bP]));(try dsimp only[iH,kD,aj]);first|(rw[e];first|rfl|(simp(disch:=first|omega|(simp only[cu,bK,bE,bP]<;>omega)) only[iV,cu,bK,bE,bP,dK,dG,jB,Int.ofNat_eq_natCast]<;>first|done|omega))|omega) (λi i0 i1 i2=>by(try dsimp only[iH,kD,aj] at i1 i2);rw[j5 (by first|omega|(simp only[cu]<;>omega)) i0 (by first|omega|(simp only[cu] at *<;>omega)),if_neg (by omega)]))
          trivial)
    exact Ce.frame (show AQ+9<AQ+18 by omega) rfl rfl (And.intro ⟨_,rfl,dV.refl _⟩
        (And.intro ⟨_,rfl,(by first|exact dV.refl _|exact dV.vec rfl (by first|with_reducible rfl|with_reducible assumption|(symm;with_reducible assumption)|((try dsimp only[iH,kD,aj])<;>first|with_reducible rfl|omega|(simp(disch:=first|omega|(simp only[cu,bK,bE,bP]<;>omega)) only[iV,cu,bK,bE,bP,dK,dG,jB,Int.ofNat_eq_natCast,Int.zero_add,Int.sub_zero]<;>first|done|omega|with_reducible assumption))|rfl))⟩
        (And.intro ⟨_,rfl,dV.refl _⟩
        (And.intro ⟨_,rfl,dV.refl _⟩
        (And.intro ⟨_,rfl,dV.refl _⟩
        trivial))))) (And.intro ⟨_,rfl,(by have e:=(show(aB [] (iM aX ((ah aX)-1) ((aB [] aX ((ah aX)-1))++([v]:List Int))) ((ah (iM aX ((ah aX)-1) ((aB [] aX ((ah aX)-1))++([v]:List Int))))-1))=((aB [] aX ((ah aX)-1))++([v]:List Int)) from(by simp(disch:=first|omega|(simp only[cu,bK,bE,bP]<;>omega)) [HY,j5,lZ,nD,j6,cu,bK,bE,bP]));exact jZ.ajd (by have e:=(show(aB [] (iM aX ((ah aX)-1) ((aB [] aX ((ah aX)-1))++([v]:List Int))) ((ah (iM aX ((ah aX)-1) ((aB [] aX ((ah aX)-1))++([v]:List Int))))-1))=((aB [] aX ((ah aX)-1))++([v]:List Int)) from(by simp(disch:=first|omega|(simp only[cu,bK,bE,bP]<;>omega)) [HY,j5,lZ,nD,j6,cu,bK,bE,bP]));(try dsimp only[iH,kD,aj]);first|(rw[e];first|rfl|(simp(disch:=first|omega|(simp only[cu,bK,bE,bP]<;>omega)) only[iV,cu,bK,bE,bP,dK,dG,jB,Int.ofNat_eq_natCast]<;>first|done|omega))|omega) (λi i0 i1 j hj=>by(try dsimp only[iH,kD,aj] at i1);(try simp only[Int.ofNat_eq_natCast,bK,bE,bP,cu,iV] at i1);(try simp(disch:=first|omega|(simp only[cu,bK,bE,bP]<;>omega)) only[dG,dK,jB,Int.zero_add,Int.sub_zero] at i1);(obtain rfl:j=0:=(by omega))<;>(conv=>lhs;whnf)<;>(conv=>rhs;whnf)<;>(try dsimp only[iH,kD,aj])<;>((try rw[e]);(first|rfl|(simp(disch:=first|omega|(simp only[cu,bK,bE,bP]<;>omega)) only[VW,j5,lZ,Kw,Gx,dG,ae7,Gy,Int.zero_add,Int.sub_zero,beq_iff_eq,decide_eq_true_eq,Bool.and_eq_true]<;>first|rfl|(split<;>first|rfl|(simp(disch:=first|omega|(simp only[cu,bK,bE,bP]<;>omega)) only[j6,nD]<;>rfl))|(simp(disch:=omega) only[j6,nD]<;>rfl)|((simp only[bK,bE,bP,Int.ofNat_eq_natCast])<;>(repeat' split)<;>first|rfl|(exfalso;omega)|(simp(disch:=omega) only[j6,nD]<;>rfl)|(congr 3;omega)))))))⟩
        (And.intro ⟨_,rfl,jZ.box (And.intro (dV.refl _)
        (And.intro (dV.refl _)
        (And.intro (dV.refl _)
        trivial)))⟩
        (And.intro ⟨_,rfl,jZ.ajd (by first|with_reducible rfl|with_reducible assumption|(symm;with_reducible assumption)|((try dsimp only[iH,kD,aj])<;>first|with_reducible rfl|omega|(simp(disch:=first|omega|(simp only[cu,bK,bE,bP]<;>omega)) only[iV,cu,bK,bE,bP,dK,dG,jB,Int.ofNat_eq_natCast,Int.zero_add,Int.sub_zero]<;>first|done|omega|with_reducible assumption))|rfl) (λi i0 i1 j hj=>rfl)⟩
        trivial)))
  replace h:=YK h h63;subst hN;cases h;intro he;cases he;show ∃ t',_/\AP _ _ _;refine⟨⟨AQ+10,gfn [(0,LQ 0),(43,LQ 43)],tfn [(0,aeb 0),(43,aeb 43)]⟩,Hid.aaH (by omega) (And.intro (by have:=Jo 0;omega)
      (And.intro (by have:=Jo 43;omega)
      trivial)),?_⟩
  exact AP.of (Ce.frame (by show(_:Nat)<_;(try dsimp only[iH,kD]);omega) rfl rfl (And.intro ⟨_,rfl,dV.vec rfl (by first|with_reducible rfl|with_reducible assumption|(symm;with_reducible assumption)|((try dsimp only[iH,kD,aj])<;>first|with_reducible rfl|omega|(simp(disch:=first|omega|(simp only[cu,bK,bE,bP]<;>omega)) only[iV,cu,bK,bE,bP,dK,dG,jB,Int.ofNat_eq_natCast,Int.zero_add,Int.sub_zero]<;>first|done|omega|with_reducible assumption))|rfl)⟩
      trivial) (And.intro ⟨_,rfl,jZ.refl _⟩
      (And.intro ⟨_,rfl,jZ.refl _⟩
      trivial)))

theorem awJ t' r (h:w2 t'=some r) (lN:Int) (EG:ah t'.fl=lN) (pV:Bool):lK Tryz.prog 429 [.agg 2 (λj=>match j with|0=>.vec 0 0 1 0 lN|1=>vi t'.EY|_=>.junk)] [Ri aj 0 lN pV t'.fl] [Ri aj 0 lN pV r] (.jO 0 (λ_=>.junk)):=by
  obtain rfl:aj.len t'.fl=lN:=EG;obtain⟨_,_⟩:=t';unfold w2 at h;try dsimp only at h
  refine QX Tryz.func429 (tC Tryz.f429) λctr hc=>?_;revert h;refine bT 3 [] 1 [] (Wq ?_);intro h;intros;refine Tr.block ?_;refine gy h (ctr+3) [(2,3),(5,20)] [] (λ(Rl,v) u=>Fa [(2,vi Rl),(10,vi v)] []) dN (λx uc ug ut f ht hu hp h=>?_);obtain⟨_,_⟩:=x;try dsimp only at hp h
  revert h;refine bT 2 [] 1 [] (Wq ?_);intro h;intros;refine bR h (uc+1) [(2,3),(7,17)] [] (λlast2 u1=>Fa [(2,vi last2)] []) (λlast2 dQ iN iG ht hu hp h=>?_) (λf h=>?_)
  . refine Wx [] 1 [] Wz
  refine Tr.block ?_;revert h;refine bT 2 [] 1 [] (Wq ?_);intro h;intros;refine Tr.block ?_;refine bR h (uc+3) [(16,4)] [] (λv1 u2=>Fa [(16,vb v1)] []) (λv1 lD qW pU ht hu hp h=>?_) (λf h=>?_)
  . refine Wx [] 1 [] Wz
  refine Wx [] 1 [] Wz

theorem awK t' r (h:w3 t'=some r) (lN:Int) (EG:ah t'.fl=lN) (pV:Bool):lK Tryz.prog 430 [.agg 2 (λj=>match j with|0=>.vec 0 0 1 0 lN|1=>vi t'.EY|_=>.junk)] [Ri aj 0 lN pV t'.fl] [Ri aj 0 lN pV r] (.jO 0 (λ_=>.junk)):=by
  obtain rfl:aj.len t'.fl=lN:=EG;obtain⟨_,_⟩:=t';unfold w3 at h;try dsimp only at h
  refine QX Tryz.func430 (tC Tryz.f430) λctr hc=>?_;revert h;refine bT 2 [] 1 [] (Wq ?_);intro h;intros;refine Tr.block ?_;refine gy h (ctr+2) [(2,2),(3,12)] [] (λv u=>Fa [(7,vi v)] []) dN (λv uc ug ut f ht hu hp h=>?_);refine Wx [] 1 [] Wz

theorem Ql t' i r (h:Gl t' i=some r):Pf 449 [aj9 aj t',vi i] (vi r):=by
  obtain⟨_,_⟩:=t';unfold Gl at h;try dsimp only at h
  refine bf Tryz.func449 λctr hc=>?_;refine Wx [] 0 [] Wz

theorem awL t' r (h:w5 t'=some r) (lN:Int) (EG:ah t'.fl=lN) (pV:Bool):lK Tryz.prog 432 [.agg 2 (λj=>match j with|0=>.vec 0 0 1 0 lN|1=>vi t'.EY|_=>.junk)] [Ri aj 0 lN pV t'.fl] [Ri aj 0 lN pV r] (.jO 0 (λ_=>.junk)):=by
  obtain rfl:aj.len t'.fl=lN:=EG;obtain⟨_,_⟩:=t';unfold w5 at h;try dsimp only at h
  refine QX Tryz.func432 (tC Tryz.f432) λctr hc=>?_;revert h;refine bT 2 [] 1 [] (Wq ?_);intro h;intros;refine Tr.block ?_;refine gy h (ctr+2) [(2,45)] [] (λi u=>Fa [(2,vi i)] []) dN (λi uc ug ut f ht hu hp h=>?_);revert h;refine bT 1 [] 1 [] (Wq ?_);intro h;intros;refine Tr.block ?_;refine Wxp 2 [] 1 [] Wz

theorem awM t' r (h:w6 t'=some r) (lN:Int) (EG:ah t'.fl=lN) (pV:Bool):lK Tryz.prog 433 [.agg 2 (λj=>match j with|0=>.vec 0 0 1 0 lN|1=>vi t'.EY|_=>.junk)] [Ri aj 0 lN pV t'.fl] [Ri aj 0 lN pV r] (.jO 0 (λ_=>.junk)):=by
  obtain rfl:aj.len t'.fl=lN:=EG;obtain⟨_,_⟩:=t';unfold w6 at h;try dsimp only at h
  refine QX Tryz.func433 (tC Tryz.f433) λctr hc=>?_;revert h;refine bT 2 [] 1 [] (Wq ?_);intro h;intros;refine Tr.block ?_;refine gy h (ctr+2) [(2,2),(3,15)] [] (λv u=>Fa [(7,vi v)] []) dN (λv uc ug ut f ht hu hp h=>?_);refine Wx [] 1 [] Wz

theorem awF x' r (h:n0 x'=some r) (Qm:Int) (amf:ah x'.fl=Qm) (pV:Bool):lK Tryz.prog 426 [.agg 7 (λj=>match j with|0=>.vec 0 0 1 0 Qm|1=>Li aj x'.alK|2=>vi x'.EY|3=>vi x'.alL|4=>vi x'.alM|5=>vi x'.ab0|6=>Am aj x'.YE|_=>.junk)] [Ri aj 0 Qm pV x'.fl] [Ri aj 0 Qm pV r] (.jO 0 (λ_=>.junk)):=by
  obtain rfl:aj.len x'.fl=Qm:=amf;obtain⟨_,_,_,_,_,_,_⟩:=x';unfold n0 at h;try dsimp only at h
  refine QX Tryz.func426 (tC Tryz.f426) λctr hc=>?_;revert h;refine bT 2 [] 1 [] (Wq ?_);intro h;intros;refine Tr.block ?_;refine gy h (ctr+2) [(3,2),(1,2),(3,42)] [] (λ_ u=>Fa [(11,vi 0)] []) dN (λx uc ug ut f ht hu hp h=>?_);refine Wxp 2 [] 1 [] Wz

theorem ai0 d' r' which r (h:Y7 d' r' which=some r):Pf 352 [dF aj d',vi r',vi which] (vi r):=by
  obtain⟨⟨_⟩,⟨_⟩,⟨_⟩,_,_,_⟩:=d';unfold Y7 at h;try dsimp only at h
  refine bf Tryz.func352 λctr hc=>?_;revert h;refine bT 2 [] 0 [] (Wq ?_);intro h;intros;refine bR h (ctr+2) [(6,1),(1,1),(7,37)] [] (λ_ u=>Fa [] []) (λx uc ug ut ht hu hp h=>?_) (λf h=>?_)
  . refine Wx [] 0 [] Wz
  revert h;refine bT 1 [] 0 [] (Wq ?_);intro h;intros;refine Tr.block ?_;refine gy h (ctr+3) [(6,1),(1,1),(10,34)] [(8,1)] (λv u1=>Fa [(19,vi v)] []) dN (λv dQ iN iG f ht hu hp h=>?_);refine Wx [] 0 [] Wz

theorem ad1 d' r' level boxes r (h:PY d' r' level boxes=some r):Pf 353 [dF aj d',vi r',vi level,vb boxes] (vi r):=by
  unfold PY at h;refine bf Tryz.func353 λctr hc=>?_;refine Wx [] 0 [] Wz

theorem aec levels r (h:P6 levels=some r):Pf 380 [Li aj levels] (Ui aj r):=by
  unfold P6 at h;refine bf Tryz.func380 λctr hc=>?_;revert h;refine bT 4 [] 0 [] (Wq ?_);intro h;intros;refine bR h (ctr+4) [(5,4),(9,28)] [(14,1),(2,1)] (λ(most,l',out) u=>⟨[(5,vi most),(6,vi 128)],[(14,Ri aj (ctr+1) (aj.len levels) (u.t 14) l'),(17,Ri aj (ctr+2) (aj.len levels) (u.t 17) out)],λ_=>ah l'=(ah levels)/\ah out=(ah levels)⟩) (λx uc ug ut ht hu hp h=>?_) (λf h=>?_)
  . obtain⟨most,_,_⟩:=x;try dsimp only at hp h
    refine bR h uc [(9,3),(34,32)] [] (λ_ u1=>Fa [] []) (λx dQ iN iG ht hu hp h=>?_) (λf h=>?_)
    . refine Wx [] 0 [] Wz
    revert h;refine bT 1 [] 0 [] (Wq ?_);intro h;intros;refine Tr.block ?_;refine gy h (uc+1) [(9,3),(35,31)] [] (λ_ u2=>Fa [(9,vi most)] []) dN (λx lD qW pU f ht hu hp h=>?_);refine Wxp 1 [] 0 [] Wz
  revert h;refine bT 1 [] 0 [] (Wq ?_);intro h;intros;refine Tr.block ?_;refine gy h (ctr+5) [(5,4),(11,26)] [(14,1),(2,1)] (λ(ahw,v,iE,aX) u3=>⟨[(5,vi ahw),(6,vi 128),(20,vi v)],[(14,Ri aj (ctr+1) (aj.len levels) (u3.t 14) iE),(17,Ri aj (ctr+2) (aj.len levels) (u3.t 17) aX)],λ_=>ah iE=(ah levels)/\ah aX=(ah levels)⟩) dN (λx oV BD zT f ht hu hp h=>?_);obtain⟨_,_,_,_⟩:=x;try dsimp only at hp h
  refine Wx [] 0 [] Wz

theorem Vf a b r (h:sO a b=some r):Pf 335 [Ao aj a,Ao aj b] (vb r):=by
  unfold sO at h;refine bf Tryz.func335 λctr hc=>?_;revert h;refine bT 2 [] 0 [] (Wq ?_);intro h;intros;refine bR h (ctr+2) [(4,2),(5,15)] [] (λ_ u=>Fa [] []) (λx uc ug ut ht hu hp h=>?_) (λf h=>?_)
  . refine Wx [] 0 [] Wz
  revert h;refine bT 1 [] 0 [] (Wq ?_);intro h;intros;refine Tr.block ?_;refine gy h (ctr+3) [(4,2),(5,15)] [] (λi u1=>Fa [(5,vi i)] []) dN (λi dQ iN iG f ht hu hp h=>?_);refine Wx [] 0 [] Wz

theorem Ci c' r (h:wB c'=some r):Pf 78 [Hg aj c'] (gu aj r):=by
  unfold wB at h;refine bf Tryz.func78 λctr hc=>?_;refine Wx [] 0 [] Wz

end Go.Vx
