/- What is the same as itself; tests for what is few. No conditions. -/
import Derived.Test.YtmpgicplgjmjkaaGreatDoorS25
import Derived.Test.YtmpgicplgjmjkaaGreatDoorTTwA
set_option linter.all false
section
namespace Go.Vx
set_option maxRecDepth 100000
set_option maxHeartbeats 4000000
theorem OJ(a:ByteArray):ng a a=true:=by simp[ng]
theorem alE(a:List bY)(h:ah a<=4096):sO a a=some true:=by
 refine Yields.eq ?_;unfold sO;have hn:=bW a;refine .ite (λk=>by simp at k) λ_=>.cut (λo=>o = .go ()) ?_ ?_
 . refine .loop (λv=>0<=v/\v<=ah a) (λv=>(ah a-v).toNat) ⟨ak,hn⟩ ?_;rintro v ⟨v0,v1⟩;refine .ite (λk=>?_) (λk=>.ret rfl);have k:v<ah a:=by simpa using k
   exact .chk ⟨v0,k⟩ (.chk ⟨v0,k⟩ (.ite (λk=>by simp at k) λ_=>.chk bS (.ret ⟨⟨ak,ak⟩,by show(_-_:Int).toNat<(_-_:Int).toNat;omega⟩)))
 rintro o rfl;exact .go (.ret rfl)
theorem ao2(a:aR)(h:ah a.aN<=4096):uL a a=some true:=by
 refine Yields.eq ?_;unfold uL;exact .call (alE _ h) (.ret bH)
theorem agb(a:List aR)(h:ah a<=4096)(hr : ∀ i,0<=i->i<ah a->ah (aB aH a i).aN<=4096):qK a a=some true:=by
 refine Yields.eq ?_;unfold qK;have hn:=bW a;refine .ite (λk=>by simp at k) λ_=>.cut (λo=>o = .go ()) ?_ ?_
 . refine .loop (λv=>0<=v/\v<=ah a) (λv=>(ah a-v).toNat) ⟨ak,hn⟩ ?_;rintro v ⟨v0,v1⟩;refine .ite (λk=>?_) (λk=>.ret rfl);have k:v<ah a:=by simpa using k
   exact .chk ⟨v0,k⟩ (.chk ⟨v0,k⟩ (.call (ao2 _ (hr v v0 k)) (.ite (λk=>by simp at k) λ_=>.chk bS (.ret ⟨⟨ak,ak⟩,by show(_-_:Int).toNat<(_-_:Int).toNat;omega⟩))))
 rintro o rfl;exact .go (.ret rfl)
theorem anv(a:iZ)(h:ah a.fL<=100000):uM a a=some true:=by
 refine Yields.eq ?_;unfold uM;have hn:=bW a.fL;refine .ite (λk=>by simp at k) λ_=>.cut (λo=>o = .go ()) ?_ ?_
 . refine .loop (λv=>0<=v/\v<=ah a.fL) (λv=>(ah a.fL-v).toNat) ⟨ak,hn⟩ ?_;rintro v ⟨v0,v1⟩;refine .ite (λk=>?_) (λk=>.ret rfl);have k:v<ah a.fL:=by simpa using k
   exact .chk ⟨v0,k⟩ (.chk ⟨v0,k⟩ (.ite (λk=>by simp at k) λ_=>.chk bS (.ret ⟨⟨ak,ak⟩,by show(_-_:Int).toNat<(_-_:Int).toNat;omega⟩)))
 rintro o rfl;exact .go (.ret rfl)
theorem anw(a:List (List Int))(h:ah a<=16)(hs : ∀ i,0<=i->i<ah a->ah (aB [] a i)<=6):uN a a=some true:=by
 refine Yields.eq ?_;unfold uN;have hn:=bW a;refine .ite (λk=>by simp at k) λ_=>.cut (λo=>o = .go ()) ?_ ?_
 . refine .loop (λv=>0<=v/\v<=ah a) (λv=>(ah a-v).toNat) ⟨ak,hn⟩ ?_;rintro v ⟨v0,v1⟩;refine .ite (λk=>?_) (λk=>.ret rfl);have k:v<ah a:=by simpa using k
   have hv:=hs v v0 k;have h0:=bW (aB [] a v);refine .cut (λo=>o = .go ()) (.chk ⟨v0,k⟩ (.chk ⟨v0,k⟩ (.ite (λk=>by simp at k) λ_=>?_))) ?_
   . refine .loop (λu=>0<=u/\u<=ah (aB [] a v)) (λu=>(ah (aB [] a v)-u).toNat) ⟨ak,h0⟩ ?_;rintro u ⟨u0,u1⟩;refine .chk ⟨v0,k⟩ (.ite (λc=>?_) (λc=>.ret rfl));have c:u<ah (aB [] a v):=by simpa using c
     exact .chk ⟨v0,k⟩ (.chk ⟨u0,c⟩ (.chk ⟨v0,k⟩ (.chk ⟨u0,c⟩ (.ite (λk=>by simp at k) λ_=>.chk bS (.ret ⟨⟨ak,ak⟩,by show(_-_:Int).toNat<(_-_:Int).toNat;omega⟩)))))
   rintro o rfl;exact .go (.chk bS (.ret ⟨⟨ak,ak⟩,by show(_-_:Int).toNat<(_-_:Int).toNat;omega⟩))
 rintro o rfl;exact .go (.ret rfl)
theorem aic(s:av)(q:jl s)(b:dZ)(hb:rA s=some b):qL b b=some true:=by
 cases hb;refine Yields.eq ?_;unfold qL;have g1:=q.grid.top;have g2 : ∀ i,0<=i->i<ah s.fG.aK->ah (aB aH s.fG.aK i).aN<=4096:=λi a b=>(q.grid.row i a b).top;have k1:=q.kept.cap;have k2 : ∀ i,0<=i->i<ah s.fK.aK->ah (aB aH s.fK.aK i).aN<=4096:=λi a b=>(q.kept.row i a b).top;refine .call (agb _ (by show ah s.fG.aK<=4096;omega) g2) (.call (b:=true) ?_ (.call (b:=true) ?_ (.ret ?_)))
 . simp only[Bool.and_self,beq_self_eq_true,if_true];exact anv _ q.tl
 . simp only[Bool.and_self,beq_self_eq_true,if_true];refine Yields.eq ?_;unfold yR;refine .call (b:=true) ?_ (.ret bH);simp only[beq_self_eq_true,if_true];exact agb _ (by show ah s.fK.aK<=4096;have:=q.kept.len;omega) k2
 simp
theorem MC(o:bF)(q:xG o)(t:fI)(ht:iK o=some t):lF t t=some true:=by
 cases ht;refine Yields.eq ?_;unfold lF;refine .call (b:=true) ?_ (.call (b:=true) ?_ (.ret (by simp[OJ])))
 . simp only[OJ,if_true];refine Yields.eq ?_;unfold yS;refine .call (b:=true) ?_ (.ret (by simp[OJ]));simp only[beq_self_eq_true,OJ,if_true];exact anw _ (by have:=q.p.par.1.1;rw[kM];omega) λi a b=>by have:=(q.p.par.1.2 _ (vF [] _ a b)).1;rw[kM];omega
 simp only[OJ,if_true];refine Yields.eq ?_;unfold yT;refine .call (aic _ q.s.main _ rfl) (.call (b:=true) ?_ (.ret (by simp[OJ])));simp only[if_true];exact aic _ q.s.other _ rfl
theorem ac7(t:fI) : ∃ o,qM t=some o/\iK o=some t/\o.fS.aI.fR.fH=t.fS.aI.fR.fH/\o.fS.aI.fR.fW=t.fS.aI.fR.fW:=⟨_,rfl,rfl,rfl,rfl⟩
theorem agc(l:List aR):Tot (pG l):=by
 unfold pG;have hn:=bW l;refine .ite (λ_=>.ret) λh=>?_;have hh:ah l<=20:=by simpa using h
 refine .cut (.of (Yields.loop (Q:=λ_=>True) (λv=>0<=v/\v<=ah l) (λv=>(ah l-v).toNat) ⟨ak,ak⟩ ?_)) λ_=>.ret;rintro v ⟨v0,v1⟩;refine .ite (λh=>?_) (λ_=>.ret trivial);have h:v<ah l:=by simpa using h
 exact .chk ⟨v0,h⟩ (.ite (λ_=>.ret trivial) λ_=>.chk bS (.ret ⟨⟨ak,ak⟩,cB⟩))
theorem aie(l:List aR):Tot (rD l):=by
 unfold rD;have hn:=bW l;refine .ite (λ_=>.ret) λh=>?_;have hh:ah l<=60:=by simpa using h
 refine .cut (.of (Yields.loop (Q:=λ_=>True) (λv=>0<=v/\v<=ah l) (λv=>(ah l-v).toNat) ⟨ak,ak⟩ ?_)) λ_=>.ret;rintro v ⟨v0,v1⟩;refine .ite (λh=>?_) (λ_=>.ret trivial);have h:v<ah l:=by simpa using h
 exact .chk ⟨v0,h⟩ (.ite (λ_=>.ret trivial) λ_=>.chk bS (.ret ⟨⟨ak,ak⟩,cB⟩))
theorem ao3(l:List (List Int)):Tot (vR l):=by
 unfold vR;have hn:=bW l;refine .ite (λ_=>.ret) λh=>?_;have hh:ah l<=30:=by simpa using h
 refine .cut (.of (Yields.loop (Q:=λ_=>True) (λv=>0<=v/\v<=ah l) (λv=>(ah l-v).toNat) ⟨ak,ak⟩ ?_)) λ_=>.ret;rintro v ⟨v0,v1⟩;refine .ite (λh=>?_) (λ_=>.ret trivial);have h:v<ah l:=by simpa using h
 exact .chk ⟨v0,h⟩ (.ite (λ_=>.ret trivial) λ_=>.chk bS (.ret ⟨⟨ak,ak⟩,cB⟩))
theorem aif{α:Type}{c:Bool}{x:Option α}{y:α}(h:Tot x):Tot (if c=true then x else some y):=by
 cases c with
 | true=>exact h
 | false=>exact⟨_,rfl⟩
theorem ac8(s:dZ):Tot (rE s):=by
 unfold rE;exact .bind (aie _) λ_=>.bind (aif (aie _)) λ_=>.ret
theorem anx(s:gV):Tot (vS s):=by
 unfold vS;exact .bind (agc _) λ_=>.bind (aif (agc _)) λ_=>.bind (aif (ac8 _)) λ_=>.bind (aif (ac8 _)) λ_=>.ret
end Go.Vx
end
section
namespace Go.Vx
set_option maxRecDepth 100000
set_option maxHeartbeats 4000000
theorem vT:M8 kP:=arA (by
  have:decide (ah kP.Eb.fL<=100000)=true:=by kernel_rfl
  exact of_decide_eq_true this) λi i0 i1=>by
 have h:kP.Eb.fL.all (λr=>decide (r.fV<=100000))=true:=by kernel_rfl
 exact of_decide_eq_true (aai.1 h _ (vF ny kP.Eb.fL i0 i1))
theorem agd(h w k:Int):Yields (xu h w k) (λx=>x.fK.aK=[]):=by
 unfold xu;refine .bind _ (OZ h w) λc hc=>.bind _ (af5 h w nu aae) λg hg=>.bind _ (ahO w) λt ht=>.bind (λe=>e.aK=[]) ?_ λe he=>.ret he
 unfold yw;exact .bind (λ_=>True) ⟨_,rfl,trivial⟩ λv _=>.ret rfl
theorem anz(h w k:Int):Yields (p9 h w k) (λt=>je t/\t.iL=[]/\t.jA=false/\t.aI.fK.aK=[]):=by
 obtain⟨t,e,h1,_,_,_,h5,h6⟩:=akD h w k;refine⟨t,e,h1,h5,h6,?_⟩;have:Yields (p9 h w k) (λt=>t.aI.fK.aK=[]):=by
  unfold p9;obtain⟨m,em,_⟩:=abQ;refine .bind _ (OZ h w) λc hc=>.bind _ (agd h w k) λx hx=>.bind _ (agd h w 0) λy hy=>.call em ?_;unfold kN;exact .bind _ (.bind _ (Vw _ _ _) λb _=>.ret hx) λt ht=>.ret ht
 obtain⟨t',e',h'⟩:=this;rw[e] at e';cases e';exact h'
theorem VK(t:bF) : ∃ w,iK t=some w:=⟨_,rfl⟩
theorem JG{α:Type}{b:Bool}{y z:α}(h:b=true):(if b=true then y else z)=y:=if_pos h
end Go.Vx
end
