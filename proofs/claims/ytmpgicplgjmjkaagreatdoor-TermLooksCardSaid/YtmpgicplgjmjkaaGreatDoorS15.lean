/- Stops that are set, and let go. No conditions. -/
import Derived.Test.YtmpgicplgjmjkaaGreatDoorS7
set_option linter.all false
section
namespace Go.Vx
set_option maxRecDepth 100000
theorem vE{l:List Int}{k:Nat}(h:k<l.length):aB 0 l (k:Int)=l[k]:=by
 simp[aB,h]
theorem akz{l:List Int} : (∀ i,0<=i->i+1<ah l->aB 0 l i<aB 0 l (i+1))↔l.Pairwise (· < ·):=by
 constructor
 . intro h;rw[List.pairwise_iff_getElem];intro i j hi hj hij;have key : ∀ d:Nat,(hd:i+d+1<l.length)->l[i]<l[i+d+1]:=by
    intro d
    induction d with
    | zero=>
     intro hd;have:=h (i:Int) ak (by simp[ah];omega);rw[show((i:Int)+1)=((i+1:Nat):Int) by omega,vE hi,vE hd] at this;exact this
    | succ d ih=>
     intro hd;have h1:=ih ak;have:=h ((i+d+1:Nat):Int) ak (by simp[ah];omega);rw[show(((i+d+1:Nat):Int)+1)=((i+(d+1)+1:Nat):Int) by omega,vE (show i+d+1<l.length by omega),vE hd] at this;omega
   have:=key (j-i-1) ak;have e:i+(j-i-1)+1=j:=ak;simpa only[e] using this
 intro h i i0 i1;rw[List.pairwise_iff_getElem] at h;simp only[ah] at i1;obtain⟨k,rfl⟩ : ∃ k:Nat,i=k:=⟨i.toNat,ak⟩
 rw[show((k:Int)+1)=((k+1:Nat):Int) by omega,vE ak,vE ak];exact h k (k+1) ak ak ak
theorem akA{l:List Int}{p:Int->Prop} : (∀ i,0<=i->i<ah l->p (aB 0 l i)) ↔ ∀ x∈l,p x:=by
 constructor
 . intro h x hx;obtain⟨k,hk,rfl⟩:=List.getElem_of_mem hx;have:=h (k:Int) ak (by simp[ah];omega)
   rwa [vE hk] at this
 intro h i i0 i1;exact h _ (vF 0 l i0 i1)
theorem J3{s:dJ} : y7 s↔(1<=s.fW/\s.fW<=4096)/\(∀ x∈s.fL,0<=x/\x<s.fW)/\s.fL.Pairwise (· < ·) :=
 ⟨λq=>⟨q.w,akA.1 q.low,akz.1 q.up⟩,λh=>⟨h.1,akA.2 h.2.1,akz.2 h.2.2⟩⟩
theorem abN{s:dJ}(hb:ah s.fL<=100000){f:FV}{p:Int->Bool}(hf : ∀ x,Z9 f x=some (p x)):yg s f=some (s.fL.filter p):=by
 have hn:=bW s.fL;refine Yields.eq ?_;unfold yg;refine .cut (λo=>o = .go (s.fL.filter p)) ?_ ?_
 . refine .loop (λz=>0<=z.1/\z.1<=ah s.fL/\z.2=(s.fL.take z.1.toNat).filter p) (λz=>(ah s.fL-z.1).toNat) ⟨bH,by simpa using hn,bH⟩ ?_;rintro⟨v,l⟩ ⟨v0,v1,e⟩;simp only at v0 v1 e ⊢;refine .ite (λh=>?_) λh=>.ret ?_
   . have h:v<ah s.fL:=by simpa using h
     have hl:ah l<=ah s.fL:=by
      rw[e];simp only[ah];have h1:=List.length_filter_le p (s.fL.take v.toNat);have h2:=List.length_take_le v.toNat s.fL;have h3:(s.fL.take v.toNat).length<=s.fL.length:=yh;omega
     have hl0:=bW l;obtain⟨k,rfl⟩ : ∃ k:Nat,v=k:=⟨v.toNat,ak⟩
     have hk:k<s.fL.length:=by simp only[ah] at h;omega
     have ht:s.fL.take (k+1)=s.fL.take k++[s.fL[k]]:=by rw[List.take_add_one,iW hk];rfl
     refine .chk ⟨v0,h⟩ (.call (hf _) (.ite (λhp=>?_) λhp=>?_))
     . refine .chk (vG ak ak ak) (.chk bS (.ret ⟨⟨cB,cB,?_⟩,cB⟩));simp only;rw[show((k:Int)+1).toNat=k+1 by omega,ht,List.filter_append,e];rw[vE hk] at hp ⊢;simp[hp]
     refine .chk bS (.ret ⟨⟨cB,cB,?_⟩,cB⟩);simp only;rw[show((k:Int)+1).toNat=k+1 by omega,ht,List.filter_append,e];rw[vE hk] at hp;simp[hp]
   have h : ¬ v<ah s.fL:=by simpa using h
   have hv:v=ah s.fL:=ak;subst hv;rw[e,show(ah s.fL).toNat=s.fL.length by simp[ah],List.take_length];rfl
 rintro o rfl;exact .go (.ret rfl)
theorem aoF{s:dJ}(q:y7 s)(x:Int):Yields (OY s x) (λt=>y7 t/\t.fW=s.fW):=by
 unfold OY;have hl:=q.len;have hw:=q.w;have hn:=bW s.fL;refine .call ((J4 s).ok q) (.ite (λh=>by cases h) λ_=>.ite (λ_=>.ret ⟨q,rfl⟩) λh=>?_);have hx:0<=x/\x<s.fW:=by grind
 have l1 : ∀ p:Int->Bool,ah (s.fL.filter p)<=ah s.fL:=λp=>by
  simp only[ah];have:=List.length_filter_le p s.fL;omega
 have a:=l1 λy=>decide (y<x);have b:=l1 λy=>decide (x<y);have a0:=bW (s.fL.filter λy=>decide (y<x));have b0:=bW (s.fL.filter λy=>decide (x<y));refine .call (abN (p:=λy=>decide (y<x)) ak λy=>rfl) (.chk (vG ak ak ak) (.call (abN (p:=λy=>decide (x<y)) ak λy=>rfl) (.chk (vG ak ak ak) (.ret ⟨?_,rfl⟩))));obtain⟨_,h2,h3⟩:=J3.1 q;refine J3.2 ⟨hw,?_,?_⟩
 . intro y hy;simp only[CJ,List.mem_filter,fQ] at hy;rcases hy with(hy|hy)|hy
   . exact h2 y hy.1
   . subst hy;exact hx
   exact h2 y hy.1
 show List.Pairwise _ ((_++[x])++_);rw[List.pairwise_append,List.pairwise_append];refine⟨⟨h3.filter _,bH,?_⟩,h3.filter _,?_⟩
 . intro y hy z hz;simp only[List.mem_filter,fQ,decide_eq_true_eq] at hy hz;omega
 intro y hy z hz;simp only[CJ,List.mem_filter,fQ,decide_eq_true_eq] at hy hz;omega
theorem am9{s:dJ}(q:y7 s):Yields (L6 s) (λt=>y7 t/\t.fW=s.fW):=by
 unfold L6;have hl:=q.len;have hw:=q.w;exact .call ((J4 s).ok q) (.ite (λh=>by cases h) λ_=>.ret ⟨J3.2 ⟨hw,λy hy=>(by cases hy),.nil⟩,rfl⟩)
theorem alq{s:dJ}(q:y7 s)(x:Int):Yields (H7 s x) (λt=>y7 t/\t.fW=s.fW):=by
 unfold H7;have hl:=q.len;have hw:=q.w;obtain⟨_,h2,h3⟩:=J3.1 q;exact .call ((J4 s).ok q) (.ite (λh=>by cases h) λ_=>.call (abN (p:=λy=>!(y==x)) ak λy=>rfl) (.ret ⟨J3.2 ⟨hw,λy hy=>h2 y (List.mem_filter.1 hy).1,h3.filter _⟩,rfl⟩))
end Go.Vx
end
section
namespace Go.Vx
set_option maxRecDepth 100000
def kJ(s t:ay):Prop:=je t/\t.aI.fR.fH=s.aI.fR.fH/\t.aI.fR.fW=s.aI.fR.fW/\t.aI.fK.iw=s.aI.fK.iw/\(s.aM.fK.iw=0->t.aM.fK.iw=0)
theorem kJ.refl{s:ay}(q:je s):kJ s s:=⟨q,rfl,rfl,rfl,id⟩
theorem kJ.trans{a b c:ay}(h:kJ a b)(k:kJ b c):kJ a c:=⟨k.1,k.2.1.trans h.2.1,k.2.2.1.trans h.2.2.1,k.2.2.2.1.trans h.2.2.2.1,λe=>k.2.2.2.2 (h.2.2.2.2 e)⟩
theorem Moved.k{s t:ay}(q:je s)(h:Moved s t):kJ s t:=by
 refine⟨h.q q,?_⟩;obtain⟨x,l,k,rfl,_⟩:=h;obtain⟨_,k2,k3⟩:=k;unfold act at k2 k3;unfold upd;cases hb:s.jA<;>simp only[hb,if_true,if_false,oL] at k2 k3 ⊢
 . exact⟨by rw[k2],by rw[k2],k3,id⟩
 exact⟨trivial,trivial,trivial,λe=>k3.trans e⟩
def avm(f:FV):Prop:=∀ s d a,je s->M8 d->Yields (y8 f s d a) (kJ s)
theorem F6.q{f:FV}(h:F6 f):avm f:=λs d a q hd=>(h s d a q hd).mono λ_ k=>k.k q
def ayn(f:FV):Prop:=∀ c,zW c->Yields (acZ f c) zW
theorem af3{f:FV}(h:ayn f):Yields (y9 f) F6:=⟨_,rfl,λs d a q _=>by
 show Yields (vH s d a f) _;unfold vH;exact .call (rz s) (.bind _ (h _ q.act.cur.set) λc hc=>.call (pF s _) (.ret (Moved.of q (aeM q.act hc))))⟩
theorem ana(a:Int)(r:Bool):Yields (kL a r) F6:=by
 unfold kL;refine .bind _ (af3 λc q=>?_) λv hv=>.ret hv;show Yields (zX c a r) _;exact .bind _ (asD q a r) λt h=>.ret h
theorem alr(a:Int):Yields (mV a) F6:=by
 unfold mV;refine .bind _ (af3 λc q=>?_) λv hv=>.ret hv;show Yields (yQ c a) _;exact .bind _ (arn q a) λt h=>.ret h
theorem aeN{x:av}(q:jl x):Yields (vI x) (jf x):=by
 unfold vI;exact .bind _ (abO q.cur 0) λc hc=>.ret (OI q hc.1)
theorem asE : ∀ s d a,je s->Yields (Fh s d a) (Moved s):=λs d a q=>by
 unfold Fh;refine .call (rz s) (.bind _ (aeO q.act) λx hx=>.cut (λo=>∃ y,o = .go y/\jf (act s) y) (.bind _ (Vw _ _ _) λb _=>.ite (λ_=>.bind _ (aeN hx.1) λy hy=>.ret ⟨y,rfl,hx.trans hy⟩) λ_=>.ret ⟨x,rfl,hx⟩) ?_);rintro o ⟨y,rfl,hy⟩;exact .go (.call (pF s y) (.ret (Moved.of q hy)))
theorem aeP{s:av}(q:jl s){t:dJ}(h:y7 t/\t.fW=s.fT.fW):jf s (av.mk s.fG s.fC s.fR t s.fK s.dH s.bA) :=
 ⟨⟨q.dir,q.cur,h.1,h.2.trans q.tw,q.grid,q.h,q.w,q.kept⟩,rfl,rfl⟩
theorem asF : ∀ s d a,je s->Yields (Fj s d a) (Moved s):=λs d a q=>by
 unfold Fj;exact .call (rz s) (.bind _ (aoF q.act.tab _) λt ht=>.call (pF s _) (.ret (Moved.of q (aeP q.act ht))))
theorem aoG{x:av}(q:jl x)(k:Int):Yields (A8 x k) (jf x):=by
 unfold A8;exact .ite (λ_=>.bind _ (alq q.tab _) λt ht=>.ret (aeP q ht)) λ_=>.ite (λ_=>.bind _ (am9 q.tab) λt ht=>.ret (aeP q ht)) λ_=>.ret (jf.refl q)
theorem Vy{s:ay}(q:je s):Yields (kN s) (kJ s):=by
 unfold kN;exact .bind _ (Vw _ _ _) λb _=>.ret ⟨⟨q.main.turn (mJ.refl q.main.grid) q.main.cur q.main.kept _,q.other.turn (mJ.refl q.other.grid) q.other.cur q.other.kept _,q.m,q.h,q.w,q.s0,q.s1,q.out,q.title,q.last⟩,rfl,rfl,rfl,id⟩
theorem akB{s:av}(q:jl s){k:Int}(h:0<=k/\k<=2):jl (av.mk s.fG s.fC s.fR s.fT s.fK k s.bA):=⟨h,q.cur,q.tab,q.tw,q.grid,q.h,q.w,q.kept⟩
theorem aoH : ∀ s d a,je s->Yields (A9 s d a) (kJ s):=λs d a q=>by
 unfold A9;have key : ∀ k:Int,0<=k/\k<=2->kJ s (ay.mk (av.mk s.aI.fG s.aI.fC s.aI.fR s.aI.fT s.aI.fK k s.aI.bA) (av.mk s.aM.fG s.aM.fC s.aM.fR s.aM.fT s.aM.fK k s.aM.bA) s.jA s.fM s.aC s.iL s.fO s.fZ):=λk hk=>
  ⟨⟨akB q.main hk,akB q.other hk,q.m,q.h,q.w,q.s0,q.s1,q.out,q.title,q.last⟩,rfl,rfl,rfl,id⟩
 exact .bind _ (ac0 a) λv _=>.ite (λ_=>.ret (key 2 ak)) λ_=>.ite (λ_=>.ret (key 0 ak)) λ_=>.ite (λ_=>.ret (key 1 ak)) λ_=>.ret (kJ.refl q)
end Go.Vx
end
section
namespace Go.Vx
set_option maxRecDepth 100000
theorem Vz{s:ay}(q:je s){x:av}(hx:jl x)(hh:x.fR.fH=(act s).fR.fH)(hw:x.fR.fW=(act s).fR.fW)(hk:x.fK.iw=(act s).fK.iw){l:Int}(hl:0<=l/\l<=1114111):kJ s (upd s x l):=by
 refine⟨q.upd hx hh hw hl,?_⟩;unfold act at hh hw hk;unfold upd;cases hb:s.jA<;>simp only[hb,if_true,if_false,oL] at hh hw hk ⊢
 . exact⟨hh,hw,hk,id⟩
 exact⟨trivial,trivial,trivial,λe=>hk.trans e⟩
theorem ahH{x:av}(hd:0<=x.dH/\x.dH<=2)(hr:M9 x.fR)(hp:mE x.fC.bB)(hs:zW x.fC.aF)(ht:y7 x.fT)(hw:x.fT.fW=x.fR.fW)(hg:nW x.fG)(h1:ah x.fG.aK=x.fR.fH)(h2:ah (aB aH x.fG.aK 0).aN=x.fR.fW)(hk:NY x.fK) :
  Yields (yj x) (λt=>jl t/\t.fR=x.fR/\t.fK.iw=x.fK.iw):=by
 unfold yj;have a:=hr.h;have b:=hr.w;have c:=hr.t;refine .ite (λho=>.ret ⟨⟨hd,?_,ht,hw,hg,h1,h2,hk⟩,rfl,rfl⟩) λho=>.ret ⟨⟨hd,?_,ht,hw,hg,h1,h2,hk⟩,rfl,rfl⟩
 . exact⟨hr,⟨by show(0:Int)<=0;omega,by show(0:Int)<x.fR.fW;omega⟩,⟨by show 0<=x.fR.gJ;omega,by show x.fR.gJ<x.fR.fH;omega⟩,λh=>(by cases h),λ_=>⟨by show x.fR.gJ<=x.fR.gJ;omega,by show x.fR.gJ<x.fR.dw;omega⟩,hp,hs⟩
 exact⟨hr,⟨by show(0:Int)<=0;omega,by show(0:Int)<x.fR.fW;omega⟩,⟨by show(0:Int)<=0;omega,by show(0:Int)<x.fR.fH;omega⟩,λh=>(by cases h),λh=>(by rw[show x.fC.bO=true from h] at ho;cases ho),hp,hs⟩
theorem anb : ∀ s d a,je s->Yields (ze s d a) (kJ s):=λs d a q=>by
 unfold ze;have r:=q.act.cur.reg;have rh:=r.h;have rw_:=r.w;have rt:=r.t;refine .call (rz s) (.bind _ (aac a) λv hv=>.chk bS (.bind _ (aeQ _ _ _ _ _ ak) λb hb=>.bind (λm=>m=(act s).fR\/m=bG.mk (act s).fR.fH (act s).fR.fW (v-1) b/\0<=v-1/\v-1<=b-2/\b<=(act s).fR.fH) ?_ λm hm=>.ite (λ_=>.ret (kJ.refl q)) λh=>?_))
 . unfold D6;refine .chk (λ_=>bS) (.ite (λ_=>.ret (.inl rfl)) λh=>.ret (.inr ⟨rfl,?_⟩));grind
 have hm2:M9 m/\m.fH=(act s).fR.fH/\m.fW=(act s).fR.fW:=by
  rcases hm with rfl|⟨rfl,h1,h2,h3⟩
  . exact⟨r,rfl,rfl⟩
  exact⟨⟨rh,rw_,by show 0<=v-1/\v-1<b/\b<=(act s).fR.fH;omega⟩,rfl,rfl⟩
 refine .bind _ (ahH (x:=av.mk (act s).fG (act s).fC m (act s).fT (act s).fK (act s).dH (act s).bA) q.act.dir hm2.1 q.act.cur.pen q.act.cur.set q.act.tab (q.act.tw.trans hm2.2.2.symm) q.act.grid (q.act.h.trans hm2.2.1.symm) (q.act.w.trans hm2.2.2.symm) q.act.kept) λx hx=>.call (pF s x) (.ret (Vz q hx.1 ?_ ?_ hx.2.2 q.last))
 . rw[hx.2.1];exact hm2.2.1
 rw[hx.2.1];exact hm2.2.2
theorem aoI : ∀ s d a,je s->M8 d->Yields (Ba s d a) (kJ s):=λs d a q hd=>by
 unfold Ba;have r:=q.act.cur.reg;have rh:=r.h;have rw_:=r.w;have hb:0<=(act s).fR.fH*(act s).fR.fW/\(act s).fR.fH*(act s).fR.fW<=1000*4096:=⟨Int.mul_nonneg ak ak,Int.mul_le_mul rh.2 rw_.2 ak ak⟩
 refine .ite (λ_=>.ret (kJ.refl q)) λ_=>.call (rz s) (.cut (λo=>∃ t,o = .go t/\kJ s t) (.bind _ (aac a) λv hv=>.chk bS ?_) ?_)
 . refine .loop (λp=>0<=p.1/\kJ s p.2) (λp=>(aP v ((act s).fR.fH*(act s).fR.fW)-p.1).toNat) ⟨bH,kJ.refl q⟩ ?_;rintro⟨i,t⟩ ⟨i0,ht⟩;simp only at i0 ht ⊢;refine .ite (λh=>?_) λ_=>.ret ⟨t,rfl,ht⟩;have h:i<aP v ((act s).fR.fH*(act s).fR.fW):=by simpa using h
   have h2:aP v ((act s).fR.fH*(act s).fR.fW)<=v:=by unfold aP;split<;>omega
   exact .bind _ (ahJ ht.1 _ (hd _)) λu hu=>.chk bS (.ret ⟨⟨cB,ht.trans (hu.k ht.1)⟩,cB⟩)
 rintro o ⟨t,rfl,ht⟩;exact .go (.ret ht)
theorem aj2(s:ay)(q:je s)(k f:Int):Yields (vJ s k f) (Moved s):=by
 unfold vJ;exact .call (rz s) (.bind _ (aoJ q.act.cur.set k f) λc hc=>.call (pF s _) (.ret (Moved.of q (aeM q.act hc))))
theorem aj3(on:Bool) : ∀ s d a,je s->ah a.cO<=1000000->Yields (sD s d a on) (kJ s):=λs d a q ha=>by
 unfold sD;have hn:=bW a.cO;refine .cut (λo=>∃ t,o = .go t/\kJ s t) ?_ ?_
 . refine .loop (λp=>0<=p.1/\kJ s p.2) (λp=>(ah a.cO-p.1).toNat) ⟨bH,kJ.refl q⟩ ?_;rintro⟨i,t⟩ ⟨i0,ht⟩;simp only at i0 ht ⊢;refine .ite (λh=>?_) λ_=>.ret ⟨t,rfl,ht⟩;have h:i<ah a.cO:=by simpa using h
   exact .bind _ (aad _ _ _).yields λv _=>.bind _ (ahK ht.1.m false v on) λm hm=>.chk bS (.ret ⟨⟨cB,ht.trans ⟨ht.1.asG hm,rfl,rfl,rfl,id⟩⟩,cB⟩)
 rintro o ⟨t,rfl,ht⟩;exact .go (.bind _ (Vy ht.1) λu hu=>.ret (ht.trans hu))
end Go.Vx
end
section
namespace Go.Vx
set_option maxRecDepth 100000
theorem aoK{s:ay}(q:je s)(b:Bool):kJ s (ay.mk s.aI s.aM b s.fM s.aC s.iL s.fO s.fZ):=⟨q.aqm b,rfl,rfl,rfl,id⟩
theorem akC{s:ay}(q:je s){x:av}(h:jf s.aM x)(b:Bool):kJ s (ay.mk s.aI x b s.fM s.aC s.iL s.fO s.fZ) :=
 ⟨⟨q.main,h.1,q.m,by show x.fR.fH=_;rw[h.2.1];exact q.h,by show x.fR.fW=_;rw[h.2.1];exact q.w,q.s0,q.s1,q.out,q.title,q.last⟩,rfl,rfl,rfl,λe=>h.2.2.trans e⟩
theorem ahL{s:ay}(q:je s):kJ s (sav s):=⟨q.sav,rfl,rfl,rfl,id⟩
theorem Yp{s:ay}(q:je s):kJ s (upd s (VA s) s.fZ):=(Moved.of q q.rst).k q
theorem anc{s:ay}(q:je s)(d:bL)(a:aG)(n:Int)(on:Bool):Yields (zf s d a n on) (kJ s):=by
 unfold zf;have c:=q.act;refine .ite (λ_=>.call (rz s) (.bind _ (ahH (x:=av.mk (act s).fG (aD.mk (act s).fC.fX (act s).fC.fY (act s).fC.dz on (act s).fC.bB (act s).fC.aF) (act s).fR (act s).fT (act s).fK (act s).dH (act s).bA) c.dir c.cur.reg c.cur.pen c.cur.set c.tab c.tw c.grid c.h c.w c.kept) λx hx=>.call (pF s x) (.ret (Vz q hx.1 (by rw[hx.2.1]) (by rw[hx.2.1]) hx.2.2 q.last)))) λ_=>?_;refine .ite (λ_=>.ret (aoK q on)) λ_=>.ite (λ_=>.ite (λ_=>.bind _ (abP q.other 2) λx hx=>.ret (akC q hx on)) λ_=>.ret (aoK q on)) λ_=>?_;refine .ite (λ_=>.ite (λ_=>.call (aeR s d a) (.ret (ahL q))) λ_=>.call (VB s d a) (.ret (Yp q))) λ_=>?_;refine .ite (λ_=>.ite (λ_=>.call (VB _ d a) (.ret ((aoK q false).trans (Yp (q.aqm false))))) λ_=>.call (aeR s d a) (.bind _ (abP q.sav.other 2) λx hx=>.ret ((ahL q).trans (akC q.sav hx true)))) λ_=>.ret (kJ.refl q)
theorem aj4(on:Bool) : ∀ s d a,je s->ah a.cO<=1000000->Yields (sG s d a on) (kJ s):=λs d a q ha=>by
 unfold sG;have hn:=bW a.cO;refine .cut (λo=>∃ t,o = .go t/\kJ s t) ?_ ?_
 . refine .loop (λp=>0<=p.1/\kJ s p.2) (λp=>(ah a.cO-p.1).toNat) ⟨bH,kJ.refl q⟩ ?_;rintro⟨i,t⟩ ⟨i0,ht⟩;simp only at i0 ht ⊢;refine .ite (λh=>?_) λ_=>.ret ⟨t,rfl,ht⟩;have h:i<ah a.cO:=by simpa using h
   refine .bind _ (aad _ _ _).yields λv _=>.bind _ (ahK ht.1.m true v on) λm hm=>?_;have h1:kJ s (ay.mk t.aI t.aM t.jA m t.aC t.iL t.fO t.fZ):=ht.trans ⟨ht.1.asG hm,rfl,rfl,rfl,id⟩;exact .bind _ (anc h1.1 d a v on) λu hu=>.chk bS (.ret ⟨⟨cB,h1.trans hu⟩,cB⟩)
 rintro o ⟨t,rfl,ht⟩;exact .go (.bind _ (Vy ht.1) λu hu=>.ret (ht.trans hu))
theorem aoL{s:ay}(q:je s)(t:ByteArray)(ht:bn t<=1000000)(h0:ah (Dj t)=bn t):Yields (oM s t) (kJ s):=by
 unfold oM;have a:=q.out;have a0:=bW s.iL;have b0:=bW (Dj t);refine .cut (λo=>o = .out s\/∃ l,o = .go l/\ah l=ah s.iL/\ah s.iL+bn t<=4096) (.chk bS (.ite (λ_=>.ret (.inl rfl)) λh=>.chk bS (.chk ?_ (.chk (vG ak ak ak) (.ret (.inr ⟨_,rfl,?_,?_⟩)))))) ?_
 . exact⟨ak,ak,ak,ak⟩
 . rw[bK,dK _ ak];omega
 . have h : ¬ 4096<ah s.iL+bn t:=by simpa using h
   omega
 rintro o (rfl|⟨l,rfl,h1,h2⟩)
 . exact .out (kJ.refl q)
 refine .go (.chk (vG ak ak ak) (.ret ⟨⟨q.main,q.other,q.m,q.h,q.w,q.s0,q.s1,?_,q.title,q.last⟩,rfl,rfl,rfl,id⟩));show ah (l++Dj t)<=4096;rw[bK,h0];omega
end Go.Vx
end
section
namespace Go.Vx
set_option maxRecDepth 100000
theorem af4(v a b:Int)(h:a<=b):Yields (jW v a b) (λx=>x=aY a (aP v b)/\a<=x/\x<=b):=⟨_,rfl,rfl,btw v a b h⟩
theorem OZ(h w:Int):Yields (zY h w) (λv=>jv v.1 v.2/\v.2=bG.mk (aY 1 (aP h 1000)) (aY 1 (aP w 4096)) 0 (aY 1 (aP h 1000))):=by
 unfold zY;refine .bind _ (af4 h 1 1000 ak) λa ha=>.bind _ (af4 w 1 4096 ak) λb hb=>.call rfl (.call rfl (.ret ?_));obtain⟨rfl,a1,a2⟩:=ha;obtain⟨rfl,b1,b2⟩:=hb;refine⟨⟨⟨⟨a1,a2⟩,⟨b1,b2⟩,⟨nL _,by show(0:Int)<aY 1 (aP h 1000);omega,nL _⟩⟩,⟨nL _,by show(0:Int)<aY 1 (aP w 4096);omega⟩,⟨nL _,by show(0:Int)<aY 1 (aP h 1000);omega⟩,λh=>(by cases h),λh=>(by cases h),aae,aoM⟩,rfl⟩
theorem ahO(w:Int):Yields (Dk w) (λt=>y7 t/\t.fW=aY 1 (aP w 4096)):=by
 unfold Dk;have hc:=btw w 1 4096 ak;refine .bind (λv=>v=aY 1 (aP w 4096)) ⟨_,rfl,rfl⟩ λv hv=>?_;subst hv;refine .cut (λo=>∃ l,o = .go l/\(∀ x∈l,0<=x/\x<aY 1 (aP w 4096))/\l.Pairwise (· < ·)) ?_ ?_
 . refine .loop (λp=>8<=p.1/\p.1<=5000/\ah p.2<=p.1/\(∀ x∈p.2,0<=x/\x<aY 1 (aP w 4096)/\x<p.1)/\p.2.Pairwise (· < ·)) (λp=>(5000-p.1).toNat) ⟨bH,bH,bH,λx hx=>(by cases hx),.nil⟩ ?_;rintro⟨a,l⟩ ⟨a0,a1,al,hx,hp⟩;simp only at a0 a1 al hx hp ⊢;have hl:=bW l;refine .ite (λh=>?_) λ_=>.ret ⟨l,rfl,λx h=>⟨(hx x h).1,(hx x h).2.1⟩,hp⟩;have h:a<aY 1 (aP w 4096):=by simpa using h
   refine .chk (vG ak ak ak) (.chk bS (.ret ⟨⟨cB,cB,by simp only[bK,bE,bP];omega,?_,?_⟩,cB⟩))
   . intro x h2;simp only[CJ,fQ] at h2 ⊢;rcases h2 with h2|h2
     . have:=hx x h2;omega
     omega
   rw[List.pairwise_append];refine⟨hp,bH,λx h2 y h3=>?_⟩;have:=hx x h2;simp only[fQ] at h3;omega
 rintro o ⟨l,rfl,h1,h2⟩;exact .go (.ret ⟨J3.2 ⟨hc,h1,h2⟩,rfl⟩)
theorem ahP(h w k:Int):Yields (xu h w k) (λx=>jl x/\x.fR=bG.mk (aY 1 (aP h 1000)) (aY 1 (aP w 4096)) 0 (aY 1 (aP h 1000))/\x.fK.iw=aY 0 (aP k 200)):=by
 unfold xu;refine .bind _ (OZ h w) λc hc=>.bind _ (af5 h w nu aae) λg hg=>.bind _ (ahO w) λt ht=>.bind _ (af6 k) λe he=>.ret ⟨⟨⟨bH,bH⟩,hc.1,ht.1,?_,hg.1,?_,?_,he.1⟩,hc.2,he.2⟩
 . show t.fW=c.2.fW;rw[hc.2];exact ht.2
 . show ah g.aK=c.2.fH;rw[hc.2];exact hg.2.1
 show ah (aB aH g.aK 0).aN=c.2.fW;rw[hc.2];exact hg.2.2
theorem akD(h w k:Int):Yields (p9 h w k) (λt=>je t/\t.aI.fR=bG.mk (aY 1 (aP h 1000)) (aY 1 (aP w 4096)) 0 (aY 1 (aP h 1000))/\t.aI.fK.iw=aY 0 (aP k 200)/\t.aM.fK.iw=0/\t.iL=[]/\t.jA=false):=by
 unfold p9;obtain⟨m,em,qm⟩:=abQ;refine .bind _ (OZ h w) λc hc=>.bind _ (ahP h w k) λx hx=>.bind _ (ahP h w 0) λy hy=>.call em ?_;have q:je (ay.mk x y false m (gQ.mk c.1 c.1) ([]:List Int) ByteArray.empty 0):=by
  have hcw:jv c.1 (oU x.fR):=by
   have:=hc.1;rw[hc.2] at this;rw[hx.2.1];exact this
  exact⟨hx.1,hy.1,qm,by show y.fR.fH=x.fR.fH;rw[hy.2.1,hx.2.1],by show y.fR.fW=x.fR.fW;rw[hy.2.1,hx.2.1],hcw,hcw,bH,by show bn ByteArray.empty<=1024;decide,bH⟩
 unfold kN;refine .bind _ (.bind _ (Vw _ _ _) λb _=>.ret ⟨⟨q.main.turn (mJ.refl q.main.grid) q.main.cur q.main.kept _,q.other.turn (mJ.refl q.other.grid) q.other.cur q.other.kept _,q.m,q.h,q.w,q.s0,q.s1,q.out,q.title,q.last⟩,hx.2.1,hx.2.2,hy.2.2,rfl,rfl⟩) λt ht=>.ret ht
end Go.Vx
end
section
namespace Go.Vx
set_option maxRecDepth 100000
theorem Yq{x a b:Int}(h1:a<=x)(h2:x<=b):aY a (aP x b)=x:=by
 unfold aY aP
 (repeat' split)<;>omega
theorem aro : ∀ s d a,je s->Yields (vK s d a) (kJ s):=λs d a q=>by
 unfold vK;have r:=q.main.cur.reg;have rh:=r.h;have rw_:=r.w;have k:=q.main.kept.cap;refine .bind _ (akD _ _ _) λv ⟨hv,h2,h3,h4,_⟩=>.ret ⟨⟨hv.main,hv.other,hv.m,hv.h,hv.w,hv.s0,hv.s1,q.out,hv.title,hv.last⟩,?_,?_,?_,λ_=>h4⟩
 . show v.aI.fR.fH=_;rw[h2];exact Yq rh.1 rh.2
 . show v.aI.fR.fW=_;rw[h2];exact Yq rw_.1 rw_.2
 show v.aI.fK.iw=_;rw[h3];exact Yq ak ak
end Go.Vx
end
