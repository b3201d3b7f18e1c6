/- Pens by parameters. No conditions. -/
import Derived.Test.YtmpgicplgjmjkaaGreatDoorS15
set_option linter.all false
section
namespace Go.Vx
set_option maxRecDepth 100000
def JE(f:Int):Prop:=0<=f/\f<=511
instance (f:Int):Decidable (JE f):=inferInstanceAs (Decidable (_/\_))
theorem VD{a c:Int}(h:JE a)(hc:JE c):JE (uH .i64 a c):=by
 obtain⟨h0,h1⟩:=h;obtain⟨c0,c1⟩:=hc;obtain⟨x,rfl⟩ : ∃ x:Nat,a=x:=⟨a.toNat,ak⟩
 obtain⟨y,rfl⟩ : ∃ y:Nat,c=y:=⟨c.toNat,ak⟩
 obtain⟨n,e,hn,_⟩:=L8 (a:=x) (c:=y) ak ak;rw[e];exact⟨ak,ak⟩
theorem ahQ{a c:Int}(h:JE a)(hc:JE c):JE (oW .i64 a c):=by
 obtain⟨h0,h1⟩:=h;obtain⟨c0,c1⟩:=hc;obtain⟨x,rfl⟩ : ∃ x:Nat,a=x:=⟨a.toNat,ak⟩
 obtain⟨y,rfl⟩ : ∃ y:Nat,c=y:=⟨c.toNat,ak⟩
 rw[akE ak ak];have:=Nat.or_lt_two_pow (n:=9) (show x<2 ^ 9 by omega) (show y<2 ^ 9 by omega);exact⟨ak,ak⟩
theorem akF{l:List Int}(h : ∀ x∈l,JE x)(k:Nat):JE (l.getD k 0):=by
 rw[wI];cases e:l[k]? with
 | none=>exact⟨bH,bH⟩
 | some y=>exact h y (VE e)
theorem avn(n:Int):JE (xA 8 n):=akF (l:=[0,1,2,4,8,16,0,32,64,128]) qZ n.toNat
theorem avo(n:Int):JE (xA 9 n):=akF (l:=[3,4,264,16,0,32,64,128]) qZ n.toNat
theorem avp{p:bU}(q:mE p){l:List Int}(hl:0<ah l):Yields (Um p l) mE:=by
 unfold Um;refine .chk ⟨ak,hl⟩ (.cut (λo=>(∃ r,o = .out r/\mE r)\/∃ a b c,o = .go (a,b,c)/\wP a/\wP b/\JE c) ?_ ?_)
 . have G : ∀ {a b c:Int},wP a->wP b->JE c->Yields (some (.go (a,b,c)):Option (Fl (Int×Int×Int) bU)) (λo=>(∃ r,o = .out r/\mE r)\/∃ a b c,o = .go (a,b,c)/\wP a/\wP b/\JE c):=λh1 h2 h3=>.ret (.inr ⟨_,_,_,rfl,h1,h2,h3⟩);have A:=q.fg;have B:=q.bg;have C:JE p.dI:=q.fl;have L : ∀ {x:Int},0<=x->x<=256->wP x:=λh1 h2=>.inl ⟨h1,h2⟩;generalize aB 0 l 0=n;refine .ite (λ_=>.ret (.inl ⟨_,rfl,aae⟩)) λ_=>.chk (λh=>⟨ak,by grind⟩) (.ite (λ_=>G A B (VD C ⟨ak,ak⟩)) λ_=>.chk (λh=>⟨ak,by grind⟩) ?_);refine .ite (λ_=>G A B (ahQ (VD C ⟨ak,ak⟩) ⟨ak,ak⟩)) λ_=>.ite (λ_=>G A B (ahQ (VD C ⟨ak,ak⟩) ⟨ak,ak⟩)) λ_=>?_;refine .ite (λh=>.chk (by grind) (G A B (ahQ C (avn n)))) λ_=>?_;refine .ite (λh=>?_) λ_=>.ite (λh=>?_) λ_=>.ite (λ_=>G (L ak ak) B C) λ_=>.ite (λh=>?_) λ_=>.ite (λ_=>G A (L ak ak) C) λ_=>.ite (λh=>?_) λ_=>.ite (λh=>?_) λ_=>G A B C
   . have h:22<=n/\n<=29:=by grind
     exact .chk bS (.chk ak (G A B (VD C (avo _))))
   . have h:30<=n/\n<=37:=by grind
     exact .chk bS (.chk bS (G (L ak ak) B C))
   . have h:40<=n/\n<=47:=by grind
     exact .chk bS (.chk bS (G A (L ak ak) C))
   . have h:90<=n/\n<=97:=by grind
     exact .chk bS (.chk bS (.chk bS (G (L ak ak) B C)))
   have h:100<=n/\n<=107:=by grind
   exact .chk bS (.chk bS (.chk bS (G A (L ak ak) C)))
 rintro o (⟨r,rfl,h⟩|⟨a,b,c,rfl,h1,h2,h3⟩)
 . exact .out h
 exact .go (.ret ⟨h1,h2,h3⟩)
theorem asH(n:Int):Yields (xB n) (λb=>b=true->0<=n/\n<=255):=⟨_,rfl,λh=>by grind⟩
theorem ac1(c:Bool)(n:Int):Yields (if c=true then xB n else some false) (λb=>b=true->0<=n/\n<=255):=TJ (λ_=>asH n) λ_=>.ret λh=>by cases h
theorem aqn{x:Int}(h:0<=x/\x<=255):zh .i64 x 16=x*65536/\zh .i64 x 8=x*256:=by
 obtain⟨n,rfl⟩ : ∃ n:Nat,x=n:=⟨x.toNat,ak⟩
 refine⟨?_,?_⟩
 . show IntKind.wrap .i64 ((n:Int)*2 ^ 16)=_;rw[show((n:Int)*2 ^ 16)=((n*65536:Nat):Int) by omega,wrapN ak];omega
 show IntKind.wrap .i64 ((n:Int)*2 ^ 8)=_;rw[show((n:Int)*2 ^ 8)=((n*256:Nat):Int) by omega,wrapN ak];omega
theorem avq(r g b:Int):Yields (Un r g b) (λc=>16777216<=c/\c<33554432):=by
 unfold Un;have B : ∀ n:Int,Yields (BL n) (λv=>0<=v/\v<=255):=λn=>⟨_,rfl,by unfold aY aP;(repeat' split)<;>omega⟩
 refine .bind _ (B r) λu hu=>.chk ak (.chk ?_ (.bind _ (B g) λv hv=>.chk ak (.chk ?_ (.bind _ (B b) λw hw=>.chk ?_ (.ret ?_)))));all_goals simp only[(aqn hu).1]
 . exact bS
 all_goals simp only[(aqn hv).2]
 . exact bS
 . exact bS
 omega
theorem ahR(l:List Int):Yields (D7 l) (λc=>(c.1=0\/wP c.1)/\0<=c.2/\c.2<=4):=by
 unfold D7;have hn:=bW l;refine .chk (λh=>by grind) (.chk (λh=>by grind) (.bind _ (ac1 _ _) λv hv=>.ite (λh=>?_) λ_=>?_))
 . have h1:2<=ah l/\v=true:=by grind
   have:=hv h1.2;exact .chk ak (.chk bS (.ret ⟨.inr (.inl ⟨cB,cB⟩),bH,bH⟩))
 refine .chk (λh=>by grind) (.chk (λh=>by grind) (.bind _ (ac1 _ _) λv1 _=>.chk (λh=>by grind) (.bind _ (ac1 _ _) λv2 _=>.chk (λh=>by grind) (.bind _ (ac1 _ _) λv3 _=>.ite (λh=>?_) λ_=>.ret ⟨.inl rfl,bH,bH⟩))));have h1:4<=ah l:=by grind
 exact .chk ak (.chk ak (.chk ak (.bind _ (avq _ _ _) λc hc=>.ret ⟨.inr (.inr hc),bH,bH⟩)))
theorem arp{l:List Int}(h:0<ah l):Yields (L9 l) (λ_=>True):=by
 unfold L9;exact .chk ak (.ite (λ_=>.ret trivial) λhh=>.chk (by grind) (.chk (by grind) (.chk (by grind) (.ret trivial))))
theorem aoN(l:List (List Int)):Yields (H8 l) (λ_=>True):=by
 unfold H8;have hn:=bW l;have hm:0<=aP (ah l) 4/\aP (ah l) 4<=ah l/\aP (ah l) 4<=4:=by unfold aP;split<;>omega
 refine .cut (λo=>∃ x,o = .go x) (.chk ak (.loop (λp=>0<=p.1/\p.1<=aP (ah l) 4/\ah p.2=p.1) (λp=>(aP (ah l) 4-p.1).toNat) ⟨bH,cB,bH⟩ ?_)) ?_
 . rintro⟨v,f⟩ ⟨v0,v1,e⟩;simp only at v0 v1 e ⊢;refine .ite (λh=>?_) λ_=>.ret ⟨_,rfl⟩;have h:v<aP (ah l) 4:=by simpa using h
   have hs:ah (kU l 0 (aP (ah l) 4))=aP (ah l) 4:=by rw[dG ak ak ak];omega
   refine .chk (by rw[hs];omega) (.ite (λh2=>.chk (by grind) (.chk (vG ak ak ak) (.chk bS (.ret ⟨⟨cB,cB,by simp only[bK,bE,bP];omega⟩,cB⟩)))) λ_=>.chk (vG ak ak ak) (.chk bS (.ret ⟨⟨cB,cB,by simp only[bK,bE,bP];omega⟩,cB⟩)))
 rintro o ⟨x,rfl⟩;exact .go (.ret trivial)
theorem arq{p:bU}(q:mE p){l:List (List Int)}(hl:ah l<=1000000):Yields (Mc p l) mE:=by
 unfold Mc;have hn:=bW l;refine .bind _ (O0 p) λv _=>.ite (λ_=>.ret aae) λ_=>.cut (λo=>(∃ r,o = .out r/\mE r)\/∃ a b c,o = .go (a,b,c)/\wP a/\wP b/\JE c) (.loop (λz=>0<=z.1/\wP z.2.1/\wP z.2.2.1/\JE z.2.2.2) (λz=>(ah l-z.1).toNat) ⟨bH,q.fg,q.bg,q.fl⟩ ?_) ?_
 . rintro⟨i,a,b,c⟩ ⟨i0,A,B,C⟩;simp only at i0 A B C ⊢;refine .ite (λh=>?_) λ_=>.ret (.inr ⟨_,_,_,rfl,A,B,C⟩);have h:i<ah l:=by simpa using h
   have hq:=bW (aB [] l i);refine .cut (λo=>(∃ r,o = .out (.out (.out r))/\mE r)\/∃ j a b c,o = .go (j,a,b,c)/\i<=j/\j<=i+4/\wP a/\wP b/\JE c) (.chk ⟨i0,h⟩ (.ite (λ_=>.ret (.inr ⟨_,_,_,_,rfl,ak,ak,A,B,C⟩)) λh0=>?_)) ?_
   . have h0:0<ah (aB [] l i):=by
      have : ¬ ah (aB [] l i)=0:=by simpa using h0
      omega
     have P:mE (bU.mk a b c):=⟨A,B,C⟩
     refine .chk ak (.chk (λ_=>by omega) (.ite (λ_=>.bind _ (avp P h0) λr hr=>.ret (.inr ⟨_,_,_,_,rfl,ak,ak,hr.fg,hr.bg,hr.fl⟩)) λ_=>.ite (λho=>?_) λho=>?_))
     . have ho:1<ah (aB [] l i):=by simpa using ho
       refine .chk ak (.bind _ (arp (by rw[dG ak ak ak];omega)) λw _=>.bind _ (ahR w) λk hk=>.ite (λ_=>.ret (.inl ⟨_,rfl,P⟩)) λ_=>.ite (λ_=>.chk bS (.ret (.inr ⟨_,_,_,_,rfl,ak,ak,A,B,C⟩))) λh1=>?_);have D:wP k.1:=hk.1.resolve_left (by simpa using h1);exact .chk ak (.ite (λ_=>.chk bS (.ret (.inr ⟨_,_,_,_,rfl,ak,ak,D,B,C⟩))) λ_=>.chk bS (.ret (.inr ⟨_,_,_,_,rfl,ak,ak,A,D,C⟩)))
     refine .chk bS (.chk ak (.bind _ (aoN _) λw _=>.bind _ (ahR w) λk hk=>?_));have t0:=hk.2.1;have t1:=hk.2.2;refine .ite (λ_=>.ret (.inl ⟨_,rfl,P⟩)) λ_=>.ite (λ_=>.chk bS (.ret (.inr ⟨_,_,_,_,rfl,ak,ak,A,B,C⟩))) λh1=>?_;have D:wP k.1:=hk.1.resolve_left (by simpa using h1);exact .chk ak (.ite (λ_=>.chk bS (.ret (.inr ⟨_,_,_,_,rfl,ak,ak,D,B,C⟩))) λ_=>.chk bS (.ret (.inr ⟨_,_,_,_,rfl,ak,ak,A,D,C⟩)))
   rintro o (⟨r,rfl,hr⟩|⟨j,a,b,c,rfl,h1,h2,A,B,C⟩)
   . exact .out (.inl ⟨_,rfl,hr⟩)
   exact .go (.chk bS (.ret ⟨⟨cB,A,B,C⟩,cB⟩))
 rintro o (⟨r,rfl,h⟩|⟨a,b,c,rfl,h1,h2,h3⟩)
 . exact .out h
 exact .go (.ret ⟨h1,h2,h3⟩)
theorem asI : ∀ s d a,je s->ah a.cO<=1000000->Yields (Fp s d a) (Moved s):=λs d a q ha=>by
 unfold Fp;exact .call (rz s) (.bind _ (arq q.act.cur.pen ha) λp hp=>.call (pF s _) (.ret (Moved.of q (OI q.act ⟨q.act.cur.reg,q.act.cur.x,q.act.cur.y,q.act.cur.wrap,q.act.cur.org,hp,q.act.cur.set⟩))))
end Go.Vx
end
section
namespace Go.Vx
set_option maxRecDepth 100000
theorem zi(t:ByteArray):0<=bn t:=by unfold bn;omega
theorem Gu(a b:ByteArray):bn (lY a b)=bn a+bn b:=by simp[bn,lY,ByteArray.size_append]
theorem ac2{n:Int}(h : -1000000<=n/\n<=1000000):Yields (strconv_Itoa n) (λt=>bn t<=21):=by
 unfold strconv_Itoa;split
 . exact .ret (show((1:Nat):Int)<=21 by omega)
 refine .chk bS (.ret ?_);have:=Go.Lib.itoa_length_le n ak ak;show(((Go.Lib.itoa n).toArray.size:Nat):Int)<=21;simp only[QI];omega
theorem aoO{c:aD}{r:bG}(q:jv c r):Yields (Bc c r) (λv=>(-10000<=v.1/\v.1<=10000)/\(-10000<=v.2/\v.2<=10000)):=by
 unfold Bc;have a:=q.x;have b:=q.y;have rh:=q.reg.h;have rw_:=q.reg.w;have rt:=q.reg.t;refine .call ((Dl c r).ok q) (.ite (λh=>by cases h) λ_=>.ite (λho=>.chk bS (.chk bS (.chk bS (.ret ⟨⟨?_,?_⟩,?_,?_⟩)))) λ_=>.chk bS (.chk bS (.ret ⟨⟨?_,?_⟩,?_,?_⟩)))<;>(simp only;omega)
theorem akG{s:ay}(q:je s):Yields (zk s) (λt=>bn t<=100):=by
 unfold zk;refine .call (rz s) (.bind _ (aoO q.act.cur) λv hv=>.bind _ (ac2 ak) λa ha=>?_);have a0:=zi a;have e1:bn (⟨#[59]⟩:ByteArray)=1:=rfl;have e2:bn (⟨#[82]⟩:ByteArray)=1:=rfl;refine .chk bS (.bind _ (ac2 ak) λb hb=>?_);have b0:=zi b;refine .chk ?_ (.chk ?_ (.ret ?_))<;>simp only[Gu,e1,e2]
 . exact bS
 . exact bS
 omega
def wQ(l:List (List Int)):Prop:=l.length<=16/\∀ x∈l,(1<=x.length/\x.length<=6)/\∀ y∈x,-1<=y/\y<=65535
theorem wQ.len{l:List (List Int)}(h:wQ l):ah l<=1000000:=by have:=h.1;unfold ah;omega
theorem avr{l:List (List Int)}(h:wQ l)(k u:Int)(hu : -1<=u/\u<=65535):Yields (rP l k u) (λn=>-1<=n/\n<=65535):=by
 unfold rP;have hn:=bW l;have hm:=bW (aB [] l k);refine .chk (λh=>by grind) (.chk (λh=>by grind) (.chk (λh=>by grind) (.ite (λ_=>.ret hu) λh1=>?_)));have hk:0<=k/\k<ah l:=by grind
 have hj:0<ah (aB [] l k):=by grind
 exact .chk (by grind) (.chk (by grind) (.ret ((h.2 _ (vF [] l hk.1 hk.2)).2 _ (vF 0 _ ak hj))))
theorem asJ{a:aG}(h:wQ a.cO):Yields (oF a) (λn=>-1<=n/\n<=65535):=by
 unfold oF;exact .bind _ (avr h _ _ ak) λv h=>.ret h
theorem VF{s:ay}(q:je s)(t:ByteArray)(ht:bn t<=1000000):Yields (oM s t) (kJ s):=aoL q t ht (iV t)
theorem aoP : ∀ s d a,je s->Yields (Bd s d a) (kJ s):=λs d a q=>by
 unfold Bd;refine .bind _ (ac0 a) λv _=>.ite (λ_=>.bind _ (VF q _ qZ) λt ht=>.ret ht) λ_=>.ite (λ_=>.bind _ (akG q) λw hw=>?_) λ_=>.ret (kJ.refl q);have w0:=zi w;have e1:bn (⟨#[27,91]⟩:ByteArray)=2:=rfl;exact .chk bS (.bind _ (VF q _ (by rw[Gu];omega)) λt ht=>.ret ht)
def ahS(f:FV):Prop:=∀ s,je s->Yields (aaf f s) (λt=>bn t<=1000)
theorem aoQ{f:FV}(h:ahS f)(k:Int) : ∀ s d a,je s->Yields (xC s d a k f) (kJ s):=λs d a q=>by
 unfold xC;exact .bind _ (ac0 a) λv _=>.ite (λ_=>.ret (kJ.refl q)) λ_=>.bind _ (h s q) λt ht=>.bind _ (VF q t ak) λu hu=>.ret hu
theorem ane(m:eG)(p:Bool)(n:Int):Yields (Dm m p n) (λv=>0<=v/\v<=2):=by
 unfold Dm;exact .bind _ (O1 m) λw _=>.bind (λ_=>True) (TJ (λ_=>(aeS p n).mono λ_ _=>trivial) λ_=>.ret trivial) λv1 _=>.ite (λ_=>.ret ak) λ_=>.bind _ (Vw _ _ _) λb _=>.ite (λ_=>.ret ak) λ_=>.ret ak
theorem aj5(p:Bool)(mark:ByteArray)(hm:bn mark<=10) : ∀ s d a,je s->wQ a.cO->Yields (sH s d a p mark) (kJ s):=λs d a q ha=>by
 unfold sH;have m0:=zi mark;have e1:bn (⟨#[59]⟩:ByteArray)=1:=rfl;have e2:bn (⟨#[27,91]⟩:ByteArray)=2:=rfl;have e3:bn (⟨#[36,121]⟩:ByteArray)=2:=rfl;refine .bind _ (asJ ha) λv hv=>.bind _ (ane _ _ _) λw hw=>.bind _ (ac2 ak) λx hx=>.chk bS (.bind _ (ac2 ak) λy hy=>?_);have x0:=zi x;have y0:=zi y;refine .chk ?_ (.chk ?_ (.chk ?_ (.chk ?_ (.bind _ (VF q _ ?_) λt ht=>.ret ht))))<;>simp only[Gu,e1,e2,e3];all_goals first|exact bS|omega
theorem ahT(t p:ByteArray):Yields (strings_HasPrefix t p) (λb=>b=true->bn p<=bn t):=by
 unfold strings_HasPrefix stringslite_HasPrefix;have p0:=zi p;refine .bind (λb=>b=true->bn p<=bn t) (.chk (λh=>?_) (.ret λh=>?_)) λv hv=>.ret hv
 . have h:bn p<=bn t:=by simpa using h
   omega
 by_cases h1:bn p<=bn t
 . exact h1
 simp[h1] at h
theorem ahU{t:ByteArray}{l h:Int}(h0:0<=l)(h1:l<=h)(h2:h<=bn t):bn (tQ t l h)=h-l:=by
 unfold bn tQ at *;show(((t.data.toList.drop l.toNat).take (h.toNat-l.toNat)).toArray.size:Int)=_;have:t.data.size=t.size:=rfl;simp only[QI,H9,zZ,Ia];omega
theorem ars(s:ay)(q:je s)(t:ByteArray):Yields (Dn s t) (kJ s):=by
 unfold Dn;have e1:bn (⟨#[48,59]⟩:ByteArray)=2:=rfl;have e2:bn (⟨#[50,59]⟩:ByteArray)=2:=rfl;refine .bind _ (ahT t _) λv hv=>.bind (λb=>b=true->2<=bn t) (TJ (λ_=>(ahT t _).mono λb hb h=>by have:=hb h;omega) λ_=>.ret λh=>by cases h) λw hw=>.ite (λ_=>.ret (kJ.refl q)) λh=>?_;have h2:2<=bn t:=by
  cases v with
  | true=>have:=hv rfl;omega
  | false=>
   cases w with
   | true=>exact hw rfl
   | false=>cases h
 have e:=ahU (t:=t) (l:=2) (h:=bn t) ak h2 (nL _);have hm:0<=aP (bn (tQ t 2 (bn t))) 1024/\aP (bn (tQ t 2 (bn t))) 1024<=bn (tQ t 2 (bn t))/\aP (bn (tQ t 2 (bn t))) 1024<=1024:=by unfold aP;split<;>omega
 refine .chk ak (.chk ⟨ak,hm.1,hm.2.1⟩ (.ret ⟨⟨q.main,q.other,q.m,q.h,q.w,q.s0,q.s1,q.out,?_,q.last⟩,rfl,rfl,rfl,id⟩));show bn (tQ (tQ t 2 (bn t)) 0 _)<=1024;rw[ahU ak ak ak];omega
end Go.Vx
end
section
namespace Go.Vx
set_option maxRecDepth 100000
theorem aoR:F7 (bY.mk 69 jP 1 nu):=by
 refine⟨⟨qZ,qZ,λh=>(by cases h rfl)⟩,⟨qZ,qZ,λh=>(by cases h rfl)⟩,qZ,λ_=>rfl,aae,.inr (.inl rfl)⟩
theorem asK : ∀ s d a,je s->Yields (Fq s d a) (kJ s):=λs d a q=>by
 unfold Fq;have g:=q.act.grid;have hr:=bW (act s).fG.aK;have ht:=g.top;refine .call (rz s) (.chk (ahV hr (by have:=g.top;omega) ak) (.cut (λo=>∃ l,o = .go l/\ah l=ah (act s).fG.aK/\CK l (act s).fR.fW) ?_ ?_))
 . refine .loop (λz=>0<=z.1/\z.1<=ah (act s).fG.aK/\ah z.2=ah (act s).fG.aK/\∀ i,0<=i->i<z.1->mF (aB aH z.2 i)/\ah (aB aH z.2 i).aN=(act s).fR.fW) (λz=>(ah (act s).fG.aK-z.1).toNat) ⟨bH,by simpa using hr,by simp only;exact dK _ hr,λi a b=>by simp only at b;omega⟩ ?_;rintro⟨v,l⟩ ⟨v0,v1,hl,hg⟩;simp only at v0 v1 hl hg ⊢;refine .ite (λh=>?_) λh=>?_
   . have h:v<ah (act s).fG.aK:=by simpa using h
     have q1:=g.row v v0 h;have hw:ah (aB aH (act s).fG.aK v).aN=(act s).fR.fW:=(g.wid v v0 h).trans q.act.w;have p1:=q1.pos;have p2:=q1.top;generalize hn:ah (aB aH (act s).fG.aK v).aN=n at *;refine .cut (λo=>∃ x,o = .go (iM l v x)/\mF x/\ah x.aN=n) (.chk ⟨v0,h⟩ (.chk (ahV ak ak ak) (.cut (λo=>∃ c,o = .go c/\ah c=n/\∀ i,0<=i->i<n->aB bq c i=bY.mk 69 jP 1 nu) ?_ ?_))) ?_
     . refine .loop (λz=>0<=z.1/\z.1<=n/\ah z.2=n/\∀ i,0<=i->i<z.1->aB bq z.2 i=bY.mk 69 jP 1 nu) (λz=>(n-z.1).toNat) ⟨bH,cB,by simp only;exact dK _ ak,λi a b=>by simp only at b;omega⟩ ?_;rintro⟨k,c⟩ ⟨k0,k1,hc,hk⟩;simp only at k0 k1 hc hk ⊢;refine .ite (λh=>?_) λh=>?_
       . have h:k<n:=by simpa using h
         refine .chk ⟨k0,h⟩ (.chk bS (.ret ⟨⟨cB,cB,by simp only[jS];exact hc,λi a b=>?_⟩,cB⟩));simp only at b ⊢;rw[j5 ak a ak];split
         . rfl
         exact hk i a ak
       have h : ¬ k<n:=by simpa using h
       exact .ret ⟨c,rfl,hc,λi a b=>hk i a ak⟩
     . rintro o ⟨c,rfl,hc,hk⟩;refine .go (.chk ⟨v0,h⟩ (.ret ⟨_,rfl,⟨cB,cB,q1.dir,λi a b=>?_,λi a b=>?_⟩,hc⟩))
       . simp only at b ⊢;rw[hk i a ak];exact aoR
       simp only at b ⊢;unfold D8;rw[hk i a ak];exact⟨λh=>(by cases h),λh=>(by cases h)⟩
     rintro o ⟨x,rfl,hx,hxl⟩;refine .go (.chk bS (.ret ⟨⟨cB,cB,by simp only[jS];exact hl,λi a b=>?_⟩,cB⟩));simp only at b ⊢;rw[j5 ak a ak];split
     . exact⟨hx,hxl.trans hw⟩
     exact hg i a ak
   have h : ¬ v<ah (act s).fG.aK:=by simpa using h
   exact .ret ⟨l,rfl,hl,λi a b=>hg i a ak⟩
 rintro o ⟨l,rfl,hl,hq⟩;have p:=g.pos;have t:=g.top;have hR:=q.act.cur.reg.oU;refine .go (.call rfl (.bind _ (ahH (x:=av.mk (cZ.mk l) (aD.mk (act s).fC.fX (act s).fC.fY (act s).fC.dz false (act s).fC.bB (act s).fC.aF) (oU (act s).fR) (act s).fT (act s).fK (act s).dH (act s).bA) q.act.dir hR q.act.cur.pen q.act.cur.set q.act.tab q.act.tw (.of hq ak ak) (hl.trans q.act.h) (hq 0 ak ak).2 q.act.kept) λx hx=>.call (pF s x) (.ret (Vz q hx.1 ?_ ?_ hx.2.2 q.last))))
 . rw[hx.2.1];rfl
 rw[hx.2.1];rfl
theorem aru{r:bG}(h:M9 r):bG.mk (aY 1 (aP r.fH 1000)) (aY 1 (aP r.fW 4096)) 0 (aY 1 (aP r.fH 1000))=oU r:=by
 unfold oU;rw[Yq h.h.1 h.h.2,Yq h.w.1 h.w.2]
theorem aoS : ∀ s d a,je s->Yields (Bf s d a) (kJ s):=λs d a q=>by
 unfold Bf;obtain⟨m,em,qm⟩:=abQ;refine .call (rz s) (.bind _ (OZ _ _) λc hc=>.call em ?_);obtain⟨hc,hr⟩:=hc;rw[aru q.act.cur.reg] at hr;have hcw:jv c.1 (oU s.aI.fR):=by rw[hr,q.oU] at hc;exact hc
 have A:=q.act;have hx:jl (av.mk (act s).fG (aD.mk (act s).fC.fX (act s).fC.fY (act s).fC.dz false c.1.bB c.1.aF) c.2 (act s).fT (act s).fK (act s).dH (act s).bA):=by
  rw[hr];exact⟨A.dir,⟨A.cur.reg.oU,A.cur.x,A.cur.y,A.cur.wrap,λh=>(by cases h),hc.pen,hc.set⟩,A.tab,A.tw,A.grid,A.h,A.w,A.kept⟩
 have fin : ∀ sv,jv sv.x0 (oU s.aI.fR)->jv sv.x1 (oU s.aI.fR)->Yields (au (iY (ay.mk s.aI s.aM s.jA m sv s.iL s.fO s.fZ) (av.mk (act s).fG (aD.mk (act s).fC.fX (act s).fC.fY (act s).fC.dz false c.1.bB c.1.aF) c.2 (act s).fT (act s).fK (act s).dH (act s).bA)) λv4=>au (kN v4) λv5=>some v5) (kJ s):=λsv h0 h1=>by
  have q':je (ay.mk s.aI s.aM s.jA m sv s.iL s.fO s.fZ):=⟨q.main,q.other,qm,q.h,q.w,h0,h1,q.out,q.title,q.last⟩
  have k':kJ s (ay.mk s.aI s.aM s.jA m sv s.iL s.fO s.fZ):=⟨q',rfl,rfl,rfl,id⟩
  have k2:=Vz q' hx (by show c.2.fH=(act s).fR.fH;rw[hr];rfl) (by show c.2.fW=(act s).fR.fW;rw[hr];rfl) rfl q.last;exact .call (pF _ _) (.bind _ (Vy k2.1) λt ht=>.ret ((k'.trans k2).trans ht))
 cases hb:s.jA with
 | false=>
  refine .call (b:=0) (by unfold vL;simp only[hb];rfl) (.chk ak ?_);have:=fin (gQ.mk c.1 s.aC.x1) hcw q.s1;rw[hb] at this;exact this
 | true=>
  refine .call (b:=1) (by unfold vL;simp only[hb];rfl) (.chk ak ?_);have:=fin (gQ.mk s.aC.x0 c.1) q.s0 hcw;rw[hb] at this;exact this
end Go.Vx
end
section
namespace Go.Vx
set_option maxRecDepth 100000
def nM(f:FV):Prop:=∀ s d a,je s->M8 d->wQ a.cO->Yields (y8 f s d a) (kJ s)
theorem F6.a{f:FV}(h:F6 f):nM f:=λs d a q hd _=>(h s d a q hd).mono λ_ k=>k.k q
theorem ou{f:FV}(h:Dp f):Yields (iA f) nM:=(akH h).mono λ_ k=>k.a
theorem Ib{f:FV}(h:ahW f):Yields (mW f) nM:=(als h).mono λ_ k=>k.a
theorem Dq(a:Int)(r:Bool):Yields (kL a r) nM:=(ana a r).mono λ_ k=>k.a
theorem NZ(a:Int):Yields (mV a) nM:=(alr a).mono λ_ k=>k.a
theorem ahX{f:FV}(h:alu f):Yields (qQ f) nM:=(ahY h).mono λ_ k=>k.a
theorem GZ(dy dx:Int)(b:Bool)(h1 : -1<=dy/\dy<=1)(h2 : -1<=dx/\dx<=1):Yields (lH dy dx b) nM:=(arv dy dx b h1 h2).mono λ_ k=>k.a
theorem aag{f:FV}(h : ∀ s d a,je s->wQ a.cO->Yields (y8 f s d a) (Moved s)):nM f:=λs d a q _ hp=>(h s d a q hp).mono λ_ k=>k.k q
theorem asL:Dp (FV.nil 114):=λx n q n0 n1=>by
 show Yields (uI x n) _;unfold uI;exact .bind _ (anf q.cur _ _) λc hc=>.ret (OI q hc)
theorem asM:Dp (FV.nil 116):=λx n q n0 n1=>by
 show Yields (uJ x n) _;unfold uJ;exact .bind _ (alv q 1 ak) λc hc=>.ret hc
theorem asN:Dp (FV.nil 119):=λx n q n0 n1=>by
 show Yields (uK x n) _;unfold uK;exact .bind _ (aeN q) λc hc=>.ret hc
theorem ang:Dp (FV.nil 122):=λx n q n0 n1=>by
 show Yields (Fv x n) _;unfold Fv;exact .bind _ (aeO q) λc hc=>.ret hc
theorem anh:Dp (FV.nil 123):=λx n q n0 n1=>by
 show Yields (vM x n) _;unfold vM;exact .bind _ (aeO q) λc hc=>.bind _ (aeN hc.1) λe he=>.ret (hc.trans he)
theorem ani:Dp (FV.nil 125):=λx n q n0 n1=>by
 show Yields (Md x n) _;unfold Md;exact .bind _ (avs q) λc hc=>.ret hc
theorem asO:Dp (FV.nil 140):=λx n q n0 n1=>by
 show Yields (sI x n) _;unfold sI;exact .chk bS (.bind _ (alv q _ ak) λc hc=>.ret hc)
theorem asP:Dp (FV.nil 150):=λx n q n0 n1=>by
 show Yields (sJ x n) _;unfold sJ;exact .chk bS (.bind _ (ahZ q _ ak) λc hc=>.ret hc)
theorem asQ:Dp (FV.nil 117):=λx n q n0 n1=>alv q n ak
theorem asR:Dp (FV.nil 144):=λx n q n0 n1=>ah0 q n
theorem asT:Dp (FV.nil 145):=λx n q n0 n1=>ah1 q n
theorem asU:Dp (FV.nil 146):=λx n q n0 n1=>agX q n
theorem asV:Dp (FV.nil 147):=λx n q n0 n1=>agY q n
theorem asW:Dp (FV.nil 148):=λx n q n0 n1=>ah2 q n
theorem asX:Dp (FV.nil 149):=λx n q n0 n1=>ahZ q n ak
theorem anj:ahW (FV.nil 142):=λx n q=>abP q n
theorem ank:ahW (FV.nil 143):=λx n q=>ah3 q n
theorem asY:ahW (FV.nil 152):=λx n q=>aoG q n
theorem asZ:alu (FV.nil 134):=λc r n q n0 n1=>as0 q n0 n1
theorem as1:alu (FV.nil 137):=λc r n q n0 n1=>as2 q n0 n1
theorem as3:ahS (FV.nil 158):=λs q=>.ret qZ
theorem as4:ahS (FV.nil 163):=λs q=>.ret qZ
theorem as5:ahS (FV.nil 160):=λs q=>by
 show Yields (xD s) _;unfold xD;have e1:bn (⟨#[27,91,63]⟩:ByteArray)=3:=rfl;refine .bind _ (akG q) λw hw=>?_;have w0:=zi w;exact .chk bS (.ret (by rw[Gu];omega))
theorem alx:nM (FV.nil 118):=aag λs d a q _=>asE s d a q
theorem aqo:nM (FV.nil 124):=aag λs d a q _=>asF s d a q
theorem aqp:nM (FV.nil 129):=λs d a q _ _=>.of (aeR s d a) (ahL q)
theorem aqr:nM (FV.nil 130):=λs d a q _ _=>.of (VB s d a) (Yp q)
theorem avt:nM (FV.nil 131):=λs d a q _ _=>aro s d a q
theorem avu:nM (FV.nil 132):=λs d a q _ _=>asK s d a q
theorem aqs:nM (FV.nil 139):=aag λs d a q _=>arw s d a q
theorem avv:nM (FV.nil 151):=λs d a q hd _=>aoI s d a q hd
theorem avw:nM (FV.nil 153):=aag λs d a q hp=>asI s d a q hp.len
theorem avx:nM (FV.nil 154):=λs d a q _ _=>anb s d a q
theorem avy:nM (FV.nil 156):=λs d a q _ _=>aoP s d a q
theorem avz:nM (FV.nil 164):=λs d a q _ _=>aoS s d a q
theorem avA:nM (FV.nil 165):=λs d a q _ _=>aoH s d a q
theorem abg(on:Bool):Yields (vN on) nM:=⟨_,rfl,λs d a q _ hp=>aj3 on s d a q hp.len⟩
theorem abh(on:Bool):Yields (vO on) nM:=⟨_,rfl,λs d a q _ hp=>aj4 on s d a q hp.len⟩
theorem abR(k:Int){f:FV}(h:ahS f):Yields (wV k f) nM:=⟨_,rfl,λs d a q _ _=>aoQ h k s d a q⟩
theorem abj(p:Bool)(mark:ByteArray)(hm:bn mark<=10):Yields (vP p mark) nM:=⟨_,rfl,λs d a q _ hp=>aj5 p mark hm s d a q hp⟩
def ah4(l:List aL):Prop:=ah l<=1000/\aeT (λx=>nM x.fdo) l
theorem aly:Yields tT ah4:=by
 unfold tT;exact .bind _ (ou asL) λv h0=>.bind _ (ou asM) λv1 h1=>.bind _ (ou asN) λv2 h2=>.bind _ (Dq 1 false) λv3 h3=>.bind _ (Dq 0 false) λv4 h4=>.bind _ (ou ang) λv5 h5=>.bind _ (ou anh) λv6 h6=>.bind _ (ou ani) λv7 h7=>.bind _ (NZ 2) λv8 h8=>.bind _ (NZ 3) λv9 h9=>.ret ⟨by show((14:Nat):Int)<=1000;omega,h0,h1,alx,alx,alx,h2,h3,h4,h5,h6,aqo,h7,h8,h9,trivial⟩
theorem anl:Yields vv ah4:=by
 unfold vv;exact .bind _ (ou ang) λv h0=>.bind _ (ou anh) λv1 h1=>.bind _ (ou ani) λv2 h2=>.bind _ (Dq 2 false) λv3 h3=>.bind _ (Dq 3 false) λv4 h4=>.bind _ (Dq 1 true) λv5 h5=>.bind _ (Dq 2 true) λv6 h6=>.bind _ (Dq 3 true) λv7 h7=>.bind _ (NZ 2) λv8 h8=>.bind _ (NZ 3) λv9 h9=>.ret ⟨by show((15:Nat):Int)<=1000;omega,aqp,aqr,h0,h1,h2,aqo,avt,h3,h4,h5,h6,h7,h8,h9,avu,trivial⟩
theorem aj6:Yields vQ ah4:=by
 unfold vQ;exact .bind _ (ahX asZ) λv h0=>.bind _ (GZ (-1) 0 false ak ak) λv1 h1=>.bind _ (GZ 1 0 false ak ak) λv2 h2=>.bind _ (GZ 0 1 false ak ak) λv3 h3=>.bind _ (GZ 0 (-1) false ak ak) λv4 h4=>.bind _ (GZ 0 1 false ak ak) λv3 h5=>.bind _ (GZ 1 0 false ak ak) λv2 h6=>.bind _ (GZ 1 0 true ak ak) λv5 h7=>.bind _ (GZ (-1) 0 true ak ak) λv6 h8=>.bind _ (ahX as1) λv7 h9=>.bind _ (ou asQ) λv8 h10=>.bind _ (ou asO) λv9 h11=>.bind _ (Ib anj) λv10 h12=>.bind _ (Ib ank) λv11 h13=>.bind _ (ou asR) λv12 Yr=>.bind _ (ou asT) λv13 h15=>.bind _ (ou asU) λv14 h16=>.bind _ (ou asV) λv15 h17=>.bind _ (ou asW) λv16 h18=>.bind _ (ou asX) λv17 h19=>.bind _ (ou asP) λv18 h20=>.bind _ (Ib asY) λv19 h21=>.bind _ (abg true) λv20 h22=>.bind _ (abg false) λv21 h23=>.bind _ (abR 0 as3) λv22 h24=>.ret ⟨by show((34:Nat):Int)<=1000;omega,h1,h6,h5,h4,h5,h6,h7,h8,h0,h0,h9,aqs,aqs,h10,h11,h12,h13,Yr,h15,h16,h17,h18,h19,h20,avv,h21,avw,avx,aqp,aqr,h22,h23,avy,h24,trivial⟩
theorem aoT:Yields Bg ah4:=by
 unfold Bg;exact .bind _ (abh true) λv h0=>.bind _ (abh false) λv1 h1=>.bind _ (Ib anj) λv2 h2=>.bind _ (Ib ank) λv3 h3=>.bind _ (abR 6 as5) λv4 h4=>.bind _ (abj true (⟨#[63]⟩:ByteArray) qZ) λv5 h5=>.bind _ (abj false (⟨#[]⟩:ByteArray) qZ) λv6 h6=>.bind _ (abR 0 as4) λv7 h7=>.ret ⟨by show((10:Nat):Int)<=1000;omega,h0,h1,h2,h3,h4,h5,h6,h7,avz,avA,trivial⟩
theorem aah{l:List aL}(h:ah4 l)(inter:ByteArray)(final:Int):Yields (oG l inter final) nM:=(as6 h.1 h.2 inter final).mono λf hf=>by
 rcases hf with hf|⟨x,hx,_,_,rfl⟩
 . exact hf.m.a
 exact hx
theorem ayo{s:ay}(q:je s){d:bL}(hd:M8 d)(a:aG)(ha:wQ a.cO):Yields (sM s d a) (kJ s):=by
 unfold sM;refine .cut (λo=>o = .go ()) (.call q.ok (.ite (λh=>by cases h) λ_=>.ret rfl)) ?_;rintro o rfl;refine .go (.cut (λo=>o = .go ()\/∃ t,o = .out t/\kJ s t) ?_ ?_)
 . refine .ite (λ_=>?_) λ_=>.ite (λ_=>?_) λ_=>.ite (λ_=>?_) λ_=>.ite (λ_=>?_) λ_=>.ite (λ_=>?_) λ_=>.ret (.inl rfl)
   . refine .call (rz s) (.bind _ (avB q.act.cur.set a.fR) λc hc=>?_);have h1:=Moved.of q (aeM q.act hc);exact .call (pF s _) (.bind _ (ahJ (h1.q q) c.2 (hd c.2)) λt ht=>.ret (.inr ⟨t,rfl,(h1.trans ht).k q⟩))
   . exact .bind _ aly λl hl=>.bind _ (aah hl _ _) λf hf=>.bind _ (hf s d a q hd ha) λt ht=>.ret (.inr ⟨t,rfl,ht⟩)
   . refine .cut (λo=>o = .go ()\/∃ t,o = .out (.out t)/\kJ s t) (.ite (λh=>.chk ?_ (.bind (λ_=>True) ⟨_,rfl,trivial⟩ λv _=>.ite (λ_=>.bind _ (aj2 s q v a.O3) λt ht=>.ret (.inr ⟨t,rfl,ht.k q⟩)) λ_=>.ret (.inl rfl))) λ_=>.ret (.inl rfl)) ?_
     . have h:bn a.dS=1:=by simpa using h
       omega
     rintro o (rfl|⟨t,rfl,ht⟩)
     . exact .go (.bind _ anl λl hl=>.bind _ (aah hl _ _) λf hf=>.bind _ (hf s d a q hd ha) λt ht=>.ret (.inr ⟨t,rfl,ht⟩))
     exact .out (.inr ⟨t,rfl,ht⟩)
   . refine .cut (λo=>o = .go ()\/∃ t,o = .out (.out t)/\kJ s t) (.ite (λh=>.bind _ aj6 λl hl=>.bind _ (aah hl _ _) λf hf=>.bind _ (hf s d a q hd ha) λt ht=>.ret (.inr ⟨t,rfl,ht⟩)) λ_=>.ret (.inl rfl)) ?_;rintro o (rfl|⟨t,rfl,ht⟩)
     . exact .go (.bind _ aoT λl hl=>.bind _ (aah hl _ _) λf hf=>.bind _ (hf s d a q hd ha) λt ht=>.ret (.inr ⟨t,rfl,ht⟩))
     exact .out (.inr ⟨t,rfl,ht⟩)
   exact .bind _ (ars s q a.fText) λt ht=>.ret (.inr ⟨t,rfl,ht⟩)
 rintro o (rfl|⟨t,rfl,ht⟩)
 . exact .go (.ret (kJ.refl q))
 exact .out ht
end Go.Vx
end
