/- Rows that may be: what their cells are. No conditions. -/
import Derived.Test.YtmpgicplgjmjkaaGreatDoorVxHoare
import Derived.Test.YtmpgicplgjmjkaaGreatDoorTLift
set_option linter.all false
section
namespace Go.Vx
set_option maxRecDepth 100000
def ayp(c:bY):Prop:=0<=c.fR/\c.fR<=1114111/\(c.fW=0/\c.fR=0\/c.fW=1\/c.fW=2)
theorem TJ{α:Type}{c:Bool}{x y:Option α}{Q:α->Prop}(hx:c=true->Yields x Q)(hy:c=false->Yields y Q):Yields (if c=true then x else y) Q:=by
 cases c with
 | true=>exact hx rfl
 | false=>exact hy rfl
def D8(l:List bY)(i:Int):Prop :=
 ((aB bq l i).fW=0->0<i/\(aB bq l (i-1)).fW=2)/\((aB bq l i).fW=2->i+1<ah l/\(aB bq l (i+1)).fW=0)
structure aBa (r:aR):Prop where
 pos:1<=ah r.aN
 top:ah r.aN<=4096
 dir:0<=r.dH/\r.dH<=2
 fit : ∀ i,0<=i->i<ah r.aN->ayp (aB bq r.aN i)
 pair : ∀ i,0<=i->i<ah r.aN->D8 r.aN i
end Go.Vx
end
section
namespace Go.Vx
set_option maxRecDepth 100000
def Tot{α:Type}(o:Option α):Prop:=∃ r,o=some r
theorem Tot.of{α:Type}{o:Option α}{Q:α->Prop}(h:Yields o Q):Tot o:=⟨_,h.choose_spec.1⟩
theorem Tot.yields{α:Type}{o:Option α}(h:Tot o):Yields o (λ_=>True):=⟨_,h.choose_spec,trivial⟩
theorem Tot.ret{α:Type}{v:α} : Tot (some v):=⟨v,rfl⟩
theorem Tot.bind{α β:Type}{o:Option β}{k:β->Option α}(h:Tot o)(hk : ∀ b,Tot (k b)):Tot (au o k):=by
 obtain⟨b,hb⟩:=h;obtain⟨r,hr⟩:=hk b;exact⟨r,by rw[hb];exact hr⟩
theorem Tot.cut{β γ:Type}{A:Option (Fl β γ)}{k:β->Option γ}(h:Tot A)(hk : ∀ b,Tot (k b)):Tot (aO A k):=by
 obtain⟨f,hf⟩:=h;cases f with
 | go b=>
  obtain⟨r,hr⟩:=hk b;exact⟨r,by rw[hf];exact hr⟩
 | out r=>exact⟨r,by rw[hf];rfl⟩
theorem Tot.ite{α:Type}{c:Bool}{x y:Option α}(hx:c=true->Tot x)(hy:c=false->Tot y):Tot (aA c x y):=by
 cases c with
 | true=>exact hx rfl
 | false=>exact hy rfl
theorem Tot.any{α:Type}{c:Bool}{x y:Option α}(hx:c=true->Tot x)(hy:c=false->Tot y):Tot (if c=true then x else y):=by
 cases c with
 | true=>exact hx rfl
 | false=>exact hy rfl
theorem Tot.chk{α:Type}{c:Prop}[Decidable c]{k:Option α}(h:c)(hk:Tot k):Tot (chk c k):=by
 obtain⟨r,hr⟩:=hk;exact⟨r,by rw[anA h];exact hr⟩
end Go.Vx
end
section
namespace Go.Vx
set_option maxRecDepth 100000
abbrev Says(o:Option Bool)(P:Prop):Prop:=Yields o (λb=>b=true↔P)
theorem Says.ok{o:Option Bool}{P:Prop}(h:Says o P)(p:P):o=some true:=by
 obtain⟨b,h1,h2⟩:=h;rw[h1,h2.2 p]
theorem Says.got{o:Option Bool}{P:Prop}(h:Says o P)(e:o=some true):P:=by
 obtain⟨b,h1,h2⟩:=h;rw[h1] at e;cases e;exact h2.1 rfl
theorem Yields.guard{c:Bool}{x:Option Bool}{P:Prop}(h:c=true->Says x P):Yields (if c=true then x else some false) (λz=>z=true↔(c=true/\P)):=by
 cases c with
 | true=>exact(h rfl).mono λr hr=>by simpa using hr
 | false=>exact⟨false,rfl,bH⟩
theorem Yields.no{P:Prop}(h : ¬ P):Says (some false) P:=⟨false,rfl,by simp[h]⟩
theorem Yields.yes{P:Prop}(h:P):Says (some true) P:=⟨true,rfl,by simp[h]⟩
def QK{γ:Type}(A:Prop)(o:Fl Unit γ)(bad:γ):Prop:=o = .go ()/\A\/o = .out bad/\¬ A
def wP(c:Int):Prop:=0<=c/\c<=256\/16777216<=c/\c<33554432
structure mE (p:bU):Prop where
 fg:wP p.jy
 bg:wP p.jq
 fl:0<=p.dI/\p.dI<=511
theorem ao4{p:bU} : mE p↔wP p.jy/\wP p.jq/\0<=p.dI/\p.dI<=511:=⟨λh=>⟨h.fg,h.bg,h.fl⟩,λh=>⟨h.1,h.2.1,h.2.2⟩⟩
theorem aii(c:Int):Says (Dv c) (wP c):=⟨_,rfl,by unfold wP;grind⟩
theorem O0(p:bU):Says (Ad p) (mE p):=by
 unfold Ad;refine .bind _ (aii _) λv hv=>.bind _ (.guard λ_=>aii _) λw hw=>.ret ?_;rw[ao4];grind
def SetB(f:Int):Prop:=f=66\/f=48\/f=65
structure zW (s:bQ):Prop where
 g:SetB s.fG.x0/\SetB s.fG.x1/\SetB s.fG.x2/\SetB s.fG.x3
 gl:0<=s.jF/\s.jF<=3
 gr:0<=s.jk/\s.jk<=3
 once:s.eO=0\/s.eO=2\/s.eO=3
theorem ao5{s:bQ} : zW s↔(SetB s.fG.x0/\SetB s.fG.x1/\SetB s.fG.x2/\SetB s.fG.x3)/\(0<=s.jF/\s.jF<=3)/\(0<=s.jk/\s.jk<=3)/\(s.eO=0\/s.eO=2\/s.eO=3) :=
 ⟨λh=>⟨h.g,h.gl,h.gr,h.once⟩,λh=>⟨h.1,h.2.1,h.2.2.1,h.2.2.2⟩⟩
theorem MG(f:Int):Says (qU f) (SetB f):=⟨_,rfl,by unfold SetB;grind⟩
theorem QK.test{γ δ:Type}{o:Option Bool}{P:Prop}{c:Prop}[Decidable c]{bad:γ}{M:Fl Unit (Fl δ γ)->Prop}(h:Says o P)(hc:c)(hg:P->M (.go ()))(hb : ¬ P->M (.out (.out bad))) :
  Yields (au o λv=>aA (!v) (some (.out (.out bad))) (chk c (some (.go ())))) M:=by
 refine .bind _ h λv hv=>.ite (λe=>.ret (hb λp=>?_)) (λe=>.chk hc (.ret (hg (hv.1 ?_))))
 . rw[hv.2 p] at e;cases e
 cases v<;>simp at e ⊢
theorem O9(s:bQ):Says (qb s) (zW s):=by
 unfold qb;have h1 : ∀ k:Int,0<=k->k<=4->aU .i64 (k+1):=λk _ _=>bS;refine .cut (λo=>QK (SetB s.fG.x0/\SetB s.fG.x1/\SetB s.fG.x2/\SetB s.fG.x3) o false) ?_ ?_
 . refine .cut (λo=>o = .go ()/\SetB s.fG.x0\/o = .out (.out false)/\¬ SetB s.fG.x0) (QK.test (MG _) (h1 _ ak ak) (λp=>.inl ⟨rfl,p⟩) (λp=>.inr ⟨rfl,p⟩)) ?_;rintro o (⟨rfl,p0⟩|⟨rfl,p0⟩)
   . refine .go (.cut (λo=>o = .go ()/\SetB s.fG.x1\/o = .out (.out false)/\¬ SetB s.fG.x1) (QK.test (MG _) (h1 _ ak ak) (λp=>.inl ⟨rfl,p⟩) (λp=>.inr ⟨rfl,p⟩)) ?_);rintro o (⟨rfl,p1⟩|⟨rfl,p1⟩)
     . refine .go (.cut (λo=>o = .go ()/\SetB s.fG.x2\/o = .out (.out false)/\¬ SetB s.fG.x2) (QK.test (MG _) (h1 _ ak ak) (λp=>.inl ⟨rfl,p⟩) (λp=>.inr ⟨rfl,p⟩)) ?_);rintro o (⟨rfl,p2⟩|⟨rfl,p2⟩)
       . refine .go (.cut (λo=>o = .go ()/\SetB s.fG.x3\/o = .out (.out false)/\¬ SetB s.fG.x3) (QK.test (MG _) (h1 _ ak ak) (λp=>.inl ⟨rfl,p⟩) (λp=>.inr ⟨rfl,p⟩)) ?_);rintro o (⟨rfl,p3⟩|⟨rfl,p3⟩)
         . exact .go (.ret (.inl ⟨rfl,p0,p1,p2,p3⟩))
         exact .out (.inr ⟨rfl,λh=>p3 h.2.2.2⟩)
       exact .out (.inr ⟨rfl,λh=>p2 h.2.2.1⟩)
     exact .out (.inr ⟨rfl,λh=>p1 h.2.1⟩)
   exact .out (.inr ⟨rfl,λh=>p0 h.1⟩)
 rintro o (⟨rfl,p⟩|⟨rfl,p⟩)
 . refine .go ?_;have pl : ∀ w:Int,Says (mX w) (0<=w/\w<=3):=λw=>⟨_,rfl,by grind⟩
   have sh : ∀ w:Int,Says (tY w) (w=2\/w=3):=λw=>⟨_,rfl,by grind⟩
   refine .bind _ (pl _) λv hv=>.bind _ (.guard λ_=>pl _) λw hw=>.bind _ (.guard λ_=>sh _) λu hu=>.ret ?_;rw[ao5];grind
 exact .out ⟨λh=>(by cases h),λh=>absurd h.g p⟩
structure M9 (r:bG):Prop where
 h:1<=r.fH/\r.fH<=1000
 w:1<=r.fW/\r.fW<=4096
 t:0<=r.gJ/\r.gJ<r.dw/\r.dw<=r.fH
theorem ao6(r:bG):Says (Bn r) (M9 r):=by
 have e:M9 r↔(1<=r.fH/\r.fH<=1000)/\(1<=r.fW/\r.fW<=4096)/\(0<=r.gJ/\r.gJ<r.dw/\r.dw<=r.fH):=⟨λh=>⟨h.h,h.w,h.t⟩,λh=>⟨h.1,h.2.1,h.2.2⟩⟩
 unfold Bn;rw[e];exact .ite (λh=>.no (by grind)) (λh=>⟨_,rfl,by grind⟩)
structure jv (c:aD) (r:bG):Prop where
 reg:M9 r
 x:0<=c.fX/\c.fX<r.fW
 y:0<=c.fY/\c.fY<r.fH
 wrap:c.dz=true->c.fX=r.fW-1
 org:c.bO=true->r.gJ<=c.fY/\c.fY<r.dw
 pen:mE c.bB
 set:zW c.aF
theorem Dl(c:aD)(r:bG):Says (nI c r) (jv c r):=by
 have e:jv c r↔M9 r/\(0<=c.fX/\c.fX<r.fW)/\(0<=c.fY/\c.fY<r.fH)/\(c.dz=true->c.fX=r.fW-1)/\(c.bO=true->r.gJ<=c.fY/\c.fY<r.dw)/\mE c.bB/\zW c.aF :=
  ⟨λh=>⟨h.reg,h.x,h.y,h.wrap,h.org,h.pen,h.set⟩,λh=>⟨h.1,h.2.1,h.2.2.1,h.2.2.2.1,h.2.2.2.2.1,h.2.2.2.2.2.1,h.2.2.2.2.2.2⟩⟩
 unfold nI;rw[e];refine .bind _ (ao6 r) λv hv=>.ite (λh=>.no (by grind)) (λh=>?_);have hr:M9 r:=by grind
 have hw:=hr.w;have ins:Says (wX c r) (r.gJ<=c.fY/\c.fY<r.dw):=⟨_,rfl,by grind⟩
 refine .chk (λ_=>bS) (.bind _ (.guard λ_=>ins) λw hw=>.ite (λh=>.no (by grind)) (λh=>.bind _ (O0 _) λa ha=>.bind _ (.guard λ_=>O9 _) λb hb=>.ret (by grind)))
def F7(c:bY):Prop:=(0<=c.fM.x0/\c.fM.x0<=1114111/\(c.fM.x0≠0->c.fR≠0))/\(0<=c.fM.x1/\c.fM.x1<=1114111/\(c.fM.x1≠0->c.fR≠0))/\(0<=c.fR/\c.fR<=1114111)/\(c.fM.x0=0->c.fM.x1=0)/\mE c.bB/\(c.fW=0/\c.fR=0\/c.fW=1\/c.fW=2/\c.fR≠0)
theorem agf(c:bY):Says (J7 c) (F7 c):=by
 unfold J7;refine .cut (λo=>QK ((0<=c.fM.x0/\c.fM.x0<=1114111/\(c.fM.x0≠0->c.fR≠0))/\(0<=c.fM.x1/\c.fM.x1<=1114111/\(c.fM.x1≠0->c.fR≠0))) o false) ?_ ?_
 . refine .cut (λo=>o = .go ()/\(0<=c.fM.x0/\c.fM.x0<=1114111/\(c.fM.x0≠0->c.fR≠0))\/o = .out (.out false)/\¬ (0<=c.fM.x0/\c.fM.x0<=1114111/\(c.fM.x0≠0->c.fR≠0))) (.ite (λh=>.ret (.inr ⟨rfl,by grind⟩)) (λh=>.chk bS (.ret (.inl ⟨rfl,by grind⟩)))) ?_;rintro o (⟨rfl,p⟩|⟨rfl,p⟩)
   . refine .go (.cut (λo=>o = .go ()/\(0<=c.fM.x1/\c.fM.x1<=1114111/\(c.fM.x1≠0->c.fR≠0))\/o = .out (.out false)/\¬ (0<=c.fM.x1/\c.fM.x1<=1114111/\(c.fM.x1≠0->c.fR≠0))) (.ite (λh=>.ret (.inr ⟨rfl,by grind⟩)) (λh=>.chk bS (.ret (.inl ⟨rfl,by grind⟩)))) ?_);rintro o (⟨rfl,q⟩|⟨rfl,q⟩)
     . exact .go (.ret (.inl ⟨rfl,p,q⟩))
     exact .out (.inr ⟨rfl,λh=>q h.2⟩)
   exact .out (.inr ⟨rfl,λh=>p h.1⟩)
 unfold F7;rintro o (⟨rfl,p⟩|⟨rfl,p⟩)
 . refine .go (.bind _ (.guard λ_=>O0 _) λv hv=>.ite (λh=>.no (by grind)) (λh=>.ite (λh0=>⟨_,rfl,by grind⟩) λh0=>.ite (λh1=>.yes (by grind)) λh1=>.ite (λh2=>⟨_,rfl,by grind⟩) λh2=>.no (by grind)))
 exact .out ⟨λh=>(by cases h),λh=>absurd ⟨h.1,h.2.1⟩ p⟩
theorem agh{l:List bY}{i:Int}(h0:0<=i)(h1:i<ah l)(hb:ah l<=100000):Says (J8 l i) (¬ D8 l i):=by
 unfold J8 D8;refine .chk ⟨h0,h1⟩ (.ite (λhw=>?_) (λhw=>.ite (λhw2=>?_) (λhw2=>.no (by grind))))
 . refine .chk (λ_=>bS) (.chk (λh=>?_) ⟨_,rfl,?_⟩)
   . have:i≠0:=by simpa using h
     omega
   have hw:(aB bq l i).fW=0:=by simpa using hw
   by_cases hi:i=0
   . subst hi;simp[hw]
   simp[hi,hw];omega
 have hw:(aB bq l i).fW=2:=by simpa using hw2
 refine .chk bS (.chk (λ_=>bS) (.chk (λh=>?_) ⟨_,rfl,?_⟩))
 . have:i+1≠ah l:=by simpa using h
   omega
 by_cases hi:i+1=ah l
 . simp[hi,hw]
 simp[hi,hw];omega
structure mF (r:aR):Prop where
 pos:1<=ah r.aN
 top:ah r.aN<=4096
 dir:0<=r.dH/\r.dH<=2
 fit : ∀ i,0<=i->i<ah r.aN->F7 (aB bq r.aN i)
 pair : ∀ i,0<=i->i<ah r.aN->D8 r.aN i
theorem xH(r:aR):Says (qc r) (mF r):=by
 unfold qc;refine .ite (λh=>.no (λq=>?_)) (λh=>?_)
 . have:=q.pos;have:=q.top;have:=q.dir;grind
 have hh:1<=ah r.aN/\ah r.aN<=4096/\0<=r.dH/\r.dH<=2:=by grind
 obtain⟨p1,p2,p3,p4⟩:=hh;refine .cut (λo=>QK (mF r) o false) ?_ ?_
 . refine .loop (λv=>0<=v/\v<=ah r.aN/\∀ i,0<=i->i<v->F7 (aB bq r.aN i)/\D8 r.aN i) (λv=>(ah r.aN-v).toNat) ⟨ak,ak,λi a b=>by omega⟩ ?_;rintro v ⟨v0,v1,hv⟩;refine .ite (λh=>?_) (λh=>?_)
   . have h:v<ah r.aN:=by simpa using h
     refine .chk ⟨v0,h⟩ (.bind _ (agf _) λb hb=>.bind _ (.guard λ_=>agh v0 h ak) λz hz=>.ite (λhc=>.ret (.inr ⟨rfl,λq=>?_⟩)) (λhc=>.chk bS (.ret ⟨⟨ak,ak,λi a c=>?_⟩,by show(_-_:Int).toNat<(_-_:Int).toNat;omega⟩)))
     . have h1:=q.fit v v0 h;have h2:=q.pair v v0 h;grind
     by_cases e:i=v
     . subst e;grind
     exact hv i a ak
   have h : ¬ v<ah r.aN:=by simpa using h
   exact .ret (.inl ⟨rfl,p1,p2,⟨p3,p4⟩,λi a c=>(hv i a ak).1,λi a c=>(hv i a ak).2⟩)
 rintro o (⟨rfl,h⟩|⟨rfl,h⟩)
 . exact .go (.yes h)
 exact .out ⟨λh=>(by cases h),λq=>absurd q h⟩
structure nW (g:cZ):Prop where
 pos:1<=ah g.aK
 top:ah g.aK<=1000
 wid : ∀ i,0<=i->i<ah g.aK->ah (aB aH g.aK i).aN=ah (aB aH g.aK 0).aN
 row : ∀ i,0<=i->i<ah g.aK->mF (aB aH g.aK i)
theorem Yx(g:cZ):Says (zQ g) (nW g):=by
 unfold zQ;refine .ite (λh=>.no (λq=>?_)) (λh=>?_)
 . have:=q.pos;have:=q.top;grind
 have hh:1<=ah g.aK/\ah g.aK<=1000:=by grind
 obtain⟨p1,p2⟩:=hh;refine .cut (λo=>QK (nW g) o false) ?_ ?_
 . refine .loop (λv=>0<=v/\v<=ah g.aK/\∀ i,0<=i->i<v->ah (aB aH g.aK i).aN=ah (aB aH g.aK 0).aN/\mF (aB aH g.aK i)) (λv=>(ah g.aK-v).toNat) ⟨ak,ak,λi a b=>by omega⟩ ?_;rintro v ⟨v0,v1,hv⟩;refine .ite (λh=>?_) (λh=>?_)
   . have h:v<ah g.aK:=by simpa using h
     refine .chk ⟨v0,h⟩ (.chk ⟨ak,ak⟩ (.bind _ (.guard λ_=>xH _) λz hz=>.ite (λhc=>.ret (.inr ⟨rfl,λq=>?_⟩)) (λhc=>.chk bS (.ret ⟨⟨ak,ak,λi a c=>?_⟩,by show(_-_:Int).toNat<(_-_:Int).toNat;omega⟩))))
     . have h1:=q.wid v v0 h;have h2:=q.row v v0 h;grind
     by_cases e:i=v
     . subst e;grind
     exact hv i a ak
   have h : ¬ v<ah g.aK:=by simpa using h
   exact .ret (.inl ⟨rfl,p1,p2,λi a c=>(hv i a ak).1,λi a c=>(hv i a ak).2⟩)
 rintro o (⟨rfl,h⟩|⟨rfl,h⟩)
 . exact .go (.yes h)
 exact .out ⟨λh=>(by cases h),λq=>absurd q h⟩
structure NY (k:gI):Prop where
 cap:0<=k.iw/\k.iw<=200
 len:ah k.aK<=k.iw
 row : ∀ i,0<=i->i<ah k.aK->mF (aB aH k.aK i)
theorem agi(k:gI):Says (vU k) (NY k):=by
 unfold vU;have hn:=bW k.aK;refine .ite (λh=>.no (λq=>?_)) (λh=>?_)
 . have:=q.cap;have:=q.len;grind
 have hh:0<=k.iw/\k.iw<=200/\ah k.aK<=k.iw:=by grind
 obtain⟨p1,p2,p3⟩:=hh;refine .cut (λo=>QK (NY k) o false) ?_ ?_
 . refine .loop (λv=>0<=v/\v<=ah k.aK/\∀ i,0<=i->i<v->mF (aB aH k.aK i)) (λv=>(ah k.aK-v).toNat) ⟨ak,ak,λi a b=>by omega⟩ ?_;rintro v ⟨v0,v1,hv⟩;refine .ite (λh=>?_) (λh=>?_)
   . have h:v<ah k.aK:=by simpa using h
     refine .chk ⟨v0,h⟩ (.bind _ (xH _) λz hz=>.ite (λhc=>.ret (.inr ⟨rfl,λq=>?_⟩)) (λhc=>.chk bS (.ret ⟨⟨ak,ak,λi a c=>?_⟩,by show(_-_:Int).toNat<(_-_:Int).toNat;omega⟩)))
     . have h2:=q.row v v0 h;grind
     by_cases e:i=v
     . subst e;grind
     exact hv i a ak
   have h : ¬ v<ah k.aK:=by simpa using h
   exact .ret (.inl ⟨rfl,⟨p1,p2⟩,p3,λi a c=>hv i a ak⟩)
 rintro o (⟨rfl,h⟩|⟨rfl,h⟩)
 . exact .go (.yes h)
 exact .out ⟨λh=>(by cases h),λq=>absurd q h⟩
structure y7 (s:dJ):Prop where
 w:1<=s.fW/\s.fW<=4096
 low : ∀ i,0<=i->i<ah s.fL->0<=aB 0 s.fL i/\aB 0 s.fL i<s.fW
 up : ∀ i,0<=i->i+1<ah s.fL->aB 0 s.fL i<aB 0 s.fL (i+1)
theorem y7.len{s:dJ}(q:y7 s):ah s.fL<=s.fW:=by
 have key : ∀ n:Nat,(n:Int)<ah s.fL->(n:Int)<=aB 0 s.fL n:=by
  intro n
  induction n with
  | zero=>intro h;exact(q.low 0 ak h).1
  | succ n ih=>
   intro h;have h1:=ih ak;have h2:=q.up n ak ak;have:((n+1:Nat):Int)=(n:Int)+1:=ak;rw[this];omega
 have hn:=bW s.fL
 by_cases h:ah s.fL=0
 . have:=q.w;omega
 have h1:=key (ah s.fL-1).toNat ak;have h2:=q.low ((ah s.fL-1).toNat:Int) ak ak;omega
theorem J4(s:dJ):Says (vg s) (y7 s):=by
 unfold vg;have hn:=bW s.fL;refine .ite (λh=>.no (λq=>?_)) (λh=>?_)
 . have:=q.w;grind
 have hh:1<=s.fW/\s.fW<=4096:=by grind
 refine .cut (λo=>QK (y7 s) o false) ?_ ?_
 . refine .loop (λp=>0<=p.2/\p.2<=ah s.fL/\(-1<=p.1/\p.2<=p.1+1/\p.1<=4096)/\(p.2=0->p.1 = -1)/\(0<p.2->p.1=aB 0 s.fL (p.2-1))/\(∀ i,0<=i->i<p.2->0<=aB 0 s.fL i/\aB 0 s.fL i<s.fW)/\∀ i,0<=i->i+1<p.2->aB 0 s.fL i<aB 0 s.fL (i+1)) (λp=>(ah s.fL-p.2).toNat) ⟨bH,by simpa using hn,bH,bH,bH,by intro i a b;simp at b;omega,by intro i a b;simp at b;omega⟩ ?_;rintro⟨a,v⟩ ⟨v0,v1,a0,a1,a2,hv,hu⟩;simp only at v0 v1 a0 a1 a2 hv hu ⊢;refine .ite (λh=>?_) (λh=>?_)
   . have h:v<ah s.fL:=by simpa using h
     refine .chk ⟨v0,h⟩ (.ite (λhc=>.ret (.inr ⟨rfl,λq=>?_⟩)) (λhc=>.chk bS (.ret ⟨⟨cB,cB,?_,?_,?_,λi c d=>?_,λi c d=>?_⟩,cB⟩)))
     . have q1:=q.low v v0 h
       by_cases hz:v=0
       . have:=a1 hz;grind
       have q2:=q.up (v-1) ak ak;have e:v-1+1=v:=ak;rw[e] at q2;have:=a2 ak;grind
     . simp only;grind
     . simp only;intro hz;omega
     . simp only;intro _;congr 1;omega
     . simp only at d
       by_cases e:i=v
       . subst e;grind
       exact hv i c ak
     simp only at d
     by_cases e:i+1=v
     . have:=a2 ak;have e2:v-1=i:=ak;rw[e2] at this;rw[e,← this];grind
     exact hu i c ak
   have h : ¬ v<ah s.fL:=by simpa using h
   exact .ret (.inl ⟨rfl,hh,λi c d=>hv i c ak,λi c d=>hu i c ak⟩)
 rintro o (⟨rfl,h⟩|⟨rfl,h⟩)
 . exact .go (.yes h)
 exact .out ⟨λh=>(by cases h),λq=>absurd q h⟩
structure jl (s:av):Prop where
 dir:0<=s.dH/\s.dH<=2
 cur:jv s.fC s.fR
 tab:y7 s.fT
 tw:s.fT.fW=s.fR.fW
 grid:nW s.fG
 h:ah s.fG.aK=s.fR.fH
 w:ah (aB aH s.fG.aK 0).aN=s.fR.fW
 kept:NY s.fK
theorem aj7(g:cZ):Yields (MH g) (λv=>(nW g/\v=(ah g.aK,ah (aB aH g.aK 0).aN))\/(¬ nW g/\v=(0,0))):=by
 unfold MH;refine .bind _ (Yx g) λv hv=>.ite (λh=>.ret (.inr ⟨λq=>?_,rfl⟩)) (λh=>?_)
 . rw[hv.2 q] at h;cases h
 have q:nW g:=hv.1 (by cases v<;>simp at h ⊢);have:=q.pos;exact .chk ⟨ak,ak⟩ (.ret (.inl ⟨q,rfl⟩))
theorem abY(s:av):Says (jg s) (jl s):=by
 have e:jl s↔(0<=s.dH/\s.dH<=2)/\jv s.fC s.fR/\y7 s.fT/\s.fT.fW=s.fR.fW/\nW s.fG/\ah s.fG.aK=s.fR.fH/\ah (aB aH s.fG.aK 0).aN=s.fR.fW/\NY s.fK :=
  ⟨λh=>⟨h.dir,h.cur,h.tab,h.tw,h.grid,h.h,h.w,h.kept⟩,λh=>⟨h.1,h.2.1,h.2.2.1,h.2.2.2.1,h.2.2.2.2.1,h.2.2.2.2.2.1,h.2.2.2.2.2.2.1,h.2.2.2.2.2.2.2⟩⟩
 unfold jg;rw[e];refine .ite (λh=>.no (by grind)) (λh=>.bind _ (Dl _ _) λv hv=>.bind _ (.guard λ_=>J4 _) λw hw=>.ite (λh=>.no (by grind)) (λh2=>.bind _ (aj7 _) λz hz=>?_));have hc:jv s.fC s.fR:=by grind
 have hr:=hc.reg.h;rcases hz with⟨gq,rfl⟩|⟨gq,rfl⟩
 . refine .ite (λh=>.no (by grind)) (λh3=>.bind _ (agi _) λk hk=>.ret (by grind))
 refine .ite (λh=>.no (by grind)) (λh3=>?_);exfalso;grind
theorem jl.tl{s:av}(q:jl s):ah s.fT.fL<=100000:=by
 have:=q.tab.len;have:=q.tab.w;omega
theorem jl.ok{s:av}(q:jl s):jg s=some true:=(abY s).ok q
end Go.Vx
end
section
namespace Go.Vx
set_option maxRecDepth 100000
theorem aae:mE (bU.mk 0 0 0):=⟨.inl ⟨bH,bH⟩,.inl ⟨bH,bH⟩,bH⟩
def mY(l:List bY):Prop:=∀ i,0<=i->i<ah l->F7 (aB bq l i)
theorem akN{p:bU}{w:Int}(h:mE p)(hw:w=0\/w=1):F7 (bY.mk 0 jP w p):=by
 have z:(0:Int)<=0/\(0:Int)<=1114111/\((0:Int)≠0->(0:Int)≠0):=⟨ak,ak,λh=>h⟩
 refine⟨z,z,⟨z.1,z.2.1⟩,λ_=>rfl,h,?_⟩;rcases hw with rfl|rfl
 . exact .inl ⟨rfl,rfl⟩
 exact .inr (.inl rfl)
theorem aeW{p:bU}(h:mE p):F7 (bY.mk 0 jP 1 p):=akN h (.inr rfl)
theorem jS{α:Type}(l:List α)(i:Int)(v:α):ah (iM l i v)=ah l:=by simp[ah,iM]
theorem mY.set{l:List bY}(h:mY l){k:Int}(h0:0<=k){v:bY}(hv:F7 v):mY (iM l k v):=by
 intro i i0 i1;rw[jS] at i1;rw[j5 h0 i0 i1];split
 . exact hv
 exact h i i0 i1
theorem mY.sub{l:List bY}(h:mY l){a b:Int}(h0:0<=a)(h1:a<=b)(h2:b<=ah l):mY (kU l a b):=by
 intro i i0 i1;rw[dG h0 h1 h2] at i1;rw[Gx h0 i0 i1];exact h _ ak ak
theorem mY.cpy{xs ys:List bY}(hx:mY xs)(hy:mY ys){o n:Int}(h0:0<=o)(h1:0<=n)(h2:n<=ah ys)(h3:o+n<=ah xs):mY (VL xs o ys n):=by
 intro i i0 i1;rw[jB h0 h1 h2 h3] at i1;rw[Gy h0 h1 h2 h3 i0];split
 . exact hy _ ak ak
 exact hx _ i0 i1
theorem VN(r:aR)(l:List bY)(hl:1<=ah l/\ah l<=4096)(hc:mY l)(hd:0<=r.dH/\r.dH<=2) :
  Yields (xI r l 0 (ah l)) (λt=>mF t/\ah t.aN=ah l/\t.dH=r.dH/\t.dz=r.dz/\t.bA=r.bA):=by
 unfold xI;have e0 : ∀ x:List bY,ah x=ah l->kU x 0 (0+ah l)=x:=λx hx=>by
  rw[← hx];simp[kU,ah]
 refine .chk ⟨ak,ak,ak⟩ (.cut (λo=>∃ x,o = .go x/\ah x=ah l/\mY x/\∀ i,0<=i->i<ah x->D8 x i) ?_ ?_)
 . refine .loop (λp=>0<=p.1/\p.1<=ah l/\ah p.2=ah l/\mY p.2/\∀ i,0<=i->i<p.1->D8 p.2 i) (λp=>(ah l-p.1).toNat) ⟨cB,cB,rfl,hc,λi a b=>by simp only at b;omega⟩ ?_;rintro⟨v,x⟩ ⟨v0,v1,hx,hq,hp⟩;simp only at v0 v1 hx hq hp ⊢;refine .ite (λh=>?_) (λh=>?_)
   . have h:v<ah l:=by simpa using h
     rw[e0 x hx];refine .bind _ (agh v0 ak ak) λz hz=>.ite (λhc=>?_) (λhc=>.chk bS (.ret ⟨⟨cB,cB,hx,hq,λi a b=>?_⟩,cB⟩))
     . have hn : ¬ D8 x v:=hz.1 hc;refine .chk ⟨v0,h⟩ (.call (b:=_) rfl (.chk ⟨v0,h⟩ (.chk bS (.ret ⟨⟨cB,cB,by simp only[jS];exact hx,?_,λi a b=>?_⟩,cB⟩))))
       . exact hq.set ak (aeW (hq _ ak ak).2.2.2.2.1)
       simp only at b ⊢;have hg : ∀ j,0<=j->j<ah l->aB bq (iM x (0+v) (bY.mk 0 jP 1 (aB bq x (0+v)).bB)) j=if j=v then bY.mk 0 jP 1 (aB bq x (0+v)).bB else aB bq x j:=λj j0 j1=>by
        rw[j5 ak j0 ak];simp
       unfold D8;rw[jS]
       by_cases e:i=v
       . subst e;rw[hg i a ak,if_pos rfl];exact⟨λh=>by simp at h,λh=>by simp at h⟩
       have hpi:=hp i a ak;rw[hg i a ak,if_neg e];refine⟨λhw=>?_,λhw=>?_⟩
       . have h1:=hpi.1 hw;rw[hg _ ak ak,if_neg ak];exact h1
       have h1:=hpi.2 hw;refine⟨h1.1,?_⟩;rw[hg _ ak ak]
       by_cases e2:i+1=v
       . exfalso;refine hn ⟨λh0=>?_,λh2=>?_⟩
         . rw[← e2];refine⟨ak,?_⟩;rw[show i+1-1=i by omega];exact hw
         rw[← e2] at h2;rw[h1.2] at h2;cases h2
       rw[if_neg e2];exact h1.2
     simp only at b
     by_cases e:i=v
     . subst e;have : ¬ ¬ D8 x i:=λhn=>by rw[hz.2 hn] at hc;cases hc
       exact Classical.not_not.1 this
     exact hp i a ak
   have h : ¬ v<ah l:=by simpa using h
   exact .ret ⟨x,rfl,hx,hq,λi a b=>hp i a ak⟩
 rintro o ⟨x,rfl,hx,hq,hp⟩;refine .go (.ret ?_);rw[e0 x hx];exact⟨⟨cB,cB,hd,hq,hp⟩,hx,rfl,rfl,rfl⟩
theorem ao7(r:aR)(hb:ah r.aN<=100000):Yields (sP r) (λl=>ah l=ah r.aN/\∀ i,0<=i->i<ah r.aN->aB bq l i=aB bq r.aN i):=by
 unfold sP;have hn:=bW r.aN;have e:aP (ah r.aN) (ah r.aN)=ah r.aN:=by unfold aP;split<;>rfl
 have hr:=dK bq hn;refine .chk (ahV hn ak ak) (.ret ⟨?_,λi a b=>?_⟩)
 . rw[e,jB ak hn ak ak,hr]
 rw[e,Gy ak hn ak ak a,if_pos ak];congr 1;omega
theorem OL{r:aR}(q:mF r):Yields (sP r) (λl=>ah l=ah r.aN/\mY l/\∀ i,0<=i->i<ah r.aN->aB bq l i=aB bq r.aN i) :=
 (ao7 r (by have:=q.top;omega)).mono λl h=>⟨h.1,λi a b=>by rw[h.2 i a ak];exact q.fit i a ak,h.2⟩
def RowK(r t:aR):Prop:=mF t/\ah t.aN=ah r.aN
theorem RowK.refl{r:aR}(q:mF r):RowK r r:=⟨q,rfl⟩
theorem avH{r:aR}(q:mF r)(a:Int)(c:bY):Yields (Ut r a c) (RowK r):=by
 unfold Ut;have h1:=q.pos;have h2:=q.top;refine .call ((xH r).ok q) (.bind _ (.guard λ_=>agf c) λv hv=>.chk (λh=>?_) (.ite (λ_=>.ret (RowK.refl q)) λh=>?_))
 . have hc:F7 c:=by grind
   have:=hc.2.2.2.2.2;exact bS
 have hc:F7 c:=by grind
 have hw:=hc.2.2.2.2.2;have ha:0<=a/\a<=ah r.aN-c.fW/\c.fW≠0:=by grind
 refine .bind _ (OL q) λl ⟨hl,hq,_⟩=>.chk ⟨ha.1,ak⟩ (.cut (λo=>∃ x,o = .go x/\ah x=ah l/\mY x) ?_ ?_)
 . refine .ite (λh2=>?_) (λh2=>.ret ⟨_,rfl,jS _ _ _,hq.set ha.1 hc⟩);have h2:c.fW=2:=by simpa using h2
   refine .chk bS (.chk ⟨ak,ak⟩ (.ret ⟨_,rfl,by rw[jS,jS],(hq.set ha.1 hc).set ak ?_⟩));exact akN hc.2.2.2.2.1 (.inl rfl)
 rintro o ⟨x,rfl,hx,hxq⟩;refine .go (.bind (RowK r) ?_ λt ht=>.ret ht);rw[← hx];exact(VN r x ⟨ak,ak⟩ hxq q.dir).mono λt ht=>⟨ht.1,by rw[ht.2.1];omega⟩
theorem aqu(l:List bY)(o n:Int)(p:bU)(h0:0<=o)(h1:0<=n)(h2:o+n<=ah l)(hb:ah l<=100000)(hp:mE p) :
  Yields (Ec l o n p) (λt=>ah t=ah l/\∀ i,0<=i->i<ah l->aB bq t i=if o<=i/\i<o+n then bY.mk 0 jP 1 p else aB bq l i):=by
 unfold Ec;refine .chk ⟨h0,h1,h2⟩ (.loop (λq=>0<=q.1/\q.1<=n/\ah q.2=ah l/\∀ i,0<=i->i<ah l->aB bq q.2 i=if o<=i/\i<o+q.1 then bY.mk 0 jP 1 p else aB bq l i) (λq=>(n-q.1).toNat) ⟨bH,by simpa using h1,rfl,λi a b=>by rw[if_neg cB]⟩ ?_);rintro⟨v,x⟩ ⟨v0,v1,hx,hg⟩;simp only at v0 v1 hx hg ⊢;refine .ite (λh=>?_) (λh=>?_)
 . have h:v<n:=by simpa using h
   refine .call (b:=_) rfl (.chk ⟨v0,h⟩ (.chk bS (.ret ⟨⟨cB,cB,by simp only[jS];exact hx,λi a b=>?_⟩,cB⟩)));simp only;rw[j5 ak a ak]
   by_cases e:i=o+v
   . rw[if_pos e,if_pos ak]
   rw[if_neg e,hg i a b]
   by_cases e2:o<=i/\i<o+v
   . rw[if_pos e2,if_pos ak]
   rw[if_neg e2,if_neg ak]
 have h : ¬ v<n:=by simpa using h
 have:v=n:=ak;subst this;exact .ret ⟨hx,hg⟩
theorem ao8{l:List bY}(hq:mY l)(o n:Int)(p:bU)(h0:0<=o)(h1:0<=n)(h2:o+n<=ah l)(hb:ah l<=100000)(hp:mE p):Yields (Ec l o n p) (λt=>ah t=ah l/\mY t) :=
 (aqu l o n p h0 h1 h2 hb hp).mono λt ht=>⟨ht.1,λi a b=>by
  rw[ht.2 i a ak];split
  . exact aeW hp
  exact hq i a ak⟩
theorem zl(x w:Int)(h:0<=w):0<=aY 0 (aP x w)/\aY 0 (aP x w)<=w:=by
 unfold aY aP;constructor<;>(repeat' split)<;>omega
theorem arB{r:aR}(q:mF r)(a b:Int)(p:bU):Yields (MI r a b p) (RowK r):=by
 unfold MI;have h1:=q.pos;have h2:=q.top;refine .cut (λo=>(o = .out r)\/∃ x,o = .go x/\ah x=ah r.aN/\mY x) ?_ ?_
 . refine .call ((xH r).ok q) (.bind _ (.guard λ_=>O0 p) λv hv=>.ite (λ_=>.ret (.inl rfl)) λh=>.call (b:=_) rfl ?_);have hp:mE p:=by grind
   have c1:=zl a (ah r.aN) ak;have c2:=zl b (ah r.aN) ak;simp only;generalize hA:aY 0 (aP a (ah r.aN))=A at *;generalize hB:aY 0 (aP b (ah r.aN))=B at *;have c3:A<=aY A B/\aY A B<=ah r.aN:=by unfold aY;split<;>omega
   refine .bind _ (OL q) λl ⟨hl,hq,_⟩=>.chk ⟨c1.1,c3.1,ak⟩ (.bind _ (ao8 hq _ _ p ak ak ak ak hp) λt ht=>.chk ht.1 (.ret (.inr ⟨t,rfl,ak,ht.2⟩)))
 rintro o (rfl|⟨x,rfl,hx,hq⟩)
 . exact .out (RowK.refl q)
 exact .go (.bind (RowK r) ((VN r x ⟨ak,ak⟩ hq q.dir).mono λt ht=>⟨ht.1,by rw[ht.2.1];omega⟩) λt ht=>.ret ht)
theorem ac9(r:aR)(a b:Int)(p:bU):Says (G5 r a b p) (mF r/\mE p/\0<=a/\a<b/\b<=ah r.aN):=by
 unfold G5;exact .bind _ (xH r) λv hv=>.bind _ (.guard λ_=>O0 p) λw hw=>.ret (by grind)
theorem ao9{r:aR}(q:mF r)(a n b:Int)(p:bU):Yields (Ig r a n b p) (RowK r):=by
 unfold Ig;have h1:=q.pos;have h2:=q.top;refine .cut (λo=>(o = .out r)\/(mF r/\mE p/\0<=a/\a<b/\b<=ah r.aN)/\∃ x,o = .go x/\ah x=ah r.aN/\mY x) ?_ ?_
 . refine .bind _ (ac9 r a b p) λv hv=>.ite (λ_=>.ret (.inl rfl)) λh=>?_;have hh:mF r/\mE p/\0<=a/\a<b/\b<=ah r.aN:=hv.1 (by cases v<;>simp at h ⊢);obtain⟨_,hp,a0,ab,b1⟩:=hh;have c1:=zl n (b-a) ak;simp only;generalize hA:aY 0 (aP n (b-a))=m at *;refine .chk bS (.bind _ (OL q) λl ⟨hl,hq,_⟩=>.chk bS (.chk ⟨ak,ak,ak⟩ (.chk bS (.chk ⟨ak,ak,ak⟩ (.ret (.inr ⟨⟨q,hp,a0,ab,b1⟩,_,rfl,?_,?_⟩))))))
   . have e:aP (b-m-a) (b-(a+m))=b-(a+m):=by unfold aP;split<;>omega
     rw[e,jB ak ak (by rw[dG ak ak ak];omega) ak,hl]
   have e:aP (b-m-a) (b-(a+m))=b-(a+m):=by unfold aP;split<;>omega
   rw[e];exact hq.cpy (mY.sub q.fit ak ak ak) ak ak (by rw[dG ak ak ak];omega) ak
 rintro o (rfl|⟨⟨_,hp,a0,ab,b1⟩,x,rfl,hx,hq⟩)
 . exact .out (RowK.refl q)
 have c1:=zl n (b-a) ak;generalize hA:aY 0 (aP n (b-a))=m at *;refine .go (.cut (λo=>∃ y,o = .go y/\ah y=ah x/\mY y) (.chk bS (.chk ⟨ak,ak,ak⟩ (.bind _ (ao8 hq _ _ p ak ak ak ak hp) λt ht=>.chk ht.1 (.ret ⟨t,rfl,ht.1,ht.2⟩)))) ?_);rintro o ⟨y,rfl,hy,hyq⟩;refine .go (.bind (RowK r) ?_ λt ht=>.ret ht);rw[← hy];exact(VN r y ⟨ak,ak⟩ hyq q.dir).mono λt ht=>⟨ht.1,by rw[ht.2.1];omega⟩
theorem apa{r:aR}(q:mF r)(a n b:Int)(p:bU):Yields (Ih r a n b p) (RowK r):=by
 unfold Ih;have h1:=q.pos;have h2:=q.top;refine .cut (λo=>(o = .out r)\/(mF r/\mE p/\0<=a/\a<b/\b<=ah r.aN)/\∃ x,o = .go x/\ah x=ah r.aN/\mY x) ?_ ?_
 . refine .bind _ (ac9 r a b p) λv hv=>.ite (λ_=>.ret (.inl rfl)) λh=>?_;have hh:mF r/\mE p/\0<=a/\a<b/\b<=ah r.aN:=hv.1 (by cases v<;>simp at h ⊢);obtain⟨_,hp,a0,ab,b1⟩:=hh;have c1:=zl n (b-a) ak;simp only;generalize hA:aY 0 (aP n (b-a))=m at *;have e:aP (b-(a+m)) (b-m-a)=b-(a+m):=by unfold aP;split<;>omega
   refine .chk bS (.bind _ (OL q) λl ⟨hl,hq,_⟩=>.chk bS (.chk ⟨ak,ak,ak⟩ (.chk bS (.chk ⟨ak,ak,ak⟩ (.ret (.inr ⟨⟨q,hp,a0,ab,b1⟩,_,rfl,?_,?_⟩))))))
   . rw[e,jB ak ak (by rw[dG ak ak ak];omega) ak,hl]
   rw[e];exact hq.cpy (mY.sub q.fit ak ak ak) ak ak (by rw[dG ak ak ak];omega) ak
 rintro o (rfl|⟨⟨_,hp,a0,ab,b1⟩,x,rfl,hx,hq⟩)
 . exact .out (RowK.refl q)
 have c1:=zl n (b-a) ak;generalize hA:aY 0 (aP n (b-a))=m at *;refine .go (.cut (λo=>∃ y,o = .go y/\ah y=ah x/\mY y) (.chk bS (.chk ⟨ak,ak,ak⟩ (.bind _ (ao8 hq _ _ p ak ak ak ak hp) λt ht=>.chk ht.1 (.ret ⟨t,rfl,ht.1,ht.2⟩)))) ?_);rintro o ⟨y,rfl,hy,hyq⟩;refine .go (.bind (RowK r) ?_ λt ht=>.ret ht);rw[← hy];exact(VN r y ⟨ak,ak⟩ hyq q.dir).mono λt ht=>⟨ht.1,by rw[ht.2.1];omega⟩
theorem aij{r:aR}(q:mF r){l:List bY}(hl:ah l=ah r.aN)(hg : ∀ i,0<=i->i<ah r.aN->aB bq l i=aB bq r.aN i){k:Int}(k0:0<=k)(k1:k<ah r.aN){c:bY}(hc:F7 c)(hw:c.fW=(aB bq r.aN k).fW) :
  RowK r (aR.mk (iM l k c) r.dz r.dH r.bA):=by
 have e : ∀ i,0<=i->i<ah r.aN->aB bq (iM l k c) i=if i=k then c else aB bq r.aN i:=λi a b=>by
  rw[j5 k0 a ak];split
  . rfl
  exact hg i a b
 have ew : ∀ i,0<=i->i<ah r.aN->(aB bq (iM l k c) i).fW=(aB bq r.aN i).fW:=λi a b=>by
  rw[e i a b];split
  . rename_i h;rw[h];exact hw
  rfl
 refine⟨⟨?_,?_,q.dir,?_,?_⟩,?_⟩
 . simp only[jS];have:=q.pos;omega
 . simp only[jS];have:=q.top;omega
 . intro i a b;simp only[jS] at b ⊢;rw[e i a ak];split
   . exact hc
   exact q.fit i a ak
 . intro i a b;simp only[jS] at b ⊢;have hp:=q.pair i a ak;unfold D8 at hp ⊢;rw[ew i a ak,jS,hl];refine⟨λh=>?_,λh=>?_⟩
   . have h1:=hp.1 h;exact⟨h1.1,by rw[ew _ ak ak];exact h1.2⟩
   have h1:=hp.2 h;exact⟨h1.1,by rw[ew _ ak ak];exact h1.2⟩
 simp only[jS];exact hl
theorem atf{r:aR}(q:mF r)(a m:Int):Yields (Pg r a m) (RowK r):=by
 unfold Pg;have h1:=q.pos;have h2:=q.top;refine .call ((xH r).ok q) (.ite (λ_=>.ret (RowK.refl q)) λh=>?_);have hh:0<=a/\a<ah r.aN/\1<=m/\m<=1114111:=by grind
 obtain⟨a0,a1,m0,m1⟩:=hh;refine .cut (λo=>∃ k,o = .go k/\0<=k/\k<ah r.aN) ?_ ?_
 . refine .chk ⟨a0,a1⟩ (.ite (λhw=>.chk bS (.ret ⟨_,rfl,?_,ak⟩)) (λ_=>.ret ⟨_,rfl,a0,a1⟩));have hw:(aB bq r.aN a).fW=0:=by simpa using hw
   have:=((q.pair a a0 a1).1 hw).1;omega
 rintro o ⟨k,rfl,k0,k1⟩;refine .go (.chk ⟨k0,k1⟩ (.ite (λ_=>.ret (RowK.refl q)) λhr=>?_));have hr:(aB bq r.aN k).fR≠0:=by simpa using hr
 have hc:=q.fit k k0 k1;obtain⟨g1,g2,g3,g4,g5,g6⟩:=hc;refine .cut (λo=>(o = .go ())\/∃ t,o = .out t/\RowK r t) ?_ ?_
 . refine .chk ⟨k0,k1⟩ (.cut (λo=>(o = .go ()/\(aB bq r.aN k).fM.x0≠0)\/∃ t,o = .out (.out t)/\RowK r t) ?_ ?_)
   . refine .ite (λhx=>?_) (λhx=>.chk bS (.ret (.inl ⟨rfl,by simpa using hx⟩)));have hx:(aB bq r.aN k).fM.x0=0:=by simpa using hx
     refine .bind _ (OL q) λl ⟨hl,hq,hg⟩=>.chk ⟨k0,ak⟩ (.ret (.inr ⟨_,rfl,aij q hl hg k0 k1 ?_ ?_⟩))
     . rw[CR,hg k k0 k1];have:=g4 hx;exact⟨⟨cB,cB,λ_=>hr⟩,⟨cB,cB,λ_=>hr⟩,g3,λh=>by simp only at h;omega,g5,g6⟩
     rw[CR,hg k k0 k1]
   rintro o (⟨rfl,hx0⟩|⟨t,rfl,ht⟩)
   . refine .go (.cut (λo=>(o = .go ())\/∃ t,o = .out (.out t)/\RowK r t) ?_ ?_)
     . refine .ite (λhx=>?_) (λhx=>.chk bS (.ret (.inl rfl)));refine .bind _ (OL q) λl ⟨hl,hq,hg⟩=>.chk ⟨k0,ak⟩ (.ret (.inr ⟨_,rfl,aij q hl hg k0 k1 ?_ ?_⟩))
       . rw[CR,hg k k0 k1];exact⟨⟨g1.1,g1.2.1,λ_=>hr⟩,⟨cB,cB,λ_=>hr⟩,g3,λh=>absurd h hx0,g5,g6⟩
       rw[CR,hg k k0 k1]
     rintro o (rfl|⟨t,rfl,ht⟩)
     . exact .go (.ret (.inl rfl))
     exact .out (.inr ⟨t,rfl,ht⟩)
   exact .out (.inr ⟨t,rfl,ht⟩)
 rintro o (rfl|⟨t,rfl,ht⟩)
 . exact .go (.ret (RowK.refl q))
 exact .out ht
theorem N9(a n:Int)(h:1<=n):1<=aY 1 (aP a n)/\aY 1 (aP a n)<=n:=by
 unfold aY aP;constructor<;>(repeat' split)<;>omega
theorem alF(w:Int)(p:bU)(hp:mE p):Yields (OM w p) (λr=>mF r/\ah r.aN=aY 1 (aP w 4096)):=by
 unfold OM;have hw:=N9 w 4096 ak;refine .cut (λo=>o = .go (jX (aY 1 (aP w 4096)) bq)) (.call (b:=_) rfl (.chk (ahV ak ak ak) (.ret rfl))) ?_;rintro o rfl;generalize aY 1 (aP w 4096)=n at *;have hr:ah (jX n bq)=n:=dK _ ak;refine .go (.bind _ (aqu _ 0 _ p ak ak ak ak hp) λt ht=>.chk ht.1 (.ret ?_));have hg : ∀ i,0<=i->i<ah t->aB bq t i=bY.mk 0 jP 1 p:=λi a b=>by
  rw[ht.2 i a ak,if_pos ak]
 refine⟨⟨cB,cB,bH,λi a b=>?_,λi a b=>?_⟩,cB⟩
 . simp only at b ⊢;rw[hg i a b];exact aeW hp
 simp only at b ⊢;unfold D8;rw[hg i a b];exact⟨λh=>by simp at h,λh=>by simp at h⟩
end Go.Vx
end
section
namespace Go.Vx
set_option maxRecDepth 100000
def CK(l:List aR)(w:Int):Prop:=∀ i,0<=i->i<ah l->mF (aB aH l i)/\ah (aB aH l i).aN=w
theorem CK.set{l:List aR}{w:Int}(h:CK l w){k:Int}(h0:0<=k){v:aR}(hv:mF v/\ah v.aN=w):CK (iM l k v) w:=by
 intro i i0 i1;rw[jS] at i1;rw[j5 h0 i0 i1];split
 . exact hv
 exact h i i0 i1
theorem nW.rows{g:cZ}(q:nW g):CK g.aK (ah (aB aH g.aK 0).aN):=λi a b=>⟨q.row i a b,q.wid i a b⟩
theorem nW.of{l:List aR}{w:Int}(h:CK l w)(h1:1<=ah l)(h2:ah l<=1000):nW (cZ.mk l) :=
 ⟨h1,h2,λi a b=>(h i a b).2.trans (h 0 ak ak).2.symm,λi a b=>(h i a b).1⟩
def mJ(g t:cZ):Prop:=nW t/\ah t.aK=ah g.aK/\ah (aB aH t.aK 0).aN=ah (aB aH g.aK 0).aN
theorem mJ.refl{g:cZ}(q:nW g):mJ g g:=⟨q,rfl,rfl⟩
theorem mJ.of{g:cZ}(q:nW g){l:List aR}(h:CK l (ah (aB aH g.aK 0).aN))(hl:ah l=ah g.aK):mJ g (cZ.mk l):=by
 have h1:=q.pos;have h2:=q.top;exact⟨.of h ak ak,hl,(h 0 ak ak).2⟩
theorem anB{w:Int}(h:1<=w)(h2:w<=4096):aY 1 (aP w 4096)=w:=by
 unfold aY aP
 (repeat' split)<;>omega
theorem aik{l:List aR}{w:Int}(hw:1<=w/\w<=4096)(o n:Int)(p:bU)(h0:0<=o)(h1:0<=n)(h2:o+n<=ah l)(hb:ah l<=100000)(hp:mE p)
  (hq : ∀ i,0<=i->i<ah l->¬ (o<=i/\i<o+n)->mF (aB aH l i)/\ah (aB aH l i).aN=w) :
  Yields (yx l o n w p) (λt=>ah t=ah l/\CK t w):=by
 unfold yx;refine .chk ⟨h0,h1,h2⟩ (.loop (λq=>0<=q.1/\q.1<=n/\ah q.2=ah l/\∀ i,0<=i->i<ah l->¬ (o+q.1<=i/\i<o+n)->mF (aB aH q.2 i)/\ah (aB aH q.2 i).aN=w) (λq=>(n-q.1).toNat) ⟨bH,by simpa using h1,rfl,λi a b c=>hq i a b (by simp only at c;omega)⟩ ?_);rintro⟨v,x⟩ ⟨v0,v1,hx,hg⟩;simp only at v0 v1 hx hg ⊢;refine .ite (λh=>?_) (λh=>?_)
 . have h:v<n:=by simpa using h
   refine .bind _ (alF w p hp) λr hr=>.chk ⟨v0,h⟩ (.chk bS (.ret ⟨⟨cB,cB,by simp only[jS];exact hx,λi a b c=>?_⟩,cB⟩));simp only at c ⊢;rw[j5 ak a ak];split
   . exact⟨hr.1,hr.2.trans (anB hw.1 hw.2)⟩
   exact hg i a b ak
 have h : ¬ v<n:=by simpa using h
 exact .ret ⟨hx,λi a b=>hg i a ak ak⟩
theorem abm(g:cZ)(p:bU)(hp:mE p):Says (BN g p) (nW g):=by
 unfold BN;refine .bind _ (Yx g) λv hv=>.bind (λr=>v=true->mF r) (TJ (λ_=>(alF 1 p hp).mono λr h _=>h.1) (λh=>.ret (λh2=>by rw[h] at h2;cases h2))) λr hr=>.bind _ (.guard λ_=>xH r) λw hw=>.ret (by grind)
theorem abn(g:cZ)(a b:Int)(p:bU)(hp:mE p):Says (Ed g a b p) (nW g/\0<=a/\a<b/\b<=ah g.aK):=by
 unfold Ed;exact .bind _ (abm g p hp) λv hv=>.ret (by grind)
theorem ahl{g:cZ}(q:nW g):dY 48 (ah g.aK):=vG (by have:=q.pos;omega) (by have:=q.top;omega) ak
theorem nW.w{g:cZ}(q:nW g):1<=ah (aB aH g.aK 0).aN/\ah (aB aH g.aK 0).aN<=4096:=by
 have:=q.pos;have h:=q.row 0 ak ak;exact⟨h.pos,h.top⟩
theorem atg{g:cZ}(q:nW g)(y:Int)(r:aR):Yields (Ph g y r) (mJ g):=by
 unfold Ph;have h1:=q.pos;refine .cut (λo=>o = .out g\/∃ l,o = .go l/\CK l (ah (aB aH g.aK 0).aN)/\ah l=ah g.aK) ?_ ?_
 . refine .call ((Yx g).ok q) (.chk (λ_=>⟨ak,ak⟩) (.bind _ (.guard λ_=>xH r) λv hv=>.ite (λ_=>.ret (.inl rfl)) λh=>?_));have hh:mF r/\0<=y/\y<ah g.aK/\ah r.aN=ah (aB aH g.aK 0).aN:=by grind
   obtain⟨hr,y0,y1,hl⟩:=hh;unfold vk;exact .bind (λl=>l=g.aK) (.chk (ahl q) (.ret rfl)) λl hll=>by
    subst hll;exact .chk ⟨y0,y1⟩ (.ret (.inr ⟨_,rfl,q.rows.set y0 ⟨hr,hl⟩,jS _ _ _⟩))
 rintro o (rfl|⟨l,rfl,h1,h2⟩)
 . exact .out (mJ.refl q)
 exact .go (.ret (mJ.of q h1 h2))
theorem aeX{g:cZ}(q:nW g)(a b:Int)(p:bU)(hp:mE p):Yields (Ae g a b p) (mJ g):=by
 unfold Ae;have h1:=q.pos;have h2:=q.top;refine .call ((abm g p hp).ok q) (.ite (λh=>by cases h) λ_=>?_);have c1:=zl a (ah g.aK) ak;have c2:=zl b (ah g.aK) ak;simp only;generalize hA:aY 0 (aP a (ah g.aK))=A at *;generalize hB:aY 0 (aP b (ah g.aK))=B at *;have c3:A<=aY A B/\aY A B<=ah g.aK:=by unfold aY;split<;>omega
 unfold vk;refine .bind (λl=>l=g.aK) (.chk (ahl q) (.ret rfl)) λl hll=>?_;subst hll;exact .chk ⟨c1.1,c3.1,c3.2⟩ (.chk ⟨ak,ak⟩ (.bind _ (aik q.w _ _ p ak ak ak ak hp λi a b _=>q.rows i a b) λt ht=>.chk ht.1 (.ret (mJ.of q ht.2 ht.1))))
theorem ath{g:cZ}(q:nW g)(a b n:Int)(p:bU)(hp:mE p):Yields (OO g a b n p) (λt=>mJ g t.1/\ah t.2<=1000/\∀ i,0<=i->i<ah t.2->mF (aB aH t.2 i)):=by
 unfold OO;have h1:=q.pos;have h2:=q.top;refine .bind _ (abn g a b p hp) λv hv=>.ite (λ_=>.ret ⟨mJ.refl q,bH,λi x y=>by simp at y;omega⟩) λh=>?_;have hh:=hv.1 (by cases v<;>simp at h ⊢);obtain⟨_,a0,ab,b1⟩:=hh;have c1:=zl n (b-a) ak;simp only;generalize hA:aY 0 (aP n (b-a))=m at *;unfold vk;refine .chk bS (.bind (λl=>l=g.aK) (.chk (ahl q) (.ret rfl)) λl hll=>?_);subst hll;refine .cut (λo=>∃ x,o = .go x/\ah x=m/\∀ i,0<=i->i<ah x->mF (aB aH x i)) ?_ ?_
 . refine .loop (λz=>0<=z.1/\z.1<=m/\ah z.2=z.1/\∀ i,0<=i->i<ah z.2->mF (aB aH z.2 i)) (λz=>(m-z.1).toNat) ⟨bH,by simpa using c1.1,rfl,λi x y=>by simp at y;omega⟩ ?_;rintro⟨v,x⟩ ⟨v0,v1,hx,hg⟩;simp only at v0 v1 hx hg ⊢;refine .ite (λh=>?_) (λh=>.ret ⟨x,rfl,Int.le_antisymm ak (by simp at h;omega),hg⟩);have h:v<m:=by simpa using h
   refine .chk bS (.chk ⟨ak,ak⟩ (.chk (vG ak ak ak) (.chk bS (.ret ⟨⟨cB,cB,by simp only[bK,bE,bP];omega,λi y z=>?_⟩,cB⟩))));simp only[bK,bE,bP] at z ⊢;rw[lZ y];split
   . exact hg i y ak
   rw[j6 ak];exact q.row _ ak ak
 rintro o ⟨gone,rfl,hgl,hgq⟩;refine .go (.cut (λo=>∃ x,o = .go x/\ah x=ah g.aK/\CK x (ah (aB aH g.aK 0).aN)) ?_ ?_)
 . refine .chk bS (.chk bS (.loop (λz=>0<=z.1/\z.1<=b-a-m/\ah z.2=ah g.aK/\CK z.2 (ah (aB aH g.aK 0).aN)) (λz=>(b-a-m-z.1).toNat) ⟨bH,cB,rfl,q.rows⟩ ?_));rintro⟨v,x⟩ ⟨v0,v1,hx,hg⟩;simp only at v0 v1 hx hg ⊢;refine .ite (λh=>?_) (λh=>.ret ⟨x,rfl,hx,hg⟩);have h:v<b-a-m:=by simpa using h
   exact .chk bS (.chk bS (.chk bS (.chk ⟨ak,ak⟩ (.chk ⟨ak,ak⟩ (.chk bS (.ret ⟨⟨cB,cB,by simp only[jS];exact hx,hg.set ak (q.rows _ ak ak)⟩,cB⟩))))))
 rintro o ⟨x,rfl,hx,hg⟩;refine .go (.chk bS (.chk ⟨ak,ak,ak⟩ (.chk ⟨ak,ak⟩ (.bind _ (aik q.w _ _ p ak ak ak ak hp λi y z _=>hg i y z) λt ht=>.chk ht.1 (.ret ⟨mJ.of q ht.2 (ht.1.trans hx),cB,hgq⟩)))))
theorem aeY{g:cZ}(q:nW g)(a b n:Int)(p:bU)(hp:mE p):Yields (Dw g a b n p) (mJ g):=by
 unfold Dw;have h1:=q.pos;have h2:=q.top;refine .bind _ (abn g a b p hp) λv hv=>.ite (λ_=>.ret (mJ.refl q)) λh=>?_;have hh:=hv.1 (by cases v<;>simp at h ⊢);obtain⟨_,a0,ab,b1⟩:=hh;have c1:=zl n (b-a) ak;simp only;generalize hA:aY 0 (aP n (b-a))=m at *;unfold vk;refine .chk bS (.bind (λl=>l=g.aK) (.chk (ahl q) (.ret rfl)) λl hll=>?_);subst hll;refine .cut (λo=>∃ x,o = .go x/\ah x=ah g.aK/\CK x (ah (aB aH g.aK 0).aN)) ?_ ?_
 . refine .chk bS (.chk bS (.loop (λz=>0<=z.1/\z.1<=b-a-m/\ah z.2=ah g.aK/\CK z.2 (ah (aB aH g.aK 0).aN)) (λz=>(b-a-m-z.1).toNat) ⟨bH,cB,rfl,q.rows⟩ ?_));rintro⟨v,x⟩ ⟨v0,v1,hx,hg⟩;simp only at v0 v1 hx hg ⊢;refine .ite (λh=>?_) (λh=>.ret ⟨x,rfl,hx,hg⟩);have h:v<b-a-m:=by simpa using h
   exact .chk bS (.chk bS (.chk bS (.chk ⟨ak,ak⟩ (.chk ⟨ak,ak⟩ (.chk bS (.ret ⟨⟨cB,cB,by simp only[jS];exact hx,hg.set ak (q.rows _ ak ak)⟩,cB⟩))))))
 rintro o ⟨x,rfl,hx,hg⟩;exact .go (.chk bS (.chk ⟨ak,ak,ak⟩ (.chk ⟨ak,ak⟩ (.bind _ (aik q.w _ _ p ak ak ak ak hp λi y z _=>hg i y z) λt ht=>.chk ht.1 (.ret (mJ.of q ht.2 (ht.1.trans hx)))))))
theorem af5(h w:Int)(p:bU)(hp:mE p):Yields (Pj h w p) (λg=>nW g/\ah g.aK=aY 1 (aP h 1000)/\ah (aB aH g.aK 0).aN=aY 1 (aP w 4096)):=by
 unfold Pj;have c1:=N9 h 1000 ak;have c2:=N9 w 4096 ak;refine .cut (λo=>o = .go ()) (.chk (ahV ak ak ak) (.ret rfl)) ?_;rintro o rfl;generalize aY 1 (aP h 1000)=n at *;have hr:ah (jX n aH)=n:=dK _ ak;have key:Yields (yx (jX n aH) 0 n w p) (λt=>ah t=n/\CK t (aY 1 (aP w 4096))):=by
  unfold yx;refine .chk ⟨ak,ak,ak⟩ (.loop (λq=>0<=q.1/\q.1<=n/\ah q.2=n/\∀ i,0<=i->i<q.1->mF (aB aH q.2 i)/\ah (aB aH q.2 i).aN=aY 1 (aP w 4096)) (λq=>(n-q.1).toNat) ⟨bH,cB,hr,λi a b=>by simp only at b;omega⟩ ?_);rintro⟨v,x⟩ ⟨v0,v1,hx,hg⟩;simp only at v0 v1 hx hg ⊢;refine .ite (λh=>?_) (λh=>?_)
  . have h:v<n:=by simpa using h
    refine .bind _ (alF w p hp) λr hr=>.chk ⟨v0,h⟩ (.chk bS (.ret ⟨⟨cB,cB,by simp only[jS];exact hx,λi a b=>?_⟩,cB⟩));simp only at b ⊢;rw[j5 ak a ak];split
    . exact hr
    exact hg i a ak
  have h : ¬ v<n:=by simpa using h
  exact .ret ⟨hx,λi a b=>hg i a ak⟩
 refine .go (.bind _ key λt ht=>.chk ak (.ret ⟨.of ht.2 ak ak,ht.1,(ht.2 0 ak ak).2⟩))
theorem atj{k:gI}(q:NY k)(l:List aR)(hl:ah l<=100000):Yields (Dx k l) (λt=>NY t/\t.iw=k.iw):=by
 unfold Dx;have h1:=q.cap;have h2:=q.len;have hn:=bW k.aK;have hn2:=bW l;refine .call ((agi k).ok q) (.ite (λh=>by cases h) λ_=>.chk (vG ak ak ak) (.cut (λo=>∃ x,o = .go x/\ah x<=200000/\∀ i,0<=i->i<ah x->mF (aB aH x i)) ?_ ?_))
 . refine .loop (λz=>0<=z.1/\z.1<=ah l/\ah z.2<=200+z.1/\∀ i,0<=i->i<ah z.2->mF (aB aH z.2 i)) (λz=>(ah l-z.1).toNat) ⟨bH,by simpa using hn2,cB,q.row⟩ ?_;rintro⟨v,x⟩ ⟨v0,v1,hx,hg⟩;simp only at v0 v1 hx hg ⊢;refine .ite (λh=>?_) (λh=>.ret ⟨x,rfl,ak,hg⟩);have h:v<ah l:=by simpa using h
   have hnx:=bW x;refine .chk ⟨v0,h⟩ (.bind _ (xH _) λz hz=>.ite (λhc=>.chk (vG ak ak ak) (.chk bS (.ret ⟨⟨cB,cB,by simp only[bK,bE,bP];omega,λi y w=>?_⟩,cB⟩))) λ_=>.chk bS (.ret ⟨⟨cB,cB,cB,hg⟩,cB⟩));simp only[bK,bE,bP] at w ⊢;rw[lZ y];split
   . exact hg i y ak
   rw[j6 ak];exact hz.1 hc
 rintro o ⟨x,rfl,hx,hg⟩;have hnx:=bW x;refine .go ?_;simp only;have hm:0<=aY 0 (ah x-k.iw)/\aY 0 (ah x-k.iw)<=ah x/\ah x-aY 0 (ah x-k.iw)<=k.iw:=by unfold aY;split<;>omega
 generalize aY 0 (ah x-k.iw)=m at *;refine .chk bS (.chk ⟨ak,ak,ak⟩ (.chk ⟨ak,ak,ak⟩ (.ret ⟨⟨h1,?_,λi a b=>?_⟩,rfl⟩)))
 . simp only;rw[dG ak ak ak];omega
 simp only at b ⊢;rw[dG ak ak ak] at b;rw[Gx ak a ak];exact hg _ ak ak
theorem af6(c:Int):Yields (yw c) (λk=>NY k/\k.iw=aY 0 (aP c 200)):=by
 unfold yw;have h:=zl c 200 ak;exact .call (b:=_) rfl (.ret ⟨⟨h,by simp only[bP];exact h.1,λi a b=>by simp at b;omega⟩,rfl⟩)
theorem btw(v a b:Int)(h:a<=b):a<=aY a (aP v b)/\aY a (aP v b)<=b:=by
 unfold aY aP;constructor<;>(repeat' split)<;>omega
theorem Yy(v b l m:Int)(hv : -10000<=v/\v<=10000)(h:l<=m):Yields (rF v b l m) (λr=>l<=r/\r<=m):=by
 unfold rF jW;have h1:=btw b (-4096) 4096 ak;exact .call (b:=_) rfl (.chk bS (.call (b:=_) rfl (.ret (btw _ _ _ h))))
theorem anf{c:aD}{r:bG}(q:jv c r)(dy dx:Int):Yields (BO c r dy dx) (λt=>jv t r):=by
 unfold BO;have hr:=q.reg;have h1:=hr.h;have h2:=hr.w;have h3:=hr.t;have hx:=q.x;have hy:=q.y;refine .call ((Dl c r).ok q) (.ite (λh=>by cases h) λ_=>?_);refine .cut (λo=>∃ t b,o = .go (t,b)/\0<=t/\t<b/\b<=r.fH/\(c.bO=true->t=r.gJ/\b=r.dw)) ?_ ?_
 . refine .call (b:=_) rfl (.ite (λhe=>.ite (λhA=>.ite (λhB=>.ret ⟨_,_,rfl,ak,ak,ak,λ_=>⟨rfl,rfl⟩⟩) λhB=>?_) λhA=>.ite (λhB=>?_) λhB=>?_) λhe=>?_)
   . have hA:r.gJ<=c.fY:=by simpa using hA
     have hB : ¬ c.fY<r.dw:=by simpa using hB
     exact .ret ⟨_,_,rfl,ak,ak,ak,λho=>by have:=q.org ho;omega⟩
   . have hA : ¬ r.gJ<=c.fY:=by simpa using hA
     exact .ret ⟨_,_,rfl,ak,ak,ak,λho=>by have:=q.org ho;omega⟩
   . have hA : ¬ r.gJ<=c.fY:=by simpa using hA
     exact .ret ⟨_,_,rfl,ak,ak,ak,λho=>by have:=q.org ho;omega⟩
   refine .ret ⟨_,_,rfl,ak,ak,ak,λho=>?_⟩;have:r.gJ=0/\r.dw=r.fH:=by simp at he;omega
   omega
 rintro o ⟨t,b,rfl,t0,tb,b1,ho⟩;refine .go (.chk bS (.bind _ (Yy _ _ _ _ ak ak) λy hy2=>.chk bS (.bind _ (Yy _ _ _ _ ak ak) λx hx2=>.ret ?_)));exact⟨hr,cB,cB,λh=>(by cases h),λh=>(by have:=ho h;simp only;omega),q.pen,q.set⟩
theorem atl{c:aD}{r:bG}(q:jv c r)(y x:Int):Yields (G6 c r y x) (λt=>jv t r):=by
 unfold G6 jW;have hr:=q.reg;have h1:=hr.h;have h2:=hr.w;have h3:=hr.t;have b1:=btw x 0 (r.fW-1) ak;refine .call ((Dl c r).ok q) (.ite (λh=>by cases h) λ_=>.cut (λo=>∃ v,o = .go (aD.mk c.fX v c.dz c.bO c.bB c.aF)/\0<=v/\v<r.fH/\(c.bO=true->r.gJ<=v/\v<r.dw)) (.ite (λho=>?_) λho=>?_) ?_)
 . exact .chk bS (.bind _ (Yy _ _ _ _ ak ak) λv hv=>.ret ⟨v,rfl,ak,ak,λ_=>by omega⟩)
 . have:=btw y 0 (r.fH-1) ak;exact .chk bS (.call (b:=_) rfl (.ret ⟨_,rfl,ak,ak,λh=>by rw[ho] at h;cases h⟩))
 rintro o ⟨v,rfl,v0,v1,ho⟩;exact .go (.chk bS (.call (b:=_) rfl (.ret ⟨hr,cB,⟨v0,v1⟩,λh=>(by cases h),ho,q.pen,q.set⟩)))
theorem abO{c:aD}{r:bG}(q:jv c r)(x:Int):Yields (uw c r x) (λt=>jv t r/\t.fY=c.fY):=by
 unfold uw jW;have hr:=q.reg;have h2:=hr.w;have b1:=btw x 0 (r.fW-1) ak;exact .call ((Dl c r).ok q) (.ite (λh=>by cases h) λ_=>.chk bS (.call (b:=_) rfl (.ret ⟨⟨hr,cB,q.y,λh=>(by cases h),q.org,q.pen,q.set⟩,rfl⟩)))
theorem akO(c:aD)(r:bG):Says (G7 c r) (jv c r/\r.gJ<=c.fY/\c.fY<r.dw):=by
 unfold G7;have ins:Says (wX c r) (r.gJ<=c.fY/\c.fY<r.dw):=⟨_,rfl,by grind⟩
 exact .bind _ (Dl c r) λv hv=>.bind _ (.guard λ_=>ins) λw hw=>.ret (by grind)
theorem aoM:zW (bQ.mk (mP.mk 66 66 66 66) 0 2 0):=⟨⟨.inl rfl,.inl rfl,.inl rfl,.inl rfl⟩,bH,bH,.inl rfl⟩
theorem aj8(r:Int):Tot (xJ r):=by
 unfold xJ;refine .ite (λ_=>.ret) λ_=>.ite (λh=>?_) λ_=>.ret;have:96<=r/\r<=126:=by grind
 exact .chk bS (.chk ⟨ak,ak⟩ .ret)
theorem ail(f r:Int):Tot (Af f r):=by
 unfold Af Oa;exact .ite (λ_=>.bind (aj8 r) λ_=>.ret) λ_=>.ite (λ_=>.bind (.ite (λ_=>.ret) λ_=>.ret) λ_=>.ret) λ_=>.ret
theorem avB{s:bQ}(q:zW s)(r:Int):Yields (FB s r) (λt=>zW t.1):=by
 unfold FB;have h1:=q.gl;have h2:=q.gr;have h3:=q.once;have q0:zW (bQ.mk s.fG s.jF s.jk 0):=⟨q.g,q.gl,q.gr,.inl rfl⟩
 have fin : ∀ (c:Bool) (v:Int),Yields (aA c (some (bQ.mk s.fG s.jF s.jk 0,v)) (some (s,v))) (λt=>zW t.1):=λc v=>.ite (λ_=>.ret q0) λ_=>.ret q;refine .call ((O9 s).ok q) (.ite (λh=>by cases h) λ_=>.ite (λh=>.chk ⟨ak,ak⟩ (.bind _ (ail _ _).yields λv _=>fin _ _)) λ_=>.ite (λh=>.chk ⟨ak,ak⟩ (.bind _ (ail _ _).yields λv _=>fin _ _)) λ_=>.chk (λ_=>⟨ak,ak⟩) (.ite (λh=>?_) λ_=>fin _ _));have:160<=r/\r<=255:=by grind
 exact .chk ⟨ak,ak⟩ (.chk bS (.bind _ (ail _ _).yields λv _=>fin _ _))
theorem aoJ{s:bQ}(q:zW s)(w f:Int):Yields (FC s w f) zW:=by
 unfold FC;have pl:Says (mX w) (0<=w/\w<=3):=⟨_,rfl,by grind⟩
 refine .call ((O9 s).ok q) (.ite (λh=>by cases h) λ_=>.bind _ pl λv hv=>.bind _ (.guard λ_=>MG f) λu hu=>.ite (λh=>?_) λ_=>.ret q);have hw:(0<=w/\w<=3)/\SetB f:=by grind
 have hg:=q.g;refine .chk ⟨ak,ak⟩ (.ret ⟨?_,q.gl,q.gr,q.once⟩);simp only;refine⟨?_,?_,?_,?_⟩<;>split<;>first|exact hw.2|exact hg.1|exact hg.2.1|exact hg.2.2.1|exact hg.2.2.2
theorem asD{s:bQ}(q:zW s)(w:Int)(b:Bool):Yields (Dy s w b) zW:=by
 unfold Dy;have pl:Says (mX w) (0<=w/\w<=3):=⟨_,rfl,by grind⟩
 refine .call ((O9 s).ok q) (.ite (λh=>by cases h) λ_=>.bind _ pl λv hv=>.ite (λ_=>.ret q) λh=>?_);have hw:0<=w/\w<=3:=hv.1 (by cases v<;>simp at h ⊢);exact .ite (λ_=>.ret ⟨q.g,q.gl,hw,q.once⟩) λ_=>.ret ⟨q.g,hw,q.gr,q.once⟩
theorem arn{s:bQ}(q:zW s)(w:Int):Yields (Bo s w) zW:=by
 unfold Bo;have sh:Says (tY w) (w=2\/w=3):=⟨_,rfl,by grind⟩
 exact .call ((O9 s).ok q) (.ite (λh=>by cases h) λ_=>.bind _ sh λv hv=>.ite (λh=>.ret ⟨q.g,q.gl,q.gr,.inr (hv.1 h)⟩) λ_=>.ret q)
theorem arC{s:dJ}(q:y7 s)(f:Int)(hf:f<s.fW-1):Yields (FD f s) (λx=>f<x/\x<=s.fW-1):=by
 unfold FD;have hn:=bW s.fL;have hl:=q.len;have hw:=q.w;refine .cut (λo=>o = .go ()\/∃ x,o = .out x/\f<x/\x<=s.fW-1) ?_ ?_
 . refine .loop (λv=>0<=v/\v<=ah s.fL) (λv=>(ah s.fL-v).toNat) ⟨ak,ak⟩ ?_;rintro v ⟨v0,v1⟩;refine .ite (λh=>?_) (λ_=>.ret (.inl rfl));have h:v<ah s.fL:=by simpa using h
   have:=q.low v v0 h;exact .chk ⟨v0,h⟩ (.ite (λhx=>.ret (.inr ⟨_,rfl,by simpa using hx,ak⟩)) λ_=>.chk bS (.ret ⟨⟨ak,ak⟩,cB⟩))
 rintro o (rfl|⟨x,rfl,hx⟩)
 . exact .go (.chk bS (.ret ⟨hf,ak⟩))
 exact .out hx
theorem atm{s:dJ}(q:y7 s)(a n:Int)(hnn:n<=1000000000):Yields (MJ s a n) (λx=>0<=x/\x<s.fW):=by
 unfold MJ;have hw:=q.w;refine .call ((J4 s).ok q) (.ite (λh=>by cases h) λ_=>.chk bS ?_);have c:=zl a (s.fW-1) ak;refine .cut (λo=>∃ x,o = .go x/\0<=x/\x<s.fW) ?_ ?_
 . refine .loop (λp=>0<=p.1/\p.1<s.fW/\0<=p.2/\p.2<=p.1+0) (λp=>(s.fW-p.1).toNat) ⟨c.1,cB,bH,cB⟩ ?_;rintro⟨x,i⟩ ⟨x0,x1,i0,i1⟩;simp only at x0 x1 i0 i1 ⊢;refine .chk (λ_=>bS) (.ite (λh=>?_) (λ_=>.ret ⟨x,rfl,x0,x1⟩));have h:i<n/\x<s.fW-1:=by grind
   exact .bind _ (arC q x h.2) λy hy=>.chk bS (.ret ⟨⟨cB,cB,cB,cB⟩,cB⟩)
 rintro o ⟨x,rfl,hx⟩;exact .go (.ret hx)
theorem arD{s:dJ}(q:y7 s)(f:Int)(hf:0<f):Yields (FE f s) (λx=>0<=x/\x<f):=by
 unfold FE;have hn:=bW s.fL;have hl:=q.len;have hw:=q.w;refine .cut (λo=>o = .go ()\/∃ x,o = .out x/\0<=x/\x<f) ?_ ?_
 . refine .chk bS (.loop (λv=>-1<=v/\v<ah s.fL) (λv=>(v+1).toNat) ⟨ak,ak⟩ ?_);rintro v ⟨v0,v1⟩;refine .ite (λh=>?_) (λ_=>.ret (.inl rfl));have h:0<=v:=by simpa using h
   have:=q.low v h v1;exact .chk ⟨h,v1⟩ (.ite (λhx=>.chk ⟨h,v1⟩ (.ret (.inr ⟨_,rfl,this.1,by simpa using hx⟩))) λ_=>.chk bS (.ret ⟨⟨ak,ak⟩,cB⟩))
 rintro o (rfl|⟨x,rfl,hx⟩)
 . exact .go (.ret ⟨ak,hf⟩)
 exact .out hx
theorem anC{s:dJ}(q:y7 s)(a n:Int):Yields (G8 s a n) (λx=>0<=x/\x<s.fW):=by
 unfold G8;have hw:=q.w;refine .call ((J4 s).ok q) (.ite (λh=>by cases h) λ_=>.chk bS ?_);have c:=zl a (s.fW-1) ak;refine .cut (λo=>∃ x,o = .go x/\0<=x/\x<s.fW) ?_ ?_
 . refine .loop (λp=>0<=p.1/\p.1<s.fW/\0<=p.2/\p.2+p.1<=4096) (λp=>p.1.toNat) ⟨c.1,cB,bH,cB⟩ ?_;rintro⟨x,i⟩ ⟨x0,x1,i0,i1⟩;simp only at x0 x1 i0 i1 ⊢;refine .ite (λh=>?_) (λ_=>.ret ⟨x,rfl,x0,x1⟩);have h:i<n/\0<x:=by grind
   exact .bind _ (arD q x h.2) λy hy=>.chk bS (.ret ⟨⟨cB,cB,cB,cB⟩,cB⟩)
 rintro o ⟨x,rfl,hx⟩;exact .go (.ret hx)
end Go.Vx
end
