/- Screens: what is done to them leaves screens that may be, of the same region. No conditions. -/
import Derived.Test.YtmpgicplgjmjkaaGreatDoorS3
set_option linter.all false
section
namespace Go.Vx
set_option maxRecDepth 100000
def nw(s:av):av:=av.mk s.fG (aD.mk s.fC.fX s.fC.fY false s.fC.bO s.fC.bB s.fC.aF) s.fR s.fT s.fK s.dH s.bA
theorem jv.nw{c:aD}{r:bG}(q:jv c r):jv (aD.mk c.fX c.fY false c.bO c.bB c.aF) r:=⟨q.reg,q.x,q.y,λh=>(by cases h),q.org,q.pen,q.set⟩
theorem jv.xw{c:aD}{r:bG}(q:jv c r){x:Int}(h0:0<=x)(h1:x<r.fW):jv (aD.mk x c.fY false c.bO c.bB c.aF) r:=⟨q.reg,⟨h0,h1⟩,q.y,λh=>(by cases h),q.org,q.pen,q.set⟩
theorem jl.turn{s:av}(q:jl s){g:cZ}(hg:mJ s.fG g){c:aD}(hc:jv c s.fR){k:gI}(hk:NY k)(e:Bool):jl (av.mk g c s.fR s.fT k s.dH e) :=
 ⟨q.dir,hc,q.tab,q.tw,hg.1,hg.2.1.trans q.h,hg.2.2.trans q.w,hk⟩
theorem jl.nw{s:av}(q:jl s):jl (nw s):=q.turn (mJ.refl q.grid) q.cur.nw q.kept _
def jf(s t:av):Prop:=jl t/\t.fR=s.fR/\t.fK.iw=s.fK.iw
theorem jf.refl{s:av}(q:jl s):jf s s:=⟨q,rfl,rfl⟩
theorem jf.trans{a b c:av}(h:jf a b)(k:jf b c):jf a c:=⟨k.1,k.2.1.trans h.2.1,k.2.2.trans h.2.2⟩
theorem vV{s:av}(h:mE s.fC.bB):Yields (j4 s) mE:=⟨_,rfl,⟨.inl ⟨bH,bH⟩,h.bg,bH⟩⟩
def Ii(f:FV):Prop:=∀ r,mF r->Yields (aao f r) (RowK r)
theorem vF{α:Type}(d:α)(l:List α){i:Int}(i0:0<=i)(i1:i<ah l):aB d l i∈l:=by
 obtain⟨h,e⟩:=arE (d:=d) i0 i1;rw[e];exact List.getElem_mem h
theorem aap{s:av}(hg:nW s.fG)(y0:0<=s.fC.fY)(y1:s.fC.fY<ah s.fG.aK)(l:List FV)(hl:ah l<=100000)(hs : ∀ f∈l,Ii f) :
  Yields (kQ s l) (λt=>∃ g,t=av.mk g s.fC s.fR s.fT s.fK s.dH s.bA/\mJ s.fG g):=by
 unfold kQ;have q0:=hg.row _ y0 y1;refine .chk ⟨y0,y1⟩ (.cut (λo=>∃ r,o = .go r) ?_ ?_)
 . refine .loop (λp=>0<=p.1/\mF p.2) (λp=>(ah l-p.1).toNat) ⟨bH,q0⟩ ?_;rintro⟨v,r⟩ ⟨v0,hr⟩;simp only at v0 hr ⊢;refine .ite (λh=>?_) λ_=>.ret ⟨r,rfl⟩;have h:v<ah l:=by simpa using h
   exact .chk ⟨v0,h⟩ (.bind _ (hs _ (vF _ _ v0 h) r hr) λt ht=>.chk bS (.ret ⟨⟨cB,ht.1⟩,cB⟩))
 rintro o ⟨r,rfl⟩;exact .go (.bind _ (atg hg _ r) λg h=>.ret ⟨g,rfl,h⟩)
theorem Oc(b:Bool):Yields (vW b) Ii:=⟨_,rfl,λr q=>by
 show Yields (Ee r b) _;exact .ret ⟨⟨q.pos,q.top,q.dir,q.fit,q.pair⟩,rfl⟩⟩
theorem Ls(a b:Int)(p:bU):Yields (uy a b p) Ii:=⟨_,rfl,λr q=>by
 show Yields (CS r a b _ _ _) _;exact .bind _ (arB q a b _) λt h=>.ret h⟩
theorem XG(a n b:Int)(p:bU):Yields (xK a n b p) Ii:=⟨_,rfl,λr q=>by
 show Yields (yU r a n b _ _ _) _;exact .bind _ (ao9 q a n b _) λt h=>.ret h⟩
theorem Gz{f:FV}(h:Ii f) : ∀ x∈[f],Ii x:=λx hx=>by
 rw[fQ.1 hx];exact h
theorem abZ{f g:FV}(h:Ii f)(k:Ii g) : ∀ x∈[f,g],Ii x:=λx hx=>by
 rcases CU.1 hx with rfl|hx
 . exact h
 exact Gz k x hx
theorem jl.yl{s:av}(q:jl s):0<=s.fC.fY/\s.fC.fY<ah s.fG.aK:=⟨q.cur.y.1,by rw[q.h];exact q.cur.y.2⟩
theorem akP{s:av}(q:jl s)(n:Int):Yields (G9 s n) (λt=>jf s t/\t.fC=s.fC):=by
 unfold G9;refine .bind _ (vV q.cur.pen) λp hp=>.bind _ (ath q.grid _ _ n p hp) λt ⟨h1,h2,h3⟩=>.ite (λ_=>.bind _ (atj q.kept t.2 ak) λk hk=>.ret ⟨⟨q.turn h1 q.cur hk.1 _,rfl,hk.2⟩,rfl⟩) λ_=>.ret ⟨⟨q.turn h1 q.cur q.kept _,rfl,rfl⟩,rfl⟩
theorem agj{s:av}(q:jl (nw s)):Yields (BP s) (λt=>jf s t/\t.fC.fX=s.fC.fX/\t.fC.dz=false):=by
 unfold BP;have hr:=q.cur.reg;have h1:1<=s.fR.fH/\s.fR.fH<=1000:=hr.h;have h3:0<=s.fR.gJ/\s.fR.gJ<s.fR.dw/\s.fR.dw<=s.fR.fH:=hr.t;have hy:0<=s.fC.fY/\s.fC.fY<s.fR.fH:=q.cur.y;refine .chk bS (.ite (λ_=>.bind _ (akP q 1) λt ht=>.ret ⟨ht.1,by rw[ht.2];rfl,by rw[ht.2];rfl⟩) λh=>.chk bS (.chk bS (.ret ⟨⟨q.turn (mJ.refl q.grid) ?_ q.kept _,rfl,rfl⟩,rfl,rfl⟩)));have h:s.fC.fY≠s.fR.dw-1:=by simpa using h
 have hm:0<=aP (s.fC.fY+1) (s.fR.fH-1)/\aP (s.fC.fY+1) (s.fR.fH-1)<s.fR.fH/\aP (s.fC.fY+1) (s.fR.fH-1)<=s.fC.fY+1/\(s.fC.fY<s.fR.dw->s.fC.fY<=aP (s.fC.fY+1) (s.fR.fH-1)):=by
  unfold aP;split<;>omega
 exact⟨hr,q.cur.x,⟨hm.1,hm.2.1⟩,λh=>(by cases h),λho=>by
  have h4:s.fR.gJ<=s.fC.fY/\s.fC.fY<s.fR.dw:=q.cur.org ho;have h5:=hm.2.2.2 h4.2;have h6:=hm.2.2.1;show s.fR.gJ<=aP (s.fC.fY+1) (s.fR.fH-1)/\aP (s.fC.fY+1) (s.fR.fH-1)<s.fR.dw;omega,q.cur.pen,q.cur.set⟩
theorem agk{s:av}(q:jl (nw s)):Yields (BQ s) (λt=>jf s t):=by
 unfold BQ;refine .bind _ (Oc true) λf hf=>.bind _ (aap (s:=s) q.grid q.yl.1 q.yl.2 [f] (by simp[ah]) (Gz hf)) λt ⟨g,e,hg⟩=>?_;subst e;refine .bind _ (agj (s:=av.mk g s.fC s.fR s.fT s.fK s.dH s.bA) (q.turn hg q.cur q.kept _)) λu ⟨hu,hx,hw⟩=>.ret ⟨?_,hu.2.1,hu.2.2⟩;have hr:=hu.1.cur.reg.w;have hq:jv (aD.mk 0 u.fC.fY u.fC.dz u.fC.bO u.fC.bB u.fC.aF) u.fR:=by rw[hw];exact hu.1.cur.xw ak ak
 exact hu.1.turn (mJ.refl hu.1.grid) hq hu.1.kept _
theorem arF{s:av}(q:jl s)(r w:Int)(ins auto:Bool):Yields (Dz s r w ins auto) (jf s):=by
 unfold Dz;have h2:=q.cur.reg.w;refine .call q.ok (.ite (λ_=>.ret (jf.refl q)) λh=>.chk bS ?_);have hw:1<=w/\w<=2/\w<=s.fR.fW:=by grind
 have hr:1<=r/\r<=1114111:=by grind
 refine .cut (λo=>∃ t,o = .go t/\jf s t) (.ite (λ_=>.bind _ (agk q.nw) λt ht=>.ret ⟨t,rfl,ht⟩) λ_=>.ret ⟨s,rfl,jf.refl q⟩) ?_;rintro o ⟨s1,rfl,k1⟩;have e1:s1.fR=s.fR:=k1.2.1;have x1:=k1.1.cur.x;refine .go (.cut (λo=>∃ t,o = .go t/\jl (nw t)/\t.fR=s.fR/\t.fK.iw=s.fK.iw) ?_ ?_)
 . refine .ite (λh=>.ite (λ_=>.bind _ (agk k1.1.nw) λt ht=>.ret ⟨t,rfl,ht.1.nw,ht.2.1.trans e1,ht.2.2.trans k1.2.2⟩) λ_=>.chk (alG ak (by rw[e1] at x1;omega)) (.ret ⟨_,rfl,?_,e1,k1.2.2⟩)) λ_=>.ret ⟨s1,rfl,k1.1.nw,e1,k1.2.2⟩;have h:w=2/\s1.fC.fX=s.fR.fW-1:=by grind
   have hq:jv (aD.mk (s1.fC.fX-1) s1.fC.fY false s1.fC.bO s1.fC.bB s1.fC.aF) s1.fR:=k1.1.cur.xw ak (by rw[e1];rw[e1] at x1;omega);exact k1.1.turn (mJ.refl k1.1.grid) hq k1.1.kept _
 rintro o ⟨s2,rfl,q2,e2,c2⟩;have x2:0<=s2.fC.fX/\s2.fC.fX<s2.fR.fW:=q2.cur.x;have p2:mE s2.fC.bB:=q2.cur.pen;rw[e2] at x2;refine .go (.chk bS (.cut (λo=>∃ l,o = .go l/\ah l<=1/\∀ f∈l,Ii f) (.ite (λ_=>.bind _ (vV p2) λp hp=>.bind _ (XG _ _ _ _) λf hf=>.chk (vG ak ak ak) (.ret ⟨_,rfl,by simp[ah],Gz hf⟩)) λ_=>.ret ⟨_,rfl,by simp[ah],λf hf=>by cases hf⟩) ?_));rintro o ⟨l,rfl,hl,hs⟩;have hn:=bW l;refine .go (.chk (vG ak ak ak) (.bind _ (aap (s:=s2) q2.grid q2.yl.1 q2.yl.2 _ (by simp only[bK,bE,bP];omega) ?_) λt ⟨g,e,hg⟩=>.chk bS (.ret ?_)))
 . intro f hf;rcases CJ.1 hf with hf|hf
   . exact hs f hf
   rw[fQ.1 hf];intro r' q';show Yields (zm r' _ _ _ _ _ _ _ _ _) _;unfold zm;refine .bind _ (avH q' _ _) λt ht=>.ite (λ_=>.ret ⟨⟨ht.1.pos,ht.1.top,?_,ht.1.fit,ht.1.pair⟩,ht.2⟩) λ_=>.ret ⟨⟨ht.1.pos,ht.1.top,?_,ht.1.fit,ht.1.pair⟩,ht.2⟩
   . exact q2.dir
   exact q2.dir
 subst e;have hm:0<=aP (s2.fC.fX+w) (s.fR.fW-1)/\aP (s2.fC.fX+w) (s.fR.fW-1)<s.fR.fW/\(s.fR.fW-1<s2.fC.fX+w->aP (s2.fC.fX+w) (s.fR.fW-1)=s.fR.fW-1):=by
  unfold aP;split<;>omega
 have hq : ∀ b:Bool,(b=true->s.fR.fW-1<s2.fC.fX+w)->jv (aD.mk (aP (s2.fC.fX+w) (s.fR.fW-1)) s2.fC.fY b s2.fC.bO s2.fC.bB s2.fC.aF) s2.fR:=λb hb=>
  ⟨q2.cur.reg,⟨hm.1,by rw[e2];exact hm.2.1⟩,q2.cur.y,λh=>by rw[e2];exact hm.2.2 (hb h),q2.cur.org,q2.cur.pen,q2.cur.set⟩
 exact⟨q2.turn hg (hq _ (by grind)) q2.kept _,e2,c2⟩
theorem anD{s:av}(q:jl s)(m:Int):Yields (FH s m) (λt=>jf s t/\t.fC=s.fC):=by
 unfold FH;have hx:=q.cur.x;have hw:=q.cur.reg.w;refine .call q.ok (.ite (λ_=>.ret ⟨jf.refl q,rfl⟩) λ_=>.cut (λo=>∃ a,o = .go a) (.ite (λ_=>.chk bS (.ret ⟨_,rfl⟩)) λ_=>.ret ⟨_,rfl⟩) ?_);rintro o ⟨a,rfl⟩;refine .go (.cut (λo=>o = .go ()\/o = .out s) (.ite (λ_=>.ret (.inr rfl)) λ_=>.ret (.inl rfl)) ?_);rintro o (rfl|rfl)
 . refine .go (.bind _ (aap q.grid q.yl.1 q.yl.2 _ (by simp[ah]) (Gz ?_)) λt ⟨g,e,hg⟩=>.ret ?_)
   . intro r qr;show Yields (F9 r _ _) _;exact .bind _ (atf qr _ _) λt h=>.ret h
   subst e;exact⟨⟨q.turn hg q.cur q.kept _,rfl,rfl⟩,rfl⟩
 exact .out ⟨jf.refl q,rfl⟩
theorem aeO{s:av}(q:jl s):Yields (yA s) (jf s):=by
 unfold yA;exact .call q.ok (.ite (λ_=>.ret (jf.refl q)) λ_=>.bind _ (agj q.nw) λt h=>.ret h.1)
theorem avs{s:av}(q:jl s):Yields (MK s) (jf s):=by
 unfold MK;have hr:=q.cur.reg;have h1:=hr.h;have h3:=hr.t;have hy:=q.cur.y;refine .call q.ok (.ite (λ_=>.ret (jf.refl q)) λ_=>.ite (λ_=>.bind mE (vV q.cur.pen) λp hp=>.bind _ (aeY q.grid _ _ 1 p hp) λg hg=>.ret ⟨q.turn hg q.cur.nw q.kept _,rfl,rfl⟩) λh=>.chk bS (.ret ⟨q.turn (mJ.refl q.grid) ?_ q.kept _,rfl,rfl⟩));have h:s.fC.fY≠s.fR.gJ:=by simpa using h
 have hm:0<=aY (s.fC.fY-1) 0/\aY (s.fC.fY-1) 0<s.fR.fH/\aY (s.fC.fY-1) 0<=s.fC.fY/\s.fC.fY-1<=aY (s.fC.fY-1) 0:=by unfold aY;split<;>omega
 exact⟨hr,q.cur.x,⟨hm.1,hm.2.1⟩,λh=>(by cases h),λho=>(by
  have:=q.cur.org ho;simp only;omega),q.cur.pen,q.cur.set⟩
theorem OP{s:av}(q:jl s){l:List FV}(hl:ah l<=100000)(hs : ∀ f∈l,Ii f) :
  Yields (au (kQ s l) λv=>some (av.mk v.fG (aD.mk v.fC.fX v.fC.fY false v.fC.bO v.fC.bB v.fC.aF) v.fR v.fT v.fK v.dH v.bA)) (jf s) :=
 .bind _ (aap q.grid q.yl.1 q.yl.2 l hl hs) λt ⟨g,e,hg⟩=>.ret (by subst e;exact⟨q.turn hg q.cur.nw q.kept _,rfl,rfl⟩)
theorem TL{s:av}(q:jl s)(k:Int):Yields (oZ s k) (jf s):=by
 unfold oZ;have hx:=q.cur.x;have hw:=q.cur.reg.w;refine .bind _ (vV q.cur.pen) λp hp=>.ite (λ_=>.bind _ (Ls _ _ _) λf hf=>.bind _ (Oc _) λf2 hf2=>OP q (by simp[ah]) (abZ hf hf2)) λ_=>.ite (λ_=>.chk bS (.bind _ (Ls _ _ _) λf hf=>OP q (by simp[ah]) (Gz hf))) λ_=>.ite (λ_=>.bind _ (Ls _ _ _) λf hf=>.bind _ (Oc _) λf2 hf2=>OP q (by simp[ah]) (abZ hf hf2)) λ_=>.ret (jf.refl q)
theorem ah3{s:av}(q:jl s)(k:Int):Yields (vX s k) (jf s):=by
 unfold vX;exact .call q.ok (.ite (λ_=>.ret (jf.refl q)) λ_=>.bind _ (TL q k) λt h=>.ret h)
theorem abP{s:av}(q:jl s)(k:Int):Yields (vY s k) (jf s):=by
 unfold vY;refine .call q.ok (.ite (λ_=>.ret (jf.refl q)) λ_=>.bind _ (vV q.cur.pen) λp hp=>.ite (λ_=>?_) λ_=>.ite (λ_=>?_) λ_=>.ite (λ_=>?_) λ_=>.ite (λ_=>?_) λ_=>.ret (jf.refl q))
 . refine .bind _ (TL q 0) λt ht=>.chk ?_ (.bind _ (aeX ht.1.grid _ _ p hp) λg hg=>.ret ⟨ht.1.turn hg ht.1.cur.nw ht.1.kept _,ht.2.1,ht.2.2⟩);have h1:=ht.1.cur.y;have h2:=ht.1.cur.reg.h;exact bS
 . exact .bind _ (TL q 1) λt ht=>.bind _ (aeX ht.1.grid _ _ p hp) λg hg=>.ret ⟨ht.1.turn hg ht.1.cur.nw ht.1.kept _,ht.2.1,ht.2.2⟩
 . exact .bind _ (aeX q.grid _ _ p hp) λg hg=>.ret ⟨q.turn hg q.cur.nw q.kept _,rfl,rfl⟩
 refine .bind _ (af6 _) λk hk=>.ret ⟨q.turn (mJ.refl q.grid) q.cur.nw hk.1 _,rfl,?_⟩;simp only;rw[hk.2];have:=q.kept.cap;unfold aY aP
 (repeat' split)<;>omega
theorem ah2{s:av}(q:jl s)(n:Int):Yields (uO s n) (jf s):=by
 unfold uO;have hx:=q.cur.x;have hw:=q.cur.reg.w;have c:=N9 n s.fR.fW ak;exact .call q.ok (.ite (λ_=>.ret (jf.refl q)) λ_=>.chk bS (.bind _ (vV q.cur.pen) λp hp=>.bind _ (Ls _ _ _) λf hf=>OP q (by simp[ah]) (Gz hf)))
theorem agX{s:av}(q:jl s)(n:Int):Yields (sQ s n) (jf s):=by
 unfold sQ;exact .call q.ok (.ite (λ_=>.ret (jf.refl q)) λ_=>.bind _ (vV q.cur.pen) λp hp=>.bind _ (XG _ _ _ _) λf hf=>OP q (by simp[ah]) (Gz hf))
theorem agY{s:av}(q:jl s)(n:Int):Yields (sS s n) (jf s):=by
 unfold sS;refine .call q.ok (.ite (λ_=>.ret (jf.refl q)) λ_=>.bind _ (vV q.cur.pen) λp hp=>.bind _ (Oc _) λf hf=>OP q (by simp[ah]) (abZ ?_ hf));intro r qr;show Yields (qd r _ _ _ _ _) _;unfold qd;exact .bind _ (apa qr _ _ _ _) λt h=>.ret h
theorem ah0{s:av}(q:jl s)(n:Int):Yields (uP s n) (jf s):=by
 unfold uP;have hw:=q.cur.reg.w;exact .call q.ok (.bind _ (.guard λ_=>akO _ _) λv hv=>.ite (λ_=>.ret (jf.refl q)) λ_=>.bind _ (vV q.cur.pen) λp hp=>.bind _ (aeY q.grid _ _ _ p hp) λg hg=>.ret ⟨q.turn hg (q.cur.xw ak ak) q.kept _,rfl,rfl⟩)
theorem ah1{s:av}(q:jl s)(n:Int):Yields (uQ s n) (jf s):=by
 unfold uQ;have hw:=q.cur.reg.w;exact .call q.ok (.bind _ (.guard λ_=>akO _ _) λv hv=>.ite (λ_=>.ret (jf.refl q)) λ_=>.bind _ (vV q.cur.pen) λp hp=>.bind _ (ath q.grid _ _ _ p hp) λg hg=>.ret ⟨q.turn hg.1 (q.cur.xw ak ak) q.kept _,rfl,rfl⟩)
theorem ahZ{s:av}(q:jl s)(n:Int)(hn : -1000000<=n):Yields (wY s n) (jf s):=by
 unfold wY;have h1:=q.cur.reg.h;refine .call q.ok (.ite (λ_=>.ret (jf.refl q)) λ_=>.ite (λ_=>.bind _ (akP q n) λt h=>.ret h.1) λh=>.cut (λo=>∃ m,o = .go m/\-1000000<=m/\m<=0) (.ite (λ_=>.chk bS (.ret ⟨_,rfl,ak,ak⟩)) λ_=>.ret ⟨n,rfl,hn,by simp at h;omega⟩) ?_);rintro o ⟨m,rfl,m0,m1⟩;exact .go (.chk bS (.bind _ (vV q.cur.pen) λp hp=>.bind _ (aeY q.grid _ _ _ p hp) λg hg=>.ret ⟨q.turn hg q.cur q.kept _,rfl,rfl⟩))
theorem alv{s:av}(q:jl s)(n:Int)(hn : -1000000<=n/\n<=1000000):Yields (Ag s n) (jf s):=by
 unfold Ag;have ht:=q.tw;have fin : ∀ x,0<=x/\x<s.fT.fW->jf s (av.mk s.fG (aD.mk x s.fC.fY false s.fC.bO s.fC.bB s.fC.aF) s.fR s.fT s.fK s.dH s.bA):=λx hx=>
  ⟨q.turn (mJ.refl q.grid) (q.cur.xw hx.1 ak) q.kept _,rfl,rfl⟩
 exact .call q.ok (.ite (λ_=>.ret (jf.refl q)) λ_=>.ite (λ_=>.bind _ (atm q.tab _ n ak) λx hx=>.ret (fin x hx)) λ_=>.ite (λ_=>.bind _ (anC q.tab _ _) λx hx=>.ret (fin x hx)) λ_=>.chk bS (.bind _ (anC q.tab _ _) λx hx=>.ret (fin x hx)))
end Go.Vx
end
section
namespace Go.Vx
set_option maxRecDepth 100000
theorem atn{x:Nat} : x &&& (x-1)=0↔x=0\/∃ k,x=2 ^ k:=by
 by_cases h:x=0
 . subst h;simp
 rw[Nat.and_sub_one_eq_zero_iff_isPowerOfTwo h];exact⟨λ⟨k,e⟩=>.inr ⟨k,e⟩,λh2=>h2.elim (λe=>absurd e h) λ⟨k,e⟩=>⟨k,e⟩⟩
def One(b m:Nat):Prop:=∀ i j,m.testBit i=true->m.testBit j=true->b.testBit i=true->b.testBit j=true->i=j
theorem arG{b m:Nat} : (b &&& m) &&& ((b &&& m)-1)=0↔One b m:=by
 rw[atn];constructor
 . rintro(h|⟨k,h⟩) i j mi mj bi bj
   . have:=congrArg (λx=>x.testBit i) h;simp[mi,bi] at this
   have hi:=congrArg (λx=>x.testBit i) h;have hj:=congrArg (λx=>x.testBit j) h;simp only[Nat.testBit_and,mi,bi,mj,bj,Bool.and_self,ada] at hi hj;have:=of_decide_eq_true hi.symm;have:=of_decide_eq_true hj.symm;omega
 intro h
 by_cases h0:b &&& m=0
 . exact .inl h0
 obtain⟨k,hk⟩:=Nat.exists_testBit_of_ne_zero h0;simp only[Nat.testBit_and,ig] at hk;refine .inr ⟨k,Nat.eq_of_testBit_eq λi=>?_⟩;rw[ada,Nat.testBit_and]
 by_cases hi:b.testBit i=true/\m.testBit i=true
 . have:=h i k hi.2 hk.2 hi.1 hk.1;subst this;simp[hi.1,hi.2]
 have hik:k≠i:=λe=>by subst e;exact hi ⟨hk.1,hk.2⟩
 simp only[hik,decide_false,Bool.and_eq_false_imp];intro hb;cases hm:m.testBit i with
 | true=>exact absurd ⟨hb,hm⟩ hi
 | false=>rfl
theorem wrapN{n:Nat}(h:n<4611686018427387904):IntKind.wrap .i64 (n:Int)=n:=by
 have m1:IntKind.min .i64 = -9223372036854775808:=qZ;have m2:IntKind.max .i64=9223372036854775807:=qZ;exact J9 .i64 _ ak
theorem ofN(a:Nat):BitVec.ofInt (IntKind.bits .i64) (a:Int)=BitVec.ofNat 64 a:=by
 apply BitVec.eq_of_toNat_eq;show(BitVec.ofInt 64 (a:Int)).toNat=(BitVec.ofNat 64 a).toNat;simp
theorem aeZ{a c:Nat}(ha:a<4611686018427387904)(hc:c<4611686018427387904):jm .i64 a c=((a &&& c:Nat):Int):=by
 unfold jm;rw[ofN,ofN];show IntKind.wrap .i64 ((BitVec.ofNat 64 a &&& BitVec.ofNat 64 c).toNat:Int)=_;rw[BitVec.toNat_and,adb,adb,VO (show a<2 ^ 64 by omega),VO (show c<2 ^ 64 by omega)];exact wrapN (Nat.lt_of_le_of_lt Nat.and_le_left ha)
theorem akE{a c:Nat}(ha:a<2 ^ 61)(hc:c<2 ^ 61):oW .i64 a c=((a ||| c:Nat):Int):=by
 unfold oW;rw[ofN,ofN];show IntKind.wrap .i64 ((BitVec.ofNat 64 a ||| BitVec.ofNat 64 c).toNat:Int)=_;rw[BitVec.toNat_or,adb,adb,VO (show a<2 ^ 64 by omega),VO (show c<2 ^ 64 by omega)];have:=Nat.or_lt_two_pow ha hc;exact wrapN ak
theorem L8{a c:Nat}(ha:a<4611686018427387904)(hc:c<4611686018427387904) : ∃ n:Nat,uH .i64 a c=n/\n<=a/\∀ i,n.testBit i=(a.testBit i && !c.testBit i):=by
 unfold uH;rw[ofN,ofN];have hle:(BitVec.ofNat 64 a &&& ~~~BitVec.ofNat 64 c).toNat<=a:=by
  rw[BitVec.toNat_and];refine QL Nat.and_le_left ?_;rw[adb];exact Nat.mod_le _ _
 refine⟨(BitVec.ofNat 64 a &&& ~~~BitVec.ofNat 64 c).toNat,?_,hle,λi=>?_⟩
 . show IntKind.wrap .i64 ((BitVec.ofNat 64 a &&& ~~~BitVec.ofNat 64 c).toNat:Int)=_;exact wrapN ak
 rw[BitVec.testBit_toNat,BitVec.getLsbD_and,BitVec.getLsbD_not,BitVec.getLsbD_ofNat,BitVec.getLsbD_ofNat]
 by_cases h:i<64
 . simp[h]
 have:a.testBit i=false:=Nat.testBit_lt_two_pow (Ef ha (QL (show 4611686018427387904<=2 ^ 64 by decide) (ade qZ ak)));simp[h,this]
structure VP (m:eG):Prop where
 ex : ∃ b:Nat,m.qh=b/\b<2 ^ 24/\One b 28800/\One b 196608
theorem abo{b m:Nat}(hb:b<2 ^ 24)(hm:m<2 ^ 24):Says (zn (jm .i64 b (m:Int))) (One b m):=by
 unfold zn;rw[aeZ ak ak];have h0:b &&& m<=m:=Nat.and_le_right;refine .chk bS (.ret ?_);rw[← arG];generalize b &&& m=x at h0
 by_cases hx:x=0
 . subst hx;exact⟨λ_=>rfl,λ_=>by decide⟩
 rw[show(x:Int)-1=((x-1:Nat):Int) by omega,aeZ ak ak];simp only[beq_iff_eq];omega
theorem O1(m:eG):Says (rT m) (VP m):=by
 unfold rT;refine .ite (λh=>.no ?_) λh=>?_
 . rintro⟨b,e,hb,_⟩;rw[e] at h;simp only[Bool.if_true_left,Oe,decide_eq_true_eq] at h;omega
 have h : ¬ m.qh<0/\¬ 16777216<=m.qh:=by
  constructor<;>intro hc<;>simp[hc] at h
 obtain⟨b,hb⟩ : ∃ b:Nat,m.qh=b:=⟨m.qh.toNat,ak⟩
 rw[hb] at h ⊢;refine .bind _ (abo (m:=28800) ak ak) λv hv=>.bind _ (.guard (c:=v) λ_=>abo (m:=196608) ak ak) λw hw=>.ret ?_;have e:VP m↔One b 28800/\One b 196608:=⟨λ⟨b',e,_,h1,h2⟩=>by rw[hb] at e;cases Int.ofNat.inj e;exact⟨h1,h2⟩,λh'=>⟨b,hb,ak,h'.1,h'.2⟩⟩
 rw[e];grind
theorem abQ : ∃ m,zR=some m/\VP m:=by
 obtain⟨m,h⟩ : ∃ m,zR=some m:=⟨_,rfl⟩
 have hs:rT m=some true:=by
  have:au zR rT=some true:=by kernel_rfl
  rw[h] at this;exact this
 exact⟨m,h,(O1 m).got hs⟩
def ain(o:Fl Unit Int):Prop:=o = .go ()\/∃ v:Int,o = .out v/\0<=v/\v<=23
theorem anE{c:Bool}{k:Int}{X:Option (Fl Unit Int)}(hk:0<=k/\k<=23)(hX:Yields X ain) :
  Yields (aO (aA c (some (.out (.out k))) (chk (aU .i64 (k+1)) (some (.go ())))) λ(_:Unit)=>X) ain:=by
 refine .cut (λo=>o = .go ()\/o = .out (.out k)) (.ite (λ_=>.ret (.inr rfl)) λ_=>.chk bS (.ret (.inl rfl))) ?_;rintro o (rfl|rfl)
 . exact .go hX
 exact .out (.inr ⟨k,rfl,hk⟩)
theorem aeS(p:Bool)(n:Int):Yields (yB p n) (λv=>-1<=v/\v<=23):=by
 unfold yB;refine .cut ain ?_ ?_
 . repeat (with_reducible refine anE ak ?_)
   exact .ret (.inl rfl)
 rintro o (rfl|⟨v,rfl,h⟩)
 . exact .go (.ret bH)
 exact .out ak
theorem ae0{k:Nat}(h:k<=23):zh .i64 1 (k:Int)=((2 ^ k:Nat):Int):=by
 unfold zh;rw[show min (k:Int).toNat (IntKind.bits .i64)=k by show min _ 64=k;omega];have h2:2 ^ k<=2 ^ 23:=ade qZ h;rw[show(1:Int)*2 ^ k=((2 ^ k:Nat):Int) by simp];exact wrapN ak
theorem Vw(m:eG)(p:Bool)(n:Int):Yields (qV m p n) (λ_=>True):=by
 unfold qV;exact .bind _ (aeS p n) λv hv=>.bind _ (O1 m) λw hw=>.chk (λh=>by grind) (.ret trivial)
theorem aio{k m:Nat}(hk:k<=23)(hm:m<2 ^ 24):(!(jm .i64 (zh .i64 1 (k:Int)) (m:Int))==0)=m.testBit k:=by
 rw[ae0 hk];have h2:2 ^ k<=2 ^ 23:=ade qZ hk;rw[aeZ ak ak];cases hm':m.testBit k with
 | false=>
  have:2 ^ k &&& m=0:=Nat.eq_of_testBit_eq λi=>by
   rw[Nat.testBit_and,ada]
   by_cases h:k=i
   . subst h;simp[hm']
   simp[h]
  rw[this];rfl
 | true=>
  have:2 ^ k &&& m≠0:=λh=>by
   have:=congrArg (λx=>x.testBit k) h;simp[hm'] at this
  generalize 2 ^ k &&& m=x at this;cases x with
  | zero=>exact absurd rfl this
  | succ n=>
   rw[Ij];exact beq_eq_false_iff_ne.2 ak
theorem aaq{b c k:Nat}(hb:b<2 ^ 24)(h1:One b 28800)(h2:One b 196608)(hk:k<=23)(hs : ∀ i,c.testBit i=true->b.testBit i=true)(hc:c<=b)
  (m1:Nat.testBit 28800 k=true->∀ i,Nat.testBit 28800 i=true->c.testBit i=false) (m2:Nat.testBit 196608 k=true->∀ i,Nat.testBit 196608 i=true->c.testBit i=false) :
  VP (eG.mk (oW .i64 (c:Int) (zh .i64 1 (k:Int)))):=by
 have hp:2 ^ k<=2 ^ 23:=ade qZ hk;refine⟨c ||| 2 ^ k,?_,?_,?_,?_⟩
 . rw[ae0 hk];exact akE ak ak
 . exact Nat.or_lt_two_pow ak ak
 . intro i j mi mj bi bj;rw[Nat.testBit_or,ada] at bi bj;have e:=h1 i j mi mj;have:=m1;grind
 intro i j mi mj bi bj;rw[Nat.testBit_or,ada] at bi bj;have e:=h2 i j mi mj;have:=m2;grind
theorem ahK{m:eG}(q:VP m)(p:Bool)(n:Int)(on:Bool):Yields (He m p n on) VP:=by
 unfold He;refine .call ((O1 m).ok q) (.ite (λh=>by cases h) λ_=>.bind _ (aeS p n) λv hv=>.ite (λ_=>.ret q) λh=>?_);have h:0<=v:=by simpa using h
 obtain⟨k,rfl⟩ : ∃ k:Nat,v=k:=⟨v.toNat,ak⟩
 have hk:k<=23:=ak;obtain⟨b,e,hb,h1,h2⟩:=q;have hp:2 ^ k<=2 ^ 23:=ade qZ hk;rw[e];refine .chk ak (.ite (λ_=>.ret ?_) λ_=>.ite (λc1=>.ite (λc2=>.ret ?_) λc2=>.ret ?_) λc1=>.ite (λc2=>.ret ?_) λc2=>.ret ?_)
 . obtain⟨x,e1,e2,e3⟩:=L8 (a:=b) (c:=2 ^ k) ak ak;rw[ae0 hk];refine⟨x,e1,ak,λi j mi mj bi bj=>h1 i j mi mj ?_ ?_,λi j mi mj bi bj=>h2 i j mi mj ?_ ?_⟩<;>simp_all
 all_goals
  have g1:=aio (k:=k) (m:=28800) hk ak;have g2:=aio (k:=k) (m:=196608) hk ak;have c1:=g1.symm.trans c1;have c2:=g2.symm.trans c2;obtain⟨x,e1,l1,t1⟩:=L8 (a:=b) (c:=28800) ak ak
 . obtain⟨y,e2,l2,t2⟩:=L8 (a:=x) (c:=196608) ak ak;rw[show uH .i64 (b:Int) 28800=x from e1,show uH .i64 (x:Int) 196608=y from e2];exact aaq hb h1 h2 hk (λi h=>by rw[t2,t1] at h;grind) ak (λ_ i hi=>by rw[t2,t1];simp[hi]) λ_ i hi=>by rw[t2];simp[hi]
 . rw[show uH .i64 (b:Int) 28800=x from e1];exact aaq hb h1 h2 hk (λi h=>by rw[t1] at h;grind) ak (λ_ i hi=>by rw[t1];simp[hi]) λh=>by rw[c2] at h;cases h
 . obtain⟨y,e2,l2,t2⟩:=L8 (a:=b) (c:=196608) ak ak;rw[show uH .i64 (b:Int) 196608=y from e2];exact aaq hb h1 h2 hk (λi h=>by rw[t2] at h;grind) ak (λh=>by rw[c1] at h;cases h) λ_ i hi=>by rw[t2];simp[hi]
 exact aaq hb h1 h2 hk (λi h=>h) ak (λh=>by rw[c1] at h;cases h) λh=>by rw[c2] at h;cases h
end Go.Vx
end
section
namespace Go.Vx
set_option maxRecDepth 100000
def oU(r:bG):bG:=bG.mk r.fH r.fW 0 r.fH
structure je (s:ay):Prop where
 main:jl s.aI
 other:jl s.aM
 m:VP s.fM
 h:s.aM.fR.fH=s.aI.fR.fH
 w:s.aM.fR.fW=s.aI.fR.fW
 s0:jv s.aC.x0 (oU s.aI.fR)
 s1:jv s.aC.x1 (oU s.aI.fR)
 out:ah s.iL<=4096
 title:bn s.fO<=1024
 last:0<=s.fZ/\s.fZ<=1114111
theorem akL(s:ay):Says (rR s) (je s):=by
 unfold rR;refine .bind _ (abY _) λv hv=>.bind _ (.guard λ_=>abY _) λv1 h1=>.bind _ (.guard λ_=>O1 _) λv2 h2=>.ite (λh=>.no λq=>?_) λh=>?_
 . have:=q.main;have:=q.other;have:=q.m;grind
 have hm:jl s.aI/\jl s.aM/\VP s.fM:=by grind
 refine .call rfl (.call rfl (.ite (λh=>.no λq=>?_) λh=>?_))
 . have:=q.h;have:=q.w;simp only at h;grind
 have hd:s.aM.fR.fH=s.aI.fR.fH/\s.aM.fR.fW=s.aI.fR.fW:=by
  simp only at h;grind
 have i1:aU .i64 (0+1):=bS;have i2:aU .i64 (1+1):=bS;refine .cut (λo=>QK (jv s.aC.x0 (oU s.aI.fR)/\jv s.aC.x1 (oU s.aI.fR)) o false) ?_ ?_
 . refine .cut (λo=>o = .go ()/\jv s.aC.x0 (oU s.aI.fR)\/o = .out (.out false)/\¬ jv s.aC.x0 (oU s.aI.fR)) (QK.test (Dl _ _) i1 (λp=>.inl ⟨rfl,p⟩) (λp=>.inr ⟨rfl,p⟩)) ?_;rintro o (⟨rfl,p0⟩|⟨rfl,p0⟩)
   . refine .go (.cut (λo=>o = .go ()/\jv s.aC.x1 (oU s.aI.fR)\/o = .out (.out false)/\¬ jv s.aC.x1 (oU s.aI.fR)) (QK.test (Dl _ _) i2 (λp=>.inl ⟨rfl,p⟩) (λp=>.inr ⟨rfl,p⟩)) ?_);rintro o (⟨rfl,p1⟩|⟨rfl,p1⟩)
     . exact .go (.ret (.inl ⟨rfl,p0,p1⟩))
     exact .out (.inr ⟨rfl,λh=>p1 h.2⟩)
   exact .out (.inr ⟨rfl,λh=>p0 h.1⟩)
 rintro o (⟨rfl,p⟩|⟨rfl,p⟩)
 . refine .go (.ite (λh=>.no λq=>?_) λh=>.ret ?_)
   . have:=q.out;have:=q.title;grind
   have e:je s↔0<=s.fZ/\s.fZ<=1114111:=⟨λq=>q.last,λl=>⟨hm.1,hm.2.1,hm.2.2,hd.1,hd.2,p.1,p.2,by grind,by grind,l⟩⟩
   rw[e];grind
 exact .out ⟨λh=>(by cases h),λq=>absurd ⟨q.s0,q.s1⟩ p⟩
theorem je.ok{s:ay}(q:je s):rR s=some true:=(akL s).ok q
def act(s:ay):av:=if s.jA=true then s.aM else s.aI
def upd(s:ay)(x:av)(l:Int):ay:=ay.mk (if s.jA=true then s.aI else x) (if s.jA=true then x else s.aM) s.jA s.fM s.aC s.iL s.fO l
theorem rz(s:ay):eH s=some (act s):=by
 unfold eH act;cases h:s.jA<;>simp[aA]
theorem pF(s:ay)(x:av):iY s x=some (upd s x s.fZ):=by
 unfold iY upd;cases h:s.jA<;>simp[aA]
theorem arH(s:ay)(x:av)(l:Int):act (upd s x l)=x:=by
 unfold act upd;cases s.jA<;>rfl
theorem arI(s:ay)(x y:av)(l k:Int):upd (upd s x l) y k=upd s y k:=by
 unfold upd;cases s.jA<;>rfl
theorem arJ(s:ay):upd s (act s) s.fZ=s:=by
 unfold upd act;cases h:s.jA<;>simp[h]<;>(obtain⟨a,b,c,d,e,f,g,k⟩:=s;simp at h;subst h;rfl)
theorem je.act{s:ay}(q:je s):jl (act s):=by
 unfold Go.Vx.act;cases s.jA
 . exact q.main
 exact q.other
theorem je.upd{s:ay}(q:je s){x:av}(hx:jl x)(hh:x.fR.fH=(Go.Vx.act s).fR.fH)(hw:x.fR.fW=(Go.Vx.act s).fR.fW){l:Int}(hl:0<=l/\l<=1114111):je (upd s x l):=by
 have h:=q.h;have w:=q.w;have s0:=q.s0;have s1:=q.s1;unfold Go.Vx.act at hh hw;have e0:x.fR.fH=s.aI.fR.fH/\x.fR.fW=s.aI.fR.fW:=by
  cases hb:s.jA<;>simp[hb] at hh hw<;>omega
 have ew:oU x.fR=oU s.aI.fR:=by unfold oU;rw[e0.1,e0.2]
 obtain⟨a,b,c,d,e,f,g,k⟩:=s;cases c
 . exact⟨hx,q.other,q.m,h.trans e0.1.symm,w.trans e0.2.symm,by show jv _ (oU x.fR);rw[ew];exact s0,by show jv _ (oU x.fR);rw[ew];exact s1,q.out,q.title,hl⟩
 exact⟨q.main,hx,q.m,e0.1,e0.2,s0,s1,q.out,q.title,hl⟩
def Moved(s t:ay):Prop:=∃ x l,jf (act s) x/\t=upd s x l/\0<=l/\l<=1114111
theorem Moved.of{s:ay}(q:je s){x:av}(h:jf (act s) x):Moved s (upd s x s.fZ):=⟨x,_,h,rfl,q.last⟩
theorem Moved.refl{s:ay}(q:je s):Moved s s:=⟨act s,s.fZ,jf.refl q.act,(arJ s).symm,q.last⟩
theorem Moved.q{s t:ay}(q:je s)(h:Moved s t):je t:=by
 obtain⟨x,l,k,rfl,hl⟩:=h;exact q.upd k.1 (by rw[k.2.1]) (by rw[k.2.1]) hl
theorem Moved.trans{s t u:ay}(h:Moved s t)(k:Moved t u):Moved s u:=by
 obtain⟨x,l,h1,rfl,h2⟩:=h;obtain⟨y,m,k1,rfl,k2⟩:=k;rw[arH] at k1;exact⟨y,m,h1.trans k1,arI s x y l m,k2⟩
theorem aeM{s:av}(q:jl s){c:bQ}(h:zW c):jf s (av.mk s.fG (aD.mk s.fC.fX s.fC.fY s.fC.dz s.fC.bO s.fC.bB c) s.fR s.fT s.fK s.dH s.bA) :=
 have hq:jv (aD.mk s.fC.fX s.fC.fY s.fC.dz s.fC.bO s.fC.bB c) s.fR:=⟨q.cur.reg,q.cur.x,q.cur.y,q.cur.wrap,q.cur.org,q.cur.pen,h⟩
 ⟨q.turn (mJ.refl q.grid) hq q.kept _,rfl,rfl⟩
theorem OI{s:av}(q:jl s){c:aD}(h:jv c s.fR):jf s (av.mk s.fG c s.fR s.fT s.fK s.dH s.bA):=⟨q.turn (mJ.refl q.grid) h q.kept _,rfl,rfl⟩
theorem ahJ{s:ay}(q:je s){d:bL}(r:Int)(hd:Tot (Hf d r)):Yields (wZ s d r) (Moved s):=by
 unfold wZ;refine .call (rz s) (.bind _ hd.yields λw _=>.ite (λ_=>.bind _ (anD q.act r) λt ht=>.call (pF s t) (.ret (Moved.of q ht.1))) λ_=>.bind _ (Vw _ _ _) λa _=>.bind _ (Vw _ _ _) λb _=>.bind _ (arF q.act r w a b) λt ht=>.call (pF s t) (.ret ⟨t,_,ht,rfl,?_⟩));unfold aY aP
 (repeat' split)<;>omega
end Go.Vx
end
section
namespace Go.Vx
set_option maxRecDepth 100000
def aqv(l:List aR):Prop:=ah l<=100000/\∀ i,0<=i->i<ah l->ah (aB aH l i).aN<=100000
structure aBb (x:dZ):Prop where
 g:aqv x.fG.aK
 k:aqv x.fK.aK
 t:ah x.fT.fL<=100000
end Go.Vx
end
section
namespace Go.Vx
set_option maxRecDepth 100000
def M8(d:bL):Prop:=∀ r,Tot (Hf d r)
theorem arA{d:bL}(h1:ah d.Eb.fL<=100000)(h2 : ∀ i,0<=i->i<ah d.Eb.fL->(aB ny d.Eb.fL i).fV<=100000):M8 d:=λr=>by
 unfold Hf Eh;refine Tot.of (Q:=λ_=>True) (.bind (λv=>v<=100000) (.cut (λo=>o = .go ()\/∃ v:Int,o = .out v/\v<=100000) ?_ ?_) λv hv=>.ite (λh=>.chk (alG ?_ ?_) (.ret trivial)) λ_=>.ret trivial)
 . have hn:=bW d.Eb.fL;refine .loop (λi=>0<=i/\i<=ah d.Eb.fL) (λi=>(ah d.Eb.fL-i).toNat) ⟨ak,ak⟩ ?_;rintro i ⟨i0,i1⟩;refine .ite (λh=>?_) λ_=>.ret (.inl rfl);have h:i<ah d.Eb.fL:=by simpa using h
   exact .chk ⟨i0,h⟩ (.ite (λ_=>.ret (.inr ⟨_,rfl,h2 i i0 h⟩)) λ_=>.chk bS (.ret ⟨⟨ak,ak⟩,cB⟩))
 . rintro o (rfl|⟨v,rfl,h⟩)
   . exact .go (.ret ak)
   exact .out h
 . have:0<v:=by simpa using h
   omega
 omega
def F6(f:FV):Prop:=∀ s d a,je s->M8 d->Yields (y8 f s d a) (Moved s)
def Dp(f:FV):Prop:=∀ x n,jl x->-10000<=n->n<=10000->Yields (Uu f x n) (jf x)
def ahW(f:FV):Prop:=∀ x n,jl x->Yields (Uu f x n) (jf x)
def alu(f:FV):Prop:=∀ c r n,jv c r->-10000<=n->n<=10000->Yields (adf f c r n) (λt=>jv t r)
theorem aad(l:List (List Int))(k u:Int):Tot (rP l k u):=by
 unfold rP;have hn:=bW l;have hm:=bW (aB [] l k);refine Tot.of (Q:=λ_=>True) (.chk (λh=>by grind) (.chk (λh=>by grind) (.chk (λh=>by grind) (.ite (λ_=>.ret trivial) λh=>.chk (by grind) (.chk (by grind) (.ret trivial))))))
theorem aeQ(l:List (List Int))(k u least most:Int)(h:least<=most):Yields (vZ l k u least most) (λn=>least<=n/\n<=most):=by
 unfold vZ;refine .bind _ (aad l k u).yields λv _=>.ite (λ_=>.ret ?_) λ_=>.ret ?_<;>(unfold aY aP;(repeat' split)<;>omega)
theorem aac(a:aG):Yields (sU a) (λn=>1<=n/\n<=5000):=by
 unfold sU;exact .bind _ (aeQ _ _ _ _ _ ak) λv h=>.ret h
theorem ac0(a:aG):Yields (oF a) (λ_=>True):=by
 unfold oF;exact .bind _ (aad _ _ _).yields λv h=>.ret trivial
theorem akH{f:FV}(h:Dp f):Yields (iA f) F6:=⟨_,rfl,λs d a q _=>by
 show Yields (zq s d a f) _;unfold zq;exact .call (rz s) (.bind _ (aac a) λn hn=>.bind _ (h _ n q.act ak ak) λt ht=>.call (pF s t) (.ret (Moved.of q ht)))⟩
theorem als{f:FV}(h:ahW f):Yields (mW f) F6:=⟨_,rfl,λs d a q _=>by
 show Yields (uR s d a f) _;unfold uR;exact .call (rz s) (.bind _ (ac0 a) λn hn=>.bind _ (h _ n q.act) λt ht=>.call (pF s t) (.ret (Moved.of q ht)))⟩
theorem ahY{f:FV}(h:alu f):Yields (qQ f) F6:=by
 unfold qQ;refine .bind _ (akH λx n q h0 h1=>?_) λv hv=>.ret hv;show Yields (xL x n f) _;unfold xL;exact .bind _ (h _ _ n q.cur h0 h1) λt ht=>.ret (OI q ht)
theorem arv(dy dx:Int)(b:Bool)(h1 : -1<=dy/\dy<=1)(h2 : -1<=dx/\dx<=1):Yields (lH dy dx b) F6:=by
 unfold lH;refine .bind _ (ahY λc r n q n0 n1=>?_) λv hv=>.ret hv;show Yields (zu c r n dy dx b) _;unfold zu;have hd : ∀ d:Int,-1<=d/\d<=1->aU .i64 (d*n):=λd hd=>by
  have:d = -1\/d=0\/d=1:=ak;rcases this with rfl|rfl|rfl<;>exact bS
 exact .chk (hd dy h1) (.chk (hd dx h2) (.bind _ (anf q _ _) λt ht=>.ite (λ_=>.bind _ (abO ht 0) λu hu=>.ret hu.1) λ_=>.ret ht))
theorem as0{c:aD}{r:bG}(q:jv c r){n:Int}(h0 : -10000<=n)(h1:n<=10000):Yields (sW c r n) (λt=>jv t r):=by
 unfold sW;exact .chk bS (.bind _ (abO q _) λt ht=>.ret ht.1)
theorem as2{c:aD}{r:bG}(q:jv c r){n:Int}(h0 : -10000<=n)(h1:n<=10000):Yields (sZ c r n) (λt=>jv t r):=by
 unfold sZ;exact .chk bS (.bind _ (atl q _ _) λt ht=>.ret ht)
theorem arw : ∀ s d a,je s->Yields (DC s d a) (Moved s):=λs d a q=>by
 unfold DC;refine .call (rz s) (.bind _ (aeQ _ _ _ _ _ ak) λv hv=>.bind _ (aac a) λw hw=>.chk bS (.chk bS (.bind _ (atl q.act.cur _ _) λc hc=>.call (pF s _) (.ret (Moved.of q (OI q.act hc))))))
def aeT(p:aL->Prop):List aL->Prop
 | []=>True
 | x::l=>p x/\aeT p l
theorem aeT.mem{p:aL->Prop} : ∀ {l:List aL},aeT p l->∀ x∈l,p x
 | y::l,h,x,hx=>by
  rcases CU.1 hx with rfl|hx
  . exact h.1
  exact aeT.mem h.2 x hx
def aip(f:FV):Prop:=∀ s d a,y8 f s d a=some s
theorem as6{l:List aL}{p:aL->Prop}(hl:ah l<=1000)(h:aeT p l)(inter:ByteArray)(final:Int):Yields (oG l inter final) (λf=>aip f\/∃ x,p x/\ng x.adg inter=true/\x.adh=final/\x.fdo=f):=by
 have hn:=bW l;unfold oG;refine .cut (λr=>r = .go ()\/∃ f:FV,r = .out f/\∃ x,p x/\ng x.adg inter=true/\x.adh=final/\x.fdo=f) ?_ ?_
 . refine .loop (λi=>0<=i/\i<=ah l) (λi=>(ah l-i).toNat) ⟨ak,ak⟩ ?_;rintro i ⟨i0,i1⟩;refine .ite (λhi=>?_) (λ_=>.ret (.inl rfl));have hi:i<ah l:=by simpa using hi
   refine .chk ⟨i0,hi⟩ (.ite (λhh=>.ret (.inr ⟨_,rfl,_,h.mem _ (vF _ _ i0 hi),?_,?_,rfl⟩)) (λ_=>.chk bS (.ret ⟨⟨ak,ak⟩,cB⟩)))
   . grind
   grind
 rintro r (rfl|⟨f,rfl,h⟩)
 . exact .go (.ret (.inl λs d a=>rfl))
 exact .out (.inr h)
theorem aip.m{f:FV}(h:aip f):F6 f:=λs d a q _=>by rw[h s d a];exact .ret (Moved.refl q)
end Go.Vx
end
section
namespace Go.Vx
set_option maxRecDepth 100000
theorem M9.oU{r:bG}(q:M9 r):M9 (oU r):=⟨q.h,q.w,by have:=q.h;show(0:Int)<=0/\(0:Int)<r.fH/\r.fH<=r.fH;omega⟩
theorem jv.oU{c:aD}{r:bG}(q:jv c r):jv c (oU r):=⟨q.reg.oU,q.x,q.y,q.wrap,λ_=>q.y,q.pen,q.set⟩
theorem je.oU{s:ay}(q:je s):Go.Vx.oU (Go.Vx.act s).fR=Go.Vx.oU s.aI.fR:=by
 unfold Go.Vx.act;cases s.jA
 . rfl
 unfold Go.Vx.oU;simp only[if_true];rw[q.h,q.w]
def sav(s:ay):ay:=ay.mk s.aI s.aM s.jA s.fM (if s.jA=true then gQ.mk s.aC.x0 s.aM.fC else gQ.mk s.aI.fC s.aC.x1) s.iL s.fO s.fZ
theorem aeR(s:ay)(d:bL)(a:aG):BR s d a=some (sav s):=by
 obtain⟨m,o,on,md,sv,out,ti,l⟩:=s;cases on<;>rfl
theorem je.sav{s:ay}(q:je s):je (sav s):=by
 have h1:jv s.aI.fC (Go.Vx.oU s.aI.fR):=q.main.cur.oU;have h2:jv s.aM.fC (Go.Vx.oU s.aI.fR):=by
  have:=q.other.cur.oU;have e:Go.Vx.oU s.aM.fR=Go.Vx.oU s.aI.fR:=by unfold Go.Vx.oU;rw[q.h,q.w]
  rw[← e];exact this
 obtain⟨m,o,on,md,sv,out,ti,l⟩:=s;cases on
 . exact⟨q.main,q.other,q.m,q.h,q.w,h1,q.s1,q.out,q.title,q.last⟩
 exact⟨q.main,q.other,q.m,q.h,q.w,q.s0,h2,q.out,q.title,q.last⟩
def rcS(s:ay):aD:=if s.jA=true then s.aC.x1 else s.aC.x0
def ae1(c:aD)(r:bG):aD:=aD.mk c.fX c.fY c.dz (if (if (decide (c.fY<r.gJ))=true then true else (decide (r.dw<=c.fY)))=true then false else c.bO) c.bB c.aF
def VA(s:ay):av:=av.mk (act s).fG (ae1 (rcS s) (act s).fR) (act s).fR (act s).fT (act s).fK (act s).dH (act s).bA
theorem VB(s:ay)(d:bL)(a:aG):rG s d a=some (upd s (VA s) s.fZ):=by
 refine Yields.eq ?_;unfold rG;obtain⟨m,o,on,md,⟨c0,c1⟩,out,ti,l⟩:=s;cases on
 . refine .call (rz _) (.call (b:=0) rfl (.chk ak (.cut (λx=>x = .go (VA (ay.mk m o false md ⟨c0,c1⟩ out ti l))) (.ite (λh=>.ret ?_) λh=>.ret ?_) ?_)))
   . have h:(if (decide (c0.fY<m.fR.gJ))=true then true else (decide (m.fR.dw<=c0.fY)))=true:=h;unfold VA ae1;show _=Fl.go (av.mk m.fG (aD.mk c0.fX c0.fY c0.dz (if (if (decide (c0.fY<m.fR.gJ))=true then true else (decide (m.fR.dw<=c0.fY)))=true then false else c0.bO) c0.bB c0.aF) m.fR m.fT m.fK m.dH m.bA);rw[h];rfl
   . have h:(if (decide (c0.fY<m.fR.gJ))=true then true else (decide (m.fR.dw<=c0.fY)))=false:=h;unfold VA ae1;show _=Fl.go (av.mk m.fG (aD.mk c0.fX c0.fY c0.dz (if (if (decide (c0.fY<m.fR.gJ))=true then true else (decide (m.fR.dw<=c0.fY)))=true then false else c0.bO) c0.bB c0.aF) m.fR m.fT m.fK m.dH m.bA);rw[h];rfl
   rintro x rfl;exact .go (.call (pF _ _) (.ret rfl))
 refine .call (rz _) (.call (b:=1) rfl (.chk ak (.cut (λx=>x = .go (VA (ay.mk m o true md ⟨c0,c1⟩ out ti l))) (.ite (λh=>.ret ?_) λh=>.ret ?_) ?_)))
 . have h:(if (decide (c1.fY<o.fR.gJ))=true then true else (decide (o.fR.dw<=c1.fY)))=true:=h;unfold VA ae1;show _=Fl.go (av.mk o.fG (aD.mk c1.fX c1.fY c1.dz (if (if (decide (c1.fY<o.fR.gJ))=true then true else (decide (o.fR.dw<=c1.fY)))=true then false else c1.bO) c1.bB c1.aF) o.fR o.fT o.fK o.dH o.bA);rw[h];rfl
 . have h:(if (decide (c1.fY<o.fR.gJ))=true then true else (decide (o.fR.dw<=c1.fY)))=false:=h;unfold VA ae1;show _=Fl.go (av.mk o.fG (aD.mk c1.fX c1.fY c1.dz (if (if (decide (c1.fY<o.fR.gJ))=true then true else (decide (o.fR.dw<=c1.fY)))=true then false else c1.bO) c1.bB c1.aF) o.fR o.fT o.fK o.dH o.bA);rw[h];rfl
 rintro x rfl;exact .go (.call (pF _ _) (.ret rfl))
theorem atp{c:aD}{r:bG}(q:jv c (oU r))(hr:M9 r):jv (ae1 c r) r:=by
 refine⟨hr,q.x,q.y,q.wrap,λh=>?_,q.pen,q.set⟩;have h:(if (if (decide (c.fY<r.gJ))=true then true else (decide (r.dw<=c.fY)))=true then false else c.bO)=true:=h;show r.gJ<=c.fY/\c.fY<r.dw;grind
theorem je.rc{s:ay}(q:je s):jv (rcS s) (Go.Vx.oU (Go.Vx.act s).fR):=by
 rw[q.oU];unfold rcS;cases s.jA
 . exact q.s0
 exact q.s1
theorem je.rst{s:ay}(q:je s):jf (Go.Vx.act s) (VA s):=OI q.act (atp q.rc q.act.cur.reg)
def ahm(x y:av):Prop:=y.fG=x.fG/\y.fR=x.fR/\y.fT=x.fT/\y.fK=x.fK/\y.dH=x.dH
theorem ahm.trans{x y z:av}(h:ahm x y)(k:ahm y z):ahm x z:=⟨k.1.trans h.1,k.2.1.trans h.2.1,k.2.2.1.trans h.2.2.1,k.2.2.2.1.trans h.2.2.2.1,k.2.2.2.2.trans h.2.2.2.2⟩
theorem je.asG{s:ay}(q:je s){m:eG}(h:VP m):je (ay.mk s.aI s.aM s.jA m s.aC s.iL s.fO s.fZ):=⟨q.main,q.other,h,q.h,q.w,q.s0,q.s1,q.out,q.title,q.last⟩
theorem je.aqm{s:ay}(q:je s)(b:Bool):je (ay.mk s.aI s.aM b s.fM s.aC s.iL s.fO s.fZ):=⟨q.main,q.other,q.m,q.h,q.w,q.s0,q.s1,q.out,q.title,q.last⟩
end Go.Vx
end
