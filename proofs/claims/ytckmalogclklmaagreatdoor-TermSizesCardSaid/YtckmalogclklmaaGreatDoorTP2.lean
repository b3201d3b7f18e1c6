/- Rows that may be: what their cells are. No conditions. -/
import Derived.Test.YtckmalogclklmaaGreatDoorVxHoare
import Derived.Test.YtckmalogclklmaaGreatDoorTLift
set_option linter.all false
section
namespace Go.Vx
set_option maxRecDepth 100000
def aoy (c:aV):Prop:=0≤c.fR∧c.fR≤1114111∧(c.fW=0∧c.fR=0∨c.fW=1∨c.fW=2)
theorem Zu {α:Type} {c:Bool} {x y:Option α} {Q:α→Prop} (hx:c=true→Yields x Q) (hy:c=false→Yields y Q):Yields (if c=true then x else y) Q:=by
 cases c with
 | true=>exact hx rfl
 | false=>exact hy rfl
def AP (l:List aV) (i:Int):Prop :=
 ((au aD l i).fW=0→0 < i∧(au aD l (i-1)).fW=2)∧((au aD l i).fW=2→i+1 < ah l∧(au aD l (i+1)).fW=0)
structure aq6 (r:aQ):Prop where
 pos:1≤ah r.aH
 top:ah r.aH≤4096
 dir:0≤r.dJ∧r.dJ≤2
 fit : ∀ i,0≤i→i < ah r.aH→aoy (au aD r.aH i)
 pair : ∀ i,0≤i→i < ah r.aH→AP r.aH i
end Go.Vx
end
section
namespace Go.Vx
set_option maxRecDepth 100000
def Tot {α:Type} (o:Option α):Prop:=∃ r,o=some r
theorem Tot.of {α:Type} {o:Option α} {Q:α→Prop} (h:Yields o Q):Tot o:=⟨_,h.choose_spec.1⟩
theorem Tot.yields {α:Type} {o:Option α} (h:Tot o):Yields o (fun _=>True):=⟨_,h.choose_spec,trivial⟩
theorem Tot.ret {α:Type} {v:α} : Tot (some v):=⟨v,rfl⟩
theorem Tot.bind {α β:Type} {o:Option β} {k:β→Option α} (h:Tot o) (hk : ∀ b,Tot (k b)):Tot (av o k):=by
 obtain ⟨b,hb⟩:=h
 obtain ⟨r,hr⟩:=hk b
 exact ⟨r,by rw [hb];exact hr⟩
theorem Tot.cut {β γ:Type} {A:Option (Fl β γ)} {k:β→Option γ} (h:Tot A) (hk : ∀ b,Tot (k b)):Tot (aM A k):=by
 obtain ⟨f,hf⟩:=h
 cases f with
 | go b =>
  obtain ⟨r,hr⟩:=hk b
  exact ⟨r,by rw [hf];exact hr⟩
 | out r=>exact ⟨r,by rw [hf];rfl⟩
theorem Tot.ite {α:Type} {c:Bool} {x y:Option α} (hx:c=true→Tot x) (hy:c=false→Tot y):Tot (ay c x y):=by
 cases c with
 | true=>exact hx rfl
 | false=>exact hy rfl
theorem Tot.any {α:Type} {c:Bool} {x y:Option α} (hx:c=true→Tot x) (hy:c=false→Tot y):Tot (if c=true then x else y):=by
 cases c with
 | true=>exact hx rfl
 | false=>exact hy rfl
theorem Tot.chk {α:Type} {c:Prop} [Decidable c] {k:Option α} (h:c) (hk:Tot k):Tot (chk c k):=by
 obtain ⟨r,hr⟩:=hk
 exact ⟨r,by rw [aeo h];exact hr⟩
end Go.Vx
end
section
namespace Go.Vx
set_option maxRecDepth 100000
abbrev Says (o:Option Bool) (P:Prop):Prop:=Yields o (fun b=>b=true ↔ P)
theorem Says.ok {o:Option Bool} {P:Prop} (h:Says o P) (p:P):o=some true:=by
 obtain ⟨b,h1,h2⟩:=h
 rw [h1,h2.2 p]
theorem Yields.guard {c:Bool} {x:Option Bool} {P:Prop} (h:c=true→Says x P):Yields (if c=true then x else some false) (fun z=>z=true ↔ (c=true∧P)):=by
 cases c with
 | true=>exact (h rfl).mono fun r hr=>by simpa using hr
 | false=>exact ⟨false,rfl,by simp⟩
theorem Yields.no {P:Prop} (h : ¬ P):Says (some false) P:=⟨false,rfl,by simp [h]⟩
theorem Yields.yes {P:Prop} (h:P):Says (some true) P:=⟨true,rfl,by simp [h]⟩
def GI {γ:Type} (A:Prop) (o:Fl Unit γ) (bad:γ):Prop:=o = .go ()∧A∨o = .out bad∧¬ A
def Xe (c:Int):Prop:=0≤c∧c≤256∨16777216≤c∧c < 33554432
structure GJ (p:fZ):Prop where
 fg:Xe p.jP
 bg:Xe p.jQ
 fl:0≤p.dU∧p.dU≤511
theorem afF {p:fZ} : GJ p ↔ Xe p.jP∧Xe p.jQ∧0≤p.dU∧p.dU≤511:=⟨fun h=>⟨h.fg,h.bg,h.fl⟩,fun h=>⟨h.1,h.2.1,h.2.2⟩⟩
theorem Zv (c:Int):Says (vW c) (Xe c):=⟨_,rfl,by unfold Xe;grind⟩
theorem Zw (p:fZ):Says (BS p) (GJ p):=by
 unfold BS
 refine .bind _ (Zv _) fun v hv=>.bind _ (.guard fun _=>Zv _) fun w hw=>.ret ?_
 rw [afF]
 grind
def SetB (f:Int):Prop:=f=66∨f=48∨f=65
structure Zx (s:eG):Prop where
 g:SetB s.fG.x0∧SetB s.fG.x1∧SetB s.fG.x2∧SetB s.fG.x3
 gl:0≤s.jH∧s.jH≤3
 gr:0≤s.kr∧s.kr≤3
 once:s.fq=0∨s.fq=2∨s.fq=3
theorem afG {s:eG} : Zx s ↔ (SetB s.fG.x0∧SetB s.fG.x1∧SetB s.fG.x2∧SetB s.fG.x3)∧(0≤s.jH∧s.jH≤3)∧(0≤s.kr∧s.kr≤3)∧(s.fq=0∨s.fq=2∨s.fq=3) :=
 ⟨fun h=>⟨h.g,h.gl,h.gr,h.once⟩,fun h=>⟨h.1,h.2.1,h.2.2.1,h.2.2.2⟩⟩
theorem IG (f:Int):Says (nV f) (SetB f):=⟨_,rfl,by unfold SetB;grind⟩
theorem GI.test {γ δ:Type} {o:Option Bool} {P:Prop} {c:Prop} [Decidable c] {bad:γ} {M:Fl Unit (Fl δ γ)→Prop} (h:Says o P) (hc:c) (hg:P→M (.go ())) (hb : ¬ P→M (.out (.out bad))) :
  Yields (av o fun v=>ay (!v) (some (.out (.out bad))) (chk c (some (.go ())))) M:=by
 refine .bind _ h fun v hv=>.ite (fun e=>.ret (hb fun p=>?_)) (fun e=>.chk hc (.ret (hg (hv.1 ?_))))
 · rw [hv.2 p] at e;cases e
 · cases v<;>simp at e ⊢
theorem afH (s:eG):Says (rY s) (Zx s):=by
 unfold rY
 have h1 : ∀ k:Int,0≤k→k≤4→aW .i64 (k+1):=fun k _ _=>bZ (by omega) (by omega)
 refine .cut (fun o=>GI (SetB s.fG.x0∧SetB s.fG.x1∧SetB s.fG.x2∧SetB s.fG.x3) o false) ?_ ?_
 · refine .cut (fun o=>o = .go ()∧SetB s.fG.x0∨o = .out (.out false)∧¬ SetB s.fG.x0) (GI.test (IG _) (h1 _ (by omega) (by omega)) (fun p=>.inl ⟨rfl,p⟩) (fun p=>.inr ⟨rfl,p⟩)) ?_
   rintro o (⟨rfl,p0⟩ | ⟨rfl,p0⟩)
   · refine .go (.cut (fun o=>o = .go ()∧SetB s.fG.x1∨o = .out (.out false)∧¬ SetB s.fG.x1) (GI.test (IG _) (h1 _ (by omega) (by omega)) (fun p=>.inl ⟨rfl,p⟩) (fun p=>.inr ⟨rfl,p⟩)) ?_)
     rintro o (⟨rfl,p1⟩ | ⟨rfl,p1⟩)
     · refine .go (.cut (fun o=>o = .go ()∧SetB s.fG.x2∨o = .out (.out false)∧¬ SetB s.fG.x2) (GI.test (IG _) (h1 _ (by omega) (by omega)) (fun p=>.inl ⟨rfl,p⟩) (fun p=>.inr ⟨rfl,p⟩)) ?_)
       rintro o (⟨rfl,p2⟩ | ⟨rfl,p2⟩)
       · refine .go (.cut (fun o=>o = .go ()∧SetB s.fG.x3∨o = .out (.out false)∧¬ SetB s.fG.x3) (GI.test (IG _) (h1 _ (by omega) (by omega)) (fun p=>.inl ⟨rfl,p⟩) (fun p=>.inr ⟨rfl,p⟩)) ?_)
         rintro o (⟨rfl,p3⟩ | ⟨rfl,p3⟩)
         · exact .go (.ret (.inl ⟨rfl,p0,p1,p2,p3⟩))
         · exact .out (.inr ⟨rfl,fun h=>p3 h.2.2.2⟩)
       · exact .out (.inr ⟨rfl,fun h=>p2 h.2.2.1⟩)
     · exact .out (.inr ⟨rfl,fun h=>p1 h.2.1⟩)
   · exact .out (.inr ⟨rfl,fun h=>p0 h.1⟩)
 · rintro o (⟨rfl,p⟩ | ⟨rfl,p⟩)
   · refine .go ?_
     have pl : ∀ w:Int,Says (qG w) (0≤w∧w≤3):=fun w=>⟨_,rfl,by grind⟩
     have sh : ∀ w:Int,Says (vJ w) (w=2∨w=3):=fun w=>⟨_,rfl,by grind⟩
     refine .bind _ (pl _) fun v hv=>.bind _ (.guard fun _=>pl _) fun w hw=>.bind _ (.guard fun _=>sh _) fun u hu=>.ret ?_
     rw [afG]
     grind
   · exact .out ⟨fun h=>(by cases h),fun h=>absurd h.g p⟩
structure Zy (r:bS):Prop where
 h:1≤r.fH∧r.fH≤1000
 w:1≤r.fW∧r.fW≤4096
 t:0≤r.jO∧r.jO < r.eZ∧r.eZ≤r.fH
theorem afI (r:bS):Says (uK r) (Zy r):=by
 have e:Zy r ↔ (1≤r.fH∧r.fH≤1000)∧(1≤r.fW∧r.fW≤4096)∧(0≤r.jO∧r.jO < r.eZ∧r.eZ≤r.fH):=⟨fun h=>⟨h.h,h.w,h.t⟩,fun h=>⟨h.1,h.2.1,h.2.2⟩⟩
 unfold uK
 rw [e]
 exact .ite (fun h=>.no (by grind)) (fun h=>⟨_,rfl,by grind⟩)
structure uV (c:cB) (r:bS):Prop where
 reg:Zy r
 x:0≤c.fX∧c.fX < r.fW
 y:0≤c.fY∧c.fY < r.fH
 wrap:c.bX=true→c.fX=r.fW-1
 org:c.dH=true→r.jO≤c.fY∧c.fY < r.eZ
 pen:GJ c.bI
 set:Zx c.aN
theorem Mc (c:cB) (r:bS):Says (mW c r) (uV c r):=by
 have e:uV c r ↔ Zy r∧(0≤c.fX∧c.fX < r.fW)∧(0≤c.fY∧c.fY < r.fH)∧(c.bX=true→c.fX=r.fW-1)∧(c.dH=true→r.jO≤c.fY∧c.fY < r.eZ)∧GJ c.bI∧Zx c.aN :=
  ⟨fun h=>⟨h.reg,h.x,h.y,h.wrap,h.org,h.pen,h.set⟩,fun h=>⟨h.1,h.2.1,h.2.2.1,h.2.2.2.1,h.2.2.2.2.1,h.2.2.2.2.2.1,h.2.2.2.2.2.2⟩⟩
 unfold mW
 rw [e]
 refine .bind _ (afI r) fun v hv=>.ite (fun h=>.no (by grind)) (fun h=>?_)
 have hr:Zy r:=by grind
 have hw:=hr.w
 have ins:Says (yH c r) (r.jO≤c.fY∧c.fY < r.eZ):=⟨_,rfl,by grind⟩
 refine .chk (fun _=>bZ (by omega) (by omega)) (.bind _ (.guard fun _=>ins) fun w hw=>.ite (fun h=>.no (by grind)) (fun h=>.bind _ (Zw _) fun a ha=>.bind _ (.guard fun _=>afH _) fun b hb=>.ret (by grind)))
def oH (c:aV):Prop:=(0≤c.fM.x0∧c.fM.x0≤1114111∧(c.fM.x0≠0→c.fR≠0))∧(0≤c.fM.x1∧c.fM.x1≤1114111∧(c.fM.x1≠0→c.fR≠0))∧(0≤c.fR∧c.fR≤1114111)∧(c.fM.x0=0→c.fM.x1=0)∧GJ c.bI∧(c.fW=0∧c.fR=0∨c.fW=1∨c.fW=2∧c.fR≠0)
theorem aep (c:aV):Says (BU c) (oH c):=by
 unfold BU
 refine .cut (fun o=>GI ((0≤c.fM.x0∧c.fM.x0≤1114111∧(c.fM.x0≠0→c.fR≠0))∧(0≤c.fM.x1∧c.fM.x1≤1114111∧(c.fM.x1≠0→c.fR≠0))) o false) ?_ ?_
 · refine .cut (fun o=>o = .go ()∧(0≤c.fM.x0∧c.fM.x0≤1114111∧(c.fM.x0≠0→c.fR≠0))∨o = .out (.out false)∧¬ (0≤c.fM.x0∧c.fM.x0≤1114111∧(c.fM.x0≠0→c.fR≠0))) (.ite (fun h=>.ret (.inr ⟨rfl,by grind⟩)) (fun h=>.chk (bZ (by omega) (by omega)) (.ret (.inl ⟨rfl,by grind⟩)))) ?_
   rintro o (⟨rfl,p⟩ | ⟨rfl,p⟩)
   · refine .go (.cut (fun o=>o = .go ()∧(0≤c.fM.x1∧c.fM.x1≤1114111∧(c.fM.x1≠0→c.fR≠0))∨o = .out (.out false)∧¬ (0≤c.fM.x1∧c.fM.x1≤1114111∧(c.fM.x1≠0→c.fR≠0))) (.ite (fun h=>.ret (.inr ⟨rfl,by grind⟩)) (fun h=>.chk (bZ (by omega) (by omega)) (.ret (.inl ⟨rfl,by grind⟩)))) ?_)
     rintro o (⟨rfl,q⟩ | ⟨rfl,q⟩)
     · exact .go (.ret (.inl ⟨rfl,p,q⟩))
     · exact .out (.inr ⟨rfl,fun h=>q h.2⟩)
   · exact .out (.inr ⟨rfl,fun h=>p h.1⟩)
 · unfold oH
   rintro o (⟨rfl,p⟩ | ⟨rfl,p⟩)
   · refine .go (.bind _ (.guard fun _=>Zw _) fun v hv=>.ite (fun h=>.no (by grind)) (fun h=>.ite (fun h0=>⟨_,rfl,by grind⟩) fun h0=>.ite (fun h1=>.yes (by grind)) fun h1=>.ite (fun h2=>⟨_,rfl,by grind⟩) fun h2=>.no (by grind)))
   · exact .out ⟨fun h=>(by cases h),fun h=>absurd ⟨h.1,h.2.1⟩ p⟩
theorem aer {l:List aV} {i:Int} (h0:0≤i) (h1:i < ah l) (hb:ah l≤100000):Says (BX l i) (¬ AP l i):=by
 unfold BX AP
 refine .chk ⟨h0,h1⟩ (.ite (fun hw=>?_) (fun hw=>.ite (fun hw2=>?_) (fun hw2=>.no (by grind))))
 · refine .chk (fun _=>bZ (by omega) (by omega)) (.chk (fun h=>?_) ⟨_,rfl,?_⟩)
   · have:i≠0:=by simpa using h
     omega
   · have hw:(au aD l i).fW=0:=by simpa using hw
     by_cases hi:i=0
     · subst hi
       simp [hw]
     · simp [hi,hw]
       omega
 · have hw:(au aD l i).fW=2:=by simpa using hw2
   refine .chk (bZ (by omega) (by omega)) (.chk (fun _=>bZ (by omega) (by omega)) (.chk (fun h=>?_) ⟨_,rfl,?_⟩))
   · have:i+1≠ah l:=by simpa using h
     omega
   · by_cases hi:i+1=ah l
     · simp [hi,hw]
     · simp [hi,hw]
       omega
structure wC (r:aQ):Prop where
 pos:1≤ah r.aH
 top:ah r.aH≤4096
 dir:0≤r.dJ∧r.dJ≤2
 fit : ∀ i,0≤i→i < ah r.aH→oH (au aD r.aH i)
 pair : ∀ i,0≤i→i < ah r.aH→AP r.aH i
theorem zF (r:aQ):Says (mP r) (wC r):=by
 unfold mP
 refine .ite (fun h=>.no (fun q=>?_)) (fun h=>?_)
 · have:=q.pos;have:=q.top;have:=q.dir
   grind
 have hh:1≤ah r.aH∧ah r.aH≤4096∧0≤r.dJ∧r.dJ≤2:=by grind
 obtain ⟨p1,p2,p3,p4⟩:=hh
 refine .cut (fun o=>GI (wC r) o false) ?_ ?_
 · refine .loop (fun v=>0≤v∧v≤ah r.aH∧∀ i,0≤i→i < v→oH (au aD r.aH i)∧AP r.aH i) (fun v=>(ah r.aH-v).toNat) ⟨by omega,by omega,fun i a b=>by omega⟩ ?_
   rintro v ⟨v0,v1,hv⟩
   refine .ite (fun h=>?_) (fun h=>?_)
   · have h:v < ah r.aH:=by simpa using h
     refine .chk ⟨v0,h⟩ (.bind _ (aep _) fun b hb=>.bind _ (.guard fun _=>aer v0 h (by omega)) fun z hz=>.ite (fun hc=>.ret (.inr ⟨rfl,fun q=>?_⟩)) (fun hc=>.chk (bZ (by omega) (by omega)) (.ret ⟨⟨by omega,by omega,fun i a c=>?_⟩,by show (_-_:Int).toNat < (_-_:Int).toNat;omega⟩)))
     · have h1:=q.fit v v0 h
       have h2:=q.pair v v0 h
       grind
     · by_cases e:i=v
       · subst e
         grind
       · exact hv i a (by omega)
   · have h : ¬ v < ah r.aH:=by simpa using h
     exact .ret (.inl ⟨rfl,p1,p2,⟨p3,p4⟩,fun i a c=>(hv i a (by omega)).1,fun i a c=>(hv i a (by omega)).2⟩)
 · rintro o (⟨rfl,h⟩ | ⟨rfl,h⟩)
   · exact .go (.yes h)
   · exact .out ⟨fun h=>(by cases h),fun q=>absurd q h⟩
structure vL (g:eP):Prop where
 pos:1≤ah g.aS
 top:ah g.aS≤1000
 wid : ∀ i,0≤i→i < ah g.aS→ah (au aA g.aS i).aH=ah (au aA g.aS 0).aH
 row : ∀ i,0≤i→i < ah g.aS→wC (au aA g.aS i)
theorem aes (g:eP):Says (vX g) (vL g):=by
 unfold vX
 refine .ite (fun h=>.no (fun q=>?_)) (fun h=>?_)
 · have:=q.pos;have:=q.top
   grind
 have hh:1≤ah g.aS∧ah g.aS≤1000:=by grind
 obtain ⟨p1,p2⟩:=hh
 refine .cut (fun o=>GI (vL g) o false) ?_ ?_
 · refine .loop (fun v=>0≤v∧v≤ah g.aS∧∀ i,0≤i→i < v→ah (au aA g.aS i).aH=ah (au aA g.aS 0).aH∧wC (au aA g.aS i)) (fun v=>(ah g.aS-v).toNat) ⟨by omega,by omega,fun i a b=>by omega⟩ ?_
   rintro v ⟨v0,v1,hv⟩
   refine .ite (fun h=>?_) (fun h=>?_)
   · have h:v < ah g.aS:=by simpa using h
     refine .chk ⟨v0,h⟩ (.chk ⟨by omega,by omega⟩ (.bind _ (.guard fun _=>zF _) fun z hz=>.ite (fun hc=>.ret (.inr ⟨rfl,fun q=>?_⟩)) (fun hc=>.chk (bZ (by omega) (by omega)) (.ret ⟨⟨by omega,by omega,fun i a c=>?_⟩,by show (_-_:Int).toNat < (_-_:Int).toNat;omega⟩))))
     · have h1:=q.wid v v0 h
       have h2:=q.row v v0 h
       grind
     · by_cases e:i=v
       · subst e
         grind
       · exact hv i a (by omega)
   · have h : ¬ v < ah g.aS:=by simpa using h
     exact .ret (.inl ⟨rfl,p1,p2,fun i a c=>(hv i a (by omega)).1,fun i a c=>(hv i a (by omega)).2⟩)
 · rintro o (⟨rfl,h⟩ | ⟨rfl,h⟩)
   · exact .go (.yes h)
   · exact .out ⟨fun h=>(by cases h),fun q=>absurd q h⟩
structure RN (k:dS):Prop where
 cap:0≤k.iF∧k.iF≤200
 len:ah k.aS≤k.iF
 row : ∀ i,0≤i→i < ah k.aS→wC (au aA k.aS i)
theorem X7 (k:dS):Says (pF k) (RN k):=by
 unfold pF
 have hn:=bQ k.aS
 refine .ite (fun h=>.no (fun q=>?_)) (fun h=>?_)
 · have:=q.cap;have:=q.len
   grind
 have hh:0≤k.iF∧k.iF≤200∧ah k.aS≤k.iF:=by grind
 obtain ⟨p1,p2,p3⟩:=hh
 refine .cut (fun o=>GI (RN k) o false) ?_ ?_
 · refine .loop (fun v=>0≤v∧v≤ah k.aS∧∀ i,0≤i→i < v→wC (au aA k.aS i)) (fun v=>(ah k.aS-v).toNat) ⟨by omega,by omega,fun i a b=>by omega⟩ ?_
   rintro v ⟨v0,v1,hv⟩
   refine .ite (fun h=>?_) (fun h=>?_)
   · have h:v < ah k.aS:=by simpa using h
     refine .chk ⟨v0,h⟩ (.bind _ (zF _) fun z hz=>.ite (fun hc=>.ret (.inr ⟨rfl,fun q=>?_⟩)) (fun hc=>.chk (bZ (by omega) (by omega)) (.ret ⟨⟨by omega,by omega,fun i a c=>?_⟩,by show (_-_:Int).toNat < (_-_:Int).toNat;omega⟩)))
     · have h2:=q.row v v0 h
       grind
     · by_cases e:i=v
       · subst e
         grind
       · exact hv i a (by omega)
   · have h : ¬ v < ah k.aS:=by simpa using h
     exact .ret (.inl ⟨rfl,⟨p1,p2⟩,p3,fun i a c=>hv i a (by omega)⟩)
 · rintro o (⟨rfl,h⟩ | ⟨rfl,h⟩)
   · exact .go (.yes h)
   · exact .out ⟨fun h=>(by cases h),fun q=>absurd q h⟩
structure GK (s:eF):Prop where
 w:1≤s.fW∧s.fW≤4096
 low : ∀ i,0≤i→i < ah s.fL→0≤au 0 s.fL i∧au 0 s.fL i < s.fW
 up : ∀ i,0≤i→i+1 < ah s.fL→au 0 s.fL i < au 0 s.fL (i+1)
theorem GK.len {s:eF} (q:GK s):ah s.fL≤s.fW:=by
 have key : ∀ n:Nat,(n:Int) < ah s.fL→(n:Int)≤au 0 s.fL n:=by
  intro n
  induction n with
  | zero=>intro h;exact (q.low 0 (by omega) h).1
  | succ n ih =>
   intro h
   have h1:=ih (by omega)
   have h2:=q.up n (by omega) (by omega)
   have:((n+1:Nat):Int)=(n:Int)+1:=by omega
   rw [this]
   omega
 have hn:=bQ s.fL
 by_cases h:ah s.fL=0
 · have:=q.w;omega
 · have h1:=key (ah s.fL-1).toNat (by omega)
   have h2:=q.low ((ah s.fL-1).toNat:Int) (by omega) (by omega)
   omega
theorem Zz (s:eF):Says (zC s) (GK s):=by
 unfold zC
 have hn:=bQ s.fL
 refine .ite (fun h=>.no (fun q=>?_)) (fun h=>?_)
 · have:=q.w
   grind
 have hh:1≤s.fW∧s.fW≤4096:=by grind
 refine .cut (fun o=>GI (GK s) o false) ?_ ?_
 · refine .loop (fun p=>0≤p.2∧p.2≤ah s.fL∧(-1≤p.1∧p.2≤p.1+1∧p.1≤4096)∧(p.2=0→p.1 = -1)∧(0 < p.2→p.1=au 0 s.fL (p.2-1))∧(∀ i,0≤i→i < p.2→0≤au 0 s.fL i∧au 0 s.fL i < s.fW)∧∀ i,0≤i→i+1 < p.2→au 0 s.fL i < au 0 s.fL (i+1)) (fun p=>(ah s.fL-p.2).toNat) ⟨by simp,by simpa using hn,by simp,by simp,by simp,by intro i a b;simp at b;omega,by intro i a b;simp at b;omega⟩ ?_
   rintro ⟨a,v⟩ ⟨v0,v1,a0,a1,a2,hv,hu⟩
   simp only at v0 v1 a0 a1 a2 hv hu ⊢
   refine .ite (fun h=>?_) (fun h=>?_)
   · have h:v < ah s.fL:=by simpa using h
     refine .chk ⟨v0,h⟩ (.ite (fun hc=>.ret (.inr ⟨rfl,fun q=>?_⟩)) (fun hc=>.chk (bZ (by omega) (by omega)) (.ret ⟨⟨by simp only;omega,by simp only;omega,?_,?_,?_,fun i c d=>?_,fun i c d=>?_⟩,by simp only;omega⟩)))
     · have q1:=q.low v v0 h
       by_cases hz:v=0
       · have:=a1 hz
         grind
       · have q2:=q.up (v-1) (by omega) (by omega)
         have e:v-1+1=v:=by omega
         rw [e] at q2
         have:=a2 (by omega)
         grind
     · simp only;grind
     · simp only;intro hz;omega
     · simp only;intro _;congr 1;omega
     · simp only at d
       by_cases e:i=v
       · subst e
         grind
       · exact hv i c (by omega)
     · simp only at d
       by_cases e:i+1=v
       · have:=a2 (by omega)
         have e2:v-1=i:=by omega
         rw [e2] at this
         rw [e,← this]
         grind
       · exact hu i c (by omega)
   · have h : ¬ v < ah s.fL:=by simpa using h
     exact .ret (.inl ⟨rfl,hh,fun i c d=>hv i c (by omega),fun i c d=>hu i c (by omega)⟩)
 · rintro o (⟨rfl,h⟩ | ⟨rfl,h⟩)
   · exact .go (.yes h)
   · exact .out ⟨fun h=>(by cases h),fun q=>absurd q h⟩
structure ze (s:bK):Prop where
 dir:0≤s.dJ∧s.dJ≤2
 cur:uV s.fC s.fR
 tab:GK s.fT
 tw:s.fT.fW=s.fR.fW
 grid:vL s.fG
 h:ah s.fG.aS=s.fR.fH
 w:ah (au aA s.fG.aS 0).aH=s.fR.fW
 kept:RN s.fK
theorem aa3 (g:eP):Yields (DL g) (fun v=>(vL g∧v=(ah g.aS,ah (au aA g.aS 0).aH))∨(¬ vL g∧v=(0,0))):=by
 unfold DL
 refine .bind _ (aes g) fun v hv=>.ite (fun h=>.ret (.inr ⟨fun q=>?_,rfl⟩)) (fun h=>?_)
 · rw [hv.2 q] at h;cases h
 · have q:vL g:=hv.1 (by cases v<;>simp at h ⊢)
   have:=q.pos
   exact .chk ⟨by omega,by omega⟩ (.ret (.inl ⟨q,rfl⟩))
theorem Ub (s:bK):Says (mX s) (ze s):=by
 have e:ze s ↔ (0≤s.dJ∧s.dJ≤2)∧uV s.fC s.fR∧GK s.fT∧s.fT.fW=s.fR.fW∧vL s.fG∧ah s.fG.aS=s.fR.fH∧ah (au aA s.fG.aS 0).aH=s.fR.fW∧RN s.fK :=
  ⟨fun h=>⟨h.dir,h.cur,h.tab,h.tw,h.grid,h.h,h.w,h.kept⟩,fun h=>⟨h.1,h.2.1,h.2.2.1,h.2.2.2.1,h.2.2.2.2.1,h.2.2.2.2.2.1,h.2.2.2.2.2.2.1,h.2.2.2.2.2.2.2⟩⟩
 unfold mX
 rw [e]
 refine .ite (fun h=>.no (by grind)) (fun h=>.bind _ (Mc _ _) fun v hv=>.bind _ (.guard fun _=>Zz _) fun w hw=>.ite (fun h=>.no (by grind)) (fun h2=>.bind _ (aa3 _) fun z hz=>?_))
 have hc:uV s.fC s.fR:=by grind
 have hr:=hc.reg.h
 rcases hz with ⟨gq,rfl⟩ | ⟨gq,rfl⟩
 · refine .ite (fun h=>.no (by grind)) (fun h3=>.bind _ (X7 _) fun k hk=>.ret (by grind))
 · refine .ite (fun h=>.no (by grind)) (fun h3=>?_)
   exfalso
   grind
theorem ze.tl {s:bK} (q:ze s):ah s.fT.fL≤100000:=by
 have:=q.tab.len
 have:=q.tab.w
 omega
theorem ze.ok {s:bK} (q:ze s):mX s=some true:=(Ub s).ok q
end Go.Vx
end
section
namespace Go.Vx
set_option maxRecDepth 100000
theorem Y3:GJ (fZ.mk 0 0 0):=⟨.inl ⟨by simp,by simp⟩,.inl ⟨by simp,by simp⟩,by simp⟩
def yu (l:List aV):Prop:=∀ i,0≤i→i < ah l→oH (au aD l i)
theorem abG {p:fZ} {w:Int} (h:GJ p) (hw:w=0∨w=1):oH (aV.mk 0 iL w p):=by
 have z:(0:Int)≤0∧(0:Int)≤1114111∧((0:Int)≠0→(0:Int)≠0):=⟨by omega,by omega,fun h=>h⟩
 refine ⟨z,z,⟨z.1,z.2.1⟩,fun _=>rfl,h,?_⟩
 rcases hw with rfl | rfl
 · exact .inl ⟨rfl,rfl⟩
 · exact .inr (.inl rfl)
theorem abH {p:fZ} (h:GJ p):oH (aV.mk 0 iL 1 p):=abG h (.inr rfl)
theorem O8 {α:Type} (l:List α) (i:Int) (v:α):ah (eB l i v)=ah l:=by simp [ah,eB]
theorem yu.set {l:List aV} (h:yu l) {k:Int} (h0:0≤k) {v:aV} (hv:oH v):yu (eB l k v):=by
 intro i i0 i1
 rw [O8] at i1
 rw [gQ h0 i0 i1]
 split
 · exact hv
 · exact h i i0 i1
theorem yu.sub {l:List aV} (h:yu l) {a b:Int} (h0:0≤a) (h1:a≤b) (h2:b≤ah l):yu (jw l a b):=by
 intro i i0 i1
 rw [aY h0 h1 h2] at i1
 rw [jT h0 i0 i1]
 exact h _ (by omega) (by omega)
theorem yu.cpy {xs ys:List aV} (hx:yu xs) (hy:yu ys) {o n:Int} (h0:0≤o) (h1:0≤n) (h2:n≤ah ys) (h3:o+n≤ah xs):yu (En xs o ys n):=by
 intro i i0 i1
 rw [bV h0 h1 h2 h3] at i1
 rw [pz h0 h1 h2 h3 i0]
 split
 · exact hy _ (by omega) (by omega)
 · exact hx _ i0 i1
theorem agZ (l:List aV) (o n:Int) (p:fZ) (h0:0≤o) (h1:0≤n) (h2:o+n≤ah l) (hb:ah l≤100000) (hp:GJ p) :
  Yields (J8 l o n p) (fun t=>ah t=ah l∧∀ i,0≤i→i < ah l→au aD t i=if o≤i∧i < o+n then aV.mk 0 iL 1 p else au aD l i):=by
 unfold J8
 refine .chk ⟨h0,h1,h2⟩ (.loop (fun q=>0≤q.1∧q.1≤n∧ah q.2=ah l∧∀ i,0≤i→i < ah l→au aD q.2 i=if o≤i∧i < o+q.1 then aV.mk 0 iL 1 p else au aD l i) (fun q=>(n-q.1).toNat) ⟨by simp,by simpa using h1,rfl,fun i a b=>by rw [if_neg (by simp only;omega)]⟩ ?_)
 rintro ⟨v,x⟩ ⟨v0,v1,hx,hg⟩
 simp only at v0 v1 hx hg ⊢
 refine .ite (fun h=>?_) (fun h=>?_)
 · have h:v < n:=by simpa using h
   refine .call (b:=_) rfl (.chk ⟨v0,h⟩ (.chk (bZ (by omega) (by omega)) (.ret ⟨⟨by simp only;omega,by simp only;omega,by simp only [O8];exact hx,fun i a b=>?_⟩,by simp only;omega⟩)))
   simp only
   rw [gQ (by omega) a (by omega)]
   by_cases e:i=o+v
   · rw [if_pos e,if_pos (by omega)]
   · rw [if_neg e,hg i a b]
     by_cases e2:o≤i∧i < o+v
     · rw [if_pos e2,if_pos (by omega)]
     · rw [if_neg e2,if_neg (by omega)]
 · have h : ¬ v < n:=by simpa using h
   have:v=n:=by omega
   subst this
   exact .ret ⟨hx,hg⟩
theorem AQ (a n:Int) (h:1≤n):1≤bR 1 (bH a n)∧bR 1 (bH a n)≤n:=by
 unfold bR bH
 constructor<;>(repeat' split)<;>omega
theorem amo (w:Int) (p:fZ) (hp:GJ p):Yields (wT w p) (fun r=>wC r∧ah r.aH=bR 1 (bH w 4096)):=by
 unfold wT
 have hw:=AQ w 4096 (by omega)
 refine .cut (fun o=>o = .go (iG (bR 1 (bH w 4096)) aD)) (.call (b:=_) rfl (.chk (ai5 (by omega) (by omega) (by omega)) (.ret rfl))) ?_
 rintro o rfl
 generalize bR 1 (bH w 4096)=n at *
 have hr:ah (iG n aD)=n:=bn _ (by omega)
 refine .go (.bind _ (agZ _ 0 _ p (by omega) (by omega) (by omega) (by omega) hp) fun t ht=>.chk ht.1 (.ret ?_))
 have hg : ∀ i,0≤i→i < ah t→au aD t i=aV.mk 0 iL 1 p:=fun i a b=>by
  rw [ht.2 i a (by omega),if_pos (by omega)]
 refine ⟨⟨by simp only;omega,by simp only;omega,by simp,fun i a b=>?_,fun i a b=>?_⟩,by simp only;omega⟩
 · simp only at b ⊢
   rw [hg i a b];exact abH hp
 · simp only at b ⊢
   unfold AP
   rw [hg i a b]
   exact ⟨fun h=>by simp at h,fun h=>by simp at h⟩
def tY (l:List aQ) (w:Int):Prop:=∀ i,0≤i→i < ah l→wC (au aA l i)∧ah (au aA l i).aH=w
theorem tY.set {l:List aQ} {w:Int} (h:tY l w) {k:Int} (h0:0≤k) {v:aQ} (hv:wC v∧ah v.aH=w):tY (eB l k v) w:=by
 intro i i0 i1
 rw [O8] at i1
 rw [gQ h0 i0 i1]
 split
 · exact hv
 · exact h i i0 i1
theorem vL.rows {g:eP} (q:vL g):tY g.aS (ah (au aA g.aS 0).aH):=fun i a b=>⟨q.row i a b,q.wid i a b⟩
theorem vL.of {l:List aQ} {w:Int} (h:tY l w) (h1:1≤ah l) (h2:ah l≤1000):vL (eP.mk l) :=
 ⟨h1,h2,fun i a b=>(h i a b).2.trans (h 0 (by omega) (by omega)).2.symm,fun i a b=>(h i a b).1⟩
theorem zG {w:Int} (h:1≤w) (h2:w≤4096):bR 1 (bH w 4096)=w:=by
 unfold bR bH
 (repeat' split)<;>omega
theorem vL.w {g:eP} (q:vL g):1≤ah (au aA g.aS 0).aH∧ah (au aA g.aS 0).aH≤4096:=by
 have:=q.pos
 have h:=q.row 0 (by omega) (by omega)
 exact ⟨h.pos,h.top⟩
theorem ai6 {k:dS} (q:RN k) (l:List aQ) (hl:ah l≤100000):Yields (wu k l) (fun t=>RN t∧t.iF=k.iF):=by
 unfold wu
 have h1:=q.cap;have h2:=q.len;have hn:=bQ k.aS;have hn2:=bQ l
 refine .call ((X7 k).ok q) (.ite (fun h=>by cases h) fun _=>.chk (GN (by omega) (by omega) (by omega)) (.cut (fun o=>∃ x,o = .go x∧ah x≤200000∧∀ i,0≤i→i < ah x→wC (au aA x i)) ?_ ?_))
 · refine .loop (fun z=>0≤z.1∧z.1≤ah l∧ah z.2≤200+z.1∧∀ i,0≤i→i < ah z.2→wC (au aA z.2 i)) (fun z=>(ah l-z.1).toNat) ⟨by simp,by simpa using hn2,by simp only;omega,q.row⟩ ?_
   rintro ⟨v,x⟩ ⟨v0,v1,hx,hg⟩
   simp only at v0 v1 hx hg ⊢
   refine .ite (fun h=>?_) (fun h=>.ret ⟨x,rfl,by omega,hg⟩)
   have h:v < ah l:=by simpa using h
   have hnx:=bQ x
   refine .chk ⟨v0,h⟩ (.bind _ (zF _) fun z hz=>.ite (fun hc=>.chk (GN (by omega) (by omega) (by omega)) (.chk (bZ (by omega) (by omega)) (.ret ⟨⟨by simp only;omega,by simp only;omega,by simp only [aG,aB,aF];omega,fun i y w=>?_⟩,by simp only;omega⟩))) fun _=>.chk (bZ (by omega) (by omega)) (.ret ⟨⟨by simp only;omega,by simp only;omega,by simp only;omega,hg⟩,by simp only;omega⟩))
   simp only [aG,aB,aF] at w ⊢
   rw [fI y]
   split
   · exact hg i y (by omega)
   · rw [eD (by omega)]
     exact hz.1 hc
 · rintro o ⟨x,rfl,hx,hg⟩
   have hnx:=bQ x
   refine .go ?_
   simp only
   have hm:0≤bR 0 (ah x-k.iF)∧bR 0 (ah x-k.iF)≤ah x∧ah x-bR 0 (ah x-k.iF)≤k.iF:=by unfold bR;split<;>omega
   generalize bR 0 (ah x-k.iF)=m at *
   refine .chk (bZ (by omega) (by omega)) (.chk ⟨by omega,by omega,by omega⟩ (.chk ⟨by omega,by omega,by omega⟩ (.ret ⟨⟨h1,?_,fun i a b=>?_⟩,rfl⟩)))
   · simp only
     rw [aY (by omega) (by omega) (by omega)]
     omega
   · simp only at b ⊢
     rw [aY (by omega) (by omega) (by omega)] at b
     rw [jT (by omega) a (by omega)]
     exact hg _ (by omega) (by omega)
theorem btw (v a b:Int) (h:a≤b):a≤bR a (bH v b)∧bR a (bH v b)≤b:=by
 unfold bR bH
 constructor<;>(repeat' split)<;>omega
theorem afJ:Zx (eG.mk (qB.mk 66 66 66 66) 0 2 0):=⟨⟨.inl rfl,.inl rfl,.inl rfl,.inl rfl⟩,by simp,by simp,.inl rfl⟩
theorem afK {α:Type} (d:α) (l:List α) {i:Int} (i0:0≤i) (i1:i < ah l):au d l i∈l:=by
 obtain ⟨h,e⟩:=ah0 (d:=d) i0 i1
 rw [e]
 exact List.getElem_mem h
theorem ai7 {x:Nat} : x &&& (x-1)=0 ↔ x=0∨∃ k,x=2 ^ k:=by
 by_cases h:x=0
 · subst h;simp
 · rw [Nat.and_sub_one_eq_zero_iff_isPowerOfTwo h]
   exact ⟨fun ⟨k,e⟩=>.inr ⟨k,e⟩,fun h2=>h2.elim (fun e=>absurd e h) fun ⟨k,e⟩=>⟨k,e⟩⟩
def One (b m:Nat):Prop:=∀ i j,m.testBit i=true→m.testBit j=true→b.testBit i=true→b.testBit j=true→i=j
theorem ah1 {b m:Nat} : (b &&& m) &&& ((b &&& m)-1)=0 ↔ One b m:=by
 rw [ai7]
 constructor
 · rintro (h | ⟨k,h⟩) i j mi mj bi bj
   · have:=congrArg (fun x=>x.testBit i) h
     simp [mi,bi] at this
   · have hi:=congrArg (fun x=>x.testBit i) h
     have hj:=congrArg (fun x=>x.testBit j) h
     simp only [Nat.testBit_and,mi,bi,mj,bj,Bool.and_self,Nat.testBit_two_pow] at hi hj
     have:=of_decide_eq_true hi.symm
     have:=of_decide_eq_true hj.symm
     omega
 · intro h
   by_cases h0:b &&& m=0
   · exact .inl h0
   · obtain ⟨k,hk⟩:=Nat.exists_testBit_of_ne_zero h0
     simp only [Nat.testBit_and,Bool.and_eq_true] at hk
     refine .inr ⟨k,Nat.eq_of_testBit_eq fun i=>?_⟩
     rw [Nat.testBit_two_pow,Nat.testBit_and]
     by_cases hi:b.testBit i=true∧m.testBit i=true
     · have:=h i k hi.2 hk.2 hi.1 hk.1
       subst this
       simp [hi.1,hi.2]
     · have hik:k≠i:=fun e=>by subst e;exact hi ⟨hk.1,hk.2⟩
       simp only [hik,decide_false,Bool.and_eq_false_imp]
       intro hb
       cases hm:m.testBit i with
       | true=>exact absurd ⟨hb,hm⟩ hi
       | false=>rfl
theorem wrapN {n:Nat} (h:n < 4611686018427387904):IntKind.wrap .i64 (n:Int)=n:=by
 have m1:IntKind.min .i64 = -9223372036854775808:=by decide
 have m2:IntKind.max .i64=9223372036854775807:=by decide
 exact CB .i64 _ (by omega)
theorem ofN (a:Nat):BitVec.ofInt (IntKind.bits .i64) (a:Int)=BitVec.ofNat 64 a:=by
 apply BitVec.eq_of_toNat_eq
 show (BitVec.ofInt 64 (a:Int)).toNat=(BitVec.ofNat 64 a).toNat
 simp
theorem abI {a c:Nat} (ha:a < 4611686018427387904) (hc:c < 4611686018427387904):y8 .i64 a c=((a &&& c:Nat):Int):=by
 unfold y8
 rw [ofN,ofN]
 show IntKind.wrap .i64 ((BitVec.ofNat 64 a &&& BitVec.ofNat 64 c).toNat:Int)=_
 rw [BitVec.toNat_and,BitVec.toNat_ofNat,BitVec.toNat_ofNat,Nat.mod_eq_of_lt (show a < 2 ^ 64 by omega),Nat.mod_eq_of_lt (show c < 2 ^ 64 by omega)]
 exact wrapN (Nat.lt_of_le_of_lt Nat.and_le_left ha)
structure acQ (m:iJ):Prop where
 ex : ∃ b:Nat,m.mV=b∧b < 2 ^ 24∧One b 28800∧One b 196608
theorem SY {b m:Nat} (hb:b < 2 ^ 24) (hm:m < 2 ^ 24):Says (rX (y8 .i64 b (m:Int))) (One b m):=by
 unfold rX
 rw [abI (by omega) (by omega)]
 have h0:b &&& m≤m:=Nat.and_le_right
 refine .chk (bZ (by omega) (by omega)) (.ret ?_)
 rw [← ah1]
 generalize b &&& m=x at h0
 by_cases hx:x=0
 · subst hx
   exact ⟨fun _=>rfl,fun _=>by decide⟩
 · rw [show (x:Int)-1=((x-1:Nat):Int) by omega,abI (by omega) (by omega)]
   simp only [beq_iff_eq]
   omega
theorem afL (m:iJ):Says (wU m) (acQ m):=by
 unfold wU
 refine .ite (fun h=>.no ?_) fun h=>?_
 · rintro ⟨b,e,hb,_⟩
   rw [e] at h
   simp only [Bool.if_true_left,Bool.or_eq_true,decide_eq_true_eq] at h
   omega
 · have h : ¬ m.mV < 0∧¬ 16777216≤m.mV:=by
    constructor<;>intro hc<;>simp [hc] at h
   obtain ⟨b,hb⟩ : ∃ b:Nat,m.mV=b:=⟨m.mV.toNat,by omega⟩
   rw [hb] at h ⊢
   refine .bind _ (SY (m:=28800) (by omega) (by omega)) fun v hv=>.bind _ (.guard (c:=v) fun _=>SY (m:=196608) (by omega) (by omega)) fun w hw=>.ret ?_
   have e:acQ m ↔ One b 28800∧One b 196608:=⟨fun ⟨b',e,_,h1,h2⟩=>by rw [hb] at e;cases Int.ofNat.inj e;exact ⟨h1,h2⟩,fun h'=>⟨b,hb,by omega,h'.1,h'.2⟩⟩
   rw [e]
   grind
def Kr (r:bS):bS:=bS.mk r.fH r.fW 0 r.fH
structure Kt (s:bf):Prop where
 main:ze s.aR
 other:ze s.aT
 m:acQ s.fM
 h:s.aT.fR.fH=s.aR.fR.fH
 w:s.aT.fR.fW=s.aR.fR.fW
 s0:uV s.aK.x0 (Kr s.aR.fR)
 s1:uV s.aK.x1 (Kr s.aR.fR)
 out:ah s.lK≤4096
 title:cZ s.kY≤1024
 last:0≤s.lM∧s.lM≤1114111
theorem abJ (s:bf):Says (mY s) (Kt s):=by
 unfold mY
 refine .bind _ (Ub _) fun v hv=>.bind _ (.guard fun _=>Ub _) fun v1 h1=>.bind _ (.guard fun _=>afL _) fun v2 h2=>.ite (fun h=>.no fun q=>?_) fun h=>?_
 · have:=q.main;have:=q.other;have:=q.m
   grind
 have hm:ze s.aR∧ze s.aT∧acQ s.fM:=by grind
 refine .call rfl (.call rfl (.ite (fun h=>.no fun q=>?_) fun h=>?_))
 · have:=q.h;have:=q.w
   simp only at h
   grind
 have hd:s.aT.fR.fH=s.aR.fR.fH∧s.aT.fR.fW=s.aR.fR.fW:=by
  simp only at h
  grind
 have i1:aW .i64 (0+1):=bZ (by omega) (by omega)
 have i2:aW .i64 (1+1):=bZ (by omega) (by omega)
 refine .cut (fun o=>GI (uV s.aK.x0 (Kr s.aR.fR)∧uV s.aK.x1 (Kr s.aR.fR)) o false) ?_ ?_
 · refine .cut (fun o=>o = .go ()∧uV s.aK.x0 (Kr s.aR.fR)∨o = .out (.out false)∧¬ uV s.aK.x0 (Kr s.aR.fR)) (GI.test (Mc _ _) i1 (fun p=>.inl ⟨rfl,p⟩) (fun p=>.inr ⟨rfl,p⟩)) ?_
   rintro o (⟨rfl,p0⟩ | ⟨rfl,p0⟩)
   · refine .go (.cut (fun o=>o = .go ()∧uV s.aK.x1 (Kr s.aR.fR)∨o = .out (.out false)∧¬ uV s.aK.x1 (Kr s.aR.fR)) (GI.test (Mc _ _) i2 (fun p=>.inl ⟨rfl,p⟩) (fun p=>.inr ⟨rfl,p⟩)) ?_)
     rintro o (⟨rfl,p1⟩ | ⟨rfl,p1⟩)
     · exact .go (.ret (.inl ⟨rfl,p0,p1⟩))
     · exact .out (.inr ⟨rfl,fun h=>p1 h.2⟩)
   · exact .out (.inr ⟨rfl,fun h=>p0 h.1⟩)
 · rintro o (⟨rfl,p⟩ | ⟨rfl,p⟩)
   · refine .go (.ite (fun h=>.no fun q=>?_) fun h=>.ret ?_)
     · have:=q.out;have:=q.title
       grind
     · have e:Kt s ↔ 0≤s.lM∧s.lM≤1114111:=⟨fun q=>q.last,fun l=>⟨hm.1,hm.2.1,hm.2.2,hd.1,hd.2,p.1,p.2,by grind,by grind,l⟩⟩
       rw [e]
       grind
   · exact .out ⟨fun h=>(by cases h),fun q=>absurd ⟨q.s0,q.s1⟩ p⟩
theorem Kt.ok {s:bf} (q:Kt s):mY s=some true:=(abJ s).ok q
def act (s:bf):bK:=if s.pX=true then s.aT else s.aR
theorem ai8 (s:bf):iX s=some (act s):=by
 unfold iX act
 cases h:s.pX<;>simp [ay]
theorem Kt.act {s:bf} (q:Kt s):ze (act s):=by
 unfold Go.Vx.act
 cases s.pX
 · exact q.main
 · exact q.other
theorem tZ {l:List Int} {k:Nat} (h:k < l.length):au 0 l (k:Int)=l[k]:=by
 simp [au,h]
theorem abK {l:List Int} : (∀ i,0≤i→i+1 < ah l→au 0 l i < au 0 l (i+1)) ↔ l.Pairwise (· < ·):=by
 constructor
 · intro h
   rw [List.pairwise_iff_getElem]
   intro i j hi hj hij
   have key : ∀ d:Nat,(hd:i+d+1 < l.length)→l[i] < l[i+d+1]:=by
    intro d
    induction d with
    | zero =>
     intro hd
     have:=h (i:Int) (by omega) (by simp [ah];omega)
     rw [show ((i:Int)+1)=((i+1:Nat):Int) by omega,tZ hi,tZ hd] at this
     exact this
    | succ d ih =>
     intro hd
     have h1:=ih (by omega)
     have:=h ((i+d+1:Nat):Int) (by omega) (by simp [ah];omega)
     rw [show (((i+d+1:Nat):Int)+1)=((i+(d+1)+1:Nat):Int) by omega,tZ (show i+d+1 < l.length by omega),tZ hd] at this
     omega
   have:=key (j-i-1) (by omega)
   have e:i+(j-i-1)+1=j:=by omega
   simpa only [e] using this
 · intro h i i0 i1
   rw [List.pairwise_iff_getElem] at h
   simp only [ah] at i1
   obtain ⟨k,rfl⟩ : ∃ k:Nat,i=k:=⟨i.toNat,by omega⟩
   rw [show ((k:Int)+1)=((k+1:Nat):Int) by omega,tZ (by omega),tZ (by omega)]
   exact h k (k+1) (by omega) (by omega) (by omega)
theorem abL {l:List Int} {p:Int→Prop} : (∀ i,0≤i→i < ah l→p (au 0 l i)) ↔ ∀ x∈l,p x:=by
 constructor
 · intro h x hx
   obtain ⟨k,hk,rfl⟩:=List.getElem_of_mem hx
   have:=h (k:Int) (by omega) (by simp [ah];omega)
   rwa [tZ hk] at this
 · intro h i i0 i1
   exact h _ (afK 0 l i0 i1)
theorem Md {s:eF} : GK s ↔ (1≤s.fW∧s.fW≤4096)∧(∀ x∈s.fL,0≤x∧x < s.fW)∧s.fL.Pairwise (· < ·) :=
 ⟨fun q=>⟨q.w,abL.1 q.low,abK.1 q.up⟩,fun h=>⟨h.1,abL.2 h.2.1,abK.2 h.2.2⟩⟩
theorem afM {s:eF} (hb:ah s.fL≤100000) {f:FV} {p:Int→Bool} (hf : ∀ x,RB f x=some (p x)):yg s f=some (s.fL.filter p):=by
 have hn:=bQ s.fL
 refine Yields.eq ?_
 unfold yg
 refine .cut (fun o=>o = .go (s.fL.filter p)) ?_ ?_
 · refine .loop (fun z=>0≤z.1∧z.1≤ah s.fL∧z.2=(s.fL.take z.1.toNat).filter p) (fun z=>(ah s.fL-z.1).toNat) ⟨by simp,by simpa using hn,by simp⟩ ?_
   rintro ⟨v,l⟩ ⟨v0,v1,e⟩
   simp only at v0 v1 e ⊢
   refine .ite (fun h=>?_) fun h=>.ret ?_
   · have h:v < ah s.fL:=by simpa using h
     have hl:ah l≤ah s.fL:=by
      rw [e]
      simp only [ah]
      have h1:=List.length_filter_le p (s.fL.take v.toNat)
      have h2:=List.length_take_le v.toNat s.fL
      have h3:(s.fL.take v.toNat).length≤s.fL.length:=by simp;omega
      omega
     have hl0:=bQ l
     obtain ⟨k,rfl⟩ : ∃ k:Nat,v=k:=⟨v.toNat,by omega⟩
     have hk:k < s.fL.length:=by simp only [ah] at h;omega
     have ht:s.fL.take (k+1)=s.fL.take k++[s.fL[k]]:=by rw [List.take_add_one,List.getElem?_eq_getElem hk];rfl
     refine .chk ⟨v0,h⟩ (.call (hf _) (.ite (fun hp=>?_) fun hp=>?_))
     · refine .chk (GN (by omega) (by omega) (by omega)) (.chk (bZ (by omega) (by omega)) (.ret ⟨⟨by simp only;omega,by simp only;omega,?_⟩,by simp only;omega⟩))
       simp only
       rw [show ((k:Int)+1).toNat=k+1 by omega,ht,List.filter_append,e]
       rw [tZ hk] at hp ⊢
       simp [hp]
     · refine .chk (bZ (by omega) (by omega)) (.ret ⟨⟨by simp only;omega,by simp only;omega,?_⟩,by simp only;omega⟩)
       simp only
       rw [show ((k:Int)+1).toNat=k+1 by omega,ht,List.filter_append,e]
       rw [tZ hk] at hp
       simp [hp]
   · have h : ¬ v < ah s.fL:=by simpa using h
     have hv:v=ah s.fL:=by omega
     subst hv
     rw [e,show (ah s.fL).toNat=s.fL.length by simp [ah],List.take_length]
     rfl
 · rintro o rfl
   exact .go (.ret rfl)
theorem II (v a b:Int) (h:a≤b):Yields (mO v a b) (fun x=>x=bR a (bH v b)∧a≤x∧x≤b):=⟨_,rfl,rfl,btw v a b h⟩
theorem ZA (h w:Int):Yields (qF h w) (fun v=>uV v.1 v.2∧v.2=bS.mk (bR 1 (bH h 1000)) (bR 1 (bH w 4096)) 0 (bR 1 (bH h 1000))):=by
 unfold qF
 refine .bind _ (II h 1 1000 (by omega)) fun a ha=>.bind _ (II w 1 4096 (by omega)) fun b hb=>.call rfl (.call rfl (.ret ?_))
 obtain ⟨rfl,a1,a2⟩:=ha
 obtain ⟨rfl,b1,b2⟩:=hb
 refine ⟨⟨⟨⟨a1,a2⟩,⟨b1,b2⟩,⟨Int.le_refl _,by show (0:Int) < bR 1 (bH h 1000);omega,Int.le_refl _⟩⟩,⟨Int.le_refl _,by show (0:Int) < bR 1 (bH w 4096);omega⟩,⟨Int.le_refl _,by show (0:Int) < bR 1 (bH h 1000);omega⟩,fun h=>(by cases h),fun h=>(by cases h),Y3,afJ⟩,rfl⟩
end Go.Vx
end
