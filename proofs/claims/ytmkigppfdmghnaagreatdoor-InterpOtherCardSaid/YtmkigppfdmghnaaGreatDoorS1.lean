/- What may be: what each test of a state says, exactly. No conditions. -/
import Derived.Test.YtmkigppfdmghnaaGreatDoorIP1
set_option linter.all false
namespace Go.Vx
set_option maxRecDepth 100000
abbrev Says (o:Option Bool) (P:Prop):Prop:=Yields o (fun b=>b=true ↔ P)
theorem Says.ok {o:Option Bool} {P:Prop} (h:Says o P) (p:P):o=some true:=by
 obtain ⟨b,h1,h2⟩:=h
 rw [h1,h2.2 p]
theorem Yields.guard {c:Bool} {x:Option Bool} {P:Prop} (h:c=true→Says x P):Yields (if c=true then x else some false) (fun z=>z=true ↔ (c=true∧P)):=by
 cases c with
 | true=>exact (h rfl).mono fun r hr=>by simpa using hr
 | false=>exact ⟨false,rfl,by simp⟩
theorem Yields.no {P:Prop} (h : ¬ P):Says (some false) P:=⟨false,rfl,by simp [h]⟩
theorem Yields.yes {P:Prop} (h:P):Says (some true) P:=⟨true,rfl,by simp [h]⟩
def Go2 {γ:Type} (A:Prop) (o:Fl Unit γ) (bad:γ):Prop:=o = .go ()∧A∨o = .out bad∧¬ A
def ColQ (c:Int):Prop:=0≤c∧c≤256∨16777216≤c∧c < 33554432
structure PenQ (p:T_api_Pen):Prop where
 fg:ColQ p.fFg
 bg:ColQ p.fBg
 fl:0≤p.fFlags∧p.fFlags≤511
theorem penQ_iff {p:T_api_Pen} : PenQ p ↔ ColQ p.fFg∧ColQ p.fBg∧0≤p.fFlags∧p.fFlags≤511:=⟨fun h=>⟨h.fg,h.bg,h.fl⟩,fun h=>⟨h.1,h.2.1,h.2.2⟩⟩
theorem col_says (c:Int):Says (pen_isColour c) (ColQ c):=⟨_,rfl,by unfold ColQ;grind⟩
theorem pen_says (p:T_api_Pen):Says (pen_Sane p) (PenQ p):=by
 unfold pen_Sane
 refine .bind _ (col_says _) fun v hv=>.bind _ (.guard fun _=>col_says _) fun w hw=>.ret ?_
 rw [penQ_iff]
 grind
def SetB (f:Int):Prop:=f=66∨f=48∨f=65
structure SetQ (s:T_charset_State):Prop where
 g:SetB s.fG.x0∧SetB s.fG.x1∧SetB s.fG.x2∧SetB s.fG.x3
 gl:0≤s.fGL∧s.fGL≤3
 gr:0≤s.fGR∧s.fGR≤3
 once:s.fOnce=0∨s.fOnce=2∨s.fOnce=3
theorem setQ_iff {s:T_charset_State} : SetQ s ↔ (SetB s.fG.x0∧SetB s.fG.x1∧SetB s.fG.x2∧SetB s.fG.x3)∧(0≤s.fGL∧s.fGL≤3)∧(0≤s.fGR∧s.fGR≤3)∧(s.fOnce=0∨s.fOnce=2∨s.fOnce=3) :=
 ⟨fun h=>⟨h.g,h.gl,h.gr,h.once⟩,fun h=>⟨h.1,h.2.1,h.2.2.1,h.2.2.2⟩⟩
theorem setB_says (f:Int):Says (charset_isSet f) (SetB f):=⟨_,rfl,by unfold SetB;grind⟩
theorem Go2.test {γ δ:Type} {o:Option Bool} {P:Prop} {c:Prop} [Decidable c] {bad:γ} {M:Fl Unit (Fl δ γ)→Prop} (h:Says o P) (hc:c) (hg:P→M (.go ())) (hb : ¬ P→M (.out (.out bad))) :
  Yields (bindO o fun v=>iteO (!v) (some (.out (.out bad))) (chk c (some (.go ())))) M:=by
 refine .bind _ h fun v hv=>.ite (fun e=>.ret (hb fun p=>?_)) (fun e=>.chk hc (.ret (hg (hv.1 ?_))))
 · rw [hv.2 p] at e;cases e
 · cases v<;>simp at e ⊢
theorem set_says (s:T_charset_State):Says (charset_Sane s) (SetQ s):=by
 unfold charset_Sane
 have h1 : ∀ k:Int,0≤k→k≤4→inR .i64 (k+1):=fun k _ _=>inR64 (by omega) (by omega)
 refine .cut (fun o=>Go2 (SetB s.fG.x0∧SetB s.fG.x1∧SetB s.fG.x2∧SetB s.fG.x3) o false) ?_ ?_
 · refine .cut (fun o=>o = .go ()∧SetB s.fG.x0∨o = .out (.out false)∧¬ SetB s.fG.x0) (Go2.test (setB_says _) (h1 _ (by omega) (by omega)) (fun p=>.inl ⟨rfl,p⟩) (fun p=>.inr ⟨rfl,p⟩)) ?_
   rintro o (⟨rfl,p0⟩ | ⟨rfl,p0⟩)
   · refine .go (.cut (fun o=>o = .go ()∧SetB s.fG.x1∨o = .out (.out false)∧¬ SetB s.fG.x1) (Go2.test (setB_says _) (h1 _ (by omega) (by omega)) (fun p=>.inl ⟨rfl,p⟩) (fun p=>.inr ⟨rfl,p⟩)) ?_)
     rintro o (⟨rfl,p1⟩ | ⟨rfl,p1⟩)
     · refine .go (.cut (fun o=>o = .go ()∧SetB s.fG.x2∨o = .out (.out false)∧¬ SetB s.fG.x2) (Go2.test (setB_says _) (h1 _ (by omega) (by omega)) (fun p=>.inl ⟨rfl,p⟩) (fun p=>.inr ⟨rfl,p⟩)) ?_)
       rintro o (⟨rfl,p2⟩ | ⟨rfl,p2⟩)
       · refine .go (.cut (fun o=>o = .go ()∧SetB s.fG.x3∨o = .out (.out false)∧¬ SetB s.fG.x3) (Go2.test (setB_says _) (h1 _ (by omega) (by omega)) (fun p=>.inl ⟨rfl,p⟩) (fun p=>.inr ⟨rfl,p⟩)) ?_)
         rintro o (⟨rfl,p3⟩ | ⟨rfl,p3⟩)
         · exact .go (.ret (.inl ⟨rfl,p0,p1,p2,p3⟩))
         · exact .out (.inr ⟨rfl,fun h=>p3 h.2.2.2⟩)
       · exact .out (.inr ⟨rfl,fun h=>p2 h.2.2.1⟩)
     · exact .out (.inr ⟨rfl,fun h=>p1 h.2.1⟩)
   · exact .out (.inr ⟨rfl,fun h=>p0 h.1⟩)
 · rintro o (⟨rfl,p⟩ | ⟨rfl,p⟩)
   · refine .go ?_
     have pl : ∀ w:Int,Says (charset_isPlace w) (0≤w∧w≤3):=fun w=>⟨_,rfl,by grind⟩
     have sh : ∀ w:Int,Says (charset_isShift w) (w=2∨w=3):=fun w=>⟨_,rfl,by grind⟩
     refine .bind _ (pl _) fun v hv=>.bind _ (.guard fun _=>pl _) fun w hw=>.bind _ (.guard fun _=>sh _) fun u hu=>.ret ?_
     rw [setQ_iff]
     grind
   · exact .out ⟨fun h=>(by cases h),fun h=>absurd h.g p⟩
structure RegQ (r:T_cursor_Region):Prop where
 h:1≤r.fH∧r.fH≤1000
 w:1≤r.fW∧r.fW≤4096
 t:0≤r.fTop∧r.fTop < r.fBottom∧r.fBottom≤r.fH
theorem reg_says (r:T_cursor_Region):Says (cursor_region r) (RegQ r):=by
 have e:RegQ r ↔ (1≤r.fH∧r.fH≤1000)∧(1≤r.fW∧r.fW≤4096)∧(0≤r.fTop∧r.fTop < r.fBottom∧r.fBottom≤r.fH):=⟨fun h=>⟨h.h,h.w,h.t⟩,fun h=>⟨h.1,h.2.1,h.2.2⟩⟩
 unfold cursor_region
 rw [e]
 exact .ite (fun h=>.no (by grind)) (fun h=>⟨_,rfl,by grind⟩)
structure CurQ (c:T_cursor_Cursor) (r:T_cursor_Region):Prop where
 reg:RegQ r
 x:0≤c.fX∧c.fX < r.fW
 y:0≤c.fY∧c.fY < r.fH
 wrap:c.fWrap=true→c.fX=r.fW-1
 org:c.fOrigin=true→r.fTop≤c.fY∧c.fY < r.fBottom
 pen:PenQ c.fPen
 set:SetQ c.fSet
theorem cur_says (c:T_cursor_Cursor) (r:T_cursor_Region):Says (cursor_Sane c r) (CurQ c r):=by
 have e:CurQ c r ↔ RegQ r∧(0≤c.fX∧c.fX < r.fW)∧(0≤c.fY∧c.fY < r.fH)∧(c.fWrap=true→c.fX=r.fW-1)∧(c.fOrigin=true→r.fTop≤c.fY∧c.fY < r.fBottom)∧PenQ c.fPen∧SetQ c.fSet :=
  ⟨fun h=>⟨h.reg,h.x,h.y,h.wrap,h.org,h.pen,h.set⟩,fun h=>⟨h.1,h.2.1,h.2.2.1,h.2.2.2.1,h.2.2.2.2.1,h.2.2.2.2.2.1,h.2.2.2.2.2.2⟩⟩
 unfold cursor_Sane
 rw [e]
 refine .bind _ (reg_says r) fun v hv=>.ite (fun h=>.no (by grind)) (fun h=>?_)
 have hr:RegQ r:=by grind
 have hw:=hr.w
 have ins:Says (cursor_inside c r) (r.fTop≤c.fY∧c.fY < r.fBottom):=⟨_,rfl,by grind⟩
 refine .chk (fun _=>inR64 (by omega) (by omega)) (.bind _ (.guard fun _=>ins) fun w hw=>.ite (fun h=>.no (by grind)) (fun h=>.bind _ (pen_says _) fun a ha=>.bind _ (.guard fun _=>set_says _) fun b hb=>.ret (by grind)))
def CellQ (c:T_api_Cell):Prop:=(0≤c.fM.x0∧c.fM.x0≤1114111∧(c.fM.x0≠0→c.fR≠0))∧(0≤c.fM.x1∧c.fM.x1≤1114111∧(c.fM.x1≠0→c.fR≠0))∧(0≤c.fR∧c.fR≤1114111)∧(c.fM.x0=0→c.fM.x1=0)∧PenQ c.fPen∧(c.fW=0∧c.fR=0∨c.fW=1∨c.fW=2∧c.fR≠0)
theorem fits_says (c:T_api_Cell):Says (row_fits c) (CellQ c):=by
 unfold row_fits
 refine .cut (fun o=>Go2 ((0≤c.fM.x0∧c.fM.x0≤1114111∧(c.fM.x0≠0→c.fR≠0))∧(0≤c.fM.x1∧c.fM.x1≤1114111∧(c.fM.x1≠0→c.fR≠0))) o false) ?_ ?_
 · refine .cut (fun o=>o = .go ()∧(0≤c.fM.x0∧c.fM.x0≤1114111∧(c.fM.x0≠0→c.fR≠0))∨o = .out (.out false)∧¬ (0≤c.fM.x0∧c.fM.x0≤1114111∧(c.fM.x0≠0→c.fR≠0))) (.ite (fun h=>.ret (.inr ⟨rfl,by grind⟩)) (fun h=>.chk (inR64 (by omega) (by omega)) (.ret (.inl ⟨rfl,by grind⟩)))) ?_
   rintro o (⟨rfl,p⟩ | ⟨rfl,p⟩)
   · refine .go (.cut (fun o=>o = .go ()∧(0≤c.fM.x1∧c.fM.x1≤1114111∧(c.fM.x1≠0→c.fR≠0))∨o = .out (.out false)∧¬ (0≤c.fM.x1∧c.fM.x1≤1114111∧(c.fM.x1≠0→c.fR≠0))) (.ite (fun h=>.ret (.inr ⟨rfl,by grind⟩)) (fun h=>.chk (inR64 (by omega) (by omega)) (.ret (.inl ⟨rfl,by grind⟩)))) ?_)
     rintro o (⟨rfl,q⟩ | ⟨rfl,q⟩)
     · exact .go (.ret (.inl ⟨rfl,p,q⟩))
     · exact .out (.inr ⟨rfl,fun h=>q h.2⟩)
   · exact .out (.inr ⟨rfl,fun h=>p h.1⟩)
 · unfold CellQ
   rintro o (⟨rfl,p⟩ | ⟨rfl,p⟩)
   · refine .go (.bind _ (.guard fun _=>pen_says _) fun v hv=>.ite (fun h=>.no (by grind)) (fun h=>.ite (fun h0=>⟨_,rfl,by grind⟩) fun h0=>.ite (fun h1=>.yes (by grind)) fun h1=>.ite (fun h2=>⟨_,rfl,by grind⟩) fun h2=>.no (by grind)))
   · exact .out ⟨fun h=>(by cases h),fun h=>absurd ⟨h.1,h.2.1⟩ p⟩
theorem lost_says {l:List T_api_Cell} {i:Int} (h0:0≤i) (h1:i < lenL l) (hb:lenL l≤100000):Says (row_lost l i) (¬ PairP l i):=by
 unfold row_lost PairP
 refine .chk ⟨h0,h1⟩ (.ite (fun hw=>?_) (fun hw=>.ite (fun hw2=>?_) (fun hw2=>.no (by grind))))
 · refine .chk (fun _=>inR64 (by omega) (by omega)) (.chk (fun h=>?_) ⟨_,rfl,?_⟩)
   · have:i≠0:=by simpa using h
     omega
   · have hw:(getL d_api_Cell l i).fW=0:=by simpa using hw
     by_cases hi:i=0
     · subst hi
       simp [hw]
     · simp [hi,hw]
       omega
 · have hw:(getL d_api_Cell l i).fW=2:=by simpa using hw2
   refine .chk (inR64 (by omega) (by omega)) (.chk (fun _=>inR64 (by omega) (by omega)) (.chk (fun h=>?_) ⟨_,rfl,?_⟩))
   · have:i+1≠lenL l:=by simpa using h
     omega
   · by_cases hi:i+1=lenL l
     · simp [hi,hw]
     · simp [hi,hw]
       omega
structure RowQ (r:T_api_Row):Prop where
 pos:1≤lenL r.fCells
 top:lenL r.fCells≤4096
 dir:0≤r.fDir∧r.fDir≤2
 fit : ∀ i,0≤i→i < lenL r.fCells→CellQ (getL d_api_Cell r.fCells i)
 pair : ∀ i,0≤i→i < lenL r.fCells→PairP r.fCells i
theorem rowQ_says (r:T_api_Row):Says (row_Sane r) (RowQ r):=by
 unfold row_Sane
 refine .ite (fun h=>.no (fun q=>?_)) (fun h=>?_)
 · have:=q.pos;have:=q.top;have:=q.dir
   grind
 have hh:1≤lenL r.fCells∧lenL r.fCells≤4096∧0≤r.fDir∧r.fDir≤2:=by grind
 obtain ⟨p1,p2,p3,p4⟩:=hh
 refine .cut (fun o=>Go2 (RowQ r) o false) ?_ ?_
 · refine .loop (fun v=>0≤v∧v≤lenL r.fCells∧∀ i,0≤i→i < v→CellQ (getL d_api_Cell r.fCells i)∧PairP r.fCells i) (fun v=>(lenL r.fCells-v).toNat) ⟨by omega,by omega,fun i a b=>by omega⟩ ?_
   rintro v ⟨v0,v1,hv⟩
   refine .ite (fun h=>?_) (fun h=>?_)
   · have h:v < lenL r.fCells:=by simpa using h
     refine .chk ⟨v0,h⟩ (.bind _ (fits_says _) fun b hb=>.bind _ (.guard fun _=>lost_says v0 h (by omega)) fun z hz=>.ite (fun hc=>.ret (.inr ⟨rfl,fun q=>?_⟩)) (fun hc=>.chk (inR64 (by omega) (by omega)) (.ret ⟨⟨by omega,by omega,fun i a c=>?_⟩,by show (_-_:Int).toNat < (_-_:Int).toNat;omega⟩)))
     · have h1:=q.fit v v0 h
       have h2:=q.pair v v0 h
       grind
     · by_cases e:i=v
       · subst e
         grind
       · exact hv i a (by omega)
   · have h : ¬ v < lenL r.fCells:=by simpa using h
     exact .ret (.inl ⟨rfl,p1,p2,⟨p3,p4⟩,fun i a c=>(hv i a (by omega)).1,fun i a c=>(hv i a (by omega)).2⟩)
 · rintro o (⟨rfl,h⟩ | ⟨rfl,h⟩)
   · exact .go (.yes h)
   · exact .out ⟨fun h=>(by cases h),fun q=>absurd q h⟩
structure GridQ (g:T_grid_Grid):Prop where
 pos:1≤lenL g.fRows
 top:lenL g.fRows≤1000
 wid : ∀ i,0≤i→i < lenL g.fRows→lenL (getL d_api_Row g.fRows i).fCells=lenL (getL d_api_Row g.fRows 0).fCells
 row : ∀ i,0≤i→i < lenL g.fRows→RowQ (getL d_api_Row g.fRows i)
theorem grid_says (g:T_grid_Grid):Says (grid_Sane g) (GridQ g):=by
 unfold grid_Sane
 refine .ite (fun h=>.no (fun q=>?_)) (fun h=>?_)
 · have:=q.pos;have:=q.top
   grind
 have hh:1≤lenL g.fRows∧lenL g.fRows≤1000:=by grind
 obtain ⟨p1,p2⟩:=hh
 refine .cut (fun o=>Go2 (GridQ g) o false) ?_ ?_
 · refine .loop (fun v=>0≤v∧v≤lenL g.fRows∧∀ i,0≤i→i < v→lenL (getL d_api_Row g.fRows i).fCells=lenL (getL d_api_Row g.fRows 0).fCells∧RowQ (getL d_api_Row g.fRows i)) (fun v=>(lenL g.fRows-v).toNat) ⟨by omega,by omega,fun i a b=>by omega⟩ ?_
   rintro v ⟨v0,v1,hv⟩
   refine .ite (fun h=>?_) (fun h=>?_)
   · have h:v < lenL g.fRows:=by simpa using h
     refine .chk ⟨v0,h⟩ (.chk ⟨by omega,by omega⟩ (.bind _ (.guard fun _=>rowQ_says _) fun z hz=>.ite (fun hc=>.ret (.inr ⟨rfl,fun q=>?_⟩)) (fun hc=>.chk (inR64 (by omega) (by omega)) (.ret ⟨⟨by omega,by omega,fun i a c=>?_⟩,by show (_-_:Int).toNat < (_-_:Int).toNat;omega⟩))))
     · have h1:=q.wid v v0 h
       have h2:=q.row v v0 h
       grind
     · by_cases e:i=v
       · subst e
         grind
       · exact hv i a (by omega)
   · have h : ¬ v < lenL g.fRows:=by simpa using h
     exact .ret (.inl ⟨rfl,p1,p2,fun i a c=>(hv i a (by omega)).1,fun i a c=>(hv i a (by omega)).2⟩)
 · rintro o (⟨rfl,h⟩ | ⟨rfl,h⟩)
   · exact .go (.yes h)
   · exact .out ⟨fun h=>(by cases h),fun q=>absurd q h⟩
structure KeptQ (k:T_history_Kept):Prop where
 cap:0≤k.fCap∧k.fCap≤200
 len:lenL k.fRows≤k.fCap
 row : ∀ i,0≤i→i < lenL k.fRows→RowQ (getL d_api_Row k.fRows i)
theorem kept_says (k:T_history_Kept):Says (history_Sane k) (KeptQ k):=by
 unfold history_Sane
 have hn:=lenL_nn k.fRows
 refine .ite (fun h=>.no (fun q=>?_)) (fun h=>?_)
 · have:=q.cap;have:=q.len
   grind
 have hh:0≤k.fCap∧k.fCap≤200∧lenL k.fRows≤k.fCap:=by grind
 obtain ⟨p1,p2,p3⟩:=hh
 refine .cut (fun o=>Go2 (KeptQ k) o false) ?_ ?_
 · refine .loop (fun v=>0≤v∧v≤lenL k.fRows∧∀ i,0≤i→i < v→RowQ (getL d_api_Row k.fRows i)) (fun v=>(lenL k.fRows-v).toNat) ⟨by omega,by omega,fun i a b=>by omega⟩ ?_
   rintro v ⟨v0,v1,hv⟩
   refine .ite (fun h=>?_) (fun h=>?_)
   · have h:v < lenL k.fRows:=by simpa using h
     refine .chk ⟨v0,h⟩ (.bind _ (rowQ_says _) fun z hz=>.ite (fun hc=>.ret (.inr ⟨rfl,fun q=>?_⟩)) (fun hc=>.chk (inR64 (by omega) (by omega)) (.ret ⟨⟨by omega,by omega,fun i a c=>?_⟩,by show (_-_:Int).toNat < (_-_:Int).toNat;omega⟩)))
     · have h2:=q.row v v0 h
       grind
     · by_cases e:i=v
       · subst e
         grind
       · exact hv i a (by omega)
   · have h : ¬ v < lenL k.fRows:=by simpa using h
     exact .ret (.inl ⟨rfl,⟨p1,p2⟩,p3,fun i a c=>hv i a (by omega)⟩)
 · rintro o (⟨rfl,h⟩ | ⟨rfl,h⟩)
   · exact .go (.yes h)
   · exact .out ⟨fun h=>(by cases h),fun q=>absurd q h⟩
structure TabQ (s:T_tabs_Stops):Prop where
 w:1≤s.fW∧s.fW≤4096
 low : ∀ i,0≤i→i < lenL s.fL→0≤getL 0 s.fL i∧getL 0 s.fL i < s.fW
 up : ∀ i,0≤i→i+1 < lenL s.fL→getL 0 s.fL i < getL 0 s.fL (i+1)
theorem TabQ.len {s:T_tabs_Stops} (q:TabQ s):lenL s.fL≤s.fW:=by
 have key : ∀ n:Nat,(n:Int) < lenL s.fL→(n:Int)≤getL 0 s.fL n:=by
  intro n
  induction n with
  | zero=>intro h;exact (q.low 0 (by omega) h).1
  | succ n ih =>
   intro h
   have h1:=ih (by omega)
   have h2:=q.up n (by omega) (by omega)
   have:((n+1:Nat):Int)=(n:Int)+1:=by omega
   rw [this]
   omega
 have hn:=lenL_nn s.fL
 by_cases h:lenL s.fL=0
 · have:=q.w;omega
 · have h1:=key (lenL s.fL-1).toNat (by omega)
   have h2:=q.low ((lenL s.fL-1).toNat:Int) (by omega) (by omega)
   omega
theorem tab_says (s:T_tabs_Stops) (hb:lenL s.fL≤100000):Says (tabs_Sane s) (TabQ s):=by
 unfold tabs_Sane
 have hn:=lenL_nn s.fL
 refine .ite (fun h=>.no (fun q=>?_)) (fun h=>?_)
 · have:=q.w
   grind
 have hh:1≤s.fW∧s.fW≤4096:=by grind
 refine .cut (fun o=>Go2 (TabQ s) o false) ?_ ?_
 · refine .loop (fun p=>0≤p.2∧p.2≤lenL s.fL∧-1≤p.1∧(p.2=0→p.1 = -1)∧(0 < p.2→p.1=getL 0 s.fL (p.2-1))∧(∀ i,0≤i→i < p.2→0≤getL 0 s.fL i∧getL 0 s.fL i < s.fW)∧∀ i,0≤i→i+1 < p.2→getL 0 s.fL i < getL 0 s.fL (i+1)) (fun p=>(lenL s.fL-p.2).toNat) ⟨by simp,by simpa using hn,by simp,by simp,by simp,by intro i a b;simp at b;omega,by intro i a b;simp at b;omega⟩ ?_
   rintro ⟨a,v⟩ ⟨v0,v1,a0,a1,a2,hv,hu⟩
   simp only at v0 v1 a0 a1 a2 hv hu ⊢
   refine .ite (fun h=>?_) (fun h=>?_)
   · have h:v < lenL s.fL:=by simpa using h
     refine .chk ⟨v0,h⟩ (.ite (fun hc=>.ret (.inr ⟨rfl,fun q=>?_⟩)) (fun hc=>.chk (inR64 (by omega) (by omega)) (.ret ⟨⟨by simp only;omega,by simp only;omega,?_,?_,?_,fun i c d=>?_,fun i c d=>?_⟩,by simp only;omega⟩)))
     · have q1:=q.low v v0 h
       by_cases hz:v=0
       · have:=a1 hz
         grind
       · have q2:=q.up (v-1) (by omega) (by omega)
         have e:v-1+1=v:=by omega
         rw [e] at q2
         have:=a2 (by omega)
         grind
     · simp only;grind
     · simp only;intro hz;omega
     · simp only;intro _;congr 1;omega
     · simp only at d
       by_cases e:i=v
       · subst e
         grind
       · exact hv i c (by omega)
     · simp only at d
       by_cases e:i+1=v
       · have:=a2 (by omega)
         have e2:v-1=i:=by omega
         rw [e2] at this
         rw [e,← this]
         grind
       · exact hu i c (by omega)
   · have h : ¬ v < lenL s.fL:=by simpa using h
     exact .ret (.inl ⟨rfl,hh,fun i c d=>hv i c (by omega),fun i c d=>hu i c (by omega)⟩)
 · rintro o (⟨rfl,h⟩ | ⟨rfl,h⟩)
   · exact .go (.yes h)
   · exact .out ⟨fun h=>(by cases h),fun q=>absurd q h⟩
structure ScrQ (s:T_screen_Screen):Prop where
 dir:0≤s.fDir∧s.fDir≤2
 cur:CurQ s.fC s.fR
 tab:TabQ s.fT
 tw:s.fT.fW=s.fR.fW
 grid:GridQ s.fG
 h:lenL s.fG.fRows=s.fR.fH
 w:lenL (getL d_api_Row s.fG.fRows 0).fCells=s.fR.fW
 kept:KeptQ s.fK
theorem size_yields (g:T_grid_Grid):Yields (grid_Size g) (fun v=>(GridQ g∧v=(lenL g.fRows,lenL (getL d_api_Row g.fRows 0).fCells))∨(¬ GridQ g∧v=(0,0))):=by
 unfold grid_Size
 refine .bind _ (grid_says g) fun v hv=>.ite (fun h=>.ret (.inr ⟨fun q=>?_,rfl⟩)) (fun h=>?_)
 · rw [hv.2 q] at h;cases h
 · have q:GridQ g:=hv.1 (by cases v<;>simp at h ⊢)
   have:=q.pos
   exact .chk ⟨by omega,by omega⟩ (.ret (.inl ⟨q,rfl⟩))
theorem scr_says (s:T_screen_Screen) (hb:lenL s.fT.fL≤100000):Says (screen_Sane s) (ScrQ s):=by
 have e:ScrQ s ↔ (0≤s.fDir∧s.fDir≤2)∧CurQ s.fC s.fR∧TabQ s.fT∧s.fT.fW=s.fR.fW∧GridQ s.fG∧lenL s.fG.fRows=s.fR.fH∧lenL (getL d_api_Row s.fG.fRows 0).fCells=s.fR.fW∧KeptQ s.fK :=
  ⟨fun h=>⟨h.dir,h.cur,h.tab,h.tw,h.grid,h.h,h.w,h.kept⟩,fun h=>⟨h.1,h.2.1,h.2.2.1,h.2.2.2.1,h.2.2.2.2.1,h.2.2.2.2.2.1,h.2.2.2.2.2.2.1,h.2.2.2.2.2.2.2⟩⟩
 unfold screen_Sane
 rw [e]
 refine .ite (fun h=>.no (by grind)) (fun h=>.bind _ (cur_says _ _) fun v hv=>.bind _ (.guard fun _=>tab_says _ hb) fun w hw=>.ite (fun h=>.no (by grind)) (fun h2=>.bind _ (size_yields _) fun z hz=>?_))
 have hc:CurQ s.fC s.fR:=by grind
 have hr:=hc.reg.h
 rcases hz with ⟨gq,rfl⟩ | ⟨gq,rfl⟩
 · refine .ite (fun h=>.no (by grind)) (fun h3=>.bind _ (kept_says _) fun k hk=>.ret (by grind))
 · refine .ite (fun h=>.no (by grind)) (fun h3=>?_)
   exfalso
   grind
theorem ScrQ.tl {s:T_screen_Screen} (q:ScrQ s):lenL s.fT.fL≤100000:=by
 have:=q.tab.len
 have:=q.tab.w
 omega
theorem ScrQ.ok {s:T_screen_Screen} (q:ScrQ s):screen_Sane s=some true:=(scr_says s q.tl).ok q
end Go.Vx
