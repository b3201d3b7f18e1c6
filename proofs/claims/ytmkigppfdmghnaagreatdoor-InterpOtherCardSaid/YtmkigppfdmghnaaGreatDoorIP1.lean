/- Rows that may be: what their cells are. No conditions. -/
import Derived.Test.YtmkigppfdmghnaaGreatDoorVxHoare
import Derived.Test.YtmkigppfdmghnaaGreatDoorILift
set_option linter.all false
section
namespace Go.Vx
set_option maxRecDepth 100000
def FitP (c:T_api_Cell):Prop:=0≤c.fR∧c.fR≤1114111∧(c.fW=0∧c.fR=0∨c.fW=1∨c.fW=2)
theorem anyO {α:Type} {c:Bool} {x y:Option α} {Q:α→Prop} (hx:c=true→Yields x Q) (hy:c=false→Yields y Q):Yields (if c=true then x else y) Q:=by
 cases c with
 | true=>exact hx rfl
 | false=>exact hy rfl
def PairP (l:List T_api_Cell) (i:Int):Prop :=
 ((getL d_api_Cell l i).fW=0→0 < i∧(getL d_api_Cell l (i-1)).fW=2)∧((getL d_api_Cell l i).fW=2→i+1 < lenL l∧(getL d_api_Cell l (i+1)).fW=0)
structure RowP (r:T_api_Row):Prop where
 pos:1≤lenL r.fCells
 top:lenL r.fCells≤4096
 dir:0≤r.fDir∧r.fDir≤2
 fit : ∀ i,0≤i→i < lenL r.fCells→FitP (getL d_api_Cell r.fCells i)
 pair : ∀ i,0≤i→i < lenL r.fCells→PairP r.fCells i
def FewP (l:List T_api_Row):Prop:=lenL l≤60∧∀ i,0≤i→i < lenL l→lenL (getL d_api_Row l i).fCells≤100
theorem few_yields (l:List T_api_Row):Yields (lapwingref09_Few l) (fun b=>b=true→FewP l):=by
 unfold lapwingref09_Few
 have hn:=lenL_nn l
 refine .ite (fun _=>.ret (fun h=>by cases h)) (fun h=>?_)
 have h6:lenL l≤60:=by simpa using h
 refine .cut (fun o=>(o = .go ()∧FewP l)∨o = .out false) ?_ ?_
 · refine .loop (fun v=>0≤v∧v≤lenL l∧∀ i,0≤i→i < v→lenL (getL d_api_Row l i).fCells≤100) (fun v=>(lenL l-v).toNat) ⟨by omega,by omega,fun i a b=>by omega⟩ ?_
   rintro v ⟨v0,v1,hv⟩
   refine .ite (fun h=>?_) (fun h=>?_)
   · have h:v < lenL l:=by simpa using h
     refine .chk ⟨v0,h⟩ (.ite (fun _=>.ret (.inr rfl)) (fun hc=>.chk (inR64 (by omega) (by omega)) (.ret ⟨⟨by omega,by omega,fun i a c=>?_⟩,by show (_-_:Int).toNat < (_-_:Int).toNat;omega⟩)))
     by_cases e:i=v
     · subst e;simpa using hc
     · exact hv i a (by omega)
   · have h : ¬ v < lenL l:=by simpa using h
     exact .ret (.inl ⟨rfl,h6,fun i a c=>hv i a (by omega)⟩)
 · rintro o (⟨rfl,h⟩ | rfl)
   · exact .go (.ret fun _=>h)
   · exact .out (fun h=>by cases h)
end Go.Vx
end
section
namespace Go.Vx
set_option maxRecDepth 100000
def Tot {α:Type} (o:Option α):Prop:=∃ r,o=some r
theorem Tot.of {α:Type} {o:Option α} {Q:α→Prop} (h:Yields o Q):Tot o:=⟨_,h.choose_spec.1⟩
theorem Tot.yields {α:Type} {o:Option α} (h:Tot o):Yields o (fun _=>True):=⟨_,h.choose_spec,trivial⟩
theorem Tot.ret {α:Type} {v:α} : Tot (some v):=⟨v,rfl⟩
theorem Tot.bind {α β:Type} {o:Option β} {k:β→Option α} (h:Tot o) (hk : ∀ b,Tot (k b)):Tot (bindO o k):=by
 obtain ⟨b,hb⟩:=h
 obtain ⟨r,hr⟩:=hk b
 exact ⟨r,by rw [hb];exact hr⟩
theorem Tot.cut {β γ:Type} {A:Option (Fl β γ)} {k:β→Option γ} (h:Tot A) (hk : ∀ b,Tot (k b)):Tot (cutO A k):=by
 obtain ⟨f,hf⟩:=h
 cases f with
 | go b =>
  obtain ⟨r,hr⟩:=hk b
  exact ⟨r,by rw [hf];exact hr⟩
 | out r=>exact ⟨r,by rw [hf];rfl⟩
theorem Tot.ite {α:Type} {c:Bool} {x y:Option α} (hx:c=true→Tot x) (hy:c=false→Tot y):Tot (iteO c x y):=by
 cases c with
 | true=>exact hx rfl
 | false=>exact hy rfl
theorem Tot.any {α:Type} {c:Bool} {x y:Option α} (hx:c=true→Tot x) (hy:c=false→Tot y):Tot (if c=true then x else y):=by
 cases c with
 | true=>exact hx rfl
 | false=>exact hy rfl
theorem Tot.chk {α:Type} {c:Prop} [Decidable c] {k:Option α} (h:c) (hk:Tot k):Tot (chk c k):=by
 obtain ⟨r,hr⟩:=hk
 exact ⟨r,by rw [chk_ok h];exact hr⟩
end Go.Vx
end
