/- Rows that may be: what their cells are. No conditions. -/
import Derived.Test.YtmkigppfdmghnaaGreatDoorVxHoare
import Derived.Test.YtmkigppfdmghnaaGreatDoorILift
set_option linter.all false
namespace Go.Vx
set_option maxRecDepth 100000
def FitP (c:T_api_Cell):Prop:=0≤c.fR∧c.fR≤1114111∧(c.fW=0∧c.fR=0∨c.fW=1∨c.fW=2)
theorem anyO {α:Type} {c:Bool} {x y:Option α} {Q:α→Prop} (hx:c=true→Yields x Q) (hy:c=false→Yields y Q):Yields (if c=true then x else y) Q:=by
 cases c with
 | true=>exact hx rfl
 | false=>exact hy rfl
theorem pen_yields (p:T_api_Pen):Yields (pen_Sane p) (fun _=>True):=by
 unfold pen_Sane
 refine .call (b:=_) rfl (.bind (fun _=>True) ?_ (fun _ _=>⟨_,rfl,trivial⟩))
 exact anyO (fun _=>⟨_,rfl,trivial⟩) (fun _=>⟨_,rfl,trivial⟩)
theorem fits_yields (c:T_api_Cell):Yields (row_fits c) (fun b=>b=true→FitP c):=by
 unfold row_fits
 refine .cut (fun o=>o = .go ()∨o = .out false) ?_ ?_
 · refine .cut (fun o=>o = .go ()∨o = .out (.out false)) (.ite (fun _=>.ret (.inr rfl)) (fun _=>.chk (inR64 (by omega) (by omega)) (.ret (.inl rfl)))) ?_
   rintro o (rfl | rfl)
   · refine .go (.cut (fun o=>o = .go ()∨o = .out (.out false)) (.ite (fun _=>.ret (.inr rfl)) (fun _=>.chk (inR64 (by omega) (by omega)) (.ret (.inl rfl)))) ?_)
     rintro o (rfl | rfl)
     · exact .go (.ret (.inl rfl))
     · exact .out (.inr rfl)
   · exact .out (.inr rfl)
 · rintro o (rfl | rfl)
   · refine .go (.bind (fun _=>True) ?_ (fun v _=>.ite (fun _=>.ret (fun h=>by cases h)) (fun h=>?_)))
     · exact anyO (fun _=>pen_yields _) (fun _=>⟨_,rfl,trivial⟩)
     · have hr:0≤c.fR∧c.fR≤1114111:=by
        by_cases h1:c.fR < 0
        · simp [h1] at h
        · by_cases h2:1114111 < c.fR
          · simp [h2] at h
          · omega
       refine .ite (fun h0=>.ret (fun h=>?_)) (fun _=>.ite (fun h1=>.ret (fun _=>?_)) (fun _=>.ite (fun h2=>.ret (fun _=>?_)) (fun _=>.ret (fun h=>by cases h))))
       · exact ⟨hr.1,hr.2,.inl ⟨by simpa using h0,by simpa using h⟩⟩
       · exact ⟨hr.1,hr.2,.inr (.inl (by simpa using h1))⟩
       · exact ⟨hr.1,hr.2,.inr (.inr (by simpa using h2))⟩
   · exact .out (fun h=>by cases h)
def PairP (l:List T_api_Cell) (i:Int):Prop :=
 ((getL d_api_Cell l i).fW=0→0 < i∧(getL d_api_Cell l (i-1)).fW=2)∧((getL d_api_Cell l i).fW=2→i+1 < lenL l∧(getL d_api_Cell l (i+1)).fW=0)
theorem lost_yields {l:List T_api_Cell} {i:Int} (h0:0≤i) (h1:i < lenL l) (hb:lenL l≤100000):Yields (row_lost l i) (fun b=>b=false→PairP l i):=by
 unfold row_lost
 refine .chk ⟨h0,h1⟩ (.ite (fun hw=>?_) (fun hw=>.ite (fun hw2=>?_) (fun hw2=>.ret (fun _=>?_))))
 · have hw:(getL d_api_Cell l i).fW=0:=by simpa using hw
   refine .chk (fun _=>inR64 (by omega) (by omega)) (.chk (fun h=>?_) (.ret (fun h=>?_)))
   · have:i≠0:=by simpa using h
     omega
   · have : ¬ i=0∧(getL d_api_Cell l (i-1)).fW=2:=by simpa using h
     exact ⟨fun _=>⟨by omega,this.2⟩,fun h=>by omega⟩
 · have hw:(getL d_api_Cell l i).fW=2:=by simpa using hw2
   refine .chk (inR64 (by omega) (by omega)) (.chk (fun _=>inR64 (by omega) (by omega)) (.chk (fun h=>?_) (.ret (fun h=>?_))))
   · have:i+1≠lenL l:=by simpa using h
     omega
   · have : ¬ i+1=lenL l∧(getL d_api_Cell l (i+1)).fW=0:=by simpa using h
     exact ⟨fun h=>by omega,fun _=>⟨by omega,this.2⟩⟩
 · have hw:(getL d_api_Cell l i).fW≠0:=by simpa using hw
   have hw2:(getL d_api_Cell l i).fW≠2:=by simpa using hw2
   exact ⟨fun h=>absurd h hw,fun h=>absurd h hw2⟩
structure RowP (r:T_api_Row):Prop where
 pos:1≤lenL r.fCells
 top:lenL r.fCells≤4096
 dir:0≤r.fDir∧r.fDir≤2
 fit : ∀ i,0≤i→i < lenL r.fCells→FitP (getL d_api_Cell r.fCells i)
 pair : ∀ i,0≤i→i < lenL r.fCells→PairP r.fCells i
theorem row_yields (r:T_api_Row):Yields (row_Sane r) (fun b=>b=true→RowP r):=by
 unfold row_Sane
 refine .ite (fun _=>.ret (fun h=>by cases h)) (fun h=>?_)
 have hh:1≤lenL r.fCells∧lenL r.fCells≤4096∧0≤r.fDir∧r.fDir≤2:=by
  by_cases h1:lenL r.fCells < 1
  · simp [h1] at h
  · by_cases h2:4096 < lenL r.fCells
    · simp [h2] at h
    · by_cases h3:r.fDir < 0
      · simp [h3] at h
      · by_cases h4:2 < r.fDir
        · simp [h4] at h
        · omega
 obtain ⟨p1,p2,p3,p4⟩:=hh
 refine .cut (fun o=>(o = .go ()∧RowP r)∨o = .out false) ?_ ?_
 · refine .loop (fun v=>0≤v∧v≤lenL r.fCells∧∀ i,0≤i→i < v→FitP (getL d_api_Cell r.fCells i)∧PairP r.fCells i) (fun v=>(lenL r.fCells-v).toNat) ⟨by omega,by omega,fun i a b=>by omega⟩ ?_
   rintro v ⟨v0,v1,hv⟩
   refine .ite (fun h=>?_) (fun h=>?_)
   · have h:v < lenL r.fCells:=by simpa using h
     refine .chk ⟨v0,h⟩ (.bind _ (fits_yields _) fun b hb=>.bind (fun z=>b=true→z=false→PairP r.fCells v) ?_ fun z hz=>.ite (fun _=>.ret (.inr rfl)) (fun hc=>.chk (inR64 (by omega) (by omega)) (.ret ⟨⟨by omega,by omega,fun i a c=>?_⟩,by show (_-_:Int).toNat < (_-_:Int).toNat;omega⟩)))
     · cases b with
       | false=>exact .ret (fun h=>by cases h)
       | true=>exact (lost_yields v0 h (by omega)).mono fun z hz _=>hz
     · by_cases e:i=v
       · subst e
         cases b with
         | false=>simp at hc
         | true =>
          cases z with
          | true=>simp at hc
          | false=>exact ⟨hb rfl,hz rfl rfl⟩
       · exact hv i a (by omega)
   · have h : ¬ v < lenL r.fCells:=by simpa using h
     exact .ret (.inl ⟨rfl,p1,p2,⟨p3,p4⟩,fun i a c=>(hv i a (by omega)).1,fun i a c=>(hv i a (by omega)).2⟩)
 · rintro o (⟨rfl,h⟩ | rfl)
   · exact .go (.ret fun _=>h)
   · exact .out (fun h=>by cases h)
def FewP (l:List T_api_Row):Prop:=lenL l≤60∧∀ i,0≤i→i < lenL l→lenL (getL d_api_Row l i).fCells≤100
theorem few_yields (l:List T_api_Row):Yields (lapwingref09_Few l) (fun b=>b=true→FewP l):=by
 unfold lapwingref09_Few
 have hn:=lenL_nn l
 refine .ite (fun _=>.ret (fun h=>by cases h)) (fun h=>?_)
 have h6:lenL l≤60:=by simpa using h
 refine .cut (fun o=>(o = .go ()∧FewP l)∨o = .out false) ?_ ?_
 · refine .loop (fun v=>0≤v∧v≤lenL l∧∀ i,0≤i→i < v→lenL (getL d_api_Row l i).fCells≤100) (fun v=>(lenL l-v).toNat) ⟨by omega,by omega,fun i a b=>by omega⟩ ?_
   rintro v ⟨v0,v1,hv⟩
   refine .ite (fun h=>?_) (fun h=>?_)
   · have h:v < lenL l:=by simpa using h
     refine .chk ⟨v0,h⟩ (.ite (fun _=>.ret (.inr rfl)) (fun hc=>.chk (inR64 (by omega) (by omega)) (.ret ⟨⟨by omega,by omega,fun i a c=>?_⟩,by show (_-_:Int).toNat < (_-_:Int).toNat;omega⟩)))
     by_cases e:i=v
     · subst e;simpa using hc
     · exact hv i a (by omega)
   · have h : ¬ v < lenL l:=by simpa using h
     exact .ret (.inl ⟨rfl,h6,fun i a c=>hv i a (by omega)⟩)
 · rintro o (⟨rfl,h⟩ | rfl)
   · exact .go (.ret fun _=>h)
   · exact .out (fun h=>by cases h)
end Go.Vx
