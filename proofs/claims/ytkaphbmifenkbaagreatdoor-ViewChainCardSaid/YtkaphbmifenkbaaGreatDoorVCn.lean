/- VR, VCn in one. No conditions. -/
import Derived.Test.YtkaphbmifenkbaaGreatDoorVU
set_option linter.all false
namespace Go.Vx
set_option maxRecDepth 100000
def FitP (c:T_api_Cell):Prop:=0≤c.fR∧c.fR≤1114111∧(c.fW=0∧c.fR=0∨c.fW=1∨c.fW=2)
theorem anyO {α:Type} {c:Bool} {x y:Option α} {Q:α→Prop} (hx:c=true→Yields x Q) (hy:c=false→Yields y Q):Yields (if c=true then x else y) Q:=by
 cases c with
 | true=>exact hx rfl
 | false=>exact hy rfl
theorem pen_yields (p:T_api_Pen):Yields (pen_Sane p) (fun _=>True):=by
 unfold pen_Sane
 refine .call (b:=_) rfl (.bind (fun _=>True) ?_ (fun _ _=>⟨_,rfl,trivial⟩))
 exact anyO (fun _=>⟨_,rfl,trivial⟩) (fun _=>⟨_,rfl,trivial⟩)
theorem fits_yields (c:T_api_Cell):Yields (row_fits c) (fun b=>b=true→FitP c):=by
 unfold row_fits
 refine .cut (fun o=>o = .go ()∨o = .out false) ?_ ?_
 · refine .cut (fun o=>o = .go ()∨o = .out (.out false)) (.ite (fun _=>.ret (.inr rfl)) (fun _=>.chk (inR64 (by omega) (by omega)) (.ret (.inl rfl)))) ?_
   rintro o (rfl | rfl)
   · refine .go (.cut (fun o=>o = .go ()∨o = .out (.out false)) (.ite (fun _=>.ret (.inr rfl)) (fun _=>.chk (inR64 (by omega) (by omega)) (.ret (.inl rfl)))) ?_)
     rintro o (rfl | rfl)
     · exact .go (.ret (.inl rfl))
     · exact .out (.inr rfl)
   · exact .out (.inr rfl)
 · rintro o (rfl | rfl)
   · refine .go (.bind (fun _=>True) ?_ (fun v _=>.ite (fun _=>.ret (fun h=>by cases h)) (fun h=>?_)))
     · exact anyO (fun _=>pen_yields _) (fun _=>⟨_,rfl,trivial⟩)
     · have hr:0≤c.fR∧c.fR≤1114111:=by
        by_cases h1:c.fR < 0
        · simp [h1] at h
        · by_cases h2:1114111 < c.fR
          · simp [h2] at h
          · omega
       refine .ite (fun h0=>.ret (fun h=>?_)) (fun _=>.ite (fun h1=>.ret (fun _=>?_)) (fun _=>.ite (fun h2=>.ret (fun _=>?_)) (fun _=>.ret (fun h=>by cases h))))
       · exact ⟨hr.1,hr.2,.inl ⟨by simpa using h0,by simpa using h⟩⟩
       · exact ⟨hr.1,hr.2,.inr (.inl (by simpa using h1))⟩
       · exact ⟨hr.1,hr.2,.inr (.inr (by simpa using h2))⟩
   · exact .out (fun h=>by cases h)
def PairP (l:List T_api_Cell) (i:Int):Prop :=
 ((getL d_api_Cell l i).fW=0→0 < i∧(getL d_api_Cell l (i-1)).fW=2)∧((getL d_api_Cell l i).fW=2→i+1 < lenL l∧(getL d_api_Cell l (i+1)).fW=0)
theorem lost_yields {l:List T_api_Cell} {i:Int} (h0:0≤i) (h1:i < lenL l) (hb:lenL l≤100000):Yields (row_lost l i) (fun b=>b=false→PairP l i):=by
 unfold row_lost
 refine .chk ⟨h0,h1⟩ (.ite (fun hw=>?_) (fun hw=>.ite (fun hw2=>?_) (fun hw2=>.ret (fun _=>?_))))
 · have hw:(getL d_api_Cell l i).fW=0:=by simpa using hw
   refine .chk (fun _=>inR64 (by omega) (by omega)) (.chk (fun h=>?_) (.ret (fun h=>?_)))
   · have:i≠0:=by simpa using h
     omega
   · have : ¬ i=0∧(getL d_api_Cell l (i-1)).fW=2:=by simpa using h
     exact ⟨fun _=>⟨by omega,this.2⟩,fun h=>by omega⟩
 · have hw:(getL d_api_Cell l i).fW=2:=by simpa using hw2
   refine .chk (inR64 (by omega) (by omega)) (.chk (fun _=>inR64 (by omega) (by omega)) (.chk (fun h=>?_) (.ret (fun h=>?_))))
   · have:i+1≠lenL l:=by simpa using h
     omega
   · have : ¬ i+1=lenL l∧(getL d_api_Cell l (i+1)).fW=0:=by simpa using h
     exact ⟨fun h=>by omega,fun _=>⟨by omega,this.2⟩⟩
 · have hw:(getL d_api_Cell l i).fW≠0:=by simpa using hw
   have hw2:(getL d_api_Cell l i).fW≠2:=by simpa using hw2
   exact ⟨fun h=>absurd h hw,fun h=>absurd h hw2⟩
structure RowP (r:T_api_Row):Prop where
 pos:1≤lenL r.fCells
 top:lenL r.fCells≤4096
 dir:0≤r.fDir∧r.fDir≤2
 fit : ∀ i,0≤i→i < lenL r.fCells→FitP (getL d_api_Cell r.fCells i)
 pair : ∀ i,0≤i→i < lenL r.fCells→PairP r.fCells i
theorem row_yields (r:T_api_Row):Yields (row_Sane r) (fun b=>b=true→RowP r):=by
 unfold row_Sane
 refine .ite (fun _=>.ret (fun h=>by cases h)) (fun h=>?_)
 have hh:1≤lenL r.fCells∧lenL r.fCells≤4096∧0≤r.fDir∧r.fDir≤2:=by
  by_cases h1:lenL r.fCells < 1
  · simp [h1] at h
  · by_cases h2:4096 < lenL r.fCells
    · simp [h2] at h
    · by_cases h3:r.fDir < 0
      · simp [h3] at h
      · by_cases h4:2 < r.fDir
        · simp [h4] at h
        · omega
 obtain ⟨p1,p2,p3,p4⟩:=hh
 refine .cut (fun o=>(o = .go ()∧RowP r)∨o = .out false) ?_ ?_
 · refine .loop (fun v=>0≤v∧v≤lenL r.fCells∧∀ i,0≤i→i < v→FitP (getL d_api_Cell r.fCells i)∧PairP r.fCells i) (fun v=>(lenL r.fCells-v).toNat) ⟨by omega,by omega,fun i a b=>by omega⟩ ?_
   rintro v ⟨v0,v1,hv⟩
   refine .ite (fun h=>?_) (fun h=>?_)
   · have h:v < lenL r.fCells:=by simpa using h
     refine .chk ⟨v0,h⟩ (.bind _ (fits_yields _) fun b hb=>.bind (fun z=>b=true→z=false→PairP r.fCells v) ?_ fun z hz=>.ite (fun _=>.ret (.inr rfl)) (fun hc=>.chk (inR64 (by omega) (by omega)) (.ret ⟨⟨by omega,by omega,fun i a c=>?_⟩,by show (_-_:Int).toNat < (_-_:Int).toNat;omega⟩)))
     · cases b with
       | false=>exact .ret (fun h=>by cases h)
       | true=>exact (lost_yields v0 h (by omega)).mono fun z hz _=>hz
     · by_cases e:i=v
       · subst e
         cases b with
         | false=>simp at hc
         | true =>
          cases z with
          | true=>simp at hc
          | false=>exact ⟨hb rfl,hz rfl rfl⟩
       · exact hv i a (by omega)
   · have h : ¬ v < lenL r.fCells:=by simpa using h
     exact .ret (.inl ⟨rfl,p1,p2,⟨p3,p4⟩,fun i a c=>(hv i a (by omega)).1,fun i a c=>(hv i a (by omega)).2⟩)
 · rintro o (⟨rfl,h⟩ | rfl)
   · exact .go (.ret fun _=>h)
   · exact .out (fun h=>by cases h)
def RowsP (l:List T_api_Row):Prop:=∀ i,0≤i→i < lenL l→RowP (getL d_api_Row l i)
theorem sane_yields {l:List T_api_Row} (hb:lenL l≤100000):Yields (view_sane l) (fun b=>b=true→RowsP l):=by
 unfold view_sane
 have hn:=lenL_nn l
 refine .cut (fun o=>(o = .go ()∧RowsP l)∨o = .out false) ?_ ?_
 · refine .loop (fun v=>0≤v∧v≤lenL l∧∀ i,0≤i→i < v→RowP (getL d_api_Row l i)) (fun v=>(lenL l-v).toNat) ⟨by omega,by omega,fun i a b=>by omega⟩ ?_
   rintro v ⟨v0,v1,hv⟩
   refine .ite (fun h=>?_) (fun h=>?_)
   · have h:v < lenL l:=by simpa using h
     refine .chk ⟨v0,h⟩ (.bind _ (row_yields _) fun b hb=>.ite (fun _=>.ret (.inr rfl)) (fun hc=>.chk (inR64 (by omega) (by omega)) (.ret ⟨⟨by omega,by omega,fun i a c=>?_⟩,by show (_-_:Int).toNat < (_-_:Int).toNat;omega⟩)))
     by_cases e:i=v
     · subst e;exact hb (by simpa using hc)
     · exact hv i a (by omega)
   · have h : ¬ v < lenL l:=by simpa using h
     exact .ret (.inl ⟨rfl,fun i a c=>hv i a (by omega)⟩)
 · rintro o (⟨rfl,h⟩ | rfl)
   · exact .go (.ret fun _=>h)
   · exact .out (fun h=>by cases h)
def FewP (l:List T_api_Row):Prop:=lenL l≤60∧∀ i,0≤i→i < lenL l→lenL (getL d_api_Row l i).fCells≤100
theorem few_yields (l:List T_api_Row):Yields (lapwingref09_Few l) (fun b=>b=true→FewP l):=by
 unfold lapwingref09_Few
 have hn:=lenL_nn l
 refine .ite (fun _=>.ret (fun h=>by cases h)) (fun h=>?_)
 have h6:lenL l≤60:=by simpa using h
 refine .cut (fun o=>(o = .go ()∧FewP l)∨o = .out false) ?_ ?_
 · refine .loop (fun v=>0≤v∧v≤lenL l∧∀ i,0≤i→i < v→lenL (getL d_api_Row l i).fCells≤100) (fun v=>(lenL l-v).toNat) ⟨by omega,by omega,fun i a b=>by omega⟩ ?_
   rintro v ⟨v0,v1,hv⟩
   refine .ite (fun h=>?_) (fun h=>?_)
   · have h:v < lenL l:=by simpa using h
     refine .chk ⟨v0,h⟩ (.ite (fun _=>.ret (.inr rfl)) (fun hc=>.chk (inR64 (by omega) (by omega)) (.ret ⟨⟨by omega,by omega,fun i a c=>?_⟩,by show (_-_:Int).toNat < (_-_:Int).toNat;omega⟩)))
     by_cases e:i=v
     · subst e;simpa using hc
     · exact hv i a (by omega)
   · have h : ¬ v < lenL l:=by simpa using h
     exact .ret (.inl ⟨rfl,h6,fun i a c=>hv i a (by omega)⟩)
 · rintro o (⟨rfl,h⟩ | rfl)
   · exact .go (.ret fun _=>h)
   · exact .out (fun h=>by cases h)
end Go.Vx
namespace Go.Vx
set_option maxRecDepth 100000
def wrp (l:List T_api_Row) (i:Int):Prop:=(getL d_api_Row l i).fWrap=true
theorem up_spec (l:List T_api_Row) : ∀ (n:Nat) (x:Int),0≤x→0≤chainUp l n x∧chainUp l n x≤x∧x-n≤chainUp l n x∧(∀ j,chainUp l n x≤j→j < x→wrp l j)∧(chainUp l n x=0∨¬ wrp l (chainUp l n x-1)∨chainUp l n x=x-n)
 | 0,x,h=>⟨h,Int.le_refl _,by show x-0≤x;omega,fun j a b=>by have a:x≤j:=a;omega,.inr (.inr (by show x=x-0;omega))⟩
 | n+1,x,h=>by
  unfold chainUp
  split
  · rename_i hc
    obtain ⟨h1,h2,h3,h4,h5⟩:=up_spec l n (x-1) hc.1
    refine ⟨h1,by omega,by omega,fun j a b=>?_,?_⟩
    · by_cases e:j=x-1
      · subst e;exact hc.2
      · exact h4 j a (by omega)
    · rcases h5 with e | e | e
      · exact .inl e
      · exact .inr (.inl e)
      · exact .inr (.inr (by omega))
  · rename_i hc
    refine ⟨h,by omega,by omega,fun j a b=>by omega,?_⟩
    by_cases e:x=0
    · exact .inl e
    · exact .inr (.inl (fun hw=>hc ⟨by omega,hw⟩))
theorem up_eq (l:List T_api_Row) : ∀ (n:Nat) (x a:Int),0≤a→a≤x→x-a≤n→(∀ j,a≤j→j < x→wrp l j)→(a=0∨¬ wrp l (a-1))→chainUp l n x=a
 | 0,x,a,h0,h1,h2,_,_=>by show x=a;omega
 | n+1,x,a,h0,h1,h2,h3,h4=>by
  unfold chainUp
  by_cases e:a=x
  · subst e
    rw [if_neg]
    rintro ⟨q1,q2⟩
    rcases h4 with e | e
    · omega
    · exact e q2
  · rw [if_pos ⟨by omega,h3 (x-1) (by omega) (by omega)⟩]
    exact up_eq l n (x-1) a h0 (by omega) (by omega) (fun j p q=>h3 j p (by omega)) h4
theorem down_spec (l:List T_api_Row) : ∀ (n:Nat) (x:Int),x≤lenL l→x≤chainDown l n x∧chainDown l n x≤lenL l∧chainDown l n x≤x+n∧(∀ j,x≤j→j < chainDown l n x→wrp l (j-1))∧(chainDown l n x=lenL l∨¬ wrp l (chainDown l n x-1)∨chainDown l n x=x+n)
 | 0,x,h=>⟨Int.le_refl _,h,by show x≤x+0;omega,fun j a b=>by have b:j < x:=b;omega,.inr (.inr (by show x=x+0;omega))⟩
 | n+1,x,h=>by
  unfold chainDown
  split
  · rename_i hc
    obtain ⟨h1,h2,h3,h4,h5⟩:=down_spec l n (x+1) (by omega)
    refine ⟨by omega,h2,by omega,fun j a b=>?_,?_⟩
    · by_cases e:j=x
      · subst e;exact hc.2
      · exact h4 j (by omega) b
    · rcases h5 with e | e | e
      · exact .inl e
      · exact .inr (.inl e)
      · exact .inr (.inr (by omega))
  · rename_i hc
    refine ⟨by omega,h,by omega,fun j a b=>by omega,?_⟩
    by_cases e:x=lenL l
    · exact .inl e
    · exact .inr (.inl (fun hw=>hc ⟨by omega,hw⟩))
theorem down_eq (l:List T_api_Row) : ∀ (n:Nat) (x b:Int),x≤b→b≤lenL l→b-x≤n→(∀ j,x≤j→j < b→wrp l (j-1))→(b=lenL l∨¬ wrp l (b-1))→chainDown l n x=b
 | 0,x,b,h1,_,h2,_,_=>by show x=b;omega
 | n+1,x,b,h1,hb,h2,h3,h4=>by
  unfold chainDown
  by_cases e:b=x
  · subst e
    rw [if_neg]
    rintro ⟨q1,q2⟩
    rcases h4 with e | e
    · omega
    · exact e q2
  · rw [if_pos ⟨by omega,h3 x (by omega) (by omega)⟩]
    exact down_eq l n (x+1) b (by omega) hb (by omega) (fun j p q=>h3 j (by omega) q) h4
theorem chain_eq {l:List T_api_Row} {y:Int} (h0:0≤y) (h1:y < lenL l) (hb:lenL l≤100000):view_chain l y=some (chainUp l 31 y,chainDown l 32 (y+1)):=by
 unfold view_chain;rw [if_pos ⟨h0,by omega,by omega⟩]
theorem sane_two (l:List T_api_Row) (hb:lenL l≤100000):view_sane l=some false∨(view_sane l=some true∧RowsP l):=by
 obtain ⟨b,h1,h2⟩:=sane_yields hb
 cases b with
 | false=>exact .inl h1
 | true=>exact .inr ⟨h1,h2 rfl⟩
theorem Chain_no {l:List T_api_Row} {y:Int} (h:view_sane l=some false∨y < 0∨lenL l≤y) (hb:lenL l≤100000):view_Chain l y=some (0,0,false):=by
 refine Yields.eq ?_
 unfold view_Chain
 by_cases hc:y < 0∨lenL l≤y
 · have e:(if (decide (y < 0))=true then true else (decide ((lenL l)≤y)))=true:=by
    by_cases q:y < 0
    · simp [q]
    · simp [q];omega
   simp only [e]
   exact .call (b:=false) rfl (.ite (fun _=>.ret rfl) (fun h=>by cases h))
 · have e:(if (decide (y < 0))=true then true else (decide ((lenL l)≤y)))=false:=by simp;omega
   simp only [e]
   refine .call (b:=false) (h.resolve_right hc) (.ite (fun _=>.ret rfl) (fun h=>by cases h))
theorem Chain_yes {l:List T_api_Row} {y:Int} (h:view_sane l=some true) (h0:0≤y) (h1:y < lenL l) (hb:lenL l≤100000):view_Chain l y=some (chainUp l 31 y,chainDown l 32 (y+1),true):=by
 refine Yields.eq ?_
 unfold view_Chain
 have e:(if (decide (y < 0))=true then true else (decide ((lenL l)≤y)))=false:=by simp;omega
 simp only [e]
 exact .call (b:=true) h (.ite (fun h=>by cases h) (fun _=>.call (chain_eq h0 h1 hb) (.ret rfl)))
end Go.Vx
