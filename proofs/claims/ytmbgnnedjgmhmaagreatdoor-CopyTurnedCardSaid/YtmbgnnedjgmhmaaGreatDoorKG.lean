/- KR, KCn, KO, KP, KG in one. No conditions. -/
import Derived.Test.YtmbgnnedjgmhmaaGreatDoorKU
import Derived.Test.YtmbgnnedjgmhmaaGreatDoorVxHoare
set_option linter.all false
section
namespace Go.Vx
set_option maxRecDepth 100000
def FitP (c:Zi):Prop:=0≤c.fR∧c.fR≤1114111∧(c.fW=0∧c.fR=0∨c.fW=1∨c.fW=2)
theorem anyO {α:Type} {c:Bool} {x y:Option α} {Q:α→Prop} (hx:c=true→Zd x Q) (hy:c=false→Zd y Q):Zd (if c=true then x else y) Q:=by
 cases c with
 | true=>exact hx rfl
 | false=>exact hy rfl
theorem pen_yields (p:Z0s):Zd (Z72 p) (fun _=>True):=by
 unfold Z72
 refine .call (b:=_) rfl (.bind (fun _=>True) ?_ (fun _ _=>⟨_,rfl,trivial⟩))
 exact anyO (fun _=>⟨_,rfl,trivial⟩) (fun _=>⟨_,rfl,trivial⟩)
theorem fits_yields (c:Zi):Zd (Z73 c) (fun b=>b=true→FitP c):=by
 unfold Z73
 refine .cut (fun o=>o = .go ()∨o = .out false) ?_ ?_
 · refine .cut (fun o=>o = .go ()∨o = .out (.out false)) (.ite (fun _=>.ret (.inr rfl)) (fun _=>.chk (Zm (by omega) (by omega)) (.ret (.inl rfl)))) ?_
   rintro o (rfl | rfl)
   · refine .go (.cut (fun o=>o = .go ()∨o = .out (.out false)) (.ite (fun _=>.ret (.inr rfl)) (fun _=>.chk (Zm (by omega) (by omega)) (.ret (.inl rfl)))) ?_)
     rintro o (rfl | rfl)
     · exact .go (.ret (.inl rfl))
     · exact .out (.inr rfl)
   · exact .out (.inr rfl)
 · rintro o (rfl | rfl)
   · refine .go (.bind (fun _=>True) ?_ (fun v _=>.ite (fun _=>.ret (fun h=>by cases h)) (fun h=>?_)))
     · exact anyO (fun _=>pen_yields _) (fun _=>⟨_,rfl,trivial⟩)
     · have hr:0≤c.fR∧c.fR≤1114111:=by
        by_cases h1:c.fR < 0
        · simp [h1] at h
        · by_cases h2:1114111 < c.fR
          · simp [h2] at h
          · omega
       refine .ite (fun h0=>.ret (fun h=>?_)) (fun _=>.ite (fun h1=>.ret (fun _=>?_)) (fun _=>.ite (fun h2=>.ret (fun _=>?_)) (fun _=>.ret (fun h=>by cases h))))
       · exact ⟨hr.1,hr.2,.inl ⟨by simpa using h0,by simpa using h⟩⟩
       · exact ⟨hr.1,hr.2,.inr (.inl (by simpa using h1))⟩
       · exact ⟨hr.1,hr.2,.inr (.inr (by simpa using h2))⟩
   · exact .out (fun h=>by cases h)
def PairP (l:List Zi) (i:Int):Prop :=
 ((Z1 Z4 l i).fW=0→0 < i∧(Z1 Z4 l (i-1)).fW=2)∧((Z1 Z4 l i).fW=2→i+1 < Z0 l∧(Z1 Z4 l (i+1)).fW=0)
theorem lost_yields {l:List Zi} {i:Int} (h0:0≤i) (h1:i < Z0 l) (hb:Z0 l≤100000):Zd (Z74 l i) (fun b=>b=false→PairP l i):=by
 unfold Z74
 refine .chk ⟨h0,h1⟩ (.ite (fun hw=>?_) (fun hw=>.ite (fun hw2=>?_) (fun hw2=>.ret (fun _=>?_))))
 · have hw:(Z1 Z4 l i).fW=0:=by simpa using hw
   refine .chk (fun _=>Zm (by omega) (by omega)) (.chk (fun h=>?_) (.ret (fun h=>?_)))
   · have:i≠0:=by simpa using h
     omega
   · have : ¬ i=0∧(Z1 Z4 l (i-1)).fW=2:=by simpa using h
     exact ⟨fun _=>⟨by omega,this.2⟩,fun h=>by omega⟩
 · have hw:(Z1 Z4 l i).fW=2:=by simpa using hw2
   refine .chk (Zm (by omega) (by omega)) (.chk (fun _=>Zm (by omega) (by omega)) (.chk (fun h=>?_) (.ret (fun h=>?_))))
   · have:i+1≠Z0 l:=by simpa using h
     omega
   · have : ¬ i+1=Z0 l∧(Z1 Z4 l (i+1)).fW=0:=by simpa using h
     exact ⟨fun h=>by omega,fun _=>⟨by omega,this.2⟩⟩
 · have hw:(Z1 Z4 l i).fW≠0:=by simpa using hw
   have hw2:(Z1 Z4 l i).fW≠2:=by simpa using hw2
   exact ⟨fun h=>absurd h hw,fun h=>absurd h hw2⟩
structure RowP (r:Z5):Prop where
 pos:1≤Z0 r.fCells
 top:Z0 r.fCells≤4096
 dir:0≤r.fDir∧r.fDir≤2
 fit : ∀ i,0≤i→i < Z0 r.fCells→FitP (Z1 Z4 r.fCells i)
 pair : ∀ i,0≤i→i < Z0 r.fCells→PairP r.fCells i
theorem row_yields (r:Z5):Zd (Q6 r) (fun b=>b=true→RowP r):=by
 unfold Q6
 refine .ite (fun _=>.ret (fun h=>by cases h)) (fun h=>?_)
 have hh:1≤Z0 r.fCells∧Z0 r.fCells≤4096∧0≤r.fDir∧r.fDir≤2:=by
  by_cases h1:Z0 r.fCells < 1
  · simp [h1] at h
  · by_cases h2:4096 < Z0 r.fCells
    · simp [h2] at h
    · by_cases h3:r.fDir < 0
      · simp [h3] at h
      · by_cases h4:2 < r.fDir
        · simp [h4] at h
        · omega
 obtain ⟨p1,p2,p3,p4⟩:=hh
 refine .cut (fun o=>(o = .go ()∧RowP r)∨o = .out false) ?_ ?_
 · refine .loop (fun v=>0≤v∧v≤Z0 r.fCells∧∀ i,0≤i→i < v→FitP (Z1 Z4 r.fCells i)∧PairP r.fCells i) (fun v=>(Z0 r.fCells-v).toNat) ⟨by omega,by omega,fun i a b=>by omega⟩ ?_
   rintro v ⟨v0,v1,hv⟩
   refine .ite (fun h=>?_) (fun h=>?_)
   · have h:v < Z0 r.fCells:=by simpa using h
     refine .chk ⟨v0,h⟩ (.bind _ (fits_yields _) fun b hb=>.bind (fun z=>b=true→z=false→PairP r.fCells v) ?_ fun z hz=>.ite (fun _=>.ret (.inr rfl)) (fun hc=>.chk (Zm (by omega) (by omega)) (.ret ⟨⟨by omega,by omega,fun i a c=>?_⟩,by show (_-_:Int).toNat < (_-_:Int).toNat;omega⟩)))
     · cases b with
       | false=>exact .ret (fun h=>by cases h)
       | true=>exact (lost_yields v0 h (by omega)).mono fun z hz _=>hz
     · by_cases e:i=v
       · subst e
         cases b with
         | false=>simp at hc
         | true =>
          cases z with
          | true=>simp at hc
          | false=>exact ⟨hb rfl,hz rfl rfl⟩
       · exact hv i a (by omega)
   · have h : ¬ v < Z0 r.fCells:=by simpa using h
     exact .ret (.inl ⟨rfl,p1,p2,⟨p3,p4⟩,fun i a c=>(hv i a (by omega)).1,fun i a c=>(hv i a (by omega)).2⟩)
 · rintro o (⟨rfl,h⟩ | rfl)
   · exact .go (.ret fun _=>h)
   · exact .out (fun h=>by cases h)
def RowsP (l:List Z5):Prop:=∀ i,0≤i→i < Z0 l→RowP (Z1 Z3 l i)
theorem sane_yields {l:List Z5} (hb:Z0 l≤100000):Zd (Q2 l) (fun b=>b=true→RowsP l):=by
 unfold Q2
 have hn:=Zc l
 refine .cut (fun o=>(o = .go ()∧RowsP l)∨o = .out false) ?_ ?_
 · refine .loop (fun v=>0≤v∧v≤Z0 l∧∀ i,0≤i→i < v→RowP (Z1 Z3 l i)) (fun v=>(Z0 l-v).toNat) ⟨by omega,by omega,fun i a b=>by omega⟩ ?_
   rintro v ⟨v0,v1,hv⟩
   refine .ite (fun h=>?_) (fun h=>?_)
   · have h:v < Z0 l:=by simpa using h
     refine .chk ⟨v0,h⟩ (.bind _ (row_yields _) fun b hb=>.ite (fun _=>.ret (.inr rfl)) (fun hc=>.chk (Zm (by omega) (by omega)) (.ret ⟨⟨by omega,by omega,fun i a c=>?_⟩,by show (_-_:Int).toNat < (_-_:Int).toNat;omega⟩)))
     by_cases e:i=v
     · subst e;exact hb (by simpa using hc)
     · exact hv i a (by omega)
   · have h : ¬ v < Z0 l:=by simpa using h
     exact .ret (.inl ⟨rfl,fun i a c=>hv i a (by omega)⟩)
 · rintro o (⟨rfl,h⟩ | rfl)
   · exact .go (.ret fun _=>h)
   · exact .out (fun h=>by cases h)
def FewP (l:List Z5):Prop:=Z0 l≤60∧∀ i,0≤i→i < Z0 l→Z0 (Z1 Z3 l i).fCells≤100
theorem few_yields (l:List Z5):Zd (Z0a l) (fun b=>b=true→FewP l):=by
 unfold Z0a
 have hn:=Zc l
 refine .ite (fun _=>.ret (fun h=>by cases h)) (fun h=>?_)
 have h6:Z0 l≤60:=by simpa using h
 refine .cut (fun o=>(o = .go ()∧FewP l)∨o = .out false) ?_ ?_
 · refine .loop (fun v=>0≤v∧v≤Z0 l∧∀ i,0≤i→i < v→Z0 (Z1 Z3 l i).fCells≤100) (fun v=>(Z0 l-v).toNat) ⟨by omega,by omega,fun i a b=>by omega⟩ ?_
   rintro v ⟨v0,v1,hv⟩
   refine .ite (fun h=>?_) (fun h=>?_)
   · have h:v < Z0 l:=by simpa using h
     refine .chk ⟨v0,h⟩ (.ite (fun _=>.ret (.inr rfl)) (fun hc=>.chk (Zm (by omega) (by omega)) (.ret ⟨⟨by omega,by omega,fun i a c=>?_⟩,by show (_-_:Int).toNat < (_-_:Int).toNat;omega⟩)))
     by_cases e:i=v
     · subst e;simpa using hc
     · exact hv i a (by omega)
   · have h : ¬ v < Z0 l:=by simpa using h
     exact .ret (.inl ⟨rfl,h6,fun i a c=>hv i a (by omega)⟩)
 · rintro o (⟨rfl,h⟩ | rfl)
   · exact .go (.ret fun _=>h)
   · exact .out (fun h=>by cases h)
end Go.Vx
end
section
namespace Go.Vx
set_option maxRecDepth 100000
def wrp (l:List Z5) (i:Int):Prop:=(Z1 Z3 l i).fWrap=true
theorem up_spec (l:List Z5) : ∀ (n:Nat) (x:Int),0≤x→0≤Xz l n x∧Xz l n x≤x∧x-n≤Xz l n x∧(∀ j,Xz l n x≤j→j < x→wrp l j)∧(Xz l n x=0∨¬ wrp l (Xz l n x-1)∨Xz l n x=x-n)
 | 0,x,h=>⟨h,Int.le_refl _,by show x-0≤x;omega,fun j a b=>by have a:x≤j:=a;omega,.inr (.inr (by show x=x-0;omega))⟩
 | n+1,x,h=>by
  unfold Xz
  split
  · rename_i hc
    obtain ⟨h1,h2,h3,h4,h5⟩:=up_spec l n (x-1) hc.1
    refine ⟨h1,by omega,by omega,fun j a b=>?_,?_⟩
    · by_cases e:j=x-1
      · subst e;exact hc.2
      · exact h4 j a (by omega)
    · rcases h5 with e | e | e
      · exact .inl e
      · exact .inr (.inl e)
      · exact .inr (.inr (by omega))
  · rename_i hc
    refine ⟨h,by omega,by omega,fun j a b=>by omega,?_⟩
    by_cases e:x=0
    · exact .inl e
    · exact .inr (.inl (fun hw=>hc ⟨by omega,hw⟩))
theorem down_spec (l:List Z5) : ∀ (n:Nat) (x:Int),x≤Z0 l→x≤Yw l n x∧Yw l n x≤Z0 l∧Yw l n x≤x+n∧(∀ j,x≤j→j < Yw l n x→wrp l (j-1))∧(Yw l n x=Z0 l∨¬ wrp l (Yw l n x-1)∨Yw l n x=x+n)
 | 0,x,h=>⟨Int.le_refl _,h,by show x≤x+0;omega,fun j a b=>by have b:j < x:=b;omega,.inr (.inr (by show x=x+0;omega))⟩
 | n+1,x,h=>by
  unfold Yw
  split
  · rename_i hc
    obtain ⟨h1,h2,h3,h4,h5⟩:=down_spec l n (x+1) (by omega)
    refine ⟨by omega,h2,by omega,fun j a b=>?_,?_⟩
    · by_cases e:j=x
      · subst e;exact hc.2
      · exact h4 j (by omega) b
    · rcases h5 with e | e | e
      · exact .inl e
      · exact .inr (.inl e)
      · exact .inr (.inr (by omega))
  · rename_i hc
    refine ⟨by omega,h,by omega,fun j a b=>by omega,?_⟩
    by_cases e:x=Z0 l
    · exact .inl e
    · exact .inr (.inl (fun hw=>hc ⟨by omega,hw⟩))
theorem chain_eq {l:List Z5} {y:Int} (h0:0≤y) (h1:y < Z0 l) (hb:Z0 l≤100000):Z34 l y=some (Xz l 31 y,Yw l 32 (y+1)):=by
 unfold Z34;rw [if_pos ⟨h0,by omega,by omega⟩]
theorem sane_two (l:List Z5) (hb:Z0 l≤100000):Q2 l=some false∨(Q2 l=some true∧RowsP l):=by
 obtain ⟨b,h1,h2⟩:=sane_yields hb
 cases b with
 | false=>exact .inl h1
 | true=>exact .inr ⟨h1,h2 rfl⟩
end Go.Vx
end
section
namespace Go.Vx
set_option maxRecDepth 100000
theorem bindO_eq' {β γ:Type} (x:β) (k:β→Option γ):Z8 (some x) k=k x:=rfl
theorem Z7r {α:Type} (x y:Option α):Z7 true x y=x:=rfl
theorem Z31 {α:Type} (x y:Option α):Z7 false x y=y:=rfl
theorem cutLoop {α β γ:Type} {body:α→Option (Fl α (Fl β γ))} {k:β→Option γ} (inv:α→Prop) (μ:α→Nat) (M:Fl β γ→Prop) (Q:γ→Prop) {x:α} (hx:inv x)
  (step : ∀ x,inv x→(∃ y,body x=some (.go y)∧inv y∧μ y < μ x)∨∃ r,body x=some (.out r)∧M r) (hk : ∀ o,M o→∃ r,contO k o=some r∧Q r) : ∃ r,Zu (loopO body x) k=some r∧Q r:=by
 obtain ⟨o,h1,h2⟩:=loopO_rule inv μ M hx step
 obtain ⟨r,h3,h4⟩:=hk o h2
 exact ⟨r,by rw [h1];exact h3,h4⟩
theorem ints_ex {a b:List Int} (ha:Z0 a≤1000000) : ∃ r,X8 a b=some r∧r=decide (a=b):=by
 unfold X8
 by_cases hl:Z0 a=Z0 b
 · rw [show (!(Z0 a == Z0 b))=false by simp [hl],Z31]
   refine cutLoop (fun i=>0≤i∧i≤Z0 a∧∀ k,0≤k→k < i→Z1 0 a k=Z1 0 b k) (fun i=>(Z0 a-i).toNat) (fun r:Fl Unit Bool=>(r = .go ()∧a=b)∨(r = .out false∧a≠b)) _ ⟨by omega,Zc a,fun k _ _=>by omega⟩ ?_ ?_
   · rintro i ⟨i0,i1,hi⟩
     by_cases h:i < Z0 a
     · rw [decide_eq_true h,Z7r,Yp ⟨i0,h⟩,Yp ⟨i0,by omega⟩]
       by_cases he:Z1 0 a i=Z1 0 b i
       · rw [show (!(Z1 0 a i == Z1 0 b i))=false by simp [he],Z31]
         refine .inl ⟨i+1,by rw [Yp (Zm (by omega) (by omega))],⟨by omega,by omega,fun k k0 k1=>?_⟩,by omega⟩
         rcases Int.lt_or_eq_of_le (show k≤i by omega) with h' | rfl
         · exact hi k k0 h'
         · exact he
       · rw [show (!(Z1 0 a i == Z1 0 b i))=true by simp [he],Z7r]
         exact .inr ⟨_,rfl,.inr ⟨rfl,fun hab=>he (by rw [hab])⟩⟩
     · rw [decide_eq_false h,Z31]
       exact .inr ⟨_,rfl,.inl ⟨rfl,extL 0 hl fun k k0 k1=>hi k k0 (by omega)⟩⟩
   · rintro o (⟨rfl,h⟩ | ⟨rfl,h⟩)
     · exact ⟨_,rfl,by simp [h]⟩
     · exact ⟨_,rfl,by simp [h]⟩
 · rw [show (!(Z0 a == Z0 b))=true by simp [hl],Z7r]
   exact ⟨_,rfl,by rw [decide_eq_false (fun h=>hl (by rw [h]))]⟩
theorem ints_eq {a b:List Int} (ha:Z0 a≤1000000):X8 a b=some (decide (a=b)):=by
 obtain ⟨r,h,rfl⟩:=ints_ex (b:=b) ha
 exact h
theorem reverse_spec {s:List Int} {off n:Int} (h0:0≤off) (h1:0≤n) (h2:off+n≤Z0 s) (hb:Z0 s≤1000000) :
  ∃ r,Xh s off n=some r∧Z0 r=Z0 s∧∀ k,0≤k→k < Z0 s→Z1 0 r k=if off≤k∧k < off+n then Z1 0 s (off+(off+n-1-k)) else Z1 0 s k:=by
 unfold Xh
 rw [Yp ⟨h0,h1,h2⟩,Yp (Zm (by omega) (by omega))]
 refine loopO_rule (fun x=>0≤x.1∧2*x.1≤n+1∧x.2.1=n-1-x.1∧Z0 x.2.2=Z0 s ∧
  ∀ k,0≤k→k < Z0 s→Z1 0 x.2.2 k=if off≤k∧k < off+x.1∨off+n-x.1≤k∧k < off+n then Z1 0 s (off+(off+n-1-k)) else Z1 0 s k) (fun x=>(n-x.1).toNat) _
  ⟨by simp only;omega,by simp only;omega,by simp only;omega,rfl,fun k k0 k1=>by simp only;rw [if_neg (by omega)]⟩ ?_
 rintro ⟨i,j,t⟩ ⟨i0,i1,hj,hl,hg⟩
 simp only at i0 i1 hj hl hg ⊢
 by_cases h:i < j
 · rw [decide_eq_true h]
   simp only [Z7]
   rw [Yp ⟨by omega,by omega⟩,Yp ⟨by omega,by omega⟩,Yp ⟨by omega,by omega⟩,Yp ⟨by omega,by omega⟩,Yp (Zm (by omega) (by omega)),Yp (Zm (by omega) (by omega))]
   refine .inl ⟨_,rfl,⟨by simp only;omega,by simp only;omega,by simp only;omega,by simp [hl],fun k k0 k1=>?_⟩,by simp only;omega⟩
   simp only
   rw [Zk (by omega) k0 (by simp [hl];omega),Zk (by omega) k0 (by omega)]
   by_cases e1:k=off+j
   · rw [if_pos e1,hg _ (by omega) (by omega),if_neg (by omega),if_pos (by omega)]
     congr 1;omega
   · rw [if_neg e1]
     by_cases e2:k=off+i
     · rw [if_pos e2,hg _ (by omega) (by omega),if_neg (by omega),if_pos (by omega)]
       congr 1;omega
     · rw [if_neg e2,hg _ k0 k1]
       by_cases e3:off≤k∧k < off+i∨off+n-i≤k∧k < off+n
       · rw [if_pos e3,if_pos (by omega)]
       · rw [if_neg e3,if_neg (by omega)]
 · rw [decide_eq_false h]
   refine .inr ⟨_,rfl,hl,fun k k0 k1=>?_⟩
   rw [hg k k0 k1]
   by_cases e3:off≤k∧k < off+n
   · rw [if_pos e3]
     by_cases e4:off≤k∧k < off+i∨off+n-i≤k∧k < off+n
     · rw [if_pos e4]
     · rw [if_neg e4];congr 1;omega
   · rw [if_neg e3,if_neg (by omega)]
def rEnd (n:Int) (R:Int→Bool):Nat→Int→Int
 | 0,t=>t
 | k+1,t=>if t < n∧R t=true then rEnd n R k (t+1) else t
def rBeg (R:Int→Bool):Nat→Int→Int
 | 0,s=>s
 | k+1,s=>if 0 < s∧R (s-1)=true then rBeg R k (s-1) else s
theorem rEnd_spec {n:Int} {R:Int→Bool} : ∀ {k:Nat} {t:Int},t≤n→(n-t).toNat≤k→t≤rEnd n R k t∧rEnd n R k t≤n∧(∀ j,t≤j→j < rEnd n R k t→R j=true)∧(rEnd n R k t=n∨R (rEnd n R k t)=false)
 | 0,t,h0,h1=>by
  simp only [rEnd]
  exact ⟨by omega,by omega,fun j _ _=>by omega,by omega⟩
 | k+1,t,h0,h1=>by
  simp only [rEnd]
  split
  · rename_i h
    obtain ⟨a,b,c,d⟩:=rEnd_spec (n:=n) (R:=R) (k:=k) (t:=t+1) (by have:=h.1;omega) (by omega)
    refine ⟨by omega,b,fun j j0 j1=>?_,d⟩
    rcases Int.lt_or_eq_of_le j0 with h' | rfl
    · exact c j (by omega) j1
    · exact h.2
  · rename_i h
    refine ⟨by omega,h0,fun j _ _=>by omega,?_⟩
    by_cases h':t=n
    · exact .inl h'
    · refine .inr ?_
      cases hR:R t with
      | false=>rfl
      | true=>exact absurd ⟨by omega,hR⟩ h
theorem rBeg_spec {R:Int→Bool} : ∀ {k:Nat} {s:Int},0≤s→s.toNat≤k→0≤rBeg R k s∧rBeg R k s≤s∧(∀ j,rBeg R k s≤j→j < s→R j=true)∧(rBeg R k s=0∨R (rBeg R k s-1)=false)
 | 0,s,h0,h1=>by
  simp only [rBeg]
  exact ⟨by omega,by omega,fun j _ _=>by omega,by omega⟩
 | k+1,s,h0,h1=>by
  simp only [rBeg]
  split
  · rename_i h
    obtain ⟨a,b,c,d⟩:=rBeg_spec (R:=R) (k:=k) (s:=s-1) (by have:=h.1;omega) (by omega)
    refine ⟨a,by omega,fun j j0 j1=>?_,d⟩
    rcases Int.lt_or_eq_of_le (show j≤s-1 by omega) with h' | rfl
    · exact c j (by omega) h'
    · exact h.2
  · rename_i h
    refine ⟨h0,by omega,fun j _ _=>by omega,?_⟩
    by_cases h':s=0
    · exact .inl h'
    · refine .inr ?_
      cases hR:R (s-1) with
      | false=>rfl
      | true=>exact absurd ⟨by omega,hR⟩ h
def IsRun (n:Int) (R:Int→Bool) (p s e:Int):Prop:=0≤s∧s≤p∧p < e∧e≤n∧(∀ j,s≤j→j < e→R j=true)∧(s=0∨R (s-1)=false)∧(e=n∨R e=false)
theorem IsRun.uniq {n:Int} {R:Int→Bool} {p s e s' e':Int} (h:IsRun n R p s e) (h':IsRun n R p s' e'):s=s'∧e=e':=by
 obtain ⟨a1,a2,a3,a4,a5,a6,a7⟩:=h
 obtain ⟨b1,b2,b3,b4,b5,b6,b7⟩:=h'
 constructor
 · rcases Int.lt_trichotomy s s' with h | h | h
   · have:=a5 (s'-1) (by omega) (by omega)
     rcases b6 with h6 | h6
     · omega
     · rw [h6] at this;cases this
   · exact h
   · have:=b5 (s-1) (by omega) (by omega)
     rcases a6 with h6 | h6
     · omega
     · rw [h6] at this;cases this
 · rcases Int.lt_trichotomy e e' with h | h | h
   · have:=b5 e (by omega) (by omega)
     rcases a7 with h6 | h6
     · omega
     · rw [h6] at this;cases this
   · exact h
   · have:=a5 e' (by omega) (by omega)
     rcases b7 with h6 | h6
     · omega
     · rw [h6] at this;cases this
def sig (n:Int) (R:Int→Bool) (p:Int):Int:=if R p=true then rBeg R p.toNat p+rEnd n R (n-p).toNat p-1-p else p
theorem run_of {n:Int} {R:Int→Bool} {p:Int} (h0:0≤p) (h1:p < n) (hR:R p=true):IsRun n R p (rBeg R p.toNat p) (rEnd n R (n-p).toNat p):=by
 obtain ⟨a,b,c,d⟩:=rEnd_spec (n:=n) (R:=R) (k:=(n-p).toNat) (t:=p) (by omega) (by omega)
 obtain ⟨a',b',c',d'⟩:=rBeg_spec (R:=R) (k:=p.toNat) (s:=p) h0 (by omega)
 refine ⟨a',b',?_,b,fun j j0 j1=>?_,d',d⟩
 · rcases d with h | h
   · omega
   · rcases Int.lt_or_eq_of_le a with h' | h'
     · exact h'
     · rw [← h',hR] at h;cases h
 · rcases Int.lt_or_le j p with h | h
   · exact c' j j0 h
   · exact c j h j1
theorem sig_run {n:Int} {R:Int→Bool} {p s e:Int} (h:IsRun n R p s e):sig n R p=s+e-1-p:=by
 have hR:R p=true:=h.2.2.2.2.1 p h.2.1 h.2.2.1
 have h':=run_of (n:=n) (by have:=h.1;have:=h.2.1;omega) (by have:=h.2.2.1;have:=h.2.2.2.1;omega) hR
 obtain ⟨e1,e2⟩:=h.uniq h'
 simp only [sig,hR,if_true]
 rw [← e1,← e2]
theorem sig_not {n:Int} {R:Int→Bool} {p:Int} (h:R p=false):sig n R p=p:=by
 simp [sig,h]
theorem IsRun.move {n:Int} {R:Int→Bool} {p s e q:Int} (h:IsRun n R p s e) (h1:s≤q) (h2:q < e):IsRun n R q s e:=⟨h.1,h1,h2,h.2.2.2.1,h.2.2.2.2.1,h.2.2.2.2.2.1,h.2.2.2.2.2.2⟩
theorem sig_spec {n:Int} {R:Int→Bool} {p:Int} (h0:0≤p) (h1:p < n):0≤sig n R p∧sig n R p < n∧R (sig n R p)=R p∧sig n R (sig n R p)=p:=by
 cases hR:R p with
 | false=>rw [sig_not hR,sig_not hR];exact ⟨h0,h1,hR,rfl⟩
 | true =>
  have hr:=run_of h0 h1 hR
  generalize hs:rBeg R p.toNat p=s at hr
  generalize he:rEnd n R (n-p).toNat p=e at hr
  have e1:=sig_run hr
  have hr':IsRun n R (sig n R p) s e:=hr.move (by rw [e1];have:=hr.2.2.1;omega) (by rw [e1];have:=hr.2.1;omega)
  refine ⟨by have:=hr'.1;have:=hr'.2.1;omega,by have:=hr'.2.2.1;have:=hr'.2.2.2.1;omega,hr'.2.2.2.2.1 _ hr'.2.1 hr'.2.2.1,?_⟩
  rw [sig_run hr',e1];omega
def clI (x:Int):Int:=Yn 0 (Yo x 127)
theorem clI_bd (x:Int):0≤clI x∧clI x≤127:=by
 unfold clI Yn Yo
 repeat' split
 all_goals omega
def comp (n:Int) (L:Int→Int):Nat→Int→Int→Int
 | 0,_,p=>p
 | k+1,lev,p=>sig n (fun q=>decide (lev≤L q)) (comp n L k (lev-1) p)
theorem tmod2 {x:Int} (h:0≤x):Int.tmod x 2=x % 2:=by
 rw [Int.tmod_eq_emod_of_nonneg h]
theorem comp_bd {n:Int} {L:Int→Int} : ∀ (k:Nat) (lev p:Int),0≤p→p < n→0≤comp n L k lev p∧comp n L k lev p < n
 | 0,_,p,h0,h1=>⟨h0,h1⟩
 | k+1,lev,p,h0,h1=>by
  obtain ⟨a,b⟩:=comp_bd k (lev-1) p h0 h1
  have:=sig_spec (R:=fun q=>decide (lev≤L q)) a b
  exact ⟨this.1,this.2.1⟩
def Tops (n:Int) (L:Int→Int) (most Xe:Int):Prop :=
 (0≤most∧(∀ i,0≤i→i < n→L i≤most)∧(most=0∨∃ i,0≤i∧i < n∧L i=most)) ∧
 ((Xe=128∨∃ i,0≤i∧i < n∧L i=Xe∧L i % 2=1)∧∀ i,0≤i→i < n→L i % 2=1→Xe≤L i)
theorem Z88 {levels:List Int} (hb:Z0 levels≤100000) :
  Zd (Q9 levels) fun out=>Z0 out=Z0 levels∧∃ most Xe,Tops (Z0 levels) (fun i=>clI (Z1 0 levels i)) most Xe ∧
   ∀ p,0≤p→p < Z0 levels→Z1 0 out p=comp (Z0 levels) (fun i=>clI (Z1 0 levels i)) (most-Xe+1).toNat most p:=by
 have hn:=Zc levels
 generalize hN:Z0 levels=n at *
 generalize hL:(fun i=>clI (Z1 0 levels i))=L at *
 have hL' : ∀ i,clI (Z1 0 levels i)=L i:=fun i=>by rw [← hL]
 have hLb : ∀ i,0≤L i∧L i≤127:=fun i=>by rw [← hL'];exact clI_bd _
 unfold Q9
 rw [hN]
 refine .chk (mkOk hn (by omega) (by omega)) (.chk (mkOk hn (by omega) (by omega)) ?_)
 refine .cut (fun o=>∃ most Xe l out,o = .go (most,Xe,l,out)∧Z0 l=n∧Z0 out=n∧Tops n L most Xe∧(∀ i,0≤i→i < n→Z1 0 l i=L i)∧∀ i,0≤i→i < n→Z1 0 out i=i) ?_ ?_
 · refine .loop (fun x=>0≤x.2.2.1∧x.2.2.1≤n∧Z0 x.2.2.2.1=n∧Z0 x.2.2.2.2=n∧Tops x.2.2.1 L x.1 x.2.1∧(∀ i,0≤i→i < x.2.2.1→Z1 0 x.2.2.2.1 i=L i)∧∀ i,0≤i→i < x.2.2.1→Z1 0 x.2.2.2.2 i=i) (fun x=>(n-x.2.2.1).toNat)
    ⟨by simp only;omega,by simp only;omega,Y3 _ hn,Y3 _ hn,⟨⟨by simp only;omega,fun i _ _=>by simp only at *;omega,.inl rfl⟩,.inl rfl,fun i _ _=>by simp only at *;omega⟩,fun i _ _=>by simp only at *;omega,fun i _ _=>by simp only at *;omega⟩ ?_
   rintro ⟨most,Xe,i,l,out⟩ ⟨i0,i1,hl,ho,⟨⟨m0,m1,m2⟩,l1,l2⟩,hgl,hgo⟩
   simp only at i0 i1 hl ho m0 m1 m2 l1 l2 hgl hgo ⊢
   refine .ite (fun h=>?_) (fun h=>?_)
   · have h:i < n:=by simpa using h
     refine .chk ⟨i0,h⟩ (.chk ⟨i0,h⟩ (.chk ⟨i0,h⟩ (.chk (by decide) ?_)))
     rw [show Yn 0 (Yo (Z1 0 levels i) 127)=L i from hL' i]
     have hset : ∀ (x:List Int) (v:Int),Z0 x=n→∀ k,0≤k→k < i+1→Z1 0 (Yc x i v) k=if k=i then v else Z1 0 x k:=fun x v hx k k0 k1=>Zk i0 k0 (by omega)
     have hmost:(0≤Yn most (L i)∧(∀ k,0≤k→k < i+1→L k≤Yn most (L i))∧(Yn most (L i)=0∨∃ k,0≤k∧k < i+1∧L k=Yn most (L i))):=by
      unfold Yn
      split
      · refine ⟨(hLb i).1,fun k k0 k1=>?_,.inr ⟨i,i0,by omega,rfl⟩⟩
        rcases Int.lt_or_eq_of_le (show k≤i by omega) with h' | rfl
        · have:=m1 k k0 h';omega
        · omega
      · refine ⟨m0,fun k k0 k1=>?_,?_⟩
        · rcases Int.lt_or_eq_of_le (show k≤i by omega) with h' | rfl
          · exact m1 k k0 h'
          · omega
        · rcases m2 with h' | ⟨k,k0,k1,k2⟩
          · exact .inl h'
          · exact .inr ⟨k,k0,by omega,k2⟩
     refine .ite (fun h2=>?_) (fun h2=>?_)
     · have h2:L i % 2=1:=by simpa [tmod2 (hLb i).1] using h2
       refine .chk (Zm (by omega) (by omega)) (.ret ⟨⟨by simp only;omega,by simp only;omega,by simpa using hl,by simpa using ho,⟨hmost,?_,fun k k0 k1 k2=>?_⟩,fun k k0 k1=>?_,fun k k0 k1=>?_⟩,by simp only;omega⟩)
       · show Yo Xe (L i)=128∨_
         unfold Yo
         split
         · exact .inr ⟨i,i0,by simp only;omega,rfl,h2⟩
         · rcases l1 with h' | ⟨k,k0,k1,k2⟩
           · exact .inl h'
           · exact .inr ⟨k,k0,by simp only;omega,k2⟩
       · show Yo Xe (L i)≤L k
         unfold Yo
         rcases Int.lt_or_eq_of_le (show k≤i by simp only at k1;omega) with h' | rfl
         · have:=l2 k k0 h' k2;split<;>omega
         · split<;>omega
       · simp only at k1 ⊢
         rw [hset _ _ hl k k0 k1]
         split
         · subst_vars;rfl
         · exact hgl k k0 (by omega)
       · simp only at k1 ⊢
         rw [hset _ _ ho k k0 k1]
         split
         · subst_vars;rfl
         · exact hgo k k0 (by omega)
     · have h2 : ¬ L i % 2=1:=by simpa [tmod2 (hLb i).1] using h2
       refine .chk (Zm (by omega) (by omega)) (.ret ⟨⟨by simp only;omega,by simp only;omega,by simpa using hl,by simpa using ho,⟨hmost,?_,fun k k0 k1 k2=>?_⟩,fun k k0 k1=>?_,fun k k0 k1=>?_⟩,by simp only;omega⟩)
       · rcases l1 with h' | ⟨k,k0,k1,k2⟩
         · exact .inl h'
         · exact .inr ⟨k,k0,by simp only;omega,k2⟩
       · rcases Int.lt_or_eq_of_le (show k≤i by simp only at k1;omega) with h' | rfl
         · exact l2 k k0 h' k2
         · exact absurd k2 h2
       · simp only at k1 ⊢
         rw [hset _ _ hl k k0 k1]
         split
         · subst_vars;rfl
         · exact hgl k k0 (by omega)
       · simp only at k1 ⊢
         rw [hset _ _ ho k k0 k1]
         split
         · subst_vars;rfl
         · exact hgo k k0 (by omega)
   · have h : ¬ i < n:=by simpa using h
     obtain rfl:i=n:=by omega
     exact .ret ⟨most,Xe,l,out,rfl,hl,ho,⟨⟨m0,m1,m2⟩,l1,l2⟩,hgl,hgo⟩
 · rintro _ ⟨most,Xe,l,out,rfl,hl,ho,htops,hgl,hgo⟩
   show Zd (Zu _ _) _
   have hmost:0≤most∧most≤127:=by
    obtain ⟨⟨m0,_,m2⟩,_⟩:=htops
    rcases m2 with h | ⟨k,_,_,h⟩
    · omega
    · have:=hLb k;omega
   have hleast:1≤Xe∧Xe≤128:=by
    obtain ⟨_,l1,_⟩:=htops
    rcases l1 with h | ⟨k,_,_,h,h'⟩
    · omega
    · have:=hLb k;omega
   refine .cut (fun o=>∃ o',o = .go o'∧Z0 o'=n∧∀ p,0≤p→p < n→Z1 0 o' p=comp n L (most-Xe+1).toNat most p) ?_ ?_
   · refine .loop (fun x=>x.1≤most∧0≤x.1∧Z0 x.2=n∧∀ p,0≤p→p < n→Z1 0 x.2 (comp n L (x.1-Xe+1).toNat x.1 p)=comp n L (most-Xe+1).toNat most p) (fun x=>x.1.toNat)
      ⟨Int.le_refl _,hmost.1,ho,fun p p0 p1=>?_⟩ ?_
     · obtain ⟨a,b⟩:=comp_bd (n:=n) (L:=L) (most-Xe+1).toNat most p p0 p1
       exact hgo _ a b
     rintro ⟨lev,out2⟩ ⟨v1,v0,ho2,hcomp⟩
     simp only at v1 v0 ho2 hcomp ⊢
     refine .ite (fun h=>?_) (fun h=>?_)
     · have h:Xe≤lev:=by simpa using h
       refine .cut (fun o=>∃ o',o = .go o'∧Z0 o'=n∧∀ q,0≤q→q < n→Z1 0 o' q=Z1 0 out2 (sig n (fun q=>decide (lev≤L q)) q)) ?_ ?_
       · generalize hR:(fun q=>decide (lev≤L q))=R
         have hR' : ∀ q,decide (lev≤L q)=R q:=fun q=>by rw [← hR]
         refine .loop (fun x=>0≤x.1∧x.1≤n+1∧Z0 x.2=n∧(x.1=0∨x.1=n+1∨R (x.1-1)=false)∧∀ q,0≤q→q < n→Z1 0 x.2 q=if q < x.1 then Z1 0 out2 (sig n R q) else Z1 0 out2 q) (fun x=>(n+1-x.1).toNat)
          ⟨by simp only;omega,by simp only;omega,ho2,.inl rfl,fun q q0 q1=>by simp only;rw [if_neg (by omega)]⟩ ?_
         rintro ⟨fr,o4⟩ ⟨f0,f1,ho4,hfr,hg4⟩
         simp only at f0 f1 ho4 hfr hg4 ⊢
         refine .ite (fun h2=>?_) (fun h2=>?_)
         · have h2:fr < n:=by simpa using h2
           refine .cut (fun o=>∃ e,o = .go e∧fr≤e∧e≤n∧(∀ j,fr≤j→j < e→R j=true)∧(e=n∨R e=false)) ?_ ?_
           · refine .loop (fun t=>fr≤t∧t≤n∧∀ j,fr≤j→j < t→R j=true) (fun t=>(n-t).toNat) ⟨by omega,by omega,fun j _ _=>by omega⟩ ?_
             rintro t ⟨t0,t1,ht⟩
             refine .chk (fun h3=>⟨by omega,of_decide_eq_true h3⟩) (.ite (fun h3=>?_) (fun h3=>?_))
             · have h3:t < n∧lev≤Z1 0 l t:=by simpa using h3
               have h3':=h3.1
               rw [hgl t (by omega) h3.1] at h3
               refine .chk (Zm (by omega) (by omega)) (.ret ⟨⟨by omega,by omega,fun j j0 j1=>?_⟩,by simp only;omega⟩)
               rcases Int.lt_or_eq_of_le (show j≤t by omega) with h' | rfl
               · exact ht j j0 h'
               · rw [← hR'];simpa using h3.2
             · refine .ret ⟨t,rfl,t0,t1,ht,?_⟩
               by_cases h4:t=n
               · exact .inl h4
               · refine .inr ?_
                 have h3:t < n→Z1 0 l t < lev:=by simpa using h3
                 have:=h3 (by omega)
                 rw [hgl t (by omega) (by omega)] at this
                 rw [← hR'];simp;omega
           · rintro _ ⟨e,rfl,e0,e1,hrun,hend⟩
             refine .chk ⟨f0,e0,e1⟩ ?_
             obtain ⟨o5,h5,hl5,hg5⟩:=reverse_spec (s:=o4) (off:=0+fr) (n:=e-fr) (by omega) (by omega) (by omega) (by omega)
             refine .call h5 (.chk (by omega) (.chk (Zm (by omega) (by omega)) (.ret ⟨⟨by simp only;omega,by simp only;omega,by simp only;omega,?_,fun q q0 q1=>?_⟩,by simp only;omega⟩)))
             · simp only
               rcases hend with h' | h'
               · omega
               · refine .inr (.inr ?_)
                 rw [show e+1-1=e by omega];exact h'
             · simp only
               rw [hg5 q q0 (by omega)]
               by_cases c1:fr≤q∧q < e
               · have hir:IsRun n R q fr e:=by
                  refine ⟨f0,c1.1,c1.2,e1,hrun,?_,hend⟩
                  rcases hfr with h' | h' | h'
                  · exact .inl h'
                  · omega
                  · exact .inr h'
                 rw [if_pos (by omega),if_pos (by omega),sig_run hir,hg4 _ (by omega) (by omega),if_neg (by omega)]
                 congr 1;omega
               · rw [if_neg (by omega),hg4 q q0 q1]
                 by_cases c2:q < fr
                 · rw [if_pos c2,if_pos (by omega)]
                 · rw [if_neg c2]
                   by_cases c3:q=e
                   · subst c3
                     rcases hend with h' | h'
                     · omega
                     · rw [if_pos (by omega),sig_not h']
                   · rw [if_neg (by omega)]
         · have h2 : ¬ fr < n:=by simpa using h2
           refine .ret ⟨o4,rfl,ho4,fun q q0 q1=>?_⟩
           rw [hg4 q q0 q1,if_pos (by omega)]
       · rintro _ ⟨o',rfl,hl',hg'⟩
         refine .chk (Zm (by omega) (by omega)) (.ret ⟨⟨by simp only;omega,by simp only;omega,hl',fun p p0 p1=>?_⟩,by simp only;omega⟩)
         simp only
         obtain ⟨a,b⟩:=comp_bd (n:=n) (L:=L) (lev-1-Xe+1).toNat (lev-1) p p0 p1
         rw [hg' _ a b,← hcomp p p0 p1]
         rw [show (lev-Xe+1).toNat=(lev-1-Xe+1).toNat+1 by omega]
         rfl
     · have h : ¬ Xe≤lev:=by simpa using h
       refine .ret ⟨out2,rfl,ho2,fun p p0 p1=>?_⟩
       have:=hcomp p p0 p1
       rwa [show (lev-Xe+1).toNat=0 by omega] at this
   · rintro _ ⟨o',rfl,h1,h2⟩
     exact .ret ⟨h1,most,Xe,htops,h2⟩
theorem Tops.uniq {n:Int} {L:Int→Int} {m l m' l':Int} (hL : ∀ i,0≤L i∧L i≤127) (h:Tops n L m l) (h':Tops n L m' l'):m=m'∧l=l':=by
 obtain ⟨⟨a0,a1,a2⟩,b1,b2⟩:=h
 obtain ⟨⟨c0,c1,c2⟩,d1,d2⟩:=h'
 constructor
 · have e1:m≤m':=by
    rcases a2 with h | ⟨i,i0,i1,h⟩
    · omega
    · rw [← h];exact c1 i i0 i1
   have e2:m'≤m:=by
    rcases c2 with h | ⟨i,i0,i1,h⟩
    · omega
    · rw [← h];exact a1 i i0 i1
   omega
 · rcases b1 with h | ⟨i,i0,i1,h,ho⟩
   · rcases d1 with h' | ⟨j,j0,j1,h',ho'⟩
     · omega
     · have:=b2 j j0 j1 ho';have:=hL j;omega
   · have e1:=d2 i i0 i1 ho
     rcases d1 with h' | ⟨j,j0,j1,h',ho'⟩
     · have:=hL i;omega
     · have:=b2 j j0 j1 ho';omega
theorem visual_with {levels:List Int} (hb:Z0 levels≤100000) {most Xe:Int} (ht:Tops (Z0 levels) (fun i=>clI (Z1 0 levels i)) most Xe) :
  Zd (Q9 levels) fun out=>Z0 out=Z0 levels∧∀ p,0≤p→p < Z0 levels→Z1 0 out p=comp (Z0 levels) (fun i=>clI (Z1 0 levels i)) (most-Xe+1).toNat most p :=
 (Z88 hb).mono fun out ⟨h1,m,l,h2,h3⟩=>by
  obtain ⟨rfl,rfl⟩:=Tops.uniq (fun i=>clI_bd _) h2 ht
  exact ⟨h1,h3⟩
theorem clI_id {x:Int} (h0:0≤x) (h1:x≤127):clI x=x:=by
 unfold clI Yn Yo
 repeat' split
 all_goals omega
theorem invert_eq {l:List Int} {n:Int} (hn:Z0 l=n) (hb:n≤1000000) {g:Int→Int} (h1 : ∀ i,0≤i→i < n→0≤Z1 0 l i∧Z1 0 l i < n∧g (Z1 0 l i)=i)
  (h2 : ∀ j,0≤j→j < n→0≤g j∧g j < n∧Z1 0 l (g j)=j):Qy l=some (mkL n g,true):=by
 have hn0:0≤n:=by rw [← hn];exact Zc l
 refine Zd.eq ?_
 unfold Qy
 rw [hn]
 refine .chk (mkOk hn0 hb (by omega)) (.cut (fun o=>∃ x,o = .go x∧Z0 x=n∧∀ j,0≤j→j < n→Z1 0 x j = -1) ?_ ?_)
 · refine .loop (fun x=>0≤x.1∧x.1≤n∧Z0 x.2=n∧∀ j,0≤j→j < x.1→Z1 0 x.2 j = -1) (fun x=>(n-x.1).toNat) ⟨by simp only;omega,by simp only;omega,Y3 _ hn0,fun j _ _=>by simp only at *;omega⟩ ?_
   rintro ⟨i,x⟩ ⟨i0,i1,hx,hg⟩
   simp only at i0 i1 hx hg ⊢
   refine .ite (fun h=>?_) (fun h=>?_)
   · have h:i < n:=by simpa using h
     refine .chk ⟨i0,by omega⟩ (.chk (Zm (by omega) (by omega)) (.ret ⟨⟨by simp only;omega,by simp only;omega,by simpa using hx,fun j j0 j1=>?_⟩,by simp only;omega⟩))
     simp only at j1 ⊢
     rw [Zk i0 j0 (by omega)]
     split
     · rfl
     · exact hg j j0 (by omega)
   · have h : ¬ i < n:=by simpa using h
     exact .ret ⟨x,rfl,hx,fun j j0 j1=>hg j j0 (by omega)⟩
 · rintro _ ⟨x,rfl,hx,hg⟩
   show Zd (Zu _ _) _
   refine .cut (fun o=>∃ x,o = .go x∧Z0 x=n∧∀ j,0≤j→j < n→Z1 0 x j=g j) ?_ ?_
   · refine .loop (fun x=>0≤x.1∧x.1≤n∧Z0 x.2=n∧∀ j,0≤j→j < n→Z1 0 x.2 j=if g j < x.1 then g j else -1) (fun x=>(n-x.1).toNat) ⟨by simp only;omega,by simp only;omega,hx,fun j j0 j1=>by simp only;rw [hg j j0 j1,if_neg (by have:=h2 j j0 j1;omega)]⟩ ?_
     rintro ⟨v,x⟩ ⟨v0,v1,hx,hg⟩
     simp only at v0 v1 hx hg ⊢
     refine .ite (fun h=>?_) (fun h=>?_)
     · have h:v < n:=by simpa using h
       obtain ⟨e1,e2,e3⟩:=h1 v v0 h
       have hc:(if decide (Z1 0 l v < 0)=true then true else decide (n≤Z1 0 l v))=false:=by
        rw [decide_eq_false (by omega)];simp;omega
       have hc2:decide (0≤Z1 0 x (0+Z1 0 l v))=false:=by
        rw [Int.zero_add,hg _ e1 e2,e3,if_neg (by omega)];rfl
       refine .chk ⟨v0,h⟩ (.chk (fun _=>⟨e1,by omega⟩) (.ite (fun h3=>?_) (fun _=>?_)))
       · exfalso
         rw [hc] at h3
         simp only [Bool.false_eq_true,if_false] at h3
         rw [hc2] at h3;cases h3
       · refine .chk ⟨e1,by omega⟩ (.chk (Zm (by omega) (by omega)) (.ret ⟨⟨by simp only;omega,by simp only;omega,by simpa using hx,fun j j0 j1=>?_⟩,by simp only;omega⟩))
         simp only
         rw [Zk e1 j0 (by omega)]
         by_cases c:j=Z1 0 l v
         · rw [if_pos c,c,e3,if_pos (by omega)]
         · rw [if_neg c,hg j j0 j1]
           have hne:g j≠v:=fun h=>c (by rw [← h];exact ((h2 j j0 j1).2.2).symm)
           by_cases c2:g j < v
           · rw [if_pos c2,if_pos (by omega)]
           · rw [if_neg c2,if_neg (by omega)]
     · have h : ¬ v < n:=by simpa using h
       refine .ret ⟨x,rfl,hx,fun j j0 j1=>?_⟩
       have:=h2 j j0 j1
       rw [hg j j0 j1,if_pos (by omega)]
   · rintro _ ⟨x,rfl,hx,hg⟩
     refine .ret ?_
     have:x=mkL n g:=extL 0 (by rw [hx,lenL_mk _ hn0]) fun i i0 i1=>by rw [hg i i0 (by omega),getL_mk i0 (by omega)]
     rw [this]
theorem visual_const {a:List Int} {n l:Int} (ha:Z0 a=n) (hn:n≤1000) (h0:0≤l) (h1:l≤127) (hl : ∀ i,0≤i→i < n→Z1 0 a i=l) :
  Zd (Q9 a) fun v=>Z0 v=n∧∀ p,0≤p→p < n→Z1 0 v p=if l % 2=0 then p else n-1-p:=by
 have hn0:0≤n:=by rw [← ha];exact Zc a
 have hL : ∀ i,0≤i→i < n→clI (Z1 0 a i)=l:=fun i i0 i1=>by rw [hl i i0 i1,clI_id h0 h1]
 have ht:Tops (Z0 a) (fun i=>clI (Z1 0 a i)) (if n=0 then 0 else l) (if n=0∨l % 2=0 then 128 else l):=by
  rw [ha]
  dsimp only [Tops]
  by_cases hz:n=0
  · rw [if_pos hz,if_pos (.inl hz)]
    exact ⟨⟨by omega,fun i _ _=>by omega,.inl rfl⟩,.inl rfl,fun i _ _=>by omega⟩
  · rw [if_neg hz]
    refine ⟨⟨h0,fun i i0 i1=>by rw [hL i i0 i1];omega,.inr ⟨0,by omega,by omega,hL 0 (by omega) (by omega)⟩⟩,?_,fun i i0 i1 ho=>?_⟩
    · by_cases he:l % 2=0
      · exact .inl (if_pos (.inr he))
      · rw [if_neg (by omega)]
        exact .inr ⟨0,by omega,by omega,hL 0 (by omega) (by omega),by rw [hL 0 (by omega) (by omega)];omega⟩
    · rw [hL i i0 i1] at ho ⊢
      rw [if_neg (by omega)];omega
 refine (visual_with (by omega) ht).mono fun v ⟨h2,h3⟩=>?_
 rw [ha] at h2 h3
 refine ⟨h2,fun p p0 p1=>?_⟩
 rw [h3 p p0 p1,if_neg (by omega)]
 by_cases he:l % 2=0
 · rw [if_pos he,if_pos (.inr he),show (l-128+1).toNat=0 by omega];rfl
 · rw [if_neg he,if_neg (by omega),show (l-l+1).toNat=1 by omega]
   show sig n (fun q=>decide (l≤clI (Z1 0 a q))) p=_
   have hr:IsRun n (fun q=>decide (l≤clI (Z1 0 a q))) p 0 n :=
    ⟨by omega,p0,p1,by omega,fun j j0 j1=>by rw [decide_eq_true_eq,hL j j0 j1];omega,.inl rfl,.inl rfl⟩
   rw [sig_run hr];omega
def cinv (n:Int) (L:Int→Int):Nat→Int→Int→Int
 | 0,_,p=>p
 | k+1,lev,p=>cinv n L k (lev-1) (sig n (fun q=>decide (lev≤L q)) p)
theorem Z7s {n:Int} {L:Int→Int} : ∀ (k:Nat) (lev p:Int),0≤p→p < n →
  0≤cinv n L k lev p∧cinv n L k lev p < n∧comp n L k lev (cinv n L k lev p)=p∧cinv n L k lev (comp n L k lev p)=p
 | 0,lev,p,h0,h1=>⟨h0,h1,rfl,rfl⟩
 | k+1,lev,p,h0,h1=>by
  obtain ⟨a1,a2,a3,a4⟩:=sig_spec (R:=fun q=>decide (lev≤L q)) h0 h1
  obtain ⟨b1,b2,b3,b4⟩:=Z7s (n:=n) (L:=L) k (lev-1) _ a1 a2
  obtain ⟨c1,c2⟩:=comp_bd (n:=n) (L:=L) k (lev-1) p h0 h1
  obtain ⟨d1,d2,d3,d4⟩:=sig_spec (R:=fun q=>decide (lev≤L q)) c1 c2
  obtain ⟨e1,e2,e3,e4⟩:=Z7s (n:=n) (L:=L) k (lev-1) p h0 h1
  refine ⟨b1,b2,?_,?_⟩
  · simp only [comp,cinv]
    rw [b3,a4]
  · simp only [comp,cinv]
    rw [d4,e4]
theorem visual_perm {levels:List Int} {n:Int} (hn:Z0 levels=n) (hb:n≤100000) : ∃ (v:List Int) (f g:Int→Int),Q9 levels=some v∧Z0 v=n ∧
  (∀ p,0≤p→p < n→Z1 0 v p=f p∧0≤f p∧f p < n∧g (f p)=p)∧(∀ q,0≤q→q < n→0≤g q∧g q < n∧f (g q)=q):=by
 obtain ⟨v,e,l,most,Xe,_,hg⟩:=Z88 (levels:=levels) (by omega)
 rw [hn] at l hg
 refine ⟨v,comp n (fun i=>clI (Z1 0 levels i)) (most-Xe+1).toNat most,cinv n (fun i=>clI (Z1 0 levels i)) (most-Xe+1).toNat most,e,l,fun p p0 p1=>?_,fun q q0 q1=>?_⟩
 · obtain ⟨a,b⟩:=comp_bd (n:=n) (L:=fun i=>clI (Z1 0 levels i)) (most-Xe+1).toNat most p p0 p1
   exact ⟨hg p p0 p1,a,b,(Z7s _ _ p p0 p1).2.2.2⟩
 · obtain ⟨a,b,c,d⟩:=Z7s (n:=n) (L:=fun i=>clI (Z1 0 levels i)) (most-Xe+1).toNat most q q0 q1
   exact ⟨a,b,c⟩
theorem mkL_eq {xs:List Int} {n:Int} {f:Int→Int} (hn:Z0 xs=n) (h0:0≤n) (hf : ∀ p,0≤p→p < n→Z1 0 xs p=f p):mkL n f=xs :=
 extL 0 (by rw [lenL_mk _ h0,hn]) fun i i0 i1=>by
  rw [lenL_mk _ h0] at i1
  rw [getL_mk i0 i1,hf i i0 i1]
theorem inj_le : ∀ (a b:Nat) (f:Nat→Nat),(∀ i,i < a→f i < b)→(∀ i j,i < a→j < a→f i=f j→i=j)→a≤b
 | 0,b,f,_,_=>Nat.zero_le b
 | a+1,0,f,h,_=>absurd (h 0 (by omega)) (by omega)
 | a+1,b+1,f,h,hi=>by
  have:=inj_le a b (fun i=>if f i=b then f a else f i) (fun i hi'=>by
   have h1:=h i (by omega)
   have h2:=h a (by omega)
   have hne:f i≠f a:=fun e=>by have:=hi i a (by omega) (by omega) e;omega
   try simp only
   split<;>omega) (fun i j hi' hj' e=>by
   have hia:f i≠f a:=fun e=>by have:=hi i a (by omega) (by omega) e;omega
   have hja:f j≠f a:=fun e=>by have:=hi j a (by omega) (by omega) e;omega
   try simp only at e
   refine hi i j (by omega) (by omega) ?_
   split at e<;>split at e<;>omega)
  omega
theorem inj_leI {a b:Int} {f g:Int→Int} (h0:0≤b) (h : ∀ i,0≤i→i < a→0≤f i∧f i < b∧g (f i)=i):a≤b:=by
 rcases Int.lt_or_le a 0 with ha | ha
 · omega
 have:=inj_le a.toNat b.toNat (fun i=>(f i).toNat) (fun i hi=>by have:=h i (by omega) (by omega);omega) (fun i j hi hj e=>by
  have h1:=h i (by omega) (by omega)
  have h2:=h j (by omega) (by omega)
  have e:(f i).toNat=(f j).toNat:=e
  have e2:f i=f j:=by omega
  have:=h1.2.2
  rw [e2,h2.2.2] at this
  omega)
 omega
def pre (w:Int→Int):Nat→Int
 | 0=>0
 | k+1=>pre w k+w k
def Yf (w:Int→Int) (i:Int):Int:=pre w i.toNat
theorem Z1b (w:Int→Int):Yf w 0=0:=rfl
theorem Xs {w:Int→Int} {i:Int} (h:0≤i):Yf w (i+1)=Yf w i+w i:=by
 unfold Yf
 rw [show (i+1).toNat=i.toNat+1 by omega]
 show pre w i.toNat+w (i.toNat:Int)=_
 rw [Int.toNat_of_nonneg h]
theorem pre_mono {w:Int→Int} {n:Nat} (hw : ∀ i:Nat,i < n→1≤w i) : ∀ {j i:Nat},i≤j→j≤n→pre w i+((j:Int)-i)≤pre w j
 | 0,i,h,_=>by
  obtain rfl:i=0:=by omega
  simp
 | j+1,i,h,hj=>by
  rcases Nat.lt_or_ge j i with h' | h'
  · obtain rfl:i=j+1:=by omega
    simp
  · have:=pre_mono hw h' (by omega)
    have:=hw j (by omega)
    simp only [pre]
    omega
theorem Z06 {w:Int→Int} {n:Int} (hw : ∀ i,0≤i→i < n→1≤w i) {i j:Int} (h0:0≤i) (h1:i≤j) (h2:j≤n):Yf w i+(j-i)≤Yf w j:=by
 have:=pre_mono (w:=w) (n:=n.toNat) (fun k hk=>hw k (by omega) (by omega)) (show i.toNat≤j.toNat by omega) (by omega)
 unfold Yf;omega
def blk (w:Int→Int):Nat→Int→Int
 | 0,_=>0
 | k+1,x=>if pre w k≤x then k else blk w k x
theorem Z6r {w:Int→Int} : ∀ {n:Nat} {x:Int},0≤x→x < pre w n→0≤blk w n x∧blk w n x < n∧Yf w (blk w n x)≤x∧x < Yf w (blk w n x+1)
 | 0,x,h0,h1=>by simp [pre] at h1;omega
 | n+1,x,h0,h1=>by
  simp only [blk]
  split
  · rename_i h
    refine ⟨by omega,by omega,?_,?_⟩
    · show pre w (n:Int).toNat≤x
      simpa using h
    · show x < pre w ((n:Int)+1).toNat
      rw [show ((n:Int)+1).toNat=n+1 by omega];exact h1
  · rename_i h
    obtain ⟨a,b,c,d⟩:=Z6r (w:=w) (n:=n) (x:=x) h0 (by omega)
    exact ⟨a,by omega,c,d⟩
theorem blk_uniq {w:Int→Int} {n:Int} (hw : ∀ i,0≤i→i < n→1≤w i) {x i:Int} (h0:0≤i) (h1:i < n) (h2:Yf w i≤x) (h3:x < Yf w (i+1)):blk w n.toNat x=i:=by
 have hx0:0≤x:=by
  have:=Z06 hw (i:=0) (j:=i) (by omega) h0 (by omega)
  rw [Z1b] at this;omega
 have hxn:x < pre w n.toNat:=by
  have:=Z06 hw (i:=i+1) (j:=n) (by omega) (by omega) (by omega)
  have e:Yf w n=pre w n.toNat:=rfl
  omega
 obtain ⟨a,b,c,d⟩:=Z6r hx0 hxn
 generalize blk w n.toNat x=y at *
 rcases Int.lt_trichotomy y i with h | h | h
 · have:=Z06 hw (i:=y+1) (j:=i) (by omega) (by omega) (by omega)
   omega
 · exact h
 · have:=Z06 hw (i:=i+1) (j:=y) (by omega) (by omega) (by omega)
   omega
structure Lie (n N:Int) (w f g:Int→Int) (c:List Int):Prop where
 len:Z0 c=N
 sum:Yf w n=N
 fwd : ∀ i,0≤i→i < n→∀ j,0≤j→j < w i→0≤Yf (fun p=>w (f p)) (g i)+j∧Yf (fun p=>w (f p)) (g i)+j < N∧Z1 0 c (Yf (fun p=>w (f p)) (g i)+j)=Yf w i+j
theorem cells_yields {levels widths:List Int} {n:Int} (hl:Z0 levels=n) (hw:Z0 widths=n) (hn:n≤1000) (h12 : ∀ i,0≤i→i < n→Z1 0 widths i=1∨Z1 0 widths i=2)
  {v:List Int} {f g:Int→Int} (hv:Q9 levels=some v) (hvl:Z0 v=n) (hf : ∀ p,0≤p→p < n→Z1 0 v p=f p∧0≤f p∧f p < n∧g (f p)=p)
  (hg : ∀ q,0≤q→q < n→0≤g q∧g q < n∧f (g q)=q) :
  Zd (Z3o levels widths) fun r=>r.2=true∧Z0 r.1=Yf (fun p=>Z1 0 widths (f p)) n ∧
   ∀ p,0≤p→p < n→∀ j,0≤j→j < Z1 0 widths (f p)→Z1 0 r.1 (Yf (fun p=>Z1 0 widths (f p)) p+j)=Yf (Z1 0 widths) (f p)+j:=by
 have hn0:0≤n:=by rw [← hl];exact Zc levels
 have hpw : ∀ i,0≤i→i≤n→i≤Yf (Z1 0 widths) i∧Yf (Z1 0 widths) i≤2*i:=by
  intro i i0 i1
  obtain ⟨k,rfl⟩:=Int.eq_ofNat_of_zero_le i0
  clear i0
  induction k with
  | zero=>simp [Z1b]
  | succ k ih =>
   have:=ih (by omega)
   rw [show (((k+1:Nat)):Int)=(k:Int)+1 by omega,Xs (by omega)]
   have:=h12 k (by omega) (by omega)
   omega
 have hpt : ∀ i,0≤i→i≤n→i≤Yf (fun p=>Z1 0 widths (f p)) i∧Yf (fun p=>Z1 0 widths (f p)) i≤2*i:=by
  intro i i0 i1
  obtain ⟨k,rfl⟩:=Int.eq_ofNat_of_zero_le i0
  clear i0
  induction k with
  | zero=>simp [Z1b]
  | succ k ih =>
   have:=ih (by omega)
   rw [show (((k+1:Nat)):Int)=(k:Int)+1 by omega,Xs (by omega)]
   have h1:=hf k (by omega) (by omega)
   have:=h12 (f k) h1.2.1 h1.2.2.1
   omega
 unfold Z3o
 rw [hl,hw]
 refine .ite (fun h=>by simp at h) fun _=>?_
 refine .chk (mkOk hn0 (by omega) (by omega)) (.cut (fun o=>∃ N st,o = .go (N,st)∧N=Yf (Z1 0 widths) n∧Z0 st=n∧∀ i,0≤i→i < n→Z1 0 st i=Yf (Z1 0 widths) i) ?_ ?_)
 · refine .loop (fun x=>0≤x.2.1∧x.2.1≤n∧x.1=Yf (Z1 0 widths) x.2.1∧Z0 x.2.2=n∧∀ i,0≤i→i < x.2.1→Z1 0 x.2.2 i=Yf (Z1 0 widths) i) (fun x=>(n-x.2.1).toNat)
    ⟨by simp only;omega,by simp only;omega,rfl,Y3 _ hn0,fun i _ _=>by simp only at *;omega⟩ ?_
   rintro ⟨N,i,st⟩ ⟨i0,i1,hN,hs,hgs⟩
   simp only at i0 i1 hN hs hgs ⊢
   refine .ite (fun h=>?_) (fun h=>?_)
   · have h:i < n:=by simpa using h
     have hwi:=h12 i i0 h
     have hb:=hpw i i0 i1
     refine .chk ⟨i0,h⟩ (.ite (fun h2=>?_) fun _=>?_)
     · exfalso;rcases hwi with e | e<;>simp [e] at h2
     · refine .chk ⟨i0,h⟩ (.chk (Zm (by omega) (by omega)) (.chk (Zm (by omega) (by omega)) (.ret ⟨⟨by simp only;omega,by simp only;omega,?_,by simpa using hs,fun k k0 k1=>?_⟩,by simp only;omega⟩)))
       · simp only;rw [Xs i0,hN]
       · simp only at k1 ⊢
         rw [Zk i0 k0 (by omega)]
         split
         · subst_vars;rfl
         · exact hgs k k0 (by omega)
   · have h : ¬ i < n:=by simpa using h
     obtain rfl:i=n:=by omega
     exact .ret ⟨N,st,rfl,hN,hs,hgs⟩
 rintro _ ⟨N,st,rfl,hN,hsl,hsg⟩
 have hNb:=hpw n hn0 (Int.le_refl n)
 refine .chk ⟨by omega,by omega,by omega,by omega⟩ (.cut (fun o=>∃ out,o = .go out∧Z0 out=Yf (fun p=>Z1 0 widths (f p)) n ∧
  ∀ p,0≤p→p < n→∀ j,0≤j→j < Z1 0 widths (f p)→Z1 0 out (Yf (fun p=>Z1 0 widths (f p)) p+j)=Yf (Z1 0 widths) (f p)+j) ?_ ?_)
 · refine .call hv ?_
   refine .loop (fun x=>0≤x.1∧x.1≤n∧Z0 x.2=Yf (fun p=>Z1 0 widths (f p)) x.1∧∀ p,0≤p→p < x.1→∀ j,0≤j→j < Z1 0 widths (f p)→Z1 0 x.2 (Yf (fun p=>Z1 0 widths (f p)) p+j)=Yf (Z1 0 widths) (f p)+j) (fun x=>(n-x.1).toNat)
    ⟨by simp only;omega,by simp only;omega,by simp [Z1b,Z0q],fun p _ _=>by simp only at *;omega⟩ ?_
   rintro ⟨p,out⟩ ⟨p0,p1,ho,hgo⟩
   simp only at p0 p1 ho hgo ⊢
   rw [hvl]
   refine .ite (fun h=>?_) (fun h=>?_)
   · have h:p < n:=by simpa using h
     obtain ⟨e1,e2,e3,e4⟩:=hf p p0 h
     have hw12:=h12 (f p) e2 e3
     have hT:=hpt p p0 p1
     have hS:=hpw (f p) e2 (by omega)
     refine .cut (fun o=>∃ out',o = .go out'∧Z0 out'=Yf (fun p=>Z1 0 widths (f p)) (p+1) ∧
      ∀ q,0≤q→q < p+1→∀ j,0≤j→j < Z1 0 widths (f q)→Z1 0 out' (Yf (fun p=>Z1 0 widths (f p)) q+j)=Yf (Z1 0 widths) (f q)+j) ?_ ?_
     · refine .chk ⟨p0,h⟩ ?_
       rw [Int.zero_add,e1]
       refine .chk ⟨e2,e3⟩ ?_
       refine .loop (fun x=>0≤x.1∧x.1≤Z1 0 widths (f p)∧Z0 x.2=Yf (fun p=>Z1 0 widths (f p)) p+x.1 ∧
        (∀ q,0≤q→q < p→∀ j,0≤j→j < Z1 0 widths (f q)→Z1 0 x.2 (Yf (fun p=>Z1 0 widths (f p)) q+j)=Yf (Z1 0 widths) (f q)+j) ∧
        ∀ j,0≤j→j < x.1→Z1 0 x.2 (Yf (fun p=>Z1 0 widths (f p)) p+j)=Yf (Z1 0 widths) (f p)+j) (fun x=>(Z1 0 widths (f p)-x.1).toNat)
        ⟨by simp only;omega,by simp only;omega,by simp only;omega,hgo,fun j _ _=>by simp only at *;omega⟩ ?_
       rintro ⟨j,o3⟩ ⟨j0,j1,ho3,hg3,hg4⟩
       simp only at j0 j1 ho3 hg3 hg4 ⊢
       refine .ite (fun h2=>?_) (fun h2=>?_)
       · have h2:j < Z1 0 widths (f p):=by simpa using h2
         rw [Int.zero_add,hsg (f p) e2 e3]
         have hlow : ∀ q,0≤q→q < p→∀ i,0≤i→i < Z1 0 widths (f q)→0≤Yf (fun p=>Z1 0 widths (f p)) q+i∧Yf (fun p=>Z1 0 widths (f p)) q+i < Z0 o3:=by
          intro q q0 q1 i i0 i1
          have a:=Z06 (w:=fun p=>Z1 0 widths (f p)) (n:=n) (fun k k0 k1=>by have:=hf k k0 k1;have:=h12 (f k) this.2.1 this.2.2.1;omega) (i:=q+1) (j:=p) (by omega) (by omega) (by omega)
          rw [Xs q0] at a
          have:=hpt q q0 (by omega)
          omega
         refine .chk ⟨e2,e3⟩ (.chk (Zm (by omega) (by omega)) (.chk (grOk (by omega) (by omega) (by omega)) (.chk (Zm (by omega) (by omega)) (.ret ⟨⟨by simp only;omega,by simp only;omega,by simp [ho3];omega,fun q q0 q1 i i0 i1=>?_,fun i i0 i1=>?_⟩,by simp only;omega⟩))))
         · have:=hlow q q0 q1 i i0 i1
           simp only
           rw [Yi this.1,if_pos this.2];exact hg3 q q0 q1 i i0 i1
         · simp only at i1 ⊢
           rw [Yi (by omega)]
           by_cases c:i < j
           · rw [if_pos (by omega)];exact hg4 i i0 c
           · rw [if_neg (by omega),Q0 (by omega)];omega
       · have h2 : ¬ j < Z1 0 widths (f p):=by simpa using h2
         obtain rfl:j=Z1 0 widths (f p):=by omega
         refine .ret ⟨o3,rfl,?_,fun q q0 q1 i i0 i1=>?_⟩
         · rw [Xs p0];exact ho3
         · rcases Int.lt_or_eq_of_le (show q≤p by omega) with h' | rfl
           · exact hg3 q q0 h' i i0 i1
           · exact hg4 i i0 i1
     · rintro _ ⟨o',rfl,h1,h2⟩
       exact .chk (Zm (by omega) (by omega)) (.ret ⟨⟨by simp only;omega,by simp only;omega,h1,h2⟩,by simp only;omega⟩)
   · have h : ¬ p < n:=by simpa using h
     obtain rfl:p=n:=by omega
     exact .ret ⟨out,rfl,ho,hgo⟩
 · rintro _ ⟨out,rfl,h1,h2⟩
   exact .ret ⟨rfl,h1,h2⟩
theorem clone_gr {s:List Int} (h:Yt 8 (Z0 s)):Yb s=some s:=by
 unfold Yb
 rw [nilO_eq]
 · show chk (Yt 8 (Z0 s)) (some s)=some s
   rw [Yp h]
 · intro h0
   have:s=[]:=by cases s with | nil=>rfl | cons x l=>simp [Z0] at h0;omega
   subst this
   show some []=chk (Yt 8 (Z0 ([]:List Int))) (some [])
   rw [Yp h]
def Z45 (c:Int):Bool:=c == 13 || c == 10 || c == 15 || c == 16 || c == 17 || c == 18 || c == 19 || c == 20 || c == 21 || c == 22 || c == 23
theorem passed_eq (c:Int):Z2m c=some (Z45 c):=by
 unfold Z2m Z45
 generalize (c == 13)=b1;generalize (c == 10)=b2;generalize (c == 15)=b3;generalize (c == 16)=b4;generalize (c == 17)=b5;generalize (c == 18)=b6
 generalize (c == 19)=b7;generalize (c == 20)=b8;generalize (c == 21)=b9;generalize (c == 22)=b10;generalize (c == 23)=b11
 cases b1<;>try rfl
 cases b2<;>try rfl
 cases b3<;>try rfl
 cases b4<;>try rfl
 cases b5<;>try rfl
 cases b6<;>try rfl
 cases b7<;>try rfl
 cases b8<;>try rfl
 cases b9<;>try rfl
 cases b10<;>try rfl
 cases b11<;>rfl
def endF (f:Int→Int):Nat→Int→Bool
 | 0,_=>true
 | k+1,i=>if f (i+1) == 11 || f (i+1) == 12 then true else if Z45 (f (i+1)) then endF f k (i+1) else false
def zF (f:Int→Int) (n i:Int):Bool:=(f i == 11 || f i == 12) || (Z45 (f i) && endF f (n-1-i).toNat i)
def ResetQ (f:Int→Int) (levels:List Int) (base:Int) (q:List Int):Prop:=Z0 q=Z0 levels∧∀ k,0≤k→k < Z0 levels→Z1 0 q k=if zF f (Z0 levels) k=true then base else Z1 0 levels k
def RInv (f:Int→Int) (levels:List Int) (base:Int) (x:Bool × Int × List Int):Prop:=-1≤x.2.1∧x.2.1 < Z0 levels∧x.1=endF f (Z0 levels-1-x.2.1).toNat x.2.1∧Z0 x.2.2=Z0 levels ∧
 ∀ k,0≤k→k < Z0 levels→Z1 0 x.2.2 k=if x.2.1 < k∧zF f (Z0 levels) k=true then base else Z1 0 levels k
theorem RInv.start (f:Int→Int) (levels:List Int) (base:Int):RInv f levels base (true,Z0 levels-1,levels):=by
 have hn:=Zc levels
 refine ⟨by dsimp only;omega,by dsimp only;omega,?_,rfl,fun k k0 k1=>?_⟩
 · dsimp only
   rw [show (Z0 levels-1-(Z0 levels-1)).toNat=0 by omega];rfl
 · dsimp only
   rw [if_neg (by omega)]
theorem RInv.step {f:Int→Int} {levels:List Int} {base:Int} {e:Bool} {i:Int} {q:List Int} (h:RInv f levels base (e,i,q)) (h0:0≤i) :
  ((f i=11∨f i=12)→RInv f levels base (true,i-1,Yc q i base))∧(¬ (f i=11∨f i=12)→Z45 (f i)=true→e=true→RInv f levels base (e,i-1,Yc q i base)) ∧
  (¬ (f i=11∨f i=12)→Z45 (f i)=true→e=false→RInv f levels base (false,i-1,q))∧(¬ (f i=11∨f i=12)→Z45 (f i)=false→RInv f levels base (false,i-1,q)):=by
 obtain ⟨i0,i1,he,hq,hg⟩:=h
 dsimp only at i0 i1 he hq hg
 have hE : ∀ b,b=(if f i == 11 || f i == 12 then true else if Z45 (f i) then e else false)→b=endF f (Z0 levels-1-(i-1)).toNat (i-1):=by
  intro b hb
  rw [show (Z0 levels-1-(i-1)).toNat=(Z0 levels-1-i).toNat+1 by omega]
  simp only [endF,show i-1+1=i by omega]
  rw [← he,hb]
 have hz:zF f (Z0 levels) i=((f i == 11 || f i == 12) || (Z45 (f i) && e)):=by
  simp only [zF];rw [← he]
 have hS:zF f (Z0 levels) i=true→∀ k,0≤k→k < Z0 levels→Z1 0 (Yc q i base) k=if i-1 < k∧zF f (Z0 levels) k=true then base else Z1 0 levels k:=by
  intro hzi k k0 k1
  rw [Zk (by omega) k0 (by omega)]
  by_cases hk:k=i
  · subst hk;rw [if_pos rfl,if_pos ⟨by omega,hzi⟩]
  · rw [if_neg hk,hg k k0 k1]
    congr 1
    exact propext ⟨fun ⟨a,b⟩=>⟨by omega,b⟩,fun ⟨a,b⟩=>⟨by omega,b⟩⟩
 have hN:zF f (Z0 levels) i=false→∀ k,0≤k→k < Z0 levels→Z1 0 q k=if i-1 < k∧zF f (Z0 levels) k=true then base else Z1 0 levels k:=by
  intro hzi k k0 k1
  rw [hg k k0 k1]
  by_cases hk:k=i
  · subst hk;rw [if_neg (by omega),if_neg (by rw [hzi];simp)]
  · congr 1
    exact propext ⟨fun ⟨a,b⟩=>⟨by omega,b⟩,fun ⟨a,b⟩=>⟨by omega,b⟩⟩
 have hcf : ¬ (f i=11∨f i=12)→(f i == 11 || f i == 12)=false:=fun hc=>by
  have h1 : ¬ f i=11:=fun h=>hc (.inl h)
  have h2 : ¬ f i=12:=fun h=>hc (.inr h)
  simp [h1,h2]
 refine ⟨fun hc=>?_,fun hc hp hee=>?_,fun hc hp hee=>?_,fun hc hp=>?_⟩
 · have hc:(f i == 11 || f i == 12)=true:=by rcases hc with hc | hc<;>simp [hc]
   exact ⟨by dsimp only;omega,by dsimp only;omega,hE _ (by rw [if_pos hc]),by simp [hq],hS (by rw [hz,hc];rfl)⟩
 · have hc:=hcf hc
   exact ⟨by dsimp only;omega,by dsimp only;omega,hE _ (by rw [if_neg (by rw [hc];simp),if_pos hp]),by simp [hq],hS (by rw [hz,hc,hp,hee];rfl)⟩
 · have hc:=hcf hc
   exact ⟨by dsimp only;omega,by dsimp only;omega,hE _ (by rw [if_neg (by rw [hc];simp),if_pos hp,hee]),hq,hN (by rw [hz,hc,hp,hee];rfl)⟩
 · have hc:=hcf hc
   exact ⟨by dsimp only;omega,by dsimp only;omega,hE _ (by rw [if_neg (by rw [hc];simp),if_neg (by rw [hp];simp)]),hq,hN (by rw [hz,hc,hp];rfl)⟩
theorem RInv.fin {f:Int→Int} {levels:List Int} {base:Int} {e:Bool} {i:Int} {q:List Int} (h:RInv f levels base (e,i,q)) (h0 : ¬ 0≤i):ResetQ f levels base q:=by
 obtain ⟨i0,i1,he,hq,hg⟩:=h
 dsimp only at i0 i1 he hq hg
 refine ⟨hq,fun k k0 k1=>?_⟩
 rw [hg k k0 k1]
 congr 1
 exact propext ⟨fun ⟨a,b⟩=>b,fun b=>⟨by omega,b⟩⟩
theorem cond_two {c:Int} : (if (c == 11)=true then true else (c == 12))=true ↔ (c=11∨c=12):=by
 by_cases h:c=11
 · simp [h]
 · simp [h]
theorem reset_yields {d:Za} {cls:Int→Int} (hcls : ∀ r,Z39 d r=some (cls r)) {r levels:List Int} (base:Int) (hl:Z0 r=Z0 levels) (hb:Z0 levels≤100000) :
  Zd (Z3q d r levels base) (ResetQ (fun i=>cls (Z1 0 r i)) levels base):=by
 have hn:=Zc levels
 unfold Z3q
 rw [clone_gr (grOk hn (by omega) (by omega)),bindO_eq',show (!((Z0 r) == (Z0 levels)))=false by simp [hl],Z31,hl]
 refine .cut (fun o=>∃ q,o = .go q∧ResetQ (fun i=>cls (Z1 0 r i)) levels base q) ?_ ?_
 · refine .chk (Zm (by omega) (by omega)) ?_
   refine .loop (RInv (fun i=>cls (Z1 0 r i)) levels base) (fun x=>(x.2.1+1).toNat) (RInv.start _ _ _) ?_
   rintro ⟨e,i,q⟩ hI
   have hi1:=hI.2.1
   have hi0:=hI.1
   dsimp only at hi0 hi1 ⊢
   refine .ite (fun h=>?_) (fun h=>.ret ⟨q,rfl,hI.fin (by simpa using h)⟩)
   have h:0≤i:=by simpa using h
   obtain ⟨s1,s2,s3,s4⟩:=hI.step h
   try dsimp only at s1 s2 s3 s4
   refine .chk ⟨h,by omega⟩ (.call (hcls _) (.ite (fun hc=>?_) (fun hc=>?_)))
   · exact .chk ⟨h,by omega⟩ (.chk (Zm (by omega) (by omega)) (.ret ⟨s1 (cond_two.1 hc),by dsimp only;omega⟩))
   · have hc : ¬ (cls (Z1 0 r i)=11∨cls (Z1 0 r i)=12):=fun h'=>by rw [cond_two.2 h'] at hc;cases hc
     refine .call (passed_eq _) (.ite (fun hp=>?_) (fun hp=>?_))
     · exact .chk (Zm (by omega) (by omega)) (.ret ⟨s4 hc (by simpa using hp),by dsimp only;omega⟩)
     · refine .ite (fun he=>?_) (fun he=>?_)
       · exact .chk ⟨h,by omega⟩ (.chk (Zm (by omega) (by omega)) (.ret ⟨s2 hc (by simpa using hp) he,by dsimp only;omega⟩))
       · have:=s3 hc (by simpa using hp) he
         subst he
         exact .chk (Zm (by omega) (by omega)) (.ret ⟨this,by dsimp only;omega⟩)
 · rintro o ⟨q,rfl,h1⟩
   exact .go (.ret h1)
end Go.Vx
end
section
namespace Go.Vx
set_option maxRecDepth 100000
theorem Z6s {α:Type} (d:α) {l:List α} {i:Int} (h0:0≤i) (h1:i < Z0 l):l.take (i+1).toNat=l.take i.toNat++[Z1 d l i]:=by
 have h:i.toNat < l.length:=by simp only [Z0] at h1;omega
 have e:(i+1).toNat=i.toNat+1:=by omega
 rw [e,List.take_succ_eq_append_getElem h]
 simp [Z1,h]
theorem Z6t {α:Type} {l:List α} {i:Int} (h:Z0 l≤i):l.take i.toNat=l:=by
 simp only [Z0] at h
 exact List.take_of_length_le (by omega)
def letC (c:Zi):Int:=if c.fR=0 then 32 else c.fR
def Z11 (l:List Zi):List Int:=(l.filter fun c=>!(c.fW == 0)).map letC
def Xn (l:List Zi):List Int:=(l.filter fun c=>!(c.fW == 0)).map (·.fW)
theorem letL_app (a b:List Zi):Z11 (a++b)=Z11 a++Z11 b:=by simp [Z11]
theorem Z5i (a b:List Zi):Xn (a++b)=Xn a++Xn b:=by simp [Xn]
theorem letL_one0 {c:Zi} (h:c.fW=0):Z11 [c]=[]:=by simp [Z11,h]
theorem letL_one {c:Zi} (h:c.fW≠0):Z11 [c]=[letC c]:=by simp [Z11,h]
theorem widL_one0 {c:Zi} (h:c.fW=0):Xn [c]=[]:=by simp [Xn,h]
theorem widL_one {c:Zi} (h:c.fW≠0):Xn [c]=[c.fW]:=by simp [Xn,h]
theorem Z4j (l:List Zi):Z0 (Z11 l)≤Z0 l:=by
 simp only [Z11,Z0,List.length_map]
 exact Int.ofNat_le.2 (List.length_filter_le _ _)
theorem Z46 (l:List Zi):Z0 (Xn l)=Z0 (Z11 l):=by simp [Z11,Xn,Z0]
theorem letters_eq {r:Z5} (hb:Z0 r.fCells≤100000):Z0m r=some (Z11 r.fCells,Xn r.fCells):=by
 refine Zd.eq ?_
 unfold Z0m
 have hn:=Zc r.fCells
 refine .cut (fun o=>o = .go (Z11 r.fCells,Xn r.fCells)) ?_ (fun o h=>by subst h;exact .go (.ret rfl))
 refine .loop (fun x=>0≤x.1∧x.1≤Z0 r.fCells∧x.2.1=Z11 (r.fCells.take x.1.toNat)∧x.2.2=Xn (r.fCells.take x.1.toNat)) (fun x=>(Z0 r.fCells-x.1).toNat) ⟨by simp only;omega,hn,rfl,rfl⟩ ?_
 rintro ⟨v,o,w⟩ ⟨v0,v1,ho,hw⟩
 simp only at v0 v1 ho hw ⊢
 refine .ite (fun h=>?_) (fun h=>?_)
 · have h:v < Z0 r.fCells:=by simpa using h
   have ht:=Z6s Z4 v0 h
   have hl:Z0 (r.fCells.take v.toNat)≤v:=by simp only [Z0,List.length_take];omega
   have lo:=Z4j (r.fCells.take v.toNat)
   have lw:=Z46 (r.fCells.take v.toNat)
   have l0:=Zc (Z11 (r.fCells.take v.toNat))
   rw [← ho] at lo l0 lw
   rw [← hw] at lw
   refine .chk ⟨v0,h⟩ (.ite (fun hz=>?_) (fun hz=>.ite (fun hr=>?_) (fun hr=>?_)))
   · have hz:(Z1 Z4 r.fCells v).fW=0:=by simpa using hz
     exact .chk (Zm (by omega) (by omega)) (.ret ⟨⟨by simp only;omega,by simp only;omega,by simp only;rw [ht,letL_app,letL_one0 hz,List.append_nil,ho],by simp only;rw [ht,Z5i,widL_one0 hz,List.append_nil,hw]⟩,by simp only;omega⟩)
   · have hz:(Z1 Z4 r.fCells v).fW≠0:=by simpa using hz
     have hr:(Z1 Z4 r.fCells v).fR=0:=by simpa using hr
     refine .chk (grOk (by omega) (by omega) (by omega)) (.chk (grOk (by omega) (by omega) (by omega)) (.chk (Zm (by omega) (by omega)) (.ret ⟨⟨by simp only;omega,by simp only;omega,?_,?_⟩,by simp only;omega⟩)))
     · simp only;rw [ht,letL_app,letL_one hz,ho,letC,if_pos hr]
     · simp only;rw [ht,Z5i,widL_one hz,hw]
   · have hz:(Z1 Z4 r.fCells v).fW≠0:=by simpa using hz
     have hr : ¬ (Z1 Z4 r.fCells v).fR=0:=by simpa using hr
     refine .chk (grOk (by omega) (by omega) (by omega)) (.chk (grOk (by omega) (by omega) (by omega)) (.chk (Zm (by omega) (by omega)) (.ret ⟨⟨by simp only;omega,by simp only;omega,?_,?_⟩,by simp only;omega⟩)))
     · simp only;rw [ht,letL_app,letL_one hz,ho,letC,if_neg hr]
     · simp only;rw [ht,Z5i,widL_one hz,hw]
 · have h:Z0 r.fCells≤v:=by simpa using h
   refine .ret ?_
   rw [Z6t h] at ho hw
   subst ho hw
   exact rfl
def gatL (l:List Z5):List Int:=l.flatMap fun r=>Z11 r.fCells
theorem gatL_app (a b:List Z5):gatL (a++b)=gatL a++gatL b:=by simp [gatL]
theorem gatL_one (r:Z5):gatL [r]=Z11 r.fCells:=by simp [gatL]
theorem gatL_len {l:List Z5} {k:Int} (hk : ∀ r∈l,Z0 r.fCells≤k):Z0 (gatL l)≤k*Z0 l:=by
 induction l with
 | nil=>simp [gatL]
 | cons r l ih =>
  have h1:=ih (fun r' h=>hk r' (List.mem_cons_of_mem _ h))
  have h2:=hk r (List.mem_cons_self ..)
  have h3:=Z4j r.fCells
  rw [show r :: l=[r]++l from rfl,gatL_app,gatL_one,Zf,Zf,Int.mul_add]
  have:Z0 [r]=1:=rfl
  rw [this];omega
theorem gather_eq {l:List Z5} (hl:Z0 l≤1000) (hk : ∀ r∈l,Z0 r.fCells≤100):Z17 l=some (gatL l):=by
 refine Zd.eq ?_
 unfold Z17
 have hn:=Zc l
 refine .cut (fun o=>o = .go (gatL l)) ?_ (fun o h=>by subst h;exact .go (.ret rfl))
 refine .loop (fun x=>0≤x.1∧x.1≤Z0 l∧x.2=gatL (l.take x.1.toNat)) (fun x=>(Z0 l-x.1).toNat) ⟨by simp only;omega,hn,rfl⟩ ?_
 rintro ⟨v,o⟩ ⟨v0,v1,ho⟩
 simp only at v0 v1 ho ⊢
 refine .ite (fun h=>?_) (fun h=>?_)
 · have h:v < Z0 l:=by simpa using h
   have ht:=Z6s Z3 v0 h
   have hl:Z0 (l.take v.toNat)≤v:=by simp only [Z0,List.length_take];omega
   have hr:=hk _ (Z78 Z3 v0 h)
   have hg:=gatL_len (l:=l.take v.toNat) (k:=100) (fun r h=>hk r (List.mem_of_mem_take h))
   have l3:=Z4j (Z1 Z3 l v).fCells
   have l4:=Zc (Z11 (Z1 Z3 l v).fCells)
   have l0:=Zc (gatL (l.take v.toNat))
   rw [← ho] at hg l0
   refine .chk ⟨v0,h⟩ (.call (letters_eq (by omega)) (.chk (grOk (by simp only;omega) (by simp only;omega) (by omega)) (.chk (Zm (by omega) (by omega)) (.ret ⟨⟨by simp only;omega,by simp only;omega,?_⟩,by simp only;omega⟩))))
   simp only
   rw [ht,gatL_app,gatL_one,ho]
 · have h:Z0 l≤v:=by simpa using h
   refine .ret ?_
   rw [Z6t h] at ho
   subst ho
   exact rfl
structure LinP (n:Int) (w:Int→Int) (f g:Int→Int) (x:Zj):Prop where
 v:Z0 x.fV2L=Yf w n
 l:Z0 x.fL2V=Yf w n
 c:Z0 x.fCells=Yf w n
 vl : ∀ p,0≤p→p < Yf w n→0≤Z1 0 x.fV2L p∧Z1 0 x.fV2L p < Yf w n∧Z1 0 x.fL2V (Z1 0 x.fV2L p)=p
 lv : ∀ i,0≤i→i < Yf w n→0≤Z1 0 x.fL2V i∧Z1 0 x.fL2V i < Yf w n∧Z1 0 x.fV2L (Z1 0 x.fL2V i)=i
 at_ : ∀ i,0≤i→i < n→∀ j,0≤j→j < w i→Z1 0 x.fL2V (Yf w i+j)=Yf (fun p=>w (f p)) (g i)+j
theorem preI_bd {w:Int→Int} {n:Int} (h12 : ∀ i,0≤i→i < n→w i=1∨w i=2) {i:Int} (i0:0≤i) (i1:i≤n):i≤Yf w i∧Yf w i≤2*i:=by
 obtain ⟨k,rfl⟩:=Int.eq_ofNat_of_zero_le i0
 clear i0
 induction k with
 | zero=>simp [Z1b]
 | succ k ih =>
  have:=ih (by omega)
  rw [show (((k+1:Nat)):Int)=(k:Int)+1 by omega,Xs (by omega)]
  have:=h12 k (by omega) (by omega)
  omega
theorem lay_yields {cells:List Zi} {levels widths:List Int} {n base:Int} (hl:Z0 levels=n) (hw:Z0 widths=n) (hn:n≤1000) (h12 : ∀ i,0≤i→i < n→Z1 0 widths i=1∨Z1 0 widths i=2)
  {v:List Int} {f g:Int→Int} (hv:Q9 levels=some v) (hvl:Z0 v=n) (hf : ∀ p,0≤p→p < n→Z1 0 v p=f p∧0≤f p∧f p < n∧g (f p)=p)
  (hg : ∀ q,0≤q→q < n→0≤g q∧g q < n∧f (g q)=q) (hc:Z0 cells=Yf (Z1 0 widths) n) :
  Zd (Z2e cells levels widths base) fun x=>x.fBase=base∧LinP n (Z1 0 widths) f g x:=by
 obtain ⟨⟨c,is⟩,ec,his,hcl,hcg⟩:=cells_yields hl hw hn h12 hv hvl hf hg
 simp only at his hcl hcg
 subst his
 have hn0:0≤n:=by rw [← hl];exact Zc _
 generalize hW:Z1 0 widths=w at *
 have hw1 : ∀ p,0≤p→p < n→1≤w p:=fun p p0 p1=>by have:=h12 p p0 p1;omega
 have hwv : ∀ p,0≤p→p < n→1≤w (f p):=fun p p0 p1=>by
  obtain ⟨_,b,c,_⟩:=hf p p0 p1
  exact hw1 _ b c
 let F:Int→Int:=fun x=>Yf w (f (blk (fun p=>w (f p)) n.toNat x))+(x-Yf (fun p=>w (f p)) (blk (fun p=>w (f p)) n.toNat x))
 let G:Int→Int:=fun y=>Yf (fun p=>w (f p)) (g (blk w n.toNat y))+(y-Yf w (blk w n.toNat y))
 have hF : ∀ p,0≤p→p < n→∀ j,0≤j→j < w (f p)→F (Yf (fun p=>w (f p)) p+j)=Yf w (f p)+j:=by
  intro p p0 p1 j j0 j1
  have e:=blk_uniq (w:=fun p=>w (f p)) hwv (x:=Yf (fun p=>w (f p)) p+j) p0 p1 (by omega) (by rw [Xs p0];omega)
  simp only [F,e];omega
 have hG : ∀ i,0≤i→i < n→∀ j,0≤j→j < w i→G (Yf w i+j)=Yf (fun p=>w (f p)) (g i)+j:=by
  intro i i0 i1 j j0 j1
  have e:=blk_uniq (w:=w) hw1 (x:=Yf w i+j) i0 i1 (by omega) (by rw [Xs i0];omega)
  simp only [G,e];omega
 have hx : ∀ x,0≤x→x < Yf (fun p=>w (f p)) n→∃ p j,0≤p∧p < n∧0≤j∧j < w (f p)∧x=Yf (fun p=>w (f p)) p+j:=by
  intro x x0 x1
  obtain ⟨a,b,c,d⟩:=Z6r (w:=fun p=>w (f p)) (n:=n.toNat) x0 x1
  rw [Xs a] at d
  exact ⟨_,x-Yf (fun p=>w (f p)) (blk (fun p=>w (f p)) n.toNat x),a,by omega,by omega,by omega,by omega⟩
 have hy : ∀ y,0≤y→y < Yf w n→∃ i j,0≤i∧i < n∧0≤j∧j < w i∧y=Yf w i+j:=by
  intro x x0 x1
  obtain ⟨a,b,c,d⟩:=Z6r (w:=w) (n:=n.toNat) x0 x1
  rw [Xs a] at d
  exact ⟨_,x-Yf w (blk w n.toNat x),a,by omega,by omega,by omega,by omega⟩
 have hS : ∀ i,0≤i→i < n→0≤Yf w i∧Yf w i+w i≤Yf w n:=by
  intro i i0 i1
  have a:=Z06 hw1 (i:=0) (j:=i) (by omega) i0 (by omega)
  have b:=Z06 hw1 (i:=i+1) (j:=n) (by omega) (by omega) (by omega)
  rw [Z1b] at a
  rw [Xs i0] at b
  omega
 have hT : ∀ i,0≤i→i < n→0≤Yf (fun p=>w (f p)) i∧Yf (fun p=>w (f p)) i+w (f i)≤Yf (fun p=>w (f p)) n:=by
  intro i i0 i1
  have a:=Z06 (w:=fun p=>w (f p)) hwv (i:=0) (j:=i) (by omega) i0 (by omega)
  have b:=Z06 (w:=fun p=>w (f p)) hwv (i:=i+1) (j:=n) (by omega) (by omega) (by omega)
  rw [Z1b] at a
  rw [Xs i0] at b
  omega
 have hFG : ∀ x,0≤x→x < Yf (fun p=>w (f p)) n→0≤F x∧F x < Yf w n∧G (F x)=x:=by
  intro x x0 x1
  obtain ⟨p,j,p0,p1,j0,j1,rfl⟩:=hx x x0 x1
  obtain ⟨_,b,c,d⟩:=hf p p0 p1
  have:=hS (f p) b c
  rw [hF p p0 p1 j j0 j1]
  refine ⟨by omega,by omega,?_⟩
  rw [hG (f p) b c j j0 j1,d]
 have hGF : ∀ y,0≤y→y < Yf w n→0≤G y∧G y < Yf (fun p=>w (f p)) n∧F (G y)=y:=by
  intro y y0 y1
  obtain ⟨i,j,i0,i1,j0,j1,rfl⟩:=hy y y0 y1
  obtain ⟨a,b,c⟩:=hg i i0 i1
  have:=hT (g i) a b
  rw [c] at this
  rw [hG i i0 i1 j j0 j1]
  refine ⟨by omega,by omega,?_⟩
  rw [hF (g i) a b j j0 (by rw [c];exact j1),c]
 have hNN:Yf (fun p=>w (f p)) n=Yf w n:=by
  have z1:0≤Yf w n:=by
   have:=Z06 hw1 (i:=0) (j:=n) (by omega) hn0 (by omega)
   rw [Z1b] at this;omega
  have z2:0≤Yf (fun p=>w (f p)) n:=by
   have:=Z06 (w:=fun p=>w (f p)) hwv (i:=0) (j:=n) (by omega) hn0 (by omega)
   rw [Z1b] at this;omega
  have a:=inj_leI (f:=F) (g:=G) z1 hFG
  have b:=inj_leI (f:=G) (g:=F) z2 hGF
  omega
 have hNb:=preI_bd h12 hn0 (Int.le_refl n)
 have hNz:0≤Yf w n:=by omega
 rw [hNN] at hcl hFG hGF
 have hcF : ∀ x,0≤x→x < Yf w n→Z1 0 c x=F x:=by
  intro x x0 x1
  obtain ⟨p,j,p0,p1,j0,j1,rfl⟩:=hx x x0 (by omega)
  rw [hF p p0 p1 j j0 j1]
  exact hcg p p0 p1 j j0 j1
 have hk:Qy c=some (mkL (Yf w n) G,true) :=
  invert_eq hcl (by omega) (fun i i0 i1=>by rw [hcF i i0 i1];exact hFG i i0 i1) (fun j j0 j1=>by
   obtain ⟨a,b,c⟩:=hGF j j0 j1
   exact ⟨a,b,by rw [hcF _ a b];exact c⟩)
 have hkl:Z0 (mkL (Yf w n) G)=Yf w n:=lenL_mk _ hNz
 unfold Z2e
 refine .call ec (.call hk ?_)
 simp only
 rw [hcl]
 refine .chk (mkOk hNz (by omega) (by omega)) (.cut (fun o=>∃ y,o = .go y∧Z0 y=Yf w n) ?_ ?_)
 · refine .loop (fun x=>0≤x.1∧x.1≤Yf w n∧Z0 x.2=Yf w n) (fun x=>(Yf w n-x.1).toNat) ⟨by simp only;omega,hNz,Y3 _ hNz⟩ ?_
   rintro ⟨p,o⟩ ⟨p0,p1,ho⟩
   simp only at p0 p1 ho ⊢
   refine .ite (fun h=>?_) (fun _=>.ret ⟨_,rfl,ho⟩)
   have h:p < Yf w n:=by simpa using h
   have e:=hcF p p0 h
   have e2:=hFG p p0 h
   exact .chk ⟨p0,h⟩ (.chk ⟨by omega,by omega⟩ (.chk ⟨p0,h⟩ (.chk (Zm (by omega) (by omega)) (.ret ⟨⟨by simp only;omega,by simp only;omega,by simpa using ho⟩,by simp only;omega⟩))))
 rintro _ ⟨y,rfl,hy'⟩
 refine .go (.ret ⟨rfl,hcl,hkl,hy',fun p p0 p1=>?_,fun i i0 i1=>?_,fun i i0 i1 j j0 j1=>?_⟩)
 · simp only
   obtain ⟨a,b,c⟩:=hFG p p0 p1
   rw [hcF p p0 p1,getL_mk a b]
   exact ⟨a,b,c⟩
 · simp only
   obtain ⟨a,b,c⟩:=hGF i i0 i1
   rw [getL_mk i0 i1,hcF _ a b]
   exact ⟨a,b,c⟩
 · simp only
   have:=hS i i0 i1
   rw [getL_mk (by omega) (by omega),hG i i0 i1 j j0 j1]
end Go.Vx
end
section
namespace Go.Vx
set_option maxRecDepth 100000
theorem Z6u (r:Int) : ∃ j,Z4s Xi r=some j:=by
 unfold Z4s
 rw [get_eq (t:=Xi.fJoin) r (show Z0 ldJoin≤100000 by decide)]
 exact ⟨_,rfl⟩
theorem mirror_yields (r:Int):Zd (Z4t Xi r) (fun _=>True):=by
 unfold Z4t
 have hb:Z0 Xi.fMirror≤100000:=show Z0 ldMirror≤100000 by decide
 generalize Xi.fMirror=m at hb
 have hn:=Zc m
 refine .cut (fun o=>o = .go ()∨∃ x,o = .out x) ?_ ?_
 · refine .loop (fun v=>0≤v∧v≤Z0 m) (fun v=>(Z0 m-v).toNat) ⟨by omega,hn⟩ ?_
   rintro v ⟨v0,v1⟩
   refine .ite (fun h=>?_) (fun _=>.ret (.inl rfl))
   have h:v < Z0 m:=by simpa using h
   exact .chk ⟨v0,h⟩ (.ite (fun _=>.ret (.inr ⟨_,rfl⟩)) (fun _=>.ite (fun _=>.ret (.inr ⟨_,rfl⟩)) (fun _=>.chk (Zm (by omega) (by omega)) (.ret ⟨⟨by omega,by omega⟩,by dsimp only;omega⟩))))
 · rintro o (rfl | ⟨x,rfl⟩)
   · exact .go (.ret trivial)
   · exact .out trivial
theorem smirror_yields (r l:Int) (b:Bool):Zd (Z2j Xi r l b) (fun _=>True):=by
 unfold Z2j
 exact .ite (fun _=>.ret trivial) (fun _=>.bind _ (mirror_yields r) fun _ _=>.ret trivial)
theorem shape_yields (r w:Int):Zd (Z5m Xi r w) (fun _=>True):=by
 unfold Z5m
 refine .ite (fun _=>.ret trivial) (fun hw=>?_)
 have hw:0≤w∧w≤3:=by
  by_cases h1:w < 0
  · simp [h1] at hw
  · by_cases h2:3 < w
    · simp [h2] at hw
    · omega
 have hb:Z0 Xi.fForms≤100000:=show Z0 ldForms≤100000 by decide
 have ha : ∀ v,0≤v→v < Z0 Xi.fForms→0≤(Z1 X6 Xi.fForms v).fAt∧(Z1 X6 Xi.fForms v).fAt≤100000:=fun v v0 v1=>by
  have:=allI (show ldForms.all (fun x=>decide (0≤x.fAt) && decide (x.fAt≤100000))=true by kernel_rfl) _ (Z78 X6 v0 v1)
  exact (by simpa using this:0≤(Z1 X6 ldForms v).fAt∧(Z1 X6 ldForms v).fAt≤100000)
 generalize Xi.fForms=m at hb ha
 have hn:=Zc m
 refine .cut (fun o=>o = .go ()∨∃ x,o = .out x) ?_ ?_
 · refine .loop (fun v=>0≤v∧v≤Z0 m) (fun v=>(Z0 m-v).toNat) ⟨by omega,hn⟩ ?_
   rintro v ⟨v0,v1⟩
   refine .ite (fun h=>?_) (fun _=>.ret (.inl rfl))
   have h:v < Z0 m:=by simpa using h
   have hv:=ha v v0 h
   exact .chk ⟨v0,h⟩ (.ite (fun _=>.chk (Zm (by omega) (by omega)) (.ret ⟨⟨by omega,by omega⟩,by dsimp only;omega⟩)) (fun _ =>
    .ite (fun _=>.chk (Zm (by omega) (by omega)) (.ret (.inr ⟨_,rfl⟩))) (fun _=>.ite (fun _=>.chk (Zm (by omega) (by omega)) (.ret (.inr ⟨_,rfl⟩))) (fun _=>.ret (.inr ⟨_,rfl⟩)))))
 · rintro o (rfl | ⟨x,rfl⟩)
   · exact .go (.ret trivial)
   · exact .out trivial
theorem before_yields {r:List Int} {i:Int} (hb:Z0 r≤100000):Zd (Z2i Xi r i) (fun k=>k < Z0 r):=by
 have hn:=Zc r
 unfold Z2i
 refine .ite (fun _=>.ret (by omega)) (fun h=>?_)
 have h:0≤i∧i < Z0 r:=by
  by_cases h1:i < 0
  · simp [h1] at h
  · have:i < Z0 r:=by simpa [h1] using h
    omega
 refine .cut (fun o=>o = .go ()∨∃ x,o = .out x∧x < Z0 r) ?_ ?_
 · refine .chk (Zm (by omega) (by omega)) ?_
   refine .loop (fun v=>-1≤v∧v < Z0 r) (fun v=>(v+1).toNat) ⟨by omega,by omega⟩ ?_
   rintro v ⟨v0,v1⟩
   refine .ite (fun h=>?_) (fun _=>.ret (.inl rfl))
   have h:0≤v:=by simpa using h
   obtain ⟨j,hj⟩:=Z6u (Z1 0 r v)
   exact .chk ⟨h,v1⟩ (.call hj (.ite (fun _=>.ret (.inr ⟨_,rfl,v1⟩)) (fun _=>.chk (Zm (by omega) (by omega)) (.ret ⟨⟨by omega,by omega⟩,by dsimp only;omega⟩))))
 · rintro o (rfl | ⟨x,rfl,hx⟩)
   · exact .go (.ret (by omega))
   · exact .out hx
theorem after_yields {r:List Int} {i:Int} (hb:Z0 r≤100000):Zd (Z24 Xi r i) (fun k=>k < Z0 r):=by
 have hn:=Zc r
 unfold Z24
 refine .ite (fun _=>.ret (by omega)) (fun h=>?_)
 have h:0≤i∧i < Z0 r:=by
  by_cases h1:i < 0
  · simp [h1] at h
  · have:i < Z0 r:=by simpa [h1] using h
    omega
 refine .cut (fun o=>o = .go ()∨∃ x,o = .out x∧x < Z0 r) ?_ ?_
 · refine .chk (Zm (by omega) (by omega)) ?_
   refine .loop (fun v=>0≤v∧v≤Z0 r) (fun v=>(Z0 r-v).toNat) ⟨by omega,by omega⟩ ?_
   rintro v ⟨v0,v1⟩
   refine .ite (fun h=>?_) (fun _=>.ret (.inl rfl))
   have h:v < Z0 r:=by simpa using h
   obtain ⟨j,hj⟩:=Z6u (Z1 0 r v)
   exact .chk ⟨v0,h⟩ (.call hj (.ite (fun _=>.ret (.inr ⟨_,rfl,h⟩)) (fun _=>.chk (Zm (by omega) (by omega)) (.ret ⟨⟨by omega,by omega⟩,by dsimp only;omega⟩))))
 · rintro o (rfl | ⟨x,rfl,hx⟩)
   · exact .go (.ret (by omega))
   · exact .out hx
theorem ifY {α:Type} {c:Bool} {x y:Option α} {Q:α→Prop} (hx:Zd x Q) (hy:Zd y Q):Zd (if c=true then x else y) Q:=by cases c<;>assumption
theorem Z3i {r:List Int} {at':Int} (side:Int) (m:List (Int × Int)) (h1:at' < Z0 r):Zd (Qm at' side m Xi r) (fun _=>True):=by
 unfold Qm
 refine .chk (fun h=>⟨by simpa using h,h1⟩) ?_
 obtain ⟨j,hj⟩:=Z6u (Z1 0 r at')
 refine .bind (fun _=>True) (ifY ⟨j,hj,trivial⟩ (.ret trivial)) fun _ _=>.ret trivial
theorem forms_yields {r:List Int} (hb:Z0 r≤100000):Zd (Z3p Xi r) (fun f=>Z0 f=Z0 r):=by
 have hn:=Zc r
 unfold Z3p
 refine .call rfl (.chk (mkOk hn (by omega) (by omega)) (.cut (fun o=>∃ q,o = .go q∧Z0 q=Z0 r) ?_ ?_))
 · refine .loop (fun x=>0≤x.1∧x.1≤Z0 r∧Z0 x.2=Z0 r) (fun x=>(Z0 r-x.1).toNat) ⟨by dsimp only;omega,hn,Y3 _ hn⟩ ?_
   rintro ⟨v,o⟩ ⟨v0,v1,ho⟩
   dsimp only at v0 v1 ho ⊢
   refine .ite (fun h=>?_) (fun _=>.ret ⟨_,rfl,ho⟩)
   have h:v < Z0 r:=by simpa using h
   refine .bind _ (Z3i 1 _ h) fun a _=>.bind (fun k=>k < Z0 r) (ifY (before_yields hb) (.ret (by omega))) fun b hk=>.bind _ (ifY (Z3i 2 _ hk) (.ret trivial)) fun c _=>?_
   refine .bind _ (Z3i 2 _ h) fun a _=>.bind (fun k=>k < Z0 r) (ifY (after_yields hb) (.ret (by omega))) fun b hk=>.bind _ (ifY (Z3i 1 _ hk) (.ret trivial)) fun c _=>?_
   refine .ite (fun _=>?_) (fun _=>.ite (fun _=>?_) (fun _=>.ite (fun _=>?_) (fun _=>?_))) <;>
    exact .chk ⟨v0,h⟩ (.chk (Zm (by omega) (by omega)) (.ret ⟨⟨by dsimp only;omega,by dsimp only;omega,by simpa using ho⟩,by dsimp only;omega⟩))
 · rintro _ ⟨q,rfl,hq⟩
   exact .go (.ret hq)
theorem lig_yields (x a:Int) (f:Bool):Zd (Z2k x a f) (fun _=>True):=by
 unfold Z2k
 refine .ite (fun _=>.ret trivial) (fun _=>.ite (fun _=>.ite (fun _=>.chk (by decide) (.ret trivial)) (fun _=>.ret trivial)) (fun _=>.ite (fun _=>.ite (fun _=>.chk (by decide) (.ret trivial)) (fun _=>.ret trivial)) (fun _ =>
  .ite (fun _=>.ite (fun _=>.chk (by decide) (.ret trivial)) (fun _=>.ret trivial)) (fun _=>.ite (fun _=>.ite (fun _=>.chk (by decide) (.ret trivial)) (fun _=>.ret trivial)) (fun _=>.ret trivial)))))
theorem glyphs_yields {r ls:List Int} (b:Bool) (hb:Z0 r≤100000):Zd (Z2l Xi r ls b) (fun g=>Z0 g=Z0 r):=by
 have hn:=Zc r
 unfold Z2l
 refine .call (clone_gr (grOk hn (by omega) (by omega))) (.ite (fun _=>.ret rfl) (fun hl=>?_))
 have hl:Z0 r=Z0 ls:=by simpa using hl
 refine .bind _ (forms_yields hb) fun f hf=>.cut (fun o=>∃ q,o = .go q∧Z0 q=Z0 r) ?_ ?_
 · refine .loop (fun x=>0≤x.1∧x.1≤Z0 r∧Z0 x.2=Z0 r) (fun x=>(Z0 r-x.1).toNat) ⟨by dsimp only;omega,hn,rfl⟩ ?_
   rintro ⟨v,o⟩ ⟨v0,v1,ho⟩
   dsimp only at v0 v1 ho ⊢
   refine .ite (fun h=>?_) (fun _=>.ret ⟨_,rfl,ho⟩)
   have h:v < Z0 r:=by simpa using h
   refine .cut (fun o=>∃ q,o = .go q∧Z0 q=Z0 r) ?_ ?_
   · refine .cut (fun o=>∃ q,o = .go q∧Z0 q=Z0 r) ?_ ?_
     · exact .chk ⟨v0,h⟩ (.chk ⟨v0,by omega⟩ (.bind _ (shape_yields _ _) fun _ _=>.chk ⟨v0,h⟩ (.ret ⟨_,rfl,by simpa using ho⟩)))
     · rintro _ ⟨q,rfl,hq⟩
       exact .go (.chk ⟨v0,h⟩ (.ite (fun _=>.chk ⟨v0,by omega⟩ (.bind _ (smirror_yields _ _ _) fun _ _=>.chk ⟨v0,h⟩ (.ret ⟨_,rfl,by simpa using hq⟩))) (fun _=>.ret ⟨_,rfl,hq⟩)))
   · rintro _ ⟨q,rfl,hq⟩
     exact .go (.chk (Zm (by omega) (by omega)) (.ret ⟨⟨by dsimp only;omega,by dsimp only;omega,hq⟩,by dsimp only;omega⟩))
 · rintro _ ⟨q0,rfl,hq0⟩
   refine .go (.cut (fun o=>∃ q,o = .go q∧Z0 q=Z0 r) ?_ ?_)
   · refine .loop (fun x=>0≤x.1∧x.1≤Z0 r∧Z0 x.2=Z0 r) (fun x=>(Z0 r-x.1).toNat) ⟨by dsimp only;omega,hn,hq0⟩ ?_
     rintro ⟨v,o⟩ ⟨v0,v1,ho⟩
     dsimp only at v0 v1 ho ⊢
     refine .ite (fun h=>?_) (fun _=>.ret ⟨_,rfl,ho⟩)
     have h:v < Z0 r:=by simpa using h
     refine .chk ⟨v0,h⟩ (.bind _ (after_yields hb) fun k hk=>.ite (fun _=>.chk (Zm (by omega) (by omega)) (.ret ⟨⟨by dsimp only;omega,by dsimp only;omega,ho⟩,by dsimp only;omega⟩)) (fun hc=>?_))
     have k0:0≤k:=by
      by_cases h1:Z1 0 r v=1604
      · simpa [h1] using hc
      · simp [h1] at hc
     refine .chk ⟨v0,by omega⟩ (.chk (fun _=>⟨v0,by omega⟩) (.chk ⟨k0,hk⟩ (.bind _ (lig_yields _ _ _) fun _ _=>.ite (fun _=>.chk ⟨v0,h⟩ (.chk ⟨k0,hk⟩ (.chk (Zm (by omega) (by omega)) (.ret ⟨⟨by dsimp only;omega,by dsimp only;omega,by simpa using ho⟩,by dsimp only;omega⟩))))
      (fun _=>.chk (Zm (by omega) (by omega)) (.ret ⟨⟨by dsimp only;omega,by dsimp only;omega,ho⟩,by dsimp only;omega⟩)))))
   · rintro _ ⟨q,rfl,hq⟩
     exact .go (.ret hq)
end Go.Vx
end
