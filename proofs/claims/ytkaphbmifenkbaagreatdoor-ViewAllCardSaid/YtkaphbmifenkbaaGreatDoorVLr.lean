/- VN, VLv, VLr in one. No conditions. -/
import Derived.Test.YtkaphbmifenkbaaGreatDoorVPr
import Derived.Test.YtkaphbmifenkbaaGreatDoorVE1
import Derived.Test.YtkaphbmifenkbaaGreatDoorVC
set_option linter.all false
namespace Go.Vx
open Go.Proofs
set_option maxRecDepth 100000
def stf (c:Int):Int:=if c=1 then 1 else if c=2∨c=4∨c=7 then 2 else 0
theorem strong_eq (c:Int):weak_strong c=some (stf c):=by
 unfold weak_strong stf
 by_cases h1:c=1
 · subst h1;rfl
 by_cases h2:c=2
 · subst h2;rfl
 by_cases h4:c=4
 · subst h4;rfl
 by_cases h7:c=7
 · subst h7;rfl
 rw [if_neg h1,if_neg (by omega)]
 have e1:(c == 1)=false:=by simpa using h1
 have e2:(c == 2)=false:=by simpa using h2
 have e4:(c == 4)=false:=by simpa using h4
 have e7:(c == 7)=false:=by simpa using h7
 rw [e1,e2,e4,e7];rfl
def Neu (c:Int):Prop:=c=11∨c=12∨c=13∨c=14∨c=20∨c=21∨c=22∨c=23
instance (c:Int):Decidable (Neu c):=by unfold Neu;infer_instance
theorem neutral_eq (c:Int):weak_neutral c=some (decide (Neu c)):=by
 have k : ∀ b:Bool,b=decide (Neu c)→Yields (contO (fun _:Unit=>(some false:Option Bool)) (if b=true then (.out true:Fl Unit Bool) else .go ())) (fun r=>r=decide (Neu c)):=by
  intro b hb
  cases b
  · exact .go (.ret hb)
  · exact .out hb
 refine Yields.eq ?_
 unfold weak_neutral
 have T : ∀ x:Int,c=x→(x=11∨x=12∨x=13∨x=14∨x=20∨x=21∨x=22∨x=23)→decide (Neu c)=true:=fun x h hx=>decide_eq_true (by subst h;exact hx)
 refine .cut (fun q=>q=if decide (Neu c)=true then (.out true:Fl Unit Bool) else .go ()) ?_ (fun q hq=>by subst hq;exact k _ rfl)
 refine .cut (fun q=>q = .go (decide (Neu c))) ?_ (fun q hq=>by
  subst hq
  refine .go ?_
  cases decide (Neu c)
  · exact .ret rfl
  · exact .ret rfl)
 refine .ite (fun h=>.ret (by rw [h,T 11 (by simpa using h) (by omega)])) (fun h1=>.ite (fun h=>.ret (by rw [h,T 12 (by simpa using h) (by omega)])) (fun h2=>.ite (fun h=>.ret (by rw [h,T 13 (by simpa using h) (by omega)])) (fun h3=>.ite (fun h=>.ret (by rw [h,T 14 (by simpa using h) (by omega)])) (fun h4=>.ite (fun h=>.ret (by rw [h,T 20 (by simpa using h) (by omega)])) (fun h5=>.ite (fun h=>.ret (by rw [h,T 21 (by simpa using h) (by omega)])) (fun h6=>.ite (fun h=>.ret (by rw [h,T 22 (by simpa using h) (by omega)])) (fun h7=>.ret ?_)))))))
 congr 1
 by_cases h:c=23
 · rw [T 23 h (by omega)];simpa using h
 · have e:decide (Neu c)=false:=decide_eq_false (by
    unfold Neu
    simp at h1 h2 h3 h4 h5 h6 h7
    omega)
   rw [e];simpa using h
theorem direction_yields {x:T_weak_line} {p:T_Arr2_i64} (hb:lenL x.fl≤100000) (p0:0≤p.x0) (p1:p.x0 < p.x1) (p2:p.x1≤lenL x.fl) :
  Yields (weak_line__direction x p) (fun c=>c=0∨c=x.fdir∨(c=x.fagainst∧∃ i,0≤i∧i < lenL x.fl∧stf (getL 0 x.fl i)=x.fagainst)):=by
 have hn:=lenL_nn x.fl
 unfold weak_line__direction
 refine .cut (fun q=>(q = .out x.fdir)∨∃ f,q = .go f∧(f=true→∃ i,0≤i∧i < lenL x.fl∧stf (getL 0 x.fl i)=x.fagainst)) ?_ ?_
 · refine .chk (inR64 (by omega) (by omega)) (.chk ⟨by omega,by omega,p2⟩ ?_)
   have hl:lenL (subL x.fl (p.x0+1) p.x1)=p.x1-(p.x0+1):=lenL_sub (by omega) (by omega) p2
   refine .loop (fun (f,v)=>0≤v∧v≤p.x1-(p.x0+1)∧(f=true→∃ i,0≤i∧i < lenL x.fl∧stf (getL 0 x.fl i)=x.fagainst)) (fun q=>(p.x1-(p.x0+1)-q.2).toNat) ⟨by omega,by omega,fun h=>by cases h⟩ ?_
   rintro ⟨f,v⟩ ⟨v0,v1,hf⟩
   refine .ite (fun h=>?_) (fun _=>.ret (.inr ⟨f,rfl,hf⟩))
   have h:v < p.x1-(p.x0+1):=by simpa using h
   refine .chk ⟨v0,by omega⟩ ?_
   simp only
   rw [getL_sub (by omega) v0 (by omega)]
   refine .call (strong_eq _) (.ite (fun _=>.ret (.inl rfl)) (fun _=>.ite (fun ha=>?_) (fun _=>.chk (inR64 (by omega) (by omega)) (.ret ⟨⟨by omega,by omega,hf⟩,by simp only;omega⟩))))
   have ha:stf (getL 0 x.fl (p.x0+1+v))=x.fagainst:=by simpa using ha
   exact .chk (inR64 (by omega) (by omega)) (.ret ⟨⟨by omega,by omega,fun _=>⟨_,by omega,by omega,ha⟩⟩,by simp only;omega⟩)
 · rintro q (rfl | ⟨f,rfl,hf⟩)
   · exact .out (.inr (.inl rfl))
   refine .go (.ite (fun _=>.ret (.inl rfl)) (fun hf2=>?_))
   have hf2:f=true:=by simpa using hf2
   refine .cut (fun q=>∃ a,q = .go a) ?_ ?_
   · refine .chk (inR64 (by omega) (by omega)) ?_
     refine .loop (fun i=>-1≤i∧i < p.x0) (fun i=>(i+1).toNat) ⟨by omega,by omega⟩ ?_
     rintro i ⟨i0,i1⟩
     refine .ite (fun h=>?_) (fun _=>.ret ⟨_,rfl⟩)
     have h:0≤i:=by simpa using h
     refine .chk ⟨h,by omega⟩ (.call (strong_eq _) (.ite (fun _=>.ret ⟨_,rfl⟩) (fun _=>.chk (inR64 (by omega) (by omega)) (.ret ⟨⟨by omega,by omega⟩,by simp only;omega⟩))))
   · rintro q ⟨a,rfl⟩
     exact .go (.ite (fun _=>.ret (.inr (.inr ⟨rfl,hf hf2⟩))) (fun _=>.ret (.inr (.inl rfl))))
theorem n0_yields {x:T_weak_line} {r l:List Int} (hb:lenL x.fl≤100000) (hw:lenL x.fwas=lenL x.fl) (hl:lenL l=lenL x.fl) (hp:PairsP r l x.fpairs) (Q:Int→Prop) (hd:Q x.fdir)
  (hag:Q x.fagainst∨∀ c,Q c→stf c≠x.fagainst) (hq : ∀ i,0≤i→i < lenL x.fl→Q (getL 0 x.fl i)) :
  Yields (n0 x) (fun o=>lenL o=lenL x.fl∧∀ i,0≤i→i < lenL x.fl→Q (getL 0 o i)∧(getL 0 l i≠14→getL 0 x.fwas i≠9→getL 0 o i=getL 0 x.fl i)):=by
 have hn:=lenL_nn x.fl
 have pl:=hp.len
 have pn:=lenL_nn x.fpairs
 unfold n0
 refine .loop (fun (v,o)=>0≤v∧v≤lenL x.fpairs∧lenL o=lenL x.fl∧∀ i,0≤i→i < lenL x.fl→Q (getL 0 o i)∧(getL 0 l i≠14→getL 0 x.fwas i≠9→getL 0 o i=getL 0 x.fl i)) (fun q=>(lenL x.fpairs-q.1).toNat)
  ⟨by omega,pn,rfl,fun i i0 i1=>⟨hq i i0 i1,fun _ _=>rfl⟩⟩ ?_
 rintro ⟨v,o⟩ ⟨v0,v1,ol,og⟩
 refine .ite (fun h=>?_) (fun _=>.ret ⟨ol,og⟩)
 have h:v < lenL x.fpairs:=by simpa using h
 obtain ⟨q0,q1,q2,q3,q4,-,-⟩:=hp.ok _ (getL_mem d_Arr2_i64 v0 h)
 refine .cut (fun q=>∃ o',q = .go o'∧lenL o'=lenL x.fl∧∀ i,0≤i→i < lenL x.fl→Q (getL 0 o' i)∧(getL 0 l i≠14→getL 0 x.fwas i≠9→getL 0 o' i=getL 0 x.fl i)) ?_ ?_
 · refine .chk ⟨v0,h⟩ ?_
   simp only
   generalize getL d_Arr2_i64 x.fpairs v=p at q0 q1 q2 q3 q4
   refine .bind _ (direction_yields (x:=⟨o,x.fwas,x.fsos,x.feos,x.fdir,x.fagainst,x.fpairs⟩) (p:=p) (by simp only;omega) q0 q1 (by simp only;omega)) fun c hc=>?_
   refine .ite (fun _=>.ret ⟨o,rfl,ol,og⟩) (fun hc0=>?_)
   have hc0:c≠0:=by simpa using hc0
   have hQ:Q c:=by
    rcases hc with hc | rfl | ⟨rfl,i,i0,i1,hi⟩
    · exact absurd hc hc0
    · exact hd
    · rcases hag with hag | hag
      · exact hag
      · exact absurd hi (hag _ (og i i0 (by simp only at i1;omega)).1)
   have one : ∀ (at_:Int) (o:List Int),0≤at_→at_ < lenL x.fl→getL 0 l at_=14→lenL o=lenL x.fl→(∀ i,0≤i→i < lenL x.fl→Q (getL 0 o i)∧(getL 0 l i≠14→getL 0 x.fwas i≠9→getL 0 o i=getL 0 x.fl i)) →
     ∀ (γ:Type),Yields (chk (0≤at_∧at_ < (lenL x.fl)) <|
      chk (inR .i64 (at_+1)) <|
      let j3:=(at_+1)
      loopO (fun ((j4,o7):Int × List Int) =>
       chk ((decide (j4 < (lenL x.fl)))=true→0≤j4∧j4 < (lenL x.fwas)) <|
       iteO (if (decide (j4 < (lenL x.fl)))=true then ((getL 0 x.fwas j4) == 9) else false)
        (chk (0≤j4∧j4 < (lenL x.fl)) <|
         chk (inR .i64 (j4+1)) <|
         let j5:=(j4+1)
         some (.go (j5,(setL o7 j4 c))))
        (some (.out (.go o7)))) (j3,(setL o at_ c))) (fun q:Fl (List Int) γ=>∃ o',q = .go o'∧lenL o'=lenL x.fl∧∀ i,0≤i→i < lenL x.fl→Q (getL 0 o' i)∧(getL 0 l i≠14→getL 0 x.fwas i≠9→getL 0 o' i=getL 0 x.fl i)):=by
    intro at_ o a0 a1 h14 ol og γ
    refine .chk ⟨a0,a1⟩ (.chk (inR64 (by omega) (by omega)) ?_)
    refine .loop (fun (j,o)=>0≤j∧j≤lenL x.fl∧lenL o=lenL x.fl∧∀ i,0≤i→i < lenL x.fl→Q (getL 0 o i)∧(getL 0 l i≠14→getL 0 x.fwas i≠9→getL 0 o i=getL 0 x.fl i)) (fun q=>(lenL x.fl-q.1).toNat) ⟨by omega,by omega,by simp [ol],fun i i0 i1=>?_⟩ ?_
    · rw [getL_put a0 i0 (by omega)]
      split
      · rename_i e;subst e;exact ⟨hQ,fun h=>absurd h14 h⟩
      · exact og i i0 i1
    · rintro ⟨j,o⟩ ⟨j0,j1,ol,og⟩
      refine .chk (fun hh=>⟨j0,Int.lt_of_lt_of_le (show j < lenL x.fl by simpa using hh) (by omega)⟩) (.ite (fun hh=>?_) (fun _=>.ret ⟨o,rfl,ol,og⟩))
      have hj:j < lenL x.fl:=by
       by_cases hj:j < lenL x.fl
       · exact hj
       · rw [decide_eq_false hj] at hh;cases hh
      have h9:getL 0 x.fwas j=9:=by
       rw [decide_eq_true hj,if_pos rfl] at hh;simpa using hh
      refine .chk ⟨j0,hj⟩ (.chk (inR64 (by omega) (by omega)) (.ret ⟨⟨by omega,by omega,by simp [ol],fun i i0 i1=>?_⟩,by simp only;omega⟩))
      rw [getL_put j0 i0 (by omega)]
      split
      · rename_i e;subst e;exact ⟨hQ,fun _ h=>absurd h9 h⟩
      · exact og i i0 i1
   refine .cut (fun q=>∃ o',q = .go o'∧lenL o'=lenL x.fl∧∀ i,0≤i→i < lenL x.fl→Q (getL 0 o' i)∧(getL 0 l i≠14→getL 0 x.fwas i≠9→getL 0 o' i=getL 0 x.fl i)) ?_ ?_
   · refine .cut _ (one p.x0 o q0 (by omega) q3 ol og _) ?_
     rintro q ⟨o',rfl,h1,h2⟩
     exact .go (.chk (inR64 (by omega) (by omega)) (.ret ⟨o',rfl,h1,h2⟩))
   rintro q ⟨o2,rfl,ol2,og2⟩
   refine .go ?_
   refine .cut (fun q=>∃ o',q = .go o'∧lenL o'=lenL x.fl∧∀ i,0≤i→i < lenL x.fl→Q (getL 0 o' i)∧(getL 0 l i≠14→getL 0 x.fwas i≠9→getL 0 o' i=getL 0 x.fl i)) ?_ ?_
   · refine .cut _ (one p.x1 o2 (by omega) (by omega) q4 ol2 og2 _) ?_
     rintro q ⟨o',rfl,h1,h2⟩
     exact .go (.chk (inR64 (by omega) (by omega)) (.ret ⟨o',rfl,h1,h2⟩))
   rintro q ⟨o3,rfl,ol3,og3⟩
   exact .go (.ret ⟨o3,rfl,ol3,og3⟩)
 · rintro q ⟨o',rfl,h1,h2⟩
   exact .go (.chk (inR64 (by omega) (by omega)) (.ret ⟨⟨by omega,by omega,h1,h2⟩,by simp only;omega⟩))
theorem n12_yields {x:T_weak_line} (hb:lenL x.fl≤100000) (Q:Int→Prop) (hd:Q x.fdir) (hs:x.fsos≠0→Q x.fsos) (hst : ∀ c,Q c→stf c≠0→Q (stf c)) (hq : ∀ i,0≤i→i < lenL x.fl→Q (getL 0 x.fl i)) :
  Yields (n12 x) (fun o=>lenL o=lenL x.fl∧∀ i,0≤i→i < lenL x.fl→Q (getL 0 o i)∧(¬ Neu (getL 0 x.fl i)→getL 0 o i=getL 0 x.fl i)):=by
 have hn:=lenL_nn x.fl
 unfold n12
 refine .loop (fun (i,o)=>0≤i∧i≤lenL x.fl∧lenL o=lenL x.fl∧(∀ k,0≤k→k < lenL x.fl→Q (getL 0 o k)∧(¬ Neu (getL 0 x.fl k)→getL 0 o k=getL 0 x.fl k))∧∀ k,i≤k→k < lenL x.fl→getL 0 o k=getL 0 x.fl k) (fun q=>(lenL x.fl-q.1).toNat)
  ⟨by omega,hn,rfl,fun i i0 i1=>⟨hq i i0 i1,fun _=>rfl⟩,fun _ _ _=>rfl⟩ ?_
 rintro ⟨i,o⟩ ⟨i0,i1,ol,og,orr⟩
 refine .ite (fun h=>?_) (fun _=>.ret ⟨ol,og⟩)
 have h:i < lenL x.fl:=by simpa using h
 refine .chk ⟨i0,h⟩ ?_
 simp only [Int.zero_add]
 refine .call (neutral_eq _) (.ite (fun hnn=>.chk (inR64 (by omega) (by omega)) (.ret ⟨⟨by omega,by omega,ol,og,fun k k0 k1=>orr k (by omega) k1⟩,by simp only;omega⟩)) (fun hnn=>?_))
 have hnn:Neu (getL 0 o i):=by simpa using hnn
 refine .cut (fun q=>∃ e,q = .go e∧i < e∧e≤lenL x.fl∧∀ k,i≤k→k < e→Neu (getL 0 x.fl k)) ?_ ?_
 · refine .loop (fun e=>i≤e∧e≤lenL x.fl∧∀ k,i≤k→k < e→Neu (getL 0 x.fl k)) (fun e=>(lenL x.fl-e).toNat) ⟨by omega,i1,fun k k0 k1=>by omega⟩ ?_
   rintro e ⟨e0,e1,eg⟩
   by_cases he:e < lenL x.fl
   · rw [decide_eq_true he]
     refine .chk (fun _=>⟨by omega,he⟩) ?_
     rw [if_pos rfl]
     refine .call (neutral_eq _) ?_
     rw [if_pos rfl]
     refine .ite (fun hh=>?_) (fun hh=>?_)
     · have hh:Neu (getL 0 o e):=by simpa using hh
       rw [orr e e0 he] at hh
       refine .chk (inR64 (by omega) (by omega)) (.ret ⟨⟨by omega,by omega,fun k k0 k1=>?_⟩,by simp only;omega⟩)
       by_cases w:k=e
       · subst w;exact hh
       · exact eg k k0 (by omega)
     · refine .ret ⟨e,rfl,?_,e1,eg⟩
       by_cases w:e=i
       · exfalso;subst w
         simp [hnn] at hh
       · omega
   · rw [decide_eq_false he]
     refine .chk (fun hh=>by cases hh) ?_
     refine .call (b:=false) rfl ?_
     exact .ite (fun hh=>by cases hh) (fun _=>.ret ⟨e,rfl,by omega,e1,eg⟩)
 rintro q ⟨e,rfl,e0,e1,eg⟩
 refine .go ?_
 refine .cut (fun q=>∃ a,q = .go a∧(a≠0→Q a)) ?_ ?_
 · refine .ite (fun hi=>?_) (fun _=>.ret ⟨_,rfl,hs⟩)
   have hi:0 < i:=by simpa using hi
   exact .chk (inR64 (by omega) (by omega)) (.chk ⟨by omega,by omega⟩ (.call (strong_eq _) (.ret ⟨_,rfl,hst _ (og (i-1) (by omega) (by omega)).1⟩)))
 rintro q ⟨a,rfl,ha⟩
 refine .go ?_
 refine .cut (fun q=>∃ a,q = .go a) ?_ ?_
 · refine .ite (fun hi=>?_) (fun _=>.ret ⟨_,rfl⟩)
   have hi:e < lenL x.fl:=by simpa using hi
   exact .chk ⟨by omega,hi⟩ (.call (strong_eq _) (.ret ⟨_,rfl⟩))
 rintro q ⟨b,rfl⟩
 refine .go ?_
 refine .cut (fun q=>∃ a,q = .go a∧Q a) ?_ ?_
 · refine .ite (fun hi=>.ret ⟨_,rfl,ha ?_⟩) (fun _=>.ret ⟨_,rfl,hd⟩)
   intro h0
   subst h0
   by_cases hb:(0:Int)=b<;>simp [hb] at hi
 rintro q ⟨c,rfl,hc⟩
 refine .go ?_
 refine .loop (fun (k,o)=>i≤k∧k≤e∧lenL o=lenL x.fl∧(∀ k,0≤k→k < lenL x.fl→Q (getL 0 o k)∧(¬ Neu (getL 0 x.fl k)→getL 0 o k=getL 0 x.fl k))∧∀ k,e≤k→k < lenL x.fl→getL 0 o k=getL 0 x.fl k) (fun q=>(e-q.1).toNat)
  ⟨by omega,by omega,ol,og,fun k k0 k1=>orr k (by omega) k1⟩ ?_
 rintro ⟨k,o⟩ ⟨k0,k1,ol,og,orr⟩
 refine .ite (fun hk=>?_) (fun hk=>?_)
 · have hk:k < e:=by simpa using hk
   refine .chk ⟨by omega,by omega⟩ (.chk (inR64 (by omega) (by omega)) (.ret ⟨⟨by omega,by omega,by simp [ol],fun z z0 z1=>?_,fun z z0 z1=>?_⟩,by simp only;omega⟩))
   · simp only
     rw [getL_put (by omega) z0 (by omega)]
     split
     · rename_i w;subst w;exact ⟨hc,fun hh=>absurd (eg z k0 hk) hh⟩
     · exact og z z0 z1
   · simp only
     rw [getL_put (by omega) (by omega) (by omega),if_neg (by omega)];exact orr z z0 z1
 · have hk:e≤k:=by simpa using hk
   exact .ret ⟨⟨by omega,by omega,ol,og,fun z z0 z1=>orr z (by omega) z1⟩,by simp only;omega⟩
end Go.Vx
namespace Go.Vx
open Go.Proofs
set_option maxRecDepth 100000
theorem pick_yields {l seq:List Int} (hb:lenL seq≤100000) (hs : ∀ j,0≤j→j < lenL seq→0≤getL 0 seq j∧getL 0 seq j < lenL l) :
  Yields (weak_pick l seq) (fun o=>lenL o=lenL seq∧∀ j,0≤j→j < lenL seq→getL 0 o j=getL 0 l (getL 0 seq j)):=by
 have hn:=lenL_nn seq
 unfold weak_pick
 refine .chk (mkOk hn (by omega) (by omega)) ?_
 refine .cut (fun q=>∃ o,q = .go o∧lenL o=lenL seq∧∀ j,0≤j→j < lenL seq→getL 0 o j=getL 0 l (getL 0 seq j)) ?_ (fun q hq=>by obtain ⟨o,rfl,h⟩:=hq;exact .go (.ret h))
 refine .loop (fun (v,o)=>0≤v∧v≤lenL seq∧lenL o=lenL seq∧∀ j,0≤j→j < v→getL 0 o j=getL 0 l (getL 0 seq j)) (fun x=>(lenL seq-x.1).toNat) ⟨by omega,hn,lenL_rep _ hn,fun j j0 j1=>by omega⟩ ?_
 rintro ⟨v,o⟩ ⟨v0,v1,ol,og⟩
 refine .ite (fun h=>?_) (fun h=>?_)
 · have h:v < lenL seq:=by simpa using h
   refine .chk ⟨v0,h⟩ (.chk (hs v v0 h) (.chk ⟨v0,h⟩ (.chk (inR64 (by omega) (by omega)) (.ret ⟨⟨by omega,by omega,by simp [ol],fun j j0 j1=>?_⟩,by simp only;omega⟩))))
   rw [getL_put v0 j0 (by omega)]
   split
   · rename_i e;rw [e]
   · exact og j j0 (by omega)
 · have h:lenL seq≤v:=by simpa using h
   exact .ret ⟨o,rfl,ol,fun j j0 j1=>og j j0 (by omega)⟩
theorem classes_yields {r:List Int} (hb:lenL r≤100000):Yields (weak_classes dLoad r) (fun o=>lenL o=lenL r∧∀ j,0≤j→j < lenL r→getL 0 o j=clsL (getL 0 r j)):=by
 have hn:=lenL_nn r
 unfold weak_classes
 refine .chk (mkOk hn (by omega) (by omega)) ?_
 refine .cut (fun q=>∃ o,q = .go o∧lenL o=lenL r∧∀ j,0≤j→j < lenL r→getL 0 o j=clsL (getL 0 r j)) ?_ (fun q hq=>by obtain ⟨o,rfl,h⟩:=hq;exact .go (.ret h))
 refine .loop (fun (v,o)=>0≤v∧v≤lenL r∧lenL o=lenL r∧∀ j,0≤j→j < v→getL 0 o j=clsL (getL 0 r j)) (fun x=>(lenL r-x.1).toNat) ⟨by omega,hn,lenL_rep _ hn,fun j j0 j1=>by omega⟩ ?_
 rintro ⟨v,o⟩ ⟨v0,v1,ol,og⟩
 refine .ite (fun h=>?_) (fun h=>?_)
 · have h:v < lenL r:=by simpa using h
   refine .chk ⟨v0,h⟩ (.call (class_L _) (.chk ⟨v0,h⟩ (.chk (inR64 (by omega) (by omega)) (.ret ⟨⟨by omega,by omega,by simp [ol],fun j j0 j1=>?_⟩,by simp only;omega⟩))))
   rw [getL_put v0 j0 (by omega)]
   split
   · rename_i e;rw [e]
   · exact og j j0 (by omega)
 · have h:lenL r≤v:=by simpa using h
   exact .ret ⟨o,rfl,ol,fun j j0 j1=>og j j0 (by omega)⟩
theorem side_yields (x:Int):Yields (embed_side x) (fun s=>(s=1∨s=2)∧(x=0→s=1)):=by
 unfold embed_side
 refine .ite (fun h=>.ret ⟨.inr rfl,fun hx=>?_⟩) (fun _=>.ret ⟨.inl rfl,fun _=>rfl⟩)
 subst hx
 have:bndI .i64 0 1=1:=by simpa using h
 have h2:bndI .i64 0 1=0 % 2:=bnd_mask 0 1 (by omega)
 omega
theorem max0 {a b:Int} (ha:a=0) (hb:b=0):imaxI a b=0:=by subst ha;subst hb;rfl
theorem edges_yields {l seq:List Int} {R:T_embed_Run} {base b:Int} (hb:lenL l≤100000) (n1:lenL R.fLevels=lenL l) (n2:lenL R.fClasses=lenL l) (n3:lenL R.fRemoved=lenL l) (hp:embed_parity base=some b)
  (s0:0 < lenL seq) (s1:lenL seq≤lenL l) (hs : ∀ j,0≤j→j < lenL seq→0≤getL 0 seq j∧getL 0 seq j < lenL l) :
  Yields (embed_Edges l R base seq) (fun e=>(e.1=1∨e.1=2)∧(e.2=1∨e.2=2)∧(b=0→(∀ i,0≤i→i < lenL l→getL 0 R.fLevels i=0)→e.1=1∧e.2=1)):=by
 have hn:=lenL_nn l
 unfold embed_Edges
 refine .call (b:=true) (by unfold embed_fits;simp [n1,n2,n3]) ?_
 refine .ite (fun h=>?_) (fun _=>?_)
 · exfalso
   have:lenL seq=0:=by simpa using h
   omega
 refine .cut (fun q=>q = .go ()) ?_ ?_
 · refine .loop (fun v=>0≤v∧v≤lenL seq) (fun v=>(lenL seq-v).toNat) ⟨by omega,by omega⟩ ?_
   rintro v ⟨v0,v1⟩
   refine .ite (fun h=>?_) (fun _=>.ret rfl)
   have h:v < lenL seq:=by simpa using h
   have:=hs v v0 h
   refine .chk ⟨v0,h⟩ ?_
   refine .ite (fun hh=>?_) (fun _=>.chk (inR64 (by omega) (by omega)) (.ret ⟨⟨by omega,by omega⟩,by simp only;omega⟩))
   exfalso
   rw [decide_eq_false (by omega),decide_eq_false (by omega)] at hh;cases hh
 rintro q rfl
 refine .go (.chk ⟨by omega,s0⟩ (.chk (inR64 (by omega) (by omega)) (.chk ⟨by omega,by omega⟩ ?_)))
 have hf:=hs 0 (by omega) s0
 have hl:=hs (lenL seq-1) (by omega) (by omega)
 simp only
 generalize getL 0 seq 0=first at hf ⊢
 generalize getL 0 seq (lenL seq-1)=last at hl ⊢
 refine .call hp (.call hp ?_)
 refine .cut (fun q=>∃ a,q = .go a∧(b=0→(∀ i,0≤i→i < lenL l→getL 0 R.fLevels i=0)→a=0)) ?_ ?_
 · refine .chk (inR64 (by omega) (by omega)) ?_
   refine .loop (fun i=>-1≤i∧i < lenL l) (fun i=>(i+1).toNat) ⟨by omega,by omega⟩ ?_
   rintro i ⟨i0,i1⟩
   refine .ite (fun h=>?_) (fun _=>.ret ⟨b,rfl,fun h _=>h⟩)
   have h:0≤i:=by simpa using h
   refine .chk ⟨h,by omega⟩ (.ite (fun _=>.chk ⟨h,by omega⟩ (.ret ⟨_,rfl,fun _ hz=>hz i h i1⟩)) (fun _=>.chk (inR64 (by omega) (by omega)) (.ret ⟨⟨by omega,by omega⟩,by simp only;omega⟩)))
 rintro q ⟨a,rfl,ha⟩
 refine .go ?_
 refine .cut (fun q=>∃ a,q = .go a∧(b=0→(∀ i,0≤i→i < lenL l→getL 0 R.fLevels i=0)→a=0)) ?_ ?_
 · refine .chk hl ?_
   have iso : ∃ v,embed_isolate (getL 0 l last)=some v:=by unfold embed_isolate;exact ⟨_,rfl⟩
   obtain ⟨v,hv⟩:=iso
   refine .call hv ?_
   have fin:Yields (loopO (fun (i1:Int) =>
     iteO (decide (i1 < (lenL l)))
      (chk (0≤i1∧i1 < (lenL R.fRemoved)) <|
       iteO (!(getL false R.fRemoved i1))
        (chk (0≤i1∧i1 < (lenL R.fLevels)) <|
         let behind1:=(getL 0 R.fLevels i1)
         some (.out (.go behind1)))
        (chk (inR .i64 (i1+1)) <|
         let i2:=(i1+1)
         some (.go i2)))
      (some (.out (.go b)))) (last+1)) (fun q:Fl Int (Int × Int)=>∃ a,q = .go a∧(b=0→(∀ i,0≤i→i < lenL l→getL 0 R.fLevels i=0)→a=0)):=by
    refine .loop (fun i=>0≤i∧i≤lenL l) (fun i=>(lenL l-i).toNat) ⟨by omega,by omega⟩ ?_
    rintro i ⟨i0,i1⟩
    refine .ite (fun h=>?_) (fun _=>.ret ⟨b,rfl,fun h _=>h⟩)
    have h:i < lenL l:=by simpa using h
    refine .chk ⟨i0,by omega⟩ (.ite (fun _=>.chk ⟨i0,by omega⟩ (.ret ⟨_,rfl,fun _ hz=>hz i i0 h⟩)) (fun _=>.chk (inR64 (by omega) (by omega)) (.ret ⟨⟨by omega,by omega⟩,by simp only;omega⟩)))
   cases v with
   | false =>
    refine .call (b:=[]) rfl (.chk (fun h=>by cases h) (.ite (fun _=>.chk (inR64 (by omega) (by omega)) fin) (fun h=>by cases h)))
   | true =>
    refine .bind _ (match_yields hb) fun mt hm=>?_
    have ml:=hm.1
    refine .chk (fun _=>⟨hl.1,by omega⟩) (.ite (fun _=>.chk (inR64 (by omega) (by omega)) fin) (fun _=>.ret ⟨b,rfl,fun h _=>h⟩))
 rintro q ⟨c,rfl,hc⟩
 refine .go (.chk ⟨hf.1,by omega⟩ ?_)
 refine .bind _ (side_yields _) fun s1 h1=>.bind _ (side_yields _) fun s2 h2=>.ret ⟨h1.1,h2.1,fun hb0 hz=>?_⟩
 have:=hz first hf.1 hf.2
 exact ⟨h1.2 (max0 this (ha hb0 hz)),h2.2 (max0 this (hc hb0 hz))⟩
theorem neutral_yields {r was l:List Int} {level sos eos:Int} (hb:lenL l≤100000) (hr:lenL r=lenL l) (hw:lenL was=lenL l) (hs:sos=1∨sos=2) :
  Yields (weak_Neutral dLoad r was l level sos eos) (fun o=>lenL o=lenL l∧(∀ i,0≤i→i < lenL l→(getL 0 l i=1∨getL 0 l i=2∨getL 0 l i=4∨getL 0 l i=7)→getL 0 was i≠9→getL 0 o i=getL 0 l i)
  ∧(level=0→sos=1→(∀ i,0≤i→i < lenL l→getL 0 l i≠2∧getL 0 l i≠4∧getL 0 l i≠7)→∀ i,0≤i→i < lenL l→getL 0 o i≠2∧getL 0 o i≠4∧getL 0 o i≠7)):=by
 have hn:=lenL_nn l
 unfold weak_Neutral
 refine .call (clone_eq l hb) (.ite (fun h=>by simp [hr,hw] at h) (fun _=>?_))
 refine .bind _ (pairs_yields (r:=r) (l:=l) hb) fun p hp=>?_
 have hp:=hp.1
 refine .cut (fun q=>∃ d a,q = .go (d,a)∧(d=1∧a=2∨d=2∧a=1)∧(level=0→d=1∧a=2)) ?_ ?_
 · refine .ite (fun h=>.ret ⟨2,1,rfl,.inr ⟨rfl,rfl⟩,fun h0=>?_⟩) (fun _=>.ret ⟨1,2,rfl,.inl ⟨rfl,rfl⟩,fun _=>⟨rfl,rfl⟩⟩)
   subst h0
   have:bndI .i64 0 1=1:=by simpa using h
   have h2:bndI .i64 0 1=0 % 2:=bnd_mask 0 1 (by omega)
   omega
 rintro q ⟨d,a,rfl,hda,h0⟩
 refine .go ?_
 refine .cut (fun q=>∃ o,q = .go o∧lenL o=lenL l∧(∀ i,0≤i→i < lenL l→(getL 0 l i=1∨getL 0 l i=2∨getL 0 l i=4∨getL 0 l i=7)→getL 0 was i≠9→getL 0 o i=getL 0 l i)
 ∧(level=0→sos=1→(∀ i,0≤i→i < lenL l→getL 0 l i≠2∧getL 0 l i≠4∧getL 0 l i≠7)→∀ i,0≤i→i < lenL l→getL 0 o i≠2∧getL 0 o i≠4∧getL 0 o i≠7)) ?_ (fun q hq=>by obtain ⟨o,rfl,h⟩:=hq;exact .go (.ret h))
 let Q:Int→Prop:=fun x=>level=0→sos=1→(∀ i,0≤i→i < lenL l→getL 0 l i≠2∧getL 0 l i≠4∧getL 0 l i≠7)→x≠2∧x≠4∧x≠7
 have Qd:Q d:=fun h _ _=>by have:=h0 h;omega
 have hQl : ∀ i,0≤i→i < lenL l→Q (getL 0 l i):=fun i i0 i1 _ _ h=>h i i0 i1
 by_cases hpl:level=0∧sos=1∧∀ i,0≤i→i < lenL l→getL 0 l i≠2∧getL 0 l i≠4∧getL 0 l i≠7
 · have hd1:=h0 hpl.1
   have hQ : ∀ x,Q x→x≠2∧x≠4∧x≠7:=fun x h=>h hpl.1 hpl.2.1 hpl.2.2
   have hst : ∀ c,Q c→stf c≠2:=fun c h=>by have:=hQ c h;unfold stf;split<;>(try split)<;>omega
   obtain ⟨o1,e1,l1,g1⟩:=n0_yields (x:=⟨l,was,sos,eos,d,a,p⟩) (r:=r) (l:=l) hb hw rfl hp Q Qd (.inr fun c hc=>by have:=hst c hc;simp only;omega) hQl
   obtain ⟨o2,e2,l2,g2⟩:=n12_yields (x:=⟨o1,was,sos,eos,d,a,p⟩) (by simp only at l1 ⊢;omega) Q Qd (fun _ _ _ _=>by have:=hpl.2.1;simp only;omega) (fun c hc hne _ _ _=>by have:=hst c hc;unfold stf at *;split<;>(try split)<;>omega) (fun i i0 i1=>(g1 i i0 (by simp only at i1 l1 ⊢;omega)).1)
   simp only at l1 l2 g1 g2
   refine .cut (fun q=>q = .go o1) ?_ ?_
   · refine .cut (fun q=>q = .go o1) (.cut (fun q=>q = .go ()) (.chk (by omega) (.ret rfl)) (fun q hq=>by subst hq;exact .go (.call e1 (.chk l1 (.ret rfl))))) (fun q hq=>by subst hq;exact .go (.chk (inR64 (by omega) (by omega)) (.ret rfl)))
   rintro q rfl
   refine .go ?_
   refine .cut (fun q=>q = .go o2) ?_ ?_
   · refine .cut (fun q=>q = .go o2) (.cut (fun q=>q = .go ()) (.chk (by omega) (.ret rfl)) (fun q hq=>by subst hq;exact .go (.call e2 (.chk l2 (.ret rfl))))) (fun q hq=>by subst hq;exact .go (.chk (inR64 (by omega) (by omega)) (.ret rfl)))
   rintro q rfl
   refine .go (.ret ⟨o2,rfl,by omega,fun i i0 i1 hh h9=>?_,fun _ _ _ i i0 i1=>hQ _ (g2 i i0 (by omega)).1⟩)
   have k1:=(g1 i i0 i1).2 (by omega) h9
   rw [(g2 i i0 (by omega)).2 (by rw [k1];unfold Neu;omega),k1]
 · obtain ⟨o1,e1,l1,g1⟩:=n0_yields (x:=⟨l,was,sos,eos,d,a,p⟩) (r:=r) (l:=l) hb hw rfl hp (fun _=>True) trivial (.inl trivial) (fun _ _ _=>trivial)
   obtain ⟨o2,e2,l2,g2⟩:=n12_yields (x:=⟨o1,was,sos,eos,d,a,p⟩) (by simp only at l1 ⊢;omega) (fun _=>True) trivial (fun _=>trivial) (fun _ _ _=>trivial) (fun _ _ _=>trivial)
   simp only at l1 l2 g1 g2
   refine .cut (fun q=>q = .go o1) ?_ ?_
   · refine .cut (fun q=>q = .go o1) (.cut (fun q=>q = .go ()) (.chk (by omega) (.ret rfl)) (fun q hq=>by subst hq;exact .go (.call e1 (.chk l1 (.ret rfl))))) (fun q hq=>by subst hq;exact .go (.chk (inR64 (by omega) (by omega)) (.ret rfl)))
   rintro q rfl
   refine .go ?_
   refine .cut (fun q=>q = .go o2) ?_ ?_
   · refine .cut (fun q=>q = .go o2) (.cut (fun q=>q = .go ()) (.chk (by omega) (.ret rfl)) (fun q hq=>by subst hq;exact .go (.call e2 (.chk l2 (.ret rfl))))) (fun q hq=>by subst hq;exact .go (.chk (inR64 (by omega) (by omega)) (.ret rfl)))
   rintro q rfl
   refine .go (.ret ⟨o2,rfl,by omega,fun i i0 i1 hh h9=>?_,fun h1 h2 h3=>absurd ⟨h1,h2,h3⟩ hpl⟩)
   have k1:=(g1 i i0 i1).2 (by omega) h9
   rw [(g2 i i0 (by omega)).2 (by rw [k1];unfold Neu;omega),k1]
end Go.Vx
namespace Go.Vx
open Go.Proofs
set_option maxRecDepth 100000
def SeqOk (r l:List Int) (R:T_embed_Run) (base:Int) (G:Int→Int→Prop) (seq:List Int):Prop :=
 ∃ was e rr w now,weak_pick R.fClasses seq=some was∧embed_Edges l R base seq=some e∧weak_pick r seq=some rr∧weak_Weak was e.1=some w ∧
  weak_Neutral dLoad rr was w (getL 0 R.fLevels (getL 0 seq 0)) e.1 e.2=some now∧lenL now=lenL seq ∧
  ∀ j,0≤j→j < lenL seq→∃ y,weak_Implicit (getL 0 now j) (getL 0 R.fLevels (getL 0 seq 0))=some y∧G (getL 0 seq j) y
theorem levels_rule {r l:List Int} {base a0:Int} {R:T_embed_Run} {S:List (List Int)} (hb:lenL l≤100000) (hE:embed_Explicit l base=some R) (hS:embed_Sequences l R base=some S) (n1:lenL R.fLevels=lenL l) (n3:lenL R.fRemoved=lenL l)
  (hSn:lenL S≤lenL l) (hs : ∀ k,0≤k→k < lenL S→0 < lenL (getL [] S k)∧lenL (getL [] S k)≤lenL l∧∀ j,0≤j→j < lenL (getL [] S k)→0≤getL 0 (getL [] S k) j∧getL 0 (getL [] S k) j < lenL l)
  (B:Int→Prop) (G:Int→Int→Prop) (hB0 : ∀ x,0≤x→x < lenL l→B (getL 0 R.fLevels x)) (hGB : ∀ x y,G x y→B y) (ha:Int.tmod (imaxI base 0) 2=a0) (hBa:B a0)
  (hq : ∀ k,0≤k→k < lenL S→SeqOk r l R base G (getL [] S k)) :
  Yields (weak_levels dLoad r l base) (fun o=>lenL o=lenL l∧∀ x,0≤x→x < lenL l→B (getL 0 o x)∧(getL false R.fRemoved x=false→(∃ k j,0≤k∧k < lenL S∧0≤j∧j < lenL (getL [] S k)∧getL 0 (getL [] S k) j=x)→G x (getL 0 o x))):=by
 have hn:=lenL_nn l
 have sn:=lenL_nn S
 unfold weak_levels
 refine .call hE (.call (clone_eq _ (by omega)) ?_)
 refine .cut (fun q=>∃ o,q = .go o∧lenL o=lenL l∧(∀ x,0≤x→x < lenL l→B (getL 0 o x))∧∀ x,(∃ k j,0≤k∧k < lenL S∧0≤j∧j < lenL (getL [] S k)∧getL 0 (getL [] S k) j=x)→G x (getL 0 o x)) ?_ ?_
 · refine .call hS ?_
   refine .loop (fun (v,o)=>0≤v∧v≤lenL S∧lenL o=lenL l∧(∀ x,0≤x→x < lenL l→B (getL 0 o x))∧∀ x,(∃ k j,0≤k∧k < v∧0≤j∧j < lenL (getL [] S k)∧getL 0 (getL [] S k) j=x)→G x (getL 0 o x)) (fun q=>(lenL S-q.1).toNat)
    ⟨by omega,sn,n1,hB0,fun x ⟨k,j,k0,k1,_⟩=>by omega⟩ ?_
   rintro ⟨v,o⟩ ⟨v0,v1,ol,ob,og⟩
   refine .ite (fun h=>?_) (fun h=>?_)
   · have h:v < lenL S:=by simpa using h
     obtain ⟨s0,s1,s2⟩:=hs v v0 h
     obtain ⟨was,e,rr,w,now,c1,c2,c3,c4,c5,c6,c7⟩:=hq v v0 h
     refine .cut (fun q=>∃ o,q = .go o∧lenL o=lenL l∧(∀ x,0≤x→x < lenL l→B (getL 0 o x))∧∀ x,(∃ k j,0≤k∧k < v+1∧0≤j∧j < lenL (getL [] S k)∧getL 0 (getL [] S k) j=x)→G x (getL 0 o x)) ?_ ?_
     · refine .chk ⟨v0,h⟩ ?_
       simp only [Int.zero_add]
       refine .call c1 (.chk ⟨by omega,s0⟩ (.chk ?_ ?_))
       · have:=s2 0 (by omega) s0;omega
       refine .call c2 (.call c3 (.call c4 (.call c5 ?_)))
       have hsv : ∀ x,(∃ j,0≤j∧j < lenL (getL [] S v)∧getL 0 (getL [] S v) j=x)→0≤x∧x < lenL l:=fun x ⟨j,j0,j1,e⟩=>by have:=s2 j j0 j1;omega
       have hidx : ∀ x k j,k < v+1→¬ k < v→0≤k→0≤j→j < lenL (getL [] S k)→getL 0 (getL [] S k) j=x→(∃ j,0≤j∧j < lenL (getL [] S v)∧getL 0 (getL [] S v) j=x):=fun x k j h1 h2 h3 h4 h5 h6=>by
        have:k=v:=by omega
        subst this;exact ⟨j,h4,h5,h6⟩
       generalize getL [] S v=seq at *
       generalize getL 0 R.fLevels (getL 0 seq 0)=lev at *
       refine .loop (fun (j,o)=>0≤j∧j≤lenL seq∧lenL o=lenL l∧(∀ x,0≤x→x < lenL l→B (getL 0 o x))∧(∀ x,(∃ k j,0≤k∧k < v∧0≤j∧j < lenL (getL [] S k)∧getL 0 (getL [] S k) j=x)→G x (getL 0 o x))∧∀ x,(∃ j',0≤j'∧j' < j∧getL 0 seq j'=x)→G x (getL 0 o x)) (fun q=>(lenL seq-q.1).toNat)
        ⟨by omega,by omega,ol,ob,og,fun x ⟨j',q0,q1,_⟩=>by omega⟩ ?_
       rintro ⟨j,o⟩ ⟨j0,j1,ol,ob,og,oh⟩
       simp only
       refine .ite (fun hj=>?_) (fun hj=>?_)
       · have hj:j < lenL seq:=by simpa using hj
         obtain ⟨y,hy,gy⟩:=c7 j j0 hj
         have hx:=s2 j j0 hj
         refine .chk ⟨j0,hj⟩ (.chk ⟨j0,by omega⟩ ?_)
         refine .call hy (.chk ⟨hx.1,by omega⟩ (.chk (inR64 (by omega) (by omega)) (.ret ⟨⟨by omega,by omega,by simp [ol],fun x x0 x1=>?_,fun x hk=>?_,fun x hk=>?_⟩,by simp only;omega⟩)))
         · simp only
           rw [getL_put hx.1 x0 (by omega)]
           split
           · exact hGB _ _ gy
           · exact ob x x0 x1
         · simp only
           have hxx:=og x hk
           obtain ⟨k,j',k0,k1,q0,q1,e⟩:=hk
           have hr:=(hs k k0 (by omega)).2.2 j' q0 q1
           rw [getL_put hx.1 (by omega) (by omega)]
           split
           · rename_i e2;rw [e2];exact gy
           · exact hxx
         · obtain ⟨j',q0,q1,e⟩:=hk
           simp only at q1 ⊢
           have hr:=s2 j' q0 (by omega)
           rw [getL_put hx.1 (by omega) (by omega)]
           split
           · rename_i e2;rw [e2];exact gy
           · rename_i e2
             have:j'≠j:=fun h=>e2 (by rw [← e,h])
             exact oh x ⟨j',q0,by omega,e⟩
       · have hj:lenL seq≤j:=by simpa using hj
         refine .ret ⟨o,rfl,ol,ob,fun x ⟨k,j',k0,k1,q0,q1,e⟩=>?_⟩
         by_cases hk:k < v
         · exact og x ⟨k,j',k0,hk,q0,q1,e⟩
         · obtain ⟨j2,a1,a2,a3⟩:=hidx x k j' k1 hk k0 q0 q1 e
           exact oh x ⟨j2,a1,by omega,a3⟩
     · rintro q ⟨o,rfl,h1,h2,h3⟩
       exact .go (.chk (inR64 (by omega) (by omega)) (.ret ⟨⟨by omega,by omega,h1,h2,h3⟩,by simp only;omega⟩))
   · have h:lenL S≤v:=by simpa using h
     exact .ret ⟨o,rfl,ol,ob,fun x ⟨k,j,k0,k1,hh⟩=>og x ⟨k,j,k0,by omega,hh⟩⟩
 rintro q ⟨o,rfl,ol,ob,og⟩
 refine .go (.chk (by decide) ?_)
 simp only [ha]
 refine .cut (fun q=>∃ o,q = .go o∧lenL o=lenL l∧∀ x,0≤x→x < lenL l→B (getL 0 o x)∧(getL false R.fRemoved x=false→(∃ k j,0≤k∧k < lenL S∧0≤j∧j < lenL (getL [] S k)∧getL 0 (getL [] S k) j=x)→G x (getL 0 o x))) ?_ (fun q hq=>by obtain ⟨o,rfl,h⟩:=hq;exact .go (.ret h))
 refine .loop (fun (a,v,o)=>B a∧0≤v∧v≤lenL l∧lenL o=lenL l∧∀ x,0≤x→x < lenL l→B (getL 0 o x)∧(getL false R.fRemoved x=false→(∃ k j,0≤k∧k < lenL S∧0≤j∧j < lenL (getL [] S k)∧getL 0 (getL [] S k) j=x)→G x (getL 0 o x))) (fun q=>(lenL l-q.2.1).toNat)
  ⟨hBa,by omega,hn,ol,fun x x0 x1=>⟨ob x x0 x1,fun _ hx=>og x hx⟩⟩ ?_
 rintro ⟨a,v,o⟩ ⟨ba,v0,v1,ol,og⟩
 simp only
 refine .ite (fun h=>?_) (fun _=>.ret ⟨o,rfl,ol,og⟩)
 have h:v < lenL l:=by rw [n3] at h;simpa using h
 refine .cut (fun q=>∃ a o,q = .go (a,o)∧B a∧lenL o=lenL l∧∀ x,0≤x→x < lenL l→B (getL 0 o x)∧(getL false R.fRemoved x=false→(∃ k j,0≤k∧k < lenL S∧0≤j∧j < lenL (getL [] S k)∧getL 0 (getL [] S k) j=x)→G x (getL 0 o x))) ?_ ?_
 · refine .chk ⟨v0,by omega⟩ ?_
   refine .cut (fun q=>∃ o,q = .go o∧lenL o=lenL l∧∀ x,0≤x→x < lenL l→B (getL 0 o x)∧(getL false R.fRemoved x=false→(∃ k j,0≤k∧k < lenL S∧0≤j∧j < lenL (getL [] S k)∧getL 0 (getL [] S k) j=x)→G x (getL 0 o x))) ?_ ?_
   · refine .ite (fun hg=>?_) (fun _=>.ret ⟨o,rfl,ol,og⟩)
     refine .chk ⟨v0,by omega⟩ (.ret ⟨_,rfl,by simp [ol],fun x x0 x1=>?_⟩)
     rw [getL_put v0 x0 (by omega)]
     split
     · rename_i e;subst e;exact ⟨ba,fun hf=>by rw [hf] at hg;cases hg⟩
     · exact og x x0 x1
   · rintro q ⟨o,rfl,ol,og⟩
     simp only [Int.zero_add]
     exact .go (.chk ⟨v0,by omega⟩ (.ret ⟨_,o,rfl,(og v v0 h).1,ol,og⟩))
 · rintro q ⟨a,o,rfl,h1,h2,h3⟩
   exact .go (.chk (inR64 (by omega) (by omega)) (.ret ⟨⟨h1,by simp only;omega,by simp only;omega,h2,h3⟩,by simp only;omega⟩))
end Go.Vx
