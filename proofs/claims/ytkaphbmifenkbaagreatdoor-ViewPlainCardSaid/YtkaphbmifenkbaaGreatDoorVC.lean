/- VA, VB, VC in one. No conditions. -/
import Derived.Test.YtkaphbmifenkbaaGreatDoorVLift
import Derived.Test.YtkaphbmifenkbaaGreatDoorVxHoare
set_option linter.all false
namespace Go.Vx
set_option maxRecDepth 100000
theorem at_eq (l:List Int) (s i:Int):weak_text__at ⟨l,s⟩ i=some (if i < 0∨lenL l≤i then 0 else getL 0 l i):=by
 unfold weak_text__at
 refine Yields.eq (.ite (fun h=>?_) (fun h=>?_))
 · refine .ret ?_
   rw [if_pos]
   by_cases h1:i < 0
   · exact .inl h1
   · right;simpa [h1] using h
 · by_cases h1:i < 0
   · simp [h1] at h
   · have h2:i < lenL l:=by simpa [h1] using h
     refine .chk ⟨by omega,h2⟩ (.ret ?_)
     rw [if_neg (by omega)]
theorem clone_eq (l:List Int) (hb:lenL l≤100000):slices_Clone___int_int_ l=some l:=by
 have hn:=lenL_nn l
 have e:(chk (growOk 8 (lenL l)) <| some l)=some l:=chk_ok (grOk hn (by omega) (by omega))
 unfold slices_Clone___int_int_
 rw [nilO_eq]
 · show chk (growOk 8 (lenL l)) (some l)=some l
   exact e
 · intro h0
   have hl:l=[]:=by
    cases l with
    | nil=>rfl
    | cons a r=>exfalso;have:=lenL_nn r;simp at h0;omega
   subst hl
   show some ([]:List Int)=chk (growOk 8 (lenL ([]:List Int))) (some [])
   exact e.symm
theorem w1_yields {l:List Int} {s:Int} (hb:lenL l≤100000) (Q:Int→Prop) (hs:Q s) (h14:Q 14) (hl : ∀ i,0≤i→i < lenL l→getL 0 l i≠9→Q (getL 0 l i)) :
  Yields (w1 ⟨l,s⟩) (fun o=>lenL o=lenL l∧∀ i,0≤i→i < lenL l→Q (getL 0 o i)∧(getL 0 l i≠9→getL 0 o i=getL 0 l i)):=by
 have hn:=lenL_nn l
 unfold w1
 refine .loop (fun x=>Q x.1∧0≤x.2.1∧x.2.1≤lenL l∧lenL x.2.2=lenL l∧(∀ i,0≤i→i < x.2.1→Q (getL 0 x.2.2 i)∧(getL 0 l i≠9→getL 0 x.2.2 i=getL 0 l i))∧(∀ i,x.2.1≤i→i < lenL l→getL 0 x.2.2 i=getL 0 l i)) (fun x=>(lenL l-x.2.1).toNat)
  ⟨hs,by simp only;omega,hn,rfl,fun i h0 h1=>by simp only at h1;omega,fun i h0 h1=>rfl⟩ ?_
 rintro ⟨a,v,o⟩ ⟨ha,v0,vn,hlen,hg,hr⟩
 simp only at ha v0 vn hlen hg hr ⊢
 refine .ite (fun h=>?_) (fun h=>?_)
 · have h:v < lenL l:=by simpa using h
   have hv:=hr v (Int.le_refl _) h
   refine .cut (fun r=>∃ a' o',r = .go (a',o')∧Q a'∧lenL o'=lenL l∧(∀ i,0≤i→i < v+1→Q (getL 0 o' i)∧(getL 0 l i≠9→getL 0 o' i=getL 0 l i))∧(∀ i,v+1≤i→i < lenL l→getL 0 o' i=getL 0 l i)) ?_ ?_
   · refine .chk ⟨v0,h⟩ ?_
     simp only [Int.zero_add]
     refine .cut (fun r=>∃ o',r = .go o'∧Q (getL 0 o' v)∧lenL o'=lenL l∧(getL 0 l v≠9→getL 0 o' v=getL 0 l v)∧(∀ i,0≤i→i < lenL l→i≠v→getL 0 o' i=getL 0 o i)) ?_ ?_
     · refine .ite (fun h9=>?_) (fun h9=>?_)
       · have h9:getL 0 o v=9:=by simpa using h9
         refine .chk ⟨v0,h⟩ (.ret ⟨_,rfl,?_,by simp [hlen],fun hne=>absurd (hv ▸ h9) hne,fun i i0 i1 hne=>?_⟩)
         · rw [getL_put v0 v0 (by omega),if_pos rfl];exact ha
         · rw [getL_put v0 i0 (by omega),if_neg hne]
       · have h9:getL 0 o v≠9:=by simpa using h9
         rw [hv] at h9
         exact .ret ⟨o,rfl,by rw [hv];exact hl v v0 h h9,hlen,fun _=>hv,fun i _ _ _=>rfl⟩
     rintro r ⟨o',rfl,q1,q2,q3,q4⟩
     have fin : ∀ c:Int,Q c→Yields (some (Fl.go (γ:=Fl (Int × Int × List Int) (List Int)) (c,o'))) (fun r=>∃ a' o',r = .go (a',o')∧Q a'∧lenL o'=lenL l∧(∀ i,0≤i→i < v+1→Q (getL 0 o' i)∧(getL 0 l i≠9→getL 0 o' i=getL 0 l i))∧(∀ i,v+1≤i→i < lenL l→getL 0 o' i=getL 0 l i)):=by
      intro c hc
      refine .ret ⟨c,o',rfl,hc,q2,fun i i0 i1=>?_,fun i i0 i1=>?_⟩
      · by_cases e:i=v
        · subst e;exact ⟨q1,q3⟩
        · rw [q4 i i0 (by omega) e];exact hg i i0 (by omega)
      · rw [q4 i (by omega) i1 (by omega)];exact hr i (by omega) i1
     refine .go (.chk ⟨v0,h⟩ ?_)
     refine .ite (fun h1=>.ite (fun _=>fin _ h14) (fun _=>fin _ q1)) (fun h1=>.ite (fun h1=>.ite (fun _=>fin _ h14) (fun _=>fin _ q1)) (fun h1=>.ite (fun h1=>.ite (fun _=>fin _ h14) (fun _=>fin _ q1)) (fun h1=>.ite (fun _=>fin _ h14) (fun _=>fin _ q1))))
   rintro r ⟨a',o',rfl,q1,q2,q3,q4⟩
   exact .go (.chk (inR64 (by omega) (by omega)) (.ret ⟨⟨q1,by simp only;omega,by simp only;omega,q2,q3,q4⟩,by simp only;omega⟩))
 · have h:lenL l≤v:=by simpa using h
   exact .ret ⟨hlen,fun i i0 i1=>hg i i0 (by omega)⟩
theorem w2_yields {l:List Int} {s:Int} (hb:lenL l≤100000) :
  Yields (w2 ⟨l,s⟩) (fun o=>lenL o=lenL l∧(∀ i,0≤i→i < lenL l→getL 0 o i=getL 0 l i∨getL 0 l i=4∧getL 0 o i=7)∧(s≠3→(∀ i,0≤i→i < lenL l→getL 0 l i≠3)→∀ i,0≤i→i < lenL l→getL 0 o i=getL 0 l i)):=by
 have hn:=lenL_nn l
 unfold w2
 refine .loop (fun x=>0≤x.2.1∧x.2.1≤lenL l∧lenL x.2.2=lenL l∧(∀ i,0≤i→i < x.2.1→getL 0 x.2.2 i=getL 0 l i∨getL 0 l i=4∧getL 0 x.2.2 i=7)∧(∀ i,x.2.1≤i→i < lenL l→getL 0 x.2.2 i=getL 0 l i)∧(s≠3→(∀ i,0≤i→i < lenL l→getL 0 l i≠3)→x.1≠3∧∀ i,0≤i→i < lenL l→getL 0 x.2.2 i=getL 0 l i)) (fun x=>(lenL l-x.2.1).toNat)
  ⟨by simp only;omega,hn,rfl,fun i h0 h1=>by simp only at h1;omega,fun i h0 h1=>rfl,fun hs _=>⟨hs,fun _ _ _=>rfl⟩⟩ ?_
 rintro ⟨a,v,o⟩ ⟨v0,vn,hlen,hg,hr,hx⟩
 simp only at v0 vn hlen hg hr hx ⊢
 refine .ite (fun h=>?_) (fun h=>?_)
 · have h:v < lenL l:=by simpa using h
   have hv:=hr v (Int.le_refl _) h
   refine .cut (fun r=>∃ a' o',r = .go (a',o')∧lenL o'=lenL l∧(getL 0 o' v=getL 0 l v∨getL 0 l v=4∧getL 0 o' v=7)∧(∀ i,0≤i→i < lenL l→i≠v→getL 0 o' i=getL 0 o i)∧(s≠3→(∀ i,0≤i→i < lenL l→getL 0 l i≠3)→a'≠3∧o'=o)) ?_ ?_
   · refine .chk ⟨v0,h⟩ ?_
     simp only [Int.zero_add,hv]
     refine .cut (fun r=>∃ b,r = .go b) (.ite (fun _=>.ret ⟨_,rfl⟩) (fun _=>.ite (fun _=>.ret ⟨_,rfl⟩) (fun _=>.ret ⟨_,rfl⟩))) ?_
     rintro r ⟨b,rfl⟩
     refine .go (.ite (fun _=>?_) (fun _=>.ite (fun h4=>.ite (fun h3=>?_) (fun _=>?_)) (fun _=>?_)))
     · exact .ret ⟨_,o,rfl,hlen,.inl hv,fun _ _ _ _=>rfl,fun h1 h2=>⟨h2 v v0 h,rfl⟩⟩
     · have h3:a=3:=by simpa using h3
       have h4:getL 0 l v=4:=by simpa using h4
       refine .chk ⟨v0,h⟩ (.ret ⟨a,_,rfl,by simp [hlen],.inr ⟨h4,by rw [getL_put v0 v0 (by omega),if_pos rfl]⟩,fun i i0 i1 hne=>by rw [getL_put v0 i0 (by omega),if_neg hne],fun h1 h2=>absurd h3 (hx h1 h2).1⟩)
     · exact .ret ⟨_,o,rfl,hlen,.inl hv,fun _ _ _ _=>rfl,fun h1 h2=>⟨(hx h1 h2).1,rfl⟩⟩
     · exact .ret ⟨_,o,rfl,hlen,.inl hv,fun _ _ _ _=>rfl,fun h1 h2=>⟨(hx h1 h2).1,rfl⟩⟩
   rintro r ⟨a',o',rfl,q1,q2,q3,q4⟩
   refine .go (.chk (inR64 (by omega) (by omega)) (.ret ⟨⟨by simp only;omega,by simp only;omega,q1,fun i i0 i1=>?_,fun i i0 i1=>?_,fun h1 h2=>?_⟩,by simp only;omega⟩))
   · simp only at i1 ⊢
     by_cases e:i=v
     · subst e;exact q2
     · rw [q3 i i0 (by omega) e];exact hg i i0 (by omega)
   · simp only at i0 ⊢
     rw [q3 i (by omega) i1 (by omega)];exact hr i (by omega) i1
   · obtain ⟨r1,rfl⟩:=q4 h1 h2
     exact ⟨r1,(hx h1 h2).2⟩
 · have h:lenL l≤v:=by simpa using h
   exact .ret ⟨hlen,fun i i0 i1=>hg i i0 (by omega),fun h1 h2=>(hx h1 h2).2⟩
theorem w3_yields {l:List Int} {s:Int} (hb:lenL l≤100000) :
  Yields (w3 ⟨l,s⟩) (fun o=>lenL o=lenL l∧∀ i,0≤i→i < lenL l→getL 0 o i=if getL 0 l i=3 then 2 else getL 0 l i):=by
 have hn:=lenL_nn l
 unfold w3
 refine .loop (fun x=>0≤x.1∧x.1≤lenL l∧lenL x.2=lenL l∧(∀ i,0≤i→i < x.1→getL 0 x.2 i=if getL 0 l i=3 then 2 else getL 0 l i)∧(∀ i,x.1≤i→i < lenL l→getL 0 x.2 i=getL 0 l i)) (fun x=>(lenL l-x.1).toNat)
  ⟨by simp only;omega,hn,rfl,fun i h0 h1=>by simp only at h1;omega,fun i h0 h1=>rfl⟩ ?_
 rintro ⟨v,o⟩ ⟨v0,vn,hlen,hg,hr⟩
 simp only at v0 vn hlen hg hr ⊢
 refine .ite (fun h=>?_) (fun h=>?_)
 · have h:v < lenL l:=by simpa using h
   have hv:=hr v (Int.le_refl _) h
   refine .chk ⟨v0,h⟩ ?_
   simp only [Int.zero_add,hv]
   refine .ite (fun h3=>.chk ⟨v0,h⟩ (.chk (inR64 (by omega) (by omega)) (.ret ⟨⟨by simp only;omega,by simp only;omega,by simp [hlen],fun i i0 i1=>?_,fun i i0 i1=>?_⟩,by simp only;omega⟩)))
    (fun h3=>.chk (inR64 (by omega) (by omega)) (.ret ⟨⟨by simp only;omega,by simp only;omega,hlen,fun i i0 i1=>?_,fun i i0 i1=>hr i (by simp only at i0;omega) i1⟩,by simp only;omega⟩))
   · have h3:getL 0 l v=3:=by simpa using h3
     simp only at i1 ⊢
     rw [getL_put v0 i0 (by omega)]
     by_cases e:i=v
     · subst e;rw [if_pos rfl,if_pos h3]
     · rw [if_neg e];exact hg i i0 (by omega)
   · simp only at i0 ⊢
     rw [getL_put v0 (by omega) (by omega),if_neg (by omega)];exact hr i (by omega) i1
   · have h3:getL 0 l v≠3:=by simpa using h3
     simp only at i1 ⊢
     by_cases e:i=v
     · subst e;rw [if_neg h3];exact hv
     · exact hg i i0 (by omega)
 · have h:lenL l≤v:=by simpa using h
   exact .ret ⟨hlen,fun i i0 i1=>hg i i0 (by omega)⟩
theorem w4_yields {l:List Int} {s:Int} (hb:lenL l≤100000) (Q:Int→Prop) (hq : ∀ i,0≤i→i < lenL l→Q (getL 0 l i)) :
  Yields (w4 ⟨l,s⟩) (fun o=>lenL o=lenL l∧∀ i,0≤i→i < lenL l→Q (getL 0 o i)∧(getL 0 o i=getL 0 l i∨(getL 0 l i=5∨getL 0 l i=8)∧(getL 0 o i=4∨getL 0 o i=7))):=by
 have hn:=lenL_nn l
 unfold w4
 refine .loop (fun x=>0≤x.1∧x.1≤lenL l∧lenL x.2=lenL l∧(∀ i,0≤i→i < lenL l→Q (getL 0 x.2 i)∧(getL 0 x.2 i=getL 0 l i∨(getL 0 l i=5∨getL 0 l i=8)∧(getL 0 x.2 i=4∨getL 0 x.2 i=7)))∧(∀ i,x.1≤i→i < lenL l→getL 0 x.2 i=getL 0 l i)) (fun x=>(lenL l-x.1).toNat)
  ⟨by simp only;omega,hn,rfl,fun i h0 h1=>⟨hq i h0 h1,.inl rfl⟩,fun i h0 h1=>rfl⟩ ?_
 rintro ⟨v,o⟩ ⟨v0,vn,hlen,hg,hr⟩
 simp only at v0 vn hlen hg hr ⊢
 refine .ite (fun h=>?_) (fun h=>?_)
 · have h:v < lenL l:=by simpa using h
   have hv:=hr v (Int.le_refl _) h
   have same:Yields (chk (inR .i64 (v+1)) <| some (Fl.go (γ:=List Int) ((v+1),o))) (StepP (fun x=>0≤x.1∧x.1≤lenL l∧lenL x.2=lenL l∧(∀ i,0≤i→i < lenL l→Q (getL 0 x.2 i)∧(getL 0 x.2 i=getL 0 l i∨(getL 0 l i=5∨getL 0 l i=8)∧(getL 0 x.2 i=4∨getL 0 x.2 i=7)))∧(∀ i,x.1≤i→i < lenL l→getL 0 x.2 i=getL 0 l i)) (fun x=>(lenL l-x.1).toNat) (fun o=>lenL o=lenL l∧∀ i,0≤i→i < lenL l→Q (getL 0 o i)∧(getL 0 o i=getL 0 l i∨(getL 0 l i=5∨getL 0 l i=8)∧(getL 0 o i=4∨getL 0 o i=7))) (v,o)) :=
    .chk (inR64 (by omega) (by omega)) (.ret ⟨⟨by simp only;omega,by simp only;omega,hlen,hg,fun i i0 i1=>hr i (by simp only at i0;omega) i1⟩,by simp only;omega⟩)
   refine .chk ⟨v0,h⟩ (.chk (inR64 (by omega) (by omega)) (.call (at_eq _ _ _) (.chk (inR64 (by omega) (by omega)) (.call (at_eq _ _ _) ?_))))
   simp only [Int.zero_add,hv]
   generalize hA:(if v-1 < 0∨lenL o≤v-1 then 0 else getL 0 o (v-1))=A
   refine .ite (fun _=>same) (fun _=>.ite (fun hc=>?_) (fun _=>same))
   have hc:(A=4∧(getL 0 l v=5∨getL 0 l v=8))∨(A=7∧getL 0 l v=8):=by
    revert hc
    by_cases h1:A=4
    · by_cases h2:getL 0 l v=5
      · intro _;exact .inl ⟨h1,.inl h2⟩
      · by_cases h3:getL 0 l v=8
        · intro _;exact .inl ⟨h1,.inr h3⟩
        · subst h1;simp [h2,h3]
    · by_cases h3:getL 0 l v=8
      · by_cases h4:A=7
        · intro _;exact .inr ⟨h4,h3⟩
        · simp [h1,h4]
      · by_cases h4:A=7<;>simp [h1,h3,h4]
   have hQ:Q A∧(A=4∨A=7):=by
    have h47:A=4∨A=7:=hc.elim (fun a=>.inl a.1) (fun a=>.inr a.1)
    refine ⟨?_,h47⟩
    rw [← hA] at h47 ⊢
    split at h47
    · omega
    · rename_i hh
      rw [if_neg hh]
      exact (hg (v-1) (by omega) (by omega)).1
   have h58:getL 0 l v=5∨getL 0 l v=8:=hc.elim (fun a=>a.2) (fun a=>.inr a.2)
   refine .chk ⟨v0,h⟩ (.chk (inR64 (by omega) (by omega)) (.ret ⟨⟨by simp only;omega,by simp only;omega,by simp [hlen],fun i i0 i1=>?_,fun i i0 i1=>?_⟩,by simp only;omega⟩))
   · simp only
     rw [getL_put v0 i0 (by omega)]
     by_cases e:i=v
     · subst e;rw [if_pos rfl];exact ⟨hQ.1,.inr ⟨h58,hQ.2⟩⟩
     · rw [if_neg e];exact hg i i0 i1
   · simp only at i0 ⊢
     rw [getL_put v0 (by omega) (by omega),if_neg (by omega)];exact hr i (by omega) i1
 · have h:lenL l≤v:=by simpa using h
   exact .ret ⟨hlen,hg⟩
end Go.Vx
namespace Go.Vx
set_option maxRecDepth 100000
theorem w5_yields {l:List Int} {s:Int} (hb:lenL l≤100000) :
  Yields (w5 ⟨l,s⟩) (fun o=>lenL o=lenL l∧∀ i,0≤i→i < lenL l→getL 0 o i=getL 0 l i∨getL 0 l i=6∧getL 0 o i=4):=by
 have hn:=lenL_nn l
 unfold w5
 refine .loop (fun x=>0≤x.1∧x.1≤lenL l∧lenL x.2=lenL l∧(∀ i,0≤i→i < lenL l→getL 0 x.2 i=getL 0 l i∨getL 0 l i=6∧getL 0 x.2 i=4)∧(∀ i,x.1≤i→i < lenL l→getL 0 x.2 i=getL 0 l i)) (fun x=>(lenL l-x.1).toNat)
  ⟨by simp only;omega,hn,rfl,fun i h0 h1=>.inl rfl,fun i h0 h1=>rfl⟩ ?_
 rintro ⟨v,o⟩ ⟨v0,vn,hlen,hg,hr⟩
 simp only at v0 vn hlen hg hr ⊢
 refine .ite (fun h=>?_) (fun h=>?_)
 · have h:v < lenL l:=by simpa using h
   have hv:=hr v (Int.le_refl _) h
   refine .chk ⟨v0,h⟩ ?_
   simp only [Int.zero_add,hv]
   refine .ite (fun h6=>.chk (inR64 (by omega) (by omega)) (.ret ⟨⟨by simp only;omega,by simp only;omega,hlen,hg,fun i i0 i1=>hr i (by simp only at i0;omega) i1⟩,by simp only;omega⟩)) (fun h6=>?_)
   have h6:getL 0 l v=6:=by simpa using h6
   refine .cut (fun r=>∃ e,r = .go e∧v < e∧e≤lenL l∧∀ i,v≤i→i < e→getL 0 l i=6) ?_ ?_
   · refine .loop (fun e=>v≤e∧e≤lenL l∧∀ i,v≤i→i < e→getL 0 l i=6) (fun e=>(lenL l-e).toNat) ⟨Int.le_refl _,vn,fun i i0 i1=>by omega⟩ ?_
     rintro e ⟨e0,e1,eg⟩
     refine .call (at_eq _ _ _) (.ite (fun h2=>?_) (fun h2=>?_))
     · have hh : ¬ (e < 0∨lenL o≤e):=fun hh=>by rw [if_pos hh] at h2;cases h2
       rw [if_neg hh,hr e e0 (by omega)] at h2
       have h2:getL 0 l e=6:=by simpa using h2
       refine .chk (inR64 (by omega) (by omega)) (.ret ⟨⟨by omega,by omega,fun i i0 i1=>?_⟩,by show (_-_:Int).toNat < (_-_:Int).toNat;omega⟩)
       by_cases q:i=e
       · subst q;exact h2
       · exact eg i i0 (by omega)
     · refine .ret ⟨e,rfl,?_,e1,eg⟩
       by_cases q:e=v
       · exfalso
         subst q
         rw [if_neg (by omega),hv,h6] at h2
         cases h2
       · omega
   rintro r ⟨e,rfl,ve,en,eg⟩
   refine .go ?_
   refine .cut (fun r=>∃ o',r = .go o'∧lenL o'=lenL l∧(∀ i,0≤i→i < lenL l→getL 0 o' i=getL 0 o i∨getL 0 l i=6∧getL 0 o' i=4)∧(∀ i,e≤i→i < lenL l→getL 0 o' i=getL 0 l i)) ?_ ?_
   · refine .chk (inR64 (by omega) (by omega)) (.call (at_eq _ _ _) ?_)
     refine .bind (fun _=>True) ?_ (fun b _=>?_)
     · generalize (!(if v-1 < 0∨lenL o≤v-1 then 0 else getL 0 o (v-1)) == 4)=bb
       cases bb
       · exact .of (v:=0) rfl trivial
       · exact .of (at_eq o s e) trivial
     refine .ite (fun _=>?_) (fun _=>.ret ⟨o,rfl,hlen,fun i i0 i1=>.inl rfl,fun i i0 i1=>hr i (by omega) i1⟩)
     refine .loop (fun x=>v≤x.1∧x.1≤e∧lenL x.2=lenL l∧(∀ i,0≤i→i < lenL l→getL 0 x.2 i=getL 0 o i∨getL 0 l i=6∧getL 0 x.2 i=4)∧(∀ i,e≤i→i < lenL l→getL 0 x.2 i=getL 0 l i)) (fun x=>(e-x.1).toNat)
      ⟨Int.le_refl _,by simp only;omega,hlen,fun i h0 h1=>.inl rfl,fun i h0 h1=>hr i (by omega) h1⟩ ?_
     rintro ⟨j,q⟩ ⟨j0,j1,ql,qg,qr⟩
     simp only at j0 j1 ql qg qr ⊢
     refine .ite (fun hj=>?_) (fun _=>.ret ⟨q,rfl,ql,qg,qr⟩)
     have hj:j < e:=by simpa using hj
     refine .chk ⟨by omega,by omega⟩ (.chk (inR64 (by omega) (by omega)) (.ret ⟨⟨by simp only;omega,by simp only;omega,by simp [ql],fun i i0 i1=>?_,fun i i0 i1=>?_⟩,by simp only;omega⟩))
     · simp only
       rw [getL_put (by omega) i0 (by omega)]
       by_cases w:i=j
       · subst w;rw [if_pos rfl];exact .inr ⟨eg i j0 hj,rfl⟩
       · rw [if_neg w];exact qg i i0 i1
     · simp only
       rw [getL_put (by omega) (by omega) (by omega),if_neg (by omega)];exact qr i i0 i1
   rintro r ⟨o',rfl,ol,og,or'⟩
   refine .go (.ret ⟨⟨by simp only;omega,en,ol,fun i i0 i1=>?_,or'⟩,by simp only;omega⟩)
   simp only
   rcases og i i0 i1 with q | q
   · rw [q];exact hg i i0 i1
   · exact .inr q
 · have h:lenL l≤v:=by simpa using h
   exact .ret ⟨hlen,fun i i0 i1=>hg i i0 (by omega)⟩
theorem w6_yields {l:List Int} {s:Int} (hb:lenL l≤100000) :
  Yields (w6 ⟨l,s⟩) (fun o=>lenL o=lenL l∧∀ i,0≤i→i < lenL l→getL 0 o i=if getL 0 l i=5∨getL 0 l i=6∨getL 0 l i=8 then 14 else getL 0 l i):=by
 have hn:=lenL_nn l
 unfold w6
 refine .loop (fun x=>0≤x.1∧x.1≤lenL l∧lenL x.2=lenL l∧(∀ i,0≤i→i < x.1→getL 0 x.2 i=if getL 0 l i=5∨getL 0 l i=6∨getL 0 l i=8 then 14 else getL 0 l i)∧(∀ i,x.1≤i→i < lenL l→getL 0 x.2 i=getL 0 l i)) (fun x=>(lenL l-x.1).toNat)
  ⟨by simp only;omega,hn,rfl,fun i h0 h1=>by simp only at h1;omega,fun i h0 h1=>rfl⟩ ?_
 rintro ⟨v,o⟩ ⟨v0,vn,hlen,hg,hr⟩
 simp only at v0 vn hlen hg hr ⊢
 refine .ite (fun h=>?_) (fun h=>?_)
 · have h:v < lenL l:=by simpa using h
   have hv:=hr v (Int.le_refl _) h
   refine .chk ⟨v0,h⟩ ?_
   simp only [Int.zero_add,hv]
   have fin : ∀ o':List Int,lenL o'=lenL l→(∀ i,0≤i→i < lenL l→i≠v→getL 0 o' i=getL 0 o i)→(getL 0 o' v=if getL 0 l v=5∨getL 0 l v=6∨getL 0 l v=8 then 14 else getL 0 l v) →
     Yields (chk (inR .i64 (v+1)) <| some (Fl.go (γ:=List Int) ((v+1),o'))) (StepP (fun x=>0≤x.1∧x.1≤lenL l∧lenL x.2=lenL l∧(∀ i,0≤i→i < x.1→getL 0 x.2 i=if getL 0 l i=5∨getL 0 l i=6∨getL 0 l i=8 then 14 else getL 0 l i)∧(∀ i,x.1≤i→i < lenL l→getL 0 x.2 i=getL 0 l i)) (fun x=>(lenL l-x.1).toNat) (fun o=>lenL o=lenL l∧∀ i,0≤i→i < lenL l→getL 0 o i=if getL 0 l i=5∨getL 0 l i=6∨getL 0 l i=8 then 14 else getL 0 l i) (v,o)):=by
    intro o' h1 h2 h3
    refine .chk (inR64 (by omega) (by omega)) (.ret ⟨⟨by simp only;omega,by simp only;omega,h1,fun i i0 i1=>?_,fun i i0 i1=>?_⟩,by simp only;omega⟩)
    · simp only at i1 ⊢
      by_cases e:i=v
      · subst e;exact h3
      · rw [h2 i i0 (by omega) e];exact hg i i0 (by omega)
    · simp only at i0 ⊢
      rw [h2 i (by omega) i1 (by omega)];exact hr i (by omega) i1
   have put:(getL 0 l v=5∨getL 0 l v=6∨getL 0 l v=8)→Yields (chk (0≤v∧v < lenL l) <| chk (inR .i64 (v+1)) <| some (Fl.go (γ:=List Int) ((v+1),setL o v 14))) (StepP (fun x=>0≤x.1∧x.1≤lenL l∧lenL x.2=lenL l∧(∀ i,0≤i→i < x.1→getL 0 x.2 i=if getL 0 l i=5∨getL 0 l i=6∨getL 0 l i=8 then 14 else getL 0 l i)∧(∀ i,x.1≤i→i < lenL l→getL 0 x.2 i=getL 0 l i)) (fun x=>(lenL l-x.1).toNat) (fun o=>lenL o=lenL l∧∀ i,0≤i→i < lenL l→getL 0 o i=if getL 0 l i=5∨getL 0 l i=6∨getL 0 l i=8 then 14 else getL 0 l i) (v,o)):=by
    intro hh
    refine .chk ⟨v0,h⟩ (fin _ (by simp [hlen]) (fun i i0 i1 hne=>by rw [getL_put v0 i0 (by omega),if_neg hne]) (by rw [getL_put v0 v0 (by omega),if_pos rfl,if_pos hh]))
   have keep:getL 0 l v≠5→getL 0 l v≠6→getL 0 l v≠8→_:=fun a b c=>fin o hlen (fun _ _ _ _=>rfl) (by rw [hv,if_neg (by omega)])
   refine .ite (fun h5=>.ite (fun _=>put (.inl (by simpa using h5))) (fun h=>by simp [h5] at h)) (fun h5=>.ite (fun h6=>.ite (fun _=>put (.inr (.inl (by simpa using h6)))) (fun h=>by simp [h6] at h)) (fun h6=>.ite (fun h8=>put (.inr (.inr (by simpa using h8)))) (fun h8=>keep (by simpa using h5) (by simpa using h6) (by simpa using h8))))
 · have h:lenL l≤v:=by simpa using h
   exact .ret ⟨hlen,fun i i0 i1=>hg i i0 (by omega)⟩
def lstW (l:List Int) (s:Int):Nat→Int
 | 0=>s
 | n+1=>if getL 0 l n=1∨getL 0 l n=2 then getL 0 l n else lstW l s n
theorem w7_yields {l:List Int} {s:Int} (hb:lenL l≤100000) :
  Yields (w7 ⟨l,s⟩) (fun o=>lenL o=lenL l∧∀ i,0≤i→i < lenL l→getL 0 o i=if getL 0 l i=4∧lstW l s i.toNat=1 then 1 else getL 0 l i):=by
 have hn:=lenL_nn l
 unfold w7
 refine .loop (fun x=>x.1=lstW l s x.2.1.toNat∧0≤x.2.1∧x.2.1≤lenL l∧lenL x.2.2=lenL l∧(∀ i,0≤i→i < x.2.1→getL 0 x.2.2 i=if getL 0 l i=4∧lstW l s i.toNat=1 then 1 else getL 0 l i)∧(∀ i,x.2.1≤i→i < lenL l→getL 0 x.2.2 i=getL 0 l i)) (fun x=>(lenL l-x.2.1).toNat)
  ⟨rfl,by simp only;omega,hn,rfl,fun i h0 h1=>by simp only at h1;omega,fun i h0 h1=>rfl⟩ ?_
 rintro ⟨a,v,o⟩ ⟨ha,v0,vn,hlen,hg,hr⟩
 simp only at ha v0 vn hlen hg hr ⊢
 refine .ite (fun h=>?_) (fun h=>?_)
 · have h:v < lenL l:=by simpa using h
   have hv:=hr v (Int.le_refl _) h
   refine .chk ⟨v0,h⟩ ?_
   simp only [Int.zero_add,hv]
   have ev:(v.toNat:Int)=v:=by omega
   have hla:lstW l s (v+1).toNat=if getL 0 l v=1∨getL 0 l v=2 then getL 0 l v else a:=by
    rw [show (v+1).toNat=v.toNat+1 by omega]
    show (if getL 0 l (v.toNat:Int)=1∨getL 0 l (v.toNat:Int)=2 then getL 0 l (v.toNat:Int) else lstW l s v.toNat)=_
    rw [ev,← ha]
   have fin : ∀ (a':Int) (o':List Int),a'=lstW l s (v+1).toNat→lenL o'=lenL l→(∀ i,0≤i→i < lenL l→i≠v→getL 0 o' i=getL 0 o i)→(getL 0 o' v=if getL 0 l v=4∧a=1 then 1 else getL 0 l v) →
     Yields (chk (inR .i64 (v+1)) <| some (Fl.go (γ:=List Int) (a',(v+1),o'))) (StepP (fun x=>x.1=lstW l s x.2.1.toNat∧0≤x.2.1∧x.2.1≤lenL l∧lenL x.2.2=lenL l∧(∀ i,0≤i→i < x.2.1→getL 0 x.2.2 i=if getL 0 l i=4∧lstW l s i.toNat=1 then 1 else getL 0 l i)∧(∀ i,x.2.1≤i→i < lenL l→getL 0 x.2.2 i=getL 0 l i)) (fun x=>(lenL l-x.2.1).toNat) (fun o=>lenL o=lenL l∧∀ i,0≤i→i < lenL l→getL 0 o i=if getL 0 l i=4∧lstW l s i.toNat=1 then 1 else getL 0 l i) (a,v,o)):=by
    intro a' o' h0 h1 h2 h3
    refine .chk (inR64 (by omega) (by omega)) (.ret ⟨⟨h0,by simp only;omega,by simp only;omega,h1,fun i i0 i1=>?_,fun i i0 i1=>?_⟩,by simp only;omega⟩)
    · simp only at i1 ⊢
      by_cases e:i=v
      · subst e;rw [h3,ha]
      · rw [h2 i i0 (by omega) e];exact hg i i0 (by omega)
    · simp only at i0 ⊢
      rw [h2 i (by omega) i1 (by omega)];exact hr i (by omega) i1
   have strong:(getL 0 l v=1∨getL 0 l v=2)→_:=fun q=>fin (getL 0 l v) o (by rw [hla,if_pos q]) hlen (fun _ _ _ _=>rfl) (by rw [hv,if_neg (by omega)])
   have toL:getL 0 l v=4→a=1→Yields (chk (0≤v∧v < lenL l) <| chk (inR .i64 (v+1)) <| some (Fl.go (γ:=List Int) (a,(v+1),setL o v 1))) _:=fun q1 q2 =>
    .chk ⟨v0,h⟩ (fin a _ (by rw [hla,if_neg (by omega)]) (by simp [hlen]) (fun i i0 i1 hne=>by rw [getL_put v0 i0 (by omega),if_neg hne]) (by rw [getL_put v0 v0 (by omega),if_pos rfl,if_pos ⟨q1,q2⟩]))
   have keep : ¬ (getL 0 l v=1∨getL 0 l v=2)→¬ (getL 0 l v=4∧a=1)→_:=fun q1 q2=>fin a o (by rw [hla,if_neg q1]) hlen (fun _ _ _ _=>rfl) (by rw [hv,if_neg q2])
   refine .ite (fun h2=>.ite (fun _=>strong (.inr (by simpa using h2))) (fun h=>by simp [h2] at h)) (fun h2=>.ite (fun h1=>strong (.inl (by simpa using h1))) (fun h1=>?_))
   have h1:getL 0 l v≠1:=by simpa using h1
   have h2:getL 0 l v≠2:=by simpa using h2
   refine .ite (fun h4=>?_) (fun h4=>?_)
   · have h4:getL 0 l v=4:=by simpa using h4
     refine .ite (fun hA=>toL h4 (by simpa using hA)) (fun hA=>?_)
     have hA:a≠1:=by simpa using hA
     exact keep (by omega) (by omega)
   · have h4:getL 0 l v≠4:=by simpa using h4
     exact keep (by omega) (by omega)
 · have h:lenL l≤v:=by simpa using h
   exact .ret ⟨hlen,fun i i0 i1=>hg i i0 (by omega)⟩
theorem weak_chain {l a b c d e f g:List Int} {s:Int} (hb:lenL l≤100000) (h1:w1 ⟨l,s⟩=some a) (e1:lenL a=lenL l) (h2:w2 ⟨a,s⟩=some b) (e2:lenL b=lenL a) (h3:w3 ⟨b,s⟩=some c) (e3:lenL c=lenL b)
  (h4:w4 ⟨c,s⟩=some d) (e4:lenL d=lenL c) (h5:w5 ⟨d,s⟩=some e) (e5:lenL e=lenL d) (h6:w6 ⟨e,s⟩=some f) (e6:lenL f=lenL e) (h7:w7 ⟨f,s⟩=some g) (e7:lenL g=lenL f):weak_Weak l s=some g:=by
 refine Yields.eq ?_
 unfold weak_Weak
 refine .call (clone_eq l hb) ?_
 have R : ∀ k:Int,0≤k→k≤100→inR .i64 (k+1):=fun k h0 h1=>inR64 (by omega) (by omega)
 refine .cut (fun r=>r = .go g) ?_ (fun r hr=>by subst hr;exact .go (.ret rfl))
 refine .cut (fun r=>r = .go a) (.cut (fun r=>r = .go a) (.cut (fun r=>r = .go ()) (.chk (by omega) (.ret rfl)) (fun r hr=>by subst hr;exact .go (.call h1 (.chk e1 (.ret rfl))))) (fun r hr=>by subst hr;exact .go (.chk (R 0 (by omega) (by omega)) (.ret rfl)))) (fun r hr=>?_)
 subst hr;refine .go ?_
 refine .cut (fun r=>r = .go b) (.cut (fun r=>r = .go b) (.cut (fun r=>r = .go ()) (.chk (by omega) (.ret rfl)) (fun r hr=>by subst hr;exact .go (.call h2 (.chk e2 (.ret rfl))))) (fun r hr=>by subst hr;exact .go (.chk (R 1 (by omega) (by omega)) (.ret rfl)))) (fun r hr=>?_)
 subst hr;refine .go ?_
 refine .cut (fun r=>r = .go c) (.cut (fun r=>r = .go c) (.cut (fun r=>r = .go ()) (.chk (by omega) (.ret rfl)) (fun r hr=>by subst hr;exact .go (.call h3 (.chk e3 (.ret rfl))))) (fun r hr=>by subst hr;exact .go (.chk (R 2 (by omega) (by omega)) (.ret rfl)))) (fun r hr=>?_)
 subst hr;refine .go ?_
 refine .cut (fun r=>r = .go d) (.cut (fun r=>r = .go d) (.cut (fun r=>r = .go ()) (.chk (by omega) (.ret rfl)) (fun r hr=>by subst hr;exact .go (.call h4 (.chk e4 (.ret rfl))))) (fun r hr=>by subst hr;exact .go (.chk (R 3 (by omega) (by omega)) (.ret rfl)))) (fun r hr=>?_)
 subst hr;refine .go ?_
 refine .cut (fun r=>r = .go e) (.cut (fun r=>r = .go e) (.cut (fun r=>r = .go ()) (.chk (by omega) (.ret rfl)) (fun r hr=>by subst hr;exact .go (.call h5 (.chk e5 (.ret rfl))))) (fun r hr=>by subst hr;exact .go (.chk (R 4 (by omega) (by omega)) (.ret rfl)))) (fun r hr=>?_)
 subst hr;refine .go ?_
 refine .cut (fun r=>r = .go f) (.cut (fun r=>r = .go f) (.cut (fun r=>r = .go ()) (.chk (by omega) (.ret rfl)) (fun r hr=>by subst hr;exact .go (.call h6 (.chk e6 (.ret rfl))))) (fun r hr=>by subst hr;exact .go (.chk (R 5 (by omega) (by omega)) (.ret rfl)))) (fun r hr=>?_)
 subst hr;refine .go ?_
 refine .cut (fun r=>r = .go g) (.cut (fun r=>r = .go g) (.cut (fun r=>r = .go ()) (.chk (by omega) (.ret rfl)) (fun r hr=>by subst hr;exact .go (.call h7 (.chk e7 (.ret rfl))))) (fun r hr=>by subst hr;exact .go (.chk (R 6 (by omega) (by omega)) (.ret rfl)))) (fun r hr=>?_)
 subst hr;exact .go (.ret rfl)
end Go.Vx
namespace Go.Vx
set_option maxRecDepth 100000
theorem ext0 {l o:List Int} (hl:lenL o=lenL l) (h : ∀ i,0≤i→i < lenL l→getL 0 o i=getL 0 l i):o=l:=extL 0 hl fun i i0 i1=>h i i0 (by omega)
structure WeakP (l:List Int) (s:Int) (g:List Int):Prop where
 len:lenL g=lenL l
 ok : ∀ i,0≤i→i < lenL l→getL 0 g i≠3∧getL 0 g i≠5∧getL 0 g i≠6∧getL 0 g i≠8∧getL 0 g i≠9
 L : ∀ i,0≤i→i < lenL l→getL 0 l i=1→getL 0 g i=1
 R : ∀ i,0≤i→i < lenL l→getL 0 l i=2∨getL 0 l i=3→getL 0 g i=2
 N : ∀ i,0≤i→i < lenL l→getL 0 l i=4→getL 0 g i=4∨getL 0 g i=7∨getL 0 g i=1
 A : ∀ i,0≤i→i < lenL l→getL 0 l i=7→getL 0 g i=7
 plain:s=1→(∀ i,0≤i→i < lenL l→getL 0 l i≠2∧getL 0 l i≠3∧getL 0 l i≠7)→∀ i,0≤i→i < lenL l→getL 0 g i≠2∧getL 0 g i≠4∧getL 0 g i≠7
 again:weak_Weak g s=some g
theorem lstW_no2 {l:List Int} (h : ∀ i,0≤i→i < lenL l→getL 0 l i≠2) : ∀ n:Nat,(n:Int)≤lenL l→lstW l 1 n=1
 | 0,_=>rfl
 | n+1,hn=>by
  have:=h n (by omega) (by omega)
  unfold lstW
  split
  · omega
  · exact lstW_no2 h n (by omega)
theorem lstW_same {f g:List Int} {s:Int} (h : ∀ i,0≤i→i < lenL f→getL 0 g i=if getL 0 f i=4∧lstW f s i.toNat=1 then 1 else getL 0 f i) : ∀ n:Nat,(n:Int)≤lenL f→lstW g s n=lstW f s n
 | 0,_=>rfl
 | n+1,hn=>by
  have e:=h n (by omega) (by omega)
  have ih:=lstW_same h n (by omega)
  rw [Int.toNat_natCast] at e
  unfold lstW
  rw [e,ih]
  by_cases h4:getL 0 f n=4
  · rw [h4]
    by_cases h1:lstW f s n=1
    · simp [h1]
    · simp [h1]
  · simp [h4]
theorem weak_yields {l:List Int} {s:Int} (hb:lenL l≤100000) (hs:s=1∨s=2):Yields (weak_Weak l s) (WeakP l s):=by
 obtain ⟨a,ha,al,ag⟩:=w1_yields (l:=l) (s:=s) hb (fun x=>x≠9∧(s=1→(∀ i,0≤i→i < lenL l→getL 0 l i≠2∧getL 0 l i≠3∧getL 0 l i≠7)→x≠2∧x≠3∧x≠7))
  ⟨by omega,fun _ _=>by omega⟩ ⟨by omega,fun _ _=>by omega⟩ (fun i i0 i1 h=>⟨h,fun _ hp=>hp i i0 i1⟩)
 obtain ⟨b,hb',bl,bg,bs⟩:=w2_yields (l:=a) (s:=s) (by omega)
 obtain ⟨c,hc,cl,cg⟩:=w3_yields (l:=b) (s:=s) (by omega)
 have c3 : ∀ i,0≤i→i < lenL c→getL 0 c i≠3:=fun i i0 i1=>by rw [cg i i0 (by omega)];split<;>omega
 have b9 : ∀ i,0≤i→i < lenL l→getL 0 b i≠9:=fun i i0 i1=>by
  have h1:=(ag i i0 i1).1.1
  rcases bg i i0 (by omega) with h | h<;>omega
 have c9 : ∀ i,0≤i→i < lenL c→getL 0 c i≠9:=fun i i0 i1=>by
  have:=b9 i i0 (by omega)
  rw [cg i i0 (by omega)];split<;>omega
 have cp:s=1→(∀ i,0≤i→i < lenL l→getL 0 l i≠2∧getL 0 l i≠3∧getL 0 l i≠7)→∀ i,0≤i→i < lenL l→getL 0 c i≠2∧getL 0 c i≠3∧getL 0 c i≠7:=fun h1 hp i i0 i1=>by
  have ha1:=fun i i0 i1=>(ag i i0 i1).1.2 h1 hp
  have:=bs (by omega) (fun i i0 i1=>(ha1 i i0 (by omega)).2.1) i i0 (by omega)
  have h2:=ha1 i i0 i1
  rw [cg i i0 (by omega),this,if_neg h2.2.1];exact h2
 obtain ⟨d,hd,dl,dg⟩:=w4_yields (l:=c) (s:=s) (by omega) (fun x=>x≠3∧x≠9∧(s=1→(∀ i,0≤i→i < lenL l→getL 0 l i≠2∧getL 0 l i≠3∧getL 0 l i≠7)→x≠2∧x≠7))
  (fun i i0 i1=>⟨c3 i i0 i1,c9 i i0 i1,fun h1 hp=>⟨(cp h1 hp i i0 (by omega)).1,(cp h1 hp i i0 (by omega)).2.2⟩⟩)
 obtain ⟨e,he,el,eg⟩:=w5_yields (l:=d) (s:=s) (by omega)
 obtain ⟨f,hf,fl,fg⟩:=w6_yields (l:=e) (s:=s) (by omega)
 obtain ⟨g,hg,gl,gg⟩:=w7_yields (l:=f) (s:=s) (by omega)
 have fok : ∀ i,0≤i→i < lenL l→getL 0 f i≠3∧getL 0 f i≠5∧getL 0 f i≠6∧getL 0 f i≠8∧getL 0 f i≠9:=fun i i0 i1=>by
  have h4:=(dg i i0 (by omega)).1
  have h5:=eg i i0 (by omega)
  rw [fg i i0 (by omega)]
  split<;>omega
 have gok : ∀ i,0≤i→i < lenL l→getL 0 g i≠3∧getL 0 g i≠5∧getL 0 g i≠6∧getL 0 g i≠8∧getL 0 g i≠9:=fun i i0 i1=>by
  have:=fok i i0 i1
  rw [gg i i0 (by omega)]
  split<;>omega
 have keep : ∀ i,0≤i→i < lenL l→getL 0 l i=1∨getL 0 l i=2∨getL 0 l i=3∨getL 0 l i=4∨getL 0 l i=7→(getL 0 l i=1→getL 0 g i=1)∧(getL 0 l i=2∨getL 0 l i=3→getL 0 g i=2)∧(getL 0 l i=4→getL 0 g i=4∨getL 0 g i=7∨getL 0 g i=1)∧(getL 0 l i=7→getL 0 g i=7):=fun i i0 i1 hh=>by
  have h1:=(ag i i0 i1).2 (by omega)
  have h2:=bg i i0 (by omega)
  have h3:=cg i i0 (by omega)
  have h4:=(dg i i0 (by omega)).2
  have h5:=eg i i0 (by omega)
  have h6:=fg i i0 (by omega)
  have h7:=gg i i0 (by omega)
  rw [h1] at h2
  split at h3
  · split at h6
    · split at h7<;>omega
    · split at h7<;>omega
  · split at h6
    · split at h7<;>omega
    · split at h7<;>omega
 have hw:weak_Weak l s=some g:=weak_chain hb ha al hb' bl hc cl hd dl he el hf fl hg gl
 have hn:lenL g=lenL l:=by omega
 refine .of hw ⟨hn,gok,fun i i0 i1 h=>(keep i i0 i1 (by omega)).1 h,fun i i0 i1 h=>(keep i i0 i1 (by omega)).2.1 h,fun i i0 i1 h=>(keep i i0 i1 (by omega)).2.2.1 h,fun i i0 i1 h=>(keep i i0 i1 (by omega)).2.2.2 h,fun h1 hp i i0 i1=>?_,?_⟩
 · have f2 : ∀ i,0≤i→i < lenL l→getL 0 f i≠2∧getL 0 f i≠7:=fun i i0 i1=>by
    have h4:=(dg i i0 (by omega)).1.2.2 h1 hp
    have h5:=eg i i0 (by omega)
    rw [fg i i0 (by omega)]
    split<;>omega
   have:=f2 i i0 i1
   have hl:=lstW_no2 (l:=f) (fun i i0 i1=>(f2 i i0 (by omega)).1) i.toNat (by omega)
   subst h1
   rw [gg i i0 (by omega),hl]
   split<;>omega
 ·
  obtain ⟨a,ha,al,ag⟩:=w1_yields (l:=g) (s:=s) (by omega) (fun _=>True) trivial trivial (fun _ _ _ _=>trivial)
  obtain rfl:a=g:=ext0 al fun i i0 i1=>(ag i i0 i1).2 (gok i i0 (by omega)).2.2.2.2
  obtain ⟨b,hb2,bl2,-,bs⟩:=w2_yields (l:=a) (s:=s) (by omega)
  obtain rfl:b=a:=ext0 bl2 (bs (by omega) fun i i0 i1=>(gok i i0 (by omega)).1)
  obtain ⟨c2,hc2,cl2,cg2⟩:=w3_yields (l:=b) (s:=s) (by omega)
  obtain rfl:c2=b:=ext0 cl2 fun i i0 i1=>by rw [cg2 i i0 i1,if_neg (gok i i0 (by omega)).1]
  obtain ⟨d2,hd2,dl2,dg2⟩:=w4_yields (l:=c2) (s:=s) (by omega) (fun _=>True) (fun _ _ _=>trivial)
  obtain rfl:d2=c2:=ext0 dl2 fun i i0 i1=>(dg2 i i0 i1).2.elim id fun h=>by have:=gok i i0 (by omega);omega
  obtain ⟨e2,he2,el2,eg2⟩:=w5_yields (l:=d2) (s:=s) (by omega)
  obtain rfl:e2=d2:=ext0 el2 fun i i0 i1=>(eg2 i i0 i1).elim id fun h=>by have:=gok i i0 (by omega);omega
  obtain ⟨f2,hf2,fl2,fg2⟩:=w6_yields (l:=e2) (s:=s) (by omega)
  obtain rfl:f2=e2:=ext0 fl2 fun i i0 i1=>by have:=gok i i0 (by omega);rw [fg2 i i0 i1,if_neg (by omega)]
  obtain ⟨g2,hg2,gl2,gg2⟩:=w7_yields (l:=f2) (s:=s) (by omega)
  obtain rfl:g2=f2:=ext0 gl2 fun i i0 i1=>by
   rw [gg2 i i0 i1,lstW_same gg i.toNat (by omega),gg i i0 (by omega)]
   by_cases hh:getL 0 f i=4∧lstW f s i.toNat=1
   · rw [if_pos hh];simp
   · rw [if_neg hh,if_neg hh]
  exact weak_chain (by omega) ha al hb2 bl2 hc2 cl2 hd2 dl2 he2 el2 hf2 fl2 hg2 gl2
end Go.Vx
