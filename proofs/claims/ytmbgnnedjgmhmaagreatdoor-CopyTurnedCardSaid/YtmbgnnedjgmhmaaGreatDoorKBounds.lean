/- KA, KB, KC, KPr, KN, KLv, KLr, KBounds in one. No conditions. -/
import Derived.Test.YtmbgnnedjgmhmaaGreatDoorKLift
import Derived.Test.YtmbgnnedjgmhmaaGreatDoorVxHoare
import Derived.Test.YtmbgnnedjgmhmaaGreatDoorKTwA
import Derived.Test.YtmbgnnedjgmhmaaGreatDoorKBd
set_option linter.all false
section
namespace Go.Vx
set_option maxRecDepth 100000
theorem at_eq (l:List Int) (s i:Int):Qa ⟨l,s⟩ i=some (if i < 0∨Z0 l≤i then 0 else Z1 0 l i):=by
 unfold Qa
 refine Zd.eq (.ite (fun h=>?_) (fun h=>?_))
 · refine .ret ?_
   rw [if_pos]
   by_cases h1:i < 0
   · exact .inl h1
   · right;simpa [h1] using h
 · by_cases h1:i < 0
   · simp [h1] at h
   · have h2:i < Z0 l:=by simpa [h1] using h
     refine .chk ⟨by omega,h2⟩ (.ret ?_)
     rw [if_neg (by omega)]
theorem clone_eq (l:List Int) (hb:Z0 l≤100000):Yb l=some l:=by
 have hn:=Zc l
 have e:(chk (Yt 8 (Z0 l)) <| some l)=some l:=Yp (grOk hn (by omega) (by omega))
 unfold Yb
 rw [nilO_eq]
 · show chk (Yt 8 (Z0 l)) (some l)=some l
   exact e
 · intro h0
   have hl:l=[]:=by
    cases l with
    | nil=>rfl
    | cons a r=>exfalso;have:=Zc r;simp at h0;omega
   subst hl
   show some ([]:List Int)=chk (Yt 8 (Z0 ([]:List Int))) (some [])
   exact e.symm
theorem w1_yields {l:List Int} {s:Int} (hb:Z0 l≤100000) (Q:Int→Prop) (hs:Q s) (h14:Q 14) (hl : ∀ i,0≤i→i < Z0 l→Z1 0 l i≠9→Q (Z1 0 l i)) :
  Zd (w1 ⟨l,s⟩) (fun o=>Z0 o=Z0 l∧∀ i,0≤i→i < Z0 l→Q (Z1 0 o i)∧(Z1 0 l i≠9→Z1 0 o i=Z1 0 l i)):=by
 have hn:=Zc l
 unfold w1
 refine .loop (fun x=>Q x.1∧0≤x.2.1∧x.2.1≤Z0 l∧Z0 x.2.2=Z0 l∧(∀ i,0≤i→i < x.2.1→Q (Z1 0 x.2.2 i)∧(Z1 0 l i≠9→Z1 0 x.2.2 i=Z1 0 l i))∧(∀ i,x.2.1≤i→i < Z0 l→Z1 0 x.2.2 i=Z1 0 l i)) (fun x=>(Z0 l-x.2.1).toNat)
  ⟨hs,by simp only;omega,hn,rfl,fun i h0 h1=>by simp only at h1;omega,fun i h0 h1=>rfl⟩ ?_
 rintro ⟨a,v,o⟩ ⟨ha,v0,vn,hlen,hg,hr⟩
 simp only at ha v0 vn hlen hg hr ⊢
 refine .ite (fun h=>?_) (fun h=>?_)
 · have h:v < Z0 l:=by simpa using h
   have hv:=hr v (Int.le_refl _) h
   refine .cut (fun r=>∃ a' o',r = .go (a',o')∧Q a'∧Z0 o'=Z0 l∧(∀ i,0≤i→i < v+1→Q (Z1 0 o' i)∧(Z1 0 l i≠9→Z1 0 o' i=Z1 0 l i))∧(∀ i,v+1≤i→i < Z0 l→Z1 0 o' i=Z1 0 l i)) ?_ ?_
   · refine .chk ⟨v0,h⟩ ?_
     simp only [Int.zero_add]
     refine .cut (fun r=>∃ o',r = .go o'∧Q (Z1 0 o' v)∧Z0 o'=Z0 l∧(Z1 0 l v≠9→Z1 0 o' v=Z1 0 l v)∧(∀ i,0≤i→i < Z0 l→i≠v→Z1 0 o' i=Z1 0 o i)) ?_ ?_
     · refine .ite (fun h9=>?_) (fun h9=>?_)
       · have h9:Z1 0 o v=9:=by simpa using h9
         refine .chk ⟨v0,h⟩ (.ret ⟨_,rfl,?_,by simp [hlen],fun hne=>absurd (hv ▸ h9) hne,fun i i0 i1 hne=>?_⟩)
         · rw [Zk v0 v0 (by omega),if_pos rfl];exact ha
         · rw [Zk v0 i0 (by omega),if_neg hne]
       · have h9:Z1 0 o v≠9:=by simpa using h9
         rw [hv] at h9
         exact .ret ⟨o,rfl,by rw [hv];exact hl v v0 h h9,hlen,fun _=>hv,fun i _ _ _=>rfl⟩
     rintro r ⟨o',rfl,q1,q2,q3,q4⟩
     have fin : ∀ c:Int,Q c→Zd (some (Fl.go (γ:=Fl (Int × Int × List Int) (List Int)) (c,o'))) (fun r=>∃ a' o',r = .go (a',o')∧Q a'∧Z0 o'=Z0 l∧(∀ i,0≤i→i < v+1→Q (Z1 0 o' i)∧(Z1 0 l i≠9→Z1 0 o' i=Z1 0 l i))∧(∀ i,v+1≤i→i < Z0 l→Z1 0 o' i=Z1 0 l i)):=by
      intro c hc
      refine .ret ⟨c,o',rfl,hc,q2,fun i i0 i1=>?_,fun i i0 i1=>?_⟩
      · by_cases e:i=v
        · subst e;exact ⟨q1,q3⟩
        · rw [q4 i i0 (by omega) e];exact hg i i0 (by omega)
      · rw [q4 i (by omega) i1 (by omega)];exact hr i (by omega) i1
     refine .go (.chk ⟨v0,h⟩ ?_)
     refine .ite (fun h1=>.ite (fun _=>fin _ h14) (fun _=>fin _ q1)) (fun h1=>.ite (fun h1=>.ite (fun _=>fin _ h14) (fun _=>fin _ q1)) (fun h1=>.ite (fun h1=>.ite (fun _=>fin _ h14) (fun _=>fin _ q1)) (fun h1=>.ite (fun _=>fin _ h14) (fun _=>fin _ q1))))
   rintro r ⟨a',o',rfl,q1,q2,q3,q4⟩
   exact .go (.chk (Zm (by omega) (by omega)) (.ret ⟨⟨q1,by simp only;omega,by simp only;omega,q2,q3,q4⟩,by simp only;omega⟩))
 · have h:Z0 l≤v:=by simpa using h
   exact .ret ⟨hlen,fun i i0 i1=>hg i i0 (by omega)⟩
theorem w2_yields {l:List Int} {s:Int} (hb:Z0 l≤100000) :
  Zd (w2 ⟨l,s⟩) (fun o=>Z0 o=Z0 l∧(∀ i,0≤i→i < Z0 l→Z1 0 o i=Z1 0 l i∨Z1 0 l i=4∧Z1 0 o i=7)∧(s≠3→(∀ i,0≤i→i < Z0 l→Z1 0 l i≠3)→∀ i,0≤i→i < Z0 l→Z1 0 o i=Z1 0 l i)):=by
 have hn:=Zc l
 unfold w2
 refine .loop (fun x=>0≤x.2.1∧x.2.1≤Z0 l∧Z0 x.2.2=Z0 l∧(∀ i,0≤i→i < x.2.1→Z1 0 x.2.2 i=Z1 0 l i∨Z1 0 l i=4∧Z1 0 x.2.2 i=7)∧(∀ i,x.2.1≤i→i < Z0 l→Z1 0 x.2.2 i=Z1 0 l i)∧(s≠3→(∀ i,0≤i→i < Z0 l→Z1 0 l i≠3)→x.1≠3∧∀ i,0≤i→i < Z0 l→Z1 0 x.2.2 i=Z1 0 l i)) (fun x=>(Z0 l-x.2.1).toNat)
  ⟨by simp only;omega,hn,rfl,fun i h0 h1=>by simp only at h1;omega,fun i h0 h1=>rfl,fun hs _=>⟨hs,fun _ _ _=>rfl⟩⟩ ?_
 rintro ⟨a,v,o⟩ ⟨v0,vn,hlen,hg,hr,hx⟩
 simp only at v0 vn hlen hg hr hx ⊢
 refine .ite (fun h=>?_) (fun h=>?_)
 · have h:v < Z0 l:=by simpa using h
   have hv:=hr v (Int.le_refl _) h
   refine .cut (fun r=>∃ a' o',r = .go (a',o')∧Z0 o'=Z0 l∧(Z1 0 o' v=Z1 0 l v∨Z1 0 l v=4∧Z1 0 o' v=7)∧(∀ i,0≤i→i < Z0 l→i≠v→Z1 0 o' i=Z1 0 o i)∧(s≠3→(∀ i,0≤i→i < Z0 l→Z1 0 l i≠3)→a'≠3∧o'=o)) ?_ ?_
   · refine .chk ⟨v0,h⟩ ?_
     simp only [Int.zero_add,hv]
     refine .cut (fun r=>∃ b,r = .go b) (.ite (fun _=>.ret ⟨_,rfl⟩) (fun _=>.ite (fun _=>.ret ⟨_,rfl⟩) (fun _=>.ret ⟨_,rfl⟩))) ?_
     rintro r ⟨b,rfl⟩
     refine .go (.ite (fun _=>?_) (fun _=>.ite (fun h4=>.ite (fun h3=>?_) (fun _=>?_)) (fun _=>?_)))
     · exact .ret ⟨_,o,rfl,hlen,.inl hv,fun _ _ _ _=>rfl,fun h1 h2=>⟨h2 v v0 h,rfl⟩⟩
     · have h3:a=3:=by simpa using h3
       have h4:Z1 0 l v=4:=by simpa using h4
       refine .chk ⟨v0,h⟩ (.ret ⟨a,_,rfl,by simp [hlen],.inr ⟨h4,by rw [Zk v0 v0 (by omega),if_pos rfl]⟩,fun i i0 i1 hne=>by rw [Zk v0 i0 (by omega),if_neg hne],fun h1 h2=>absurd h3 (hx h1 h2).1⟩)
     · exact .ret ⟨_,o,rfl,hlen,.inl hv,fun _ _ _ _=>rfl,fun h1 h2=>⟨(hx h1 h2).1,rfl⟩⟩
     · exact .ret ⟨_,o,rfl,hlen,.inl hv,fun _ _ _ _=>rfl,fun h1 h2=>⟨(hx h1 h2).1,rfl⟩⟩
   rintro r ⟨a',o',rfl,q1,q2,q3,q4⟩
   refine .go (.chk (Zm (by omega) (by omega)) (.ret ⟨⟨by simp only;omega,by simp only;omega,q1,fun i i0 i1=>?_,fun i i0 i1=>?_,fun h1 h2=>?_⟩,by simp only;omega⟩))
   · simp only at i1 ⊢
     by_cases e:i=v
     · subst e;exact q2
     · rw [q3 i i0 (by omega) e];exact hg i i0 (by omega)
   · simp only at i0 ⊢
     rw [q3 i (by omega) i1 (by omega)];exact hr i (by omega) i1
   · obtain ⟨r1,rfl⟩:=q4 h1 h2
     exact ⟨r1,(hx h1 h2).2⟩
 · have h:Z0 l≤v:=by simpa using h
   exact .ret ⟨hlen,fun i i0 i1=>hg i i0 (by omega),fun h1 h2=>(hx h1 h2).2⟩
theorem w3_yields {l:List Int} {s:Int} (hb:Z0 l≤100000) :
  Zd (w3 ⟨l,s⟩) (fun o=>Z0 o=Z0 l∧∀ i,0≤i→i < Z0 l→Z1 0 o i=if Z1 0 l i=3 then 2 else Z1 0 l i):=by
 have hn:=Zc l
 unfold w3
 refine .loop (fun x=>0≤x.1∧x.1≤Z0 l∧Z0 x.2=Z0 l∧(∀ i,0≤i→i < x.1→Z1 0 x.2 i=if Z1 0 l i=3 then 2 else Z1 0 l i)∧(∀ i,x.1≤i→i < Z0 l→Z1 0 x.2 i=Z1 0 l i)) (fun x=>(Z0 l-x.1).toNat)
  ⟨by simp only;omega,hn,rfl,fun i h0 h1=>by simp only at h1;omega,fun i h0 h1=>rfl⟩ ?_
 rintro ⟨v,o⟩ ⟨v0,vn,hlen,hg,hr⟩
 simp only at v0 vn hlen hg hr ⊢
 refine .ite (fun h=>?_) (fun h=>?_)
 · have h:v < Z0 l:=by simpa using h
   have hv:=hr v (Int.le_refl _) h
   refine .chk ⟨v0,h⟩ ?_
   simp only [Int.zero_add,hv]
   refine .ite (fun h3=>.chk ⟨v0,h⟩ (.chk (Zm (by omega) (by omega)) (.ret ⟨⟨by simp only;omega,by simp only;omega,by simp [hlen],fun i i0 i1=>?_,fun i i0 i1=>?_⟩,by simp only;omega⟩)))
    (fun h3=>.chk (Zm (by omega) (by omega)) (.ret ⟨⟨by simp only;omega,by simp only;omega,hlen,fun i i0 i1=>?_,fun i i0 i1=>hr i (by simp only at i0;omega) i1⟩,by simp only;omega⟩))
   · have h3:Z1 0 l v=3:=by simpa using h3
     simp only at i1 ⊢
     rw [Zk v0 i0 (by omega)]
     by_cases e:i=v
     · subst e;rw [if_pos rfl,if_pos h3]
     · rw [if_neg e];exact hg i i0 (by omega)
   · simp only at i0 ⊢
     rw [Zk v0 (by omega) (by omega),if_neg (by omega)];exact hr i (by omega) i1
   · have h3:Z1 0 l v≠3:=by simpa using h3
     simp only at i1 ⊢
     by_cases e:i=v
     · subst e;rw [if_neg h3];exact hv
     · exact hg i i0 (by omega)
 · have h:Z0 l≤v:=by simpa using h
   exact .ret ⟨hlen,fun i i0 i1=>hg i i0 (by omega)⟩
theorem w4_yields {l:List Int} {s:Int} (hb:Z0 l≤100000) (Q:Int→Prop) (hq : ∀ i,0≤i→i < Z0 l→Q (Z1 0 l i)) :
  Zd (w4 ⟨l,s⟩) (fun o=>Z0 o=Z0 l∧∀ i,0≤i→i < Z0 l→Q (Z1 0 o i)∧(Z1 0 o i=Z1 0 l i∨(Z1 0 l i=5∨Z1 0 l i=8)∧(Z1 0 o i=4∨Z1 0 o i=7))):=by
 have hn:=Zc l
 unfold w4
 refine .loop (fun x=>0≤x.1∧x.1≤Z0 l∧Z0 x.2=Z0 l∧(∀ i,0≤i→i < Z0 l→Q (Z1 0 x.2 i)∧(Z1 0 x.2 i=Z1 0 l i∨(Z1 0 l i=5∨Z1 0 l i=8)∧(Z1 0 x.2 i=4∨Z1 0 x.2 i=7)))∧(∀ i,x.1≤i→i < Z0 l→Z1 0 x.2 i=Z1 0 l i)) (fun x=>(Z0 l-x.1).toNat)
  ⟨by simp only;omega,hn,rfl,fun i h0 h1=>⟨hq i h0 h1,.inl rfl⟩,fun i h0 h1=>rfl⟩ ?_
 rintro ⟨v,o⟩ ⟨v0,vn,hlen,hg,hr⟩
 simp only at v0 vn hlen hg hr ⊢
 refine .ite (fun h=>?_) (fun h=>?_)
 · have h:v < Z0 l:=by simpa using h
   have hv:=hr v (Int.le_refl _) h
   have same:Zd (chk (inR .i64 (v+1)) <| some (Fl.go (γ:=List Int) ((v+1),o))) (StepP (fun x=>0≤x.1∧x.1≤Z0 l∧Z0 x.2=Z0 l∧(∀ i,0≤i→i < Z0 l→Q (Z1 0 x.2 i)∧(Z1 0 x.2 i=Z1 0 l i∨(Z1 0 l i=5∨Z1 0 l i=8)∧(Z1 0 x.2 i=4∨Z1 0 x.2 i=7)))∧(∀ i,x.1≤i→i < Z0 l→Z1 0 x.2 i=Z1 0 l i)) (fun x=>(Z0 l-x.1).toNat) (fun o=>Z0 o=Z0 l∧∀ i,0≤i→i < Z0 l→Q (Z1 0 o i)∧(Z1 0 o i=Z1 0 l i∨(Z1 0 l i=5∨Z1 0 l i=8)∧(Z1 0 o i=4∨Z1 0 o i=7))) (v,o)) :=
    .chk (Zm (by omega) (by omega)) (.ret ⟨⟨by simp only;omega,by simp only;omega,hlen,hg,fun i i0 i1=>hr i (by simp only at i0;omega) i1⟩,by simp only;omega⟩)
   refine .chk ⟨v0,h⟩ (.chk (Zm (by omega) (by omega)) (.call (at_eq _ _ _) (.chk (Zm (by omega) (by omega)) (.call (at_eq _ _ _) ?_))))
   simp only [Int.zero_add,hv]
   generalize hA:(if v-1 < 0∨Z0 o≤v-1 then 0 else Z1 0 o (v-1))=A
   refine .ite (fun _=>same) (fun _=>.ite (fun hc=>?_) (fun _=>same))
   have hc:(A=4∧(Z1 0 l v=5∨Z1 0 l v=8))∨(A=7∧Z1 0 l v=8):=by
    revert hc
    by_cases h1:A=4
    · by_cases h2:Z1 0 l v=5
      · intro _;exact .inl ⟨h1,.inl h2⟩
      · by_cases h3:Z1 0 l v=8
        · intro _;exact .inl ⟨h1,.inr h3⟩
        · subst h1;simp [h2,h3]
    · by_cases h3:Z1 0 l v=8
      · by_cases h4:A=7
        · intro _;exact .inr ⟨h4,h3⟩
        · simp [h1,h4]
      · by_cases h4:A=7<;>simp [h1,h3,h4]
   have hQ:Q A∧(A=4∨A=7):=by
    have h47:A=4∨A=7:=hc.elim (fun a=>.inl a.1) (fun a=>.inr a.1)
    refine ⟨?_,h47⟩
    rw [← hA] at h47 ⊢
    split at h47
    · omega
    · rename_i hh
      rw [if_neg hh]
      exact (hg (v-1) (by omega) (by omega)).1
   have h58:Z1 0 l v=5∨Z1 0 l v=8:=hc.elim (fun a=>a.2) (fun a=>.inr a.2)
   refine .chk ⟨v0,h⟩ (.chk (Zm (by omega) (by omega)) (.ret ⟨⟨by simp only;omega,by simp only;omega,by simp [hlen],fun i i0 i1=>?_,fun i i0 i1=>?_⟩,by simp only;omega⟩))
   · simp only
     rw [Zk v0 i0 (by omega)]
     by_cases e:i=v
     · subst e;rw [if_pos rfl];exact ⟨hQ.1,.inr ⟨h58,hQ.2⟩⟩
     · rw [if_neg e];exact hg i i0 i1
   · simp only at i0 ⊢
     rw [Zk v0 (by omega) (by omega),if_neg (by omega)];exact hr i (by omega) i1
 · have h:Z0 l≤v:=by simpa using h
   exact .ret ⟨hlen,hg⟩
end Go.Vx
end
section
namespace Go.Vx
set_option maxRecDepth 100000
theorem w5_yields {l:List Int} {s:Int} (hb:Z0 l≤100000) :
  Zd (w5 ⟨l,s⟩) (fun o=>Z0 o=Z0 l∧∀ i,0≤i→i < Z0 l→Z1 0 o i=Z1 0 l i∨Z1 0 l i=6∧Z1 0 o i=4):=by
 have hn:=Zc l
 unfold w5
 refine .loop (fun x=>0≤x.1∧x.1≤Z0 l∧Z0 x.2=Z0 l∧(∀ i,0≤i→i < Z0 l→Z1 0 x.2 i=Z1 0 l i∨Z1 0 l i=6∧Z1 0 x.2 i=4)∧(∀ i,x.1≤i→i < Z0 l→Z1 0 x.2 i=Z1 0 l i)) (fun x=>(Z0 l-x.1).toNat)
  ⟨by simp only;omega,hn,rfl,fun i h0 h1=>.inl rfl,fun i h0 h1=>rfl⟩ ?_
 rintro ⟨v,o⟩ ⟨v0,vn,hlen,hg,hr⟩
 simp only at v0 vn hlen hg hr ⊢
 refine .ite (fun h=>?_) (fun h=>?_)
 · have h:v < Z0 l:=by simpa using h
   have hv:=hr v (Int.le_refl _) h
   refine .chk ⟨v0,h⟩ ?_
   simp only [Int.zero_add,hv]
   refine .ite (fun h6=>.chk (Zm (by omega) (by omega)) (.ret ⟨⟨by simp only;omega,by simp only;omega,hlen,hg,fun i i0 i1=>hr i (by simp only at i0;omega) i1⟩,by simp only;omega⟩)) (fun h6=>?_)
   have h6:Z1 0 l v=6:=by simpa using h6
   refine .cut (fun r=>∃ e,r = .go e∧v < e∧e≤Z0 l∧∀ i,v≤i→i < e→Z1 0 l i=6) ?_ ?_
   · refine .loop (fun e=>v≤e∧e≤Z0 l∧∀ i,v≤i→i < e→Z1 0 l i=6) (fun e=>(Z0 l-e).toNat) ⟨Int.le_refl _,vn,fun i i0 i1=>by omega⟩ ?_
     rintro e ⟨e0,e1,eg⟩
     refine .call (at_eq _ _ _) (.ite (fun h2=>?_) (fun h2=>?_))
     · have hh : ¬ (e < 0∨Z0 o≤e):=fun hh=>by rw [if_pos hh] at h2;cases h2
       rw [if_neg hh,hr e e0 (by omega)] at h2
       have h2:Z1 0 l e=6:=by simpa using h2
       refine .chk (Zm (by omega) (by omega)) (.ret ⟨⟨by omega,by omega,fun i i0 i1=>?_⟩,by show (_-_:Int).toNat < (_-_:Int).toNat;omega⟩)
       by_cases q:i=e
       · subst q;exact h2
       · exact eg i i0 (by omega)
     · refine .ret ⟨e,rfl,?_,e1,eg⟩
       by_cases q:e=v
       · exfalso
         subst q
         rw [if_neg (by omega),hv,h6] at h2
         cases h2
       · omega
   rintro r ⟨e,rfl,ve,en,eg⟩
   refine .go ?_
   refine .cut (fun r=>∃ o',r = .go o'∧Z0 o'=Z0 l∧(∀ i,0≤i→i < Z0 l→Z1 0 o' i=Z1 0 o i∨Z1 0 l i=6∧Z1 0 o' i=4)∧(∀ i,e≤i→i < Z0 l→Z1 0 o' i=Z1 0 l i)) ?_ ?_
   · refine .chk (Zm (by omega) (by omega)) (.call (at_eq _ _ _) ?_)
     refine .bind (fun _=>True) ?_ (fun b _=>?_)
     · generalize (!(if v-1 < 0∨Z0 o≤v-1 then 0 else Z1 0 o (v-1)) == 4)=bb
       cases bb
       · exact .of (v:=0) rfl trivial
       · exact .of (at_eq o s e) trivial
     refine .ite (fun _=>?_) (fun _=>.ret ⟨o,rfl,hlen,fun i i0 i1=>.inl rfl,fun i i0 i1=>hr i (by omega) i1⟩)
     refine .loop (fun x=>v≤x.1∧x.1≤e∧Z0 x.2=Z0 l∧(∀ i,0≤i→i < Z0 l→Z1 0 x.2 i=Z1 0 o i∨Z1 0 l i=6∧Z1 0 x.2 i=4)∧(∀ i,e≤i→i < Z0 l→Z1 0 x.2 i=Z1 0 l i)) (fun x=>(e-x.1).toNat)
      ⟨Int.le_refl _,by simp only;omega,hlen,fun i h0 h1=>.inl rfl,fun i h0 h1=>hr i (by omega) h1⟩ ?_
     rintro ⟨j,q⟩ ⟨j0,j1,ql,qg,qr⟩
     simp only at j0 j1 ql qg qr ⊢
     refine .ite (fun hj=>?_) (fun _=>.ret ⟨q,rfl,ql,qg,qr⟩)
     have hj:j < e:=by simpa using hj
     refine .chk ⟨by omega,by omega⟩ (.chk (Zm (by omega) (by omega)) (.ret ⟨⟨by simp only;omega,by simp only;omega,by simp [ql],fun i i0 i1=>?_,fun i i0 i1=>?_⟩,by simp only;omega⟩))
     · simp only
       rw [Zk (by omega) i0 (by omega)]
       by_cases w:i=j
       · subst w;rw [if_pos rfl];exact .inr ⟨eg i j0 hj,rfl⟩
       · rw [if_neg w];exact qg i i0 i1
     · simp only
       rw [Zk (by omega) (by omega) (by omega),if_neg (by omega)];exact qr i i0 i1
   rintro r ⟨o',rfl,ol,og,or'⟩
   refine .go (.ret ⟨⟨by simp only;omega,en,ol,fun i i0 i1=>?_,or'⟩,by simp only;omega⟩)
   simp only
   rcases og i i0 i1 with q | q
   · rw [q];exact hg i i0 i1
   · exact .inr q
 · have h:Z0 l≤v:=by simpa using h
   exact .ret ⟨hlen,fun i i0 i1=>hg i i0 (by omega)⟩
theorem w6_yields {l:List Int} {s:Int} (hb:Z0 l≤100000) :
  Zd (w6 ⟨l,s⟩) (fun o=>Z0 o=Z0 l∧∀ i,0≤i→i < Z0 l→Z1 0 o i=if Z1 0 l i=5∨Z1 0 l i=6∨Z1 0 l i=8 then 14 else Z1 0 l i):=by
 have hn:=Zc l
 unfold w6
 refine .loop (fun x=>0≤x.1∧x.1≤Z0 l∧Z0 x.2=Z0 l∧(∀ i,0≤i→i < x.1→Z1 0 x.2 i=if Z1 0 l i=5∨Z1 0 l i=6∨Z1 0 l i=8 then 14 else Z1 0 l i)∧(∀ i,x.1≤i→i < Z0 l→Z1 0 x.2 i=Z1 0 l i)) (fun x=>(Z0 l-x.1).toNat)
  ⟨by simp only;omega,hn,rfl,fun i h0 h1=>by simp only at h1;omega,fun i h0 h1=>rfl⟩ ?_
 rintro ⟨v,o⟩ ⟨v0,vn,hlen,hg,hr⟩
 simp only at v0 vn hlen hg hr ⊢
 refine .ite (fun h=>?_) (fun h=>?_)
 · have h:v < Z0 l:=by simpa using h
   have hv:=hr v (Int.le_refl _) h
   refine .chk ⟨v0,h⟩ ?_
   simp only [Int.zero_add,hv]
   have fin : ∀ o':List Int,Z0 o'=Z0 l→(∀ i,0≤i→i < Z0 l→i≠v→Z1 0 o' i=Z1 0 o i)→(Z1 0 o' v=if Z1 0 l v=5∨Z1 0 l v=6∨Z1 0 l v=8 then 14 else Z1 0 l v) →
     Zd (chk (inR .i64 (v+1)) <| some (Fl.go (γ:=List Int) ((v+1),o'))) (StepP (fun x=>0≤x.1∧x.1≤Z0 l∧Z0 x.2=Z0 l∧(∀ i,0≤i→i < x.1→Z1 0 x.2 i=if Z1 0 l i=5∨Z1 0 l i=6∨Z1 0 l i=8 then 14 else Z1 0 l i)∧(∀ i,x.1≤i→i < Z0 l→Z1 0 x.2 i=Z1 0 l i)) (fun x=>(Z0 l-x.1).toNat) (fun o=>Z0 o=Z0 l∧∀ i,0≤i→i < Z0 l→Z1 0 o i=if Z1 0 l i=5∨Z1 0 l i=6∨Z1 0 l i=8 then 14 else Z1 0 l i) (v,o)):=by
    intro o' h1 h2 h3
    refine .chk (Zm (by omega) (by omega)) (.ret ⟨⟨by simp only;omega,by simp only;omega,h1,fun i i0 i1=>?_,fun i i0 i1=>?_⟩,by simp only;omega⟩)
    · simp only at i1 ⊢
      by_cases e:i=v
      · subst e;exact h3
      · rw [h2 i i0 (by omega) e];exact hg i i0 (by omega)
    · simp only at i0 ⊢
      rw [h2 i (by omega) i1 (by omega)];exact hr i (by omega) i1
   have put:(Z1 0 l v=5∨Z1 0 l v=6∨Z1 0 l v=8)→Zd (chk (0≤v∧v < Z0 l) <| chk (inR .i64 (v+1)) <| some (Fl.go (γ:=List Int) ((v+1),Yc o v 14))) (StepP (fun x=>0≤x.1∧x.1≤Z0 l∧Z0 x.2=Z0 l∧(∀ i,0≤i→i < x.1→Z1 0 x.2 i=if Z1 0 l i=5∨Z1 0 l i=6∨Z1 0 l i=8 then 14 else Z1 0 l i)∧(∀ i,x.1≤i→i < Z0 l→Z1 0 x.2 i=Z1 0 l i)) (fun x=>(Z0 l-x.1).toNat) (fun o=>Z0 o=Z0 l∧∀ i,0≤i→i < Z0 l→Z1 0 o i=if Z1 0 l i=5∨Z1 0 l i=6∨Z1 0 l i=8 then 14 else Z1 0 l i) (v,o)):=by
    intro hh
    refine .chk ⟨v0,h⟩ (fin _ (by simp [hlen]) (fun i i0 i1 hne=>by rw [Zk v0 i0 (by omega),if_neg hne]) (by rw [Zk v0 v0 (by omega),if_pos rfl,if_pos hh]))
   have keep:Z1 0 l v≠5→Z1 0 l v≠6→Z1 0 l v≠8→_:=fun a b c=>fin o hlen (fun _ _ _ _=>rfl) (by rw [hv,if_neg (by omega)])
   refine .ite (fun h5=>.ite (fun _=>put (.inl (by simpa using h5))) (fun h=>by simp [h5] at h)) (fun h5=>.ite (fun h6=>.ite (fun _=>put (.inr (.inl (by simpa using h6)))) (fun h=>by simp [h6] at h)) (fun h6=>.ite (fun h8=>put (.inr (.inr (by simpa using h8)))) (fun h8=>keep (by simpa using h5) (by simpa using h6) (by simpa using h8))))
 · have h:Z0 l≤v:=by simpa using h
   exact .ret ⟨hlen,fun i i0 i1=>hg i i0 (by omega)⟩
def lstW (l:List Int) (s:Int):Nat→Int
 | 0=>s
 | n+1=>if Z1 0 l n=1∨Z1 0 l n=2 then Z1 0 l n else lstW l s n
theorem w7_yields {l:List Int} {s:Int} (hb:Z0 l≤100000) :
  Zd (w7 ⟨l,s⟩) (fun o=>Z0 o=Z0 l∧∀ i,0≤i→i < Z0 l→Z1 0 o i=if Z1 0 l i=4∧lstW l s i.toNat=1 then 1 else Z1 0 l i):=by
 have hn:=Zc l
 unfold w7
 refine .loop (fun x=>x.1=lstW l s x.2.1.toNat∧0≤x.2.1∧x.2.1≤Z0 l∧Z0 x.2.2=Z0 l∧(∀ i,0≤i→i < x.2.1→Z1 0 x.2.2 i=if Z1 0 l i=4∧lstW l s i.toNat=1 then 1 else Z1 0 l i)∧(∀ i,x.2.1≤i→i < Z0 l→Z1 0 x.2.2 i=Z1 0 l i)) (fun x=>(Z0 l-x.2.1).toNat)
  ⟨rfl,by simp only;omega,hn,rfl,fun i h0 h1=>by simp only at h1;omega,fun i h0 h1=>rfl⟩ ?_
 rintro ⟨a,v,o⟩ ⟨ha,v0,vn,hlen,hg,hr⟩
 simp only at ha v0 vn hlen hg hr ⊢
 refine .ite (fun h=>?_) (fun h=>?_)
 · have h:v < Z0 l:=by simpa using h
   have hv:=hr v (Int.le_refl _) h
   refine .chk ⟨v0,h⟩ ?_
   simp only [Int.zero_add,hv]
   have ev:(v.toNat:Int)=v:=by omega
   have hla:lstW l s (v+1).toNat=if Z1 0 l v=1∨Z1 0 l v=2 then Z1 0 l v else a:=by
    rw [show (v+1).toNat=v.toNat+1 by omega]
    show (if Z1 0 l (v.toNat:Int)=1∨Z1 0 l (v.toNat:Int)=2 then Z1 0 l (v.toNat:Int) else lstW l s v.toNat)=_
    rw [ev,← ha]
   have fin : ∀ (a':Int) (o':List Int),a'=lstW l s (v+1).toNat→Z0 o'=Z0 l→(∀ i,0≤i→i < Z0 l→i≠v→Z1 0 o' i=Z1 0 o i)→(Z1 0 o' v=if Z1 0 l v=4∧a=1 then 1 else Z1 0 l v) →
     Zd (chk (inR .i64 (v+1)) <| some (Fl.go (γ:=List Int) (a',(v+1),o'))) (StepP (fun x=>x.1=lstW l s x.2.1.toNat∧0≤x.2.1∧x.2.1≤Z0 l∧Z0 x.2.2=Z0 l∧(∀ i,0≤i→i < x.2.1→Z1 0 x.2.2 i=if Z1 0 l i=4∧lstW l s i.toNat=1 then 1 else Z1 0 l i)∧(∀ i,x.2.1≤i→i < Z0 l→Z1 0 x.2.2 i=Z1 0 l i)) (fun x=>(Z0 l-x.2.1).toNat) (fun o=>Z0 o=Z0 l∧∀ i,0≤i→i < Z0 l→Z1 0 o i=if Z1 0 l i=4∧lstW l s i.toNat=1 then 1 else Z1 0 l i) (a,v,o)):=by
    intro a' o' h0 h1 h2 h3
    refine .chk (Zm (by omega) (by omega)) (.ret ⟨⟨h0,by simp only;omega,by simp only;omega,h1,fun i i0 i1=>?_,fun i i0 i1=>?_⟩,by simp only;omega⟩)
    · simp only at i1 ⊢
      by_cases e:i=v
      · subst e;rw [h3,ha]
      · rw [h2 i i0 (by omega) e];exact hg i i0 (by omega)
    · simp only at i0 ⊢
      rw [h2 i (by omega) i1 (by omega)];exact hr i (by omega) i1
   have strong:(Z1 0 l v=1∨Z1 0 l v=2)→_:=fun q=>fin (Z1 0 l v) o (by rw [hla,if_pos q]) hlen (fun _ _ _ _=>rfl) (by rw [hv,if_neg (by omega)])
   have toL:Z1 0 l v=4→a=1→Zd (chk (0≤v∧v < Z0 l) <| chk (inR .i64 (v+1)) <| some (Fl.go (γ:=List Int) (a,(v+1),Yc o v 1))) _:=fun q1 q2 =>
    .chk ⟨v0,h⟩ (fin a _ (by rw [hla,if_neg (by omega)]) (by simp [hlen]) (fun i i0 i1 hne=>by rw [Zk v0 i0 (by omega),if_neg hne]) (by rw [Zk v0 v0 (by omega),if_pos rfl,if_pos ⟨q1,q2⟩]))
   have keep : ¬ (Z1 0 l v=1∨Z1 0 l v=2)→¬ (Z1 0 l v=4∧a=1)→_:=fun q1 q2=>fin a o (by rw [hla,if_neg q1]) hlen (fun _ _ _ _=>rfl) (by rw [hv,if_neg q2])
   refine .ite (fun h2=>.ite (fun _=>strong (.inr (by simpa using h2))) (fun h=>by simp [h2] at h)) (fun h2=>.ite (fun h1=>strong (.inl (by simpa using h1))) (fun h1=>?_))
   have h1:Z1 0 l v≠1:=by simpa using h1
   have h2:Z1 0 l v≠2:=by simpa using h2
   refine .ite (fun h4=>?_) (fun h4=>?_)
   · have h4:Z1 0 l v=4:=by simpa using h4
     refine .ite (fun hA=>toL h4 (by simpa using hA)) (fun hA=>?_)
     have hA:a≠1:=by simpa using hA
     exact keep (by omega) (by omega)
   · have h4:Z1 0 l v≠4:=by simpa using h4
     exact keep (by omega) (by omega)
 · have h:Z0 l≤v:=by simpa using h
   exact .ret ⟨hlen,fun i i0 i1=>hg i i0 (by omega)⟩
theorem weak_chain {l a b c d e f g:List Int} {s:Int} (hb:Z0 l≤100000) (h1:w1 ⟨l,s⟩=some a) (e1:Z0 a=Z0 l) (h2:w2 ⟨a,s⟩=some b) (e2:Z0 b=Z0 a) (h3:w3 ⟨b,s⟩=some c) (e3:Z0 c=Z0 b)
  (h4:w4 ⟨c,s⟩=some d) (e4:Z0 d=Z0 c) (h5:w5 ⟨d,s⟩=some e) (e5:Z0 e=Z0 d) (h6:w6 ⟨e,s⟩=some f) (e6:Z0 f=Z0 e) (h7:w7 ⟨f,s⟩=some g) (e7:Z0 g=Z0 f):Z1f l s=some g:=by
 refine Zd.eq ?_
 unfold Z1f
 refine .call (clone_eq l hb) ?_
 have R : ∀ k:Int,0≤k→k≤100→inR .i64 (k+1):=fun k h0 h1=>Zm (by omega) (by omega)
 refine .cut (fun r=>r = .go g) ?_ (fun r hr=>by subst hr;exact .go (.ret rfl))
 refine .cut (fun r=>r = .go a) (.cut (fun r=>r = .go a) (.cut (fun r=>r = .go ()) (.chk (by omega) (.ret rfl)) (fun r hr=>by subst hr;exact .go (.call h1 (.chk e1 (.ret rfl))))) (fun r hr=>by subst hr;exact .go (.chk (R 0 (by omega) (by omega)) (.ret rfl)))) (fun r hr=>?_)
 subst hr;refine .go ?_
 refine .cut (fun r=>r = .go b) (.cut (fun r=>r = .go b) (.cut (fun r=>r = .go ()) (.chk (by omega) (.ret rfl)) (fun r hr=>by subst hr;exact .go (.call h2 (.chk e2 (.ret rfl))))) (fun r hr=>by subst hr;exact .go (.chk (R 1 (by omega) (by omega)) (.ret rfl)))) (fun r hr=>?_)
 subst hr;refine .go ?_
 refine .cut (fun r=>r = .go c) (.cut (fun r=>r = .go c) (.cut (fun r=>r = .go ()) (.chk (by omega) (.ret rfl)) (fun r hr=>by subst hr;exact .go (.call h3 (.chk e3 (.ret rfl))))) (fun r hr=>by subst hr;exact .go (.chk (R 2 (by omega) (by omega)) (.ret rfl)))) (fun r hr=>?_)
 subst hr;refine .go ?_
 refine .cut (fun r=>r = .go d) (.cut (fun r=>r = .go d) (.cut (fun r=>r = .go ()) (.chk (by omega) (.ret rfl)) (fun r hr=>by subst hr;exact .go (.call h4 (.chk e4 (.ret rfl))))) (fun r hr=>by subst hr;exact .go (.chk (R 3 (by omega) (by omega)) (.ret rfl)))) (fun r hr=>?_)
 subst hr;refine .go ?_
 refine .cut (fun r=>r = .go e) (.cut (fun r=>r = .go e) (.cut (fun r=>r = .go ()) (.chk (by omega) (.ret rfl)) (fun r hr=>by subst hr;exact .go (.call h5 (.chk e5 (.ret rfl))))) (fun r hr=>by subst hr;exact .go (.chk (R 4 (by omega) (by omega)) (.ret rfl)))) (fun r hr=>?_)
 subst hr;refine .go ?_
 refine .cut (fun r=>r = .go f) (.cut (fun r=>r = .go f) (.cut (fun r=>r = .go ()) (.chk (by omega) (.ret rfl)) (fun r hr=>by subst hr;exact .go (.call h6 (.chk e6 (.ret rfl))))) (fun r hr=>by subst hr;exact .go (.chk (R 5 (by omega) (by omega)) (.ret rfl)))) (fun r hr=>?_)
 subst hr;refine .go ?_
 refine .cut (fun r=>r = .go g) (.cut (fun r=>r = .go g) (.cut (fun r=>r = .go ()) (.chk (by omega) (.ret rfl)) (fun r hr=>by subst hr;exact .go (.call h7 (.chk e7 (.ret rfl))))) (fun r hr=>by subst hr;exact .go (.chk (R 6 (by omega) (by omega)) (.ret rfl)))) (fun r hr=>?_)
 subst hr;exact .go (.ret rfl)
end Go.Vx
end
section
namespace Go.Vx
set_option maxRecDepth 100000
theorem ext0 {l o:List Int} (hl:Z0 o=Z0 l) (h : ∀ i,0≤i→i < Z0 l→Z1 0 o i=Z1 0 l i):o=l:=extL 0 hl fun i i0 i1=>h i i0 (by omega)
structure WeakP (l:List Int) (s:Int) (g:List Int):Prop where
 len:Z0 g=Z0 l
 ok : ∀ i,0≤i→i < Z0 l→Z1 0 g i≠3∧Z1 0 g i≠5∧Z1 0 g i≠6∧Z1 0 g i≠8∧Z1 0 g i≠9
 L : ∀ i,0≤i→i < Z0 l→Z1 0 l i=1→Z1 0 g i=1
 R : ∀ i,0≤i→i < Z0 l→Z1 0 l i=2∨Z1 0 l i=3→Z1 0 g i=2
 N : ∀ i,0≤i→i < Z0 l→Z1 0 l i=4→Z1 0 g i=4∨Z1 0 g i=7∨Z1 0 g i=1
 A : ∀ i,0≤i→i < Z0 l→Z1 0 l i=7→Z1 0 g i=7
 plain:s=1→(∀ i,0≤i→i < Z0 l→Z1 0 l i≠2∧Z1 0 l i≠3∧Z1 0 l i≠7)→∀ i,0≤i→i < Z0 l→Z1 0 g i≠2∧Z1 0 g i≠4∧Z1 0 g i≠7
 again:Z1f g s=some g
theorem lstW_no2 {l:List Int} (h : ∀ i,0≤i→i < Z0 l→Z1 0 l i≠2) : ∀ n:Nat,(n:Int)≤Z0 l→lstW l 1 n=1
 | 0,_=>rfl
 | n+1,hn=>by
  have:=h n (by omega) (by omega)
  unfold lstW
  split
  · omega
  · exact lstW_no2 h n (by omega)
theorem lstW_same {f g:List Int} {s:Int} (h : ∀ i,0≤i→i < Z0 f→Z1 0 g i=if Z1 0 f i=4∧lstW f s i.toNat=1 then 1 else Z1 0 f i) : ∀ n:Nat,(n:Int)≤Z0 f→lstW g s n=lstW f s n
 | 0,_=>rfl
 | n+1,hn=>by
  have e:=h n (by omega) (by omega)
  have ih:=lstW_same h n (by omega)
  rw [Int.toNat_natCast] at e
  unfold lstW
  rw [e,ih]
  by_cases h4:Z1 0 f n=4
  · rw [h4]
    by_cases h1:lstW f s n=1
    · simp [h1]
    · simp [h1]
  · simp [h4]
theorem weak_yields {l:List Int} {s:Int} (hb:Z0 l≤100000) (hs:s=1∨s=2):Zd (Z1f l s) (WeakP l s):=by
 obtain ⟨a,ha,al,ag⟩:=w1_yields (l:=l) (s:=s) hb (fun x=>x≠9∧(s=1→(∀ i,0≤i→i < Z0 l→Z1 0 l i≠2∧Z1 0 l i≠3∧Z1 0 l i≠7)→x≠2∧x≠3∧x≠7))
  ⟨by omega,fun _ _=>by omega⟩ ⟨by omega,fun _ _=>by omega⟩ (fun i i0 i1 h=>⟨h,fun _ hp=>hp i i0 i1⟩)
 obtain ⟨b,hb',bl,bg,bs⟩:=w2_yields (l:=a) (s:=s) (by omega)
 obtain ⟨c,hc,cl,cg⟩:=w3_yields (l:=b) (s:=s) (by omega)
 have c3 : ∀ i,0≤i→i < Z0 c→Z1 0 c i≠3:=fun i i0 i1=>by rw [cg i i0 (by omega)];split<;>omega
 have b9 : ∀ i,0≤i→i < Z0 l→Z1 0 b i≠9:=fun i i0 i1=>by
  have h1:=(ag i i0 i1).1.1
  rcases bg i i0 (by omega) with h | h<;>omega
 have c9 : ∀ i,0≤i→i < Z0 c→Z1 0 c i≠9:=fun i i0 i1=>by
  have:=b9 i i0 (by omega)
  rw [cg i i0 (by omega)];split<;>omega
 have cp:s=1→(∀ i,0≤i→i < Z0 l→Z1 0 l i≠2∧Z1 0 l i≠3∧Z1 0 l i≠7)→∀ i,0≤i→i < Z0 l→Z1 0 c i≠2∧Z1 0 c i≠3∧Z1 0 c i≠7:=fun h1 hp i i0 i1=>by
  have ha1:=fun i i0 i1=>(ag i i0 i1).1.2 h1 hp
  have:=bs (by omega) (fun i i0 i1=>(ha1 i i0 (by omega)).2.1) i i0 (by omega)
  have h2:=ha1 i i0 i1
  rw [cg i i0 (by omega),this,if_neg h2.2.1];exact h2
 obtain ⟨d,hd,dl,dg⟩:=w4_yields (l:=c) (s:=s) (by omega) (fun x=>x≠3∧x≠9∧(s=1→(∀ i,0≤i→i < Z0 l→Z1 0 l i≠2∧Z1 0 l i≠3∧Z1 0 l i≠7)→x≠2∧x≠7))
  (fun i i0 i1=>⟨c3 i i0 i1,c9 i i0 i1,fun h1 hp=>⟨(cp h1 hp i i0 (by omega)).1,(cp h1 hp i i0 (by omega)).2.2⟩⟩)
 obtain ⟨e,he,el,eg⟩:=w5_yields (l:=d) (s:=s) (by omega)
 obtain ⟨f,hf,fl,fg⟩:=w6_yields (l:=e) (s:=s) (by omega)
 obtain ⟨g,hg,gl,gg⟩:=w7_yields (l:=f) (s:=s) (by omega)
 have fok : ∀ i,0≤i→i < Z0 l→Z1 0 f i≠3∧Z1 0 f i≠5∧Z1 0 f i≠6∧Z1 0 f i≠8∧Z1 0 f i≠9:=fun i i0 i1=>by
  have h4:=(dg i i0 (by omega)).1
  have h5:=eg i i0 (by omega)
  rw [fg i i0 (by omega)]
  split<;>omega
 have gok : ∀ i,0≤i→i < Z0 l→Z1 0 g i≠3∧Z1 0 g i≠5∧Z1 0 g i≠6∧Z1 0 g i≠8∧Z1 0 g i≠9:=fun i i0 i1=>by
  have:=fok i i0 i1
  rw [gg i i0 (by omega)]
  split<;>omega
 have keep : ∀ i,0≤i→i < Z0 l→Z1 0 l i=1∨Z1 0 l i=2∨Z1 0 l i=3∨Z1 0 l i=4∨Z1 0 l i=7→(Z1 0 l i=1→Z1 0 g i=1)∧(Z1 0 l i=2∨Z1 0 l i=3→Z1 0 g i=2)∧(Z1 0 l i=4→Z1 0 g i=4∨Z1 0 g i=7∨Z1 0 g i=1)∧(Z1 0 l i=7→Z1 0 g i=7):=fun i i0 i1 hh=>by
  have h1:=(ag i i0 i1).2 (by omega)
  have h2:=bg i i0 (by omega)
  have h3:=cg i i0 (by omega)
  have h4:=(dg i i0 (by omega)).2
  have h5:=eg i i0 (by omega)
  have h6:=fg i i0 (by omega)
  have h7:=gg i i0 (by omega)
  rw [h1] at h2
  split at h3
  · split at h6
    · split at h7<;>omega
    · split at h7<;>omega
  · split at h6
    · split at h7<;>omega
    · split at h7<;>omega
 have hw:Z1f l s=some g:=weak_chain hb ha al hb' bl hc cl hd dl he el hf fl hg gl
 have hn:Z0 g=Z0 l:=by omega
 refine .of hw ⟨hn,gok,fun i i0 i1 h=>(keep i i0 i1 (by omega)).1 h,fun i i0 i1 h=>(keep i i0 i1 (by omega)).2.1 h,fun i i0 i1 h=>(keep i i0 i1 (by omega)).2.2.1 h,fun i i0 i1 h=>(keep i i0 i1 (by omega)).2.2.2 h,fun h1 hp i i0 i1=>?_,?_⟩
 · have f2 : ∀ i,0≤i→i < Z0 l→Z1 0 f i≠2∧Z1 0 f i≠7:=fun i i0 i1=>by
    have h4:=(dg i i0 (by omega)).1.2.2 h1 hp
    have h5:=eg i i0 (by omega)
    rw [fg i i0 (by omega)]
    split<;>omega
   have:=f2 i i0 i1
   have hl:=lstW_no2 (l:=f) (fun i i0 i1=>(f2 i i0 (by omega)).1) i.toNat (by omega)
   subst h1
   rw [gg i i0 (by omega),hl]
   split<;>omega
 ·
  obtain ⟨a,ha,al,ag⟩:=w1_yields (l:=g) (s:=s) (by omega) (fun _=>True) trivial trivial (fun _ _ _ _=>trivial)
  obtain rfl:a=g:=ext0 al fun i i0 i1=>(ag i i0 i1).2 (gok i i0 (by omega)).2.2.2.2
  obtain ⟨b,hb2,bl2,-,bs⟩:=w2_yields (l:=a) (s:=s) (by omega)
  obtain rfl:b=a:=ext0 bl2 (bs (by omega) fun i i0 i1=>(gok i i0 (by omega)).1)
  obtain ⟨c2,hc2,cl2,cg2⟩:=w3_yields (l:=b) (s:=s) (by omega)
  obtain rfl:c2=b:=ext0 cl2 fun i i0 i1=>by rw [cg2 i i0 i1,if_neg (gok i i0 (by omega)).1]
  obtain ⟨d2,hd2,dl2,dg2⟩:=w4_yields (l:=c2) (s:=s) (by omega) (fun _=>True) (fun _ _ _=>trivial)
  obtain rfl:d2=c2:=ext0 dl2 fun i i0 i1=>(dg2 i i0 i1).2.elim id fun h=>by have:=gok i i0 (by omega);omega
  obtain ⟨e2,he2,el2,eg2⟩:=w5_yields (l:=d2) (s:=s) (by omega)
  obtain rfl:e2=d2:=ext0 el2 fun i i0 i1=>(eg2 i i0 i1).elim id fun h=>by have:=gok i i0 (by omega);omega
  obtain ⟨f2,hf2,fl2,fg2⟩:=w6_yields (l:=e2) (s:=s) (by omega)
  obtain rfl:f2=e2:=ext0 fl2 fun i i0 i1=>by have:=gok i i0 (by omega);rw [fg2 i i0 i1,if_neg (by omega)]
  obtain ⟨g2,hg2,gl2,gg2⟩:=w7_yields (l:=f2) (s:=s) (by omega)
  obtain rfl:g2=f2:=ext0 gl2 fun i i0 i1=>by
   rw [gg2 i i0 i1,lstW_same gg i.toNat (by omega),gg i i0 (by omega)]
   by_cases hh:Z1 0 f i=4∧lstW f s i.toNat=1
   · rw [if_pos hh];simp
   · rw [if_neg hh,if_neg hh]
  exact weak_chain (by omega) ha al hb2 bl2 hc2 cl2 hd2 dl2 he2 el2 hf2 fl2 hg2 gl2
end Go.Vx
end
section
namespace Go.Vx
open Go.Proofs
set_option maxRecDepth 100000
def Apart (p q:Zx):Prop:=p.x1 < q.x0∨q.x1 < p.x0∨(p.x0 < q.x0∧q.x1 < p.x1)∨(q.x0 < p.x0∧p.x1 < q.x1)
theorem Apart.symm {p q:Zx} (h:Apart p q):Apart q p:=by unfold Apart at *;omega
structure PairOk (r l:List Int) (v:Int) (p:Zx):Prop where
 a0:0≤p.x0
 a1:p.x0 < p.x1
 a2:p.x1 < v
 b0:Z1 0 l p.x0=14
 b1:Z1 0 l p.x1=14
 k:(braL (Z1 0 r p.x0)).2=1
 o:(braL (Z1 0 r p.x0)).1=Z1 0 r p.x1
theorem PairOk.up {r l:List Int} {v w:Int} {p:Zx} (h:PairOk r l v p) (hw:v≤w):PairOk r l w p:=⟨h.a0,h.a1,by have:=h.a2;omega,h.b0,h.b1,h.k,h.o⟩
structure PI (r l:List Int) (off n v:Int) (op:List Int) (out:List Zx):Prop where
 o0:0≤off
 n0:0≤n
 n1:n≤63
 on:off+n≤Z0 op
 e : ∀ k,0≤k→k < n→0≤Z1 0 op (off+k)∧Z1 0 op (off+k) < v∧Z1 0 l (Z1 0 op (off+k))=14∧(braL (Z1 0 r (Z1 0 op (off+k)))).2=1
 inc : ∀ k k',0≤k→k < k'→k' < n→Z1 0 op (off+k) < Z1 0 op (off+k')
 ok : ∀ p∈out,PairOk r l v p
 ap:out.Pairwise Apart
 free : ∀ p∈out,∀ k,0≤k→k < n→Z1 0 op (off+k) < p.x0∨p.x1 < Z1 0 op (off+k)
 len:Z0 out≤v
theorem PI.next {r l:List Int} {off n v:Int} {op:List Int} {out:List Zx} (H:PI r l off n v op out):PI r l off n (v+1) op out :=
 ⟨H.o0,H.n0,H.n1,H.on,fun k k0 k1=>by obtain ⟨a,b,c,d⟩:=H.e k k0 k1;exact ⟨a,by omega,c,d⟩,H.inc,fun p hp=>(H.ok p hp).up (by omega),H.ap,H.free,by have:=H.len;omega⟩
theorem PI.push {r l:List Int} {off n v:Int} {op:List Int} {out:List Zx} (H:PI r l off n v op out) (v0:0≤v) (hn:n < 63) (h14:Z1 0 l v=14) (hk:(braL (Z1 0 r v)).2=1) :
  PI r l 0 (n+1) (v+1) (Xx op off (off+n)++[v]) out:=by
 have o0:=H.o0;have n0:=H.n0;have on:=H.on
 have hl:Z0 (Xx op off (off+n))=n:=by rw [Ye (by omega) (by omega) (by omega)];omega
 have hg : ∀ k,0≤k→k < n→Z1 0 (Xx op off (off+n)++[v]) (0+k)=Z1 0 op (off+k):=fun k k0 k1=>by
  rw [Int.zero_add,Yi k0,if_pos (by omega),Z0r o0 k0 (by omega)]
 have hv:Z1 0 (Xx op off (off+n)++[v]) (0+n)=v:=by
  rw [Int.zero_add]
  have:=Qx 0 v (Xx op off (off+n))
  rwa [hl] at this
 refine ⟨Int.le_refl _,by omega,by omega,by simp [hl],fun k k0 k1=>?_,fun k k' k0 k1 k2=>?_,fun p hp=>(H.ok p hp).up (by omega),H.ap,fun p hp k k0 k1=>?_,by have:=H.len;omega⟩
 · by_cases e:k=n
   · subst e;rw [hv];exact ⟨v0,by omega,h14,hk⟩
   · rw [hg k k0 (by omega)]
     obtain ⟨a,b,c,d⟩:=H.e k k0 (by omega)
     exact ⟨a,by omega,c,d⟩
 · rw [hg k k0 (by omega)]
   by_cases e:k'=n
   · subst e;rw [hv];exact (H.e k k0 (by omega)).2.1
   · rw [hg k' (by omega) (by omega)];exact H.inc k k' k0 k1 (by omega)
 · by_cases e:k=n
   · subst e;rw [hv];exact .inr (H.ok p hp).a2
   · rw [hg k k0 (by omega)];exact H.free p hp k k0 (by omega)
theorem PI.pop {r l:List Int} {off n v:Int} {op:List Int} {out:List Zx} (H:PI r l off n v op out) {m:Int} (m0:0≤m) (m1:m < n) (h14:Z1 0 l v=14) (ho:(braL (Z1 0 r (Z1 0 op (off+m)))).1=Z1 0 r v) :
  PI r l (off+0) (m-0) (v+1) op (out++[⟨Z1 0 op (off+m),v⟩]):=by
 obtain ⟨a,b,c,d⟩:=H.e m m0 m1
 rw [Int.add_zero,Int.sub_zero]
 refine ⟨H.o0,m0,by have:=H.n1;omega,by have:=H.on;omega,fun k k0 k1=>?_,fun k k' k0 k1 k2=>H.inc k k' k0 k1 (by omega),fun p hp=>?_,?_,fun p hp k k0 k1=>?_,by have:=H.len;simp;omega⟩
 · obtain ⟨a,b,c,d⟩:=H.e k k0 (by omega)
   exact ⟨a,by omega,c,d⟩
 · rcases List.mem_append.1 hp with hp | hp
   · exact (H.ok p hp).up (by omega)
   · obtain rfl:=List.mem_singleton.1 hp
     exact ⟨a,b,by show v < v+1;omega,c,h14,d,ho⟩
 · rw [List.pairwise_append]
   refine ⟨H.ap,List.pairwise_singleton _ _,fun p hp q hq=>?_⟩
   obtain rfl:=List.mem_singleton.1 hq
   have h1:=(H.ok p hp).a2
   have h2:=H.free p hp m m0 m1
   unfold Apart
   simp only
   omega
 · rcases List.mem_append.1 hp with hp | hp
   · exact H.free p hp k k0 (by omega)
   · obtain rfl:=List.mem_singleton.1 hp
     exact .inl (H.inc k m k0 k1 m1)
structure PairsP (r l:List Int) (p:List Zx):Prop where
 ok : ∀ q∈p,PairOk r l (Z0 l) q
 ap:p.Pairwise Apart
 so:p.Pairwise fun a b=>a.x0≤b.x0
 len:Z0 p≤Z0 l
theorem pairs_yields {r l:List Int} (hb:Z0 l≤100000):Zd (Z4r Xi r l) (fun p=>PairsP r l p∧(Z0 r≠Z0 l→p=[])):=by
 have hn:=Zc l
 have nil:PairsP r l []:=⟨fun q hq=>(by cases hq),List.Pairwise.nil,List.Pairwise.nil,by simpa using hn⟩
 unfold Z4r
 refine .ite (fun _=>.ret ⟨nil,fun _=>rfl⟩) (fun h=>?_)
 have hrl:Z0 r=Z0 l:=by simpa using h
 clear h
 refine .cut (fun q=>(q = .out [])∨∃ out off n op,q = .go out∧PI r l off n (Z0 l) op out) ?_ ?_
 · refine .loop (fun (off,n,v,op,out)=>v≤Z0 l∧0≤v∧PI r l off n v op out) (fun x=>(Z0 l-x.2.2.1).toNat)
    ⟨hn,by omega,⟨by omega,by omega,by omega,by simp,fun k k0 k1=>(by omega),fun k k' k0 k1 k2=>(by omega),fun p hp=>(by cases hp),List.Pairwise.nil,fun p hp=>(by cases hp),by simp⟩⟩ ?_
   rintro ⟨off,n,v,op,out⟩ ⟨v1,v0,H⟩
   refine .ite (fun h=>?_) (fun h=>?_)
   · have h:v < Z0 l:=by simpa using h
     refine .cut (fun q=>(q = .out (.out (.out [])))∨∃ off n op out,q = .go (off,n,op,out)∧PI r l off n (v+1) op out) ?_ ?_
     · refine .chk ⟨v0,h⟩ ?_
       refine .ite (fun _=>.ret (.inr ⟨off,n,op,out,rfl,H.next⟩)) (fun h14=>?_)
       have h14:Z1 0 l v=14:=by simpa using h14
       refine .chk ⟨v0,by omega⟩ (.call (bracket_L _) ?_)
       have o0:=H.o0;have n0:=H.n0;have n1:=H.n1;have on:=H.on
       refine .ite (fun h1=>.ite (fun _=>.ret (.inl rfl)) (fun h63=>?_)) (fun h1=>.ite (fun h2=>?_) (fun _=>.ret (.inr ⟨off,n,op,out,rfl,H.next⟩)))
       · have h1:(braL (Z1 0 r v)).2=1:=by simpa using h1
         have h63:n≠63:=by simpa using h63
         exact .chk ⟨o0,n0,on⟩ (.chk (grOk (by omega) (by omega) (by omega)) (.ret (.inr ⟨_,_,_,_,rfl,H.push v0 (by omega) h14 h1⟩)))
       · have h2:(braL (Z1 0 r v)).2=2:=by simpa using h2
         have hbm:(braL (braL (Z1 0 r v)).1).1=Z1 0 r v:=by
          rcases braL_mem (Z1 0 r v) with e | e
          · rw [e] at h2;cases h2
          · exact e.2.1
         refine .chk (Zm (by omega) (by omega)) ?_
         refine .loop (fun m=>-1≤m∧m < n) (fun m=>(m+1).toNat) ⟨by omega,by omega⟩ ?_
         rintro m ⟨m0,m1⟩
         refine .ite (fun hm=>?_) (fun _=>.ret (.inr ⟨off,n,op,out,rfl,H.next⟩))
         have hm:0≤m:=by simpa using hm
         obtain ⟨a,b,c,d⟩:=H.e m hm m1
         have hlen:=H.len
         have:=Zc out
         refine .chk ⟨hm,m1⟩ (.chk ⟨a,by omega⟩ (.ite (fun he=>?_) (fun _=>.chk (Zm (by omega) (by omega)) (.ret ⟨⟨by omega,by omega⟩,by simp only;omega⟩))))
         have he:Z1 0 r (Z1 0 op (off+m))=(braL (Z1 0 r v)).1:=by simpa using he
         exact .chk ⟨hm,m1⟩ (.chk (grOk (by omega) (by omega) (by omega)) (.chk ⟨by omega,by omega,by omega⟩ (.ret (.inr ⟨_,_,_,_,rfl,H.pop hm m1 h14 (by rw [he];exact hbm)⟩))))
     · rintro q (rfl | ⟨off,n,op,out,rfl,H2⟩)
       · exact .out (.inl rfl)
       · exact .go (.chk (Zm (by omega) (by omega)) (.ret ⟨⟨by omega,by omega,H2⟩,by simp only;omega⟩))
   · have h:Z0 l≤v:=by simpa using h
     have e:v=Z0 l:=by omega
     subst e
     exact .ret (.inr ⟨out,off,n,op,rfl,H⟩)
 · rintro q (rfl | ⟨out,off,n,op,rfl,H⟩)
   · exact .out ⟨nil,fun _=>rfl⟩
   · refine .go ?_
     have hs:=sortPairs_ex (x:=out) (by have:=H.len;omega) (fun p hp=>by have:=H.ok p hp;have:=this.a0;have:=(H.ok p hp).a1;have:=(H.ok p hp).a2;omega)
     obtain ⟨p,hp⟩:=hs
     obtain ⟨p1,p2⟩:=Z77 hp
     have pl:=Z8e hp
     refine .call hp (.chk pl (.ret ⟨⟨fun q hq=>H.ok q (p1.mem_iff.1 hq),(p1.pairwise_iff (fun h=>Apart.symm h)).2 H.ap,p2,by have:=H.len;omega⟩,fun hh=>absurd hrl hh⟩))
end Go.Vx
end
section
namespace Go.Vx
open Go.Proofs
set_option maxRecDepth 100000
def stf (c:Int):Int:=if c=1 then 1 else if c=2∨c=4∨c=7 then 2 else 0
theorem Z7q (c:Int):Z0g c=some (stf c):=by
 unfold Z0g stf
 by_cases h1:c=1
 · subst h1;rfl
 by_cases h2:c=2
 · subst h2;rfl
 by_cases h4:c=4
 · subst h4;rfl
 by_cases h7:c=7
 · subst h7;rfl
 rw [if_neg h1,if_neg (by omega)]
 have e1:(c == 1)=false:=by simpa using h1
 have e2:(c == 2)=false:=by simpa using h2
 have e4:(c == 4)=false:=by simpa using h4
 have e7:(c == 7)=false:=by simpa using h7
 rw [e1,e2,e4,e7];rfl
def Neu (c:Int):Prop:=c=11∨c=12∨c=13∨c=14∨c=20∨c=21∨c=22∨c=23
instance (c:Int):Decidable (Neu c):=by unfold Neu;infer_instance
theorem neutral_eq (c:Int):Z1g c=some (decide (Neu c)):=by
 have k : ∀ b:Bool,b=decide (Neu c)→Zd (contO (fun _:Unit=>(some false:Option Bool)) (if b=true then (.out true:Fl Unit Bool) else .go ())) (fun r=>r=decide (Neu c)):=by
  intro b hb
  cases b
  · exact .go (.ret hb)
  · exact .out hb
 refine Zd.eq ?_
 unfold Z1g
 have T : ∀ x:Int,c=x→(x=11∨x=12∨x=13∨x=14∨x=20∨x=21∨x=22∨x=23)→decide (Neu c)=true:=fun x h hx=>decide_eq_true (by subst h;exact hx)
 refine .cut (fun q=>q=if decide (Neu c)=true then (.out true:Fl Unit Bool) else .go ()) ?_ (fun q hq=>by subst hq;exact k _ rfl)
 refine .cut (fun q=>q = .go (decide (Neu c))) ?_ (fun q hq=>by
  subst hq
  refine .go ?_
  cases decide (Neu c)
  · exact .ret rfl
  · exact .ret rfl)
 refine .ite (fun h=>.ret (by rw [h,T 11 (by simpa using h) (by omega)])) (fun h1=>.ite (fun h=>.ret (by rw [h,T 12 (by simpa using h) (by omega)])) (fun h2=>.ite (fun h=>.ret (by rw [h,T 13 (by simpa using h) (by omega)])) (fun h3=>.ite (fun h=>.ret (by rw [h,T 14 (by simpa using h) (by omega)])) (fun h4=>.ite (fun h=>.ret (by rw [h,T 20 (by simpa using h) (by omega)])) (fun h5=>.ite (fun h=>.ret (by rw [h,T 21 (by simpa using h) (by omega)])) (fun h6=>.ite (fun h=>.ret (by rw [h,T 22 (by simpa using h) (by omega)])) (fun h7=>.ret ?_)))))))
 congr 1
 by_cases h:c=23
 · rw [T 23 h (by omega)];simpa using h
 · have e:decide (Neu c)=false:=decide_eq_false (by
    unfold Neu
    simp at h1 h2 h3 h4 h5 h6 h7
    omega)
   rw [e];simpa using h
theorem direction_yields {x:Ys} {p:Zx} (hb:Z0 x.fl≤100000) (p0:0≤p.x0) (p1:p.x0 < p.x1) (p2:p.x1≤Z0 x.fl) :
  Zd (Qb x p) (fun c=>c=0∨c=x.fdir∨(c=x.fagainst∧∃ i,0≤i∧i < Z0 x.fl∧stf (Z1 0 x.fl i)=x.fagainst)):=by
 have hn:=Zc x.fl
 unfold Qb
 refine .cut (fun q=>(q = .out x.fdir)∨∃ f,q = .go f∧(f=true→∃ i,0≤i∧i < Z0 x.fl∧stf (Z1 0 x.fl i)=x.fagainst)) ?_ ?_
 · refine .chk (Zm (by omega) (by omega)) (.chk ⟨by omega,by omega,p2⟩ ?_)
   have hl:Z0 (Xx x.fl (p.x0+1) p.x1)=p.x1-(p.x0+1):=Ye (by omega) (by omega) p2
   refine .loop (fun (f,v)=>0≤v∧v≤p.x1-(p.x0+1)∧(f=true→∃ i,0≤i∧i < Z0 x.fl∧stf (Z1 0 x.fl i)=x.fagainst)) (fun q=>(p.x1-(p.x0+1)-q.2).toNat) ⟨by omega,by omega,fun h=>by cases h⟩ ?_
   rintro ⟨f,v⟩ ⟨v0,v1,hf⟩
   refine .ite (fun h=>?_) (fun _=>.ret (.inr ⟨f,rfl,hf⟩))
   have h:v < p.x1-(p.x0+1):=by simpa using h
   refine .chk ⟨v0,by omega⟩ ?_
   simp only
   rw [Z0r (by omega) v0 (by omega)]
   refine .call (Z7q _) (.ite (fun _=>.ret (.inl rfl)) (fun _=>.ite (fun ha=>?_) (fun _=>.chk (Zm (by omega) (by omega)) (.ret ⟨⟨by omega,by omega,hf⟩,by simp only;omega⟩))))
   have ha:stf (Z1 0 x.fl (p.x0+1+v))=x.fagainst:=by simpa using ha
   exact .chk (Zm (by omega) (by omega)) (.ret ⟨⟨by omega,by omega,fun _=>⟨_,by omega,by omega,ha⟩⟩,by simp only;omega⟩)
 · rintro q (rfl | ⟨f,rfl,hf⟩)
   · exact .out (.inr (.inl rfl))
   refine .go (.ite (fun _=>.ret (.inl rfl)) (fun hf2=>?_))
   have hf2:f=true:=by simpa using hf2
   refine .cut (fun q=>∃ a,q = .go a) ?_ ?_
   · refine .chk (Zm (by omega) (by omega)) ?_
     refine .loop (fun i=>-1≤i∧i < p.x0) (fun i=>(i+1).toNat) ⟨by omega,by omega⟩ ?_
     rintro i ⟨i0,i1⟩
     refine .ite (fun h=>?_) (fun _=>.ret ⟨_,rfl⟩)
     have h:0≤i:=by simpa using h
     refine .chk ⟨h,by omega⟩ (.call (Z7q _) (.ite (fun _=>.ret ⟨_,rfl⟩) (fun _=>.chk (Zm (by omega) (by omega)) (.ret ⟨⟨by omega,by omega⟩,by simp only;omega⟩))))
   · rintro q ⟨a,rfl⟩
     exact .go (.ite (fun _=>.ret (.inr (.inr ⟨rfl,hf hf2⟩))) (fun _=>.ret (.inr (.inl rfl))))
theorem n0_yields {x:Ys} {r l:List Int} (hb:Z0 x.fl≤100000) (hw:Z0 x.fwas=Z0 x.fl) (hl:Z0 l=Z0 x.fl) (hp:PairsP r l x.fpairs) (Q:Int→Prop) (hd:Q x.fdir)
  (hag:Q x.fagainst∨∀ c,Q c→stf c≠x.fagainst) (hq : ∀ i,0≤i→i < Z0 x.fl→Q (Z1 0 x.fl i)) :
  Zd (n0 x) (fun o=>Z0 o=Z0 x.fl∧∀ i,0≤i→i < Z0 x.fl→Q (Z1 0 o i)∧(Z1 0 l i≠14→Z1 0 x.fwas i≠9→Z1 0 o i=Z1 0 x.fl i)):=by
 have hn:=Zc x.fl
 have pl:=hp.len
 have pn:=Zc x.fpairs
 unfold n0
 refine .loop (fun (v,o)=>0≤v∧v≤Z0 x.fpairs∧Z0 o=Z0 x.fl∧∀ i,0≤i→i < Z0 x.fl→Q (Z1 0 o i)∧(Z1 0 l i≠14→Z1 0 x.fwas i≠9→Z1 0 o i=Z1 0 x.fl i)) (fun q=>(Z0 x.fpairs-q.1).toNat)
  ⟨by omega,pn,rfl,fun i i0 i1=>⟨hq i i0 i1,fun _ _=>rfl⟩⟩ ?_
 rintro ⟨v,o⟩ ⟨v0,v1,ol,og⟩
 refine .ite (fun h=>?_) (fun _=>.ret ⟨ol,og⟩)
 have h:v < Z0 x.fpairs:=by simpa using h
 obtain ⟨q0,q1,q2,q3,q4,-,-⟩:=hp.ok _ (Z78 Zz v0 h)
 refine .cut (fun q=>∃ o',q = .go o'∧Z0 o'=Z0 x.fl∧∀ i,0≤i→i < Z0 x.fl→Q (Z1 0 o' i)∧(Z1 0 l i≠14→Z1 0 x.fwas i≠9→Z1 0 o' i=Z1 0 x.fl i)) ?_ ?_
 · refine .chk ⟨v0,h⟩ ?_
   simp only
   generalize Z1 Zz x.fpairs v=p at q0 q1 q2 q3 q4
   refine .bind _ (direction_yields (x:=⟨o,x.fwas,x.fsos,x.feos,x.fdir,x.fagainst,x.fpairs⟩) (p:=p) (by simp only;omega) q0 q1 (by simp only;omega)) fun c hc=>?_
   refine .ite (fun _=>.ret ⟨o,rfl,ol,og⟩) (fun hc0=>?_)
   have hc0:c≠0:=by simpa using hc0
   have hQ:Q c:=by
    rcases hc with hc | rfl | ⟨rfl,i,i0,i1,hi⟩
    · exact absurd hc hc0
    · exact hd
    · rcases hag with hag | hag
      · exact hag
      · exact absurd hi (hag _ (og i i0 (by simp only at i1;omega)).1)
   have one : ∀ (at_:Int) (o:List Int),0≤at_→at_ < Z0 x.fl→Z1 0 l at_=14→Z0 o=Z0 x.fl→(∀ i,0≤i→i < Z0 x.fl→Q (Z1 0 o i)∧(Z1 0 l i≠14→Z1 0 x.fwas i≠9→Z1 0 o i=Z1 0 x.fl i)) →
     ∀ (γ:Type),Zd (chk (0≤at_∧at_ < (Z0 x.fl)) <|
      chk (inR .i64 (at_+1)) <|
      let j3:=(at_+1)
      loopO (fun ((j4,o7):Int × List Int) =>
       chk ((decide (j4 < (Z0 x.fl)))=true→0≤j4∧j4 < (Z0 x.fwas)) <|
       Z7 (if (decide (j4 < (Z0 x.fl)))=true then ((Z1 0 x.fwas j4) == 9) else false)
        (chk (0≤j4∧j4 < (Z0 x.fl)) <|
         chk (inR .i64 (j4+1)) <|
         let j5:=(j4+1)
         some (.go (j5,(Yc o7 j4 c))))
        (some (.out (.go o7)))) (j3,(Yc o at_ c))) (fun q:Fl (List Int) γ=>∃ o',q = .go o'∧Z0 o'=Z0 x.fl∧∀ i,0≤i→i < Z0 x.fl→Q (Z1 0 o' i)∧(Z1 0 l i≠14→Z1 0 x.fwas i≠9→Z1 0 o' i=Z1 0 x.fl i)):=by
    intro at_ o a0 a1 h14 ol og γ
    refine .chk ⟨a0,a1⟩ (.chk (Zm (by omega) (by omega)) ?_)
    refine .loop (fun (j,o)=>0≤j∧j≤Z0 x.fl∧Z0 o=Z0 x.fl∧∀ i,0≤i→i < Z0 x.fl→Q (Z1 0 o i)∧(Z1 0 l i≠14→Z1 0 x.fwas i≠9→Z1 0 o i=Z1 0 x.fl i)) (fun q=>(Z0 x.fl-q.1).toNat) ⟨by omega,by omega,by simp [ol],fun i i0 i1=>?_⟩ ?_
    · rw [Zk a0 i0 (by omega)]
      split
      · rename_i e;subst e;exact ⟨hQ,fun h=>absurd h14 h⟩
      · exact og i i0 i1
    · rintro ⟨j,o⟩ ⟨j0,j1,ol,og⟩
      refine .chk (fun hh=>⟨j0,Int.lt_of_lt_of_le (show j < Z0 x.fl by simpa using hh) (by omega)⟩) (.ite (fun hh=>?_) (fun _=>.ret ⟨o,rfl,ol,og⟩))
      have hj:j < Z0 x.fl:=by
       by_cases hj:j < Z0 x.fl
       · exact hj
       · rw [decide_eq_false hj] at hh;cases hh
      have h9:Z1 0 x.fwas j=9:=by
       rw [decide_eq_true hj,if_pos rfl] at hh;simpa using hh
      refine .chk ⟨j0,hj⟩ (.chk (Zm (by omega) (by omega)) (.ret ⟨⟨by omega,by omega,by simp [ol],fun i i0 i1=>?_⟩,by simp only;omega⟩))
      rw [Zk j0 i0 (by omega)]
      split
      · rename_i e;subst e;exact ⟨hQ,fun _ h=>absurd h9 h⟩
      · exact og i i0 i1
   refine .cut (fun q=>∃ o',q = .go o'∧Z0 o'=Z0 x.fl∧∀ i,0≤i→i < Z0 x.fl→Q (Z1 0 o' i)∧(Z1 0 l i≠14→Z1 0 x.fwas i≠9→Z1 0 o' i=Z1 0 x.fl i)) ?_ ?_
   · refine .cut _ (one p.x0 o q0 (by omega) q3 ol og _) ?_
     rintro q ⟨o',rfl,h1,h2⟩
     exact .go (.chk (Zm (by omega) (by omega)) (.ret ⟨o',rfl,h1,h2⟩))
   rintro q ⟨o2,rfl,ol2,og2⟩
   refine .go ?_
   refine .cut (fun q=>∃ o',q = .go o'∧Z0 o'=Z0 x.fl∧∀ i,0≤i→i < Z0 x.fl→Q (Z1 0 o' i)∧(Z1 0 l i≠14→Z1 0 x.fwas i≠9→Z1 0 o' i=Z1 0 x.fl i)) ?_ ?_
   · refine .cut _ (one p.x1 o2 (by omega) (by omega) q4 ol2 og2 _) ?_
     rintro q ⟨o',rfl,h1,h2⟩
     exact .go (.chk (Zm (by omega) (by omega)) (.ret ⟨o',rfl,h1,h2⟩))
   rintro q ⟨o3,rfl,ol3,og3⟩
   exact .go (.ret ⟨o3,rfl,ol3,og3⟩)
 · rintro q ⟨o',rfl,h1,h2⟩
   exact .go (.chk (Zm (by omega) (by omega)) (.ret ⟨⟨by omega,by omega,h1,h2⟩,by simp only;omega⟩))
theorem n12_yields {x:Ys} (hb:Z0 x.fl≤100000) (Q:Int→Prop) (hd:Q x.fdir) (hs:x.fsos≠0→Q x.fsos) (hst : ∀ c,Q c→stf c≠0→Q (stf c)) (hq : ∀ i,0≤i→i < Z0 x.fl→Q (Z1 0 x.fl i)) :
  Zd (n12 x) (fun o=>Z0 o=Z0 x.fl∧∀ i,0≤i→i < Z0 x.fl→Q (Z1 0 o i)∧(¬ Neu (Z1 0 x.fl i)→Z1 0 o i=Z1 0 x.fl i)):=by
 have hn:=Zc x.fl
 unfold n12
 refine .loop (fun (i,o)=>0≤i∧i≤Z0 x.fl∧Z0 o=Z0 x.fl∧(∀ k,0≤k→k < Z0 x.fl→Q (Z1 0 o k)∧(¬ Neu (Z1 0 x.fl k)→Z1 0 o k=Z1 0 x.fl k))∧∀ k,i≤k→k < Z0 x.fl→Z1 0 o k=Z1 0 x.fl k) (fun q=>(Z0 x.fl-q.1).toNat)
  ⟨by omega,hn,rfl,fun i i0 i1=>⟨hq i i0 i1,fun _=>rfl⟩,fun _ _ _=>rfl⟩ ?_
 rintro ⟨i,o⟩ ⟨i0,i1,ol,og,orr⟩
 refine .ite (fun h=>?_) (fun _=>.ret ⟨ol,og⟩)
 have h:i < Z0 x.fl:=by simpa using h
 refine .chk ⟨i0,h⟩ ?_
 simp only [Int.zero_add]
 refine .call (neutral_eq _) (.ite (fun hnn=>.chk (Zm (by omega) (by omega)) (.ret ⟨⟨by omega,by omega,ol,og,fun k k0 k1=>orr k (by omega) k1⟩,by simp only;omega⟩)) (fun hnn=>?_))
 have hnn:Neu (Z1 0 o i):=by simpa using hnn
 refine .cut (fun q=>∃ e,q = .go e∧i < e∧e≤Z0 x.fl∧∀ k,i≤k→k < e→Neu (Z1 0 x.fl k)) ?_ ?_
 · refine .loop (fun e=>i≤e∧e≤Z0 x.fl∧∀ k,i≤k→k < e→Neu (Z1 0 x.fl k)) (fun e=>(Z0 x.fl-e).toNat) ⟨by omega,i1,fun k k0 k1=>by omega⟩ ?_
   rintro e ⟨e0,e1,eg⟩
   by_cases he:e < Z0 x.fl
   · rw [decide_eq_true he]
     refine .chk (fun _=>⟨by omega,he⟩) ?_
     rw [if_pos rfl]
     refine .call (neutral_eq _) ?_
     rw [if_pos rfl]
     refine .ite (fun hh=>?_) (fun hh=>?_)
     · have hh:Neu (Z1 0 o e):=by simpa using hh
       rw [orr e e0 he] at hh
       refine .chk (Zm (by omega) (by omega)) (.ret ⟨⟨by omega,by omega,fun k k0 k1=>?_⟩,by simp only;omega⟩)
       by_cases w:k=e
       · subst w;exact hh
       · exact eg k k0 (by omega)
     · refine .ret ⟨e,rfl,?_,e1,eg⟩
       by_cases w:e=i
       · exfalso;subst w
         simp [hnn] at hh
       · omega
   · rw [decide_eq_false he]
     refine .chk (fun hh=>by cases hh) ?_
     refine .call (b:=false) rfl ?_
     exact .ite (fun hh=>by cases hh) (fun _=>.ret ⟨e,rfl,by omega,e1,eg⟩)
 rintro q ⟨e,rfl,e0,e1,eg⟩
 refine .go ?_
 refine .cut (fun q=>∃ a,q = .go a∧(a≠0→Q a)) ?_ ?_
 · refine .ite (fun hi=>?_) (fun _=>.ret ⟨_,rfl,hs⟩)
   have hi:0 < i:=by simpa using hi
   exact .chk (Zm (by omega) (by omega)) (.chk ⟨by omega,by omega⟩ (.call (Z7q _) (.ret ⟨_,rfl,hst _ (og (i-1) (by omega) (by omega)).1⟩)))
 rintro q ⟨a,rfl,ha⟩
 refine .go ?_
 refine .cut (fun q=>∃ a,q = .go a) ?_ ?_
 · refine .ite (fun hi=>?_) (fun _=>.ret ⟨_,rfl⟩)
   have hi:e < Z0 x.fl:=by simpa using hi
   exact .chk ⟨by omega,hi⟩ (.call (Z7q _) (.ret ⟨_,rfl⟩))
 rintro q ⟨b,rfl⟩
 refine .go ?_
 refine .cut (fun q=>∃ a,q = .go a∧Q a) ?_ ?_
 · refine .ite (fun hi=>.ret ⟨_,rfl,ha ?_⟩) (fun _=>.ret ⟨_,rfl,hd⟩)
   intro h0
   subst h0
   by_cases hb:(0:Int)=b<;>simp [hb] at hi
 rintro q ⟨c,rfl,hc⟩
 refine .go ?_
 refine .loop (fun (k,o)=>i≤k∧k≤e∧Z0 o=Z0 x.fl∧(∀ k,0≤k→k < Z0 x.fl→Q (Z1 0 o k)∧(¬ Neu (Z1 0 x.fl k)→Z1 0 o k=Z1 0 x.fl k))∧∀ k,e≤k→k < Z0 x.fl→Z1 0 o k=Z1 0 x.fl k) (fun q=>(e-q.1).toNat)
  ⟨by omega,by omega,ol,og,fun k k0 k1=>orr k (by omega) k1⟩ ?_
 rintro ⟨k,o⟩ ⟨k0,k1,ol,og,orr⟩
 refine .ite (fun hk=>?_) (fun hk=>?_)
 · have hk:k < e:=by simpa using hk
   refine .chk ⟨by omega,by omega⟩ (.chk (Zm (by omega) (by omega)) (.ret ⟨⟨by omega,by omega,by simp [ol],fun z z0 z1=>?_,fun z z0 z1=>?_⟩,by simp only;omega⟩))
   · simp only
     rw [Zk (by omega) z0 (by omega)]
     split
     · rename_i w;subst w;exact ⟨hc,fun hh=>absurd (eg z k0 hk) hh⟩
     · exact og z z0 z1
   · simp only
     rw [Zk (by omega) (by omega) (by omega),if_neg (by omega)];exact orr z z0 z1
 · have hk:e≤k:=by simpa using hk
   exact .ret ⟨⟨by omega,by omega,ol,og,fun z z0 z1=>orr z (by omega) z1⟩,by simp only;omega⟩
end Go.Vx
end
section
namespace Go.Vx
open Go.Proofs
set_option maxRecDepth 100000
theorem pick_yields {l seq:List Int} (hb:Z0 seq≤100000) (hs : ∀ j,0≤j→j < Z0 seq→0≤Z1 0 seq j∧Z1 0 seq j < Z0 l) :
  Zd (Z20 l seq) (fun o=>Z0 o=Z0 seq∧∀ j,0≤j→j < Z0 seq→Z1 0 o j=Z1 0 l (Z1 0 seq j)):=by
 have hn:=Zc seq
 unfold Z20
 refine .chk (mkOk hn (by omega) (by omega)) ?_
 refine .cut (fun q=>∃ o,q = .go o∧Z0 o=Z0 seq∧∀ j,0≤j→j < Z0 seq→Z1 0 o j=Z1 0 l (Z1 0 seq j)) ?_ (fun q hq=>by obtain ⟨o,rfl,h⟩:=hq;exact .go (.ret h))
 refine .loop (fun (v,o)=>0≤v∧v≤Z0 seq∧Z0 o=Z0 seq∧∀ j,0≤j→j < v→Z1 0 o j=Z1 0 l (Z1 0 seq j)) (fun x=>(Z0 seq-x.1).toNat) ⟨by omega,hn,Y3 _ hn,fun j j0 j1=>by omega⟩ ?_
 rintro ⟨v,o⟩ ⟨v0,v1,ol,og⟩
 refine .ite (fun h=>?_) (fun h=>?_)
 · have h:v < Z0 seq:=by simpa using h
   refine .chk ⟨v0,h⟩ (.chk (hs v v0 h) (.chk ⟨v0,h⟩ (.chk (Zm (by omega) (by omega)) (.ret ⟨⟨by omega,by omega,by simp [ol],fun j j0 j1=>?_⟩,by simp only;omega⟩))))
   rw [Zk v0 j0 (by omega)]
   split
   · rename_i e;rw [e]
   · exact og j j0 (by omega)
 · have h:Z0 seq≤v:=by simpa using h
   exact .ret ⟨o,rfl,ol,fun j j0 j1=>og j j0 (by omega)⟩
theorem classes_yields {r:List Int} (hb:Z0 r≤100000):Zd (Z2f Xi r) (fun o=>Z0 o=Z0 r∧∀ j,0≤j→j < Z0 r→Z1 0 o j=clsL (Z1 0 r j)):=by
 have hn:=Zc r
 unfold Z2f
 refine .chk (mkOk hn (by omega) (by omega)) ?_
 refine .cut (fun q=>∃ o,q = .go o∧Z0 o=Z0 r∧∀ j,0≤j→j < Z0 r→Z1 0 o j=clsL (Z1 0 r j)) ?_ (fun q hq=>by obtain ⟨o,rfl,h⟩:=hq;exact .go (.ret h))
 refine .loop (fun (v,o)=>0≤v∧v≤Z0 r∧Z0 o=Z0 r∧∀ j,0≤j→j < v→Z1 0 o j=clsL (Z1 0 r j)) (fun x=>(Z0 r-x.1).toNat) ⟨by omega,hn,Y3 _ hn,fun j j0 j1=>by omega⟩ ?_
 rintro ⟨v,o⟩ ⟨v0,v1,ol,og⟩
 refine .ite (fun h=>?_) (fun h=>?_)
 · have h:v < Z0 r:=by simpa using h
   refine .chk ⟨v0,h⟩ (.call (class_L _) (.chk ⟨v0,h⟩ (.chk (Zm (by omega) (by omega)) (.ret ⟨⟨by omega,by omega,by simp [ol],fun j j0 j1=>?_⟩,by simp only;omega⟩))))
   rw [Zk v0 j0 (by omega)]
   split
   · rename_i e;rw [e]
   · exact og j j0 (by omega)
 · have h:Z0 r≤v:=by simpa using h
   exact .ret ⟨o,rfl,ol,fun j j0 j1=>og j j0 (by omega)⟩
theorem side_yields (x:Int):Zd (Z3b x) (fun s=>(s=1∨s=2)∧(x=0→s=1)):=by
 unfold Z3b
 refine .ite (fun h=>.ret ⟨.inr rfl,fun hx=>?_⟩) (fun _=>.ret ⟨.inl rfl,fun _=>rfl⟩)
 subst hx
 have:bndI .i64 0 1=1:=by simpa using h
 have h2:bndI .i64 0 1=0 % 2:=bnd_mask 0 1 (by omega)
 omega
theorem max0 {a b:Int} (ha:a=0) (hb:b=0):Yn a b=0:=by subst ha;subst hb;rfl
theorem edges_yields {l seq:List Int} {R:Zn} {base b:Int} (hb:Z0 l≤100000) (n1:Z0 R.fLevels=Z0 l) (n2:Z0 R.fClasses=Z0 l) (n3:Z0 R.fRemoved=Z0 l) (hp:Xp base=some b)
  (s0:0 < Z0 seq) (s1:Z0 seq≤Z0 l) (hs : ∀ j,0≤j→j < Z0 seq→0≤Z1 0 seq j∧Z1 0 seq j < Z0 l) :
  Zd (Z21 l R base seq) (fun e=>(e.1=1∨e.1=2)∧(e.2=1∨e.2=2)∧(b=0→(∀ i,0≤i→i < Z0 l→Z1 0 R.fLevels i=0)→e.1=1∧e.2=1)):=by
 have hn:=Zc l
 unfold Z21
 refine .call (b:=true) (by unfold Z3a;simp [n1,n2,n3]) ?_
 refine .ite (fun h=>?_) (fun _=>?_)
 · exfalso
   have:Z0 seq=0:=by simpa using h
   omega
 refine .cut (fun q=>q = .go ()) ?_ ?_
 · refine .loop (fun v=>0≤v∧v≤Z0 seq) (fun v=>(Z0 seq-v).toNat) ⟨by omega,by omega⟩ ?_
   rintro v ⟨v0,v1⟩
   refine .ite (fun h=>?_) (fun _=>.ret rfl)
   have h:v < Z0 seq:=by simpa using h
   have:=hs v v0 h
   refine .chk ⟨v0,h⟩ ?_
   refine .ite (fun hh=>?_) (fun _=>.chk (Zm (by omega) (by omega)) (.ret ⟨⟨by omega,by omega⟩,by simp only;omega⟩))
   exfalso
   rw [decide_eq_false (by omega),decide_eq_false (by omega)] at hh;cases hh
 rintro q rfl
 refine .go (.chk ⟨by omega,s0⟩ (.chk (Zm (by omega) (by omega)) (.chk ⟨by omega,by omega⟩ ?_)))
 have hf:=hs 0 (by omega) s0
 have hl:=hs (Z0 seq-1) (by omega) (by omega)
 simp only
 generalize Z1 0 seq 0=first at hf ⊢
 generalize Z1 0 seq (Z0 seq-1)=last at hl ⊢
 refine .call hp (.call hp ?_)
 refine .cut (fun q=>∃ a,q = .go a∧(b=0→(∀ i,0≤i→i < Z0 l→Z1 0 R.fLevels i=0)→a=0)) ?_ ?_
 · refine .chk (Zm (by omega) (by omega)) ?_
   refine .loop (fun i=>-1≤i∧i < Z0 l) (fun i=>(i+1).toNat) ⟨by omega,by omega⟩ ?_
   rintro i ⟨i0,i1⟩
   refine .ite (fun h=>?_) (fun _=>.ret ⟨b,rfl,fun h _=>h⟩)
   have h:0≤i:=by simpa using h
   refine .chk ⟨h,by omega⟩ (.ite (fun _=>.chk ⟨h,by omega⟩ (.ret ⟨_,rfl,fun _ hz=>hz i h i1⟩)) (fun _=>.chk (Zm (by omega) (by omega)) (.ret ⟨⟨by omega,by omega⟩,by simp only;omega⟩)))
 rintro q ⟨a,rfl,ha⟩
 refine .go ?_
 refine .cut (fun q=>∃ a,q = .go a∧(b=0→(∀ i,0≤i→i < Z0 l→Z1 0 R.fLevels i=0)→a=0)) ?_ ?_
 · refine .chk hl ?_
   have iso : ∃ v,Ql (Z1 0 l last)=some v:=by unfold Ql;exact ⟨_,rfl⟩
   obtain ⟨v,hv⟩:=iso
   refine .call hv ?_
   have fin:Zd (loopO (fun (i1:Int) =>
     Z7 (decide (i1 < (Z0 l)))
      (chk (0≤i1∧i1 < (Z0 R.fRemoved)) <|
       Z7 (!(Z1 false R.fRemoved i1))
        (chk (0≤i1∧i1 < (Z0 R.fLevels)) <|
         let behind1:=(Z1 0 R.fLevels i1)
         some (.out (.go behind1)))
        (chk (inR .i64 (i1+1)) <|
         let i2:=(i1+1)
         some (.go i2)))
      (some (.out (.go b)))) (last+1)) (fun q:Fl Int (Int × Int)=>∃ a,q = .go a∧(b=0→(∀ i,0≤i→i < Z0 l→Z1 0 R.fLevels i=0)→a=0)):=by
    refine .loop (fun i=>0≤i∧i≤Z0 l) (fun i=>(Z0 l-i).toNat) ⟨by omega,by omega⟩ ?_
    rintro i ⟨i0,i1⟩
    refine .ite (fun h=>?_) (fun _=>.ret ⟨b,rfl,fun h _=>h⟩)
    have h:i < Z0 l:=by simpa using h
    refine .chk ⟨i0,by omega⟩ (.ite (fun _=>.chk ⟨i0,by omega⟩ (.ret ⟨_,rfl,fun _ hz=>hz i i0 h⟩)) (fun _=>.chk (Zm (by omega) (by omega)) (.ret ⟨⟨by omega,by omega⟩,by simp only;omega⟩)))
   cases v with
   | false =>
    refine .call (b:=[]) rfl (.chk (fun h=>by cases h) (.ite (fun _=>.chk (Zm (by omega) (by omega)) fin) (fun h=>by cases h)))
   | true =>
    refine .bind _ (Z44 hb) fun mt hm=>?_
    have ml:=hm.1
    refine .chk (fun _=>⟨hl.1,by omega⟩) (.ite (fun _=>.chk (Zm (by omega) (by omega)) fin) (fun _=>.ret ⟨b,rfl,fun h _=>h⟩))
 rintro q ⟨c,rfl,hc⟩
 refine .go (.chk ⟨hf.1,by omega⟩ ?_)
 refine .bind _ (side_yields _) fun s1 h1=>.bind _ (side_yields _) fun s2 h2=>.ret ⟨h1.1,h2.1,fun hb0 hz=>?_⟩
 have:=hz first hf.1 hf.2
 exact ⟨h1.2 (max0 this (ha hb0 hz)),h2.2 (max0 this (hc hb0 hz))⟩
theorem neutral_yields {r was l:List Int} {level sos eos:Int} (hb:Z0 l≤100000) (hr:Z0 r=Z0 l) (hw:Z0 was=Z0 l) (hs:sos=1∨sos=2) :
  Zd (Z1h Xi r was l level sos eos) (fun o=>Z0 o=Z0 l∧(∀ i,0≤i→i < Z0 l→(Z1 0 l i=1∨Z1 0 l i=2∨Z1 0 l i=4∨Z1 0 l i=7)→Z1 0 was i≠9→Z1 0 o i=Z1 0 l i)
  ∧(level=0→sos=1→(∀ i,0≤i→i < Z0 l→Z1 0 l i≠2∧Z1 0 l i≠4∧Z1 0 l i≠7)→∀ i,0≤i→i < Z0 l→Z1 0 o i≠2∧Z1 0 o i≠4∧Z1 0 o i≠7)):=by
 have hn:=Zc l
 unfold Z1h
 refine .call (clone_eq l hb) (.ite (fun h=>by simp [hr,hw] at h) (fun _=>?_))
 refine .bind _ (pairs_yields (r:=r) (l:=l) hb) fun p hp=>?_
 have hp:=hp.1
 refine .cut (fun q=>∃ d a,q = .go (d,a)∧(d=1∧a=2∨d=2∧a=1)∧(level=0→d=1∧a=2)) ?_ ?_
 · refine .ite (fun h=>.ret ⟨2,1,rfl,.inr ⟨rfl,rfl⟩,fun h0=>?_⟩) (fun _=>.ret ⟨1,2,rfl,.inl ⟨rfl,rfl⟩,fun _=>⟨rfl,rfl⟩⟩)
   subst h0
   have:bndI .i64 0 1=1:=by simpa using h
   have h2:bndI .i64 0 1=0 % 2:=bnd_mask 0 1 (by omega)
   omega
 rintro q ⟨d,a,rfl,hda,h0⟩
 refine .go ?_
 refine .cut (fun q=>∃ o,q = .go o∧Z0 o=Z0 l∧(∀ i,0≤i→i < Z0 l→(Z1 0 l i=1∨Z1 0 l i=2∨Z1 0 l i=4∨Z1 0 l i=7)→Z1 0 was i≠9→Z1 0 o i=Z1 0 l i)
 ∧(level=0→sos=1→(∀ i,0≤i→i < Z0 l→Z1 0 l i≠2∧Z1 0 l i≠4∧Z1 0 l i≠7)→∀ i,0≤i→i < Z0 l→Z1 0 o i≠2∧Z1 0 o i≠4∧Z1 0 o i≠7)) ?_ (fun q hq=>by obtain ⟨o,rfl,h⟩:=hq;exact .go (.ret h))
 let Q:Int→Prop:=fun x=>level=0→sos=1→(∀ i,0≤i→i < Z0 l→Z1 0 l i≠2∧Z1 0 l i≠4∧Z1 0 l i≠7)→x≠2∧x≠4∧x≠7
 have Qd:Q d:=fun h _ _=>by have:=h0 h;omega
 have hQl : ∀ i,0≤i→i < Z0 l→Q (Z1 0 l i):=fun i i0 i1 _ _ h=>h i i0 i1
 by_cases hpl:level=0∧sos=1∧∀ i,0≤i→i < Z0 l→Z1 0 l i≠2∧Z1 0 l i≠4∧Z1 0 l i≠7
 · have hd1:=h0 hpl.1
   have hQ : ∀ x,Q x→x≠2∧x≠4∧x≠7:=fun x h=>h hpl.1 hpl.2.1 hpl.2.2
   have hst : ∀ c,Q c→stf c≠2:=fun c h=>by have:=hQ c h;unfold stf;split<;>(try split)<;>omega
   obtain ⟨o1,e1,l1,g1⟩:=n0_yields (x:=⟨l,was,sos,eos,d,a,p⟩) (r:=r) (l:=l) hb hw rfl hp Q Qd (.inr fun c hc=>by have:=hst c hc;simp only;omega) hQl
   obtain ⟨o2,e2,l2,g2⟩:=n12_yields (x:=⟨o1,was,sos,eos,d,a,p⟩) (by simp only at l1 ⊢;omega) Q Qd (fun _ _ _ _=>by have:=hpl.2.1;simp only;omega) (fun c hc hne _ _ _=>by have:=hst c hc;unfold stf at *;split<;>(try split)<;>omega) (fun i i0 i1=>(g1 i i0 (by simp only at i1 l1 ⊢;omega)).1)
   simp only at l1 l2 g1 g2
   refine .cut (fun q=>q = .go o1) ?_ ?_
   · refine .cut (fun q=>q = .go o1) (.cut (fun q=>q = .go ()) (.chk (by omega) (.ret rfl)) (fun q hq=>by subst hq;exact .go (.call e1 (.chk l1 (.ret rfl))))) (fun q hq=>by subst hq;exact .go (.chk (Zm (by omega) (by omega)) (.ret rfl)))
   rintro q rfl
   refine .go ?_
   refine .cut (fun q=>q = .go o2) ?_ ?_
   · refine .cut (fun q=>q = .go o2) (.cut (fun q=>q = .go ()) (.chk (by omega) (.ret rfl)) (fun q hq=>by subst hq;exact .go (.call e2 (.chk l2 (.ret rfl))))) (fun q hq=>by subst hq;exact .go (.chk (Zm (by omega) (by omega)) (.ret rfl)))
   rintro q rfl
   refine .go (.ret ⟨o2,rfl,by omega,fun i i0 i1 hh h9=>?_,fun _ _ _ i i0 i1=>hQ _ (g2 i i0 (by omega)).1⟩)
   have k1:=(g1 i i0 i1).2 (by omega) h9
   rw [(g2 i i0 (by omega)).2 (by rw [k1];unfold Neu;omega),k1]
 · obtain ⟨o1,e1,l1,g1⟩:=n0_yields (x:=⟨l,was,sos,eos,d,a,p⟩) (r:=r) (l:=l) hb hw rfl hp (fun _=>True) trivial (.inl trivial) (fun _ _ _=>trivial)
   obtain ⟨o2,e2,l2,g2⟩:=n12_yields (x:=⟨o1,was,sos,eos,d,a,p⟩) (by simp only at l1 ⊢;omega) (fun _=>True) trivial (fun _=>trivial) (fun _ _ _=>trivial) (fun _ _ _=>trivial)
   simp only at l1 l2 g1 g2
   refine .cut (fun q=>q = .go o1) ?_ ?_
   · refine .cut (fun q=>q = .go o1) (.cut (fun q=>q = .go ()) (.chk (by omega) (.ret rfl)) (fun q hq=>by subst hq;exact .go (.call e1 (.chk l1 (.ret rfl))))) (fun q hq=>by subst hq;exact .go (.chk (Zm (by omega) (by omega)) (.ret rfl)))
   rintro q rfl
   refine .go ?_
   refine .cut (fun q=>q = .go o2) ?_ ?_
   · refine .cut (fun q=>q = .go o2) (.cut (fun q=>q = .go ()) (.chk (by omega) (.ret rfl)) (fun q hq=>by subst hq;exact .go (.call e2 (.chk l2 (.ret rfl))))) (fun q hq=>by subst hq;exact .go (.chk (Zm (by omega) (by omega)) (.ret rfl)))
   rintro q rfl
   refine .go (.ret ⟨o2,rfl,by omega,fun i i0 i1 hh h9=>?_,fun h1 h2 h3=>absurd ⟨h1,h2,h3⟩ hpl⟩)
   have k1:=(g1 i i0 i1).2 (by omega) h9
   rw [(g2 i i0 (by omega)).2 (by rw [k1];unfold Neu;omega),k1]
end Go.Vx
end
section
namespace Go.Vx
open Go.Proofs
set_option maxRecDepth 100000
def SeqOk (r l:List Int) (R:Zn) (base:Int) (G:Int→Int→Prop) (seq:List Int):Prop :=
 ∃ was e rr w now,Z20 R.fClasses seq=some was∧Z21 l R base seq=some e∧Z20 r seq=some rr∧Z1f was e.1=some w ∧
  Z1h Xi rr was w (Z1 0 R.fLevels (Z1 0 seq 0)) e.1 e.2=some now∧Z0 now=Z0 seq ∧
  ∀ j,0≤j→j < Z0 seq→∃ y,Z0t (Z1 0 now j) (Z1 0 R.fLevels (Z1 0 seq 0))=some y∧G (Z1 0 seq j) y
theorem levels_rule {r l:List Int} {base a0:Int} {R:Zn} {S:List (List Int)} (hb:Z0 l≤100000) (hE:Xc l base=some R) (hS:Qw l R base=some S) (n1:Z0 R.fLevels=Z0 l) (n3:Z0 R.fRemoved=Z0 l)
  (hSn:Z0 S≤Z0 l) (hs : ∀ k,0≤k→k < Z0 S→0 < Z0 (Z1 [] S k)∧Z0 (Z1 [] S k)≤Z0 l∧∀ j,0≤j→j < Z0 (Z1 [] S k)→0≤Z1 0 (Z1 [] S k) j∧Z1 0 (Z1 [] S k) j < Z0 l)
  (B:Int→Prop) (G:Int→Int→Prop) (hB0 : ∀ x,0≤x→x < Z0 l→B (Z1 0 R.fLevels x)) (hGB : ∀ x y,G x y→B y) (ha:Int.tmod (Yn base 0) 2=a0) (hBa:B a0)
  (hq : ∀ k,0≤k→k < Z0 S→SeqOk r l R base G (Z1 [] S k)) :
  Zd (Z23 Xi r l base) (fun o=>Z0 o=Z0 l∧∀ x,0≤x→x < Z0 l→B (Z1 0 o x)∧(Z1 false R.fRemoved x=false→(∃ k j,0≤k∧k < Z0 S∧0≤j∧j < Z0 (Z1 [] S k)∧Z1 0 (Z1 [] S k) j=x)→G x (Z1 0 o x))):=by
 have hn:=Zc l
 have sn:=Zc S
 unfold Z23
 refine .call hE (.call (clone_eq _ (by omega)) ?_)
 refine .cut (fun q=>∃ o,q = .go o∧Z0 o=Z0 l∧(∀ x,0≤x→x < Z0 l→B (Z1 0 o x))∧∀ x,(∃ k j,0≤k∧k < Z0 S∧0≤j∧j < Z0 (Z1 [] S k)∧Z1 0 (Z1 [] S k) j=x)→G x (Z1 0 o x)) ?_ ?_
 · refine .call hS ?_
   refine .loop (fun (v,o)=>0≤v∧v≤Z0 S∧Z0 o=Z0 l∧(∀ x,0≤x→x < Z0 l→B (Z1 0 o x))∧∀ x,(∃ k j,0≤k∧k < v∧0≤j∧j < Z0 (Z1 [] S k)∧Z1 0 (Z1 [] S k) j=x)→G x (Z1 0 o x)) (fun q=>(Z0 S-q.1).toNat)
    ⟨by omega,sn,n1,hB0,fun x ⟨k,j,k0,k1,_⟩=>by omega⟩ ?_
   rintro ⟨v,o⟩ ⟨v0,v1,ol,ob,og⟩
   refine .ite (fun h=>?_) (fun h=>?_)
   · have h:v < Z0 S:=by simpa using h
     obtain ⟨s0,s1,s2⟩:=hs v v0 h
     obtain ⟨was,e,rr,w,now,c1,c2,c3,c4,c5,c6,c7⟩:=hq v v0 h
     refine .cut (fun q=>∃ o,q = .go o∧Z0 o=Z0 l∧(∀ x,0≤x→x < Z0 l→B (Z1 0 o x))∧∀ x,(∃ k j,0≤k∧k < v+1∧0≤j∧j < Z0 (Z1 [] S k)∧Z1 0 (Z1 [] S k) j=x)→G x (Z1 0 o x)) ?_ ?_
     · refine .chk ⟨v0,h⟩ ?_
       simp only [Int.zero_add]
       refine .call c1 (.chk ⟨by omega,s0⟩ (.chk ?_ ?_))
       · have:=s2 0 (by omega) s0;omega
       refine .call c2 (.call c3 (.call c4 (.call c5 ?_)))
       have hsv : ∀ x,(∃ j,0≤j∧j < Z0 (Z1 [] S v)∧Z1 0 (Z1 [] S v) j=x)→0≤x∧x < Z0 l:=fun x ⟨j,j0,j1,e⟩=>by have:=s2 j j0 j1;omega
       have hidx : ∀ x k j,k < v+1→¬ k < v→0≤k→0≤j→j < Z0 (Z1 [] S k)→Z1 0 (Z1 [] S k) j=x→(∃ j,0≤j∧j < Z0 (Z1 [] S v)∧Z1 0 (Z1 [] S v) j=x):=fun x k j h1 h2 h3 h4 h5 h6=>by
        have:k=v:=by omega
        subst this;exact ⟨j,h4,h5,h6⟩
       generalize Z1 [] S v=seq at *
       generalize Z1 0 R.fLevels (Z1 0 seq 0)=lev at *
       refine .loop (fun (j,o)=>0≤j∧j≤Z0 seq∧Z0 o=Z0 l∧(∀ x,0≤x→x < Z0 l→B (Z1 0 o x))∧(∀ x,(∃ k j,0≤k∧k < v∧0≤j∧j < Z0 (Z1 [] S k)∧Z1 0 (Z1 [] S k) j=x)→G x (Z1 0 o x))∧∀ x,(∃ j',0≤j'∧j' < j∧Z1 0 seq j'=x)→G x (Z1 0 o x)) (fun q=>(Z0 seq-q.1).toNat)
        ⟨by omega,by omega,ol,ob,og,fun x ⟨j',q0,q1,_⟩=>by omega⟩ ?_
       rintro ⟨j,o⟩ ⟨j0,j1,ol,ob,og,oh⟩
       simp only
       refine .ite (fun hj=>?_) (fun hj=>?_)
       · have hj:j < Z0 seq:=by simpa using hj
         obtain ⟨y,hy,gy⟩:=c7 j j0 hj
         have hx:=s2 j j0 hj
         refine .chk ⟨j0,hj⟩ (.chk ⟨j0,by omega⟩ ?_)
         refine .call hy (.chk ⟨hx.1,by omega⟩ (.chk (Zm (by omega) (by omega)) (.ret ⟨⟨by omega,by omega,by simp [ol],fun x x0 x1=>?_,fun x hk=>?_,fun x hk=>?_⟩,by simp only;omega⟩)))
         · simp only
           rw [Zk hx.1 x0 (by omega)]
           split
           · exact hGB _ _ gy
           · exact ob x x0 x1
         · simp only
           have hxx:=og x hk
           obtain ⟨k,j',k0,k1,q0,q1,e⟩:=hk
           have hr:=(hs k k0 (by omega)).2.2 j' q0 q1
           rw [Zk hx.1 (by omega) (by omega)]
           split
           · rename_i e2;rw [e2];exact gy
           · exact hxx
         · obtain ⟨j',q0,q1,e⟩:=hk
           simp only at q1 ⊢
           have hr:=s2 j' q0 (by omega)
           rw [Zk hx.1 (by omega) (by omega)]
           split
           · rename_i e2;rw [e2];exact gy
           · rename_i e2
             have:j'≠j:=fun h=>e2 (by rw [← e,h])
             exact oh x ⟨j',q0,by omega,e⟩
       · have hj:Z0 seq≤j:=by simpa using hj
         refine .ret ⟨o,rfl,ol,ob,fun x ⟨k,j',k0,k1,q0,q1,e⟩=>?_⟩
         by_cases hk:k < v
         · exact og x ⟨k,j',k0,hk,q0,q1,e⟩
         · obtain ⟨j2,a1,a2,a3⟩:=hidx x k j' k1 hk k0 q0 q1 e
           exact oh x ⟨j2,a1,by omega,a3⟩
     · rintro q ⟨o,rfl,h1,h2,h3⟩
       exact .go (.chk (Zm (by omega) (by omega)) (.ret ⟨⟨by omega,by omega,h1,h2,h3⟩,by simp only;omega⟩))
   · have h:Z0 S≤v:=by simpa using h
     exact .ret ⟨o,rfl,ol,ob,fun x ⟨k,j,k0,k1,hh⟩=>og x ⟨k,j,k0,by omega,hh⟩⟩
 rintro q ⟨o,rfl,ol,ob,og⟩
 refine .go (.chk (by decide) ?_)
 simp only [ha]
 refine .cut (fun q=>∃ o,q = .go o∧Z0 o=Z0 l∧∀ x,0≤x→x < Z0 l→B (Z1 0 o x)∧(Z1 false R.fRemoved x=false→(∃ k j,0≤k∧k < Z0 S∧0≤j∧j < Z0 (Z1 [] S k)∧Z1 0 (Z1 [] S k) j=x)→G x (Z1 0 o x))) ?_ (fun q hq=>by obtain ⟨o,rfl,h⟩:=hq;exact .go (.ret h))
 refine .loop (fun (a,v,o)=>B a∧0≤v∧v≤Z0 l∧Z0 o=Z0 l∧∀ x,0≤x→x < Z0 l→B (Z1 0 o x)∧(Z1 false R.fRemoved x=false→(∃ k j,0≤k∧k < Z0 S∧0≤j∧j < Z0 (Z1 [] S k)∧Z1 0 (Z1 [] S k) j=x)→G x (Z1 0 o x))) (fun q=>(Z0 l-q.2.1).toNat)
  ⟨hBa,by omega,hn,ol,fun x x0 x1=>⟨ob x x0 x1,fun _ hx=>og x hx⟩⟩ ?_
 rintro ⟨a,v,o⟩ ⟨ba,v0,v1,ol,og⟩
 simp only
 refine .ite (fun h=>?_) (fun _=>.ret ⟨o,rfl,ol,og⟩)
 have h:v < Z0 l:=by rw [n3] at h;simpa using h
 refine .cut (fun q=>∃ a o,q = .go (a,o)∧B a∧Z0 o=Z0 l∧∀ x,0≤x→x < Z0 l→B (Z1 0 o x)∧(Z1 false R.fRemoved x=false→(∃ k j,0≤k∧k < Z0 S∧0≤j∧j < Z0 (Z1 [] S k)∧Z1 0 (Z1 [] S k) j=x)→G x (Z1 0 o x))) ?_ ?_
 · refine .chk ⟨v0,by omega⟩ ?_
   refine .cut (fun q=>∃ o,q = .go o∧Z0 o=Z0 l∧∀ x,0≤x→x < Z0 l→B (Z1 0 o x)∧(Z1 false R.fRemoved x=false→(∃ k j,0≤k∧k < Z0 S∧0≤j∧j < Z0 (Z1 [] S k)∧Z1 0 (Z1 [] S k) j=x)→G x (Z1 0 o x))) ?_ ?_
   · refine .ite (fun hg=>?_) (fun _=>.ret ⟨o,rfl,ol,og⟩)
     refine .chk ⟨v0,by omega⟩ (.ret ⟨_,rfl,by simp [ol],fun x x0 x1=>?_⟩)
     rw [Zk v0 x0 (by omega)]
     split
     · rename_i e;subst e;exact ⟨ba,fun hf=>by rw [hf] at hg;cases hg⟩
     · exact og x x0 x1
   · rintro q ⟨o,rfl,ol,og⟩
     simp only [Int.zero_add]
     exact .go (.chk ⟨v0,by omega⟩ (.ret ⟨_,o,rfl,(og v v0 h).1,ol,og⟩))
 · rintro q ⟨a,o,rfl,h1,h2,h3⟩
   exact .go (.chk (Zm (by omega) (by omega)) (.ret ⟨⟨h1,by simp only;omega,by simp only;omega,h2,h3⟩,by simp only;omega⟩))
end Go.Vx
end
section
namespace Go.Vx
open Go.Proofs
set_option maxRecDepth 100000
theorem implicit_yields {c lev:Int} (h0:0≤lev) (h1:lev≤125):Zd (Z0t c lev) (fun y=>lev≤y∧y≤126∧(lev=0∨lev=1→y≤2∧(c=1→y=lev*2)∧(c=2→y=1)∧(c=4∨c=7→y=2))):=by
 have e:bndI .i64 lev 1=lev % 2:=bnd_mask lev 1 (by omega)
 unfold Z0t
 rw [e]
 refine .ite (fun hh=>?_) (fun hh=>?_)
 · have ho:lev % 2=1:=by
    by_cases ho:lev % 2=1
    · exact ho
    · simp [ho] at hh
   have hc:c=1∨c=4∨c=7:=by
    simp [ho] at hh
    omega
   exact .chk (Zm (by omega) (by omega)) (.ret ⟨by omega,by omega,fun _=>⟨by omega,by omega,by omega,by omega⟩⟩)
 refine .ite (fun hh2=>?_) (fun hh2=>?_)
 · have ho : ¬ lev % 2=1:=by
    intro ho
    simp [ho] at hh2
   have hc:c=2:=by simp [ho] at hh2;omega
   exact .chk (Zm (by omega) (by omega)) (.ret ⟨by omega,by omega,fun _=>⟨by omega,by omega,by omega,by omega⟩⟩)
 refine .ite (fun hh3=>?_) (fun hh3=>?_)
 · have ho : ¬ lev % 2=1:=by
    intro ho
    simp [ho] at hh3
   have hc:c=4∨c=7:=by simp [ho] at hh3;omega
   exact .chk (Zm (by omega) (by omega)) (.ret ⟨by omega,by omega,fun _=>⟨by omega,by omega,by omega,by omega⟩⟩)
 · refine .ret ⟨by omega,by omega,fun hl=>?_⟩
   by_cases ho:lev % 2=1
   · simp [ho] at hh hh2 hh3
     exact ⟨by omega,by omega,by omega,by omega⟩
   · simp [ho] at hh hh2 hh3
     exact ⟨by omega,by omega,by omega,by omega⟩
def Gd (l:List Int) (b x y:Int):Prop:=(b≤y∧y≤126)∧(Flat l→y≤2∧(Z1 0 l x=1→y % 2=0)∧(Z1 0 l x=2∨Z1 0 l x=3→y % 2=1)∧(Z1 0 l x=4∨Z1 0 l x=7→y % 2=0))
theorem flat_run {l:List Int} {b:Int} {R:Zn} (hb:Z0 l≤100000) (hb0:b=0∨b=1) (hE:Xc l b=some R) (hf:Flat l):FlatRun l b R:=by
 obtain ⟨R',h1,h2⟩:=explicit_flat hb hf hb0
 rw [hE] at h1;cases h1;exact h2
theorem levels_bounds {r l:List Int} {b:Int} (hb:Z0 l≤100000) (hr:Z0 r=Z0 l) (hb0:b=0∨b=1) :
  Zd (Z23 Xi r l b) (fun o=>Z0 o=Z0 l∧∀ x,0≤x→x < Z0 l→(b≤Z1 0 o x∧Z1 0 o x≤126∧(Flat l→Z1 0 o x≤2))∧(Flat l→Z1 0 l x≠10→Gd l b x (Z1 0 o x))):=by
 have hn:=Zc l
 have hpar:=parity_flat hb0
 obtain ⟨R,hE,F⟩:=explicit_run b hb
 obtain ⟨R',hE',L⟩:=explicit_bd (base:=b) hb hpar (by omega)
 rw [hE] at hE';cases hE'
 obtain ⟨S,hS,SP⟩:=seqs_yields b hb F
 have n1:=F.n1;have n2:=F.n2;have n3:=F.n3
 refine (levels_rule (a0:=b) hb hE hS n1 n3 SP.s7 (fun k k0 k1=>⟨(SP.s1 k k0 k1).1,(SP.s1 k k0 k1).2,fun j j0 j1=>by have:=SP.s3 k j k0 k1 j0 j1;exact ⟨this.1,this.2.1⟩⟩)
  (fun y=>b≤y∧y≤126∧(Flat l→y≤2)) (Gd l b) (fun x x0 x1=>?_) (fun x y h=>⟨h.1.1,h.1.2,fun hf=>(h.2 hf).1⟩) (by rcases hb0 with rfl | rfl<;>decide) (by omega) fun k k0 k1=>?_).mono fun o ho=>⟨ho.1,fun x x0 x1=>⟨(ho.2 x x0 x1).1,fun hf h10=>?_⟩⟩
 · have:=L x x0 x1
   refine ⟨this.1,by omega,fun hf=>?_⟩
   have:=(flat_run hb hb0 hE hf).lv x x0 x1
   omega
 · obtain ⟨s0,s1⟩:=SP.s1 k k0 k1
   have s3:=fun j j0 j1=>SP.s3 k j k0 k1 j0 j1
   generalize Z1 [] S k=seq at s0 s1 s3 ⊢
   have sr : ∀ j,0≤j→j < Z0 seq→0≤Z1 0 seq j∧Z1 0 seq j < Z0 l:=fun j j0 j1=>⟨(s3 j j0 j1).1,(s3 j j0 j1).2.1⟩
   obtain ⟨was,c1,wasl,wasg⟩:=pick_yields (l:=R.fClasses) (seq:=seq) (by omega) (by rw [n2];exact sr)
   obtain ⟨ed,c2,e1,e2,-⟩:=edges_yields (R:=R) (base:=b) (b:=b) (seq:=seq) hb n1 n2 n3 hpar s0 s1 sr
   obtain ⟨rr,c3,rrl,-⟩:=pick_yields (l:=r) (seq:=seq) (by omega) (by rw [hr];exact sr)
   obtain ⟨w,c4,W⟩:=weak_yields (l:=was) (s:=ed.1) (by omega) e1
   have wL:=W.len
   obtain ⟨now,c5,nl,ng,-⟩:=neutral_yields (r:=rr) (was:=was) (l:=w) (level:=Z1 0 R.fLevels (Z1 0 seq 0)) (sos:=ed.1) (eos:=ed.2) (by omega) (by omega) (by omega) e1
   have h00:=sr 0 (by omega) s0
   have hlev:=L _ h00.1 h00.2
   refine ⟨was,ed,rr,w,now,c1,c2,c3,c4,c5,by omega,fun j j0 j1=>?_⟩
   obtain ⟨y,hy,y1,y2,y3⟩:=implicit_yields (c:=Z1 0 now j) (lev:=Z1 0 R.fLevels (Z1 0 seq 0)) (by omega) (by omega)
   refine ⟨y,hy,⟨by omega,y2⟩,fun hf=>?_⟩
   have FR:=flat_run hb hb0 hE hf
   have hl0:=FR.lv _ h00.1 h00.2
   have hx:=sr j j0 j1
   have hwas:Z1 0 was j=Z1 0 l (Z1 0 seq j):=by rw [wasg j j0 j1,FR.cl]
   rw [hl0] at y1 y3
   obtain ⟨z1,z2,z3,z4⟩:=y3 hb0
   have wj:=Zc was
   refine ⟨z1,fun h=>?_,fun h=>?_,fun h=>?_⟩
   · have hw1:=W.L j j0 (by omega) (by rw [hwas];exact h)
     have:=ng j j0 (by omega) (by omega) (by rw [hwas];omega)
     have:=z2 (by rw [this,hw1])
     omega
   · have hw1:=W.R j j0 (by omega) (by rw [hwas];exact h)
     have:=ng j j0 (by omega) (by omega) (by rw [hwas];omega)
     have:=z3 (by rw [this,hw1])
     omega
   · have hw1:Z1 0 w j=4∨Z1 0 w j=7∨Z1 0 w j=1:=by
      rcases h with h | h
      · exact W.N j j0 (by omega) (by rw [hwas];exact h)
      · exact .inr (.inl (W.A j j0 (by omega) (by rw [hwas];exact h)))
     have hnow:=ng j j0 (by omega) (by omega) (by rw [hwas];omega)
     rcases hw1 with hw1 | hw1 | hw1
     · have:=z4 (.inl (by rw [hnow,hw1]));omega
     · have:=z4 (.inr (by rw [hnow,hw1]));omega
     · have:=z2 (by rw [hnow,hw1]);omega
 · have hrm:Z1 false R.fRemoved x=false:=by
    rw [(flat_run hb hb0 hE hf).rm x x0 x1];simpa using h10
   exact (ho.2 x x0 x1).2 hrm (SP.s6 x x0 x1 hrm |>.imp fun i ⟨j,a,c,d,e,f⟩=>⟨j,a,c,d,e,f⟩)
theorem base2_yields {l:List Int} (hb:Z0 l≤100000):Zd (Z4p l) (fun b=>b=0∨b=1):=by
 unfold Z4p
 refine .bind _ (Z44 hb) fun mt hm=>?_
 obtain ⟨ml,o,I⟩:=hm
 exact .bind _ (base_yields hb (Int.le_refl _) (Int.le_refl _) ml fun i i0 i1 hO=>by
  rcases (I.loc i i0 i1).1 hO with h | ⟨h1,h2,_,_⟩<;>omega) fun b hb=>.ret hb
end Go.Vx
end
