/- Part of a proof; no conditions of its own. -/
import Derived.Test.YtkaphbmifenkbaaGreatDoorVE1
set_option linter.all false
namespace Go.Vx
set_option maxRecDepth 100000
def Flat (l:List Int):Prop:=∀ i,0≤i→i < lenL l→1≤getL 0 l i∧getL 0 l i≤14
theorem known_flat {l:List Int} (hb:lenL l≤100000) (hf:Flat l):embed_known l=some l:=by
 have hn:=lenL_nn l
 refine Yields.eq ?_
 unfold embed_known
 refine .chk (mkOk hn (by omega) (by omega)) ?_
 refine .cut (fun r=>r = .go l) ?_ (fun r hr=>by subst hr;exact .go (.ret rfl))
 refine .loop (fun x=>0≤x.1∧x.1≤lenL l∧lenL x.2=lenL l∧∀ i,0≤i→i < x.1→getL 0 x.2 i=getL 0 l i) (fun x=>(lenL l-x.1).toNat)
  ⟨by simp only;omega,by simp only;omega,lenL_rep _ hn,fun i h0 h1=>by simp only at h1;omega⟩ ?_
 rintro ⟨v,o⟩ ⟨v0,vn,hl,hg⟩
 simp only at v0 vn hl hg ⊢
 refine .ite (fun h=>?_) (fun h=>?_)
 · have h:v < lenL l:=by simpa using h
   obtain ⟨c0,c1⟩:=hf v v0 h
   refine .chk ⟨v0,h⟩ ?_
   refine .ite (fun h2=>?_) (fun _=>?_)
   · simp at h2;omega
   · refine .chk ⟨v0,h⟩ (.chk (inR64 (by omega) (by omega)) (.ret ⟨⟨by simp only;omega,by simp only;omega,by simp [hl],fun i i0 i1=>?_⟩,by simp only;omega⟩))
     simp only at i1 ⊢
     rw [getL_put v0 i0 (by omega)]
     split
     · rename_i he;rw [he]
     · exact hg i i0 (by omega)
 · have h:lenL l≤v:=by simpa using h
   have e:v=lenL l:=by omega
   subst e
   refine .ret ?_
   have:o=l:=extL 0 hl fun i i0 i1=>hg i i0 (by omega)
   rw [this]
   exact rfl
theorem parity_flat {b:Int} (hb:b=0∨b=1):embed_parity b=some b:=by
 unfold embed_parity
 rw [chk_ok (by decide)]
 rcases hb with rfl | rfl<;>decide
theorem ss_last_one (s:T_embed_status):ss_last ⟨[s]⟩=some s:=by
 unfold ss_last
 rw [chk_ok (inR64 (by simp) (by simp)),chk_ok (by simp)]
 rfl
theorem take_flat {l mt:List Int} {b:Int} {o8 o9:List Int} {o10:List Bool} {i:Int} (i0:0≤i) (i1:i < lenL o8) :
  m_take ⟨l,mt,b,⟨o8,o9,o10⟩,⟨[⟨b,14,false⟩]⟩,0,0,0⟩ i=some ⟨l,mt,b,⟨setL o8 i b,o9,o10⟩,⟨[⟨b,14,false⟩]⟩,0,0,0⟩:=by
 unfold m_take
 simp only [ss_last_one]
 show (chk _ _)=_
 rw [chk_ok ⟨i0,i1⟩]
 rfl
theorem remove_flat {l mt:List Int} {b:Int} {o8 o9:List Int} {o10:List Bool} {i:Int} (i0:0≤i) (i1:i < lenL o8) (i2:i < lenL o10) :
  m_remove ⟨l,mt,b,⟨o8,o9,o10⟩,⟨[⟨b,14,false⟩]⟩,0,0,0⟩ i=some ⟨l,mt,b,⟨setL o8 i b,o9,setL o10 i true⟩,⟨[⟨b,14,false⟩]⟩,0,0,0⟩:=by
 unfold m_remove
 simp only [ss_last_one]
 show (chk _ _)=_
 rw [chk_ok ⟨i0,i1⟩,chk_ok ⟨i0,i2⟩]
structure FlatRun (l:List Int) (b:Int) (r:T_embed_Run):Prop where
 n1:lenL r.fLevels=lenL l
 lv : ∀ i,0≤i→i < lenL l→getL 0 r.fLevels i=b
 cl:r.fClasses=l
 n3:lenL r.fRemoved=lenL l
 rm : ∀ i,0≤i→i < lenL l→getL false r.fRemoved i=decide (getL 0 l i=10)
theorem explicit_flat {l:List Int} {b:Int} (hn2:lenL l≤100000) (hf:Flat l) (hb:b=0∨b=1):Yields (embed_Explicit l b) (FlatRun l b):=by
 have hn:=lenL_nn l
 unfold embed_Explicit
 refine .cut (fun r=>∃ mt,r = .go (l,l,mt,b,repL (lenL l) 0,l,repL (lenL l) false,[])) ?_ ?_
 · refine .call (known_flat hn2 hf) ?_
   refine .bind _ (match_yields hn2) fun mt _=>?_
   refine .call (parity_flat hb) ?_
   refine .chk (mkOk hn (by omega) (by omega)) (.chk (grOk hn (by omega) (by omega)) (.chk (mkOk hn (by omega) (by omega)) (.ret ⟨mt,rfl⟩)))
 rintro r ⟨mt,rfl⟩
 refine .go ?_
 refine .call (b:=⟨[⟨b,14,false⟩]⟩) (by unfold ss_push;rw [chk_ok (grOk (by simp) (by simp) (by omega))];rfl) ?_
 refine .cut (fun r=>∃ A B x y z w L R C S,r = .go (A,B,x,y,z,w,L,C,R,S)∧FlatRun l b ⟨L,C,R⟩) ?_ (by
  rintro r ⟨A,B,x,y,z,w,L,R,C,S,rfl,h⟩
  exact .go (.ret h))
 refine .loop (fun (v1,A,B,x,y,z,w,L,C,R,S)=>0≤v1∧v1≤lenL l∧A=l∧x=b∧y=0∧z=0∧w=0∧lenL L=lenL l∧(∀ i,0≤i→i < v1→getL 0 L i=b)∧C=l∧lenL R=lenL l∧(∀ i,0≤i→i < lenL l→getL false R i=if i < v1 then decide (getL 0 l i=10) else false)∧S=[⟨b,14,false⟩]) (fun x=>(lenL l-x.1).toNat)
  ⟨by omega,hn,rfl,rfl,rfl,rfl,rfl,lenL_rep _ hn,fun i h0 h1=>by omega,rfl,lenL_rep _ hn,fun i h0 h1=>by rw [if_neg (by omega)];exact getL_rep h0 h1,rfl⟩ ?_
 rintro ⟨v,A,B,x,y,z,w,L,C,R,S⟩ ⟨v0,vn,rfl,rfl,rfl,rfl,rfl,n1,lv,rfl,n3,rm,rfl⟩
 refine .ite (fun h=>?_) (fun h=>?_)
 · have h:v < lenL C:=by simpa using h
   obtain ⟨c0,c1⟩:=hf v v0 h
   refine .cut (fun r=>∃ L' R',r = .go (C,B,x,0,0,0,L',C,R',[⟨x,14,false⟩])∧L'=setL L v x∧R'=(if getL 0 C v=10 then setL R v true else R)) ?_ ?_
   · refine .chk ⟨v0,h⟩ ?_
     refine .cut (fun r=>r = .go false) ?_ ?_
     · refine .ite (fun hh=>by simp at hh;omega) (fun _=>.ite (fun hh=>by simp at hh;omega) (fun _=>.ite (fun hh=>by simp at hh;omega) (fun _=>.ret ?_)))
       have:(getL 0 C v == 16)=false:=by simp;omega
       rw [this]
     rintro r rfl
     refine .go (.ite (fun hh=>by cases hh) (fun _=>?_))
     refine .cut (fun r=>r = .go false) ?_ ?_
     · refine .ite (fun hh=>by simp at hh;omega) (fun _=>.ite (fun hh=>by simp at hh;omega) (fun _=>.ret ?_))
       have:(getL 0 C v == 22)=false:=by simp;omega
       rw [this]
     rintro r rfl
     refine .go (.ite (fun hh=>by cases hh) (fun _=>?_))
     refine .ite (fun hh=>by simp at hh;omega) (fun _=>.ite (fun hh=>by simp at hh;omega) (fun _=>?_))
     refine .ite (fun hh=>?_) (fun _=>.ite (fun hh=>?_) (fun hh=>?_))
     · refine .chk ⟨v0,by omega⟩ (.ret ⟨_,_,rfl,rfl,?_⟩)
       rw [if_neg (by simp at hh;omega)]
     · refine .call (remove_flat v0 (by omega) (by omega)) (.ret ⟨_,_,rfl,rfl,?_⟩)
       rw [if_pos (by simpa using hh)]
     · refine .call (take_flat v0 (by omega)) (.ret ⟨_,_,rfl,rfl,?_⟩)
       rw [if_neg (by simpa using hh)]
   · rintro r ⟨L',R',rfl,rfl,rfl⟩
     refine .go (.chk (inR64 (by omega) (by omega)) (.ret ⟨⟨by omega,by omega,rfl,rfl,rfl,rfl,rfl,by simp [n1],fun i i0 i1=>?_,rfl,?_,fun i i0 i1=>?_,rfl⟩,by simp only;omega⟩))
     · rw [getL_put v0 i0 (by omega)]
       split
       · rfl
       · exact lv i i0 (by omega)
     · split<;>simp [n3]
     · by_cases he:i=v
       · subst he
         rw [if_pos (show i < i+1 by omega)]
         by_cases h10:getL 0 C i=10
         · rw [if_pos h10,getL_put v0 i0 (by omega),if_pos rfl];simp [h10]
         · rw [if_neg h10,rm i i0 i1,if_neg (show ¬ i < i by omega)];simp [h10]
       · have e1:getL false (if getL 0 C v=10 then setL R v true else R) i=getL false R i:=by
          split
          · rw [getL_put v0 i0 (by omega),if_neg he]
          · rfl
         rw [e1,rm i i0 i1]
         by_cases hh:i < v
         · rw [if_pos hh,if_pos (by omega)]
         · rw [if_neg hh,if_neg (by omega)]
 · have h:lenL C≤v:=by simpa using h
   have e:v=lenL C:=by omega
   subst e
   exact .ret ⟨_,_,_,_,_,_,_,_,_,_,rfl,n1,lv,rfl,n3,fun i i0 i1=>by rw [rm i i0 i1,if_pos i1]⟩
end Go.Vx
