/- Part of a proof; no conditions of its own. -/
import Derived.Test.YtkaphbmifenkbaaGreatDoorVLift
import Derived.Test.YtkaphbmifenkbaaGreatDoorVxHoare
set_option linter.all false
namespace Go.Vx
def Op (l:List Int) (i:Int):Prop:=20≤getL 0 l i∧getL 0 l i≤22
structure MInv (l:List Int) (v:Int) (g:Int→Int) (o:List Int):Prop where
 st : ∀ j,0≤j→j < lenL o→0≤getL 0 o j∧getL 0 o j < v∧Op l (getL 0 o j)∧g (getL 0 o j)=lenL l
 inc : ∀ j k,0≤j→j < k→k < lenL o→getL 0 o j < getL 0 o k
 loc : ∀ i,0≤i→i < v→(Op l i→g i=lenL l∨(i < g i∧g i < v∧getL 0 l (g i)=23∧g (g i)=i))∧(getL 0 l i=23→g i = -1∨(0≤g i∧g i < i))∧(¬ Op l i→getL 0 l i≠23→g i = -1)
 nest : ∀ k,0≤k→k < v→Op l k→g k < lenL l→∀ i,k < i→i < g k→g i = -1∨(k < g i∧g i < g k)
 under : ∀ j,0≤j→j < lenL o→∀ i,getL 0 o j < i→i < v→(∃ q,j < q∧q < lenL o∧getL 0 o q=i)∨g i = -1∨(getL 0 o j < g i∧g i < v)
def up (g:Int→Int) (i x:Int):Int→Int:=fun k=>if k=i then x else g k
theorem MInv.zero (l:List Int) (g:Int→Int):MInv l 0 g [] :=
 ⟨fun j h0 h1=>by simp at h1;omega,fun j k h0 h1 h2=>by simp at h2;omega,fun i h0 h1=>by omega,fun k h0 h1=>by omega,fun j h0 h1=>by simp at h1;omega⟩
theorem MInv.plain {l:List Int} {v:Int} {g:Int→Int} {o o':List Int} (I:MInv l v g o) (v0:0≤v) (hn:v < lenL l) (hc : ¬ Op l v) (ho:o'=o∨o'=[]):MInv l (v+1) (up g v (-1)) o':=by
 have hne : ∀ i,i < v→up g v (-1) i=g i:=fun i h=>if_neg (by omega)
 have hv:up g v (-1) v = -1:=if_pos rfl
 have hsub : ∀ j,0≤j→j < lenL o'→o'=o:=fun j h0 h1=>by
  rcases ho with h | h
  · exact h
  · subst h;simp at h1;omega
 refine ⟨fun j h0 h1=>?_,fun j k h0 h1 h2=>?_,fun i h0 h1=>?_,fun k h0 h1 hk hlt i hi hig=>?_,fun j h0 h1 i hi hiv=>?_⟩
 · have e:=hsub j h0 h1;subst e
   obtain ⟨a,b,c,d⟩:=I.st j h0 h1
   exact ⟨a,by omega,c,by rw [hne _ b];exact d⟩
 · have e:=hsub k (by omega) h2;subst e
   exact I.inc j k h0 h1 h2
 · by_cases he:i=v
   · subst he
     rw [hv]
     exact ⟨fun h=>absurd h hc,fun _=>.inl rfl,fun _ _=>rfl⟩
   · have hiv:i < v:=by omega
     obtain ⟨a,b,c⟩:=I.loc i h0 hiv
     rw [hne i hiv]
     refine ⟨fun h=>?_,b,c⟩
     rcases a h with h | ⟨h2,h3,h4,h5⟩
     · exact .inl h
     · exact .inr ⟨h2,by omega,h4,by rw [hne _ h3];exact h5⟩
 · by_cases he:k=v
   · subst he;exact absurd hk hc
   · have hkv:k < v:=by omega
     rw [hne k hkv] at hlt hig ⊢
     obtain ⟨a,_,_⟩:=I.loc k h0 hkv
     rcases a hk with h | ⟨_,h3,_,_⟩
     · omega
     · rw [hne i (by omega)]
       exact I.nest k h0 hkv hk hlt i hi hig
 · have e:=hsub j h0 h1;subst e
   by_cases he:i=v
   · subst he;exact .inr (.inl hv)
   · rcases I.under j h0 h1 i hi (by omega) with h | h | ⟨h2,h3⟩
     · exact .inl h
     · exact .inr (.inl (by rw [hne i (by omega)];exact h))
     · exact .inr (.inr ⟨by rw [hne i (by omega)];exact h2,by rw [hne i (by omega)];omega⟩)
theorem MInv.push {l:List Int} {v:Int} {g:Int→Int} {o:List Int} (I:MInv l v g o) (v0:0≤v) (hn:v < lenL l) (hc:Op l v):MInv l (v+1) (up g v (lenL l)) (o++[v]):=by
 have hne : ∀ i,i < v→up g v (lenL l) i=g i:=fun i h=>if_neg (by omega)
 have hv:up g v (lenL l) v=lenL l:=if_pos rfl
 have hlen:lenL (o++[v])=lenL o+1:=by simp
 have hget : ∀ j,0≤j→j < lenL o→getL 0 (o++[v]) j=getL 0 o j:=fun j h0 h1=>by rw [getL_app h0,if_pos h1]
 have hlast:getL 0 (o++[v]) (lenL o)=v:=by
  rw [getL_app (lenL_nn o),if_neg (by omega),Int.sub_self];rfl
 refine ⟨fun j h0 h1=>?_,fun j k h0 h1 h2=>?_,fun i h0 h1=>?_,fun k h0 h1 hk hlt i hi hig=>?_,fun j h0 h1 i hi hiv=>?_⟩
 · rw [hlen] at h1
   by_cases he:j=lenL o
   · subst he;rw [hlast];exact ⟨v0,by omega,hc,hv⟩
   · rw [hget j h0 (by omega)]
     obtain ⟨a,b,c,d⟩:=I.st j h0 (by omega)
     exact ⟨a,by omega,c,by rw [hne _ b];exact d⟩
 · rw [hlen] at h2
   rw [hget j h0 (by omega)]
   by_cases he:k=lenL o
   · subst he;rw [hlast];exact (I.st j h0 (by omega)).2.1
   · rw [hget k (by omega) (by omega)];exact I.inc j k h0 h1 (by omega)
 · by_cases he:i=v
   · subst he
     rw [hv]
     exact ⟨fun _=>.inl rfl,fun h=>by unfold Op at hc;omega,fun h _=>absurd hc h⟩
   · have hiv:i < v:=by omega
     obtain ⟨a,b,c⟩:=I.loc i h0 hiv
     rw [hne i hiv]
     refine ⟨fun h=>?_,b,c⟩
     rcases a h with h | ⟨h2,h3,h4,h5⟩
     · exact .inl h
     · exact .inr ⟨h2,by omega,h4,by rw [hne _ h3];exact h5⟩
 · by_cases he:k=v
   · subst he;rw [hv] at hlt;omega
   · have hkv:k < v:=by omega
     rw [hne k hkv] at hlt hig ⊢
     obtain ⟨a,_,_⟩:=I.loc k h0 hkv
     rcases a hk with h | ⟨_,h3,_,_⟩
     · omega
     · rw [hne i (by omega)]
       exact I.nest k h0 hkv hk hlt i hi hig
 · rw [hlen] at h1
   by_cases hj:j=lenL o
   · subst hj;rw [hlast] at hi;omega
   · rw [hget j h0 (by omega)] at hi ⊢
     by_cases he:i=v
     · subst he;exact .inl ⟨lenL o,by omega,by omega,hlast⟩
     · rcases I.under j h0 (by omega) i hi (by omega) with ⟨q,q1,q2,q3⟩ | h | ⟨h2,h3⟩
       · exact .inl ⟨q,q1,by omega,by rw [hget q (by omega) q2];exact q3⟩
       · exact .inr (.inl (by rw [hne i (by omega)];exact h))
       · exact .inr (.inr ⟨by rw [hne i (by omega)];exact h2,by rw [hne i (by omega)];omega⟩)
theorem MInv.pop {l:List Int} {v:Int} {g:Int→Int} {o:List Int} (I:MInv l v g o) (v0:0≤v) (hn:v < lenL l) (hc:getL 0 l v=23) (ho:0 < lenL o) {p:Int} (hp:p=getL 0 o (lenL o-1)) {o':List Int} (hl:lenL o'=lenL o-1) (hg : ∀ j,0≤j→j < lenL o-1→getL 0 o' j=getL 0 o j) :
  MInv l (v+1) (up (up g v p) p v) o':=by
 obtain ⟨p0,pv,pop,pg⟩:=I.st (lenL o-1) (by omega) (by omega)
 rw [← hp] at p0 pv pop pg
 have hne : ∀ i,i < v→i≠p→up (up g v p) p v i=g i:=fun i h h'=>by simp only [up];rw [if_neg h',if_neg (by omega)]
 have hv:up (up g v p) p v v=p:=(if_neg (by omega)).trans (if_pos rfl)
 have hpp:up (up g v p) p v p=v:=if_pos rfl
 have hlow : ∀ j,0≤j→j < lenL o-1→getL 0 o j < p:=fun j h0 h1=>by rw [hp];exact I.inc j _ h0 h1 (by omega)
 have hin : ∀ i,p < i→i < v→g i = -1∨(p < g i∧g i < v):=fun i h1 h2=>by
  rcases I.under (lenL o-1) (by omega) (by omega) i (by rw [← hp];exact h1) h2 with ⟨q,q1,q2,_⟩ | h | h
  · omega
  · exact .inl h
  · rw [← hp] at h;exact .inr h
 have hgp : ∀ i,0≤i→i < v→Op l i→g i≠p:=fun i h0 h1 hi he=>by
  rcases (I.loc i h0 h1).1 hi with h | ⟨_,_,h4,_⟩
  · omega
  · rw [he] at h4;unfold Op at pop;omega
 refine ⟨fun j h0 h1=>?_,fun j k h0 h1 h2=>?_,fun i h0 h1=>?_,fun k h0 h1 hk hlt i hi hig=>?_,fun j h0 h1 i hi hiv=>?_⟩
 · rw [hl] at h1
   rw [hg j h0 h1]
   obtain ⟨a,b,c,d⟩:=I.st j h0 (by omega)
   have:=hlow j h0 h1
   exact ⟨a,by omega,c,by rw [hne _ b (by omega)];exact d⟩
 · rw [hl] at h2
   rw [hg j h0 (by omega),hg k (by omega) h2]
   exact I.inc j k h0 h1 (by omega)
 · by_cases he:i=v
   · subst he
     rw [hv]
     exact ⟨fun h=>by unfold Op at h;omega,fun _=>.inr ⟨p0,pv⟩,fun _ h=>absurd hc h⟩
   · by_cases hip:i=p
     · subst hip
       rw [hpp]
       exact ⟨fun _=>.inr ⟨pv,by omega,hc,hv⟩,fun h=>by unfold Op at pop;omega,fun h _=>absurd pop h⟩
     · have hiv:i < v:=by omega
       obtain ⟨a,b,c⟩:=I.loc i h0 hiv
       rw [hne i hiv hip]
       refine ⟨fun h=>?_,b,c⟩
       rcases a h with h' | ⟨h2,h3,h4,h5⟩
       · exact .inl h'
       · exact .inr ⟨h2,by omega,h4,by rw [hne _ h3 (hgp i h0 hiv h)];exact h5⟩
 · by_cases he:k=v
   · subst he;unfold Op at hk;omega
   · by_cases hkp:k=p
     · subst hkp
       rw [hpp] at hig ⊢
       rw [hne i (by omega) (by omega)]
       exact hin i hi hig
     · have hkv:k < v:=by omega
       rw [hne k hkv hkp] at hlt hig ⊢
       obtain ⟨a,_,_⟩:=I.loc k h0 hkv
       rcases a hk with h | ⟨_,h3,_,_⟩
       · omega
       · have hold:=I.nest k h0 hkv hk hlt i hi hig
         by_cases hip:i=p
         · subst hip;rw [pg] at hold;omega
         · rw [hne i (by omega) hip];exact hold
 · rw [hl] at h1
   rw [hg j h0 h1] at hi ⊢
   have hj:=hlow j h0 h1
   by_cases he:i=v
   · subst he;rw [hv];exact .inr (.inr ⟨hj,by omega⟩)
   · by_cases hip:i=p
     · subst hip;rw [hpp];exact .inr (.inr ⟨by omega,by omega⟩)
     · rw [hne i (by omega) hip]
       rcases I.under j h0 (by omega) i hi (by omega) with ⟨q,q1,q2,q3⟩ | h | ⟨h2,h3⟩
       · by_cases hq:q=lenL o-1
         · subst hq;rw [← hp] at q3;exact absurd q3.symm hip
         · exact .inl ⟨q,q1,by omega,by rw [hg q (by omega) (by omega)];exact q3⟩
       · exact .inr (.inl h)
       · exact .inr (.inr ⟨h2,by omega⟩)
theorem MInv.congr {l:List Int} {v:Int} {g g':Int→Int} {o:List Int} (I:MInv l v g o) (v0:v≤lenL l) (h : ∀ i,0≤i→i < v→g' i=g i):MInv l v g' o:=by
 refine ⟨fun j h0 h1=>?_,I.inc,fun i h0 h1=>?_,fun k h0 h1 hk hlt i hi hig=>?_,fun j h0 h1 i hi hiv=>?_⟩
 · obtain ⟨a,b,c,d⟩:=I.st j h0 h1
   exact ⟨a,b,c,by rw [h _ a b];exact d⟩
 · obtain ⟨a,b,c⟩:=I.loc i h0 h1
   rw [h i h0 h1]
   refine ⟨fun hh=>?_,b,c⟩
   rcases a hh with h' | ⟨h2,h3,h4,h5⟩
   · exact .inl h'
   · exact .inr ⟨h2,h3,h4,by rw [h _ (by omega) h3];exact h5⟩
 · rw [h k h0 h1] at hlt hig ⊢
   obtain ⟨a,_,_⟩:=I.loc k h0 h1
   rcases a hk with h' | ⟨_,h3,_,_⟩
   · omega
   · rw [h i (by omega) (by omega)]
     exact I.nest k h0 h1 hk hlt i hi hig
 · obtain ⟨a,_⟩:=I.st j h0 h1
   rw [h i (by omega) hiv]
   exact I.under j h0 h1 i hi hiv
theorem si_push_eq {o:List Int} {v:Int} (h:lenL o < 1000000):si_push ⟨o⟩ v=some ⟨o++[v]⟩:=by
 have:=lenL_nn o
 unfold si_push
 rw [chk_ok (grOk (by simp only;omega) (by simp only;omega) (by omega))]
theorem si_last_eq {o:List Int} (h0:0 < lenL o) (h:lenL o < 1000000):si_last ⟨o⟩=some (getL 0 o (lenL o-1)):=by
 unfold si_last
 rw [chk_ok (inR64 (by simp only;omega) (by simp only;omega)),chk_ok ⟨by simp only;omega,by simp only;omega⟩]
theorem si_pop_eq {o:List Int} (h0:0 < lenL o) (h:lenL o < 1000000):si_pop ⟨o⟩=some ⟨subL o 0 (lenL o-1)⟩:=by
 unfold si_pop
 rw [chk_ok (inR64 (by simp only;omega) (by simp only;omega)),chk_ok ⟨by omega,by simp only;omega,by simp only;omega⟩]
 simp
theorem match_yields {l:List Int} (hb:lenL l≤100000):Yields (embed_Match l) fun m=>lenL m=lenL l∧∃ o,MInv l (lenL l) (getL 0 m) o:=by
 have hn:=lenL_nn l
 unfold embed_Match
 refine .chk (mkOk hn (by omega) (by omega)) ?_
 refine .cut (fun r=>∃ m,r = .go m∧lenL m=lenL l∧∃ o,MInv l (lenL l) (getL 0 m) o) ?_ (fun r hr=>by
  obtain ⟨m,rfl,h⟩:=hr
  exact .go (.ret h))
 refine .loop (fun x=>0≤x.1∧x.1≤lenL l∧lenL x.2.1=lenL l∧lenL x.2.2≤x.1∧MInv l x.1 (getL 0 x.2.1) x.2.2) (fun x=>(lenL l-x.1).toNat)
  ⟨by simp only;omega,by simp only;omega,lenL_rep _ hn,by simp,MInv.zero l _⟩ ?_
 rintro ⟨v,out,o⟩ ⟨v0,vn,hl,hlo,I⟩
 simp only at v0 vn hl hlo I ⊢
 refine .ite (fun h=>?_) (fun h=>?_)
 · have h:v < lenL l:=by simpa using h
   have hgs : ∀ x,∀ i,0≤i→i < v+1→getL 0 (setL out v x) i=up (getL 0 out) v x i:=fun x i i0 i1=>by
    rw [getL_put v0 i0 (by omega)];rfl
   have hfin : ∀ (out' o':List Int),lenL out'=lenL l→lenL o'≤v+1→MInv l (v+1) (getL 0 out') o' →
     Yields (chk (inR .i64 (v+1)) <| some (Fl.go (γ:=Fl (List Int) (List Int)) ((v+1),out',o'))) (StepP (fun x=>0≤x.1∧x.1≤lenL l∧lenL x.2.1=lenL l∧lenL x.2.2≤x.1∧MInv l x.1 (getL 0 x.2.1) x.2.2) (fun x=>(lenL l-x.1).toNat) (fun r=>∃ m,r = .go m∧lenL m=lenL l∧∃ o,MInv l (lenL l) (getL 0 m) o) (v,out,o)):=by
    intro out' o' h1 h2 h3
    exact .chk (inR64 (by omega) (by omega)) (.ret ⟨⟨by simp only;omega,by simp only;omega,h1,h2,h3⟩,by simp only;omega⟩)
   refine .cut (fun r=>∃ out' o',r = .go (out',o')∧lenL out'=lenL l∧lenL o'≤v+1∧MInv l (v+1) (getL 0 out') o') ?_ (fun r hr=>by
    obtain ⟨out',o',rfl,h1,h2,h3⟩:=hr
    exact .go (hfin out' o' h1 h2 h3))
   refine .chk ⟨v0,h⟩ ?_
   refine .chk ⟨v0,h⟩ ?_
   have hop:Op l v ↔ ((getL 0 l v == 20)=true∨(getL 0 l v == 21)=true∨(getL 0 l v == 22)=true):=by
    simp only [beq_iff_eq,Op];omega
   refine .cut (fun r=>∃ b:Bool,r = .go b∧(b=true ↔ Op l v)) ?_ ?_
   · refine .ite (fun h1=>.ret ⟨_,rfl,by rw [hop];simp [h1]⟩) (fun h1=>?_)
     refine .ite (fun h2=>.ret ⟨_,rfl,by rw [hop];simp [h2]⟩) (fun h2=>.ret ⟨_,rfl,by rw [hop];simp [h1,h2]⟩)
   · rintro r ⟨b,rfl,hb'⟩
     refine .go ?_
     refine .ite (fun hb1=>?_) (fun hb1=>?_)
     · have hO:=hb'.1 hb1
       refine .chk ⟨v0,h⟩ (.call (si_push_eq (by omega)) (.ret ⟨_,_,rfl,by simp [hl],by simp;omega,?_⟩))
       have e:setL (setL out v (-1)) v (lenL l)=setL out v (lenL l):=by
        refine extL 0 (by simp) fun i i0 i1=>?_
        simp only [lenL_set] at i1
        rw [getL_put v0 i0 (by simpa using i1),getL_put v0 i0 (by omega),getL_put v0 i0 (by omega)]
        split<;>rfl
       rw [e]
       exact (I.push v0 h hO).congr (by omega) (hgs _)
     · have hO : ¬ Op l v:=fun hh=>by rw [hb'.2 hh] at hb1;cases hb1
       refine .ite (fun hc=>?_) (fun hc=>?_)
       · have hc:getL 0 l v=23:=by simpa using hc
         refine .call (b:=lenL o) rfl ?_
         refine .ite (fun h1=>?_) (fun h1=>?_)
         · have h1:0 < lenL o:=by simpa using h1
           obtain ⟨p0,pv,_,_⟩:=I.st (lenL o-1) (by omega) (by omega)
           refine .call (si_last_eq h1 (by omega)) (.chk ⟨v0,h⟩ (.call (si_last_eq h1 (by omega)) (.chk ⟨p0,by omega⟩ (.call (si_pop_eq h1 (by omega)) (.ret ⟨_,_,rfl,by simp [hl],?_,?_⟩)))))
           · simp only;rw [lenL_sub (by omega) (by omega) (by omega)];omega
           · refine (I.pop v0 h hc h1 rfl (o':=subL o 0 (lenL o-1)) (by rw [lenL_sub (by omega) (by omega) (by omega)];omega) (fun j j0 j1=>by rw [getL_sub (by omega) j0 (by omega),Int.zero_add])).congr (by omega) (fun i i0 i1=>?_)
             rw [getL_put (by omega) i0 (by simp;omega),getL_put v0 i0 (by simp;omega),getL_put v0 i0 (by omega)]
             simp only [up]
             split
             · rfl
             · split<;>rfl
         · have h1:lenL o=0:=by have:=lenL_nn o;simp at h1;omega
           exact .ret ⟨_,_,rfl,by simp [hl],by omega,(I.plain v0 h hO (.inl rfl)).congr (by omega) (hgs _)⟩
       · refine .ite (fun h1=>?_) (fun h1=>?_)
         · exact .ret ⟨_,_,rfl,by simp [hl],by simp;omega,(I.plain v0 h hO (.inr rfl)).congr (by omega) (hgs _)⟩
         · exact .ret ⟨_,_,rfl,by simp [hl],by omega,(I.plain v0 h hO (.inl rfl)).congr (by omega) (hgs _)⟩
 · have h:lenL l≤v:=by simpa using h
   have e:v=lenL l:=by omega
   exact .ret ⟨out,rfl,hl,o,e ▸ I⟩
end Go.Vx
