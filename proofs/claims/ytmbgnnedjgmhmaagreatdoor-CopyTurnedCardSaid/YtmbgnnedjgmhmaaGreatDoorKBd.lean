/- KE1, KE2, KEF, KBd in one. No conditions. -/
import Derived.Test.YtmbgnnedjgmhmaaGreatDoorKLift
import Derived.Test.YtmbgnnedjgmhmaaGreatDoorVxHoare
set_option linter.all false
section
namespace Go.Vx
def Op (l:List Int) (i:Int):Prop:=20≤Z1 0 l i∧Z1 0 l i≤22
structure MInv (l:List Int) (v:Int) (g:Int→Int) (o:List Int):Prop where
 st : ∀ j,0≤j→j < Z0 o→0≤Z1 0 o j∧Z1 0 o j < v∧Op l (Z1 0 o j)∧g (Z1 0 o j)=Z0 l
 inc : ∀ j k,0≤j→j < k→k < Z0 o→Z1 0 o j < Z1 0 o k
 loc : ∀ i,0≤i→i < v→(Op l i→g i=Z0 l∨(i < g i∧g i < v∧Z1 0 l (g i)=23∧g (g i)=i))∧(Z1 0 l i=23→g i = -1∨(0≤g i∧g i < i))∧(¬ Op l i→Z1 0 l i≠23→g i = -1)
 nest : ∀ k,0≤k→k < v→Op l k→g k < Z0 l→∀ i,k < i→i < g k→g i = -1∨(k < g i∧g i < g k)
 under : ∀ j,0≤j→j < Z0 o→∀ i,Z1 0 o j < i→i < v→(∃ q,j < q∧q < Z0 o∧Z1 0 o q=i)∨g i = -1∨(Z1 0 o j < g i∧g i < v)
def up (g:Int→Int) (i x:Int):Int→Int:=fun k=>if k=i then x else g k
theorem MInv.zero (l:List Int) (g:Int→Int):MInv l 0 g [] :=
 ⟨fun j h0 h1=>by simp at h1;omega,fun j k h0 h1 h2=>by simp at h2;omega,fun i h0 h1=>by omega,fun k h0 h1=>by omega,fun j h0 h1=>by simp at h1;omega⟩
theorem MInv.plain {l:List Int} {v:Int} {g:Int→Int} {o o':List Int} (I:MInv l v g o) (v0:0≤v) (hn:v < Z0 l) (hc : ¬ Op l v) (ho:o'=o∨o'=[]):MInv l (v+1) (up g v (-1)) o':=by
 have hne : ∀ i,i < v→up g v (-1) i=g i:=fun i h=>if_neg (by omega)
 have hv:up g v (-1) v = -1:=if_pos rfl
 have hsub : ∀ j,0≤j→j < Z0 o'→o'=o:=fun j h0 h1=>by
  rcases ho with h | h
  · exact h
  · subst h;simp at h1;omega
 refine ⟨fun j h0 h1=>?_,fun j k h0 h1 h2=>?_,fun i h0 h1=>?_,fun k h0 h1 hk hlt i hi hig=>?_,fun j h0 h1 i hi hiv=>?_⟩
 · have e:=hsub j h0 h1;subst e
   obtain ⟨a,b,c,d⟩:=I.st j h0 h1
   exact ⟨a,by omega,c,by rw [hne _ b];exact d⟩
 · have e:=hsub k (by omega) h2;subst e
   exact I.inc j k h0 h1 h2
 · by_cases he:i=v
   · subst he
     rw [hv]
     exact ⟨fun h=>absurd h hc,fun _=>.inl rfl,fun _ _=>rfl⟩
   · have hiv:i < v:=by omega
     obtain ⟨a,b,c⟩:=I.loc i h0 hiv
     rw [hne i hiv]
     refine ⟨fun h=>?_,b,c⟩
     rcases a h with h | ⟨h2,h3,h4,h5⟩
     · exact .inl h
     · exact .inr ⟨h2,by omega,h4,by rw [hne _ h3];exact h5⟩
 · by_cases he:k=v
   · subst he;exact absurd hk hc
   · have hkv:k < v:=by omega
     rw [hne k hkv] at hlt hig ⊢
     obtain ⟨a,_,_⟩:=I.loc k h0 hkv
     rcases a hk with h | ⟨_,h3,_,_⟩
     · omega
     · rw [hne i (by omega)]
       exact I.nest k h0 hkv hk hlt i hi hig
 · have e:=hsub j h0 h1;subst e
   by_cases he:i=v
   · subst he;exact .inr (.inl hv)
   · rcases I.under j h0 h1 i hi (by omega) with h | h | ⟨h2,h3⟩
     · exact .inl h
     · exact .inr (.inl (by rw [hne i (by omega)];exact h))
     · exact .inr (.inr ⟨by rw [hne i (by omega)];exact h2,by rw [hne i (by omega)];omega⟩)
theorem MInv.push {l:List Int} {v:Int} {g:Int→Int} {o:List Int} (I:MInv l v g o) (v0:0≤v) (hn:v < Z0 l) (hc:Op l v):MInv l (v+1) (up g v (Z0 l)) (o++[v]):=by
 have hne : ∀ i,i < v→up g v (Z0 l) i=g i:=fun i h=>if_neg (by omega)
 have hv:up g v (Z0 l) v=Z0 l:=if_pos rfl
 have hlen:Z0 (o++[v])=Z0 o+1:=by simp
 have hget : ∀ j,0≤j→j < Z0 o→Z1 0 (o++[v]) j=Z1 0 o j:=fun j h0 h1=>by rw [Yi h0,if_pos h1]
 have hlast:Z1 0 (o++[v]) (Z0 o)=v:=by
  rw [Yi (Zc o),if_neg (by omega),Int.sub_self];rfl
 refine ⟨fun j h0 h1=>?_,fun j k h0 h1 h2=>?_,fun i h0 h1=>?_,fun k h0 h1 hk hlt i hi hig=>?_,fun j h0 h1 i hi hiv=>?_⟩
 · rw [hlen] at h1
   by_cases he:j=Z0 o
   · subst he;rw [hlast];exact ⟨v0,by omega,hc,hv⟩
   · rw [hget j h0 (by omega)]
     obtain ⟨a,b,c,d⟩:=I.st j h0 (by omega)
     exact ⟨a,by omega,c,by rw [hne _ b];exact d⟩
 · rw [hlen] at h2
   rw [hget j h0 (by omega)]
   by_cases he:k=Z0 o
   · subst he;rw [hlast];exact (I.st j h0 (by omega)).2.1
   · rw [hget k (by omega) (by omega)];exact I.inc j k h0 h1 (by omega)
 · by_cases he:i=v
   · subst he
     rw [hv]
     exact ⟨fun _=>.inl rfl,fun h=>by unfold Op at hc;omega,fun h _=>absurd hc h⟩
   · have hiv:i < v:=by omega
     obtain ⟨a,b,c⟩:=I.loc i h0 hiv
     rw [hne i hiv]
     refine ⟨fun h=>?_,b,c⟩
     rcases a h with h | ⟨h2,h3,h4,h5⟩
     · exact .inl h
     · exact .inr ⟨h2,by omega,h4,by rw [hne _ h3];exact h5⟩
 · by_cases he:k=v
   · subst he;rw [hv] at hlt;omega
   · have hkv:k < v:=by omega
     rw [hne k hkv] at hlt hig ⊢
     obtain ⟨a,_,_⟩:=I.loc k h0 hkv
     rcases a hk with h | ⟨_,h3,_,_⟩
     · omega
     · rw [hne i (by omega)]
       exact I.nest k h0 hkv hk hlt i hi hig
 · rw [hlen] at h1
   by_cases hj:j=Z0 o
   · subst hj;rw [hlast] at hi;omega
   · rw [hget j h0 (by omega)] at hi ⊢
     by_cases he:i=v
     · subst he;exact .inl ⟨Z0 o,by omega,by omega,hlast⟩
     · rcases I.under j h0 (by omega) i hi (by omega) with ⟨q,q1,q2,q3⟩ | h | ⟨h2,h3⟩
       · exact .inl ⟨q,q1,by omega,by rw [hget q (by omega) q2];exact q3⟩
       · exact .inr (.inl (by rw [hne i (by omega)];exact h))
       · exact .inr (.inr ⟨by rw [hne i (by omega)];exact h2,by rw [hne i (by omega)];omega⟩)
theorem MInv.pop {l:List Int} {v:Int} {g:Int→Int} {o:List Int} (I:MInv l v g o) (v0:0≤v) (hn:v < Z0 l) (hc:Z1 0 l v=23) (ho:0 < Z0 o) {p:Int} (hp:p=Z1 0 o (Z0 o-1)) {o':List Int} (hl:Z0 o'=Z0 o-1) (hg : ∀ j,0≤j→j < Z0 o-1→Z1 0 o' j=Z1 0 o j) :
  MInv l (v+1) (up (up g v p) p v) o':=by
 obtain ⟨p0,pv,pop,pg⟩:=I.st (Z0 o-1) (by omega) (by omega)
 rw [← hp] at p0 pv pop pg
 have hne : ∀ i,i < v→i≠p→up (up g v p) p v i=g i:=fun i h h'=>by simp only [up];rw [if_neg h',if_neg (by omega)]
 have hv:up (up g v p) p v v=p:=(if_neg (by omega)).trans (if_pos rfl)
 have hpp:up (up g v p) p v p=v:=if_pos rfl
 have hlow : ∀ j,0≤j→j < Z0 o-1→Z1 0 o j < p:=fun j h0 h1=>by rw [hp];exact I.inc j _ h0 h1 (by omega)
 have hin : ∀ i,p < i→i < v→g i = -1∨(p < g i∧g i < v):=fun i h1 h2=>by
  rcases I.under (Z0 o-1) (by omega) (by omega) i (by rw [← hp];exact h1) h2 with ⟨q,q1,q2,_⟩ | h | h
  · omega
  · exact .inl h
  · rw [← hp] at h;exact .inr h
 have hgp : ∀ i,0≤i→i < v→Op l i→g i≠p:=fun i h0 h1 hi he=>by
  rcases (I.loc i h0 h1).1 hi with h | ⟨_,_,h4,_⟩
  · omega
  · rw [he] at h4;unfold Op at pop;omega
 refine ⟨fun j h0 h1=>?_,fun j k h0 h1 h2=>?_,fun i h0 h1=>?_,fun k h0 h1 hk hlt i hi hig=>?_,fun j h0 h1 i hi hiv=>?_⟩
 · rw [hl] at h1
   rw [hg j h0 h1]
   obtain ⟨a,b,c,d⟩:=I.st j h0 (by omega)
   have:=hlow j h0 h1
   exact ⟨a,by omega,c,by rw [hne _ b (by omega)];exact d⟩
 · rw [hl] at h2
   rw [hg j h0 (by omega),hg k (by omega) h2]
   exact I.inc j k h0 h1 (by omega)
 · by_cases he:i=v
   · subst he
     rw [hv]
     exact ⟨fun h=>by unfold Op at h;omega,fun _=>.inr ⟨p0,pv⟩,fun _ h=>absurd hc h⟩
   · by_cases hip:i=p
     · subst hip
       rw [hpp]
       exact ⟨fun _=>.inr ⟨pv,by omega,hc,hv⟩,fun h=>by unfold Op at pop;omega,fun h _=>absurd pop h⟩
     · have hiv:i < v:=by omega
       obtain ⟨a,b,c⟩:=I.loc i h0 hiv
       rw [hne i hiv hip]
       refine ⟨fun h=>?_,b,c⟩
       rcases a h with h' | ⟨h2,h3,h4,h5⟩
       · exact .inl h'
       · exact .inr ⟨h2,by omega,h4,by rw [hne _ h3 (hgp i h0 hiv h)];exact h5⟩
 · by_cases he:k=v
   · subst he;unfold Op at hk;omega
   · by_cases hkp:k=p
     · subst hkp
       rw [hpp] at hig ⊢
       rw [hne i (by omega) (by omega)]
       exact hin i hi hig
     · have hkv:k < v:=by omega
       rw [hne k hkv hkp] at hlt hig ⊢
       obtain ⟨a,_,_⟩:=I.loc k h0 hkv
       rcases a hk with h | ⟨_,h3,_,_⟩
       · omega
       · have hold:=I.nest k h0 hkv hk hlt i hi hig
         by_cases hip:i=p
         · subst hip;rw [pg] at hold;omega
         · rw [hne i (by omega) hip];exact hold
 · rw [hl] at h1
   rw [hg j h0 h1] at hi ⊢
   have hj:=hlow j h0 h1
   by_cases he:i=v
   · subst he;rw [hv];exact .inr (.inr ⟨hj,by omega⟩)
   · by_cases hip:i=p
     · subst hip;rw [hpp];exact .inr (.inr ⟨by omega,by omega⟩)
     · rw [hne i (by omega) hip]
       rcases I.under j h0 (by omega) i hi (by omega) with ⟨q,q1,q2,q3⟩ | h | ⟨h2,h3⟩
       · by_cases hq:q=Z0 o-1
         · subst hq;rw [← hp] at q3;exact absurd q3.symm hip
         · exact .inl ⟨q,q1,by omega,by rw [hg q (by omega) (by omega)];exact q3⟩
       · exact .inr (.inl h)
       · exact .inr (.inr ⟨h2,by omega⟩)
theorem MInv.congr {l:List Int} {v:Int} {g g':Int→Int} {o:List Int} (I:MInv l v g o) (v0:v≤Z0 l) (h : ∀ i,0≤i→i < v→g' i=g i):MInv l v g' o:=by
 refine ⟨fun j h0 h1=>?_,I.inc,fun i h0 h1=>?_,fun k h0 h1 hk hlt i hi hig=>?_,fun j h0 h1 i hi hiv=>?_⟩
 · obtain ⟨a,b,c,d⟩:=I.st j h0 h1
   exact ⟨a,b,c,by rw [h _ a b];exact d⟩
 · obtain ⟨a,b,c⟩:=I.loc i h0 h1
   rw [h i h0 h1]
   refine ⟨fun hh=>?_,b,c⟩
   rcases a hh with h' | ⟨h2,h3,h4,h5⟩
   · exact .inl h'
   · exact .inr ⟨h2,h3,h4,by rw [h _ (by omega) h3];exact h5⟩
 · rw [h k h0 h1] at hlt hig ⊢
   obtain ⟨a,_,_⟩:=I.loc k h0 h1
   rcases a hk with h' | ⟨_,h3,_,_⟩
   · omega
   · rw [h i (by omega) (by omega)]
     exact I.nest k h0 h1 hk hlt i hi hig
 · obtain ⟨a,_⟩:=I.st j h0 h1
   rw [h i (by omega) hiv]
   exact I.under j h0 h1 i hi hiv
theorem si_push_eq {o:List Int} {v:Int} (h:Z0 o < 1000000):si_push ⟨o⟩ v=some ⟨o++[v]⟩:=by
 have:=Zc o
 unfold si_push
 rw [Yp (grOk (by simp only;omega) (by simp only;omega) (by omega))]
theorem Z5z {o:List Int} (h0:0 < Z0 o) (h:Z0 o < 1000000):si_last ⟨o⟩=some (Z1 0 o (Z0 o-1)):=by
 unfold si_last
 rw [Yp (Zm (by simp only;omega) (by simp only;omega)),Yp ⟨by simp only;omega,by simp only;omega⟩]
theorem si_pop_eq {o:List Int} (h0:0 < Z0 o) (h:Z0 o < 1000000):si_pop ⟨o⟩=some ⟨Xx o 0 (Z0 o-1)⟩:=by
 unfold si_pop
 rw [Yp (Zm (by simp only;omega) (by simp only;omega)),Yp ⟨by omega,by simp only;omega,by simp only;omega⟩]
 simp
theorem Z44 {l:List Int} (hb:Z0 l≤100000):Zd (Qk l) fun m=>Z0 m=Z0 l∧∃ o,MInv l (Z0 l) (Z1 0 m) o:=by
 have hn:=Zc l
 unfold Qk
 refine .chk (mkOk hn (by omega) (by omega)) ?_
 refine .cut (fun r=>∃ m,r = .go m∧Z0 m=Z0 l∧∃ o,MInv l (Z0 l) (Z1 0 m) o) ?_ (fun r hr=>by
  obtain ⟨m,rfl,h⟩:=hr
  exact .go (.ret h))
 refine .loop (fun x=>0≤x.1∧x.1≤Z0 l∧Z0 x.2.1=Z0 l∧Z0 x.2.2≤x.1∧MInv l x.1 (Z1 0 x.2.1) x.2.2) (fun x=>(Z0 l-x.1).toNat)
  ⟨by simp only;omega,by simp only;omega,Y3 _ hn,by simp,MInv.zero l _⟩ ?_
 rintro ⟨v,out,o⟩ ⟨v0,vn,hl,hlo,I⟩
 simp only at v0 vn hl hlo I ⊢
 refine .ite (fun h=>?_) (fun h=>?_)
 · have h:v < Z0 l:=by simpa using h
   have hgs : ∀ x,∀ i,0≤i→i < v+1→Z1 0 (Yc out v x) i=up (Z1 0 out) v x i:=fun x i i0 i1=>by
    rw [Zk v0 i0 (by omega)];rfl
   have hfin : ∀ (out' o':List Int),Z0 out'=Z0 l→Z0 o'≤v+1→MInv l (v+1) (Z1 0 out') o' →
     Zd (chk (inR .i64 (v+1)) <| some (Fl.go (γ:=Fl (List Int) (List Int)) ((v+1),out',o'))) (StepP (fun x=>0≤x.1∧x.1≤Z0 l∧Z0 x.2.1=Z0 l∧Z0 x.2.2≤x.1∧MInv l x.1 (Z1 0 x.2.1) x.2.2) (fun x=>(Z0 l-x.1).toNat) (fun r=>∃ m,r = .go m∧Z0 m=Z0 l∧∃ o,MInv l (Z0 l) (Z1 0 m) o) (v,out,o)):=by
    intro out' o' h1 h2 h3
    exact .chk (Zm (by omega) (by omega)) (.ret ⟨⟨by simp only;omega,by simp only;omega,h1,h2,h3⟩,by simp only;omega⟩)
   refine .cut (fun r=>∃ out' o',r = .go (out',o')∧Z0 out'=Z0 l∧Z0 o'≤v+1∧MInv l (v+1) (Z1 0 out') o') ?_ (fun r hr=>by
    obtain ⟨out',o',rfl,h1,h2,h3⟩:=hr
    exact .go (hfin out' o' h1 h2 h3))
   refine .chk ⟨v0,h⟩ ?_
   refine .chk ⟨v0,h⟩ ?_
   have hop:Op l v ↔ ((Z1 0 l v == 20)=true∨(Z1 0 l v == 21)=true∨(Z1 0 l v == 22)=true):=by
    simp only [beq_iff_eq,Op];omega
   refine .cut (fun r=>∃ b:Bool,r = .go b∧(b=true ↔ Op l v)) ?_ ?_
   · refine .ite (fun h1=>.ret ⟨_,rfl,by rw [hop];simp [h1]⟩) (fun h1=>?_)
     refine .ite (fun h2=>.ret ⟨_,rfl,by rw [hop];simp [h2]⟩) (fun h2=>.ret ⟨_,rfl,by rw [hop];simp [h1,h2]⟩)
   · rintro r ⟨b,rfl,hb'⟩
     refine .go ?_
     refine .ite (fun hb1=>?_) (fun hb1=>?_)
     · have hO:=hb'.1 hb1
       refine .chk ⟨v0,h⟩ (.call (si_push_eq (by omega)) (.ret ⟨_,_,rfl,by simp [hl],by simp;omega,?_⟩))
       have e:Yc (Yc out v (-1)) v (Z0 l)=Yc out v (Z0 l):=by
        refine extL 0 (by simp) fun i i0 i1=>?_
        simp only [Zq] at i1
        rw [Zk v0 i0 (by simpa using i1),Zk v0 i0 (by omega),Zk v0 i0 (by omega)]
        split<;>rfl
       rw [e]
       exact (I.push v0 h hO).congr (by omega) (hgs _)
     · have hO : ¬ Op l v:=fun hh=>by rw [hb'.2 hh] at hb1;cases hb1
       refine .ite (fun hc=>?_) (fun hc=>?_)
       · have hc:Z1 0 l v=23:=by simpa using hc
         refine .call (b:=Z0 o) rfl ?_
         refine .ite (fun h1=>?_) (fun h1=>?_)
         · have h1:0 < Z0 o:=by simpa using h1
           obtain ⟨p0,pv,_,_⟩:=I.st (Z0 o-1) (by omega) (by omega)
           refine .call (Z5z h1 (by omega)) (.chk ⟨v0,h⟩ (.call (Z5z h1 (by omega)) (.chk ⟨p0,by omega⟩ (.call (si_pop_eq h1 (by omega)) (.ret ⟨_,_,rfl,by simp [hl],?_,?_⟩)))))
           · simp only;rw [Ye (by omega) (by omega) (by omega)];omega
           · refine (I.pop v0 h hc h1 rfl (o':=Xx o 0 (Z0 o-1)) (by rw [Ye (by omega) (by omega) (by omega)];omega) (fun j j0 j1=>by rw [Z0r (by omega) j0 (by omega),Int.zero_add])).congr (by omega) (fun i i0 i1=>?_)
             rw [Zk (by omega) i0 (by simp;omega),Zk v0 i0 (by simp;omega),Zk v0 i0 (by omega)]
             simp only [up]
             split
             · rfl
             · split<;>rfl
         · have h1:Z0 o=0:=by have:=Zc o;simp at h1;omega
           exact .ret ⟨_,_,rfl,by simp [hl],by omega,(I.plain v0 h hO (.inl rfl)).congr (by omega) (hgs _)⟩
       · refine .ite (fun h1=>?_) (fun h1=>?_)
         · exact .ret ⟨_,_,rfl,by simp [hl],by simp;omega,(I.plain v0 h hO (.inr rfl)).congr (by omega) (hgs _)⟩
         · exact .ret ⟨_,_,rfl,by simp [hl],by omega,(I.plain v0 h hO (.inl rfl)).congr (by omega) (hgs _)⟩
 · have h:Z0 l≤v:=by simpa using h
   have e:v=Z0 l:=by omega
   exact .ret ⟨out,rfl,hl,o,e ▸ I⟩
end Go.Vx
end
section
namespace Go.Vx
set_option maxRecDepth 100000
section
abbrev Mch:=Z6
abbrev Sts:=Y8
def Yv (o:List Sts):Sts:=Z1 Zr o (Z0 o-1)
def Qp (o:List Sts):List Sts:=Xx o 0 (Z0 o-1)
def Z13 (m:Mch) (i:Int):Mch :=
 let s:=Yv m.fopen.fl
 { m with frun:={ m.frun with fLevels:=Yc m.frun.fLevels i s.flevel,fClasses:=if s.foverride=14 then m.frun.fClasses else Yc m.frun.fClasses i s.foverride } }
def Xo (m:Mch) (i:Int):Mch :=
 { m with frun:={ m.frun with fLevels:=Yc m.frun.fLevels i (Yv m.fopen.fl).flevel,fRemoved:=Yc m.frun.fRemoved i true } }
def upL (x:Int) (odd:Bool):Int:=if ((Int.tmod (x+1) 2 == 1) == odd)=true then x+1 else x+2
def mayM (m:Mch) (odd:Bool):Bool:=decide (upL (Yv m.fopen.fl).flevel odd≤125) && m.fisolates == 0 && m.fembeddings == 0
def pushM (m:Mch) (s:Sts):Mch:={ m with fopen:=⟨m.fopen.fl++[s]⟩ }
def embedC (m:Mch) (odd:Bool) (ov:Int):Mch :=
 if mayM m odd=true then pushM m ⟨upL (Yv m.fopen.fl).flevel odd,ov,false⟩
 else if m.fisolates=0 then { m with fembeddings:=m.fembeddings+1 } else m
def embedM (m:Mch) (i c:Int):Mch:=embedC (Xo m i) (c == 17 || c == 18) (if c=18 then 2 else if c=16 then 1 else 14)
def isolateC (m:Mch) (odd:Bool):Mch :=
 if mayM m odd=true then pushM { m with fvalid:=m.fvalid+1 } ⟨upL (Yv m.fopen.fl).flevel odd,14,true⟩
 else { m with fisolates:=m.fisolates+1 }
def Z27 (m:Mch) (i:Int) (odd:Bool):Mch:=isolateC (Z13 m i) odd
def popI:Nat→List Sts→List Sts
 | 0,o=>o
 | n+1,o=>if (Yv o).fisolate=true then o else popI n (Qp o)
def Qi (m:Mch):Mch :=
 if 0 < m.fisolates then { m with fisolates:=m.fisolates-1 }
 else if m.fvalid=0 then m
 else { m with fopen:=⟨Qp (popI m.fopen.fl.length m.fopen.fl)⟩,fembeddings:=0,fvalid:=m.fvalid-1 }
def Z0k (m:Mch):Mch :=
 if 0 < m.fisolates then m
 else if 0 < m.fembeddings then { m with fembeddings:=m.fembeddings-1 }
 else if (Yv m.fopen.fl).fisolate=false∧2≤Z0 m.fopen.fl then { m with fopen:=⟨Qp m.fopen.fl⟩ } else m
def Z14:List Sts→Nat
 | []=>0
 | s :: r=>(if s.fisolate=true then 1 else 0)+Z14 r
theorem cntI_app (a b:List Sts):Z14 (a++b)=Z14 a+Z14 b:=by
 induction a with
 | nil=>simp [Z14]
 | cons s r ih=>simp only [List.cons_append,Z14,ih];omega
theorem split_last {o:List Sts} (h:0 < Z0 o):o=Qp o++[Yv o]:=by
 refine extL Zr ?_ fun i i0 i1=>?_
 · rw [Zf,show Z0 (Qp o)=Z0 o-1 by unfold Qp;rw [Ye (by omega) (by omega) (by omega)];omega];simp
 · have hl:Z0 (Qp o)=Z0 o-1:=by unfold Qp;rw [Ye (by omega) (by omega) (by omega)];omega
   rw [Yi i0]
   by_cases hi:i < Z0 (Qp o)
   · rw [if_pos hi];unfold Qp;rw [Z0r (by omega) i0 (by omega),Int.zero_add]
   · rw [if_neg hi]
     have e:i=Z0 o-1:=by omega
     subst e
     rw [hl,Int.sub_self];rfl
theorem Z7p {o:List Sts} (h:0 < Z0 o):Z0 (Qp o)=Z0 o-1:=by
 unfold Qp;rw [Ye (by omega) (by omega) (by omega)];omega
structure Xq (l mt:List Int) (b v:Int) (m:Mch):Prop where
 hl:m.fl=l
 hm:m.fmatch=mt
 hb:m.fbase=b
 n1:Z0 m.frun.fLevels=Z0 l
 n2:Z0 m.frun.fClasses=Z0 l
 n3:Z0 m.frun.fRemoved=Z0 l
 o0:0 < Z0 m.fopen.fl
 o1:Z0 m.fopen.fl≤v+1
 is:0≤m.fisolates∧m.fisolates≤v
 em:0≤m.fembeddings∧m.fembeddings≤v
 va:m.fvalid=(Z14 m.fopen.fl:Nat)
 b0:(Z1 Zr m.fopen.fl 0).fisolate=false
 lv : ∀ j,0≤j→j < Z0 m.fopen.fl→0≤(Z1 Zr m.fopen.fl j).flevel∧(Z1 Zr m.fopen.fl j).flevel≤125
theorem Z4i {o:List Sts} (h0:0 < Z0 o) (h:Z0 o < 1000000):Z1q ⟨o⟩=some (Yv o):=by
 unfold Z1q
 rw [Yp (Zm (by simp only;omega) (by simp only;omega)),Yp ⟨by simp only;omega,by simp only;omega⟩];rfl
theorem ss_pop_eq {o:List Sts} (h0:0 < Z0 o) (h:Z0 o < 1000000):ss_pop ⟨o⟩=some ⟨Qp o⟩:=by
 unfold ss_pop
 rw [Yp (Zm (by simp only;omega) (by simp only;omega)),Yp ⟨by omega,by simp only;omega,by simp only;omega⟩]
 simp [Qp]
theorem ss_push_eq {o:List Sts} {s:Sts} (h:Z0 o < 1000000):Z4b ⟨o⟩ s=some ⟨o++[s]⟩:=by
 have:=Zc o
 unfold Z4b
 rw [Yp (grOk (by simp only;omega) (by simp only;omega) (by omega))]
variable {l mt:List Int} {b v:Int} {m:Mch}
theorem take_eq (hb:Z0 l≤100000) (G:Xq l mt b v m) {i:Int} (i0:0≤i) (i1:i < Z0 l) (hv:v≤Z0 l):Z69 m i=some (Z13 m i):=by
 obtain ⟨ml,mm,mb,⟨a1,a2,a3⟩,⟨o⟩,is,em,va⟩:=m
 have n1:Z0 a1=Z0 l:=G.n1
 have n2:Z0 a2=Z0 l:=G.n2
 have o0:0 < Z0 o:=G.o0
 have o1:Z0 o≤v+1:=G.o1
 unfold Z69
 simp only [Z4i o0 (show Z0 o < 1000000 by omega)]
 show (chk _ _)=_
 rw [Yp ⟨i0,by omega⟩]
 by_cases h:(Yv o).foverride=14
 · have e:(!((Yv o).foverride == 14))=false:=by simp [h]
   rw [e]
   simp [Z13,h,Z7]
 · have e:(!((Yv o).foverride == 14))=true:=by simp [h]
   rw [e]
   show chk _ _=_
   rw [Yp ⟨i0,by omega⟩]
   simp [Z13,h]
theorem remove_eq (hb:Z0 l≤100000) (G:Xq l mt b v m) {i:Int} (i0:0≤i) (i1:i < Z0 l) (hv:v≤Z0 l):Z2g m i=some (Xo m i):=by
 obtain ⟨ml,mm,mb,⟨a1,a2,a3⟩,⟨o⟩,is,em,va⟩:=m
 have n1:Z0 a1=Z0 l:=G.n1
 have n3:Z0 a3=Z0 l:=G.n3
 have o0:0 < Z0 o:=G.o0
 have o1:Z0 o≤v+1:=G.o1
 unfold Z2g
 simp only [Z4i o0 (show Z0 o < 1000000 by omega)]
 show (chk _ _)=_
 rw [Yp ⟨i0,by omega⟩,Yp ⟨i0,by omega⟩]
 rfl
theorem next_eq (hb:Z0 l≤100000) (G:Xq l mt b v m) (hv:v≤Z0 l) (odd:Bool):m_next m odd=some (upL (Yv m.fopen.fl).flevel odd,mayM m odd):=by
 obtain ⟨ml,mm,mb,⟨a1,a2,a3⟩,⟨o⟩,is,em,va⟩:=m
 have o0:0 < Z0 o:=G.o0
 have o1:Z0 o≤v+1:=G.o1
 have lv:0≤(Yv o).flevel∧(Yv o).flevel≤125:=G.lv (Z0 o-1) (by omega) (show Z0 o-1 < Z0 o by omega)
 unfold m_next
 simp only [Z4i o0 (show Z0 o < 1000000 by omega)]
 show (chk _ _)=_
 rw [Yp (Zm (by omega) (by omega))]
 show (chk _ _)=_
 rw [Yp (by decide)]
 by_cases h:((Int.tmod ((Yv o).flevel+1) 2 == 1) == odd)=true
 · have e:(!((Int.tmod ((Yv o).flevel+1) 2 == 1) == odd))=false:=by rw [h];rfl
   simp only [e]
   show some _=_
   simp only [upL,mayM,h,if_true]
   congr 2
   cases decide ((Yv o).flevel+1≤125)<;>cases (is == 0)<;>cases (em == 0)<;>rfl
 · have h:((Int.tmod ((Yv o).flevel+1) 2 == 1) == odd)=false:=by simpa using h
   have e:(!((Int.tmod ((Yv o).flevel+1) 2 == 1) == odd))=true:=by rw [h];rfl
   simp only [e]
   show (chk _ _)=_
   rw [Yp (Zm (by omega) (by omega))]
   have e2:(Yv o).flevel+1+1=(Yv o).flevel+2:=by omega
   simp only [upL,mayM,h,e2,Bool.false_eq_true,if_false]
   congr 2
   cases decide ((Yv o).flevel+2≤125)<;>cases (is == 0)<;>cases (em == 0)<;>rfl
theorem upL_le {x:Int} {odd:Bool} : x+1≤upL x odd∧upL x odd≤x+2:=by unfold upL;split<;>omega
theorem embed_eq (hb:Z0 l≤100000) (G:Xq l mt b v m) (v0:0≤v) (v1:v < Z0 l) {c:Int} : m_embed m v c=some (embedM m v c):=by
 have G2:Xq l mt b v (Xo m v):=⟨G.hl,G.hm,G.hb,by simpa [Xo] using G.n1,G.n2,by simpa [Xo] using G.n3,G.o0,G.o1,G.is,G.em,G.va,G.b0,G.lv⟩
 unfold m_embed
 rw [remove_eq hb G v0 v1 (by omega)]
 show Z8 (m_next (Xo m v) _) _=_
 rw [next_eq hb G2 (by omega)]
 have eo:(if (c == 17)=true then true else (c == 18))=(c == 17 || c == 18):=by cases (c == 17)<;>rfl
 rw [eo]
 show Z7 (!(mayM (Xo m v) (c == 17 || c == 18))) _ _=_
 have em:=G.em
 have o1:=G.o1
 have o0:=G.o0
 by_cases h:mayM (Xo m v) (c == 17 || c == 18)=true
 · rw [h]
   refine Zd.eq ?_
   refine .ite (fun hh=>by cases hh) (fun _=>?_)
   refine .cut (fun r=>r = .go (if c=18 then 2 else if c=16 then 1 else 14)) ?_ ?_
   · refine .ite (fun h1=>.ret ?_) (fun h1=>.ite (fun h2=>.ret ?_) (fun h2=>.ret ?_))
     · rw [if_pos (by simpa using h1)]
     · rw [if_neg (by simpa using h1),if_pos (by simpa using h2)]
     · rw [if_neg (by simpa using h1),if_neg (by simpa using h2)]
   · rintro r rfl
     refine .go (.call (ss_push_eq (o:=m.fopen.fl) (by omega)) (.ret ?_))
     simp only [embedM,embedC,h,if_true]
     rfl
 · have h:mayM (Xo m v) (c == 17 || c == 18)=false:=by simpa using h
   rw [h]
   show Z7 ((Xo m v).fisolates == 0) _ _=_
   simp only [embedM,embedC,h,Bool.false_eq_true,if_false]
   by_cases h2:(Xo m v).fisolates=0
   · have e:((Xo m v).fisolates == 0)=true:=by simpa using h2
     rw [e,if_pos h2]
     show chk (inR .i64 (m.fembeddings+1)) _=_
     rw [Yp (Zm (show _≤m.fembeddings+1 by omega) (show m.fembeddings+1≤_ by omega))]
   · have e:((Xo m v).fisolates == 0)=false:=by simpa using h2
     rw [e,if_neg h2];rfl
theorem base_yields {l mt:List Int} {s e:Int} (hb:Z0 l≤100000) (s0:0≤s) (e1:e≤Z0 l) (hm:Z0 mt=Z0 l) (hg : ∀ i,0≤i→i < Z0 l→Op l i→i < Z1 0 mt i∧Z1 0 mt i≤Z0 l) :
  Zd (Z1z l mt s e) (fun r=>r=0∨r=1):=by
 unfold Z1z
 refine .cut (fun r=>r = .go ()∨r = .out 0∨r = .out 1) ?_ (fun r hr=>?_)
 · refine .loop (fun i=>0≤i) (fun i=>(e-i).toNat) s0 ?_
   intro i i0
   refine .ite (fun h=>?_) (fun _=>.ret (.inl rfl))
   have h:i < e:=by simpa using h
   have hl:i < Z0 l:=by omega
   refine .cut (fun r=>(∃ k,r = .go k∧i≤k∧k≤Z0 l)∨r = .out (.out (.out 0))∨r = .out (.out (.out 1))) ?_ (fun r hr=>?_)
   · refine .chk ⟨i0,hl⟩ ?_
     refine .cut (fun r=>∃ q:Bool,r = .go q) (.ite (fun _=>.ret ⟨_,rfl⟩) (fun _=>.ret ⟨_,rfl⟩)) ?_
     rintro r ⟨q,rfl⟩
     refine .go (.ite (fun _=>.ret (.inr (.inl rfl))) (fun _=>?_))
     refine .cut (fun r=>∃ q:Bool,r = .go q) (.ite (fun _=>.ret ⟨_,rfl⟩) (fun _=>.ret ⟨_,rfl⟩)) ?_
     rintro r ⟨q,rfl⟩
     refine .go (.ite (fun _=>.ret (.inr (.inr rfl))) (fun _=>?_))
     have hop : ∀ k:Int,(Z1 0 l i == k)=true→20≤k→k≤22→Op l i:=fun k hk h1 h2=>by
      have:Z1 0 l i=k:=by simpa using hk
      unfold Op;omega
     refine .ite (fun h1=>?_) (fun _=>?_)
     · refine .ite (fun _=>.chk ⟨i0,by omega⟩ (.ret (.inl ?_))) (fun _=>.ret (.inl ⟨i,rfl,by omega,by omega⟩))
       obtain ⟨a,b⟩:=hg i i0 hl (hop _ h1 (by omega) (by omega))
       exact ⟨_,rfl,by omega,b⟩
     · refine .ite (fun h1=>?_) (fun _=>?_)
       · refine .ite (fun _=>.chk ⟨i0,by omega⟩ (.ret (.inl ?_))) (fun _=>.ret (.inl ⟨i,rfl,by omega,by omega⟩))
         obtain ⟨a,b⟩:=hg i i0 hl (hop _ h1 (by omega) (by omega))
         exact ⟨_,rfl,by omega,b⟩
       · refine .ite (fun h1=>.chk ⟨i0,by omega⟩ (.ret (.inl ?_))) (fun _=>.ret (.inl ⟨i,rfl,by omega,by omega⟩))
         obtain ⟨a,b⟩:=hg i i0 hl (hop _ h1 (by omega) (by omega))
         exact ⟨_,rfl,by omega,b⟩
   · rcases hr with ⟨k,rfl,k0,k1⟩ | rfl | rfl
     · exact .go (.chk (Zm (by omega) (by omega)) (.ret ⟨by omega,by simp only;omega⟩))
     · exact .out (.inr (.inl rfl))
     · exact .out (.inr (.inr rfl))
 · rcases hr with rfl | rfl | rfl
   · exact .go (.ret (.inl rfl))
   · exact .out (.inl rfl)
   · exact .out (.inr rfl)
theorem isolate_eq (hb:Z0 l≤100000) (G:Xq l mt b v m) (v0:0≤v) (v1:v < Z0 l) (hm:Z0 mt=Z0 l) (hg : ∀ i,0≤i→i < Z0 l→Op l i→i < Z1 0 mt i∧Z1 0 mt i≤Z0 l) (hO:Op l v) {c:Int} : ∃ odd,Z4f m v c=some (Z27 m v odd):=by
 have G2:Xq l mt b v (Z13 m v):=⟨G.hl,G.hm,G.hb,by simpa [Z13] using G.n1,by have:=G.n2;simp only [Z13];split<;>simpa using this,G.n3,G.o0,G.o1,G.is,G.em,G.va,G.b0,G.lv⟩
 have em:=G.em
 have is:=G.is
 have o1:=G.o1
 have o0:=G.o0
 have h:Zd (Z4f m v c) (fun r=>∃ odd,r=Z27 m v odd):=by
  unfold Z4f
  refine .cut (fun r=>∃ odd,r = .go odd) ?_ ?_
  · refine .ite (fun _=>?_) (fun _=>.ret ⟨_,rfl⟩)
    rw [G.hm,G.hl]
    refine .chk (Zm (by omega) (by omega)) (.chk ⟨v0,by omega⟩ (.bind _ (base_yields hb (by omega) ?_ hm hg) fun x _=>.ret ⟨_,rfl⟩))
    exact (hg v v0 v1 hO).2
  · rintro r ⟨odd,rfl⟩
    refine .go (.call (take_eq hb G v0 v1 (by omega)) (.call (next_eq hb G2 (by omega) odd) ?_))
    refine .ite (fun hh=>?_) (fun hh=>?_)
    · have hh:mayM (Z13 m v) odd=false:=by simpa using hh
      refine .chk (Zm (show _≤m.fisolates+1 by omega) (show m.fisolates+1≤_ by omega)) (.ret ⟨odd,?_⟩)
      simp only [Z27,isolateC,hh,Bool.false_eq_true,if_false]
    · have hh:mayM (Z13 m v) odd=true:=by simpa using hh
      have hva:=G.va
      have hcn:(Z14 m.fopen.fl:Int)≤Z0 m.fopen.fl:=by
       have : ∀ o:List Sts,Z14 o≤o.length:=fun o=>by
        induction o with
        | nil=>simp [Z14]
        | cons s r ih=>simp only [Z14,List.length_cons];split<;>omega
       have:=this m.fopen.fl
       unfold Z0;omega
      refine .chk (Zm (show _≤m.fvalid+1 by omega) (show m.fvalid+1≤_ by omega)) (.call (ss_push_eq (o:=m.fopen.fl) (by omega)) (.ret ⟨odd,?_⟩))
      simp only [Z27,isolateC,hh,if_true]
      rfl
 obtain ⟨r,h1,odd,rfl⟩:=h
 exact ⟨odd,h1⟩
theorem Z60 {o:List Sts} (h:0 < Z0 o):Z14 o=Z14 (Qp o)+(if (Yv o).fisolate=true then 1 else 0):=by
 have e:=split_last h
 have:=cntI_app (Qp o) [Yv o]
 rw [← e] at this
 simpa [Z14] using this
end
section
variable {l mt:List Int} {b v:Int} {m:Mch}
def dS:Sts:=Zr
def levsR:List Sts→List Int
 | []=>[]
 | s :: t=>if s.fisolate=true then (t.headD dS).flevel :: levsR t else levsR t
def levs (o:List Sts):List Int:=levsR o.reverse
theorem lastS_rev (o:List Sts):Yv o=o.reverse.headD dS:=by
 by_cases h:0 < Z0 o
 · have e:=split_last h
   generalize Qp o=p at e
   generalize hs:Yv o=s at e
   subst e
   simp
 · have:o=[]:=by
    cases o with
    | nil=>rfl
    | cons a t=>have:=Zc t;simp at h;omega
   subst this
   rfl
theorem levs_push (o:List Sts) (s:Sts):levs (o++[s])=if s.fisolate=true then (Yv o).flevel :: levs o else levs o:=by
 unfold levs
 rw [List.reverse_append,lastS_rev]
 rfl
theorem levs_split {o:List Sts} (h:0 < Z0 o):levs o=if (Yv o).fisolate=true then (Yv (Qp o)).flevel :: levs (Qp o) else levs (Qp o):=by
 have e:=levs_push (Qp o) (Yv o)
 rw [← split_last h] at e
 exact e
theorem get_init {o:List Sts} {j:Int} (j0:0≤j) (j1:j < Z0 o-1):Z1 dS (Qp o) j=Z1 dS o j:=by
 unfold Qp
 rw [Z0r (by omega) j0 (by omega),Int.zero_add]
theorem popI_spec : ∀ (n:Nat) (o:List Sts),Z0 o≤n→0 < Z14 o →
  (Yv (popI n o)).fisolate=true∧0 < Z0 (popI n o)∧Z0 (popI n o)≤Z0 o∧levs (popI n o)=levs o∧Z14 (popI n o)=Z14 o∧∀ j,0≤j→j < Z0 (popI n o)→Z1 dS (popI n o) j=Z1 dS o j:=by
 intro n
 induction n with
 | zero =>
  intro o h1 h2
  have:o=[]:=by
   cases o with
   | nil=>rfl
   | cons a t=>have:=Zc t;simp at h1;omega
  subst this
  simp [Z14] at h2
 | succ n ih =>
  intro o h1 h2
  have ho:0 < Z0 o:=by
   cases o with
   | nil=>simp [Z14] at h2
   | cons a t=>have:=Zc t;simp;omega
  unfold popI
  split
  · rename_i h
    exact ⟨h,ho,by omega,rfl,rfl,fun j _ _=>rfl⟩
  · rename_i h
    have hl:=Z7p ho
    have hc:=Z60 ho
    rw [if_neg h] at hc
    have hv:=levs_split ho
    rw [if_neg h] at hv
    obtain ⟨a,b,c,d,e,f⟩:=ih (Qp o) (by omega) (by omega)
    exact ⟨a,b,by omega,by rw [d,hv],by omega,fun j j0 j1=>by rw [f j j0 j1,get_init j0 (by omega)]⟩
theorem popI_loop {o:List Sts} (hn:Z0 o < 1000000) (hc:0 < Z14 o):Zd (loopO (fun (o1:List Y8) =>
  Z8 (Z1q (Z9.mk o1)) fun v1 =>
  Z7 (!v1.fisolate)
   (Z8 (ss_pop (Z9.mk o1)) fun v2 =>
    some (.go v2.fl))
   (some (.out (Fl.go (γ:=Z6) o1)))) o) (fun r=>r = .go (popI o.length o)):=by
 refine .loop (fun p=>Z0 p≤Z0 o∧0 < Z14 p∧popI o.length o=popI p.length p) (fun p=>(Z0 p).toNat) ⟨by omega,hc,rfl⟩ ?_
 intro p ⟨h1,h2,h3⟩
 have hp:0 < Z0 p:=by
  cases p with
  | nil=>simp [Z14] at h2
  | cons a t=>have:=Zc t;simp;omega
 have hl:=Z7p hp
 refine .call (Z4i hp (by omega)) (.ite (fun h=>?_) (fun h=>?_))
 · have h:(Yv p).fisolate=false:=by simpa using h
   have hs:=Z60 hp
   rw [h,if_neg (by simp)] at hs
   refine .call (ss_pop_eq hp (by omega)) (.ret ⟨⟨by simp only;omega,by simp only;omega,?_⟩,by simp only;omega⟩)
   rw [h3]
   have e:p.length=(Qp p).length+1:=by unfold Z0 at hl hp;omega
   rw [e]
   show popI ((Qp p).length+1) p=_
   unfold popI
   rw [h,if_neg (by simp)]
   cases (Qp p).length<;>rfl
 · have h:(Yv p).fisolate=true:=by simpa using h
   refine .ret ?_
   show _=_
   rw [h3]
   have e:p.length=(Qp p).length+1:=by unfold Z0 at hl hp;omega
   rw [e]
   unfold popI
   rw [if_pos h]
theorem Xq.cnt (G:Xq l mt b v m):0≤m.fvalid∧m.fvalid≤v+1:=by
 have hva:=G.va
 have o1:=G.o1
 have : ∀ o:List Sts,Z14 o≤o.length:=fun o=>by
  induction o with
  | nil=>simp [Z14]
  | cons s r ih=>simp only [Z14,List.length_cons];split<;>omega
 have:=this m.fopen.fl
 unfold Z0 at o1;omega
theorem endIso_eq (hb:Z0 l≤100000) (G:Xq l mt b v m) (v1:v < Z0 l):Z2h m=some (Qi m):=by
 refine Zd.eq ?_
 have em:=G.em
 have is:=G.is
 have o1:=G.o1
 have o0:=G.o0
 have hv:=G.cnt
 have hva:=G.va
 unfold Z2h
 refine .ite (fun h=>?_) (fun h=>.ite (fun h2=>?_) (fun h2=>?_))
 · have h:0 < m.fisolates:=by simpa using h
   refine .chk (Zm (show _≤m.fisolates-1 by omega) (show m.fisolates-1≤_ by omega)) (.ret ?_)
   simp only [Qi,h,if_true]
 · have h : ¬ 0 < m.fisolates:=by simpa using h
   have h2:m.fvalid=0:=by simpa using h2
   refine .ret ?_
   simp only [Qi,h,h2,if_true,if_false]
 · have h : ¬ 0 < m.fisolates:=by simpa using h
   have h2 : ¬ m.fvalid=0:=by simpa using h2
   obtain ⟨a1,a2,a3,a4,a5,a6⟩:=popI_spec m.fopen.fl.length m.fopen.fl (by unfold Z0;omega) (by omega)
   refine .cut _ (popI_loop (by omega) (by omega)) ?_
   rintro r rfl
   refine .go (.call (ss_pop_eq a2 (by omega)) (.chk (Zm (show _≤m.fvalid-1 by omega) (show m.fvalid-1≤_ by omega)) (.ret ?_)))
   simp only [Qi,h,h2,if_false]
theorem endEmb_eq (hb:Z0 l≤100000) (G:Xq l mt b v m) (v1:v < Z0 l):Z18 m=some (Z0k m):=by
 refine Zd.eq ?_
 have em:=G.em
 have is:=G.is
 have o1:=G.o1
 have o0:=G.o0
 unfold Z18
 refine .ite (fun h=>?_) (fun h=>.ite (fun h2=>?_) (fun h2=>?_))
 · have h:0 < m.fisolates:=by simpa using h
   refine .ret ?_
   simp only [Z0k,h,if_true]
 · have h : ¬ 0 < m.fisolates:=by simpa using h
   have h2:0 < m.fembeddings:=by simpa using h2
   refine .chk (Zm (show _≤m.fembeddings-1 by omega) (show m.fembeddings-1≤_ by omega)) (.ret ?_)
   simp only [Z0k,h,h2,if_true,if_false]
 · have h : ¬ 0 < m.fisolates:=by simpa using h
   have h2 : ¬ 0 < m.fembeddings:=by simpa using h2
   refine .call (Z4i (o:=m.fopen.fl) o0 (by omega)) ?_
   by_cases hi:(Yv m.fopen.fl).fisolate=true
   · rw [hi]
     refine .call (b:=0) rfl (.ite (fun hh=>by cases hh) (fun _=>.ret ?_))
     simp [Z0k,h,h2,hi]
   · have hi:(Yv m.fopen.fl).fisolate=false:=by simpa using hi
     rw [hi]
     refine .call (b:=Z0 m.fopen.fl) rfl (.ite (fun hh=>?_) (fun hh=>?_))
     · have hh:2≤Z0 m.fopen.fl:=by simpa using hh
       refine .call (ss_pop_eq (o:=m.fopen.fl) o0 (by omega)) (.ret ?_)
       simp [Z0k,h,h2,hi,hh]
     · have hh : ¬ 2≤Z0 m.fopen.fl:=by simpa using hh
       refine .ret ?_
       simp only [Z0k,h,h2,hi,hh,and_false,if_false]
theorem Xq.up (G:Xq l mt b v m):Xq l mt b (v+1) m :=
 ⟨G.hl,G.hm,G.hb,G.n1,G.n2,G.n3,G.o0,by have:=G.o1;omega,by have:=G.is;omega,by have:=G.em;omega,G.va,G.b0,G.lv⟩
theorem Xq.take (G:Xq l mt b v m) {i:Int} : Xq l mt b v (Z13 m i):=⟨G.hl,G.hm,G.hb,by simpa [Z13] using G.n1,by have:=G.n2;simp only [Z13];split<;>simpa using this,G.n3,G.o0,G.o1,G.is,G.em,G.va,G.b0,G.lv⟩
theorem Xq.remove (G:Xq l mt b v m) {i:Int} : Xq l mt b v (Xo m i):=⟨G.hl,G.hm,G.hb,by simpa [Xo] using G.n1,G.n2,by simpa [Xo] using G.n3,G.o0,G.o1,G.is,G.em,G.va,G.b0,G.lv⟩
theorem Xq.last (G:Xq l mt b v m):0≤(Yv m.fopen.fl).flevel∧(Yv m.fopen.fl).flevel≤125:=G.lv _ (by have:=G.o0;omega) (by omega)
theorem Xq.push (G:Xq l mt b v m) {s:Sts} (h0:0≤s.flevel) (h1:s.flevel≤125) {w:Int} (hw:w=m.fvalid+if s.fisolate=true then 1 else 0):Xq l mt b (v+1) (pushM { m with fvalid:=w } s):=by
 have o0:=G.o0
 have o1:=G.o1
 refine ⟨G.hl,G.hm,G.hb,G.n1,G.n2,G.n3,by simp [pushM];omega,by simp [pushM];omega,by have:=G.is;simp only [pushM];omega,by have:=G.em;simp only [pushM];omega,?_,?_,fun j j0 j1=>?_⟩
 · have:=G.va
   simp only [pushM,cntI_app,Z14]
   rw [hw]
   split<;>omega
 · simp only [pushM]
   rw [Yi (by omega),if_pos o0];exact G.b0
 · simp only [pushM] at j1 ⊢
   rw [Zf] at j1
   rw [Yi j0]
   split
   · exact G.lv j j0 (by assumption)
   · have e:j-Z0 m.fopen.fl=0:=by simp at j1;omega
     rw [e];exact ⟨h0,h1⟩
theorem mayM_up {odd:Bool} (G:Xq l mt b v m) (h:mayM m odd=true):0≤upL (Yv m.fopen.fl).flevel odd∧upL (Yv m.fopen.fl).flevel odd≤125∧m.fisolates=0∧m.fembeddings=0:=by
 have h1:=@upL_le (Yv m.fopen.fl).flevel odd
 have h2:=G.last
 simp only [mayM,Bool.and_eq_true,decide_eq_true_eq,beq_iff_eq] at h
 obtain ⟨⟨a,b⟩,c⟩:=h
 exact ⟨by omega,a,b,c⟩
theorem Xq.embedC (G2:Xq l mt b v m) {odd:Bool} {ov:Int} : Xq l mt b (v+1) (embedC m odd ov):=by
 unfold Vx.embedC
 split
 · rename_i h
   obtain ⟨a,b',_,_⟩:=mayM_up G2 h
   exact G2.push (s:=⟨upL (Yv m.fopen.fl).flevel odd,ov,false⟩) (w:=m.fvalid) a b' (by simp)
 · split
   · have G3:=G2.up
     have:=G2.em
     exact ⟨G3.hl,G3.hm,G3.hb,G3.n1,G3.n2,G3.n3,G3.o0,G3.o1,G3.is,by simp only;omega,G3.va,G3.b0,G3.lv⟩
   · exact G2.up
theorem Xq.isolateC (G2:Xq l mt b v m) {odd:Bool} : Xq l mt b (v+1) (isolateC m odd):=by
 unfold Vx.isolateC
 split
 · rename_i h
   obtain ⟨a,b',_,_⟩:=mayM_up G2 h
   exact G2.push (s:=⟨upL (Yv m.fopen.fl).flevel odd,14,true⟩) (w:=m.fvalid+1) a b' (by simp)
 · have G3:=G2.up
   have:=G2.is
   exact ⟨G3.hl,G3.hm,G3.hb,G3.n1,G3.n2,G3.n3,G3.o0,G3.o1,by simp only;omega,G3.em,G3.va,G3.b0,G3.lv⟩
theorem Xq.embed (G:Xq l mt b v m) {c:Int} : Xq l mt b (v+1) (embedM m v c):=G.remove.embedC
theorem Xq.isolate (G:Xq l mt b v m) {odd:Bool} : Xq l mt b (v+1) (Z27 m v odd):=G.take.isolateC
theorem Xq.popped (G:Xq l mt b v m) (h : ¬ m.fvalid=0) : 
  let q:=Qp (popI m.fopen.fl.length m.fopen.fl)
  0 < Z0 q∧Z0 q≤Z0 m.fopen.fl∧levs m.fopen.fl=(Yv q).flevel :: levs q∧Z14 m.fopen.fl=Z14 q+1∧∀ j,0≤j→j < Z0 q→Z1 dS q j=Z1 dS m.fopen.fl j:=by
 have hva:=G.va
 obtain ⟨a1,a2,a3,a4,a5,a6⟩:=popI_spec m.fopen.fl.length m.fopen.fl (by unfold Z0;omega) (by omega)
 have hl:=Z7p a2
 have hs:=levs_split a2
 have hc:=Z60 a2
 rw [a1,if_pos rfl] at hc
 rw [a1,if_pos rfl] at hs
 refine ⟨?_,by omega,by rw [← a4];exact hs,by omega,fun j j0 j1=>by rw [get_init j0 (by omega),a6 j j0 (by omega)]⟩
 by_cases h1:Z0 (popI m.fopen.fl.length m.fopen.fl)=1
 · exfalso
   have hb:=G.b0
   have h6:=a6 0 (by omega) (by omega)
   have:Yv (popI m.fopen.fl.length m.fopen.fl)=Z1 dS (popI m.fopen.fl.length m.fopen.fl) 0:=by unfold Yv;rw [h1];rfl
   rw [this,h6] at a1
   have:(Z1 dS m.fopen.fl 0).fisolate=false:=hb
   rw [this] at a1;cases a1
 · omega
theorem Xq.endIso (G:Xq l mt b v m):Xq l mt b v (Qi m):=by
 unfold Qi
 have is:=G.is
 split
 · exact ⟨G.hl,G.hm,G.hb,G.n1,G.n2,G.n3,G.o0,G.o1,by simp only;omega,G.em,G.va,G.b0,G.lv⟩
 · split
   · exact G
   · rename_i h
     obtain ⟨a1,a2,a3,a4,a5⟩:=G.popped h
     have o1:=G.o1
     have em:=G.em
     have va:=G.va
     exact ⟨G.hl,G.hm,G.hb,G.n1,G.n2,G.n3,a1,by simp only;omega,G.is,by simp only;omega,by simp only;omega,
      (by have:=a5 0 (by omega) a1;show (Z1 dS _ 0).fisolate=false;rw [this];exact G.b0),fun j j0 j1=>(by
       have:=a5 j j0 j1
       show 0≤(Z1 dS _ j).flevel∧(Z1 dS _ j).flevel≤125
       rw [this];exact G.lv j j0 (by simp only at j1;omega))⟩
theorem Xq.endEmb (G:Xq l mt b v m):Xq l mt b v (Z0k m):=by
 unfold Z0k
 have em:=G.em
 split
 · exact G
 · split
   · exact ⟨G.hl,G.hm,G.hb,G.n1,G.n2,G.n3,G.o0,G.o1,G.is,by simp only;omega,G.va,G.b0,G.lv⟩
   · split
     · rename_i h
       obtain ⟨h1,h2⟩:=h
       have o0:=G.o0
       have o1:=G.o1
       have hl:=Z7p o0
       have hc:=Z60 o0
       rw [h1,if_neg (by simp)] at hc
       have va:=G.va
       exact ⟨G.hl,G.hm,G.hb,G.n1,G.n2,G.n3,by simp only;omega,by simp only;omega,G.is,G.em,by simp only;omega,
        (by show (Z1 dS _ 0).fisolate=false;rw [get_init (by omega) (by omega)];exact G.b0),fun j j0 j1=>(by
         show 0≤(Z1 dS _ j).flevel∧(Z1 dS _ j).flevel≤125
         simp only at j1
         rw [get_init j0 (by omega)];exact G.lv j j0 (by omega))⟩
     · exact G
end
section
instance (l:List Int) (i:Int):Decidable (Op l i):=by unfold Op;infer_instance
def Z2w (l:List Int) (v:Int) (s:List Int × (Int→Int)):List Int × (Int→Int) :=
 if Op l v then (s.1++[v],up s.2 v (Z0 l))
 else if Z1 0 l v=23 then
  if 0 < Z0 s.1 then (Xx s.1 0 (Z0 s.1-1),up (up s.2 v (Z1 0 s.1 (Z0 s.1-1))) (Z1 0 s.1 (Z0 s.1-1)) v)
  else (s.1,up s.2 v (-1))
 else if Z1 0 l v=11 then ([],up s.2 v (-1)) else (s.1,up s.2 v (-1))
def mst (l:List Int):Nat→List Int × (Int→Int)
 | 0=>([],fun _=>0)
 | n+1=>Z2w l n (mst l n)
theorem mst_next {l:List Int} {v:Int} (v0:0≤v):mst l (v+1).toNat=Z2w l v (mst l v.toNat):=by
 have e:(v+1).toNat=v.toNat+1:=by omega
 have e2:(v.toNat:Int)=v:=by omega
 rw [e]
 show Z2w l (v.toNat:Int) (mst l v.toNat)=_
 rw [e2]
theorem mst_inv {l:List Int} : ∀ n:Nat,(n:Int)≤Z0 l→MInv l n (mst l n).2 (mst l n).1∧Z0 (mst l n).1≤n:=by
 intro n
 induction n with
 | zero=>intro _;exact ⟨MInv.zero l _,by simp [mst]⟩
 | succ n ih =>
  intro h
  obtain ⟨I,hl⟩:=ih (by omega)
  show MInv l ((n+1:Nat):Int) (Z2w l n (mst l n)).2 (Z2w l n (mst l n)).1∧Z0 (Z2w l n (mst l n)).1≤((n+1:Nat):Int)
  have e:((n+1:Nat):Int)=(n:Int)+1:=by omega
  rw [e]
  generalize mst l n=s at I hl ⊢
  have hn:=Zc s.1
  unfold Z2w
  split
  · rename_i hO
    exact ⟨I.push (by omega) (by omega) hO,by simp;omega⟩
  · rename_i hO
    split
    · rename_i hc
      split
      · rename_i ho
        refine ⟨I.pop (by omega) (by omega) hc ho rfl (by rw [Ye (by omega) (by omega) (by omega)];omega) (fun j j0 j1=>by rw [Z0r (by omega) j0 (by omega),Int.zero_add]),?_⟩
        simp only
        rw [Ye (by omega) (by omega) (by omega)];omega
      · exact ⟨I.plain (by omega) (by omega) hO (.inl rfl),by simp only;omega⟩
    · split
      · exact ⟨I.plain (by omega) (by omega) hO (.inr rfl),by simp;omega⟩
      · exact ⟨I.plain (by omega) (by omega) hO (.inl rfl),by simp only;omega⟩
theorem match_exact {l:List Int} (hb:Z0 l≤100000):Zd (Qk l) fun m=>Z0 m=Z0 l∧∀ i,0≤i→i < Z0 l→Z1 0 m i=(mst l (Z0 l).toNat).2 i:=by
 have hn:=Zc l
 unfold Qk
 refine .chk (mkOk hn (by omega) (by omega)) ?_
 refine .cut (fun r=>∃ m,r = .go m∧Z0 m=Z0 l∧∀ i,0≤i→i < Z0 l→Z1 0 m i=(mst l (Z0 l).toNat).2 i) ?_ (fun r hr=>by
  obtain ⟨m,rfl,h⟩:=hr
  exact .go (.ret h))
 refine .loop (fun x=>0≤x.1∧x.1≤Z0 l∧Z0 x.2.1=Z0 l∧x.2.2=(mst l x.1.toNat).1∧∀ i,0≤i→i < x.1→Z1 0 x.2.1 i=(mst l x.1.toNat).2 i) (fun x=>(Z0 l-x.1).toNat)
  ⟨by simp only;omega,by simp only;omega,Y3 _ hn,rfl,fun i i0 i1=>by simp only at i1;omega⟩ ?_
 rintro ⟨v,out,o⟩ ⟨v0,vn,hl,he,hg⟩
 simp only at v0 vn hl he hg ⊢
 refine .ite (fun h=>?_) (fun h=>?_)
 · have h:v < Z0 l:=by simpa using h
   obtain ⟨I,hlo⟩:=mst_inv (l:=l) v.toNat (by omega)
   have ev:(v.toNat:Int)=v:=by omega
   rw [ev] at I hlo
   rw [← he] at I hlo
   have hst:=mst_next (l:=l) v0
   have hgs : ∀ x,∀ i,0≤i→i < v+1→Z1 0 (Yc out v x) i=up (mst l v.toNat).2 v x i:=fun x i i0 i1=>by
    rw [Zk v0 i0 (by omega)]
    unfold up
    split
    · rfl
    · exact hg i i0 (by omega)
   refine .cut (fun r=>∃ out' o',r = .go (out',o')∧Z0 out'=Z0 l∧o'=(Z2w l v (mst l v.toNat)).1∧∀ i,0≤i→i < v+1→Z1 0 out' i=(Z2w l v (mst l v.toNat)).2 i) ?_ (fun r hr=>by
    obtain ⟨out',o',rfl,h1,h2,h3⟩:=hr
    exact .go (.chk (Zm (by omega) (by omega)) (.ret ⟨⟨by simp only;omega,by simp only;omega,h1,by simp only [hst];exact h2,by simp only [hst];exact h3⟩,by simp only;omega⟩)))
   refine .chk ⟨v0,h⟩ ?_
   refine .chk ⟨v0,h⟩ ?_
   have hop:Op l v ↔ ((Z1 0 l v == 20)=true∨(Z1 0 l v == 21)=true∨(Z1 0 l v == 22)=true):=by
    simp only [beq_iff_eq,Op];omega
   refine .cut (fun r=>∃ b:Bool,r = .go b∧(b=true ↔ Op l v)) ?_ ?_
   · refine .ite (fun h1=>.ret ⟨_,rfl,by rw [hop];simp [h1]⟩) (fun h1=>?_)
     refine .ite (fun h2=>.ret ⟨_,rfl,by rw [hop];simp [h2]⟩) (fun h2=>.ret ⟨_,rfl,by rw [hop];simp [h1,h2]⟩)
   · rintro r ⟨b,rfl,hb'⟩
     refine .go ?_
     unfold Z2w
     refine .ite (fun hb1=>?_) (fun hb1=>?_)
     · have hO:=hb'.1 hb1
       rw [if_pos hO]
       refine .chk ⟨v0,h⟩ (.call (si_push_eq (by omega)) (.ret ⟨_,_,rfl,by simp [hl],by simp only [he],?_⟩))
       have e:Yc (Yc out v (-1)) v (Z0 l)=Yc out v (Z0 l):=by
        refine extL 0 (by simp) fun i i0 i1=>?_
        simp only [Zq] at i1
        rw [Zk v0 i0 (by simpa using i1),Zk v0 i0 (by omega),Zk v0 i0 (by omega)]
        split<;>rfl
       rw [e]
       exact hgs _
     · have hO : ¬ Op l v:=fun hh=>by rw [hb'.2 hh] at hb1;cases hb1
       rw [if_neg hO]
       refine .ite (fun hc=>?_) (fun hc=>?_)
       · have hc:Z1 0 l v=23:=by simpa using hc
         rw [if_pos hc]
         refine .call (b:=Z0 o) rfl ?_
         refine .ite (fun h1=>?_) (fun h1=>?_)
         · have h1:0 < Z0 o:=by simpa using h1
           obtain ⟨p0,pv,_,_⟩:=I.st (Z0 o-1) (by omega) (by omega)
           rw [← he,if_pos h1]
           refine .call (Z5z h1 (by omega)) (.chk ⟨v0,h⟩ (.call (Z5z h1 (by omega)) (.chk ⟨p0,by omega⟩ (.call (si_pop_eq h1 (by omega)) (.ret ⟨_,_,rfl,by simp [hl],rfl,?_⟩)))))
           intro i i0 i1
           rw [Zk (by omega) i0 (by simp;omega),Zk v0 i0 (by simp;omega),Zk v0 i0 (by omega)]
           simp only [up]
           split
           · rfl
           · split
             · rfl
             · exact hg i i0 (by omega)
         · have h1:Z0 o=0:=by have:=Zc o;simp at h1;omega
           rw [← he,if_neg (by omega)]
           exact .ret ⟨_,_,rfl,by simp [hl],rfl,hgs _⟩
       · rw [if_neg (by simpa using hc)]
         refine .ite (fun h1=>?_) (fun h1=>?_)
         · rw [if_pos (by simpa using h1)]
           exact .ret ⟨_,_,rfl,by simp [hl],rfl,hgs _⟩
         · rw [if_neg (by simpa using h1)]
           exact .ret ⟨_,_,rfl,by simp [hl],he,hgs _⟩
 · have h:Z0 l≤v:=by simpa using h
   have e:v=Z0 l:=by omega
   subst e
   exact .ret ⟨out,rfl,hl,hg⟩
theorem mst_congr {l k:List Int} (hl:Z0 l=Z0 k) (h : ∀ i,0≤i→i < Z0 l→(Op l i ↔ Op k i)∧(Z1 0 l i=23 ↔ Z1 0 k i=23)∧(Z1 0 l i=11 ↔ Z1 0 k i=11)) : ∀ n:Nat,(n:Int)≤Z0 l→mst l n=mst k n:=by
 intro n
 induction n with
 | zero=>intro _;rfl
 | succ n ih =>
  intro hn
  show Z2w l n (mst l n)=Z2w k n (mst k n)
  rw [ih (by omega)]
  obtain ⟨h1,h2,h3⟩:=h n (by omega) (by omega)
  unfold Z2w
  simp only [h1,h2,h3,hl]
def mlev (m:Mch):List Int:=List.replicate m.fisolates.toNat (Yv m.fopen.fl).flevel++levs m.fopen.fl
theorem levs_len (o:List Sts):(levs o).length=Z14 o:=by
 have h : ∀ r:List Sts,(levsR r).length=Z14 r:=fun r=>by
  induction r with
  | nil=>rfl
  | cons s t ih=>unfold levsR Z14;split<;>simp [ih]<;>omega
 have h2 : ∀ r:List Sts,Z14 r.reverse=Z14 r:=fun r=>by
  induction r with
  | nil=>rfl
  | cons s t ih=>rw [List.reverse_cons,cntI_app,ih];simp only [Z14];omega
 unfold levs
 rw [h,h2]
variable {l mt:List Int} {b v:Int} {m:Mch}
theorem mlev_embed (G:Xq l mt b v m) {odd:Bool} {ov:Int} : mlev (embedC m odd ov)=mlev m:=by
 unfold embedC
 split
 · rename_i h
   obtain ⟨_,_,hi,_⟩:=mayM_up G h
   simp only [mlev,pushM,hi,levs_push]
   rfl
 · split<;>rfl
theorem mlev_isolate (G:Xq l mt b v m) {odd:Bool} : mlev (isolateC m odd)=(Yv m.fopen.fl).flevel :: mlev m:=by
 unfold isolateC
 have is:=G.is
 split
 · rename_i h
   obtain ⟨_,_,hi,_⟩:=mayM_up G h
   simp only [mlev,pushM,hi,levs_push]
   rfl
 · simp only [mlev]
   have e:(m.fisolates+1).toNat=m.fisolates.toNat+1:=by omega
   rw [e,List.replicate_succ];rfl
theorem mlev_endIso (G:Xq l mt b v m):(mlev m=[]∧mlev (Qi m)=[])∨mlev m=(Yv (Qi m).fopen.fl).flevel :: mlev (Qi m):=by
 unfold Qi
 have is:=G.is
 split
 · rename_i h
   right
   simp only [mlev]
   have e:m.fisolates.toNat=(m.fisolates-1).toNat+1:=by omega
   rw [e,List.replicate_succ];rfl
 · have e:m.fisolates.toNat=0:=by omega
   split
   · rename_i h
     left
     have:=levs_len m.fopen.fl
     have va:=G.va
     have:levs m.fopen.fl=[]:=List.eq_nil_of_length_eq_zero (by omega)
     have:mlev m=[]:=by simp only [mlev,e,this];rfl
     exact ⟨this,this⟩
   · rename_i h
     right
     obtain ⟨_,_,a3,_,_⟩:=G.popped h
     simp only [mlev,e,List.replicate_zero,List.nil_append]
     exact a3
theorem mlev_endEmb (G:Xq l mt b v m):mlev (Z0k m)=mlev m:=by
 unfold Z0k
 have is:=G.is
 split
 · rfl
 · have e:m.fisolates.toNat=0:=by omega
   split
   · rfl
   · split
     · rename_i h
       simp only [mlev,e,List.replicate_zero,List.nil_append]
       rw [levs_split G.o0,if_neg (by rw [h.1];simp)]
     · rfl
end
section
def StepM (k _mt:List Int) (b v:Int) (m m':Mch):Prop :=
 ((¬ Op k v∧Z1 0 k v≠23)∧∃ c,m'=embedM m v c)∨(Op k v∧∃ odd,m'=Z27 m v odd)∨(Z1 0 k v=23∧m'=Z13 (Qi m) v)
∨((¬ Op k v∧Z1 0 k v≠23)∧m'=Z0k (Xo m v))∨(Z1 0 k v=11∧m' = { m with frun:={ m.frun with fLevels:=Yc m.frun.fLevels v b } })
∨((¬ Op k v∧Z1 0 k v≠23)∧m'=Xo m v)∨(¬ Op k v∧Z1 0 k v≠23∧m'=Z13 m v)
def mch (x:List Int × List Int × Int × Int × Int × Int × List Int × List Int × List Bool × List Sts):Mch :=
 ⟨x.1,x.2.1,x.2.2.1,⟨x.2.2.2.2.2.2.1,x.2.2.2.2.2.2.2.1,x.2.2.2.2.2.2.2.2.1⟩,⟨x.2.2.2.2.2.2.2.2.2⟩,x.2.2.2.1,x.2.2.2.2.1,x.2.2.2.2.2.1⟩
theorem Z87 {l k:List Int} {b base:Int} (hk:Z0f l=some k) (hb:Z0 k≤100000) (hp:Xp base=some b) (hb0:0≤b∧b≤1) (Inv:List Int→Int→Mch→Prop)
  (h0 : ∀ mt,Inv mt 0 ⟨k,mt,b,⟨Z0q (Z0 k) 0,k,Z0q (Z0 k) false⟩,⟨[⟨b,14,false⟩]⟩,0,0,0⟩)
  (hstep : ∀ mt v m m',0≤v→v < Z0 k→Xq k mt b v m→Inv mt v m→StepM k mt b v m m'→Inv mt (v+1) m') :
  Zd (Xc l base) fun r=>∃ mt m,r=m.frun∧Xq k mt b (Z0 k) m∧Inv mt (Z0 k) m:=by
 have hn:=Zc k
 unfold Xc
 refine .cut (fun r=>∃ mt,r = .go (k,k,mt,b,Z0q (Z0 k) 0,k,Z0q (Z0 k) false,[])∧Z0 mt=Z0 k∧(∀ i,0≤i→i < Z0 k→Op k i→i < Z1 0 mt i∧Z1 0 mt i≤Z0 k)) ?_ ?_
 · refine .call hk ?_
   refine .bind _ (Z44 hb) fun mt hm=>?_
   obtain ⟨hml,o,I⟩:=hm
   refine .call hp ?_
   refine .chk (mkOk hn (by omega) (by omega)) (.chk (grOk hn (by omega) (by omega)) (.chk (mkOk hn (by omega) (by omega)) (.ret ⟨mt,rfl,hml,fun i i0 i1 hO=>?_⟩)))
   rcases (I.loc i i0 i1).1 hO with h | ⟨h1,h2,_,_⟩<;>omega
 rintro r ⟨mt,rfl,hml,hg⟩
 refine .go ?_
 refine .call (b:=⟨[⟨b,14,false⟩]⟩) (by unfold Z4b;rw [Yp (grOk (by simp) (by simp) (by omega))];rfl) ?_
 refine .cut (fun r=>∃ x,r = .go x∧Xq k mt b (Z0 k) (mch x)∧Inv mt (Z0 k) (mch x)) ?_ (by
  rintro r ⟨⟨A,B,x,y,z,w,L,R,C,S⟩,rfl,h1,h2⟩
  exact .go (.ret ⟨mt,_,rfl,h1,h2⟩))
 refine .loop (fun x=>0≤x.1∧x.1≤Z0 k∧Xq k mt b x.1 (mch x.2)∧Inv mt x.1 (mch x.2)) (fun x=>(Z0 k-x.1).toNat)
  ⟨by simp only;omega,by simp only;omega,⟨rfl,rfl,rfl,Y3 _ hn,rfl,Y3 _ hn,by simp [mch],by simp [mch],by simp [mch],by simp [mch],by simp [mch,Z14],rfl,fun j j0 j1=>?_⟩,h0 mt⟩ ?_
 · have e:j=0:=by simp [mch] at j1;omega
   subst e
   show 0≤b∧b≤125
   omega
 rintro ⟨v,A,B,x,y,z,w,L,C,R,S⟩ ⟨v0,vn,G,I⟩
 simp only at v0 vn G I
 have hA:A=k:=G.hl
 have hx:x=b:=G.hb
 have n1:Z0 L=Z0 k:=G.n1
 refine .ite (fun h=>?_) (fun h=>?_)
 · have h:v < Z0 k:=by simpa using h
   rw [hA] at G I ⊢
   refine .cut (fun r=>∃ x',r = .go x'∧Xq k mt b (v+1) (mch x')∧StepM k mt b v (mch (k,B,x,y,z,w,L,C,R,S)) (mch x')) ?_ ?_
   · have ret : ∀ {γ:Type} {m':Mch},Xq k mt b (v+1) m'→StepM k mt b v (mch (k,B,x,y,z,w,L,C,R,S)) m' →
      Zd (some (Fl.go (γ:=γ) (m'.fl,m'.fmatch,m'.fbase,m'.fisolates,m'.fembeddings,m'.fvalid,m'.frun.fLevels,m'.frun.fClasses,m'.frun.fRemoved,m'.fopen.fl)))
       (fun r=>∃ x',r = .go x'∧Xq k mt b (v+1) (mch x')∧StepM k mt b v (mch (k,B,x,y,z,w,L,C,R,S)) (mch x')):=fun h1 h2=>.ret ⟨_,rfl,h1,h2⟩
     refine .chk ⟨v0,h⟩ ?_
     refine .cut (fun r=>∃ q:Bool,r = .go q∧(q=true→¬ Op k v∧Z1 0 k v≠23)) ?_ ?_
     · refine .ite (fun h1=>.ret ⟨_,rfl,fun h2=>by simp at h1;unfold Op;omega⟩) (fun _=>.ite (fun h1=>.ret ⟨_,rfl,fun h2=>by simp at h1;unfold Op;omega⟩) (fun _=>.ite (fun h1=>.ret ⟨_,rfl,fun h2=>by simp at h1;unfold Op;omega⟩) (fun _=>.ret ⟨_,rfl,fun h2=>by simp at h2;unfold Op;omega⟩)))
     rintro r ⟨q,rfl,hq⟩
     refine .go (.ite (fun hh=>?_) (fun _=>?_))
     · exact .call (embed_eq hb G v0 h) (ret G.embed (.inl ⟨hq hh,_,rfl⟩))
     refine .cut (fun r=>∃ q:Bool,r = .go q∧(q=true ↔ Op k v)) ?_ ?_
     · have hop:Op k v ↔ ((Z1 0 k v == 21)=true∨(Z1 0 k v == 20)=true∨(Z1 0 k v == 22)=true):=by
        simp only [beq_iff_eq,Op];omega
       refine .ite (fun h1=>.ret ⟨_,rfl,by rw [hop];simp [h1]⟩) (fun h1=>?_)
       refine .ite (fun h2=>.ret ⟨_,rfl,by rw [hop];simp [h2]⟩) (fun h2=>.ret ⟨_,rfl,by rw [hop];simp [h1,h2]⟩)
     rintro r ⟨q,rfl,hq2⟩
     refine .go (.ite (fun hh=>?_) (fun hh=>?_))
     · have hO:=hq2.1 hh
       obtain ⟨odd,he⟩:=isolate_eq hb G v0 h hml hg hO (c:=Z1 0 k v)
       exact .call he (ret G.isolate (.inr (.inl ⟨hO,odd,rfl⟩)))
     have hO : ¬ Op k v:=fun h2=>by rw [hq2.2 h2] at hh;cases hh
     refine .ite (fun hh=>?_) (fun h23=>?_)
     · exact .call (endIso_eq hb G h) (.call (take_eq hb G.endIso v0 h (by omega)) (ret G.endIso.take.up (.inr (.inr (.inl ⟨by simpa using hh,rfl⟩)))))
     have h23:Z1 0 k v≠23:=by simpa using h23
     refine .ite (fun hh=>?_) (fun _=>?_)
     · exact .call (remove_eq hb G v0 h (by omega)) (.call (endEmb_eq hb G.remove h) (ret G.remove.endEmb.up (.inr (.inr (.inr (.inl ⟨⟨hO,h23⟩,rfl⟩))))))
     refine .ite (fun hh=>?_) (fun _=>.ite (fun hh=>?_) (fun _=>?_))
     · refine .chk ⟨v0,by omega⟩ (.ret ⟨_,rfl,?_,.inr (.inr (.inr (.inr (.inl ⟨by simpa using hh,?_⟩))))⟩)
       · exact ⟨G.hl,G.hm,G.hb,by simpa [mch] using G.n1,G.n2,G.n3,G.o0,by have:=G.o1;simp only [mch] at this ⊢;omega,by have:=G.is;simp only [mch] at this ⊢;omega,by have:=G.em;simp only [mch] at this ⊢;omega,G.va,G.b0,G.lv⟩
       · rw [hx];rfl
     · exact .call (remove_eq hb G v0 h (by omega)) (ret G.remove.up (.inr (.inr (.inr (.inr (.inr (.inl ⟨⟨hO,h23⟩,rfl⟩)))))))
     · exact .call (take_eq hb G v0 h (by omega)) (ret G.take.up (.inr (.inr (.inr (.inr (.inr (.inr ⟨hO,h23,rfl⟩)))))))
   · rintro r ⟨⟨A',B',x',y',z',w',L',C',R',S'⟩,rfl,h1,h2⟩
     refine .go (.chk (Zm (by omega) (by omega)) (.ret ⟨⟨by simp only;omega,by simp only;omega,h1,?_⟩,by simp only;omega⟩))
     exact hstep mt v _ _ v0 h G I h2
 · have h:Z0 k≤v:=by simpa [hA] using h
   have e:v=Z0 k:=by omega
   subst e
   exact .ret ⟨_,rfl,G,I⟩
end
section
structure LI (k:List Int) (v:Int) (s:List Int × (Int→Int)) (M L:List Int):Prop where
 a1:Z0 s.1≤Z0 M
 a2 : ∀ j,0≤j→j < Z0 s.1→Z1 0 M j=Z1 0 L (Z1 0 s.1 (Z0 s.1-1-j))
 lv : ∀ i,0≤i→i < v→Op k i→s.2 i < Z0 k→Z1 0 L (s.2 i)=Z1 0 L i
section
variable {k:List Int} {v:Int} {s:List Int × (Int→Int)} {M L L':List Int}
theorem LI.plain (H:LI k v s M L) (I:MInv k v s.2 s.1) (v0:0≤v) (hL : ∀ i,0≤i→i < v→Z1 0 L' i=Z1 0 L i) {o':List Int} (ho:o'=s.1∨o'=[]) (hc : ¬ Op k v) (hvn:v < Z0 k):LI k (v+1) (o',up s.2 v (-1)) M L':=by
 refine ⟨?_,fun j j0 j1=>?_,fun i i0 i1 hO hlt=>?_⟩
 · rcases ho with rfl | rfl
   · exact H.a1
   · exact Zc M
 · rcases ho with rfl | rfl
   · rw [H.a2 j j0 j1]
     obtain ⟨p0,p1,_⟩:=I.st (Z0 s.1-1-j) (by simp only at j1;omega) (by omega)
     rw [hL _ p0 p1]
   · simp at j1;omega
 · have hiv:i≠v:=fun h=>hc (h ▸ hO)
   have e:up s.2 v (-1) i=s.2 i:=if_neg hiv
   simp only [e] at hlt ⊢
   rcases (I.loc i i0 (by omega)).1 hO with h | ⟨h1,h2,_,_⟩
   · omega
   · rw [hL _ (by omega) h2,hL _ i0 (by omega)]
     exact H.lv i i0 (by omega) hO hlt
theorem LI.push (H:LI k v s M L) (I:MInv k v s.2 s.1) (v0:0≤v) (hL : ∀ i,0≤i→i < v→Z1 0 L' i=Z1 0 L i) {x:Int} (hx:Z1 0 L' v=x):LI k (v+1) (s.1++[v],up s.2 v (Z0 k)) (x :: M) L':=by
 have hn:=Zc s.1
 refine ⟨by have:=H.a1;simp;omega,fun j j0 j1=>?_,fun i i0 i1 hO hlt=>?_⟩
 · have el:Z0 (s.1++[v])=Z0 s.1+1:=by simp
   simp only [el] at j1 ⊢
   by_cases h:j=0
   · subst h
     have e:Z0 s.1+1-1-0=Z0 s.1:=by omega
     rw [e,Qx,hx];rfl
   · rw [getL_cons (by omega),H.a2 (j-1) (by omega) (by omega),Yi (by omega),if_pos (by omega)]
     have e:Z0 s.1-1-(j-1)=Z0 s.1+1-1-j:=by omega
     rw [e]
     obtain ⟨p0,p1,_⟩:=I.st (Z0 s.1+1-1-j) (by omega) (by omega)
     rw [hL _ p0 p1]
 · by_cases hiv:i=v
   · subst hiv
     have e:up s.2 i (Z0 k) i=Z0 k:=if_pos rfl
     simp only [e] at hlt;omega
   · have e:up s.2 v (Z0 k) i=s.2 i:=if_neg hiv
     simp only [e] at hlt ⊢
     rcases (I.loc i i0 (by omega)).1 hO with h | ⟨h1,h2,_,_⟩
     · omega
     · rw [hL _ (by omega) h2,hL _ i0 (by omega)]
       exact H.lv i i0 (by omega) hO hlt
theorem LI.pop (H:LI k v s M L) (I:MInv k v s.2 s.1) (v0:0≤v) (hL : ∀ i,0≤i→i < v→Z1 0 L' i=Z1 0 L i) (hc:Z1 0 k v=23) (ho:0 < Z0 s.1) {x:Int} {M':List Int} (hM:M=x :: M') (hx:Z1 0 L' v=x) :
  LI k (v+1) (Xx s.1 0 (Z0 s.1-1),up (up s.2 v (Z1 0 s.1 (Z0 s.1-1))) (Z1 0 s.1 (Z0 s.1-1)) v) M' L':=by
 have hn:=Zc s.1
 have el:Z0 (Xx s.1 0 (Z0 s.1-1))=Z0 s.1-1:=by rw [Ye (by omega) (by omega) (by omega)];omega
 obtain ⟨q0,q1,_,_⟩:=I.st (Z0 s.1-1) (by omega) (by omega)
 have h0:=H.a2 0 (by omega) ho
 rw [Int.sub_zero] at h0
 have a1:=H.a1
 have a2:=H.a2
 subst hM
 generalize hp:Z1 0 s.1 (Z0 s.1-1)=p at *
 have h0:x=Z1 0 L p:=h0
 refine ⟨by simp only [el];simp at a1;omega,fun j j0 j1=>?_,fun i i0 i1 hO hlt=>?_⟩
 · simp only [el] at j1 ⊢
   have h:=a2 (j+1) (by omega) (by omega)
   rw [getL_cons (by omega)] at h
   have e1:j+1-1=j:=by omega
   have e2:Z0 s.1-1-(j+1)=Z0 s.1-1-1-j:=by omega
   rw [e1,e2] at h
   rw [h,Z0r (by omega) (by omega) (by omega),Int.zero_add]
   obtain ⟨p0,p1,_⟩:=I.st (Z0 s.1-1-1-j) (by omega) (by omega)
   rw [hL _ p0 p1]
 · by_cases hip:i=p
   · subst hip
     have e:up (up s.2 v i) i v i=v:=if_pos rfl
     simp only [e] at hlt ⊢
     rw [hx,hL _ i0 q1,h0]
   · have hiv:i≠v:=fun h=>by subst h;unfold Op at hO;omega
     have e:up (up s.2 v p) p v i=s.2 i:=(if_neg hip).trans (if_neg hiv)
     simp only [e] at hlt ⊢
     rcases (I.loc i i0 (by omega)).1 hO with h | ⟨h1,h2,_,_⟩
     · omega
     · rw [hL _ (by omega) h2,hL _ i0 (by omega)]
       exact H.lv i i0 (by omega) hO hlt
end
variable {k mt:List Int} {b v:Int} {m m':Mch}
theorem take_lev (G:Xq k mt b v m) (v0:0≤v) (hv:v < Z0 k):(∀ i,0≤i→i < v→Z1 0 (Z13 m v).frun.fLevels i=Z1 0 m.frun.fLevels i)∧Z1 0 (Z13 m v).frun.fLevels v=(Yv m.fopen.fl).flevel:=by
 have n1:=G.n1
 constructor
 · intro i i0 i1
   simp only [Z13]
   rw [Zk v0 i0 (by omega),if_neg (by omega)]
 · simp only [Z13]
   rw [Zk v0 v0 (by omega),if_pos rfl]
theorem isolateC_run {odd:Bool} : (isolateC m odd).frun=m.frun:=by unfold isolateC;split<;>rfl
theorem embedC_run {odd:Bool} {ov:Int} : (embedC m odd ov).frun=m.frun:=by
 unfold embedC
 split
 · rfl
 · split<;>rfl
theorem endIso_run:(Qi m).frun=m.frun:=by
 unfold Qi
 split
 · rfl
 · split<;>rfl
theorem endEmb_run:(Z0k m).frun=m.frun:=by
 unfold Z0k
 split
 · rfl
 · split
   · rfl
   · split<;>rfl
theorem li_step (G:Xq k mt b v m) (v0:0≤v) (hv:v < Z0 k) (H:LI k v (mst k v.toNat) (mlev m) m.frun.fLevels) (hs:StepM k mt b v m m') :
  LI k (v+1) (mst k (v+1).toNat) (mlev m') m'.frun.fLevels:=by
 obtain ⟨I,_⟩:=mst_inv (l:=k) v.toNat (by omega)
 have ev:(v.toNat:Int)=v:=by omega
 rw [ev] at I
 rw [mst_next v0]
 generalize mst k v.toNat=s at *
 have n1:=G.n1
 have plain : ∀ {m2:Mch},¬ Op k v→Z1 0 k v≠23→mlev m2=mlev m→(∀ i,0≤i→i < v→Z1 0 m2.frun.fLevels i=Z1 0 m.frun.fLevels i)→LI k (v+1) (Z2w k v s) (mlev m2) m2.frun.fLevels:=by
  intro m2 h1 h2 h3 h4
  unfold Z2w
  rw [if_neg h1,if_neg h2,h3]
  split
  · exact H.plain I v0 h4 (.inr rfl) h1 hv
  · exact H.plain I v0 h4 (.inl rfl) h1 hv
 have remL : ∀ i,0≤i→i < v→Z1 0 (Xo m v).frun.fLevels i=Z1 0 m.frun.fLevels i:=fun i i0 i1=>by
  simp only [Xo]
  rw [Zk v0 i0 (by omega),if_neg (by omega)]
 rcases hs with ⟨⟨h1,h2⟩,c,rfl⟩ | ⟨hO,odd,rfl⟩ | ⟨h23,rfl⟩ | ⟨⟨h1,h2⟩,rfl⟩ | ⟨h11,rfl⟩ | ⟨⟨h1,h2⟩,rfl⟩ | ⟨h1,h2,rfl⟩
 · refine plain h1 h2 ?_ ?_
   · exact mlev_embed G.remove
   · unfold embedM;rw [embedC_run];exact remL
 · obtain ⟨t1,t2⟩:=take_lev G v0 hv
   unfold Z27
   rw [mlev_isolate G.take,isolateC_run]
   unfold Z2w
   rw [if_pos hO]
   exact H.push I v0 t1 t2
 · obtain ⟨t1,t2⟩:=take_lev G.endIso v0 hv
   rw [endIso_run] at t1
   have hO : ¬ Op k v:=by unfold Op;omega
   show LI k (v+1) (Z2w k v s) (mlev (Qi m)) (Z13 (Qi m) v).frun.fLevels
   unfold Z2w
   rw [if_neg hO,if_pos h23]
   have a1:=H.a1
   rcases mlev_endIso G with ⟨e1,e2⟩ | e
   · rw [e1] at a1 H
     have hz : ¬ 0 < Z0 s.1:=by simp at a1;omega
     rw [if_neg hz,e2]
     exact H.plain I v0 t1 (.inl rfl) hO hv
   · split
     · rename_i hz
       exact H.pop I v0 t1 h23 hz e t2
     · rename_i hz
       have hz:s.1=[]:=by
        cases hh:s.1 with
        | nil=>rfl
        | cons a t=>rw [hh] at hz;have:=Zc t;simp at hz;omega
       have H2:LI k v s (mlev (Qi m)) m.frun.fLevels:=⟨by rw [hz];exact Zc _,fun j j0 j1=>by rw [hz] at j1;simp at j1;omega,H.lv⟩
       exact H2.plain I v0 t1 (.inl rfl) hO hv
 · refine plain h1 h2 ?_ ?_
   · rw [mlev_endEmb G.remove];rfl
   · rw [endEmb_run];exact remL
 · refine plain (by unfold Op;omega) (by omega) rfl (fun i i0 i1=>?_)
   simp only
   rw [Zk v0 i0 (by omega),if_neg (by omega)]
 · exact plain h1 h2 rfl remL
 · exact plain h1 h2 rfl (take_lev G v0 hv).1
theorem known_spec {l:List Int} (hb:Z0 l≤100000):Zd (Z0f l) fun k=>Z0 k=Z0 l∧∀ i,0≤i→i < Z0 l→Z1 0 k i=if Z1 0 l i < 1∨23 < Z1 0 l i then 14 else Z1 0 l i:=by
 have hn:=Zc l
 unfold Z0f
 refine .chk (mkOk hn (by omega) (by omega)) ?_
 refine .cut (fun r=>∃ k,r = .go k∧Z0 k=Z0 l∧∀ i,0≤i→i < Z0 l→Z1 0 k i=if Z1 0 l i < 1∨23 < Z1 0 l i then 14 else Z1 0 l i) ?_ (fun r hr=>by obtain ⟨k,rfl,h⟩:=hr;exact .go (.ret h))
 refine .loop (fun x=>0≤x.1∧x.1≤Z0 l∧Z0 x.2=Z0 l∧∀ i,0≤i→i < x.1→Z1 0 x.2 i=if Z1 0 l i < 1∨23 < Z1 0 l i then 14 else Z1 0 l i) (fun x=>(Z0 l-x.1).toNat)
  ⟨by simp only;omega,by simp only;omega,Y3 _ hn,fun i h0 h1=>by simp only at h1;omega⟩ ?_
 rintro ⟨v,o⟩ ⟨v0,vn,hl,hg⟩
 simp only at v0 vn hl hg ⊢
 refine .ite (fun h=>?_) (fun h=>?_)
 · have h:v < Z0 l:=by simpa using h
   refine .chk ⟨v0,h⟩ ?_
   refine .ite (fun h2=>?_) (fun h2=>?_)
   · refine .chk ⟨v0,h⟩ (.chk (Zm (by omega) (by omega)) (.ret ⟨⟨by simp only;omega,by simp only;omega,by simp [hl],fun i i0 i1=>?_⟩,by simp only;omega⟩))
     simp only at i1 ⊢
     rw [Zk v0 i0 (by omega)]
     split
     · rename_i he
       rw [he,if_pos]
       by_cases h3:Z1 0 l v < 1
       · exact .inl h3
       · simp [h3] at h2;exact .inr h2
     · exact hg i i0 (by omega)
   · refine .chk ⟨v0,h⟩ (.chk (Zm (by omega) (by omega)) (.ret ⟨⟨by simp only;omega,by simp only;omega,by simp [hl],fun i i0 i1=>?_⟩,by simp only;omega⟩))
     simp only at i1 ⊢
     rw [Zk v0 i0 (by omega)]
     split
     · rename_i he
       rw [he,if_neg]
       by_cases h3:Z1 0 l v < 1
       · simp [h3] at h2
       · simp [h3] at h2;omega
     · exact hg i i0 (by omega)
 · have h:Z0 l≤v:=by simpa using h
   have e:v=Z0 l:=by omega
   subst e
   exact .ret ⟨o,rfl,hl,hg⟩
theorem parity_spec (base:Int):Zd (Xp base) fun b=>0≤b∧b≤1:=by
 unfold Xp
 refine .chk (by decide) (.ret ?_)
 have h0:0≤Yn base 0:=by unfold Yn;split<;>omega
 exact ⟨Int.tmod_nonneg _ h0,by have:=Int.tmod_lt_of_pos (Yn base 0) (show (0:Int) < 2 by omega);omega⟩
structure RunP (l:List Int) (r:Zn):Prop where
 n1:Z0 r.fLevels=Z0 l
 n2:Z0 r.fClasses=Z0 l
 n3:Z0 r.fRemoved=Z0 l
 lv : ∀ i,0≤i→i < Z0 l→Op l i→(mst l (Z0 l).toNat).2 i < Z0 l→Z1 0 r.fLevels ((mst l (Z0 l).toNat).2 i)=Z1 0 r.fLevels i
theorem explicit_run {l:List Int} (base:Int) (hb:Z0 l≤100000):Zd (Xc l base) (RunP l):=by
 have hn:=Zc l
 obtain ⟨k,hk,hkl,hkg⟩:=known_spec hb
 obtain ⟨b,hp,hb0⟩:=parity_spec base
 have hkc : ∀ i,0≤i→i < Z0 l→(Op l i ↔ Op k i)∧(Z1 0 l i=23 ↔ Z1 0 k i=23)∧(Z1 0 l i=11 ↔ Z1 0 k i=11):=fun i i0 i1=>by
  have:=hkg i i0 i1
  unfold Op
  split at this<;>refine ⟨?_,?_,?_⟩<;>omega
 have hmst:mst l (Z0 l).toNat=mst k (Z0 l).toNat:=mst_congr hkl.symm hkc _ (by omega)
 refine (Z87 hk (by omega) hp hb0 (fun mt v m=>LI k v (mst k v.toNat) (mlev m) m.frun.fLevels) (fun mt=>?_) (fun mt v m m' v0 v1 G H hs=>li_step G v0 v1 H hs)).mono ?_
 · exact ⟨Zc _,fun j j0 j1=>by simp [mst] at j1;omega,fun i i0 i1=>by omega⟩
 · rintro r ⟨mt,m,rfl,G,H⟩
   rw [hkl] at H
   refine ⟨by rw [G.n1,hkl],by rw [G.n2,hkl],by rw [G.n3,hkl],fun i i0 i1 hO hlt=>?_⟩
   rw [hmst] at hlt ⊢
   exact H.lv i i0 i1 ((hkc i i0 i1).1.1 hO) (by rw [hkl];exact hlt)
end
section
structure Z53 (L:List Int) (R:List Bool) (v:Int) (out:List (List Int)):Prop where
 ln:Z0 out≤v
 lk : ∀ k,0≤k→k < Z0 out→0 < Z0 (Z1 [] out k)∧Z0 (Z1 [] out k)≤v
 rng : ∀ k j,0≤k→k < Z0 out→0≤j→j < Z0 (Z1 [] out k)→0≤Z1 0 (Z1 [] out k) j∧Z1 0 (Z1 [] out k) j < v∧Z1 false R (Z1 0 (Z1 [] out k) j)=false
 inc : ∀ k j j',0≤k→k < Z0 out→0≤j→j < j'→j' < Z0 (Z1 [] out k)→Z1 0 (Z1 [] out k) j < Z1 0 (Z1 [] out k) j'
 ord : ∀ k k' j j',0≤k→k < k'→k' < Z0 out→0≤j→j < Z0 (Z1 [] out k)→0≤j'→j' < Z0 (Z1 [] out k')→Z1 0 (Z1 [] out k) j < Z1 0 (Z1 [] out k') j'
 lev : ∀ k j,0≤k→k < Z0 out→0≤j→j < Z0 (Z1 [] out k)→Z1 0 L (Z1 0 (Z1 [] out k) j)=Z1 0 L (Z1 0 (Z1 [] out k) 0)
 cov : ∀ i,0≤i→i < v→Z1 false R i=false→∃ k j,0≤k∧k < Z0 out∧0≤j∧j < Z0 (Z1 [] out k)∧Z1 0 (Z1 [] out k) j=i
section
variable {L:List Int} {R:List Bool} {v:Int} {out:List (List Int)}
theorem Z53.skip (H:Z53 L R v out) (h:Z1 false R v=true):Z53 L R (v+1) out:=by
 refine ⟨by have:=H.ln;omega,fun k k0 k1=>?_,fun k j k0 k1 j0 j1=>?_,H.inc,H.ord,H.lev,fun i i0 i1 hi=>?_⟩
 · have:=H.lk k k0 k1;omega
 · obtain ⟨a,b,c⟩:=H.rng k j k0 k1 j0 j1
   exact ⟨a,by omega,c⟩
 · by_cases e:i=v
   · subst e;rw [h] at hi;cases hi
   · exact H.cov i i0 (by omega) hi
theorem Z53.new (H:Z53 L R v out) (v0:0≤v) (h:Z1 false R v=false):Z53 L R (v+1) (out++[[v]]):=by
 have hl:Z0 (out++[[v]])=Z0 out+1:=by simp
 have hn:=Zc out
 have hold : ∀ k,0≤k→k < Z0 out→Z1 [] (out++[[v]]) k=Z1 [] out k:=fun k k0 k1=>by rw [Yi k0,if_pos k1]
 have hnew:Z1 [] (out++[[v]]) (Z0 out)=[v]:=Qx _ _ _
 have hcase : ∀ k,0≤k→k < Z0 out+1→(k < Z0 out∧Z1 [] (out++[[v]]) k=Z1 [] out k)∨(k=Z0 out∧Z1 [] (out++[[v]]) k=[v]):=fun k k0 k1=>by
  by_cases e:k < Z0 out
  · exact .inl ⟨e,hold k k0 e⟩
  · have:k=Z0 out:=by omega
    subst this
    exact .inr ⟨rfl,hnew⟩
 have h1:Z0 [v]=1:=by simp
 have hz : ∀ j,0≤j→j < 1→Z1 0 [v] j=v:=fun j j0 j1=>Q0 (by omega)
 rw [← hl] at hcase
 refine ⟨by have:=H.ln;omega,fun k k0 k1=>?_,fun k j k0 k1 j0 j1=>?_,fun k j j' k0 k1 j0 j1 j2=>?_,fun k k' j j' k0 k1 k2 j0 j1 j0' j1'=>?_,fun k j k0 k1 j0 j1=>?_,fun i i0 i1 hi=>?_⟩
 · rcases hcase k k0 k1 with ⟨a,e⟩ | ⟨a,e⟩<;>rw [e]
   · have:=H.lk k k0 a;omega
   · omega
 · rcases hcase k k0 k1 with ⟨a,e⟩ | ⟨a,e⟩<;>rw [e] at j1 ⊢
   · obtain ⟨x,y,z⟩:=H.rng k j k0 a j0 j1
     exact ⟨x,by omega,z⟩
   · rw [hz j j0 (by omega)];exact ⟨v0,by omega,h⟩
 · rcases hcase k k0 k1 with ⟨a,e⟩ | ⟨a,e⟩<;>rw [e] at j2 ⊢
   · exact H.inc k j j' k0 a j0 j1 j2
   · omega
 · rcases hcase k k0 (by omega) with ⟨a,e⟩ | ⟨a,e⟩
   · rw [e] at j1 ⊢
     rcases hcase k' (by omega) k2 with ⟨a',e'⟩ | ⟨a',e'⟩<;>rw [e'] at j1' ⊢
     · exact H.ord k k' j j' k0 k1 a' j0 j1 j0' j1'
     · rw [hz j' j0' (by omega)];exact (H.rng k j k0 a j0 j1).2.1
   · omega
 · rcases hcase k k0 k1 with ⟨a,e⟩ | ⟨a,e⟩<;>rw [e] at j1 ⊢
   · exact H.lev k j k0 a j0 j1
   · rw [hz j j0 (by omega)];rfl
 · by_cases e:i=v
   · subst e
     exact ⟨Z0 out,0,hn,by omega,by omega,by rw [hnew];omega,by rw [hnew];rfl⟩
   · obtain ⟨k,j,a,b,c,d,f⟩:=H.cov i i0 (by omega) hi
     exact ⟨k,j,a,by omega,c,by rw [hold k a b];exact d,by rw [hold k a b];exact f⟩
theorem Z53.ext (H:Z53 L R v out) (v0:0≤v) (h:Z1 false R v=false) (hp:0 < Z0 out) (he:Z1 0 L (Z1 0 (Z1 [] out (Z0 out-1)) 0)=Z1 0 L v) :
  Z53 L R (v+1) (Yc out (Z0 out-1) (Z1 [] out (Z0 out-1)++[v])):=by
 generalize hw:Z1 [] out (Z0 out-1)=W at *
 have hk:=H.lk (Z0 out-1) (by omega) (by omega)
 have hr:=fun j=>H.rng (Z0 out-1) j (by omega) (by omega)
 have hi':=fun j j'=>H.inc (Z0 out-1) j j' (by omega) (by omega)
 have ho:=fun k j j' k0 k1=>H.ord k (Z0 out-1) j j' k0 k1 (by omega)
 have hv:=fun j=>H.lev (Z0 out-1) j (by omega) (by omega)
 rw [hw] at hk
 simp only [hw] at hr hi' ho hv
 generalize ho':Yc out (Z0 out-1) (W++[v])=out'
 have hl:Z0 out'=Z0 out:=by rw [← ho'];simp
 have hlW:Z0 (W++[v])=Z0 W+1:=by simp
 have hcase : ∀ k,0≤k→k < Z0 out'→(k < Z0 out-1∧Z1 [] out' k=Z1 [] out k)∨(k=Z0 out-1∧Z1 [] out' k=W++[v]):=fun k k0 k1=>by
  rw [← ho',Zk (by omega) k0 (by omega)]
  by_cases e:k=Z0 out-1
  · rw [if_pos e];exact .inr ⟨e,rfl⟩
  · rw [if_neg e];exact .inl ⟨by omega,rfl⟩
 have hg : ∀ j,0≤j→j < Z0 W+1→(j < Z0 W∧Z1 0 (W++[v]) j=Z1 0 W j)∨(j=Z0 W∧Z1 0 (W++[v]) j=v):=fun j j0 j1=>by
  by_cases e:j < Z0 W
  · exact .inl ⟨e,by rw [Yi j0,if_pos e]⟩
  · have:j=Z0 W:=by omega
    subst this
    exact .inr ⟨rfl,Qx _ _ _⟩
 rw [← hlW] at hg
 refine ⟨by have:=H.ln;omega,fun k k0 k1=>?_,fun k j k0 k1 j0 j1=>?_,fun k j j' k0 k1 j0 j1 j2=>?_,fun k k' j j' k0 k1 k2 j0 j1 j0' j1'=>?_,fun k j k0 k1 j0 j1=>?_,fun i i0 i1 hi=>?_⟩
 · rcases hcase k k0 k1 with ⟨a,e⟩ | ⟨a,e⟩<;>rw [e]
   · have:=H.lk k k0 (by omega);omega
   · omega
 · rcases hcase k k0 k1 with ⟨a,e⟩ | ⟨a,e⟩<;>rw [e] at j1 ⊢
   · obtain ⟨x,y,z⟩:=H.rng k j k0 (by omega) j0 j1
     exact ⟨x,by omega,z⟩
   · rcases hg j j0 j1 with ⟨a2,e2⟩ | ⟨a2,e2⟩<;>rw [e2]
     · obtain ⟨x,y,z⟩:=hr j j0 a2
       exact ⟨x,by omega,z⟩
     · exact ⟨v0,by omega,h⟩
 · rcases hcase k k0 k1 with ⟨a,e⟩ | ⟨a,e⟩<;>rw [e] at j2 ⊢
   · exact H.inc k j j' k0 (by omega) j0 j1 j2
   · rcases hg j j0 (by omega) with ⟨a2,e2⟩ | ⟨a2,e2⟩
     · rw [e2]
       rcases hg j' (by omega) j2 with ⟨a3,e3⟩ | ⟨a3,e3⟩<;>rw [e3]
       · exact hi' j j' j0 j1 a3
       · exact (hr j j0 a2).2.1
     · omega
 · rcases hcase k k0 (by omega) with ⟨a,e⟩ | ⟨a,e⟩
   · rw [e] at j1 ⊢
     rcases hcase k' (by omega) k2 with ⟨a',e'⟩ | ⟨a',e'⟩<;>rw [e'] at j1' ⊢
     · exact H.ord k k' j j' k0 k1 (by omega) j0 j1 j0' j1'
     · rcases hg j' j0' j1' with ⟨a3,e3⟩ | ⟨a3,e3⟩<;>rw [e3]
       · exact ho k j j' k0 a j0 j1 j0' a3
       · exact (H.rng k j k0 (by omega) j0 j1).2.1
   · omega
 · rcases hcase k k0 k1 with ⟨a,e⟩ | ⟨a,e⟩<;>rw [e] at j1 ⊢
   · exact H.lev k j k0 (by omega) j0 j1
   · have e0:Z1 0 (W++[v]) 0=Z1 0 W 0:=by rw [Yi (by omega),if_pos hk.1]
     rw [e0]
     rcases hg j j0 j1 with ⟨a2,e2⟩ | ⟨a2,e2⟩<;>rw [e2]
     · exact hv j j0 a2
     · exact he.symm
 · by_cases e:i=v
   · subst e
     rcases hcase (Z0 out-1) (by omega) (by omega) with ⟨a,e⟩ | ⟨a,e⟩
     · omega
     · exact ⟨Z0 out-1,Z0 W,by omega,by omega,by omega,by rw [e];omega,by rw [e];exact Qx _ _ _⟩
   · obtain ⟨k,j,a,b,c,d,f⟩:=H.cov i i0 (by omega) hi
     rcases hcase k a (by omega) with ⟨a2,e2⟩ | ⟨a2,e2⟩
     · exact ⟨k,j,a,by omega,c,by rw [e2];exact d,by rw [e2];exact f⟩
     · rw [a2,hw] at d f
       exact ⟨k,j,a,by omega,c,by rw [e2];omega,by rw [e2,Yi c,if_pos d];exact f⟩
end
theorem runs_yields {l:List Int} {r:Zn} (hn2:Z0 l≤100000) (F:RunP l r):Zd (Z4q r) (Z53 r.fLevels r.fRemoved (Z0 l)):=by
 have hn:=Zc l
 have n1:=F.n1
 have n3:=F.n3
 unfold Z4q
 refine .cut (fun q=>∃ out,q = .go out∧Z53 r.fLevels r.fRemoved (Z0 l) out) ?_ (fun q hq=>by obtain ⟨out,rfl,h⟩:=hq;exact .go (.ret h))
 refine .loop (fun x=>0≤x.1∧x.1≤Z0 l∧Z53 r.fLevels r.fRemoved x.1 x.2) (fun x=>(Z0 l-x.1).toNat) ⟨by simp only;omega,hn,?_⟩ ?_
 · exact ⟨by simp,fun k k0 k1=>by simp at k1;omega,fun k j k0 k1=>by simp at k1;omega,fun k j j' k0 k1=>by simp at k1;omega,fun k k' j j' k0 k1 k2=>by simp at k2;omega,fun k j k0 k1=>by simp at k1;omega,fun i i0 i1=>by simp only at i1;omega⟩
 rintro ⟨v,out⟩ ⟨v0,vn,H⟩
 simp only at v0 vn H ⊢
 refine .ite (fun h=>?_) (fun h=>?_)
 · have h:v < Z0 r.fRemoved:=by simpa using h
   have h':v < Z0 l:=by omega
   have ln:=H.ln
   have on:=Zc out
   refine .chk ⟨v0,h⟩ (.ite (fun hg=>?_) (fun hg=>?_))
   · exact .chk (Zm (by omega) (by omega)) (.ret ⟨⟨by simp only;omega,by simp only;omega,H.skip hg⟩,by simp only;omega⟩)
   · have hpos:(!(Z0 out == 0))=true→0 < Z0 out:=fun hh=>by simp at hh;omega
     have hk:=fun h0:0 < Z0 out=>H.lk (Z0 out-1) (by omega) (by omega)
     have hr:=fun h0:0 < Z0 out=>H.rng (Z0 out-1) 0 (by omega) (by omega) (by omega) (hk h0).1
     simp only [Int.zero_add]
     refine .chk (fun hh=>Zm (by omega) (by omega)) (.chk (fun hh=>⟨by have:=hpos hh;omega,by omega⟩) (.chk (fun hh=>⟨by omega,(hk (hpos hh)).1⟩) (.chk (fun hh=>by have:=hr (hpos hh);omega) (.chk (fun hh=>by omega) ?_))))
     refine .ite (fun hh=>?_) (fun hh=>?_)
     · exact .chk (grOk (by omega) (by omega) (by omega)) (.chk (Zm (by omega) (by omega)) (.ret ⟨⟨by simp only;omega,by simp only;omega,H.new v0 hg⟩,by simp only;omega⟩))
     · have h0:0 < Z0 out:=by
        by_cases e:Z0 out=0
        · simp [e] at hh
        · omega
       have hq:=hk h0
       refine .chk (Zm (by omega) (by omega)) (.chk (Zm (by omega) (by omega)) (.chk (by omega) (.chk (grOk (by omega) (by omega) (by omega)) (.chk (by omega) (.chk (Zm (by omega) (by omega)) (.ret ⟨⟨by simp only;omega,by simp only;omega,H.ext v0 hg h0 ?_⟩,by simp only;omega⟩))))))
       have e : ¬ Z0 out=0:=by omega
       simp [e] at hh
       exact hh
 · have h:Z0 r.fRemoved≤v:=by simpa using h
   have e:v=Z0 l:=by omega
   subst e
   exact .ret ⟨out,rfl,H⟩
end
section
inductive Reach (bh:List Int) (a:Int):Int→Prop
 | here:Reach bh a a
 | next {k:Int} : Reach bh a k→0≤Z1 0 bh k→Reach bh a (Z1 0 bh k)
theorem Reach.front {bh:List Int} {a k:Int} (h:Reach bh a k):k=a∨(0≤Z1 0 bh a∧Reach bh (Z1 0 bh a) k):=by
 induction h with
 | here=>exact .inl rfl
 | next h1 h2 ih =>
  rcases ih with rfl | ⟨h3,h4⟩
  · exact .inr ⟨h2,.here⟩
  · exact .inr ⟨h3,.next h4 h2⟩
structure BP (L:List Int) (rs:List (List Int)) (bh:List Int) (jo:List Bool):Prop where
 b1 : ∀ k,0≤k→k < Z0 rs→Z1 0 bh k = -1∨(k < Z1 0 bh k∧Z1 0 bh k < Z0 rs∧Z1 false jo (Z1 0 bh k)=true∧Z1 0 L (Z1 0 (Z1 [] rs (Z1 0 bh k)) 0)=Z1 0 L (Z1 0 (Z1 [] rs k) 0))
 b2 : ∀ t,0≤t→t < Z0 rs→Z1 false jo t=true→∃ k,0≤k∧k < Z0 rs∧Z1 0 bh k=t
 b3 : ∀ k k',0≤k→k < Z0 rs→0≤k'→k' < Z0 rs→0≤Z1 0 bh k→Z1 0 bh k=Z1 0 bh k'→k=k'
section
variable {L:List Int} {rs:List (List Int)} {bh:List Int} {jo:List Bool}
theorem BP.reach (B:BP L rs bh jo) {a k:Int} (a0:0≤a) (a1:a < Z0 rs) (h:Reach bh a k):a≤k∧k < Z0 rs:=by
 induction h with
 | here=>omega
 | next h1 h2 ih =>
  rcases B.b1 _ (by omega) ih.2 with h | ⟨h3,h4,_⟩
  · omega
  · omega
theorem BP.root (B:BP L rs bh jo) {a a' k:Int} (a0:0≤a) (a1:a < Z0 rs) (ha:Z1 false jo a=false) (a0':0≤a') (a1':a' < Z0 rs) (ha':Z1 false jo a'=false) (h:Reach bh a k) (h':Reach bh a' k):a=a':=by
 induction h with
 | here =>
  cases h' with
  | here=>rfl
  | next h1 h2 =>
   have hr:=B.reach a0' a1' h1
   rcases B.b1 _ (by omega) hr.2 with h | ⟨_,_,h5,_⟩
   · omega
   · rw [ha] at h5;cases h5
 | @next k1 h1 h2 ih =>
  have hr:=B.reach a0 a1 h1
  generalize ht:Z1 0 bh k1=t at h'
  cases h' with
  | here =>
   rcases B.b1 _ (by omega) hr.2 with h | ⟨_,_,h5,_⟩
   · omega
   · rw [ht,ha'] at h5;cases h5
  | @next k2 h3 h4 =>
   have hr':=B.reach a0' a1' h3
   have:=B.b3 k1 k2 (by omega) hr.2 (by omega) hr'.2 h2 ht
   subst this
   exact ih h3
theorem BP.total (B:BP L rs bh jo) : ∀ n:Nat,∀ k:Int,0≤k→k < n→k < Z0 rs→∃ a:Int,0≤a∧a≤k∧Z1 false jo a=false∧Reach bh a k:=by
 intro n
 induction n with
 | zero=>intro k k0 k1;omega
 | succ n ih =>
  intro k k0 k1 k2
  cases hj:Z1 false jo k with
  | false=>exact ⟨k,k0,by omega,hj,.here⟩
  | true =>
   obtain ⟨k',h0,h1,rfl⟩:=B.b2 k k0 k2 hj
   rcases B.b1 k' h0 h1 with h | ⟨h3,_⟩
   · omega
   · obtain ⟨a,a0,a1,a2,a3⟩:=ih k' h0 (by omega) h1
     exact ⟨a,a0,by omega,a2,.next a3 k0⟩
end
theorem inc_len {S:List Int} {n:Int} (h : ∀ j j',0≤j→j < j'→j' < Z0 S→Z1 0 S j < Z1 0 S j') (h0 : ∀ j,0≤j→j < Z0 S→0≤Z1 0 S j∧Z1 0 S j < n) (n0:0≤n):Z0 S≤n:=by
 have hj : ∀ m:Nat,(m:Int) < Z0 S→(m:Int)≤Z1 0 S m:=fun m=>by
  induction m with
  | zero=>intro h1;exact (h0 0 (by omega) (by omega)).1
  | succ m ih =>
   intro h1
   have e:((m+1:Nat):Int)=(m:Int)+1:=by omega
   rw [e] at h1 ⊢
   have:=h m (m+1) (by omega) (by omega) (by omega)
   have:=ih (by omega)
   omega
 by_cases hp:0 < Z0 S
 · have h1:=hj (Z0 S-1).toNat (by omega)
   have h2:=(h0 (Z0 S-1) (by omega) (by omega)).2
   have e:((Z0 S-1).toNat:Int)=Z0 S-1:=by omega
   rw [e] at h1
   omega
 · omega
structure SeqOf (L:List Int) (rs:List (List Int)) (bh:List Int) (a:Int) (S:List Int):Prop where
 ne:0 < Z0 S
 hd:Z1 0 S 0=Z1 0 (Z1 [] rs a) 0
 inc : ∀ j j',0≤j→j < j'→j' < Z0 S→Z1 0 S j < Z1 0 S j'
 lev : ∀ j,0≤j→j < Z0 S→Z1 0 L (Z1 0 S j)=Z1 0 L (Z1 0 (Z1 [] rs a) 0)
 el : ∀ j,0≤j→j < Z0 S→∃ k q,Reach bh a k∧0≤k∧k < Z0 rs∧0≤q∧q < Z0 (Z1 [] rs k)∧Z1 0 S j=Z1 0 (Z1 [] rs k) q
 cov : ∀ k,Reach bh a k→∀ q,0≤q→q < Z0 (Z1 [] rs k)→∃ j,0≤j∧j < Z0 S∧Z1 0 S j=Z1 0 (Z1 [] rs k) q
structure SeqsP (L:List Int) (R:List Bool) (n:Int) (out:List (List Int)):Prop where
 s1 : ∀ i,0≤i→i < Z0 out→0 < Z0 (Z1 [] out i)∧Z0 (Z1 [] out i)≤n
 s2 : ∀ i i',0≤i→i < i'→i' < Z0 out→Z1 0 (Z1 [] out i) 0 < Z1 0 (Z1 [] out i') 0
 s3 : ∀ i j,0≤i→i < Z0 out→0≤j→j < Z0 (Z1 [] out i)→0≤Z1 0 (Z1 [] out i) j∧Z1 0 (Z1 [] out i) j < n∧Z1 false R (Z1 0 (Z1 [] out i) j)=false∧Z1 0 L (Z1 0 (Z1 [] out i) j)=Z1 0 L (Z1 0 (Z1 [] out i) 0)
 s4 : ∀ i j j',0≤i→i < Z0 out→0≤j→j < j'→j' < Z0 (Z1 [] out i)→Z1 0 (Z1 [] out i) j < Z1 0 (Z1 [] out i) j'
 s5 : ∀ i j i' j',0≤i→i < Z0 out→0≤j→j < Z0 (Z1 [] out i)→0≤i'→i' < Z0 out→0≤j'→j' < Z0 (Z1 [] out i')→Z1 0 (Z1 [] out i) j=Z1 0 (Z1 [] out i') j'→i=i'∧j=j'
 s6 : ∀ x,0≤x→x < n→Z1 false R x=false→∃ i j,0≤i∧i < Z0 out∧0≤j∧j < Z0 (Z1 [] out i)∧Z1 0 (Z1 [] out i) j=x
 s7:Z0 out≤n
structure OutI (L:List Int) (rs:List (List Int)) (bh:List Int) (jo:List Bool) (v:Int) (out:List (List Int)) (A:List Int):Prop where
 ln:Z0 A=Z0 out
 lv:Z0 out≤v
 rt : ∀ i,0≤i→i < Z0 out→0≤Z1 0 A i∧Z1 0 A i < v∧Z1 false jo (Z1 0 A i)=false∧SeqOf L rs bh (Z1 0 A i) (Z1 [] out i)
 inc : ∀ i i',0≤i→i < i'→i' < Z0 out→Z1 0 A i < Z1 0 A i'
 cov : ∀ a,0≤a→a < v→Z1 false jo a=false→∃ i,0≤i∧i < Z0 out∧Z1 0 A i=a
theorem OutI.fin {L:List Int} {R:List Bool} {n:Int} {rs:List (List Int)} {bh:List Int} {jo:List Bool} {out:List (List Int)} {A:List Int} (n0:0≤n) (H:Z53 L R n rs) (B:BP L rs bh jo) (O:OutI L rs bh jo (Z0 rs) out A):SeqsP L R n out:=by
 have huq : ∀ k q k' q',0≤k→k < Z0 rs→0≤q→q < Z0 (Z1 [] rs k)→0≤k'→k' < Z0 rs→0≤q'→q' < Z0 (Z1 [] rs k')→Z1 0 (Z1 [] rs k) q=Z1 0 (Z1 [] rs k') q'→k=k':=by
  intro k q k' q' k0 k1 q0 q1 k0' k1' q0' q1' he
  by_cases h1:k < k'
  · have:=H.ord k k' q q' k0 h1 k1' q0 q1 q0' q1';omega
  · by_cases h2:k' < k
    · have:=H.ord k' k q' q k0' h2 k1 q0' q1' q0 q1;omega
    · omega
 have h3 : ∀ i j,0≤i→i < Z0 out→0≤j→j < Z0 (Z1 [] out i)→0≤Z1 0 (Z1 [] out i) j∧Z1 0 (Z1 [] out i) j < n∧Z1 false R (Z1 0 (Z1 [] out i) j)=false:=by
  intro i j i0 i1 j0 j1
  obtain ⟨_,_,_,S⟩:=O.rt i i0 i1
  obtain ⟨k,q,_,k0,k1,q0,q1,e⟩:=S.el j j0 j1
  rw [e]
  exact H.rng k q k0 k1 q0 q1
 refine ⟨fun i i0 i1=>?_,fun i i' i0 i1 i2=>?_,fun i j i0 i1 j0 j1=>?_,fun i j j' i0 i1 j0 j1 j2=>?_,fun i j i' j' i0 i1 j0 j1 i0' i1' j0' j1' he=>?_,fun x x0 x1 hx=>?_,by have:=O.lv;have:=H.ln;omega⟩
 · obtain ⟨_,_,_,S⟩:=O.rt i i0 i1
   exact ⟨S.ne,inc_len S.inc (fun j j0 j1=>⟨(h3 i j i0 i1 j0 j1).1,(h3 i j i0 i1 j0 j1).2.1⟩) n0⟩
 · obtain ⟨a0,a1,_,S⟩:=O.rt i i0 (by omega)
   obtain ⟨a0',a1',_,S'⟩:=O.rt i' (by omega) i2
   rw [S.hd,S'.hd]
   exact H.ord _ _ 0 0 a0 (O.inc i i' i0 i1 i2) a1' (by omega) (H.lk _ a0 a1).1 (by omega) (H.lk _ a0' a1').1
 · obtain ⟨x,y,z⟩:=h3 i j i0 i1 j0 j1
   obtain ⟨_,_,_,S⟩:=O.rt i i0 i1
   exact ⟨x,y,z,by rw [S.lev j j0 j1,S.hd]⟩
 · obtain ⟨_,_,_,S⟩:=O.rt i i0 i1
   exact S.inc j j' j0 j1 j2
 · obtain ⟨a0,a1,a2,S⟩:=O.rt i i0 i1
   obtain ⟨a0',a1',a2',S'⟩:=O.rt i' i0' i1'
   obtain ⟨k,q,r1,k0,k1,q0,q1,e⟩:=S.el j j0 j1
   obtain ⟨k',q',r1',k0',k1',q0',q1',e'⟩:=S'.el j' j0' j1'
   have:=huq k q k' q' k0 k1 q0 q1 k0' k1' q0' q1' (by rw [← e,← e',he])
   subst this
   have ha:=B.root a0 a1 a2 a0' a1' a2' r1 r1'
   have hii:i=i':=by
    by_cases h1:i < i'
    · have:=O.inc i i' i0 h1 i1';omega
    · by_cases h2:i' < i
      · have:=O.inc i' i i0' h2 i1;omega
      · omega
   subst hii
   refine ⟨rfl,?_⟩
   by_cases h1:j < j'
   · have:=S.inc j j' j0 h1 j1';omega
   · by_cases h2:j' < j
     · have:=S.inc j' j j0' h2 j1;omega
     · omega
 · obtain ⟨k,q,k0,k1,q0,q1,e⟩:=H.cov x x0 x1 hx
   obtain ⟨a,a0,a1,a2,a3⟩:=B.total (k+1).toNat k k0 (by omega) k1
   obtain ⟨i,i0,i1,hi⟩:=O.cov a a0 (by omega) a2
   obtain ⟨_,_,_,S⟩:=O.rt i i0 i1
   obtain ⟨j,j0,j1,ej⟩:=S.cov k (by rw [hi];exact a3) q q0 q1
   exact ⟨i,j,i0,i1,j0,j1,by rw [ej,e]⟩
theorem chain_yields {L:List Int} {R:List Bool} {n:Int} {rs:List (List Int)} {bh:List Int} {jo:List Bool} {γ:Type} (n0:0≤n) (hn2:n≤100000) (H:Z53 L R n rs) (B:BP L rs bh jo) {a:Int} (a0:0≤a) (a1:a < Z0 rs) :
  Zd (loopO (fun ((at',seq1):Int × List Int) =>
   Z7 (decide (0≤at'))
    (chk (0≤at'∧at' < (Z0 rs)) <|
     chk (Yt 8 ((Z0 seq1)+(Z0 (Z1 [] rs (0+at'))))) <|
     chk (0≤at'∧at' < (Z0 rs)) <|
     let at'1:=(Z1 0 bh (0+at'))
     some (.go (at'1,(seq1++(Z1 [] rs (0+at'))))))
    (some (.out (Fl.go (γ:=γ) seq1)))) (a,([]:List Int))) (fun r=>∃ S,r = .go S∧SeqOf L rs bh a S):=by
 refine .loop (fun x=>(x.1 = -1∨(a≤x.1∧x.1 < Z0 rs∧Reach bh a x.1∧Z1 0 L (Z1 0 (Z1 [] rs x.1) 0)=Z1 0 L (Z1 0 (Z1 [] rs a) 0)))
  ∧(x.1=a∧x.2=[]∨x.1≠a∧0 < Z0 x.2∧Z1 0 x.2 0=Z1 0 (Z1 [] rs a) 0)
  ∧(∀ j j',0≤j→j < j'→j' < Z0 x.2→Z1 0 x.2 j < Z1 0 x.2 j')
  ∧(∀ j,0≤j→j < Z0 x.2→Z1 0 L (Z1 0 x.2 j)=Z1 0 L (Z1 0 (Z1 [] rs a) 0)∧∃ k q,Reach bh a k∧0≤k∧k < Z0 rs∧(x.1 = -1∨k < x.1)∧0≤q∧q < Z0 (Z1 [] rs k)∧Z1 0 x.2 j=Z1 0 (Z1 [] rs k) q)
  ∧(∀ k,Reach bh a k→(0≤x.1∧Reach bh x.1 k)∨∀ q,0≤q→q < Z0 (Z1 [] rs k)→∃ j,0≤j∧j < Z0 x.2∧Z1 0 x.2 j=Z1 0 (Z1 [] rs k) q))
  (fun x=>if x.1 = -1 then 0 else (Z0 rs-x.1).toNat)
  ⟨.inr ⟨by simp only;omega,a1,.here,rfl⟩,.inl ⟨rfl,rfl⟩,fun j j' j0 j1 j2=>by simp at j2;omega,fun j j0 j1=>by simp at j1;omega,fun k hk=>.inl ⟨a0,hk⟩⟩ ?_
 rintro ⟨t,s⟩ ⟨h1,h2,h3,h4,h5⟩
 simp only at h1 h2 h3 h4 h5 ⊢
 have sn:=Zc s
 refine .ite (fun h=>?_) (fun h=>?_)
 · have h:0≤t:=by simpa using h
   rcases h1 with h1 | ⟨t0,t1,t2,t3⟩
   · omega
   simp only [Int.zero_add]
   have hk:=H.lk t h t1
   have hrng : ∀ j,0≤j→j < Z0 s→0≤Z1 0 s j∧Z1 0 s j < n:=fun j j0 j1=>by
    obtain ⟨_,k,q,_,k0,k1,_,q0,q1,e⟩:=h4 j j0 j1
    rw [e]
    obtain ⟨x,y,_⟩:=H.rng k q k0 k1 q0 q1
    exact ⟨x,y⟩
   have hsl:=inc_len h3 hrng n0
   have hcase : ∀ j,0≤j→j < Z0 s+Z0 (Z1 [] rs t)→(j < Z0 s∧Z1 0 (s++Z1 [] rs t) j=Z1 0 s j)∨(Z0 s≤j∧Z1 0 (s++Z1 [] rs t) j=Z1 0 (Z1 [] rs t) (j-Z0 s)):=fun j j0 j1=>by
    rw [Yi j0]
    by_cases e:j < Z0 s
    · rw [if_pos e];exact .inl ⟨e,rfl⟩
    · rw [if_neg e];exact .inr ⟨by omega,rfl⟩
   have hlen:Z0 (s++Z1 [] rs t)=Z0 s+Z0 (Z1 [] rs t):=by simp
   refine .chk ⟨h,t1⟩ (.chk (grOk (by omega) (by omega) (by omega)) (.chk ⟨h,t1⟩ (.ret ⟨⟨?_,?_,fun j j' j0 j1 j2=>?_,fun j j0 j1=>?_,fun k hkr=>?_⟩,?_⟩)))
   · rcases B.b1 t h t1 with hb | ⟨b1,b2,b3,b4⟩
     · exact .inl hb
     · exact .inr ⟨by simp only;omega,b2,.next t2 (by omega),by simp only;rw [b4,t3]⟩
   · right
     refine ⟨?_,by simp only;omega,?_⟩
     · rcases B.b1 t h t1 with hb | ⟨b1,b2,b3,b4⟩<;>simp only<;>omega
     · simp only
       rcases h2 with ⟨e1,e2⟩ | ⟨_,e2,e3⟩
       · rw [e2,e1];rfl
       · rw [Yi (by omega),if_pos e2];exact e3
   · simp only at j2 ⊢
     rw [hlen] at j2
     rcases hcase j j0 (by omega) with ⟨c1,c2⟩ | ⟨c1,c2⟩
     · rw [c2]
       rcases hcase j' (by omega) j2 with ⟨d1,d2⟩ | ⟨d1,d2⟩<;>rw [d2]
       · exact h3 j j' j0 j1 d1
       · obtain ⟨_,k,q,_,k0,k1,kt,q0,q1,e⟩:=h4 j j0 c1
         rw [e]
         exact H.ord k t q (j'-Z0 s) k0 (by omega) t1 q0 q1 (by omega) (by omega)
     · rw [c2]
       rcases hcase j' (by omega) j2 with ⟨d1,d2⟩ | ⟨d1,d2⟩
       · omega
       · rw [d2]
         exact H.inc t _ _ h t1 (by omega) (by omega) (by omega)
   · simp only at j1 ⊢
     rw [hlen] at j1
     rcases hcase j j0 j1 with ⟨c1,c2⟩ | ⟨c1,c2⟩<;>rw [c2]
     · obtain ⟨l1,k,q,r,k0,k1,kt,q0,q1,e⟩:=h4 j j0 c1
       refine ⟨l1,k,q,r,k0,k1,?_,q0,q1,e⟩
       rcases B.b1 t h t1 with hb | ⟨b1,b2,b3,b4⟩<;>omega
     · refine ⟨by rw [H.lev t _ h t1 (by omega) (by omega),t3],t,j-Z0 s,t2,h,t1,?_,by omega,by omega,rfl⟩
       rcases B.b1 t h t1 with hb | ⟨b1,b2,b3,b4⟩<;>omega
   · simp only
     have done : ∀ q,0≤q→q < Z0 (Z1 [] rs t)→∃ j,0≤j∧j < Z0 (s++Z1 [] rs t)∧Z1 0 (s++Z1 [] rs t) j=Z1 0 (Z1 [] rs t) q:=fun q q0 q1=>by
      refine ⟨Z0 s+q,by omega,by rw [hlen];omega,?_⟩
      rw [Yi (by omega),if_neg (by omega)]
      have e:Z0 s+q-Z0 s=q:=by omega
      rw [e]
     rcases h5 k hkr with ⟨_,hr⟩ | hd
     · rcases hr.front with rfl | ⟨f1,f2⟩
       · exact .inr done
       · exact .inl ⟨f1,f2⟩
     · refine .inr fun q q0 q1=>?_
       obtain ⟨j,j0,j1,e⟩:=hd q q0 q1
       exact ⟨j,j0,by rw [hlen];omega,by rw [Yi j0,if_pos j1];exact e⟩
   · simp only
     rw [if_neg (show ¬ t = -1 by omega)]
     rcases B.b1 t h t1 with hb | ⟨b1,b2,b3,b4⟩
     · rw [if_pos hb];omega
     · split<;>omega
 · have h:t < 0:=by simpa using h
   have ht:t = -1:=by
    rcases h1 with h1 | ⟨t0,_⟩<;>omega
   refine .ret ⟨s,rfl,?_⟩
   rcases h2 with ⟨e1,_⟩ | ⟨_,e2,e3⟩
   · omega
   · exact ⟨e2,e3,h3,fun j j0 j1=>(h4 j j0 j1).1,fun j j0 j1=>by
      obtain ⟨_,k,q,r,k0,k1,_,q0,q1,e⟩:=h4 j j0 j1
      exact ⟨k,q,r,k0,k1,q0,q1,e⟩,fun k hk=>by
      rcases h5 k hk with ⟨h6,_⟩ | h6
      · omega
      · exact h6⟩
end
section
theorem isolate_eq2 (c:Int):Ql c=some (decide (20≤c∧c≤22)):=by
 unfold Ql
 congr 1
 by_cases h1:c=20
 · subst h1;rfl
 · by_cases h2:c=21
   · subst h2;rfl
   · by_cases h3:c=22
     · subst h3;rfl
     · have e1:(c == 20)=false:=by simpa using h1
       have e2:(c == 21)=false:=by simpa using h2
       have e3:(c == 22)=false:=by simpa using h3
       rw [e1,e2,e3]
       simp only [Bool.false_eq_true,if_false]
       rw [decide_eq_false (by omega)]
theorem seqs_yields {l:List Int} {r:Zn} (base:Int) (hn2:Z0 l≤100000) (F:RunP l r):Zd (Qw l r base) (SeqsP r.fLevels r.fRemoved (Z0 l)):=by
 have hn:=Zc l
 unfold Qw
 refine .call (b:=true) (by unfold Z3a;simp [F.n1,F.n2,F.n3]) ?_
 refine .ite (fun hh=>by cases hh) (fun _=>?_)
 refine .bind _ (match_exact hn2) fun mt hm=>?_
 obtain ⟨hml,hmg⟩:=hm
 obtain ⟨I,_⟩:=mst_inv (l:=l) (Z0 l).toNat (by omega)
 have ev:((Z0 l).toNat:Int)=Z0 l:=by omega
 rw [ev] at I
 have hlv:=F.lv
 generalize (mst l (Z0 l).toNat).1=mo at I
 generalize (mst l (Z0 l).toNat).2=M at *
 refine .bind _ (runs_yields hn2 F) fun rs H=>?_
 have rn:=Zc rs
 have rl:=H.ln
 simp only [Int.zero_add]
 refine .chk (Zm (by omega) (by omega)) (.chk (mkOk (by omega) (by omega) (by omega)) ?_)
 refine .cut (fun q=>∃ hd,q = .go hd∧Z0 hd=Z0 l+1∧∀ x,0≤x→x < Z0 l+1→Z1 0 hd x = -1) ?_ ?_
 · refine .loop (fun x=>0≤x.1∧x.1≤Z0 l+1∧Z0 x.2=Z0 l+1∧∀ i,0≤i→i < x.1→Z1 0 x.2 i = -1) (fun x=>(Z0 l+1-x.1).toNat) ⟨by simp only;omega,by simp only;omega,Y3 _ (by omega),fun i i0 i1=>by simp only at i1;omega⟩ ?_
   rintro ⟨v,hd⟩ ⟨v0,v1,hl,hg⟩
   simp only at v0 v1 hl hg ⊢
   refine .ite (fun h=>?_) (fun h=>?_)
   · have h:v < Z0 l+1:=by simpa using h
     refine .chk ⟨v0,h⟩ (.chk (Zm (by omega) (by omega)) (.ret ⟨⟨by simp only;omega,by simp only;omega,by simp [hl],fun i i0 i1=>?_⟩,by simp only;omega⟩))
     simp only at i1 ⊢
     rw [Zk v0 i0 (by omega)]
     split
     · rfl
     · exact hg i i0 (by omega)
   · have h:Z0 l+1≤v:=by simpa using h
     exact .ret ⟨hd,rfl,hl,fun x x0 x1=>hg x x0 (by omega)⟩
 rintro q ⟨hd,rfl,hdl,hdg⟩
 refine .go ?_
 refine .cut (fun q=>∃ hd,q = .go hd∧Z0 hd=Z0 l+1∧∀ x,0≤x→x < Z0 l+1→Z1 0 hd x = -1∨(0≤Z1 0 hd x∧Z1 0 hd x < Z0 rs∧Z1 0 (Z1 [] rs (Z1 0 hd x)) 0=x)) ?_ ?_
 · refine .loop (fun x=>0≤x.1∧x.1≤Z0 rs∧Z0 x.2=Z0 l+1∧∀ i,0≤i→i < Z0 l+1→Z1 0 x.2 i = -1∨(0≤Z1 0 x.2 i∧Z1 0 x.2 i < Z0 rs∧Z1 0 (Z1 [] rs (Z1 0 x.2 i)) 0=i)) (fun x=>(Z0 rs-x.1).toNat) ⟨by simp only;omega,by simp only;omega,hdl,fun i i0 i1=>.inl (hdg i i0 i1)⟩ ?_
   rintro ⟨v,hd⟩ ⟨v0,v1,hl,hg⟩
   simp only at v0 v1 hl hg ⊢
   refine .ite (fun h=>?_) (fun h=>.ret ⟨hd,rfl,hl,hg⟩)
   have h:v < Z0 rs:=by simpa using h
   have hk:=H.lk v v0 h
   have hr:=H.rng v 0 v0 h (by omega) hk.1
   refine .chk ⟨v0,h⟩ (.chk ⟨by omega,hk.1⟩ (.chk ⟨by omega,by omega⟩ (.chk (Zm (by omega) (by omega)) (.ret ⟨⟨by simp only;omega,by simp only;omega,by simp [hl],fun i i0 i1=>?_⟩,by simp only;omega⟩))))
   simp only
   rw [Zk (by omega) i0 (by omega)]
   split
   · rename_i e
     exact .inr ⟨v0,h,e.symm⟩
   · exact hg i i0 i1
 clear hd hdl hdg
 rintro q ⟨hd,rfl,hdl,hdg⟩
 refine .go ?_
 refine .chk (mkOk (by omega) (by omega) (by omega)) (.chk (mkOk (by omega) (by omega) (by omega)) ?_)
 have hE : ∀ k,0≤k→k < Z0 rs→0≤Z1 0 (Z1 [] rs k) (Z0 (Z1 [] rs k)-1)∧Z1 0 (Z1 [] rs k) (Z0 (Z1 [] rs k)-1) < Z0 l:=fun k k0 k1=>by
  have hk:=H.lk k k0 k1
  obtain ⟨x,y,_⟩:=H.rng k (Z0 (Z1 [] rs k)-1) k0 k1 (by omega) (by omega)
  exact ⟨x,y⟩
 generalize hEd:(fun k=>Z1 0 (Z1 [] rs k) (Z0 (Z1 [] rs k)-1))=E
 have hEe : ∀ k,Z1 0 (Z1 [] rs k) (Z0 (Z1 [] rs k)-1)=E k:=fun k=>by rw [← hEd]
 simp only [hEe] at hE ⊢
 refine .cut (fun q=>∃ bh jo,q = .go (bh,jo)∧BP r.fLevels rs bh jo) ?_ ?_
 · refine .loop (fun x=>0≤x.1∧x.1≤Z0 rs∧Z0 x.2.1=Z0 rs∧Z0 x.2.2=Z0 rs∧(∀ k,0≤k→k < x.1→Z1 0 x.2.1 k = -1∨(0≤Z1 0 x.2.1 k∧Z1 0 x.2.1 k < Z0 rs∧Op l (E k)∧M (E k)=Z1 0 (Z1 [] rs (Z1 0 x.2.1 k)) 0∧Z1 false x.2.2 (Z1 0 x.2.1 k)=true))
    ∧(∀ t,0≤t→t < Z0 rs→Z1 false x.2.2 t=true→∃ k,0≤k∧k < x.1∧Z1 0 x.2.1 k=t)) (fun x=>(Z0 rs-x.1).toNat)
    ⟨by simp only;omega,by simp only;omega,Y3 _ rn,Y3 _ rn,fun k k0 k1=>by simp only at k1;omega,fun t t0 t1 ht=>by simp only at ht;rw [Z3u t0 t1] at ht;cases ht⟩ ?_
   rintro ⟨v,bh,jo⟩ ⟨v0,v1,hl,hl2,hk,ht⟩
   simp only at v0 v1 hl hl2 hk ht ⊢
   refine .ite (fun h=>?_) (fun h=>?_)
   · have h:v < Z0 rs:=by simpa using h
     have hkv:=H.lk v v0 h
     obtain ⟨e0,e1⟩:=hE v v0 h
     refine .chk ⟨v0,h⟩ (.chk ⟨v0,h⟩ (.chk (Zm (by omega) (by omega)) (.chk ⟨by omega,by omega⟩ (.chk ⟨e0,e1⟩ ?_))))
     have none:Zd (chk (inR .i64 (v+1)) <| some (Fl.go (γ:=Fl (List Int × List Bool) (List (List Int))) ((v+1),(Yc bh v (-1)),jo))) (StepP (fun x=>0≤x.1∧x.1≤Z0 rs∧Z0 x.2.1=Z0 rs∧Z0 x.2.2=Z0 rs∧(∀ k,0≤k→k < x.1→Z1 0 x.2.1 k = -1∨(0≤Z1 0 x.2.1 k∧Z1 0 x.2.1 k < Z0 rs∧Op l (E k)∧M (E k)=Z1 0 (Z1 [] rs (Z1 0 x.2.1 k)) 0∧Z1 false x.2.2 (Z1 0 x.2.1 k)=true))
     ∧(∀ t,0≤t→t < Z0 rs→Z1 false x.2.2 t=true→∃ k,0≤k∧k < x.1∧Z1 0 x.2.1 k=t)) (fun x=>(Z0 rs-x.1).toNat) (fun q=>∃ bh jo,q = .go (bh,jo)∧BP r.fLevels rs bh jo) (v,bh,jo)):=by
      refine .chk (Zm (by omega) (by omega)) (.ret ⟨⟨by simp only;omega,by simp only;omega,by simp [hl],hl2,fun k k0 k1=>?_,fun t t0 t1 hj=>?_⟩,by simp only;omega⟩)
      · simp only at k1 ⊢
        rw [Zk v0 k0 (by omega)]
        by_cases e:k=v
        · rw [if_pos e];exact .inl rfl
        · rw [if_neg e];exact hk k k0 (by omega)
      · obtain ⟨k,k0,k1,ek⟩:=ht t t0 t1 hj
        refine ⟨k,k0,by simp only;omega,?_⟩
        simp only
        rw [Zk v0 k0 (by omega),if_neg (by omega)];exact ek
     refine .call (isolate_eq2 _) (.ite (fun _=>none) (fun hiso=>?_))
     have hO:Op l (E v):=by simpa [Op] using hiso
     have hM:=hmg (E v) e0 e1
     have hMr:E v < M (E v)∧M (E v)≤Z0 l:=by
      rcases (I.loc (E v) e0 e1).1 hO with h | ⟨h1,h2,_,_⟩<;>omega
     rw [hM]
     refine .chk ⟨e0,by omega⟩ (.chk ⟨by omega,by omega⟩ (.ite (fun hto=>?_) (fun _=>none)))
     have hto:0≤Z1 0 hd (M (E v)):=by simpa using hto
     rcases hdg (M (E v)) (by omega) (by omega) with h1 | ⟨g0,g1,g2⟩
     · omega
     refine .chk ⟨v0,h⟩ (.chk ⟨g0,g1⟩ (.chk (Zm (by omega) (by omega)) (.ret ⟨⟨by simp only;omega,by simp only;omega,by simp [hl],by simp [hl2],fun k k0 k1=>?_,fun t t0 t1 hj=>?_⟩,by simp only;omega⟩)))
     · simp only at k1 ⊢
       rw [Zk v0 k0 (by simp;omega),Zk v0 k0 (by omega)]
       by_cases e:k=v
       · subst e
         rw [if_pos rfl]
         exact .inr ⟨g0,g1,hO,g2.symm,by rw [Zk g0 g0 (by omega),if_pos rfl]⟩
       · rw [if_neg e,if_neg e]
         rcases hk k k0 (by omega) with h | ⟨a1,a2,a3,a4,a5⟩
         · exact .inl h
         · refine .inr ⟨a1,a2,a3,a4,?_⟩
           rw [Zk g0 a1 (by omega)]
           split
           · rfl
           · exact a5
     · simp only at hj ⊢
       rw [Zk g0 t0 (by omega)] at hj
       by_cases e:t=Z1 0 hd (M (E v))
       · refine ⟨v,v0,by omega,?_⟩
         rw [Zk v0 v0 (by simp;omega),if_pos rfl,e]
       · rw [if_neg e] at hj
         obtain ⟨k,k0,k1,ek⟩:=ht t t0 t1 hj
         refine ⟨k,k0,by omega,?_⟩
         rw [Zk v0 k0 (by simp;omega),Zk v0 k0 (by omega),if_neg (by omega),if_neg (by omega)];exact ek
   · have h:Z0 rs≤v:=by simpa using h
     have e:v=Z0 rs:=by omega
     subst e
     refine .ret ⟨bh,jo,rfl,fun k k0 k1=>?_,fun t t0 t1 hj=>?_,fun k k' k0 k1 k0' k1' hb he=>?_⟩
     · rcases hk k k0 k1 with h | ⟨a1,a2,a3,a4,a5⟩
       · exact .inl h
       · obtain ⟨e0,e1⟩:=hE k k0 k1
         have hkk:=H.lk k k0 k1
         have hkb:=H.lk _ a1 a2
         have hrb:=H.rng _ 0 a1 a2 (by omega) hkb.1
         have hMr:E k < M (E k):=by
          rcases (I.loc (E k) e0 e1).1 a3 with h | ⟨h1,h2,_,_⟩<;>omega
         have hEk:=hEe k
         refine .inr ⟨?_,a2,a5,?_⟩
         · by_cases c1:k < Z1 0 bh k
           · exact c1
           · exfalso
             by_cases c2:Z1 0 bh k=k
             · rw [c2] at a4
               by_cases c3:Z0 (Z1 [] rs k)=1
               · rw [c3] at hEk
                 have:Z1 0 (Z1 [] rs k) 0=E k:=hEk
                 omega
               · have:=H.inc k 0 (Z0 (Z1 [] rs k)-1) k0 k1 (by omega) (by omega) (by omega)
                 omega
             · have:=H.ord (Z1 0 bh k) k 0 (Z0 (Z1 [] rs k)-1) a1 (by omega) k1 (by omega) hkb.1 (by omega) (by omega)
               omega
         · rw [← a4,hlv (E k) e0 e1 a3 (by omega),← hEk]
           exact H.lev k _ k0 k1 (by omega) (by omega)
     · exact ht t t0 t1 hj
     · rcases hk k k0 k1 with h | ⟨a1,a2,a3,a4,a5⟩
       · omega
       rcases hk k' k0' k1' with h | ⟨a1',a2',a3',a4',a5'⟩
       · omega
       obtain ⟨e0,e1⟩:=hE k k0 k1
       obtain ⟨e0',e1'⟩:=hE k' k0' k1'
       have hkb:=H.lk _ a1 a2
       have hrb:=H.rng _ 0 a1 a2 (by omega) hkb.1
       have hkk:=H.lk k k0 k1
       have hkk':=H.lk k' k0' k1'
       have eM:M (E k)=M (E k'):=by rw [a4,a4',he]
       have i1:M (M (E k))=E k:=by
        rcases (I.loc (E k) e0 e1).1 a3 with h | ⟨_,_,_,h4⟩
        · omega
        · exact h4
       have i2:M (M (E k'))=E k':=by
        rcases (I.loc (E k') e0' e1').1 a3' with h | ⟨_,_,_,h4⟩
        · omega
        · exact h4
       have eE:E k=E k':=by rw [← i1,← i2,eM]
       have hEk:=hEe k
       have hEk':=hEe k'
       by_cases c1:k < k'
       · have:=H.ord k k' (Z0 (Z1 [] rs k)-1) (Z0 (Z1 [] rs k')-1) k0 c1 k1' (by omega) (by omega) (by omega) (by omega)
         omega
       · by_cases c2:k' < k
         · have:=H.ord k' k (Z0 (Z1 [] rs k')-1) (Z0 (Z1 [] rs k)-1) k0' c2 k1 (by omega) (by omega) (by omega) (by omega)
           omega
         · omega
 rintro q ⟨bh,jo,rfl,B⟩
 refine .go ?_
 refine .cut (fun q=>∃ out,q = .go out∧SeqsP r.fLevels r.fRemoved (Z0 l) out) ?_ (fun q hq=>by obtain ⟨out,rfl,h⟩:=hq;exact .go (.ret h))
 refine .loop (fun x=>0≤x.1∧x.1≤Z0 rs∧∃ A,OutI r.fLevels rs bh jo x.1 x.2 A) (fun x=>(Z0 rs-x.1).toNat) ⟨by simp only;omega,by simp only;omega,[],?_⟩ ?_
 · exact ⟨rfl,by simp,fun i i0 i1=>by simp at i1;omega,fun i i' i0 i1 i2=>by simp at i2;omega,fun a a0 a1=>by simp only at a1;omega⟩
 rintro ⟨v,out⟩ ⟨v0,v1,A,O⟩
 simp only at v0 v1 O ⊢
 refine .ite (fun h=>?_) (fun h=>?_)
 · have h:v < Z0 rs:=by simpa using h
   have on:=Zc out
   have olv:=O.lv
   have oln:=O.ln
   refine .cut (fun q=>∃ out' A',q = .go out'∧OutI r.fLevels rs bh jo (v+1) out' A') ?_ ?_
   · refine .chk ⟨v0,h⟩ (.ite (fun hj=>?_) (fun hj=>?_))
     · refine .ret ⟨out,A,rfl,O.ln,by omega,fun i i0 i1=>?_,O.inc,fun a a0 a1 ha=>?_⟩
       · obtain ⟨x,y,z,w⟩:=O.rt i i0 i1
         exact ⟨x,by omega,z,w⟩
       · by_cases e:a=v
         · subst e;rw [hj] at ha;cases ha
         · exact O.cov a a0 (by omega) ha
     · have hc:=chain_yields (γ:=Fl (List (List Int)) (Fl (Int × List (List Int)) (Fl (List (List Int)) (List (List Int))))) hn hn2 H B v0 h
       simp only [Int.zero_add] at hc
       refine .cut _ hc ?_
       rintro q ⟨S,rfl,hS⟩
       refine .go (.chk (grOk (by omega) (by omega) (by omega)) (.ret ⟨out++[S],A++[v],rfl,by simp;omega,by simp;omega,fun i i0 i1=>?_,fun i i' i0 i1 i2=>?_,fun a a0 a1 ha=>?_⟩))
       · have i1:i < Z0 out+1:=by simpa using i1
         rw [Yi i0,Yi i0,oln]
         by_cases e:i < Z0 out
         · rw [if_pos e,if_pos e]
           obtain ⟨x,y,z,w⟩:=O.rt i i0 e
           exact ⟨x,by omega,z,w⟩
         · rw [if_neg e,if_neg e]
           have e2:i-Z0 out=0:=by omega
           rw [e2]
           exact ⟨v0,by simp only [Q3];omega,hj,hS⟩
       · have i2:i' < Z0 out+1:=by simpa using i2
         rw [Yi i0,Yi (by omega),oln,if_pos (by omega)]
         by_cases e:i' < Z0 out
         · rw [if_pos e];exact O.inc i i' i0 i1 e
         · rw [if_neg e]
           have e2:i'-Z0 out=0:=by omega
           rw [e2]
           exact (O.rt i i0 (by omega)).2.1
       · by_cases e:a=v
         · subst e
           exact ⟨Z0 out,on,by simp;omega,by rw [← oln];exact Qx _ _ _⟩
         · obtain ⟨i,i0,i1,ei⟩:=O.cov a a0 (by omega) ha
           exact ⟨i,i0,by simp;omega,by rw [Yi i0,if_pos (by omega)];exact ei⟩
   · rintro q ⟨out',A',rfl,O'⟩
     exact .go (.chk (Zm (by omega) (by omega)) (.ret ⟨⟨by simp only;omega,by simp only;omega,A',O'⟩,by simp only;omega⟩))
 · have h:Z0 rs≤v:=by simpa using h
   have e:v=Z0 rs:=by omega
   subst e
   exact .ret ⟨out,rfl,O.fin hn H B⟩
end
end Go.Vx
end
section
namespace Go.Vx
set_option maxRecDepth 100000
def Flat (l:List Int):Prop:=∀ i,0≤i→i < Z0 l→1≤Z1 0 l i∧Z1 0 l i≤14
theorem known_flat {l:List Int} (hb:Z0 l≤100000) (hf:Flat l):Z0f l=some l:=by
 have hn:=Zc l
 refine Zd.eq ?_
 unfold Z0f
 refine .chk (mkOk hn (by omega) (by omega)) ?_
 refine .cut (fun r=>r = .go l) ?_ (fun r hr=>by subst hr;exact .go (.ret rfl))
 refine .loop (fun x=>0≤x.1∧x.1≤Z0 l∧Z0 x.2=Z0 l∧∀ i,0≤i→i < x.1→Z1 0 x.2 i=Z1 0 l i) (fun x=>(Z0 l-x.1).toNat)
  ⟨by simp only;omega,by simp only;omega,Y3 _ hn,fun i h0 h1=>by simp only at h1;omega⟩ ?_
 rintro ⟨v,o⟩ ⟨v0,vn,hl,hg⟩
 simp only at v0 vn hl hg ⊢
 refine .ite (fun h=>?_) (fun h=>?_)
 · have h:v < Z0 l:=by simpa using h
   obtain ⟨c0,c1⟩:=hf v v0 h
   refine .chk ⟨v0,h⟩ ?_
   refine .ite (fun h2=>?_) (fun _=>?_)
   · simp at h2;omega
   · refine .chk ⟨v0,h⟩ (.chk (Zm (by omega) (by omega)) (.ret ⟨⟨by simp only;omega,by simp only;omega,by simp [hl],fun i i0 i1=>?_⟩,by simp only;omega⟩))
     simp only at i1 ⊢
     rw [Zk v0 i0 (by omega)]
     split
     · rename_i he;rw [he]
     · exact hg i i0 (by omega)
 · have h:Z0 l≤v:=by simpa using h
   have e:v=Z0 l:=by omega
   subst e
   refine .ret ?_
   have:o=l:=extL 0 hl fun i i0 i1=>hg i i0 (by omega)
   rw [this]
   exact rfl
theorem parity_flat {b:Int} (hb:b=0∨b=1):Xp b=some b:=by
 unfold Xp
 rw [Yp (by decide)]
 rcases hb with rfl | rfl<;>decide
theorem ss_last_one (s:Y8):Z1q ⟨[s]⟩=some s:=by
 unfold Z1q
 rw [Yp (Zm (by simp) (by simp)),Yp (by simp)]
 rfl
theorem take_flat {l mt:List Int} {b:Int} {o8 o9:List Int} {o10:List Bool} {i:Int} (i0:0≤i) (i1:i < Z0 o8) :
  Z69 ⟨l,mt,b,⟨o8,o9,o10⟩,⟨[⟨b,14,false⟩]⟩,0,0,0⟩ i=some ⟨l,mt,b,⟨Yc o8 i b,o9,o10⟩,⟨[⟨b,14,false⟩]⟩,0,0,0⟩:=by
 unfold Z69
 simp only [ss_last_one]
 show (chk _ _)=_
 rw [Yp ⟨i0,i1⟩]
 rfl
theorem remove_flat {l mt:List Int} {b:Int} {o8 o9:List Int} {o10:List Bool} {i:Int} (i0:0≤i) (i1:i < Z0 o8) (i2:i < Z0 o10) :
  Z2g ⟨l,mt,b,⟨o8,o9,o10⟩,⟨[⟨b,14,false⟩]⟩,0,0,0⟩ i=some ⟨l,mt,b,⟨Yc o8 i b,o9,Yc o10 i true⟩,⟨[⟨b,14,false⟩]⟩,0,0,0⟩:=by
 unfold Z2g
 simp only [ss_last_one]
 show (chk _ _)=_
 rw [Yp ⟨i0,i1⟩,Yp ⟨i0,i2⟩]
structure FlatRun (l:List Int) (b:Int) (r:Zn):Prop where
 n1:Z0 r.fLevels=Z0 l
 lv : ∀ i,0≤i→i < Z0 l→Z1 0 r.fLevels i=b
 cl:r.fClasses=l
 n3:Z0 r.fRemoved=Z0 l
 rm : ∀ i,0≤i→i < Z0 l→Z1 false r.fRemoved i=decide (Z1 0 l i=10)
theorem explicit_flat {l:List Int} {b:Int} (hn2:Z0 l≤100000) (hf:Flat l) (hb:b=0∨b=1):Zd (Xc l b) (FlatRun l b):=by
 have hn:=Zc l
 unfold Xc
 refine .cut (fun r=>∃ mt,r = .go (l,l,mt,b,Z0q (Z0 l) 0,l,Z0q (Z0 l) false,[])) ?_ ?_
 · refine .call (known_flat hn2 hf) ?_
   refine .bind _ (Z44 hn2) fun mt _=>?_
   refine .call (parity_flat hb) ?_
   refine .chk (mkOk hn (by omega) (by omega)) (.chk (grOk hn (by omega) (by omega)) (.chk (mkOk hn (by omega) (by omega)) (.ret ⟨mt,rfl⟩)))
 rintro r ⟨mt,rfl⟩
 refine .go ?_
 refine .call (b:=⟨[⟨b,14,false⟩]⟩) (by unfold Z4b;rw [Yp (grOk (by simp) (by simp) (by omega))];rfl) ?_
 refine .cut (fun r=>∃ A B x y z w L R C S,r = .go (A,B,x,y,z,w,L,C,R,S)∧FlatRun l b ⟨L,C,R⟩) ?_ (by
  rintro r ⟨A,B,x,y,z,w,L,R,C,S,rfl,h⟩
  exact .go (.ret h))
 refine .loop (fun (v1,A,B,x,y,z,w,L,C,R,S)=>0≤v1∧v1≤Z0 l∧A=l∧x=b∧y=0∧z=0∧w=0∧Z0 L=Z0 l∧(∀ i,0≤i→i < v1→Z1 0 L i=b)∧C=l∧Z0 R=Z0 l∧(∀ i,0≤i→i < Z0 l→Z1 false R i=if i < v1 then decide (Z1 0 l i=10) else false)∧S=[⟨b,14,false⟩]) (fun x=>(Z0 l-x.1).toNat)
  ⟨by omega,hn,rfl,rfl,rfl,rfl,rfl,Y3 _ hn,fun i h0 h1=>by omega,rfl,Y3 _ hn,fun i h0 h1=>by rw [if_neg (by omega)];exact Z3u h0 h1,rfl⟩ ?_
 rintro ⟨v,A,B,x,y,z,w,L,C,R,S⟩ ⟨v0,vn,rfl,rfl,rfl,rfl,rfl,n1,lv,rfl,n3,rm,rfl⟩
 refine .ite (fun h=>?_) (fun h=>?_)
 · have h:v < Z0 C:=by simpa using h
   obtain ⟨c0,c1⟩:=hf v v0 h
   refine .cut (fun r=>∃ L' R',r = .go (C,B,x,0,0,0,L',C,R',[⟨x,14,false⟩])∧L'=Yc L v x∧R'=(if Z1 0 C v=10 then Yc R v true else R)) ?_ ?_
   · refine .chk ⟨v0,h⟩ ?_
     refine .cut (fun r=>r = .go false) ?_ ?_
     · refine .ite (fun hh=>by simp at hh;omega) (fun _=>.ite (fun hh=>by simp at hh;omega) (fun _=>.ite (fun hh=>by simp at hh;omega) (fun _=>.ret ?_)))
       have:(Z1 0 C v == 16)=false:=by simp;omega
       rw [this]
     rintro r rfl
     refine .go (.ite (fun hh=>by cases hh) (fun _=>?_))
     refine .cut (fun r=>r = .go false) ?_ ?_
     · refine .ite (fun hh=>by simp at hh;omega) (fun _=>.ite (fun hh=>by simp at hh;omega) (fun _=>.ret ?_))
       have:(Z1 0 C v == 22)=false:=by simp;omega
       rw [this]
     rintro r rfl
     refine .go (.ite (fun hh=>by cases hh) (fun _=>?_))
     refine .ite (fun hh=>by simp at hh;omega) (fun _=>.ite (fun hh=>by simp at hh;omega) (fun _=>?_))
     refine .ite (fun hh=>?_) (fun _=>.ite (fun hh=>?_) (fun hh=>?_))
     · refine .chk ⟨v0,by omega⟩ (.ret ⟨_,_,rfl,rfl,?_⟩)
       rw [if_neg (by simp at hh;omega)]
     · refine .call (remove_flat v0 (by omega) (by omega)) (.ret ⟨_,_,rfl,rfl,?_⟩)
       rw [if_pos (by simpa using hh)]
     · refine .call (take_flat v0 (by omega)) (.ret ⟨_,_,rfl,rfl,?_⟩)
       rw [if_neg (by simpa using hh)]
   · rintro r ⟨L',R',rfl,rfl,rfl⟩
     refine .go (.chk (Zm (by omega) (by omega)) (.ret ⟨⟨by omega,by omega,rfl,rfl,rfl,rfl,rfl,by simp [n1],fun i i0 i1=>?_,rfl,?_,fun i i0 i1=>?_,rfl⟩,by simp only;omega⟩))
     · rw [Zk v0 i0 (by omega)]
       split
       · rfl
       · exact lv i i0 (by omega)
     · split<;>simp [n3]
     · by_cases he:i=v
       · subst he
         rw [if_pos (show i < i+1 by omega)]
         by_cases h10:Z1 0 C i=10
         · rw [if_pos h10,Zk v0 i0 (by omega),if_pos rfl];simp [h10]
         · rw [if_neg h10,rm i i0 i1,if_neg (show ¬ i < i by omega)];simp [h10]
       · have e1:Z1 false (if Z1 0 C v=10 then Yc R v true else R) i=Z1 false R i:=by
          split
          · rw [Zk v0 i0 (by omega),if_neg he]
          · rfl
         rw [e1,rm i i0 i1]
         by_cases hh:i < v
         · rw [if_pos hh,if_pos (by omega)]
         · rw [if_neg hh,if_neg (by omega)]
 · have h:Z0 C≤v:=by simpa using h
   have e:v=Z0 C:=by omega
   subst e
   exact .ret ⟨_,_,_,_,_,_,_,_,_,_,rfl,n1,lv,rfl,n3,fun i i0 i1=>by rw [rm i i0 i1,if_pos i1]⟩
end Go.Vx
end
section
namespace Go.Vx
set_option maxRecDepth 100000
variable {k mt:List Int} {b v:Int} {m m':Mch}
def AllB (b:Int) (o:List Sts):Prop:=∀ s∈o,b≤s.flevel
theorem lastS_mem {o:List Sts} (h:0 < Z0 o):Yv o∈o:=by
 obtain ⟨hi,e⟩:=getL_eq (d:=Zr) (show 0≤Z0 o-1 by omega) (show Z0 o-1 < Z0 o by omega)
 unfold Yv
 rw [e];exact List.getElem_mem _
theorem initS_sub {o:List Sts} {s:Sts} (h:s∈Qp o):s∈o:=by
 unfold Qp Xx at h
 first | exact List.mem_of_mem_drop (List.mem_of_mem_take h) | exact List.mem_of_mem_take (List.mem_of_mem_drop h)
theorem popI_sub : ∀ (n:Nat) {o:List Sts} {s:Sts},s∈popI n o→s∈o
 | 0,_,_,h=>h
 | n+1,o,s,h=>by
  unfold popI at h
  split at h
  · exact h
  · exact initS_sub (popI_sub n h)
theorem upL_ge (x:Int) (odd:Bool):x+1≤upL x odd:=by unfold upL;split<;>omega
structure Bd (k:List Int) (b v:Int) (m:Mch):Prop where
 op:AllB b m.fopen.fl
 lv : ∀ i,0≤i→i < v→b≤Z1 0 m.frun.fLevels i∧Z1 0 m.frun.fLevels i≤125
theorem lev_set (G:Xq k mt b v m) (H:Bd k b v m) (v0:0≤v) (hv:v < Z0 k) (hb:0≤b∧b≤1) {x:Int} (hx:x=b∨x=(Yv m.fopen.fl).flevel) : ∀ i,0≤i→i < v+1→b≤Z1 0 (Yc m.frun.fLevels v x) i∧Z1 0 (Yc m.frun.fLevels v x) i≤125:=by
 intro i i0 i1
 have n1:=G.n1
 rw [Zk v0 i0 (by omega)]
 split
 · rcases hx with rfl | rfl
   · omega
   · exact ⟨H.op _ (lastS_mem G.o0),G.last.2⟩
 · exact H.lv i i0 (by omega)
theorem take_bd (G:Xq k mt b v m) (H:Bd k b v m) (v0:0≤v) (hv:v < Z0 k) (hb:0≤b∧b≤1):Bd k b (v+1) (Z13 m v):=⟨H.op,lev_set G H v0 hv hb (.inr rfl)⟩
theorem remove_bd (G:Xq k mt b v m) (H:Bd k b v m) (v0:0≤v) (hv:v < Z0 k) (hb:0≤b∧b≤1):Bd k b (v+1) (Xo m v):=⟨H.op,lev_set G H v0 hv hb (.inr rfl)⟩
theorem push_bd {w:Int} {s:Sts} (H:AllB b m.fopen.fl) (hs:b≤s.flevel):AllB b (pushM { m with fvalid:=w } s).fopen.fl:=by
 intro x hx
 rcases List.mem_append.1 hx with hx | hx
 · exact H x hx
 · obtain rfl:=List.mem_singleton.1 hx;exact hs
theorem endIso_sub {s:Sts} (h:s∈(Qi m).fopen.fl):s∈m.fopen.fl:=by
 unfold Qi at h
 split at h
 · exact h
 · split at h
   · exact h
   · exact popI_sub _ (initS_sub h)
theorem endEmb_sub {s:Sts} (h:s∈(Z0k m).fopen.fl):s∈m.fopen.fl:=by
 unfold Z0k at h
 split at h
 · exact h
 · split at h
   · exact h
   · split at h
     · exact initS_sub h
     · exact h
theorem bd_step (G:Xq k mt b v m) (v0:0≤v) (hv:v < Z0 k) (hb:0≤b∧b≤1) (H:Bd k b v m) (hs:StepM k mt b v m m'):Bd k b (v+1) m':=by
 have hl:=H.op _ (lastS_mem G.o0)
 rcases hs with ⟨-,c,rfl⟩ | ⟨-,odd,rfl⟩ | ⟨-,rfl⟩ | ⟨-,rfl⟩ | ⟨-,rfl⟩ | ⟨-,rfl⟩ | ⟨-,-,rfl⟩
 · have R:=remove_bd G H v0 hv hb
   refine ⟨?_,by unfold embedM;rw [embedC_run];exact R.lv⟩
   unfold embedM embedC
   split
   · exact push_bd (m:=Xo m v) (w:=(Xo m v).fvalid) R.op (by
      have:=upL_ge (Yv (Xo m v).fopen.fl).flevel (c == 17 || c == 18)
      have hl:b≤(Yv (Xo m v).fopen.fl).flevel:=hl
      simp only;omega)
   · split
     · exact R.op
     · exact R.op
 · have R:=take_bd G H v0 hv hb
   refine ⟨?_,by unfold Z27;rw [isolateC_run];exact R.lv⟩
   unfold Z27 isolateC
   split
   · exact push_bd (m:=Z13 m v) R.op (by
      have:=upL_ge (Yv (Z13 m v).fopen.fl).flevel odd
      have hl:b≤(Yv (Z13 m v).fopen.fl).flevel:=hl
      simp only;omega)
   · exact R.op
 · have H2:Bd k b v (Qi m):=⟨fun s hs=>H.op s (endIso_sub hs),by rw [endIso_run];exact H.lv⟩
   exact take_bd G.endIso H2 v0 hv hb
 · have R:=remove_bd G H v0 hv hb
   exact ⟨fun s hs=>R.op s (endEmb_sub hs),by rw [endEmb_run];exact R.lv⟩
 · exact ⟨H.op,lev_set G H v0 hv hb (.inl rfl)⟩
 · exact remove_bd G H v0 hv hb
 · exact take_bd G H v0 hv hb
theorem explicit_bd {l:List Int} {base b:Int} (hb:Z0 l≤100000) (hp:Xp base=some b) (hb0:0≤b∧b≤1) :
  Zd (Xc l base) (fun r=>∀ i,0≤i→i < Z0 l→b≤Z1 0 r.fLevels i∧Z1 0 r.fLevels i≤125):=by
 obtain ⟨k,hk,hkl,hkg⟩:=known_spec hb
 refine (Z87 hk (by omega) hp hb0 (fun mt v m=>Bd k b v m) (fun mt=>?_) (fun mt v m m' v0 v1 G H hs=>bd_step G v0 v1 hb0 H hs)).mono ?_
 · exact ⟨fun s hs=>by obtain rfl:=List.mem_singleton.1 hs;exact Int.le_refl _,fun i i0 i1=>by omega⟩
 · rintro r ⟨mt,m,rfl,G,H⟩
   rw [hkl] at H
   exact H.lv
end Go.Vx
end
