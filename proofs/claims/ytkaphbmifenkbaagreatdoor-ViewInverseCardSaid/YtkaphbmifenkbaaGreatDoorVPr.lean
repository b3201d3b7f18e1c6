/- WeakPairs, as a plain law: no conditions. -/
import Derived.Test.YtkaphbmifenkbaaGreatDoorVTwA
set_option linter.all false
namespace Go.Vx
open Go.Proofs
set_option maxRecDepth 100000
def Apart (p q:T_Arr2_i64):Prop:=p.x1 < q.x0∨q.x1 < p.x0∨(p.x0 < q.x0∧q.x1 < p.x1)∨(q.x0 < p.x0∧p.x1 < q.x1)
theorem Apart.symm {p q:T_Arr2_i64} (h:Apart p q):Apart q p:=by unfold Apart at *;omega
structure PairOk (r l:List Int) (v:Int) (p:T_Arr2_i64):Prop where
 a0:0≤p.x0
 a1:p.x0 < p.x1
 a2:p.x1 < v
 b0:getL 0 l p.x0=14
 b1:getL 0 l p.x1=14
 k:(braL (getL 0 r p.x0)).2=1
 o:(braL (getL 0 r p.x0)).1=getL 0 r p.x1
theorem PairOk.up {r l:List Int} {v w:Int} {p:T_Arr2_i64} (h:PairOk r l v p) (hw:v≤w):PairOk r l w p:=⟨h.a0,h.a1,by have:=h.a2;omega,h.b0,h.b1,h.k,h.o⟩
structure PI (r l:List Int) (off n v:Int) (op:List Int) (out:List T_Arr2_i64):Prop where
 o0:0≤off
 n0:0≤n
 n1:n≤63
 on:off+n≤lenL op
 e : ∀ k,0≤k→k < n→0≤getL 0 op (off+k)∧getL 0 op (off+k) < v∧getL 0 l (getL 0 op (off+k))=14∧(braL (getL 0 r (getL 0 op (off+k)))).2=1
 inc : ∀ k k',0≤k→k < k'→k' < n→getL 0 op (off+k) < getL 0 op (off+k')
 ok : ∀ p∈out,PairOk r l v p
 ap:out.Pairwise Apart
 free : ∀ p∈out,∀ k,0≤k→k < n→getL 0 op (off+k) < p.x0∨p.x1 < getL 0 op (off+k)
 len:lenL out≤v
theorem PI.next {r l:List Int} {off n v:Int} {op:List Int} {out:List T_Arr2_i64} (H:PI r l off n v op out):PI r l off n (v+1) op out :=
 ⟨H.o0,H.n0,H.n1,H.on,fun k k0 k1=>by obtain ⟨a,b,c,d⟩:=H.e k k0 k1;exact ⟨a,by omega,c,d⟩,H.inc,fun p hp=>(H.ok p hp).up (by omega),H.ap,H.free,by have:=H.len;omega⟩
theorem PI.push {r l:List Int} {off n v:Int} {op:List Int} {out:List T_Arr2_i64} (H:PI r l off n v op out) (v0:0≤v) (hn:n < 63) (h14:getL 0 l v=14) (hk:(braL (getL 0 r v)).2=1) :
  PI r l 0 (n+1) (v+1) (subL op off (off+n)++[v]) out:=by
 have o0:=H.o0;have n0:=H.n0;have on:=H.on
 have hl:lenL (subL op off (off+n))=n:=by rw [lenL_sub (by omega) (by omega) (by omega)];omega
 have hg : ∀ k,0≤k→k < n→getL 0 (subL op off (off+n)++[v]) (0+k)=getL 0 op (off+k):=fun k k0 k1=>by
  rw [Int.zero_add,getL_app k0,if_pos (by omega),getL_sub o0 k0 (by omega)]
 have hv:getL 0 (subL op off (off+n)++[v]) (0+n)=v:=by
  rw [Int.zero_add]
  have:=getL_snoc 0 v (subL op off (off+n))
  rwa [hl] at this
 refine ⟨Int.le_refl _,by omega,by omega,by simp [hl],fun k k0 k1=>?_,fun k k' k0 k1 k2=>?_,fun p hp=>(H.ok p hp).up (by omega),H.ap,fun p hp k k0 k1=>?_,by have:=H.len;omega⟩
 · by_cases e:k=n
   · subst e;rw [hv];exact ⟨v0,by omega,h14,hk⟩
   · rw [hg k k0 (by omega)]
     obtain ⟨a,b,c,d⟩:=H.e k k0 (by omega)
     exact ⟨a,by omega,c,d⟩
 · rw [hg k k0 (by omega)]
   by_cases e:k'=n
   · subst e;rw [hv];exact (H.e k k0 (by omega)).2.1
   · rw [hg k' (by omega) (by omega)];exact H.inc k k' k0 k1 (by omega)
 · by_cases e:k=n
   · subst e;rw [hv];exact .inr (H.ok p hp).a2
   · rw [hg k k0 (by omega)];exact H.free p hp k k0 (by omega)
theorem PI.pop {r l:List Int} {off n v:Int} {op:List Int} {out:List T_Arr2_i64} (H:PI r l off n v op out) {m:Int} (m0:0≤m) (m1:m < n) (h14:getL 0 l v=14) (ho:(braL (getL 0 r (getL 0 op (off+m)))).1=getL 0 r v) :
  PI r l (off+0) (m-0) (v+1) op (out++[⟨getL 0 op (off+m),v⟩]):=by
 obtain ⟨a,b,c,d⟩:=H.e m m0 m1
 rw [Int.add_zero,Int.sub_zero]
 refine ⟨H.o0,m0,by have:=H.n1;omega,by have:=H.on;omega,fun k k0 k1=>?_,fun k k' k0 k1 k2=>H.inc k k' k0 k1 (by omega),fun p hp=>?_,?_,fun p hp k k0 k1=>?_,by have:=H.len;simp;omega⟩
 · obtain ⟨a,b,c,d⟩:=H.e k k0 (by omega)
   exact ⟨a,by omega,c,d⟩
 · rcases List.mem_append.1 hp with hp | hp
   · exact (H.ok p hp).up (by omega)
   · obtain rfl:=List.mem_singleton.1 hp
     exact ⟨a,b,by show v < v+1;omega,c,h14,d,ho⟩
 · rw [List.pairwise_append]
   refine ⟨H.ap,List.pairwise_singleton _ _,fun p hp q hq=>?_⟩
   obtain rfl:=List.mem_singleton.1 hq
   have h1:=(H.ok p hp).a2
   have h2:=H.free p hp m m0 m1
   unfold Apart
   simp only
   omega
 · rcases List.mem_append.1 hp with hp | hp
   · exact H.free p hp k k0 (by omega)
   · obtain rfl:=List.mem_singleton.1 hp
     exact .inl (H.inc k m k0 k1 m1)
structure PairsP (r l:List Int) (p:List T_Arr2_i64):Prop where
 ok : ∀ q∈p,PairOk r l (lenL l) q
 ap:p.Pairwise Apart
 so:p.Pairwise fun a b=>a.x0≤b.x0
 len:lenL p≤lenL l
theorem pairs_yields {r l:List Int} (hb:lenL l≤100000):Yields (weak_Pairs dLoad r l) (fun p=>PairsP r l p∧(lenL r≠lenL l→p=[])):=by
 have hn:=lenL_nn l
 have nil:PairsP r l []:=⟨fun q hq=>(by cases hq),List.Pairwise.nil,List.Pairwise.nil,by simpa using hn⟩
 unfold weak_Pairs
 refine .ite (fun _=>.ret ⟨nil,fun _=>rfl⟩) (fun h=>?_)
 have hrl:lenL r=lenL l:=by simpa using h
 clear h
 refine .cut (fun q=>(q = .out [])∨∃ out off n op,q = .go out∧PI r l off n (lenL l) op out) ?_ ?_
 · refine .loop (fun (off,n,v,op,out)=>v≤lenL l∧0≤v∧PI r l off n v op out) (fun x=>(lenL l-x.2.2.1).toNat)
    ⟨hn,by omega,⟨by omega,by omega,by omega,by simp,fun k k0 k1=>(by omega),fun k k' k0 k1 k2=>(by omega),fun p hp=>(by cases hp),List.Pairwise.nil,fun p hp=>(by cases hp),by simp⟩⟩ ?_
   rintro ⟨off,n,v,op,out⟩ ⟨v1,v0,H⟩
   refine .ite (fun h=>?_) (fun h=>?_)
   · have h:v < lenL l:=by simpa using h
     refine .cut (fun q=>(q = .out (.out (.out [])))∨∃ off n op out,q = .go (off,n,op,out)∧PI r l off n (v+1) op out) ?_ ?_
     · refine .chk ⟨v0,h⟩ ?_
       refine .ite (fun _=>.ret (.inr ⟨off,n,op,out,rfl,H.next⟩)) (fun h14=>?_)
       have h14:getL 0 l v=14:=by simpa using h14
       refine .chk ⟨v0,by omega⟩ (.call (bracket_L _) ?_)
       have o0:=H.o0;have n0:=H.n0;have n1:=H.n1;have on:=H.on
       refine .ite (fun h1=>.ite (fun _=>.ret (.inl rfl)) (fun h63=>?_)) (fun h1=>.ite (fun h2=>?_) (fun _=>.ret (.inr ⟨off,n,op,out,rfl,H.next⟩)))
       · have h1:(braL (getL 0 r v)).2=1:=by simpa using h1
         have h63:n≠63:=by simpa using h63
         exact .chk ⟨o0,n0,on⟩ (.chk (grOk (by omega) (by omega) (by omega)) (.ret (.inr ⟨_,_,_,_,rfl,H.push v0 (by omega) h14 h1⟩)))
       · have h2:(braL (getL 0 r v)).2=2:=by simpa using h2
         have hbm:(braL (braL (getL 0 r v)).1).1=getL 0 r v:=by
          rcases braL_mem (getL 0 r v) with e | e
          · rw [e] at h2;cases h2
          · exact e.2.1
         refine .chk (inR64 (by omega) (by omega)) ?_
         refine .loop (fun m=>-1≤m∧m < n) (fun m=>(m+1).toNat) ⟨by omega,by omega⟩ ?_
         rintro m ⟨m0,m1⟩
         refine .ite (fun hm=>?_) (fun _=>.ret (.inr ⟨off,n,op,out,rfl,H.next⟩))
         have hm:0≤m:=by simpa using hm
         obtain ⟨a,b,c,d⟩:=H.e m hm m1
         have hlen:=H.len
         have:=lenL_nn out
         refine .chk ⟨hm,m1⟩ (.chk ⟨a,by omega⟩ (.ite (fun he=>?_) (fun _=>.chk (inR64 (by omega) (by omega)) (.ret ⟨⟨by omega,by omega⟩,by simp only;omega⟩))))
         have he:getL 0 r (getL 0 op (off+m))=(braL (getL 0 r v)).1:=by simpa using he
         exact .chk ⟨hm,m1⟩ (.chk (grOk (by omega) (by omega) (by omega)) (.chk ⟨by omega,by omega,by omega⟩ (.ret (.inr ⟨_,_,_,_,rfl,H.pop hm m1 h14 (by rw [he];exact hbm)⟩))))
     · rintro q (rfl | ⟨off,n,op,out,rfl,H2⟩)
       · exact .out (.inl rfl)
       · exact .go (.chk (inR64 (by omega) (by omega)) (.ret ⟨⟨by omega,by omega,H2⟩,by simp only;omega⟩))
   · have h:lenL l≤v:=by simpa using h
     have e:v=lenL l:=by omega
     subst e
     exact .ret (.inr ⟨out,off,n,op,rfl,H⟩)
 · rintro q (rfl | ⟨out,off,n,op,rfl,H⟩)
   · exact .out ⟨nil,fun _=>rfl⟩
   · refine .go ?_
     have hs:=sortPairs_ex (x:=out) (by have:=H.len;omega) (fun p hp=>by have:=H.ok p hp;have:=this.a0;have:=(H.ok p hp).a1;have:=(H.ok p hp).a2;omega)
     obtain ⟨p,hp⟩:=hs
     obtain ⟨p1,p2⟩:=sortPairs_perm hp
     have pl:=sortPairs_len hp
     refine .call hp (.chk pl (.ret ⟨⟨fun q hq=>H.ok q (p1.mem_iff.1 hq),(p1.pairwise_iff (fun h=>Apart.symm h)).2 H.ap,p2,by have:=H.len;omega⟩,fun hh=>absurd hrl hh⟩))
end Go.Vx
