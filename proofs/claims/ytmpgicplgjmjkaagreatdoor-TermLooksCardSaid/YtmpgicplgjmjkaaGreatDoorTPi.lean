/- Walks, by program (lift5.py): the code does what the lifted functions say. -/
import Derived.Test.YtmpgicplgjmjkaaGreatDoorTHead
import Derived.Tactics
import Derived.Tactics2
import Derived.Deep.RegionWith
import Derived.RegionTactic
import Derived.BigRegion
import Derived.WalkKit
import Derived.OwnWalkIn
import Derived.Shelf.Abstract
import Derived.Laws.OwnMore
import Derived.Deep.Onto
import Derived.Maps.AppendAt
import Derived.Deep.RegionLawGrows
set_option linter.all false
section
namespace Go.Vx
open Go.Proofs
set_option maxRecDepth 100000
set_option maxHeartbeats 8000000
set_option linter.unusedVariables false
set_option linter.unusedSimpArgs false
attribute [local irreducible] chk aA au aO oH
theorem UK p' r (h:rQ p'=some r):Pf 71 [ag1 aj p'] (vb r):=by
 obtain⟨_,_⟩:=p';unfold rQ at h;try dsimp only at h
 refine bf Tryz.func71 λctr hc=>?_;revert h;refine bT 2 [] 0 [] (Wq ?_);intro h;intros;refine bR h (ctr+2) [(2,1),(1,1),(1,1),(14,29)] [] (λ_ u=>Fa [] []) (λx uc ug ut ht hu hp h=>?_) (λf h=>?_)
 . refine Wx [] 0 [] Wz
 revert h;refine bT 1 [] 0 [] (Wq ?_);intro h;intros;refine Tr.block ?_;refine gy h (ctr+3) [(2,1),(1,1),(1,1),(17,26)] [] (λv u1=>Fa [(24,vi v)] []) dN (λv dQ iN iG f ht hu hp h=>?_);revert h;refine bT 2 [] 0 [] (Wq ?_);intro h;intros;refine bR h (dQ+1) [(2,1),(1,1),(1,1),(19,23)] [] (λ_ u2=>Fa [] []) (λx lD qW pU ht hu hp h=>?_) (λf h=>?_)
 . refine Wx [] 0 [] Wz
 refine Tr.block ?_;revert h;refine bT 3 [] 0 [] (Wq ?_);intro h;intros;refine Tr.block ?_;refine gy h (dQ+4) [(2,1),(3,1),(31,11)] [] (λv1 u3=>Fa [(38,vi v1)] []) dN (λv1 oV BD zT f ht hu hp h=>?_);refine Wx [] 0 [] Wz
end Go.Vx
end
section
namespace Go.Proofs
open Go.RowKit
set_option maxRecDepth 100000
def IsL(w:World)(x:List Int)(u:Value):Prop:=∃ a c,u = .slice (some a) x.length c/\0<x.length/\∀ (j:Nat) y,x[j]? = some y->w.cell? (a.add j)=some (.int .i64 y)
def iv(x:List Int):List Value:=x.map λy=>.int .i64 y
structure ED (w:World) (B:Nat) (L:List (List Int)) (v:Value) (us:List Value):Prop where
 out:w.ownsRow B 23 1 v L.length us
 inn : ∀ (i:Nat) x u,L[i]? = some x->us[i]? = some u->w.ownsRow B 3 1 u x.length (iv x)
 ne : ∀ (i:Nat) u,us[i]? = some u->u.ownBlock≠v.ownBlock
 ne2 : ∀ (i j:Nat) u u',i≠j->us[i]? = some u->us[j]? = some u'->u.ownBlock≠u'.ownBlock
theorem fE{W:World}{b:Nat}{c:Array Value}{e:TypeId}{v:Value}{i:Nat}(h:W.heap[b]? = some (.cells c e (0,0)))(hi:c[i]? = some v):W.cell? ⟨b,i,none⟩=some v/\W.frozen? ⟨b,i,none⟩=false:=by
 constructor
 . simp[World.cell?,h,hi]
 simp[World.frozen?,h]
theorem anU{w w0:World}{A B:Obj}(h:((w.alloc A).alloc B).grownBy w0 none):w0.heap[w.heap.size]? = some A/\w0.heap[w.heap.size+1]? = some B/\w.grownBy w0 none:=by
 have s1:(w.alloc A).heap.size=w.heap.size+1:=by simp
 have s2:((w.alloc A).alloc B).heap.size=w.heap.size+1+1:=by simp
 have n1:=Go.heap_alloc_new (w.alloc A) B;rw[s1] at n1;refine⟨?_,?_,h.os,h.tape,h.output,by have:=h.size;omega,λk hk _=>?_⟩
 . rw[h.block _ (by omega) (by simp),Go.heap_alloc_old _ _ (by omega),Go.heap_alloc_new]
 . rw[h.block _ (by omega) (by simp),n1]
 rw[h.block _ (by omega) (by simp),Go.heap_alloc_old _ _ (by omega),Go.heap_alloc_old _ _ hk]
theorem aqR{w w0 wr:World}{d:Nat}(hg:w.grownBy w0 none)(hgr:w0.grownBy wr (some d))(hd:w.heap.size<=d){a:Addr}{v:Value}(h:w.cell? a=some v):wr.cell? a=some v:=by
 have:=World.block_lt_of_cell? w a h;exact hgr.cell (hg.cell h (by simp)) (by simp;omega)
theorem Za{w:World}{B m:Nat}{e:TypeId}{v:Value}{xs:List Value}(h:w.ownsRow B e 1 v (0+m) xs)(hm:0<m) : ∃ g c,v = .slice (some ⟨g,0,none⟩) m c/\B<=g:=by
 rcases h.2 with⟨_,h⟩|⟨g,c,_,rfl,hb,_⟩
 . omega
 exact⟨g,c,by rw[Nat.zero_add],hb⟩
theorem auc{us:List Value}{n k:Nat}(hk:k<n)(hus:us.length=k)(v z:Value):(us++List.replicate (n-k) z).set k v=(us++[v])++List.replicate (n-(k+1)) z:=by
 obtain⟨m,hm⟩ : ∃ m,n-k=m+1:=⟨n-k-1,by omega⟩
 rw[hm,show n-(k+1)=m by omega,List.replicate_succ,List.set_append_right _ _ (by omega),hus,Nat.sub_self];simp
theorem BF{a b c:World}{r:Option Nat}(h:a.grownBy b r)(h':b.grownBy c r):a.grownBy c r :=
 ⟨h'.os.trans h.os,h'.tape.trans h.tape,h'.output.trans h.output,Nat.le_trans h.size h'.size,λk hk hr=>(h'.block k (Nat.lt_of_lt_of_le hk h.size) hr).trans (h.block k hk hr)⟩
theorem awC{a b:World}(h:a.grownBy b none)(r:Option Nat):a.grownBy b r:=⟨h.os,h.tape,h.output,h.size,λk hk _=>h.block k hk (by simp)⟩
theorem KG(w:World)(a:Addr)(v:Value):w.grownBy (w.setCell a v) (some a.block):=⟨rfl,rfl,rfl,by simp,λk _ hk=>heap_setCell_other w a k v (λe=>hk (by simp[e]))⟩
theorem anW(W:World)(b:Nat){v0 v1:Value}(q0:W.cell? ⟨b,0,none⟩=some v0)(q1:W.cell? ⟨b,1,none⟩=some v1)(tmps:Array Value)(ht:tmps[2]?.getD undef = .pointer (some ⟨b,0,none⟩)) :
  (results Tryz.f366 tmps).run Tryz.prog W = .ok (.agg #[v0,v1]) W:=by
 simp[results,Tryz.results366,go_sem,q0,q1,ht]
theorem agw{W:World}{b:Nat}{v0 v1 u0 u1:Value}{e:TypeId}(h:W.heap[b]? = some (.cells #[u0,u1] e (0,0))) :
  ((W.setCell ⟨b,0,none⟩ v0).setCell ⟨b,1,none⟩ v1).cell? ⟨b,0,none⟩=some v0/\((W.setCell ⟨b,0,none⟩ v0).setCell ⟨b,1,none⟩ v1).cell? ⟨b,1,none⟩=some v1:=by
 obtain⟨c0,_⟩:=fE (i:=0) h rfl;obtain⟨c1,_⟩:=fE (i:=1) h rfl;refine⟨?_,?_⟩
 . rw[World.cell?_setCell_other _ _ _ _ (by simp),World.cell?_setCell_same _ _ _ c0]
 rw[World.cell?_setCell_same _ _ _ (by rw[World.cell?_setCell_other _ _ _ _ (by simp)];exact c1)]
set_option maxHeartbeats 4000000 in
theorem aud(L:List (List Int))(a:Addr)(cap:Nat)(o:Bool)(w:World)(h0:0<L.length)(h1:L.length<=1000)(h2 : ∀ x∈L,x.length<=1000)
  (hL : ∀ (i:Nat) x,L[i]? = some x->∃ u,w.cell? (a.add i)=some u/\IsL w x u) :
  Calls Tryz.prog 366 #[.agg #[.slice (some a) L.length cap,.bool o]] w λe w'=>∃ v us,e = .returned (.agg #[v,.bool o])/\ED w' w.heap.size L v us/\w.grownBy w' none:=by
 obtain⟨i3,hi3,hz3,hs3,hb3⟩:=info_parts (show(Tryz.prog.info? 3).map (λi=>(i.zero,i.size,i.bytes))=some (some (.int .i64 0),1,8) by kernel_rfl);obtain⟨i23,apA,apB,apC,apD⟩:=info_parts (show(Tryz.prog.info? 23).map (λi=>(i.zero,i.size,i.bytes))=some (some (.slice none 0 0),1,24) by kernel_rfl);obtain⟨n,hn⟩ : ∃ n,L.length=n:=⟨_,rfl⟩
 rw[hn];have hn0 : ¬ ((n:Int)=0):=by omega
 go_enter Tryz.func366,Tryz.ntmps366
 go_wp2_with (at_make;refine wpList_make_full _ rfl (.tmp 15) (.tmp 15) 35 rfl w.heap.size 23 i23 (.slice none 0 0) 1 Tryz.underlying35 apA apB apC .i64 .i64 _ _ n rfl rfl rfl rfl (by rw[apD];omega) (by unfold maxLen;omega) (by simp;omega) ?_;intro w0 hown0 anX;obtain⟨hb1,hb2,hg⟩:=anU anX;obtain⟨c00,Zb⟩:=fE (i:=0) hb1 rfl;obtain⟨Zc,Zd⟩:=fE (i:=1) hb1 rfl;obtain⟨c10,f10⟩:=fE (i:=0) hb2 rfl;obtain⟨c11,f11⟩:=fE (i:=1) hb2 rfl)
 have e:((w.alloc (Obj.cells #[Value.slice (some a) n cap,Value.bool o] 37)).alloc (Obj.cells #[Value.slice none 0 0,Value.bool false] 37)).heap.size=w.heap.size+1+1:=by simp
 rw[e,Nat.mul_one] at hown0;have hm:=toList_madeCells_one (.slice none 0 0) n;have hrep:w0.ownsRow w.heap.size 23 1 (.slice (some ⟨w.heap.size+1+1,0,none⟩) n n) n (List.replicate n (.slice none 0 0)):=hm▸hown0;clear e hm hown0 anX
 go_loopw [20] (λi wr=>∃ (k:Nat) (us:List Value),i = .int .i64 k/\k<=n/\us.length=k/\wr.ownsRow w.heap.size 23 1 (.slice (some ⟨w.heap.size+1+1,0,none⟩) n n) n (us++List.replicate (n-k) (.slice none 0 0)) /\
   (∀ (i:Nat) x u,L[i]? = some x->us[i]? = some u->wr.ownsRow w.heap.size 3 1 u x.length (iv x))/\(∀ (i:Nat) u,us[i]? = some u->∃ b,u.ownBlock=some b/\w0.heap.size<=b) /\
   (∀ (i j:Nat) u u',i≠j->us[i]? = some u->us[j]? = some u'->u.ownBlock≠u'.ownBlock)/\w0.grownBy wr (some (w.heap.size+1+1)))
  (λi _=>n-(intOf i).toNat)
 case atStart=>exact⟨0,[],rfl,by omega,rfl,by simpa using hrep,λ_ _ _ _ h=>by simp at h,λ_ _ h=>by simp at h,λ_ _ _ _ _ h=>by simp at h,⟨rfl,rfl,rfl,Nat.le_refl _,λ_ _ _=>rfl⟩⟩
 case round=>
  obtain⟨k,us,rfl,hk,hus,hown,hin,hbl,hne,hgr⟩:=hrel;have hb1':=(hgr.block _ (Array.getElem?_eq_some_iff.1 hb1).1 (by simp;omega)).trans hb1;have hb2':=(hgr.block _ (Array.getElem?_eq_some_iff.1 hb2).1 (by simp)).trans hb2;clear c00 Zb Zc Zd c10 f10 c11 f11;obtain⟨c00,Zb⟩:=fE (i:=0) hb1' rfl;obtain⟨Zc,Zd⟩:=fE (i:=1) hb1' rfl;obtain⟨c10,f10⟩:=fE (i:=0) hb2' rfl;obtain⟨c11,f11⟩:=fE (i:=1) hb2' rfl
  by_cases hkn:k<n
  . obtain⟨x,hx⟩ : ∃ x,L[k]? = some x:=⟨_,List.getElem?_eq_getElem (by omega)⟩
    obtain⟨u,hu,ai,ci,rfl,hx0,hxr⟩:=hL k x hx;have hu':=aqR hg hgr (by omega) hu;have hxl:=h2 x (List.mem_of_getElem? hx);have hrow : ∀ (j:Nat) y,(iv x)[j]? = some y->wr.cell? (ai.add j)=some y:=λj y hy=>by
     simp only[iv,List.getElem?_map,Option.map_eq_some_iff] at hy;obtain⟨z,hz,rfl⟩:=hy;exact aqR hg hgr (by omega) (hxr j z hz)
    go_wp2_with (at_builtin;refine wpList_append_own _ rfl (.const (.slice none 0 0)) (.tmp 27) 23 rfl wr.heap.size 3 i3 (.int .i64 0) 1 8 Tryz.underlying23 hi3 hz3 hs3 hb3 rfl (by decide) _ 0 [] rfl (World.ownsRow_nil _ _ _ _) ai x.length ci (iv x) rfl (by simp[iv]) hrow (by intro u hu;simp only[iv,List.mem_map] at hu;obtain⟨z,_,rfl⟩:=hu;rfl) (by unfold maxLen;omega) (by omega) (Nat.le_refl _) ?_;intro v1 w1 hown1 hgrow1 awD;have hgrow1:wr.grownBy w1 none:=hgrow1;obtain⟨g,c1,rfl,hg1⟩:=Za hown1 hx0;have hD:=hown.kept hgrow1 (.inr (by simp[Value.ownBlock]));have cd:w1.cell? ⟨w.heap.size+1+1,k,none⟩=some (.slice none 0 0):=(by rw[hD.cellAt k (by omega),List.getElem?_append_right (by omega),hus];simp[show 0<n-k by omega]);have fd:=hD.frozenAt k)
    go_roundw
    case rel=>
     have hst:=hD.stored k (.slice (some ⟨g,0,none⟩) x.length c1);have hd:w.heap.size+1+1<w0.heap.size:=(hrep.lt _ rfl).2;have hwr:=hgr.size;have hlast : ∀ (i:Nat) (z:Value),(us++[Value.slice (some ⟨g,0,none⟩) x.length c1])[i]? = some z->us[i]? = some z/\i<k\/i=k/\z = .slice (some ⟨g,0,none⟩) x.length c1:=λi z hz=>by
      by_cases hi:i<us.length
      . rw[List.getElem?_append_left hi] at hz;exact .inl ⟨hz,by omega⟩
      rw[List.getElem?_append_right (by omega)] at hz;rcases Nat.lt_or_ge (i-us.length) 1 with h|h
      . rw[show i-us.length=0 by omega] at hz;cases hz;exact .inr ⟨by omega,rfl⟩
      rw[List.getElem?_eq_none (by simpa using h)] at hz;cases hz
     refine⟨k+1,us++[.slice (some ⟨g,0,none⟩) x.length c1],by simp,by omega,by simp[hus],auc hkn hus _ _▸hst.1,λi y z hy hz=>?_,λi z hz=>?_,λi j z z' hij hz hz'=>?_,BF (BF hgr (awC hgrow1 _)) hst.2⟩
     . rcases hlast i z hz with⟨h,_⟩|⟨rfl,rfl⟩
       . obtain⟨b,e1,e2⟩:=hbl i z h;exact((hin i y z hy h).kept hgrow1 (.inr (by rw[e1];simp))).kept hst.2 (.inr (by rw[e1];simp;omega))
       rw[hx] at hy;cases hy;have:=(hown1.mono (base':=w.heap.size) (by have:=hg.size;omega)).kept hst.2 (.inr (by simp[Value.ownBlock];omega));simpa using this
     . rcases hlast i z hz with⟨h,_⟩|⟨rfl,rfl⟩
       . exact hbl i z h
       exact⟨g,rfl,by omega⟩
     have old : ∀ (i:Nat) (z:Value),us[i]? = some z->z.ownBlock≠some g:=λi z h e=>by
      obtain⟨y,hy⟩ : ∃ y,L[i]? = some y:=⟨_,List.getElem?_eq_getElem (by have:=(List.getElem?_eq_some_iff.1 h).1;omega)⟩
      have:=((hin i y z hy h).lt _ e).2;omega
     rcases hlast i z hz with⟨h,h'⟩|⟨rfl,rfl⟩<;>rcases hlast j z' hz' with⟨q,q'⟩|⟨rfl,rfl⟩
     . exact hne i j z z' hij h q
     . exact old i z h
     . exact λe=>old j z' q e.symm
     exact absurd rfl hij
    case measure=>simp[intOf];omega
  obtain rfl:k=n:=by omega
  go_wp2
  obtain⟨q0,q1⟩:=agw (v0:=.slice (some ⟨w.heap.size+1+1,0,none⟩) k k) (v1:=.bool o) hb2';refine bodyPost_ret (anW _ _ q0 q1 _ rfl) rfl ?_;have hd:w.heap.size+1+1<w0.heap.size:=(hrep.lt _ rfl).2;have k1:=KG wr ⟨w.heap.size+1,0,none⟩ (.slice (some ⟨w.heap.size+1+1,0,none⟩) k k);have k2:=KG (wr.setCell ⟨w.heap.size+1,0,none⟩ (.slice (some ⟨w.heap.size+1+1,0,none⟩) k k)) ⟨w.heap.size+1,1,none⟩ (.bool o);have k3:=BF k1 k2;refine⟨_,us,rfl,⟨?_,λi y z hy hz=>?_,λi z hz=>?_,hne⟩,?_⟩
  . have:=hown.kept k3 (.inr (by simp[Value.ownBlock]));simpa[hn] using this
  . obtain⟨b,e1,e2⟩:=hbl i z hz;exact(hin i y z hy hz).kept k3 (.inr (by rw[e1];simp;omega))
  . obtain⟨b,e1,e2⟩:=hbl i z hz;rw[e1];simp[Value.ownBlock];omega
  refine⟨k3.os.trans (hgr.os.trans hg.os),k3.tape.trans (hgr.tape.trans hg.tape),k3.output.trans (hgr.output.trans hg.output),by have:=k3.size;have:=hgr.size;have:=hg.size;omega,λq hq _=>?_⟩;rw[k3.block q (by have:=hgr.size;have:=hg.size;omega) (by simp;omega),hgr.block q (by have:=hg.size;omega) (by simp;omega),hg.block q hq (by simp)]
end Go.Proofs
end
section
namespace Go.Proofs
open Go.RowKit
open Go.Vx (jE EP J5 D9)
set_option maxRecDepth 100000
structure wS (w w':World):Prop where
 os:w'.os=w.os
 output:w'.output=w.output
 size:w.heap.size<=w'.heap.size
 block : ∀ k,k<w.heap.size->w'.heap[k]? = w.heap[k]?
theorem wS.cell{w w':World}(h:wS w w'){a:Addr}{v:Value}(hc:w.cell? a=some v):w'.cell? a=some v:=(World.cell?_of_block (h.block a.block (World.block_lt_of_cell? w a hc))).trans hc
theorem wS.trans{a b c:World}(h:wS a b)(h':wS b c):wS a c:=⟨h'.os.trans h.os,h'.output.trans h.output,Nat.le_trans h.size h'.size,λk hk=>(h'.block k (Nat.lt_of_lt_of_le hk h.size)).trans (h.block k hk)⟩
theorem wS.of{w w':World}(h:w.grownBy w' none):wS w w':=⟨h.os,h.output,h.size,λk hk=>h.block k hk (by simp)⟩
theorem afk{w w':World}{B s n:Nat}{e:TypeId}{v:Value}{xs:List Value}(h:w.ownsRow B e s v n xs)(hb : ∀ g,v.ownBlock=some g->w'.heap[g]? = w.heap[g]?):w'.ownsRow B e s v n xs:=by
 refine⟨h.1,?_⟩;rcases h.2 with hn|⟨g,cap,cur,rfl,hb',hg,rest⟩
 . exact .inl hn
 exact .inr ⟨g,cap,cur,rfl,hb',(hb g rfl).trans hg,rest⟩
def WG(w:World)(L:List (List Int))(v:Value):Prop:=∃ ao cap,v = .slice ao L.length cap/\(L≠[]->∃ a,ao=some a/\∀ (i:Nat) x,L[i]? = some x->∃ u,w.cell? (a.add i)=some u/\IsL w x u)
theorem WG.mono{w w':World}(h:wS w w'){L:List (List Int)}{v:Value}(r:WG w L v):WG w' L v:=by
 obtain⟨ao,cap,rfl,hr⟩:=r;refine⟨ao,cap,rfl,λhn=>?_⟩;obtain⟨a,rfl,ha⟩:=hr hn;refine⟨a,rfl,λi x hx=>?_⟩;obtain⟨u,hu,b,c,rfl,h0,hb⟩:=ha i x hx;exact⟨_,h.cell hu,b,c,rfl,h0,λj y hy=>h.cell (hb j y hy)⟩
def Done(w:World)(B:Nat)(L:List (List Int))(v:Value):Prop:=∃ us,w.ownsRow B 23 1 v L.length us/\∀ (i:Nat) x u,L[i]? = some x->us[i]? = some u->w.ownsRow B 3 1 u x.length (iv x)
theorem ED.done{w:World}{B:Nat}{L:List (List Int)}{v:Value}{us:List Value}(h:ED w B L v us):Done w B L v:=⟨us,h.out,h.inn⟩
theorem aue(w:World)(A B C D:Obj) : ∃ W,W=(((w.alloc A).alloc B).alloc C).alloc D/\W.heap[w.heap.size+1]? = some B/\W.heap[w.heap.size+1+1]? = some C/\W.heap[w.heap.size+1+1+1]? = some D/\w.grownBy W none:=by
 have s1:(w.alloc A).heap.size=w.heap.size+1:=by simp
 have s2:((w.alloc A).alloc B).heap.size=w.heap.size+1+1:=by simp
 have s3:(((w.alloc A).alloc B).alloc C).heap.size=w.heap.size+1+1+1:=by simp
 have n1:=Go.heap_alloc_new (w.alloc A) B;have n2:=Go.heap_alloc_new ((w.alloc A).alloc B) C;have n3:=Go.heap_alloc_new (((w.alloc A).alloc B).alloc C) D;rw[s1] at n1;rw[s2] at n2;rw[s3] at n3;refine⟨_,rfl,?_,?_,n3,BF (BF (BF (World.grownBy_alloc _ _ _) (World.grownBy_alloc _ _ _)) (World.grownBy_alloc _ _ _)) (World.grownBy_alloc _ _ _)⟩
 . rw[Go.heap_alloc_old _ _ (by omega),Go.heap_alloc_old _ _ (by omega),n1]
 rw[Go.heap_alloc_old _ _ (by omega),n2]
theorem auf(a:Option Addr)(cap:Nat)(w:World) :
  Calls Tryz.prog 366 #[.agg #[.slice a 0 cap,.bool false]] w λe w'=>∃ v us,e = .returned (.agg #[v,.bool true])/\ED w' w.heap.size [[-1]] v us/\w.grownBy w' none:=by
 go_enter Tryz.func366,Tryz.ntmps366
 go_wp2
 obtain⟨W,hW,h1,h2,h3,hg⟩:=aue w (Obj.cells #[Value.slice a 0 cap,Value.bool false] 37) (Obj.cells #[Value.slice (some ⟨w.heap.size+1+1+1,0,none⟩) 1 1,Value.bool true] 37) (Obj.cells #[Value.int IntKind.i64 (-1)] 3) (Obj.cells #[Value.slice (some ⟨w.heap.size+1+1,0,none⟩) 1 1] 23);rw[← hW];refine bodyPost_ret (anW _ _ (fE (i:=0) h1 rfl).1 (fE (i:=1) h1 rfl).1 _ rfl) rfl ⟨_,[.slice (some ⟨w.heap.size+1+1,0,none⟩) 1 1],rfl,⟨⟨rfl,.inr ⟨_,1,_,rfl,by omega,h3,Nat.le_refl _,by unfold maxLen;omega,rfl,rfl⟩⟩,λi x u hx hu=>?_,λi u hu=>?_,λi j u u' hij hu hu'=>?_⟩,hg⟩
 . match i,hx,hu with
   | 0,hx,hu=>cases hx;cases hu;exact⟨rfl,.inr ⟨_,1,_,rfl,by omega,h2,Nat.le_refl _,by unfold maxLen;omega,rfl,rfl⟩⟩
   | i+1,hx,_=>simp at hx
 . match i,hu with
   | 0,hu=>cases hu;simp[Value.ownBlock]
   | i+1,hu=>simp at hu
 match i,j,hu,hu' with
 | 0,0,_,_=>exact absurd rfl hij
 | i+1,_,hu,_=>simp at hu
 | _,j+1,_,hu=>simp at hu
theorem aiJ(L:List (List Int))(o:Bool)(v:Value)(w:World)(hv:WG w L v)(h0:L=[]->o=false)(h1:L.length<=1000)(h2 : ∀ x∈L,x.length<=1000) :
  Calls Tryz.prog 366 #[.agg #[v,.bool o]] w λe w'=>∃ v us,e = .returned (.agg #[v,.bool (EP L o)])/\ED w' w.heap.size (jE L) v us/\w.grownBy w' none:=by
 obtain⟨ao,cap,rfl,hr⟩:=hv;unfold EP jE
 by_cases h:L=[]
 . rw[if_pos h,if_pos h,h0 h,h];exact auf ao cap w
 rw[if_neg h,if_neg h];obtain⟨a,rfl,ha⟩:=hr h;exact aud L a cap o w (List.length_pos_iff.2 h) h1 h2 ha
end Go.Proofs
end
section
namespace Go.Proofs
open Go.RowKit
open Go.Vx (jE EP J5 D9)
set_option maxRecDepth 100000
theorem aiK(P:Program)(W:World)(b:Bool):Sem.run P (Op.unary UnOp.not (Value.bool b)) W = .ok (.bool (!b)) W:=rfl
attribute [local go_sem] aiK
def adK(w:World)(a:Value)(k:Nat)(b:Bool):Prop:=∀ W:World,W.heap.size=w.heap.size+k->(∀ k,k<w.heap.size->W.heap[k]? = w.heap[k]?)->W.os=w.os/\W.output=w.output ->
 Calls Tryz.prog 71 #[a] W λe W'=>e = .returned (.bool b)/\wS W W'
theorem afl{w:World}(A B:Obj) : ∃ W,W=(w.alloc A).alloc B/\W.heap[w.heap.size]? = some A/\W.heap[w.heap.size+1]? = some B/\W.heap.size=w.heap.size+2/\wS w W:=by
 obtain⟨h1,h2,h3⟩:=anU (w:=w) (w0:=(w.alloc A).alloc B) (A:=A) (B:=B) ⟨rfl,rfl,rfl,Nat.le_refl _,λ_ _ _=>rfl⟩;exact⟨_,rfl,h1,h2,by simp,.of h3⟩
theorem ED.open{w:World}{B:Nat}{L:List (List Int)}{v:Value}{us:List Value}(h:ED w B L v us)(hn:L≠[])(hx : ∀ x∈L,0<x.length) :
  ∃ d cap m g gc q x,L.length=m+1/\v = .slice (some ⟨d,0,none⟩) (m+1) cap/\us[m]? = some (.slice (some ⟨g,0,none⟩) (q+1) gc)/\L[m]? = some x/\x.length=q+1/\B<=d/\B<=g/\d≠g /\
   w.cell? ⟨d,m,none⟩=some (.slice (some ⟨g,0,none⟩) (q+1) gc)/\w.frozen? ⟨d,m,none⟩=false/\(∃ y,x[q]? = some y/\w.cell? ⟨g,q,none⟩=some (.int .i64 y))/\w.frozen? ⟨g,q,none⟩=false:=by
 obtain⟨m,hm⟩ : ∃ m,L.length=m+1:=⟨L.length-1,by have:=List.length_pos_iff.2 hn;omega⟩
 have ho:=h.out;rw[hm] at ho;have hul:us.length=m+1:=by simpa using ho.1
 obtain⟨d,cap,rfl,hd⟩:=Za (m:=m+1) (by simpa using ho) (by omega);obtain⟨x,hxm⟩ : ∃ x,L[m]? = some x:=⟨_,List.getElem?_eq_getElem (by omega)⟩
 obtain⟨u,hu⟩ : ∃ u,us[m]? = some u:=⟨_,List.getElem?_eq_getElem (by omega)⟩
 obtain⟨q,hq⟩ : ∃ q,x.length=q+1:=⟨x.length-1,by have:=hx x (List.mem_of_getElem? hxm);omega⟩
 have hi:=h.inn m x u hxm hu;rw[hq] at hi;obtain⟨g,gc,rfl,hg⟩:=Za (m:=q+1) (by simpa using hi) (by omega);obtain⟨y,hy⟩ : ∃ y,x[q]? = some y:=⟨_,List.getElem?_eq_getElem (by omega)⟩
 refine⟨d,cap,m,g,gc,q,x,hm,rfl,hu,hxm,hq,hd,hg,λe=>h.ne m _ hu (by simp[Value.ownBlock,e]),?_,ho.frozenAt m,⟨y,hy,?_⟩,hi.frozenAt q⟩
 . rw[ho.cellAt m (by omega),hu]
 rw[hi.cellAt q (by omega)];simp[iv,hy]
theorem al8(L:List (List Int)):jE L≠[]:=by
 unfold jE;split<;>simp_all
theorem UL{L:List (List Int)}{p:List Int->Prop}(h : ∀ x∈L,p x)(h1:p [-1]) : ∀ x∈jE L,p x:=by
 unfold jE;split
 . intro x hx;rw[List.mem_singleton.1 hx];exact h1
 exact h
theorem anZ(W:World)(b:Nat){v0 v1:Value}(q0:W.cell? ⟨b,0,none⟩=some v0)(q1:W.cell? ⟨b,1,none⟩=some v1)(tmps:Array Value)(ht:tmps[4]?.getD undef = .pointer (some ⟨b,0,none⟩)) :
  (results Tryz.f308 tmps).run Tryz.prog W = .ok (.agg #[v0,v1]) W:=by
 simp[results,Tryz.results308,go_sem,q0,q1,ht]
theorem afm{f:Func}{X:World}{n1:Nat}{u0 u1 v b:Value}{tmps:Array Value}{Q:Ending->World->Prop}(hb:X.heap[n1]? = some (.cells #[u0,u1] 37 (0,0)))
  (hr : ∀ W,W.cell? ⟨n1,0,none⟩=some v->W.cell? ⟨n1,1,none⟩=some b->(results f tmps).run Tryz.prog W = .ok (.agg #[v,b]) W) (hQ : ∀ W,X.grownBy W (some n1)->Q (.returned (.agg #[v,b])) W) :
  bodyPost Tryz.prog f Q .ret ⟨tmps,[]⟩ ((X.setCell ⟨n1,0,none⟩ v).setCell ⟨n1,1,none⟩ b):=by
 obtain⟨q0,q1⟩:=agw (v0:=v) (v1:=b) hb;exact bodyPost_ret (hr _ q0 q1) rfl (hQ _ (BF (KG X _ _) (KG _ ⟨n1,1,none⟩ _)))
theorem Done.kept{w w':World}{B:Nat}{L:List (List Int)}{v:Value}(h:Done w B L v)(hb : ∀ g,B<=g->g<w.heap.size->w'.heap[g]? = w.heap[g]?):Done w' B L v:=by
 obtain⟨us,h1,h2⟩:=h;exact⟨us,afk h1 λg hg=>hb g (h1.lt g hg).1 (h1.lt g hg).2,λi x u hx hu=>afk (h2 i x u hx hu) λg hg=>hb g ((h2 i x u hx hu).lt g hg).1 ((h2 i x u hx hu).lt g hg).2⟩
theorem Done.mono{w:World}{B B':Nat}{L:List (List Int)}{v:Value}(h:Done w B L v)(hb:B'<=B):Done w B' L v:=by
 obtain⟨us,h1,h2⟩:=h;exact⟨us,h1.mono hb,λi x u hx hu=>(h2 i x u hx hu).mono hb⟩
theorem ED.upd{w:World}{B m q g gc:Nat}{L:List (List Int)}{v:Value}{us:List Value}{x:List Int}(h:ED w B L v us)(hu:us[m]? = some (.slice (some ⟨g,0,none⟩) (q+1) gc))(hx:L[m]? = some x)(hq:x.length=q+1)(j:Nat)(z:Int) :
  ED (w.setCell ⟨g,j,none⟩ (.int .i64 z)) B (L.set m (x.set j z)) v us:=by
 have hi:=h.inn m x _ hx hu;rw[hq] at hi;have hs:=hi.stored j (.int .i64 z);refine⟨?_,λi y u hy hu'=>?_,h.ne,h.ne2⟩
 . rw[List.length_set];exact h.out.kept hs.2 (.inr λe=>h.ne m _ hu (by rw[e];rfl))
 by_cases e:i=m
 . subst e;rw[hu] at hu';cases hu';rw[List.getElem?_set_self (List.getElem?_eq_some_iff.1 hx).1] at hy;cases hy;rw[List.length_set,hq];have:=hs.1;simpa[iv,List.map_set] using this
 rw[List.getElem?_set_ne (Ne.symm e)] at hy;exact(h.inn i y u hy hu').kept hs.2 (.inr (h.ne2 i m u _ e hu' hu))
theorem ED.kept{w w':World}{B:Nat}{L:List (List Int)}{v:Value}{us:List Value}(h:ED w B L v us)(hb : ∀ g,B<=g->g<w.heap.size->w'.heap[g]? = w.heap[g]?):ED w' B L v us :=
 ⟨afk h.out λg hg=>hb g (h.out.lt g hg).1 (h.out.lt g hg).2,λi x u hx hu=>afk (h.inn i x u hx hu) λg hg=>hb g ((h.inn i x u hx hu).lt g hg).1 ((h.inn i x u hx hu).lt g hg).2,h.ne,h.ne2⟩
theorem wS.chg{w a b:World}(h:wS w a)(os:b.os=a.os)(out:b.output=a.output)(size:a.heap.size<=b.heap.size)(hb : ∀ k,k<w.heap.size->b.heap[k]? = a.heap[k]?):wS w b :=
 ⟨os.trans h.os,out.trans h.output,Nat.le_trans h.size size,λk hk=>(hb k hk).trans (h.block k hk)⟩
theorem sc(w:World)(a:Addr)(v:Value){k:Nat}(h:k≠a.block):(w.setCell a v).heap[k]? = w.heap[k]?:=heap_setCell_other w a k v h
set_option maxHeartbeats 4000000 in
theorem aug(L:List (List Int))(o:Bool)(v:Value)(c:Int)(w:World)(hv:WG w L v)(h0:L=[]->o=false)(h1:L.length<=1000)(h2 : ∀ x∈L,x.length<=1000/\0<x.length/\∀ y∈x,-1<=y/\y<=65535)
  (c1:48<=c) (c2:c<=57) (hS:adK w (.agg #[v,.bool o]) 2 true) :
  Calls Tryz.prog 308 #[.agg #[v,.bool o],.int .u8 c] w λe w'=>∃ v',e = .returned (.agg #[v',.bool (EP L o)])/\Done w' w.heap.size (if EP L o=true then J5 (jE L) c else jE L) v'/\wS w w':=by
 go_enter Tryz.func308,Tryz.ntmps308
 go_wp2_with (first|(go_at_call 71;fail)|(go_at_call 366;fail))
 obtain⟨W2,hW2,y0,y1,y2,y3⟩:=afl (w:=w) (Obj.cells #[v,Value.bool o] 37) (Obj.cells #[Value.slice none 0 0,Value.bool false] 37);rw[← hW2];refine(hS W2 (by omega) y3.block ⟨y3.os,y3.output⟩).mono ?_;rintro e W3 ⟨rfl,z⟩;have b0:=(z.block _ (by omega)).trans y0;have b1:=(z.block _ (by omega)).trans y1;obtain⟨c00,Zb⟩:=fE (i:=0) b0 rfl;obtain⟨Zc,Zd⟩:=fE (i:=1) b0 rfl;obtain⟨c10,f10⟩:=fE (i:=0) b1 rfl;obtain⟨c11,f11⟩:=fE (i:=1) b1 rfl;have h1' : ¬ c<48:=by omega
 have h2' : ¬ 57<c:=by omega
 go_wp2_with (go_at_call 366;fail)
 refine(aiJ L o v W3 (hv.mono (y3.trans z)) h0 h1 (λx hx=>(h2 x hx).1)).mono ?_;rintro e W4 ⟨v4,us,rfl,hO,hg⟩;have hz:=z.size;obtain⟨d,cap,m,g,gc,q,x,hm,rfl,hu,hxm,hq,hd,hgB,hdg,cd,fd,⟨y,hy,cg⟩,fg⟩:=hO.open (al8 L) (UL (p:=λx=>0<x.length) (λx hx=>(h2 x hx).2.1) (by decide));have hyb:=UL (p:=λx=>∀ y∈x,-1<=y/\y<=65535) (λx hx=>(h2 x hx).2.2) (by decide) x (List.mem_of_getElem? hxm) y (List.mem_of_getElem? hy);have d0:=(hg.block w.heap.size (by omega) (by simp)).trans b0;have d1:=(hg.block (w.heap.size+1) (by omega) (by simp)).trans b1;clear c00 Zb Zc Zd c10 f10 c11 f11;obtain⟨c00,Zb⟩:=fE (i:=0) d0 rfl;obtain⟨Zc,Zd⟩:=fE (i:=1) d0 rfl;obtain⟨c10,f10⟩:=fE (i:=0) d1 rfl;obtain⟨c11,f11⟩:=fE (i:=1) d1 rfl;have e1 : ¬ w.heap.size=d:=by omega
 have e2 : ¬ w.heap.size=g:=by omega
 have e3 : ¬ w.heap.size+1=d:=by omega
 have e4 : ¬ w.heap.size+1=g:=by omega
 have e5 : ¬ d=w.heap.size:=by omega
 have e6 : ¬ g=w.heap.size:=by omega
 have e7 : ¬ d=w.heap.size+1:=by omega
 have e8 : ¬ g=w.heap.size+1:=by omega
 have hmb:m<=1000:=by unfold jE at hm;split at hm<;>(try simp at hm)<;>omega
 have hqb:=UL (p:=λx=>x.length<=1000) (λx hx=>(h2 x hx).1) (by decide) x (List.mem_of_getElem? hxm);have hGr:=(y3.trans z).trans (.of hg);have hgs:=hg.size;have ayL:q<=1000:=by omega
 have ayM : ∀ tmps:Array Value,tmps[4]?.getD undef = .pointer (some ⟨w.heap.size+1,0,none⟩) ->
   bodyPost Tryz.prog Tryz.f308 (λe w'=>∃ v',e = .returned (.agg #[v',.bool false])/\Done w' w.heap.size (jE L) v'/\wS w w') .ret ⟨tmps,[]⟩
    ((((W4.setCell ⟨w.heap.size,0,none⟩ (.slice (some ⟨d,0,none⟩) (m+1) cap)).setCell ⟨w.heap.size,1,none⟩ (.bool false)).setCell ⟨w.heap.size+1,0,none⟩ (.slice (some ⟨d,0,none⟩) (m+1) cap)).setCell ⟨w.heap.size+1,1,none⟩ (.bool false)):=λtmps ht=>by
  refine afm (by rw[sc _ _ _ (by simp),sc _ _ _ (by simp)];exact d1) (λW a b=>anZ _ _ a b _ ht) λW hW=>⟨_,rfl,(hO.done.kept λk hk h=>?_).mono (by omega),hGr.chg hW.os hW.output (by have:=hW.size;simpa using this) λk hk=>?_⟩
  all_goals rw[hW.block k (by simp;omega) (by simp;omega),sc _ _ _ (by simp;omega),sc _ _ _ (by simp;omega)]
 have auh : ∀ (nv:Int) (tmps:Array Value),tmps[4]?.getD undef = .pointer (some ⟨w.heap.size+1,0,none⟩)->nv=min (10*max y 0+(c-48)) 65535 ->
   bodyPost Tryz.prog Tryz.f308 (λe w'=>∃ v',e = .returned (.agg #[v',.bool true])/\Done w' w.heap.size (J5 (jE L) c) v'/\wS w w') .ret ⟨tmps,[]⟩
    (((((W4.setCell ⟨w.heap.size,0,none⟩ (.slice (some ⟨d,0,none⟩) (m+1) cap)).setCell ⟨w.heap.size,1,none⟩ (.bool true)).setCell ⟨g,q,none⟩ (.int .i64 nv)).setCell ⟨w.heap.size+1,0,none⟩ (.slice (some ⟨d,0,none⟩) (m+1) cap)).setCell ⟨w.heap.size+1,1,none⟩ (.bool true)):=λnv tmps ht hnv=>by
  have hl:(jE L).set m (x.set q nv)=J5 (jE L) c:=by
   unfold J5;rw[hm,Nat.add_sub_cancel,show(jE L).getD m []=x by simp[List.getD,hxm],hq,Nat.add_sub_cancel,show x.getD q 0=y by simp[List.getD,hy],hnv]
  have hU:=(hO.kept (w':=(W4.setCell ⟨w.heap.size,0,none⟩ (.slice (some ⟨d,0,none⟩) (m+1) cap)).setCell ⟨w.heap.size,1,none⟩ (.bool true)) λk hk h=>by rw[sc _ _ _ (by simp;omega),sc _ _ _ (by simp;omega)]).upd hu hxm hq q nv;rw[hl] at hU;refine afm (by rw[sc _ _ _ (by simp;omega),sc _ _ _ (by simp),sc _ _ _ (by simp)];exact d1) (λW a b=>anZ _ _ a b _ ht) λW hW=>⟨_,rfl,(hU.done.kept λk hk h=>?_).mono (by omega),hGr.chg hW.os hW.output (by have:=hW.size;simpa using this) λk hk=>?_⟩
  . exact hW.block k h (by simp;omega)
  rw[hW.block k (by simp;omega) (by simp;omega),sc _ _ _ (by simp;omega),sc _ _ _ (by simp;omega),sc _ _ _ (by simp;omega)]
 clear hGr;cases ho:EP L o with
 | false=>
  simp only[Bool.false_eq_true,if_false]
  go_wp2
  all_goals exact ayM _ rfl
 | true=>
  by_cases hy0:y<0
  . go_wp2
    all_goals exact auh _ _ rfl (by omega)
  go_wp2
  all_goals exact auh _ _ rfl (by omega)
end Go.Proofs
end
section
namespace Go.Proofs
open Go.RowKit
open Go.Vx (jE EP J5 D9)
set_option maxRecDepth 100000
attribute [local go_sem] aiK
theorem an0(W:World)(b:Nat){v0 v1:Value}(q0:W.cell? ⟨b,0,none⟩=some v0)(q1:W.cell? ⟨b,1,none⟩=some v1)(tmps:Array Value)(ht:tmps[2]?.getD undef = .pointer (some ⟨b,0,none⟩)) :
  (results Tryz.f306 tmps).run Tryz.prog W = .ok (.agg #[v0,v1]) W:=by
 simp[results,Tryz.results306,go_sem,q0,q1,ht]
theorem aui{W:World}{b:Nat}{u0 u1 v0 v1:Value}{e:TypeId}(h:W.heap[b]? = some (.cells #[u0,u1] e (0,0))) :
  ∃ Y,(W.setCell ⟨b,0,none⟩ v0).setCell ⟨b,1,none⟩ v1=Y/\Y.heap[b]? = some (.cells #[v0,v1] e (0,0))/\W.grownBy Y (some b)/\Y.heap.size=W.heap.size :=
 ⟨_,rfl,by rw[heap_setCell_same _ b 1 _ e v1 (heap_setCell_same _ b 0 _ e v0 h)];rfl,BF (KG W _ _) (KG _ ⟨b,1,none⟩ _),by simp⟩
theorem auj{Y w1:World}{A B:Obj}{r:Option Nat}(h:((Y.alloc A).alloc B).grownBy w1 r):Y.grownBy w1 r:=BF (BF (World.grownBy_alloc Y _ _) (World.grownBy_alloc _ _ _)) h
theorem ayN{Y:World}{s:Nat}(h:Y.heap.size=s)(A:Obj)(u:Value)(t:TypeId) : ∀ (j:Nat) z,[u][j]? = some z->((Y.alloc A).alloc (.cells #[u] t)).cell? ((⟨s+1,0,none⟩:Addr).add j)=some z:=by
 subst h;have e:(Y.alloc A).heap.size=Y.heap.size+1:=by simp
 have:=cell_one_new (Y.alloc A) u t;rw[e] at this;exact this
set_option maxHeartbeats 4000000 in
theorem awE(L:List (List Int))(o:Bool)(v:Value)(w:World)(hv:WG w L v)(h0:L=[]->o=false)(h1:L.length<=1000)(h2 : ∀ x∈L,x.length<=1000/\0<x.length)
  (hS:adK w (.agg #[v,.bool o]) 2 true) :
  Calls Tryz.prog 306 #[.agg #[v,.bool o]] w λe w'=>∃ v',e = .returned (.agg #[v',.bool (!((jE L).length==16))])/\Done w' w.heap.size (if (jE L).length=16 then jE L else jE L++[[-1]]) v'/\wS w w':=by
 obtain⟨i23,apA,apB,apC,apD⟩:=info_parts (show(Tryz.prog.info? 23).map (λi=>(i.zero,i.size,i.bytes))=some (some (.slice none 0 0),1,24) by kernel_rfl)
 go_enter Tryz.func306,Tryz.ntmps306
 go_wp2_with (first|(go_at_call 71;fail)|(go_at_call 366;fail))
 obtain⟨W2,hW2,y0,y1,y2,y3⟩:=afl (w:=w) (Obj.cells #[v,Value.bool o] 37) (Obj.cells #[Value.slice none 0 0,Value.bool false] 37);rw[← hW2];refine(hS W2 (by omega) y3.block ⟨y3.os,y3.output⟩).mono ?_;rintro e W3 ⟨rfl,z⟩;have b0:=(z.block _ (by omega)).trans y0;have b1:=(z.block _ (by omega)).trans y1;obtain⟨c00,Zb⟩:=fE (i:=0) b0 rfl;obtain⟨Zc,Zd⟩:=fE (i:=1) b0 rfl;obtain⟨c10,f10⟩:=fE (i:=0) b1 rfl;obtain⟨c11,f11⟩:=fE (i:=1) b1 rfl
 go_wp2_with (go_at_call 366;fail)
 refine(aiJ L o v W3 (hv.mono (y3.trans z)) h0 h1 (λx hx=>(h2 x hx).1)).mono ?_;rintro e W4 ⟨v4,us,rfl,hO,hg⟩;have hz:=z.size;obtain⟨d,cap,m,g,gc,q,x,hm,rfl,hu,hxm,hq,hd,hgB,hdg,cd,fd,⟨y,hy,cg⟩,fg⟩:=hO.open (al8 L) (UL (p:=λx=>0<x.length) (λx hx=>(h2 x hx).2) (by decide));have d0:=(hg.block w.heap.size (by omega) (by simp)).trans b0;have d1:=(hg.block (w.heap.size+1) (by omega) (by simp)).trans b1;clear c00 Zb Zc Zd c10 f10 c11 f11 cd fd cg fg;obtain⟨Y,hY,k0,Qa,hYs⟩:=aui (v0:=.slice (some ⟨d,0,none⟩) (m+1) cap) (v1:=.bool (EP L o)) d0;have k1:=(Qa.block (w.heap.size+1) (by have:=hg.size;omega) (by simp)).trans d1;obtain⟨c00,Zb⟩:=fE (i:=0) d0 rfl;obtain⟨Zc,Zd⟩:=fE (i:=1) d0 rfl;obtain⟨a00,g00⟩:=fE (i:=0) k0 rfl;obtain⟨a01,g01⟩:=fE (i:=1) k0 rfl;obtain⟨a10,g10⟩:=fE (i:=0) k1 rfl;obtain⟨a11,g11⟩:=fE (i:=1) k1 rfl;have hmb:m<=1000:=by unfold jE at hm;split at hm<;>(try simp at hm)<;>omega
 have hGr:=(y3.trans z).trans (.of hg);have hgs:=hg.size;have Ze:=hO.kept (w':=Y) λk hk h=>Qa.block k h (by simp;omega);have hGY:=hGr.chg Qa.os Qa.output Qa.size λk hk=>Qa.block k (by omega) (by simp;omega);have hOo:=Ze.out;rw[hm] at hOo
 by_cases h16:m=15
 . subst h16
   go_wp2
   all_goals
    refine afm (by rw[sc _ _ _ (by simp)];exact k1) (λW a b=>an0 _ _ a b _ rfl) λW hW=>⟨_,rfl,(Ze.done.kept λk hk h=>?_).mono (by omega),hGY.chg hW.os hW.output (by have:=hW.size;simpa using this) λk hk=>?_⟩
    all_goals rw[hW.block k (by simp;omega) (by simp;omega),sc _ _ _ (by simp;omega)]
 go_wp2_with (at_builtin;go_loud (refine wpList_append_own _ rfl (.tmp 16) (.tmp 18) 35 rfl W3.heap.size 23 i23 (.slice none 0 0) 1 24 Tryz.underlying35 apA apB apC apD rfl (by decide) _ (m+1) us rfl ((hOo.alloc _).alloc _) ⟨W4.heap.size+1,0,none⟩ 1 1 [.slice (some ⟨W4.heap.size,0,none⟩) 1 1] rfl rfl (ayN hYs _ _ _) (by intro u hu;simp at hu;subst hu;rfl) (by unfold maxLen;omega) (by omega) (by simp;omega) ?_;intro v1 w1 hown1 hgrow1 awD;obtain⟨d1',iI,rfl,hd1⟩:=Za (m:=m+1+1) (by simpa using hown1) (by omega);have hgw:Y.grownBy w1 (some d):=auj hgrow1;have r0:=(hgw.block w.heap.size (by omega) (by simp;omega)).trans k0;have r1:=(hgw.block (w.heap.size+1) (by omega) (by simp;omega)).trans k1;obtain⟨a00,g00⟩:=fE (i:=0) r0 rfl;obtain⟨a01,g01⟩:=fE (i:=1) r0 rfl;obtain⟨a10,g10⟩:=fE (i:=0) r1 rfl;obtain⟨a11,g11⟩:=fE (i:=1) r1 rfl))
 have hdl:d<W4.heap.size:=by have:=(hO.out.lt d rfl).2;exact this
 all_goals
  refine afm (by rw[sc _ _ _ (by simp),sc _ _ _ (by simp)];exact r1) (λW a b=>an0 _ _ a b _ rfl) λW hW=>⟨.slice (some ⟨d1',0,none⟩) (m+1+1) iI,by simp[h16],⟨us++[.slice (some ⟨W4.heap.size,0,none⟩) 1 1],?_,λi x u hx hu=>?_⟩,hGY.chg (hW.os.trans hgw.os) (hW.output.trans hgw.output) (by have:=hW.size;have:=hgw.size;simp at *;omega) λk hk=>?_⟩
  . have:=afk (w':=W) hown1 λq hq=>by
     cases hq;have:=hown1.lt d1' rfl;rw[hW.block d1' (by simp;omega) (by simp;omega),sc _ _ _ (by simp;omega),sc _ _ _ (by simp;omega)]
    have:=this.mono (base':=w.heap.size) (by omega);simpa[hm] using this
  . have kp : ∀ {n xs},w1.ownsRow W3.heap.size 3 1 u n xs->W.ownsRow w.heap.size 3 1 u n xs:=λh=>(afk h λq hq=>by
     have:=h.lt _ hq;rw[hW.block q (by simp;omega) (by simp;omega),sc _ _ _ (by simp;omega),sc _ _ _ (by simp;omega)]).mono (by omega)
    have hul:us.length=m+1:=by simpa using hOo.1
    refine kp ?_
    by_cases hi:i<m+1
    . rw[List.getElem?_append_left (by omega)] at hx hu;exact(Ze.inn i x u hx hu).kept hgw (.inr (Ze.ne i u hu))
    obtain rfl:i=m+1:=by
     have:=(List.getElem?_eq_some_iff.1 hu).1;simp at this;omega
    rw[List.getElem?_append_right (by omega),hm,Nat.sub_self] at hx;rw[List.getElem?_append_right (by omega),hul,Nat.sub_self] at hu;cases hx;cases hu;have:=((World.ownsRow_lit (base:=W3.heap.size) (e:=3) (size:=1) Y #[.int .i64 (-1)] 1 (by omega) (by unfold maxLen;omega) rfl).alloc (.cells #[.slice (some ⟨W4.heap.size,0,none⟩) 1 1] 23)).kept (row:=some d) hgrow1 (.inr (by rw[hYs];simp only[Value.ownBlock,ne_eq,Option.some.injEq];omega));rw[hYs] at this;exact this
  rw[hW.block k (by have:=hgw.size;simp;omega) (by simp;omega),sc _ _ _ (by simp;omega),sc _ _ _ (by simp;omega),hgw.block k (by omega) (by simp;omega)]
end Go.Proofs
end
section
namespace Go.Proofs
open Go.RowKit
open Go.Vx (jE EP J5 D9)
set_option maxRecDepth 100000
attribute [local go_sem] aiK
theorem an3(W:World)(b:Nat){v0 v1:Value}(q0:W.cell? ⟨b,0,none⟩=some v0)(q1:W.cell? ⟨b,1,none⟩=some v1)(tmps:Array Value)(ht:tmps[2]?.getD undef = .pointer (some ⟨b,0,none⟩)) :
  (results Tryz.f307 tmps).run Tryz.prog W = .ok (.agg #[v0,v1]) W:=by
 simp[results,Tryz.results307,go_sem,q0,q1,ht]
theorem adL{P:Program}{ops:Array Oper}{o:Oper}{a:Act}{w:World}{K:Act->World->Prop}{Q:Exit->Act->World->Prop}{E:Prop}
  (hg:o.guard=none) (s x:Operand) (t:TypeId) (hop:o.op = .call { callee:=.builtin .append,args:=#[s,x],argTypes:=#[t,t] })
  (base:Nat) (e:TypeId) (i:TypeInfo) (z:Value) (size bytes:Nat) (h1:P.underlying t=some (.slice e)) (h2:P.info? e=some i) (h3:i.zero=some z) (h4:i.size=size) (h5:i.bytes=bytes) (h6:z.cells.size=size) (h7:0<size)
  (v:Value) (n:Nat) (xs:List Value) (hs:a.eval s=v) (hown:w.ownsRow base e size v n xs)
  (ad:Addr) (m c:Nat) (news:List Value) (hx:a.eval x = .slice (some ad) m c) (hl:news.length=m*size) (hnews : ∀ (j:Nat) u,news[j]? = some u->w.cell? (ad.add j)=some u) (hc : ∀ u∈news,u.oneCell'=true)
  (b1:n+m<=maxLen) (b2:(n+m)*bytes<=140737488355328) (hb:base<=w.heap.size) (hK : ∀ v' w',w'.ownsRow base e size v' (n+m) (xs++news)->w.grownBy w' v.ownBlock->K (a.put o.dst v') w') :
  if Region.wanted o (yielded ops a.tmps)=true then Oper.wp P o a w K Q else E:=by
 rw[if_pos (by simp[Region.wanted,hg])];exact wp_append_own w s x t hop base e i z size bytes h1 h2 h3 h4 h5 h6 h7 v n xs hs hown ad m c news hx hl hnews hc b1 b2 hb λv' w' g1 g2 _=>hK v' w' g1 g2
theorem aum{Y w1:World}{A:Obj}{r:Option Nat}(h:(Y.drew.alloc A).grownBy w1 r):Y.grownBy w1 r :=
 have h:=BF (World.grownBy_alloc Y.drew A r) h
 ⟨h.os,h.tape,h.output,h.size,h.block⟩
theorem asg{Y w1:World}{A:Obj}{r:Option Nat}(h:(Y.alloc A).drew.grownBy w1 r):Y.grownBy w1 r :=
 BF (World.grownBy_alloc Y A r) ⟨h.os,h.tape,h.output,h.size,h.block⟩
theorem tne{w:World}{B B' n n':Nat}{v v':Value}{xs xs':List Value}(h:w.ownsRow B 3 1 v n xs)(h':w.ownsRow B' 23 1 v' n' xs'){g:Nat}(e:v.ownBlock=some g):v'.ownBlock≠some g:=by
 intro e';rcases h.2 with⟨rfl,_⟩|⟨b,_,_,rfl,_,hb,_⟩
 . cases e
 rcases h'.2 with⟨rfl,_⟩|⟨b',_,_,rfl,_,hb',_⟩
 . cases e'
 cases e;cases e';rw[hb] at hb';cases hb'
set_option maxHeartbeats 4000000 in
theorem ayO(L:List (List Int))(o:Bool)(v:Value)(w:World)(hv:WG w L v)(h0:L=[]->o=false)(h1:L.length<=1000)(h2 : ∀ x∈L,x.length<=1000/\0<x.length)
  (hS:adK w (.agg #[v,.bool o]) 2 true) (k:Nat) (hk:((jE L).getD ((jE L).length-1) []).length=k) :
  Calls Tryz.prog 307 #[.agg #[v,.bool o]] w λe w'=>∃ v',e = .returned (.agg #[v',.bool (EP L o&&decide (k<6))]) /\
   Done w' w.heap.size (if EP L o=true/\k<6 then D9 (jE L) else jE L) v'/\wS w w':=by
 obtain⟨i3,hi3,hz3,hs3,hb3⟩:=info_parts (show(Tryz.prog.info? 3).map (λi=>(i.zero,i.size,i.bytes))=some (some (.int .i64 0),1,8) by kernel_rfl)
 go_enter Tryz.func307,Tryz.ntmps307
 go_wp2_with (first|(go_at_call 71;fail)|(go_at_call 366;fail))
 obtain⟨W2,hW2,y0,y1,y2,y3⟩:=afl (w:=w) (Obj.cells #[v,Value.bool o] 37) (Obj.cells #[Value.slice none 0 0,Value.bool false] 37);rw[← hW2];refine(hS W2 (by omega) y3.block ⟨y3.os,y3.output⟩).mono ?_;rintro e W3 ⟨rfl,z⟩;have b0:=(z.block _ (by omega)).trans y0;have b1:=(z.block _ (by omega)).trans y1;obtain⟨c00,Zb⟩:=fE (i:=0) b0 rfl;obtain⟨Zc,Zd⟩:=fE (i:=1) b0 rfl;obtain⟨c10,f10⟩:=fE (i:=0) b1 rfl;obtain⟨c11,f11⟩:=fE (i:=1) b1 rfl
 go_wp2_with (go_at_call 366;fail)
 refine(aiJ L o v W3 (hv.mono (y3.trans z)) h0 h1 (λx hx=>(h2 x hx).1)).mono ?_;rintro e W4 ⟨v4,us,rfl,hO,hg⟩;have hz:=z.size;obtain⟨d,cap,m,g,gc,q,x,hm,rfl,hu,hxm,hq,hd,hgB,hdg,cd,fd,⟨y,hy,cg⟩,fg⟩:=hO.open (al8 L) (UL (p:=λx=>0<x.length) (λx hx=>(h2 x hx).2) (by decide));have d0:=(hg.block w.heap.size (by omega) (by simp)).trans b0;have d1:=(hg.block (w.heap.size+1) (by omega) (by simp)).trans b1;clear c00 Zb Zc Zd c10 f10 c11 f11;obtain⟨Y,hY,k0,Qa,hYs⟩:=aui (v0:=.slice (some ⟨d,0,none⟩) (m+1) cap) (v1:=.bool (EP L o)) d0;have k1:=(Qa.block (w.heap.size+1) (by have:=hg.size;omega) (by simp)).trans d1;obtain⟨c00,Zb⟩:=fE (i:=0) d0 rfl;obtain⟨Zc,Zd⟩:=fE (i:=1) d0 rfl;obtain⟨a00,g00⟩:=fE (i:=0) k0 rfl;obtain⟨a01,g01⟩:=fE (i:=1) k0 rfl;obtain⟨a10,g10⟩:=fE (i:=0) k1 rfl;obtain⟨a11,g11⟩:=fE (i:=1) k1 rfl;have hmb:m<=1000:=by unfold jE at hm;split at hm<;>(try simp at hm)<;>omega
 have hGr:=(y3.trans z).trans (.of hg);have hgs:=hg.size;have Ze:=hO.kept (w':=Y) λk hk h=>Qa.block k h (by simp;omega);have hGY:=hGr.chg Qa.os Qa.output Qa.size λk hk=>Qa.block k (by omega) (by simp;omega);have cdY:=(Qa.cell cd (by simp;omega))
 have fdY:Y.frozen? ⟨d,m,none⟩=false:=(World.frozen?_of_block (Qa.block d (by have:=(hO.out.lt d rfl).2;exact this) (by simp;omega))).trans fd;have hgx:(jE L).getD ((jE L).length-1) []=x:=by rw[hm,Nat.add_sub_cancel];simp[List.getD,hxm]
 rw[hgx,hq] at hk;subst hk;have hOi:=Ze.inn m x _ hxm hu;rw[hq] at hOi;have hqb:=UL (p:=λx=>x.length<=1000) (λx hx=>(h2 x hx).1) (by decide) x (List.mem_of_getElem? hxm);have ayL:q<=1000:=by omega
 have e5 : ¬ d=w.heap.size:=by omega
 have e6 : ¬ w.heap.size=d:=by omega
 have hdl:=hO.out.lt d rfl;have hgl:=(hO.inn m x _ hxm hu).lt g rfl;have apE : ∀ (tmps:Array Value) (b:Bool),tmps[2]?.getD undef = .pointer (some ⟨w.heap.size+1,0,none⟩) ->
   bodyPost Tryz.prog Tryz.f307 (λe w'=>∃ v',e = .returned (.agg #[v',.bool false])/\Done w' w.heap.size (jE L) v'/\wS w w') .ret ⟨tmps,[]⟩
    (((Y.setCell ⟨w.heap.size,1,none⟩ (.bool false)).setCell ⟨w.heap.size+1,0,none⟩ (.slice (some ⟨d,0,none⟩) (m+1) cap)).setCell ⟨w.heap.size+1,1,none⟩ (.bool false)):=λtmps _ ht=>by
  refine afm (by rw[sc _ _ _ (by simp)];exact k1) (λW a b=>an3 _ _ a b _ ht) λW hW=>⟨_,rfl,(Ze.done.kept λk hk h=>?_).mono (by omega),hGY.chg hW.os hW.output (by have:=hW.size;simpa using this) λk hk=>?_⟩
  all_goals rw[hW.block k (by simp;omega) (by simp;omega),sc _ _ _ (by simp;omega)]
 have hOo:=Ze.out;rw[hm] at hOo;have ayP : ∀ (w1:World) (g1 iI:Nat) (tmps:Array Value),tmps[2]?.getD undef = .pointer (some ⟨w.heap.size+1,0,none⟩)->w1.ownsRow W3.heap.size 3 1 (.slice (some ⟨g1,0,none⟩) (q+1+1) iI) (q+1+1) (iv x++[.int .i64 (-1)])->Y.grownBy w1 (some g) ->
   bodyPost Tryz.prog Tryz.f307 (λe w'=>∃ v',e = .returned (.agg #[v',.bool true])/\Done w' w.heap.size (D9 (jE L)) v'/\wS w w') .ret ⟨tmps,[]⟩
    (((w1.setCell ⟨d,m,none⟩ (.slice (some ⟨g1,0,none⟩) (q+1+1) iI)).setCell ⟨w.heap.size+1,0,none⟩ (.slice (some ⟨d,0,none⟩) (m+1) cap)).setCell ⟨w.heap.size+1,1,none⟩ (.bool true)):=λw1 g1 iI tmps ht hown1 hgw=>by
  have r1:=(hgw.block (w.heap.size+1) (by omega) (by simp;omega)).trans k1;have hws:=hgw.size;have ho1:=hOo.kept hgw (.inr (by simp only[Value.ownBlock,ne_eq,Option.some.injEq];exact hdg));have hst:=ho1.stored m (.slice (some ⟨g1,0,none⟩) (q+1+1) iI);have hul:us.length=m+1:=by simpa using hOo.1
  have hl:D9 (jE L)=(jE L).set m (x++[-1]):=by unfold D9;rw[hgx,hm,Nat.add_sub_cancel]
  refine afm (by rw[sc _ _ _ (by simp;omega)];exact r1) (λW a b=>an3 _ _ a b _ ht) λW hW=>⟨_,rfl,?_,hGY.chg (hW.os.trans hgw.os) (hW.output.trans hgw.output) (by have:=hW.size;simp at *;omega) λk hk=>?_⟩
  . refine Done.mono (B:=W3.heap.size) (Done.kept (w:=w1.setCell ⟨d,m,none⟩ (.slice (some ⟨g1,0,none⟩) (q+1+1) iI)) ⟨us.set m (.slice (some ⟨g1,0,none⟩) (q+1+1) iI),?_,λi y u hy hu'=>?_⟩ λk hk h=>hW.block k h (by simp;omega)) (by omega)
    . rw[hl,List.length_set,hm];exact hst.1
    rw[hl] at hy
    by_cases e:i=m
    . subst e;rw[List.getElem?_set_self (by omega)] at hy hu';cases hy;cases hu';have:=hown1.kept hst.2 (.inr (λe=>tne hown1 ho1 rfl (by simp only[Value.ownBlock,Option.some.injEq] at e ⊢;exact e.symm)));simpa[iv,hq] using this
    rw[List.getElem?_set_ne (Ne.symm e)] at hy hu';have h3:=(Ze.inn i y u hy hu').kept hgw (.inr (Ze.ne2 i m u _ e hu' hu));exact h3.kept hst.2 (.inr (Ze.ne i u hu'))
  rw[hW.block k (by simp;omega) (by simp;omega),sc _ _ _ (by simp;omega),hgw.block k (by omega) (by simp;omega)]
 cases ho:EP L o with
 | false=>
  rw[ho] at hY a01
  go_wp2
  all_goals exact apE _ true rfl
 | true=>
  rw[ho] at hY a01
  by_cases h6:q<5
  . clear apE
    go_wp2
    have hm0:(0:Int)<=(m:Int):=by omega
    have hm1:(m:Int)<(m:Int)+1:=by omega
    have hm2:((m:Int)).toNat=m:=by omega
    have z00:=(World.grownBy_alloc Y (Obj.cells #[Value.int IntKind.i64 (-1)] 3) none).cell a00 (by simp);have z01:=(World.grownBy_alloc Y (Obj.cells #[Value.int IntKind.i64 (-1)] 3) none).cell cdY (by simp)
    go_region_law (refine adL rfl (.tmp 35) (.tmp 36) 23 rfl W3.heap.size 3 i3 (.int .i64 0) 1 8 Tryz.underlying23 hi3 hz3 hs3 hb3 rfl (by decide) _ (q+1) (iv x) rfl (hOi.alloc _) ⟨W4.heap.size,0,none⟩ 1 1 [.int .i64 (-1)] rfl rfl (by rw[← hYs];exact cell_one_new _ _ _) (by intro u hu;simp at hu;subst hu;rfl) (by unfold maxLen;omega) (by omega) (by simp;omega) ?_;intro v1 w1 hown1 hgrow1;obtain⟨g1,iI,rfl,hg1⟩:=Za (m:=q+1+1) (by simpa using hown1) (by omega);have hgw:Y.grownBy w1 (some g):=(by first|exact aum hgrow1|exact asg hgrow1);have r0:=(hgw.block w.heap.size (by omega) (by simp;omega)).trans k0;have r1:=(hgw.block (w.heap.size+1) (by omega) (by simp;omega)).trans k1;obtain⟨a00,g00⟩:=fE (i:=0) r0 rfl;obtain⟨a01,g01⟩:=fE (i:=1) r0 rfl;obtain⟨a10,g10⟩:=fE (i:=0) r1 rfl;obtain⟨a11,g11⟩:=fE (i:=1) r1 rfl;have hdw:=(hgw.block d (by omega) (by simp;omega));have cdw:=(World.cell?_of_block (a:=⟨d,m,none⟩) hdw).trans cdY;have fdw:=(World.frozen?_of_block (a:=⟨d,m,none⟩) hdw).trans fdY)
    go_wp2
    all_goals exact ayP _ _ _ _ rfl hown1 hgw
  go_wp2
  all_goals exact apE _ true rfl
end Go.Proofs
end
section
namespace Go.Proofs
open Go.RowKit Go.Vx
set_option maxRecDepth 100000
theorem aaG{α:Type}{d:α}{l:List α}{i:Nat}{x:α}(h:l[i]? = some x):aB d l (i:Int)=x:=by
 obtain⟨h1,rfl⟩:=List.getElem?_eq_some_iff.1 h;simp[aB,h1]
theorem addN(b o i:Nat):(⟨b,o,none⟩:Addr).add i=⟨b,o+i,none⟩:=by unfold Addr.add;split<;>simp_all
theorem ash{h:Array Obj}{I:IS}{β:Nat->Option (Nat×Nat×Array Value)}{objs:List (Option Ob)}{c:Nat}{L:List (List Int)}{v:Value}(hne : ∀ x∈L,0<x.length){w:World}(hw:w.heap=h)
  (r:Rd h I β objs c (.sl 1 (aj.len L) false (λix _=>.sl 1 (aj.len (aj.get [] L ix)) false (λiy _=>.v (.int .i64 (aj.get 0 (aj.get [] L ix) iy))))) v):WG w L v:=by
 subst hw;obtain⟨a,len,cap,rfl,hl,hc,_,hx⟩:=r;have hl:len=L.length:=Int.ofNat.inj hl;subst hl;refine⟨a,cap,rfl,λhn=>?_⟩;have hp:=List.length_pos_iff.2 hn;obtain⟨b,o,cs,e,fr,rfl,_,hb,hcell⟩:=hx (by omega);refine⟨⟨b,o,none⟩,rfl,λi x hi=>?_⟩;have hil:=(List.getElem?_eq_some_iff.1 hi).1;obtain⟨u,hu,_,hr⟩:=hcell i hil 0 (by omega);have hx0:=hne x (List.mem_of_getElem? hi);have e1:aj.get [] L (i:Int)=x:=aaG hi;simp only[e1] at hr;obtain⟨a2,len2,cap2,rfl,hl2,hc2,_,hx2⟩:=hr;have hl2:len2=x.length:=Int.ofNat.inj hl2;subst hl2;obtain⟨b2,o2,cs2,e2,fr2,rfl,_,hb2,hcell2⟩:=hx2 (by omega);refine⟨.slice (some ⟨b2,o2,none⟩) x.length cap2,?_,⟨b2,o2,none⟩,cap2,rfl,hx0,λj y hj=>?_⟩
 . rw[addN];simp only[World.cell?,hb];simpa using hu
 obtain⟨u2,hu2,_,hr2⟩:=hcell2 j (List.getElem?_eq_some_iff.1 hj).1 0 (by omega);have:u2 = .int .i64 y:=by
  have e3:aj.get 0 x (j:Int)=y:=aaG hj;have hr2:u2 = .int .i64 (aj.get 0 x (j:Int)):=hr2;rw[hr2,e3]
 rw[this] at hu2;rw[addN];simp only[World.cell?,hb2];simpa using hu2
theorem an4{w:World}{B n:Nat}{e:TypeId}{v:Value}{xs:List Value}{I:IS}{f:Int->Nat->D}(h:w.ownsRow B e 1 v n xs)(hI : ∀ b,B<=b->b<w.heap.size->I.l b)
  (hf : ∀ (i:Nat) u,xs[i]? = some u->u.oneCell'=true/\Rd w.heap I (λ_=>none) [] 0 (f i 0) u):Rd w.heap I (λ_=>none) [] 0 (.sl 1 (n:Int) false f) v:=by
 have hl:xs.length=n:=by simpa using h.1
 rcases h.2 with⟨rfl,rfl⟩|⟨g,cap,cur,rfl,hb,hg,hn,_,hs,ht⟩
 . exact⟨none,0,0,rfl,rfl,Nat.le_refl _,λh=>(by cases h),λh=>by omega⟩
 refine⟨_,n,cap,rfl,rfl,hn,λh=>(by cases h),λh0=>⟨g,0,cur,e,(0,0),rfl,hI g hb (Array.getElem?_eq_some_iff.1 hg).1,hg,λi hi j hj=>?_⟩⟩;obtain rfl:j=0:=by omega
 obtain⟨u,hu⟩ : ∃ u,xs[i]? = some u:=⟨_,List.getElem?_eq_getElem (by omega)⟩
 refine⟨u,?_,hf i u hu⟩;rw[← ht,List.getElem?_take] at hu;split at hu
 . simpa using hu
 cases hu
theorem asi{w:World}{B:Nat}{L:List (List Int)}{v:Value}{I:IS}(h:Done w B L v)(hI : ∀ b,B<=b->b<w.heap.size->I.l b) :
  Rd w.heap I (λ_=>none) [] 0 (.sl 1 (aj.len L) false (λix _=>.sl 1 (aj.len (aj.get [] L ix)) false (λiy _=>.v (.int .i64 (aj.get 0 (aj.get [] L ix) iy))))) v:=by
 obtain⟨us,h1,h2⟩:=h;have hul:us.length=L.length:=by simpa using h1.1
 refine an4 h1 hI λi u hu=>?_;obtain⟨x,hx⟩ : ∃ x,L[i]? = some x:=⟨_,List.getElem?_eq_getElem (by rw[← hul];exact(List.getElem?_eq_some_iff.1 hu).1)⟩
 have h3:=h2 i x u hx hu;refine⟨?_,?_⟩
 . rcases h3.2 with⟨rfl,_⟩|⟨_,_,_,rfl,_⟩<;>rfl
 have e1:aj.get [] L (i:Int)=x:=aaG hx;simp only[e1];refine an4 h3 hI λj y hy=>?_;simp only[iv,List.getElem?_map,Option.map_eq_some_iff] at hy;obtain⟨z,hz,rfl⟩:=hy;exact⟨rfl,by have e2:aj.get 0 x (j:Int)=z:=aaG hz;rw[e2];rfl⟩
theorem afn{f:FuncId}(hfn:aiN Tryz.prog f){p r:dA}{tl:List Value}(hp:rQ p=some true)(hne : ∀ x∈p.fL,0<x.length)
  (hM : ∀ (w:World) (v:Value),WG w p.fL v->adK w (.agg #[v,.bool p.fOpen]) 2 true->Calls Tryz.prog f (.agg #[v,.bool p.fOpen]::tl).toArray w λe w'=>∃ v',e = .returned (.agg #[v',.bool r.fOpen])/\Done w' w.heap.size r.fL v'/\wS w w') :
  d9 Tryz.prog f (.agg 2 (λj=>mG aj p j)::tl.map .v) (.agg 2 (λj=>mG aj r j)):=by
 refine⟨hfn,λw I c0 vs hc hI wJ hlen hargs=>?_⟩;obtain⟨v0,vt,rfl⟩ : ∃ v0 vt,vs=v0::vt:=by
  cases vs with
  | nil=>simp at hlen
  | cons a b=>exact⟨a,b,rfl⟩
 obtain⟨y0,e0,a0⟩:=hargs 0 _ rfl;cases e0;have hvt:vt=tl:=by
  apply List.ext_getElem
  . simpa using hlen
  intro i h1 h2;obtain⟨y,e1,a1⟩:=hargs (i+1) (.v tl[i]) (by simp[h2]);have a1:y=tl[i]:=a1;simp[h1] at e1;rw[e1,a1]
 subst hvt;have a00:=a0;obtain⟨ys,rfl,hys,hj⟩:=a0;obtain⟨z0,f0,_,hz0⟩:=hj 0 (by omega);obtain⟨z1,f1,_,rfl⟩:=hj 1 (by omega);have hyy:ys = #[z0,.bool p.fOpen]:=by
  apply Array.ext
  . rw[hys];rfl
  intro i h1 h2;have:i=0\/i=1:=by simp at h2;omega
  rcases this with rfl|rfl
  . rw[Array.getElem?_eq_getElem h1] at f0;exact Option.some.inj f0
  rw[Array.getElem?_eq_getElem h1] at f1;exact Option.some.inj f1
 subst hyy;have H:=UK p true hp;refine(hM w z0 (ash hne rfl hz0) λW s1 s2 s3=>?_).mono ?_
 . have hb : ∀ b,I b->W.heap[b]? = w.heap[b]?:=λb hb=>s2 b (hI b hb);refine(H.2 W I c0 [.agg #[z0,.bool p.fOpen]] hc (λb hb=>by have:=hI b hb;omega) (wJ.mono (λ_ h=>h) hb) rfl (λt d ht=>?_)).mono ?_
   . cases t with
     | zero=>
      cases ht;exact⟨_,rfl,Rd.mono ⟨λ_ h=>h,hb,λ_ h=>h,λ_ _ h=>h,λ_ _ _ o' ho' _ _=>by simp at ho'⟩ _ _ a00⟩
     | succ t=>cases ht
   rintro e W' ⟨v,I',rfl,i1,i2,i3,i4,i5,i6⟩;have i6:v = .bool true:=i6;subst i6;exact⟨rfl,i5.1,i5.2,i4,i3⟩
 rintro e w' ⟨v',rfl,hd,hg⟩;refine⟨_,I.or λk=>w.heap.size<=k/\k<w'.heap.size,rfl,IS.CX _ _,⟨λk hk=>?_,λk hk=>?_⟩,hg.block,hg.size,⟨hg.os,hg.output⟩,_,rfl,rfl,λj hj=>?_⟩
 . rcases hk with hk|hk
   . exact⟨by have:=hI k hk;have:=hg.size;omega,.inl hk⟩
   exact⟨by omega,.inr (by omega)⟩
 . rcases hk with hk|hk
   . exact .inl hk
   exact .inr (by omega)
 match j,hj with
 | 0,_=>exact⟨v',rfl,by obtain⟨us,h1,_⟩:=hd;rcases h1.2 with⟨rfl,_⟩|⟨_,_,_,rfl,_⟩<;>rfl,asi hd λb h1 h2=>.inr ⟨h1,h2⟩⟩
 | 1,_=>exact⟨_,rfl,rfl,rfl⟩
end Go.Proofs
end
section
namespace Go.Proofs
open Go.RowKit Go.Vx
set_option maxRecDepth 100000
theorem WH{p:dA}{c:Bool}{r q:dA}(h:VG p c r=some q):q=r/\c=true/\rQ p=some true/\p.fL.length<=1000/\(p.fL=[]->p.fOpen=false)/\∀ x∈p.fL,x.length<=1000/\0<x.length/\∀ y∈x,-1<=y/\y<=65535:=by
 unfold VG at h;split at h
 . rename_i hc;rw[Bool.and_eq_true] at hc;cases hs:rQ p with
   | none=>rw[hs] at h;cases h
   | some b=>
    rw[hs] at h;cases b
    . cases h
    refine⟨(Option.some.inj h).symm,hc.2,rfl,?_⟩;have:=hc.1;unfold ahk at this;simp only[Bool.and_eq_true,decide_eq_true_eq,List.all_eq_true,Bool.or_eq_true,Bool.not_eq_true'] at this;exact⟨this.1.1,λe=>by simpa[e] using this.1.2,λx hx=>⟨(this.2 x hx).1.1,(this.2 x hx).1.2,(this.2 x hx).2⟩⟩
 cases h
theorem adM(p:dA)(c:Int)(r:dA)(h:Ic p c=some r):d9 Tryz.prog 308 [.agg 2 (λj=>mG aj p j),.v (.int .u8 c)] (.agg 2 (λj=>mG aj r j)):=by
 obtain⟨rfl,hc,hs,h1,h0,h2⟩:=WH h;simp only[Bool.and_eq_true,decide_eq_true_eq] at hc;exact afn (tl:=[.int .u8 c]) ⟨_,Tryz.func308,by kernel_rfl,by kernel_rfl⟩ hs (λx hx=>(h2 x hx).2.1) λw v hv hS=>aug _ _ v c w hv h0 h1 h2 hc.1 hc.2 hS
theorem afo(p:dA)(r:dA)(h:Lp p=some r):d9 Tryz.prog 306 [.agg 2 (λj=>mG aj p j)] (.agg 2 (λj=>mG aj r j)):=by
 obtain⟨rfl,_,hs,h1,h0,h2⟩:=WH h;exact afn (tl:=[]) ⟨_,Tryz.func306,by kernel_rfl,by kernel_rfl⟩ hs (λx hx=>(h2 x hx).2.1) λw v hv hS=>awE _ _ v w hv h0 h1 (λx hx=>⟨(h2 x hx).1,(h2 x hx).2.1⟩) hS
theorem ag2(p:dA)(r:dA)(h:N7 p=some r):d9 Tryz.prog 307 [.agg 2 (λj=>mG aj p j)] (.agg 2 (λj=>mG aj r j)):=by
 obtain⟨rfl,_,hs,h1,h0,h2⟩:=WH h;exact afn (tl:=[]) ⟨_,Tryz.func307,by kernel_rfl,by kernel_rfl⟩ hs (λx hx=>(h2 x hx).2.1) λw v hv hS=>ayO _ _ v w hv h0 h1 (λx hx=>⟨(h2 x hx).1,(h2 x hx).2.1⟩) hS _ rfl
end Go.Proofs
end
