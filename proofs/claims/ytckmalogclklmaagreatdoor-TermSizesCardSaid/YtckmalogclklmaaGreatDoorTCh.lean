/- The rows above: the iterator, walked for every loop body that keeps what lay below. -/
import Derived.Test.YtckmalogclklmaaGreatDoorTHead
import Derived.RangeFuncNested
import Derived.RangeFuncBound
import Derived.RangeFuncCalls
import Derived.RangeFuncLeaves
import Derived.Shelf.Abstract
import Derived.Shelf.RegionOpen
import Derived.WalkKit
import Derived.OwnWalkIn
import Derived.TacticsInMore
import Derived.LoopNIn
import Derived.LoopIn
import Derived.Deep.RegionHeld
import Derived.RegionIn
import Derived.BigRegionIn
set_option linter.all false
section
namespace Go.Proofs
open Go.RowKit Go.Shelf
attribute [local go_sem] Oper.semAt_some
def mU (q:Nat→Bool):Nat→Nat→List Int
 | _,0=>[]
 | 0,_=>[]
 | n+1,x+1=>if q x=true then (x:Int) :: mU q n x else []
def kI (q:Nat→Bool) (len:Nat):Nat→Nat→List Int
 | 0,_=>[]
 | n+1,x=>if x < len∧q (x-1)=true then (x:Int) :: kI q len n (x+1) else []
structure nu (n₀ By Bl:Nat) (A B:World):Prop where
 low:Below n₀ A B
 hy:B.heap[By]? = A.heap[By]?
 hl:B.heap[Bl]? = A.heap[Bl]?
theorem U2 {A B:World} {k:Nat} {v:Value} (h:B.heap[k]? = A.heap[k]?) (hc:A.cell? ⟨k,0,none⟩=some v):B.cell? ⟨k,0,none⟩=some v:=by
 rw [← hc];simp [World.cell?,h]
theorem nu.refl (n₀ By Bl:Nat) (A:World):nu n₀ By Bl A A:=⟨Below.refl _ _,rfl,rfl⟩
theorem nu.trans {n₀ By Bl:Nat} {A B C:World} (h:nu n₀ By Bl A B) (h':nu n₀ By Bl B C):nu n₀ By Bl A C:=⟨h.low.trans h'.low,h'.hy.trans h.hy,h'.hl.trans h.hl⟩
set_option maxRecDepth 100000 in
set_option maxHeartbeats 4000000 in
theorem afg (F:Fence) (n:Nat) (h6:F.fn 260) (hro:F.round=none) (hn:1≤n) (l By Bl n₀ y len cap:Nat) (a:Option Addr) (q:Nat→Bool) (hy:y≤len) (hlen:len < 4611686018427387904) (J Jx:List Int→World→Prop)
  (hY : ∀ pre x W,J pre W→pre.length < 31→YieldAt F (n-1) Tryz.prog l #[.int .i64 x] W fun e W' =>
   (e = .returned (.bool true)∧J (pre++[x]) W'∧nu n₀ By Bl W W')∨(e = .returned (.bool false)∧Jx (pre++[x]) W'))
  (W:World) (hcy:W.cell? ⟨By,0,none⟩=some (.int .i64 y)) (hcl:W.cell? ⟨Bl,0,none⟩=some (.slice a len cap))
  (hc:0 < len→∃ b off,a=some ⟨b,off,none⟩∧b < n₀∧∀ j,j < len→W.cell? ⟨b,off+j*4+1,none⟩=some (.bool (q j))) (h0:J [] W) :
  CallsIn F n Tryz.prog 260 #[.func (.yield l) #[] #[],.pointer (some ⟨By,0,none⟩),.pointer (some ⟨Bl,0,none⟩)] W fun e W'=>(∃ v,e = .returned v) ∧
   ((∃ ys,ys=mU q 31 y∧J ys W')∨(∃ pre,pre <+: mU q 31 y∧Jx pre W')):=by
 refine callsIn_of_wp Tryz.func260 rfl h6 ?_ hro
 simp only [Tryz.ntmps260,List.size_toArray,List.length_cons,List.length_nil,Nat.reduceAdd,Nat.reduceSub,Array.replicate_succ,Array.replicate_zero,List.push_toArray,List.append_toArray,List.nil_append,List.cons_append]
 gi_wp2
 gi_loopw [4] (fun p wr=>∃ (x k:Nat) (pre:List Int),p = .int .i64 ((x:Int)-1)∧x+k=y∧k≤31∧pre.length=k∧pre++mU q (31-k) x=mU q 31 y∧J pre wr∧nu n₀ By Bl W wr)
  (fun p _=>(intOf p+1).toNat)
 case atStart=>exact ⟨y,0,[],by simp,rfl,by omega,rfl,rfl,h0,nu.refl _ _ _ _⟩
 case round =>
  obtain ⟨x,k,pre,rfl,hx,hk,hl,he,hJs,hB⟩:=hrel
  have aod:=U2 hB.hy hcy
  have hcl':=U2 hB.hl hcl
  cases x with
  | zero =>
   gi_wp2
   go_end0
   refine ⟨⟨_,rfl⟩,.inl ⟨pre,?_,hJs⟩⟩
   rw [← he];cases h:31-k<;>simp [mU]
  | succ x =>
   obtain ⟨b,off,rfl,hb,hc⟩:=hc (by omega)
   have hcx:=(hB.low.cell (p:=⟨b,off+x*4+1,none⟩) hb).trans (hc x (by omega))
   by_cases hk31:k=31
   · gi_wp2
     go_end0
     have hJ':J (mU q 31 y) wr:=by
      have e:pre=mU q 31 y:=by rw [← he,hk31];simp [mU]
      exact e ▸ hJs
     first
      | exact ⟨⟨_,rfl⟩,.inl ⟨_,rfl,hJ'⟩⟩
      | exact ⟨⟨_,rfl⟩,.inl hJ'⟩
   · have e31:31-k=(30-k)+1:=by omega
     rw [e31] at he
     cases hq:q x with
     | false =>
      rw [hq] at hcx
      gi_wp2
      go_end0
      refine ⟨⟨_,rfl⟩,.inl ⟨pre,?_,hJs⟩⟩
      rw [← he];simp [mU,hq]
     | true =>
      rw [hq] at hcx
      obtain ⟨fn,tmps,assign,body,hy,hR⟩:=hY pre x wr hJs (by omega)
      gi_wp2
      have hp:(pre++[(x:Int)])++mU q (30-k) x=mU q 31 y:=by rw [← he];simp [mU,hq]
      refine hR.mono ?_
      rintro e W3 (⟨rfl,hJ3,hk3⟩ | ⟨rfl,hJx3⟩)
      · gi_wp2
        go_roundw
        case rel=>exact ⟨x,k+1,pre++[(x:Int)],by simp,by omega,by omega,by simp [hl],by rw [← hp,show 31-(k+1)=30-k by omega],hJ3,hB.trans hk3⟩
        case measure=>simp [intOf]<;>omega
      · gi_wp2
        refine bodyPost_ret (results_none rfl _ _ _) rfl ?_
        exact ⟨⟨_,rfl⟩,.inr ⟨pre++[(x:Int)],⟨_,hp⟩,hJx3⟩⟩
set_option maxRecDepth 100000 in
set_option maxHeartbeats 4000000 in
theorem afh (F:Fence) (n:Nat) (h6:F.fn 261) (hro:F.round=none) (hn:1≤n) (l By Bl n₀ y len cap:Nat) (a:Option Addr) (q:Nat→Bool) (hy:y≤len) (hlen:len < 4611686018427387904) (J Jx:List Int→World→Prop)
  (hY : ∀ pre x W,J pre W→pre.length < 32→YieldAt F (n-1) Tryz.prog l #[.int .i64 x] W fun e W' =>
   (e = .returned (.bool true)∧J (pre++[x]) W'∧nu n₀ By Bl W W')∨(e = .returned (.bool false)∧Jx (pre++[x]) W'))
  (W:World) (hcy:W.cell? ⟨By,0,none⟩=some (.int .i64 y)) (hcl:W.cell? ⟨Bl,0,none⟩=some (.slice a len cap))
  (hc:0 < len→∃ b off,a=some ⟨b,off,none⟩∧b < n₀∧∀ j,j < len→W.cell? ⟨b,off+j*4+1,none⟩=some (.bool (q j))) (h0:J [] W) :
  CallsIn F n Tryz.prog 261 #[.func (.yield l) #[] #[],.pointer (some ⟨By,0,none⟩),.pointer (some ⟨Bl,0,none⟩)] W fun e W'=>(∃ v,e = .returned v) ∧
   ((∃ ys,ys=kI q len 32 (y+1)∧J ys W')∨(∃ pre,pre <+: kI q len 32 (y+1)∧Jx pre W')):=by
 refine callsIn_of_wp Tryz.func261 rfl h6 ?_ hro
 simp only [Tryz.ntmps261,List.size_toArray,List.length_cons,List.length_nil,Nat.reduceAdd,Nat.reduceSub,Array.replicate_succ,Array.replicate_zero,List.push_toArray,List.append_toArray,List.nil_append,List.cons_append]
 gi_wp2
 gi_loopw [4] (fun p wr=>∃ (x k:Nat) (pre:List Int),p = .int .i64 ((x:Int)+1)∧y+k=x∧x≤len∧k≤32∧pre.length=k∧pre++kI q len (32-k) (x+1)=kI q len 32 (y+1)∧J pre wr∧nu n₀ By Bl W wr)
  (fun p _=>(len+2-intOf p).toNat)
 case atStart=>exact ⟨y,0,[],by simp,rfl,hy,by omega,rfl,rfl,h0,nu.refl _ _ _ _⟩
 case round =>
  obtain ⟨x,k,pre,rfl,hx,hxl,hk,hl,he,hJs,hB⟩:=hrel
  have aod:=U2 hB.hy hcy
  have hcl':=U2 hB.hl hcl
  have fin:(∀ n,kI q len (32-k) (x+1)=[])→J (kI q len 32 (y+1)) wr:=fun h=>by rw [← he,h 0,List.append_nil];exact hJs
  by_cases hlt:x+1 < len
  · obtain ⟨b,off,rfl,hb,hc⟩:=hc (by omega)
    have hcx:=(hB.low.cell (p:=⟨b,off+x*4+1,none⟩) hb).trans (hc x (by omega))
    by_cases aoe:k=32
    · have hJ':=fin (fun _=>by rw [aoe];rfl)
      gi_wp2
      go_end0
      first
       | exact ⟨⟨_,rfl⟩,.inl ⟨_,rfl,hJ'⟩⟩
       | exact ⟨⟨_,rfl⟩,.inl hJ'⟩
    · have e32:32-k=(31-k)+1:=by omega
      cases hq:q x with
      | false =>
       have hJ':=fin (fun _=>by rw [e32];simp [kI,hq])
       rw [hq] at hcx
       gi_wp2
       go_end0
       first
        | exact ⟨⟨_,rfl⟩,.inl ⟨_,rfl,hJ'⟩⟩
        | exact ⟨⟨_,rfl⟩,.inl hJ'⟩
      | true =>
       rw [hq] at hcx
       obtain ⟨fn,tmps,assign,body,hy,hR⟩:=hY pre (x+1:Int) wr hJs (by omega)
       have hp:(pre++[(x+1:Int)])++kI q len (31-k) (x+1+1)=kI q len 32 (y+1):=by rw [← he,e32];simp [kI,hq,hlt]
       gi_wp2
       refine hR.mono ?_
       rintro e W3 (⟨rfl,hJ3,hk3⟩ | ⟨rfl,hJx3⟩)
       · gi_wp2
         go_roundw
         case rel=>exact ⟨x+1,k+1,pre++[(x+1:Int)],by simp,by omega,by omega,by omega,by simp [hl],by rw [← hp,show 32-(k+1)=31-k by omega],hJ3,hB.trans hk3⟩
         case measure=>simp [intOf]<;>omega
       · gi_wp2
         refine bodyPost_ret (results_none rfl _ _ _) rfl ?_
         exact ⟨⟨_,rfl⟩,.inr ⟨pre++[(x+1:Int)],⟨_,hp⟩,hJx3⟩⟩
  · have hJ':=fin (fun _=>by cases 32-k<;>simp [kI,hlt])
    gi_wp2
    go_end0
    first
     | exact ⟨⟨_,rfl⟩,.inl ⟨_,rfl,hJ'⟩⟩
     | exact ⟨⟨_,rfl⟩,.inl hJ'⟩
set_option maxHeartbeats 1000000 in
theorem afi (F:Fence) (n:Nat) (h5:F.fn 162) (hro:F.round=none) (a:Option Addr) (len cap:Nat) (y:Int) (w:World) :
  CallsIn F n Tryz.prog 162 #[.slice a len cap,.int .i64 y] w fun e w'=>e = .returned (.func (.func 260) #[] #[.pointer (some ⟨w.heap.size+1,0,none⟩),.pointer (some ⟨w.heap.size,0,none⟩)])∧w'=(w.alloc (.cells #[.slice a len cap] 30)).alloc (.cells #[.int .i64 y] 3):=by
 refine callsIn_of_wp Tryz.func162 rfl h5 ?_ hro
 simp only [Tryz.ntmps162,List.size_toArray,List.length_cons,List.length_nil,Nat.reduceAdd,Nat.reduceSub,Array.replicate_succ,Array.replicate_zero,List.push_toArray,List.append_toArray,List.nil_append,List.cons_append]
 gi_wp2
 go_ret
 exact ⟨rfl,rfl⟩
set_option maxHeartbeats 1000000 in
theorem afj (F:Fence) (n:Nat) (h5:F.fn 163) (hro:F.round=none) (a:Option Addr) (len cap:Nat) (y:Int) (w:World) :
  CallsIn F n Tryz.prog 163 #[.slice a len cap,.int .i64 y] w fun e w'=>e = .returned (.func (.func 261) #[] #[.pointer (some ⟨w.heap.size+1,0,none⟩),.pointer (some ⟨w.heap.size,0,none⟩)])∧w'=(w.alloc (.cells #[.slice a len cap] 30)).alloc (.cells #[.int .i64 y] 3):=by
 refine callsIn_of_wp Tryz.func163 rfl h5 ?_ hro
 simp only [Tryz.ntmps163,List.size_toArray,List.length_cons,List.length_nil,Nat.reduceAdd,Nat.reduceSub,Array.replicate_succ,Array.replicate_zero,List.push_toArray,List.append_toArray,List.nil_append,List.cons_append]
 gi_wp2
 go_ret
 exact ⟨rfl,rfl⟩
def JV (n₀:Nat) (w:World) (a:Option Addr) (len:Nat) (q:Nat→Bool):Prop:=0 < len→∃ b off,a=some ⟨b,off,none⟩∧b < n₀∧∀ j,j < len→w.cell? ⟨b,off+j*4+1,none⟩=some (.bool (q j))
theorem JV.below {n₀:Nat} {A B:World} (h:Below n₀ A B) {a:Option Addr} {len:Nat} {q:Nat→Bool} (H:JV n₀ A a len q):JV n₀ B a len q:=fun hl=>by
 obtain ⟨b,off,e,hb,hc⟩:=H hl
 exact ⟨b,off,e,hb,fun j hj=>(h.cell (p:=⟨b,off+j*4+1,none⟩) hb).trans (hc j hj)⟩
theorem ahy (F:Fence) (n:Nat) (h6:F.fn 260) (hro:F.round=none) (hn:1≤n) (By Bl n₀ y len cap:Nat) (a:Option Addr) (q:Nat→Bool) (hy:y≤len) (hlen:len < 4611686018427387904) (w:World) (hBy:By < w.heap.size) (hBl:Bl < w.heap.size) (hn₀:n₀≤w.heap.size)
  (hcy:w.cell? ⟨By,0,none⟩=some (.int .i64 y)) (hcl:w.cell? ⟨Bl,0,none⟩=some (.slice a len cap)) (hc:JV n₀ w a len q) :
  SeqStopsK F n Tryz.prog 260 #[.pointer (some ⟨By,0,none⟩),.pointer (some ⟨Bl,0,none⟩)] (fun x:Int=>#[Value.int .i64 x]) (nu n₀ By Bl) (fun ys=>ys=mU q 31 y) (fun pre=>pre <+: mU q 31 y) 31 w:=fun l J Jx W hW _ _ hY h0 =>
 afg F n h6 hro hn l By Bl n₀ y len cap a q hy hlen J Jx hY W ((hW.cell (p:=⟨By,0,none⟩) hBy).trans hcy) ((hW.cell (p:=⟨Bl,0,none⟩) hBl).trans hcl) (hc.below (hW.mono hn₀)) h0
theorem ahz (F:Fence) (n:Nat) (h6:F.fn 261) (hro:F.round=none) (hn:1≤n) (By Bl n₀ y len cap:Nat) (a:Option Addr) (q:Nat→Bool) (hy:y≤len) (hlen:len < 4611686018427387904) (w:World) (hBy:By < w.heap.size) (hBl:Bl < w.heap.size) (hn₀:n₀≤w.heap.size)
  (hcy:w.cell? ⟨By,0,none⟩=some (.int .i64 y)) (hcl:w.cell? ⟨Bl,0,none⟩=some (.slice a len cap)) (hc:JV n₀ w a len q) :
  SeqStopsK F n Tryz.prog 261 #[.pointer (some ⟨By,0,none⟩),.pointer (some ⟨Bl,0,none⟩)] (fun x:Int=>#[Value.int .i64 x]) (nu n₀ By Bl) (fun ys=>ys=kI q len 32 (y+1)) (fun pre=>pre <+: kI q len 32 (y+1)) 32 w:=fun l J Jx W hW _ _ hY h0 =>
 afh F n h6 hro hn l By Bl n₀ y len cap a q hy hlen J Jx hY W ((hW.cell (p:=⟨By,0,none⟩) hBy).trans hcy) ((hW.cell (p:=⟨Bl,0,none⟩) hBl).trans hcl) (hc.below (hW.mono hn₀)) h0
end Go.Proofs
end
section
namespace Go.Proofs
open Go.RowKit Go.Shelf
attribute [local go_sem] Oper.semAt_some
theorem alC {W:World} {B:Nat} {v:Value} {t:TypeId} (h:W.heap[B]? = some (.cells #[v] t (0,0))):W.cell? ⟨B,0,none⟩=some v∧W.frozen? ⟨B,0,none⟩=false:=by
 constructor<;>simp [World.cell?,World.frozen?,h]
theorem Rq (W:World) (v:Value) (t:TypeId):(W.alloc (.cells #[v] t)).cell? ⟨W.heap.size,0,none⟩=some v∧(W.alloc (.cells #[v] t)).frozen? ⟨W.heap.size,0,none⟩=false :=
 alC (World.alloc_heap_new W _)
theorem zK {W:World} {a:Addr} {v:Value} (o:Obj) (h:W.cell? a=some v∧W.frozen? a=false):(W.alloc o).cell? a=some v∧(W.alloc o).frozen? a=false :=
 ⟨cell_kept h.1 (World.grownBy_alloc W o none) (fun r e=>by cases e),(frozen_kept h.1 (World.grownBy_alloc W o none) (fun r e=>by cases e)).trans h.2⟩
theorem agG {W:World} {B:Nat} (x:Value) (p:Addr) (v:Value) (hp:p.block≠B) (h:W.cell? ⟨B,0,none⟩=some v∧W.frozen? ⟨B,0,none⟩=false):(W.setCell p x).cell? ⟨B,0,none⟩=some v∧(W.setCell p x).frozen? ⟨B,0,none⟩=false :=
 ⟨(World.cell?_setCell_far W p ⟨B,0,none⟩ x hp).trans h.1,by rw [World.frozen?_setCell];exact h.2⟩
theorem abt {n₀ By Bl:Nat} {w:World} (h:n₀≤w.heap.size) (hy:By < w.heap.size) (hl:Bl < w.heap.size) (W:World) (l:Nat) (o o':Obj) (hS:w.heap.size≤l) (ho:W.heap[l]? = some o) (h1:o.isCells=false) (h2:o.isWalk=false):nu n₀ By Bl W (W.putObj l o'):=by
 have hb:=belowK_b (w:=w) (Nat.le_refl _) W l o o' hS ho h1 h2
 exact ⟨hb.mono h,hb.block _ hy,hb.block _ hl⟩
set_option maxRecDepth 100000 in
set_option maxHeartbeats 4000000 in
theorem aiq (F:Fence) (n:Nat) (h30:F.fn 111) (h47:F.fn 162) (h48:F.fn 163) (h73:F.fn 260) (Zf:F.fn 261) (hro:F.round=none) (hn:3≤n) (y len cap:Nat) (a:Option Addr) (q:Nat→Bool) (hy:y≤len) (hlen:len < 4611686018427387904) (w:World) (hc:JV w.heap.size w a len q) :
  CallsIn F n Tryz.prog 111 #[.slice a len cap,.int .i64 y] w fun e W'=>e = .returned (.tuple #[.int .i64 ((mU q 31 y).foldl (fun _ i=>i) (y:Int)),.int .i64 ((kI q len 32 (y+1)).foldl (fun _ i=>wrap64 (i+1)) (y+1:Int))])∧Below w.heap.size w W':=by
 have h1:1≤n:=by omega
 refine callsIn_of_wp_marks Tryz.func111 rfl h30 ?_ hro
 simp only [Tryz.ntmps111,List.size_toArray,List.length_cons,List.length_nil,Nat.reduceAdd,Nat.reduceSub,Array.replicate_succ,Array.replicate_zero,List.push_toArray,List.append_toArray,List.nil_append,List.cons_append]
 gi_wp2_with (gi_at_call 162;refine (afi F (n-1) h47 hro _ _ _ _ _).mono ?_;rintro e w' ⟨rfl,rfl⟩)
 obtain ⟨W1,hW1⟩ : ∃ W1,(w.alloc (.cells #[.int .i64 y] 3)).alloc (.cells #[.int .i64 ((y:Int)+1)] 3)=W1:=⟨_,rfl⟩
 have s1:W1.heap.size=w.heap.size+2:=by rw [← hW1];simp
 have c6:W1.cell? ⟨w.heap.size,0,none⟩=some (.int .i64 y)∧W1.frozen? ⟨w.heap.size,0,none⟩=false:=by rw [← hW1];exact zK _ (Rq w _ 3)
 have c7:W1.cell? ⟨w.heap.size+1,0,none⟩=some (.int .i64 ((y:Int)+1))∧W1.frozen? ⟨w.heap.size+1,0,none⟩=false:=by
  rw [← hW1];have:=Rq (w.alloc (.cells #[.int .i64 y] 3)) (.int .i64 ((y:Int)+1)) 3;rwa [World.size_alloc] at this
 have b1:Below w.heap.size w W1:=by rw [← hW1];exact ((Below.refl _ w).alloc (Nat.le_refl _) _).alloc (by simp) _
 obtain ⟨W2,hW2⟩ : ∃ W2,(W1.alloc (.cells #[.slice a len cap] 30)).alloc (.cells #[.int .i64 y] 3)=W2:=⟨_,rfl⟩
 have s2:W2.heap.size=w.heap.size+4:=by rw [← hW2];simp [s1]
 have d6:W2.cell? ⟨w.heap.size,0,none⟩=some (.int .i64 y)∧W2.frozen? ⟨w.heap.size,0,none⟩=false:=by rw [← hW2];exact zK _ (zK _ c6)
 have d7:W2.cell? ⟨w.heap.size+1,0,none⟩=some (.int .i64 ((y:Int)+1))∧W2.frozen? ⟨w.heap.size+1,0,none⟩=false:=by rw [← hW2];exact zK _ (zK _ c7)
 have dl:W2.cell? ⟨w.heap.size+2,0,none⟩=some (.slice a len cap)∧W2.frozen? ⟨w.heap.size+2,0,none⟩=false:=by
  rw [← hW2];have:=zK (.cells #[.int .i64 y] 3) (Rq W1 (.slice a len cap) 30);rwa [s1] at this
 have dy:W2.cell? ⟨w.heap.size+3,0,none⟩=some (.int .i64 y)∧W2.frozen? ⟨w.heap.size+3,0,none⟩=false:=by
  rw [← hW2];have:=Rq (W1.alloc (.cells #[.slice a len cap] 30)) (.int .i64 y) 3;rwa [World.size_alloc,s1] at this
 have b2:Below w.heap.size w W2:=by rw [← hW2];exact (b1.alloc (by omega) _).alloc (by simp;omega) _
 simp only [hW1,hW2]
 refine wpIn_rangeFunc_ownF hro h1 (gf:=260) (lb:=#[.pointer (some ⟨w.heap.size+3,0,none⟩),.pointer (some ⟨w.heap.size+2,0,none⟩)]) rfl h73 (enters_of Tryz.func260 (by kernel_rfl) rfl)
  (ahy F (n-1) h73 hro (by omega) (w.heap.size+3) (w.heap.size+2) w.heap.size y len cap a q hy hlen W2 (by omega) (by omega) (by omega) dy.1 dl.1 (hc.below b2)) nu.trans (abt (by omega) (by omega) (by omega)) (Below.refl _ _) (fun _=>rfl)
  (fun pre W=>((W.cell? ⟨w.heap.size,0,none⟩=some (.int .i64 (pre.foldl (fun _ i=>i) (y:Int)))∧W.frozen? ⟨w.heap.size,0,none⟩=false)∧W.cell? ⟨w.heap.size+1,0,none⟩=some (.int .i64 ((y:Int)+1))∧W.frozen? ⟨w.heap.size+1,0,none⟩=false)∧Below w.heap.size w W)
  (fun _ _ _=>False)
  (OwnFrom.and (Own.from (fun s A B row hs hg hr=>⟨⟨cell_kept hs.1.1 hg hr,(frozen_kept hs.1.1 hg hr).trans hs.1.2⟩,cell_kept hs.2.1 hg hr,(frozen_kept hs.2.1 hg hr).trans hs.2.2⟩) _) (ownFrom_below (Nat.le_refl _) (by omega)))
  (fun _ _ _ _ _ hs _ _=>hs)
  ⟨⟨d6,d7⟩,b2⟩
  (fun x=>{ tmps:=#[.slice a len cap,.int .i64 y,undef,undef,.int .i64 0,.int .i64 0,.pointer (some ⟨w.heap.size,0,none⟩),.pointer (some ⟨w.heap.size+1,0,none⟩),.int .i64 x,undef,.int .i64 y,.int .i64 y,.int .i64 ((y:Int)+1),.slice a len cap,.int .i64 y,
   .func (.func 260) #[] #[.pointer (some ⟨w.heap.size+1+1+1,0,none⟩),.pointer (some ⟨w.heap.size+1+1,0,none⟩)],.int .i64 x,undef,undef,undef,undef,undef,undef,undef,undef,undef],defers:=[] }) ?assign ?body ?done ?stop
 case assign =>
  intro l x W K hK
  gi_wp2
  exact hK
 case stop =>
  rintro D c pre W _ _ h _
  exact h.elim
 case body =>
  rintro l pre x W ⟨⟨h6,h7⟩,hB⟩ _
  have h61:=h6.1
  have h62:=h6.2
  gi_wp2
  refine ⟨KeepsOthers.setCell _ _ _,⟨(Below.refl _ W).setCell (p:=⟨w.heap.size,0,none⟩) (Nat.le_refl _) _,?_,?_⟩,⟨⟨?_,?_⟩,agG _ _ _ (by simp) h7⟩,hB.setCell (p:=⟨w.heap.size,0,none⟩) (Nat.le_refl _) _⟩
  · exact Below.heap_setCell _ _ _ _ (by simp)
  · exact Below.heap_setCell _ _ _ _ (by simp)
  · rw [List.foldl_append];exact World.cell?_setCell_same' _ _ _ (by rw [h61];rfl)
  · rw [World.frozen?_setCell];exact h62
 case done =>
  rintro D ys W hD rfl ⟨⟨h6,h7⟩,hB⟩ hK
  gi_wp2_with (gi_at_call 163;refine (afj F (n-1) h48 hro _ _ _ _ _).mono ?_;rintro e w' ⟨rfl,rfl⟩)
  have hDlt:D < W.heap.size:=(Array.getElem?_eq_some_iff.1 hK).1
  obtain ⟨V,hV⟩ : ∃ V,(W.alloc (.cells #[.slice a len cap] 30)).alloc (.cells #[.int .i64 y] 3)=V:=⟨_,rfl⟩
  have sV:V.heap.size=W.heap.size+2:=by rw [← hV];simp
  have e6:V.cell? ⟨w.heap.size,0,none⟩=some (.int .i64 ((mU q 31 y).foldl (fun _ i=>i) (y:Int)))∧V.frozen? ⟨w.heap.size,0,none⟩=false:=by rw [← hV];exact zK _ (zK _ h6)
  have e7:V.cell? ⟨w.heap.size+1,0,none⟩=some (.int .i64 ((y:Int)+1))∧V.frozen? ⟨w.heap.size+1,0,none⟩=false:=by rw [← hV];exact zK _ (zK _ h7)
  have el:V.cell? ⟨W.heap.size,0,none⟩=some (.slice a len cap):=by rw [← hV];exact (zK _ (Rq W _ 30)).1
  have ey:V.cell? ⟨W.heap.size+1,0,none⟩=some (.int .i64 y):=by rw [← hV];have:=Rq (W.alloc (.cells #[.slice a len cap] 30)) (.int .i64 y) 3;rw [World.size_alloc] at this;exact this.1
  have hBV:Below W.heap.size W V:=by rw [← hV];exact ((Below.refl _ W).alloc (Nat.le_refl _) _).alloc (by simp) _
  have hDV:V.heap[D]? = some (.deferred (some [])):=(hBV.block D hDlt).trans hK
  have b3:Below w.heap.size w V:=hB.trans (hBV.mono hB.size)
  have hs2:w.heap.size+4≤W.heap.size:=by omega
  simp only [hV]
  refine wpIn_rangeFunc_ownF hro h1 (gf:=261) (lb:=#[.pointer (some ⟨W.heap.size+1,0,none⟩),.pointer (some ⟨W.heap.size,0,none⟩)]) rfl Zf (enters_of Tryz.func261 (by kernel_rfl) rfl)
   (ahz F (n-1) Zf hro (by omega) (W.heap.size+1) W.heap.size w.heap.size y len cap a q hy hlen V (by omega) (by omega) (by omega) ey el (hc.below b3)) nu.trans (abt (by omega) (by omega) (by omega)) (Below.refl _ _) (fun _=>rfl)
   (fun pre X=>((X.cell? ⟨w.heap.size,0,none⟩=some (.int .i64 ((mU q 31 y).foldl (fun _ i=>i) (y:Int)))∧X.frozen? ⟨w.heap.size,0,none⟩=false)∧X.cell? ⟨w.heap.size+1,0,none⟩=some (.int .i64 (pre.foldl (fun _ i=>wrap64 (i+1)) ((y:Int)+1)))∧X.frozen? ⟨w.heap.size+1,0,none⟩=false)∧Below w.heap.size w X∧X.heap[D]? = some (.deferred (some [])))
   (fun _ _ _=>False)
   (OwnFrom.and (Own.from (fun s A B row hs hg hr=>⟨⟨cell_kept hs.1.1 hg hr,(frozen_kept hs.1.1 hg hr).trans hs.1.2⟩,cell_kept hs.2.1 hg hr,(frozen_kept hs.2.1 hg hr).trans hs.2.2⟩) _)
    (OwnFrom.and (ownFrom_below (Nat.le_refl _) (by omega)) (fun s A B row hs hg hr=>(hg.block D (Array.getElem?_eq_some_iff.1 hs).1 (fun e=>by have:=(hr D e.symm).1;omega)).trans hs)))
   (fun _ _ _ _ _ hs _ _=>hs)
   ⟨⟨e6,e7⟩,b3,hDV⟩
   (fun x=>{ tmps:=#[.slice a len cap,.int .i64 y,undef,undef,.int .i64 0,.int .i64 0,.pointer (some ⟨w.heap.size,0,none⟩),.pointer (some ⟨w.heap.size+1,0,none⟩),undef,.int .i64 x,.int .i64 y,.int .i64 y,.int .i64 ((y:Int)+1),.slice a len cap,.int .i64 y,
    .func (.func 260) #[] #[.pointer (some ⟨w.heap.size+1+1+1,0,none⟩),.pointer (some ⟨w.heap.size+1+1,0,none⟩)],undef,undef,.slice a len cap,.int .i64 y,.func (.func 261) #[] #[.pointer (some ⟨W.heap.size+1,0,none⟩),.pointer (some ⟨W.heap.size,0,none⟩)],.int .i64 x,undef,undef,undef,undef],defers:=[] }) ?assign2 ?alD ?alE ?alF
  case assign2 =>
   intro l x X K hK
   gi_wp2
   exact hK
  case alF =>
   rintro D c pre W _ _ h _
   exact h.elim
  case alD =>
   rintro l pre x X ⟨⟨h6,h7⟩,hB,hX⟩ _
   have XY:=h7.1
   have h72:=h7.2
   gi_wp2
   refine ⟨KeepsOthers.setCell _ _ _,⟨(Below.refl _ X).setCell (p:=⟨w.heap.size+1,0,none⟩) (by simp) _,?_,?_⟩,⟨agG _ _ _ (by simp) h6,?_,?_⟩,hB.setCell (p:=⟨w.heap.size+1,0,none⟩) (by simp) _,(KeepsOthers.setCell _ _ _).same D _ hX rfl⟩
   · exact Below.heap_setCell _ _ _ _ (by simp;omega)
   · exact Below.heap_setCell _ _ _ _ (by simp;omega)
   · rw [List.foldl_append];exact World.cell?_setCell_same' _ _ _ (by rw [XY];rfl)
   · rw [World.frozen?_setCell];exact h72
  case alE =>
   rintro D2 ys X hD2 rfl ⟨⟨h6,h7⟩,hB2,hX⟩ hK2
   have h61:=h6.1
   have XY:=h7.1
   gi_wp2
   gi_region
   all_goals gi_wp2
   all_goals
    have hwD:w.heap.size≤D:=by omega
    have hB3:Below w.heap.size w X.drew:=hB2.drew
    have hsV:w.heap.size≤D2:=by omega
    have hK3:X.drew.heap[D2]? = some (.deferred (some [])):=hK2
    have hb1:=belowK_b (w:=w) (Nat.le_refl _) X.drew D2 _ (.deferred none) hsV hK3 rfl rfl
    have hb2:=belowK_b (w:=V) (Nat.le_refl _) X.drew D2 _ (.deferred none) (by omega) hK3 rfl rfl
    have hX':(X.drew.putObj D2 (.deferred none)).heap[D]? = some (.deferred (some [])):=(hb2.block D (by omega)).trans hX
    have hb3:=belowK_b (w:=w) (Nat.le_refl _) _ D _ (.deferred none) hwD hX' rfl rfl
    refine ⟨by simp,.inl ⟨_,_,rfl,run_takeDeferred hK3,by simp,.inl ⟨_,_,rfl,run_takeDeferred hX',?_⟩⟩⟩
    refine ⟨_,?_,rfl,(hB3.trans hb1).trans hb3⟩
    simp [results,Tryz.f111,go_sem]
end Go.Proofs
end
section
namespace Go.Proofs
open Go.RowKit Go.Shelf Go.Vx
theorem abu (l:List aQ) : ∀ (n x:Nat),(mU (fun j=>(au aA l (j:Int)).bX) n x).foldl (fun _ i=>i) (x:Int)=JW l n x
 | 0,0=>rfl
 | 0,x+1=>rfl
 | n+1,0=>by simp [mU,JW]
 | n+1,x+1=>by
  unfold mU JW
  rw [show ((x+1:Nat):Int)-1=(x:Int) by omega]
  by_cases h:(au aA l (x:Int)).bX=true
  · rw [if_pos h,if_pos ⟨by omega,h⟩];exact abu l n x
  · rw [if_neg h,if_neg (fun e=>h e.2)];rfl
theorem XZ (l:List aQ) (hl:l.length < 4611686018427387904) : ∀ (n x:Nat),(kI (fun j=>(au aA l (j:Int)).bX) l.length n (x+1)).foldl (fun _ i=>wrap64 (i+1)) ((x+1:Nat):Int)=H9 l n ((x+1:Nat):Int)
 | 0,x=>rfl
 | n+1,x=>by
  unfold kI H9
  rw [show ((x+1:Nat):Int)-1=(x:Int) by omega,show x+1-1=x by omega]
  by_cases h:x+1 < l.length∧(au aA l (x:Int)).bX=true
  · rw [if_pos h,if_pos ⟨by show ((x+1:Nat):Int) < (l.length:Int);omega,h.2⟩]
    have e:wrap64 (((x+1:Nat):Int)+1)=((x+1+1:Nat):Int):=by simp [wrap64];omega
    show (kI _ _ n (x+1+1)).foldl _ (wrap64 (((x+1:Nat):Int)+1))=_
    rw [e];exact XZ l hl n (x+1)
  · rw [if_neg h,if_neg (fun e=>h ⟨by have:((x+1:Nat):Int) < (l.length:Int):=e.1;omega,e.2⟩)];rfl
theorem YC (l':List aQ) (y':Int) (r:Int × Int) (h:Lj l' y'=some r):dn Tryz.prog 111 [(.sl 4 (aj.len l') false (fun ix jx=>(bU aj (aj.get aA l' ix) jx))),(.v (.int .i64 y'))] (.gX 2 (fun j=>match j with | 0=>(.v (.int .i64 r.1)) | 1=>(.v (.int .i64 r.2)) | _=>.junk)):=by
 unfold Lj at h
 split at h
 case isFalse=>cases h
 rename_i hc
 cases h
 obtain ⟨y,rfl⟩ : ∃ y:Nat,y'=y:=⟨y'.toNat,by omega⟩
 refine ⟨⟨_,Tryz.func111,by kernel_rfl,by kernel_rfl⟩,fun w I c vs hcc hI rz hlen hargs=>?_⟩
 match vs,hlen with
 | [v0,v1],_ =>
 obtain ⟨y0,e0,a0⟩:=hargs 0 _ rfl
 obtain ⟨y1,e1,a1⟩:=hargs 1 _ rfl
 cases e0;cases e1
 obtain rfl:v1 = .int .i64 y:=a1
 obtain ⟨a,len,cap,rfl,hl,-,-,hb⟩:=a0
 obtain rfl:len=l'.length:=by have:(len:Int)=l'.length:=hl;omega
 have hll:ah l'=(l'.length:Int):=rfl
 have key:=aiq Fence.wide 3 trivial trivial trivial trivial trivial rfl (by omega) y l'.length cap a (fun j=>(au aA l' (j:Int)).bX) (by omega) (by omega) w (fun h0=>by
  obtain ⟨b,o,cc,e,fr,rfl,hIb,hcell,hz⟩:=hb h0
  refine ⟨b,o,rfl,hI b (I.sub b hIb),fun j hj=>?_⟩
  obtain ⟨z,z1,-,z3⟩:=hz j hj 1 (by omega)
  cases z3
  simp [World.cell?,hcell,z1]
  rfl)
 refine (callsIn_wide.1 key).mono ?_
 rintro e w' ⟨rfl,hB⟩
 refine ⟨_,I,rfl,IS.le.refl _,⟨fun b hb=>⟨Nat.lt_of_lt_of_le (hI b hb) hB.size,.inl hb⟩,fun _ hb=>.inl hb⟩,fun b hb=>hB.block b hb,hB.size,⟨hB.os,hB.output⟩,_,rfl,rfl,fun j hj=>?_⟩
 have e2:=XZ l' (by omega) 32 y
 rw [show ((y+1:Nat):Int)=(y:Int)+1 by omega] at e2
 rw [abu l' 31 y,e2]
 match j,hj with
 | 0,_=>exact ⟨_,rfl,rfl⟩
 | 1,_=>exact ⟨_,rfl,rfl⟩
end Go.Proofs
end
