/- Lists of lines, of which the last one's cells are laid open. No conditions. -/
import Derived.Test.YtckmalogclklmaaGreatDoorTHead
import Derived.Tactics
import Derived.Tactics2
import Derived.Deep.RegionWith
import Derived.RegionTactic
import Derived.BigRegion
set_option linter.all false
section
namespace Go.Vx
set_option linter.all false
theorem agH {α:Type} {d:α} {out:List α} {M:α} (h:1≤ah out):au d (eB out (ah out-1) M) (ah (eB out (ah out-1) M)-1)=M:=by
 rw [aJ,gQ (by omega) (by omega) (by omega),if_pos rfl]
theorem Zg {P:Program} (x y:aI) (h:x=y) (j:Nat):bG (std P) (bY aj x j) (bY aj y j):=by subst h;exact vk _ _
theorem EF {P:Program} (out:List aI) (src g2:Nat) (N k:Int) :
  (std P).all2 N 3 (fun i j=>oV (std P) src g2 7 (fun i' j'=>dM aj (au aD (au aC out k).aH i') j') none
   (D9 (.vec src g2 7 0 (ah (au aC out k).aH)) (fun ix=>(std P).eq ix k) (fun ix jx=>bY aj (au aC out ix) jx) i j) (bY aj (au aC out i) j)):=by
 intro i i0 i1 j hj
 match j,hj with
 | 0,_ =>
  refine ⟨fun hb=>?_,fun _=>Zg _ _ rfl 0⟩
  have hb:i=k:=by have hb:(i == k)=true:=hb;simpa using hb
  subst hb
  have hc:(Nat.beq src src && Nat.beq 7 7 && Nat.beq 7 7)=true:=by simp
  show (if (Nat.beq src src && Nat.beq 7 7 && Nat.beq 7 7)=true then _ else False)
  rw [if_pos hc]
  refine ⟨rfl,rfl,rfl,fun i' _ _ j' _=>?_⟩
  have e:(std P).add 0 i'=i':=Int.zero_add i'
  show bG (std P) (dM aj (au aD (au aC out i).aH ((std P).add 0 i')) j') _
  rw [e];exact rM _ _
 | 1,_=>exact Zg _ _ rfl 1
 | 2,_=>exact Zg _ _ rfl 2
theorem Sm {P:Program} {out:List aI} {e:List aV} {src g2 dst c:Nat} {n:Int} {f2:Int→Nat→D} {X:D} (hn:n=ah e) :
  (std P).all2 (ah out) 3 (fun i j=>oV (std P) src g2 7 f2 (some (dst,c))
   (BJ (std P) (ah out-1) 0 [.vec src g2 7 0 n] (D9 X (fun ix=>(std P).eq ix (ah out-1)) (fun ix jx=>bY aj (au aC out ix) jx)) i j)
   (D9 (.vec dst c 7 0 (ah (au aC (eB out (ah out-1) (aI.mk e (au aC out (ah out-1)).dJ (au aC out (ah out-1)).bL)) (ah (eB out (ah out-1) (aI.mk e (au aC out (ah out-1)).dJ (au aC out (ah out-1)).bL))-1)).aH))
    (fun ix=>(std P).eq ix (ah (eB out (ah out-1) (aI.mk e (au aC out (ah out-1)).dJ (au aC out (ah out-1)).bL))-1))
    (fun ix jx=>bY aj (au aC (eB out (ah out-1) (aI.mk e (au aC out (ah out-1)).dJ (au aC out (ah out-1)).bL)) ix) jx) i j)):=by
 intro i i0 i1 j hj
 have i1:i < ah out:=i1
 rw [agH (by omega),aJ]
 have hg : ∀ {M:aI},au aC (eB out (ah out-1) M) i=if i=ah out-1 then M else au aC out i:=fun {M}=>gQ (by omega) i0 i1
 match j,hj with
 | 0,_ =>
  refine ⟨fun hb=>?_,fun hb=>⟨fun hb'=>?_,fun _=>?_⟩⟩
  · have hb:i=ah out-1:=by have hb:(i == ah out-1)=true:=hb;simpa using hb
    exact acg hn hb
  · have hb:(!(i == ah out-1))=true:=hb
    have hb':(i == ah out-1)=true:=hb'
    rw [hb'] at hb;cases hb
  · have hb:(!(i == ah out-1))=true:=hb
    have hne:i≠ah out-1:=by simpa using hb
    refine ⟨fun hb'=>?_,fun _=>?_⟩
    · have hb':(i == ah out-1)=true:=hb'
      rw [hb'] at hb;cases hb
    · exact Zg _ _ (by rw [hg,if_neg hne]) 0
 | 1,_ =>
  show bG (std P) (.v (.int .i64 (au aC out i).dJ)) (.v (.int .i64 (au aC _ i).dJ))
  rw [hg]
  split
  · rename_i h;rw [h];exact ak _ _
  · exact ak _ _
 | 2,_ =>
  show bG (std P) (.v (.bool (au aC out i).bL)) (.v (.bool (au aC _ i).bL))
  rw [hg]
  split
  · rename_i h;rw [h];exact aP _
  · exact aP _
theorem Sn {P:Program} {base:List aI} {a:Int} {b:Bool} {src g2 dst c:Nat} {N:Int} {f2 F h:Int→Nat→D}
  (hN:N=ah base+1)
  (hF : ∀ i j,F i j=bY aj (au aC base (0+i)) j)
  (h0 : ∀ i,h i 0 = .cO) (h1 : ∀ i,h i 1 = .v (.int .i64 a)) (h2 : ∀ i,h i 2 = .v (.bool b)) :
  (std P).all2 N 3 (fun i j=>oV (std P) src g2 7 f2 (some (dst,c)) (sZ (std P) (ah base) F h i j)
   (D9 (.vec dst c 7 0 (ah (au aC (base++[aI.mk [] a b]) (ah (base++[aI.mk [] a b])-1)).aH))
    (fun ix=>(std P).eq ix (ah (base++[aI.mk [] a b])-1))
    (fun ix jx=>bY aj (au aC (base++[aI.mk [] a b]) ix) jx) i j)):=by
 intro i i0 i1 j hj
 have i1:i < N:=i1
 have el:ah (base++[aI.mk [] a b])-1=ah base:=by simp only [aG,aB,aF];omega
 have hl:au aC (base++[aI.mk [] a b]) (ah base)=aI.mk [] a b:=qA _ _ _
 have hlt:i < ah base→au aC (base++[aI.mk [] a b]) i=au aC base i:=fun h=>by rw [fI i0,if_pos h]
 rw [el,hl]
 match j,hj with
 | 0,_ =>
  have ec:sZ (std P) (ah base) F h i 0 = .cnd ((std P).lt i (ah base)) (bY aj (au aC base (0+i)) 0) .cO:=by
   simp only [sZ,h0,hF];rfl
  rw [ec]
  refine ⟨fun hb=>?_,fun hb=>?_⟩
  · have hb:decide (i < ah base)=true:=hb
    have hb:i < ah base:=by simpa using hb
    refine ⟨fun hb'=>?_,fun _=>?_⟩
    · have hb':(i == ah base)=true:=hb'
      simp at hb';omega
    · exact Zg _ _ (by rw [hlt hb,Int.zero_add]) 0
  · have hb:(!decide (i < ah base))=true:=hb
    have hb:ah base≤i:=by simpa using hb
    refine ⟨fun _=>?_,fun hb'=>?_⟩
    · simp only [Ea,Nat.beq_refl,if_true]
      exact ⟨rfl,rfl,rfl⟩
    · have hb':(!(i == ah base))=true:=hb'
      have:i≠ah base:=by simpa using hb'
      omega
 | 1,_ =>
  have ec:sZ (std P) (ah base) F h i 1 = .v (.int .i64 ((std P).FP ((std P).lt i (ah base)) (au aC base (0+i)).dJ a)):=by
   simp only [sZ,h1,hF,bY,jM,if_true]
  rw [ec]
  have e2:(std P).FP ((std P).lt i (ah base)) (au aC base (0+i)).dJ a=(au aC (base++[aI.mk [] a b]) i).dJ:=by
   show (if decide (i < ah base)=true then _ else _)=_
   by_cases hi:i < ah base
   · rw [if_pos (by simpa using hi),hlt hi,Int.zero_add]
   · rw [if_neg (by simpa using hi)]
     obtain rfl:i=ah base:=by omega
     rw [hl]
  rw [e2]
  show bG (std P) (.v (.int .i64 _)) (.v (.int .i64 _))
  exact ak _ _
 | 2,_ =>
  have ec:sZ (std P) (ah base) F h i 2 = .v (.bool ((std P).sel ((std P).lt i (ah base)) (au aC base (0+i)).bL b)):=by
   simp only [sZ,h2,hF,bY,jM]
  rw [ec]
  have e2:(std P).sel ((std P).lt i (ah base)) (au aC base (0+i)).bL b=(au aC (base++[aI.mk [] a b]) i).bL:=by
   show (if decide (i < ah base)=true then _ else _)=_
   by_cases hi:i < ah base
   · rw [if_pos (by simpa using hi),hlt hi,Int.zero_add]
   · rw [if_neg (by simpa using hi)]
     obtain rfl:i=ah base:=by omega
     rw [hl]
  rw [e2]
  show bG (std P) (.v (.bool _)) (.v (.bool _))
  exact aP _
theorem aof {P:Program} {out:List aI} {e:List aV} {k N':Int} {g:Nat} {t:Bool} {v:D} (k0:0≤k) (kN:k < ah out) (hN:N'=ah out)
  (hv:v = .sl 7 (ah e) false (fun i j=>dM aj (au aD e i) j)) :
  dN (.arr g 3 N' t (BJ (std P) ((std P).add 0 k) 0 [v] (fun i j=>bY aj (au aC out i) j)))
   (.arr g 3 (ah (eB out k (aI.mk e (au aC out (0+k)).dJ (au aC out (0+k)).bL))) t
    (fun i j=>bY aj (au aC (eB out k (aI.mk e (au aC out (0+k)).dJ (au aC out (0+k)).bL)) i) j)):=by
 subst hv;subst hN
 have e0:(std P).add 0 k=k:=Int.zero_add k
 rw [Int.zero_add]
 refine dN.arr' (by rw [aJ]) fun i i0 i1 j hj=>?_
 have hg : ∀ {M:aI},au aC (eB out k M) i=if i=k then M else au aC out i:=fun {M}=>gQ k0 i0 i1
 rw [hg,e0]
 match j,hj with
 | 0,_ =>
  refine aeb rfl ⟨rfl,fun i j hj=>?_⟩ (fun h=>?_) (fun h=>?_)
  · match j,hj with
    | 0,_=>exact rfl
    | 1,_=>exact rfl
    | 2,_=>exact rfl
    | 3,_=>exact rfl
    | 4,_=>exact rfl
    | 5,_=>exact rfl
    | 6,_=>exact rfl
  · rw [if_pos h];exact aZ.refl _
  · rw [if_neg h];exact aZ.refl _
 | 1,_ =>
  show aZ (.v (.int .i64 (au aC out i).dJ)) (.v (.int .i64 (aI.dJ (if i=k then _ else _))))
  split
  · rename_i h;rw [h];exact aZ.refl _
  · exact aZ.refl _
 | 2,_ =>
  show aZ (.v (.bool (au aC out i).bL)) (.v (.bool (aI.bL (if i=k then _ else _))))
  split
  · rename_i h;rw [h];exact aZ.refl _
  · exact aZ.refl _
theorem alG {P:Program} {out:List aI} {l:List aV} {x:aV} {a:Int} {b:Bool} {g:Nat} {n:Int} {t:Bool} {F h:Int→Nat→D} (ho:1≤ah out) (hn:n=ah l+1)
  (hF : ∀ i j,F i j=dM aj (au aD l (0+i)) j) (hh : ∀ i j,j < 7→h i j=dM aj x j) :
  dN (.arr g 7 n t (sZ (std P) (ah l) F h))
   (.arr g 7 (ah (au aC (eB out (ah out-1) (aI.mk (l++[x]) a b)) (ah (eB out (ah out-1) (aI.mk (l++[x]) a b))-1)).aH) t
    (fun i j=>dM aj (au aD (au aC (eB out (ah out-1) (aI.mk (l++[x]) a b)) (ah (eB out (ah out-1) (aI.mk (l++[x]) a b))-1)).aH i) j)):=by
 rw [agH ho]
 subst hn
 refine dN.arr' (by simp only [aG,aB,aF];omega) fun i i0 i1 j hj=>?_
 refine aec ?_ (fun h=>?_) (fun h=>?_)
 · rw [hF,hh _ _ hj]
   match j,hj with
   | 0,_=>exact rfl
   | 1,_=>exact rfl
   | 2,_=>exact rfl
   | 3,_=>exact rfl
   | 4,_=>exact rfl
   | 5,_=>exact rfl
   | 6,_=>exact rfl
 · rw [hF,Int.zero_add]
   show aZ _ (dM aj (au aD (l++[x]) i) j)
   rw [fI i0,if_pos h];exact aZ.refl _
 · rw [hh _ _ hj]
   obtain rfl:i=ah l:=by omega
   show aZ _ (dM aj (au aD (l++[x]) (ah l)) j)
   rw [qA];exact aZ.refl _
theorem alH {base:List aI} {a:Int} {b:Bool} : 0=ah (au aC (base++[aI.mk [] a b]) (ah (base++[aI.mk [] a b])-1)).aH:=by
 have el:ah (base++[aI.mk [] a b])-1=ah base:=by simp only [aG,aB,aF];omega
 rw [el,qA];rfl
end Go.Vx
end
section
section
namespace Go.Vx
open Go.Proofs
set_option maxRecDepth 100000
set_option maxHeartbeats 8000000
set_option linter.unusedVariables false
set_option linter.unusedSimpArgs false
attribute [local irreducible] chk ay av aM lI
theorem JX p' r (h:uP p'=some r):Pf 38 [YD aj p'] (vb r):=by
 obtain ⟨_,_⟩:=p'
 unfold uP at h
 try dsimp only at h
 refine bC Tryz.func38 fun ctr hc=>?_
 revert h;refine bE 2 [] 0 [] (Wq ?_);intro h;intros
 refine bq h (ctr+2) [(2,1),(1,1),(1,1),(14,29)] [] (fun _ u=>Fa [] []) (fun x uc ug ut ht hu hp h=>?_) (fun f h=>?_)
 · refine Wx [] 0 [] Wz
 · revert h;refine bE 1 [] 0 [] (Wq ?_);intro h;intros
   refine Tr.block ?_
   refine dO h (ctr+3) [(2,1),(1,1),(1,1),(17,26)] [] (fun v u1=>Fa [(24,vi v)] []) bW (fun v cu fJ fE f ht hu hp h=>?_)
   revert h;refine bE 2 [] 0 [] (Wq ?_);intro h;intros
   refine bq h (cu+1) [(2,1),(1,1),(1,1),(19,23)] [] (fun _ u2=>Fa [] []) (fun x jB ny mF ht hu hp h=>?_) (fun f h=>?_)
   · refine Wx [] 0 [] Wz
   · refine Tr.block ?_
     revert h;refine bE 3 [] 0 [] (Wq ?_);intro h;intros
     refine Tr.block ?_
     refine dO h (cu+4) [(2,1),(3,1),(31,11)] [] (fun v1 u3=>Fa [(38,vi v1)] []) bW (fun v1 nA vN vo f ht hu hp h=>?_)
     refine Wx [] 0 [] Wz
end Go.Vx
end
section
namespace Go.Proofs
open Go.RowKit
set_option maxRecDepth 100000
theorem ait (W:World) (b:Nat) {v0 v1:Value} (q0:W.cell? ⟨b,0,none⟩=some v0) (q1:W.cell? ⟨b,1,none⟩=some v1) (tmps:Array Value) (ht:tmps[2]?.getD undef = .pointer (some ⟨b,0,none⟩)) :
  (results Tryz.f425 tmps).run Tryz.prog W = .ok (.agg #[v0,v1]) W:=by
 simp [results,Tryz.results425,go_sem,q0,q1,ht]
theorem aiu (W:World) (b:Nat) {v0 v1:Value} (q0:W.cell? ⟨b,0,none⟩=some v0) (q1:W.cell? ⟨b,1,none⟩=some v1) (tmps:Array Value) (ht:tmps[4]?.getD undef = .pointer (some ⟨b,0,none⟩)) :
  (results Tryz.f367 tmps).run Tryz.prog W = .ok (.agg #[v0,v1]) W:=by
 simp [results,Tryz.results367,go_sem,q0,q1,ht]
theorem uQ {W:World} {b:Nat} {c:Array Value} {e:TypeId} {v:Value} {i:Nat} (h:W.heap[b]? = some (.cells c e (0,0))) (hi:c[i]? = some v):W.cell? ⟨b,i,none⟩=some v∧W.frozen? ⟨b,i,none⟩=false:=by
 constructor
 · simp [World.cell?,h,hi]
 · simp [World.frozen?,h]
section
theorem alI (h:Array Obj) (o:Obj) (t) (d) (s) (u):({ heap:=h.push o,tape:=t,drawn:=d,os:=s,output:=u } : World)=({ heap:=h,tape:=t,drawn:=d,os:=s,output:=u } : World).alloc o:=rfl
theorem alJ (w:World) (a b:Obj):({ heap:=((w.alloc a).alloc b).heap,tape:=w.tape,drawn:=w.drawn,os:=((w.alloc a).alloc b).os,output:=((w.alloc a).alloc b).output } : World)=(w.alloc a).alloc b:=rfl
theorem alK (w:World) (a b c:Obj):({ heap:=(((w.alloc a).alloc b).alloc c).heap,tape:=w.tape,drawn:=w.drawn,os:=(((w.alloc a).alloc b).alloc c).os,output:=(((w.alloc a).alloc b).alloc c).output } : World)=((w.alloc a).alloc b).alloc c:=rfl
theorem ach (w:World) (a c d:Obj) (cs:Array Value) (t:TypeId) (i:Nat):World.cell? ((((w.alloc a).alloc (.cells cs t)).alloc c).alloc d) ⟨w.heap.size+1,i,none⟩=cs[i]?:=by
 simp only [World.cell?,World.alloc,Array.getElem?_push,Array.size_push]
 rw [if_neg (by omega),if_neg (by omega)]
 simp
theorem alL (w:World) (a c d:Obj) (cs:Array Value) (t:TypeId) (i:Nat):World.frozen? ((((w.alloc a).alloc (.cells cs t)).alloc c).alloc d) ⟨w.heap.size+1,i,none⟩=false:=by
 simp only [World.frozen?,World.alloc,Array.getElem?_push,Array.size_push]
 rw [if_neg (by omega),if_neg (by omega)]
 simp
theorem alM (w:World) (a:Obj) (cs:Array Value) (t:TypeId) (i:Nat):World.cell? ((w.alloc a).alloc (.cells cs t)) ⟨w.heap.size+1,i,none⟩=cs[i]?:=by
 simp only [World.cell?,World.alloc,Array.getElem?_push,Array.size_push]
 simp
theorem alN (w:World) (a:Obj) (cs:Array Value) (t:TypeId) (i:Nat):World.frozen? ((w.alloc a).alloc (.cells cs t)) ⟨w.heap.size+1,i,none⟩=false:=by
 simp only [World.frozen?,World.alloc,Array.getElem?_push,Array.size_push]
 simp
theorem heap_set (w:World) {b:Addr} (v:Value) {k:Nat} (h:k≠b.block):(w.setCell b v).heap[k]? = w.heap[k]?:=by
 simp only [World.setCell,Array.getElem?_modify]
 rw [if_neg (fun e=>h e.symm)]
attribute [local go_sem] alI alJ alK ach alL alM alN
theorem aiv (a:Option Addr) (cap:Nat) (w:World) :
  Calls Tryz.prog 425 #[.agg #[.slice a 0 cap,.bool false]] w fun e w'=>e = .returned (.agg #[.slice (some ⟨w.heap.size+3,0,none⟩) 1 1,.bool true])∧w'.heap.size=w.heap.size+4 ∧
   w'.heap[w.heap.size+2]? = some (.cells #[.int .i64 (-1)] 3 (0,0))∧w'.heap[w.heap.size+3]? = some (.cells #[.slice (some ⟨w.heap.size+2,0,none⟩) 1 1] 42 (0,0)) ∧
   (∀ k,k < w.heap.size→w'.heap[k]? = w.heap[k]?)∧w'.os=w.os∧w'.output=w.output:=by
 go_enter Tryz.func425,Tryz.ntmps425
 go_wp2
 try simp only [Exit.inBlock,Exit.then]
 have q0:((((((w.alloc (Obj.cells #[Value.slice a 0 cap,Value.bool false] 58)).alloc (Obj.cells #[Value.slice none 0 0,Value.bool false] 58)).alloc (Obj.cells #[Value.int IntKind.i64 (-1)] 3)).alloc (Obj.cells #[Value.slice (some ⟨w.heap.size+1+1,0,none⟩) 1 1] 42)).setCell ⟨w.heap.size+1,0,none⟩ (Value.slice (some ⟨w.heap.size+1+1+1,0,none⟩) 1 1)).setCell ⟨w.heap.size+1,1,none⟩ (Value.bool true)).cell? ⟨w.heap.size+1,0,none⟩=some (Value.slice (some ⟨w.heap.size+3,0,none⟩) 1 1):=by
  rw [World.cell?_setCell_other _ _ _ _ (by simp),World.cell?_setCell_same _ _ _ (u:=.slice none 0 0) (by rw [ach];rfl)]
 have q1:((((((w.alloc (Obj.cells #[Value.slice a 0 cap,Value.bool false] 58)).alloc (Obj.cells #[Value.slice none 0 0,Value.bool false] 58)).alloc (Obj.cells #[Value.int IntKind.i64 (-1)] 3)).alloc (Obj.cells #[Value.slice (some ⟨w.heap.size+1+1,0,none⟩) 1 1] 42)).setCell ⟨w.heap.size+1,0,none⟩ (Value.slice (some ⟨w.heap.size+1+1+1,0,none⟩) 1 1)).setCell ⟨w.heap.size+1,1,none⟩ (Value.bool true)).cell? ⟨w.heap.size+1,1,none⟩=some (Value.bool true):=by
  rw [World.cell?_setCell_same _ _ _ (u:=.bool false) (by rw [World.cell?_setCell_other _ _ _ _ (by simp),ach];rfl)]
 refine bodyPost_ret (v:=.agg #[.slice (some ⟨w.heap.size+3,0,none⟩) 1 1,.bool true]) ?_ rfl ?_
 · revert q0 q1
   generalize World.setCell _ _ _=W
   intro q0 q1
   exact ait _ _ q0 q1 _ rfl
 clear q0 q1
 refine ⟨rfl,?_,?_,?_,fun k hk=>?_,rfl,rfl⟩
 · simp only [World.setCell,World.alloc,Array.size_modify,Array.size_push]
 · rw [heap_set _ _ (by simp),heap_set _ _ (by simp)]
   simp only [World.alloc,Array.getElem?_push,Array.size_push]
   rw [if_neg (by omega)]
   exact if_pos trivial
 · rw [heap_set _ _ (by simp),heap_set _ _ (by simp)]
   simp only [World.alloc,Array.getElem?_push,Array.size_push]
   exact if_pos trivial
 · rw [heap_set _ _ (by simp;omega),heap_set _ _ (by simp;omega)]
   simp only [World.alloc,Array.getElem?_push,Array.size_push]
   rw [if_neg (by omega),if_neg (by omega),if_neg (by omega),if_neg (by omega)]
end
section
theorem aiw (P:Program) (W:World) (b:Bool):Sem.run P (Op.unary UnOp.not (Value.bool b)) W = .ok (.bool (!b)) W:=rfl
attribute [local go_sem] aiw
set_option maxHeartbeats 4000000
theorem aix (a:Option Addr) (cap:Nat) (c:Int) (h1:48≤c) (h2:c≤57) (w:World)
  (hS : ∀ W:World,W.heap.size=w.heap.size+2→(∀ k,k < w.heap.size→W.heap[k]? = w.heap[k]?)→W.os=w.os∧W.output=w.output →
   Calls Tryz.prog 38 #[.agg #[.slice a 0 cap,.bool false]] W fun e W'=>e = .returned (.bool true)∧W.heap.size≤W'.heap.size∧(∀ k,k < W.heap.size→W'.heap[k]? = W.heap[k]?)∧W'.os=W.os∧W'.output=W.output) :
  Calls Tryz.prog 367 #[.agg #[.slice a 0 cap,.bool false],.int .u8 c] w fun e w'=>∃ b d,e = .returned (.agg #[.slice (some ⟨d,0,none⟩) 1 1,.bool true])∧w.heap.size≤b∧b < d∧d < w'.heap.size ∧
   w'.heap[b]? = some (.cells #[.int .i64 (c-48)] 3 (0,0))∧w'.heap[d]? = some (.cells #[.slice (some ⟨b,0,none⟩) 1 1] 42 (0,0)) ∧
   (∀ k,k < w.heap.size→w'.heap[k]? = w.heap[k]?)∧w'.os=w.os∧w'.output=w.output:=by
 go_enter Tryz.func367,Tryz.ntmps367
 go_wp2_with (first | (go_at_call 38;fail) | (go_at_call 425;fail))
 obtain ⟨n,hn⟩ : ∃ n,w.heap.size=n:=⟨_,rfl⟩
 obtain ⟨W2,hW2⟩ : ∃ W2,(w.alloc (Obj.cells #[Value.slice a 0 cap,Value.bool false] 58)).alloc (Obj.cells #[Value.slice none 0 0,Value.bool false] 58)=W2:=⟨_,rfl⟩
 have y0:W2.heap[n]? = some (.cells #[Value.slice a 0 cap,Value.bool false] 58 (0,0)):=by
  rw [← hW2];simp only [World.alloc,Array.getElem?_push,Array.size_push];rw [if_neg (by omega),if_pos hn.symm]
 have y1:W2.heap[n+1]? = some (.cells #[Value.slice none 0 0,Value.bool false] 58 (0,0)):=by
  rw [← hW2];simp only [World.alloc,Array.getElem?_push,Array.size_push];rw [if_pos (by omega)]
 have y2:W2.heap.size=n+2:=by rw [← hW2];simp only [World.alloc,Array.size_push];omega
 have y3 : ∀ k,k < n→W2.heap[k]? = w.heap[k]?:=fun k hk=>by
  rw [← hW2];simp only [World.alloc,Array.getElem?_push,Array.size_push];rw [if_neg (by omega),if_neg (by omega)]
 have y4:W2.os=w.os∧W2.output=w.output:=by rw [← hW2];exact ⟨rfl,rfl⟩
 simp only [hW2,hn]
 refine (hS W2 (by omega) (fun k hk=>y3 k (by omega)) y4).mono ?_
 rintro e W3 ⟨rfl,z1,z2,z3,z4⟩
 have b0:=z2 n (by omega)
 have b1:=z2 (n+1) (by omega)
 rw [y0] at b0
 rw [y1] at b1
 obtain ⟨c00,f00⟩:=uQ (i:=0) b0 rfl
 obtain ⟨c01,f01⟩:=uQ (i:=1) b0 rfl
 obtain ⟨c10,f10⟩:=uQ (i:=0) b1 rfl
 obtain ⟨c11,f11⟩:=uQ (i:=1) b1 rfl
 go_wp2_with (go_at_call 425;fail)
 refine (aiv a cap W3).mono ?_
 rintro e W4 ⟨rfl,u1,u2,u3,u4,u5,u6⟩
 obtain ⟨m,hm⟩ : ∃ m,W3.heap.size=m:=⟨_,rfl⟩
 rw [hm] at u1 u2 u3 u4
 have hmn:n+2≤m:=by omega
 have d0:=(u4 n (by omega)).trans b0
 have d1:=(u4 (n+1) (by omega)).trans b1
 clear c00 f00 c01 f01 c10 f10 c11 f11
 obtain ⟨c00,f00⟩:=uQ (i:=0) d0 rfl
 obtain ⟨c01,f01⟩:=uQ (i:=1) d0 rfl
 obtain ⟨c10,f10⟩:=uQ (i:=0) d1 rfl
 obtain ⟨c11,f11⟩:=uQ (i:=1) d1 rfl
 obtain ⟨c20,f20⟩:=uQ (i:=0) u2 rfl
 obtain ⟨c30,f30⟩:=uQ (i:=0) u3 rfl
 simp only [hm]
 have e1 : ¬ n=m+3:=by omega
 have e2 : ¬ n=m+2:=by omega
 have e3 : ¬ n+1=m+2:=by omega
 have e4 : ¬ m+2=n:=by omega
 have e5 : ¬ m+2=n+1:=by omega
 have h1' : ¬ c < 48:=by omega
 have h2' : ¬ 57 < c:=by omega
 go_wp2
 try simp only [Exit.inBlock,Exit.then]
 clear c00 f00 c01 f01 c20 f20 c30 f30
 have ea:(⟨n+1,0,none⟩:Addr)≠⟨n+1,1,none⟩:=by simp
 have q1:(((((W4.setCell ⟨n,0,none⟩ (Value.slice (some ⟨m+3,0,none⟩) 1 1)).setCell ⟨n,1,none⟩ (Value.bool true)).setCell ⟨m+2,0,none⟩ (Value.int IntKind.i64 (c-48))).setCell ⟨n+1,0,none⟩ (Value.slice (some ⟨m+3,0,none⟩) 1 1)).setCell ⟨n+1,1,none⟩ (Value.bool true)).cell? ⟨n+1,1,none⟩=some (Value.bool true):=by
  rw [World.cell?_setCell_same _ _ _ (u:=.bool false)]
  rw [World.cell?_setCell_other _ _ _ _ ea,World.cell?_setCell_other _ _ _ _ (by simp<;>omega),World.cell?_setCell_other _ _ _ _ (by simp),World.cell?_setCell_other _ _ _ _ (by simp)]
  exact c11
 have q0:(((((W4.setCell ⟨n,0,none⟩ (Value.slice (some ⟨m+3,0,none⟩) 1 1)).setCell ⟨n,1,none⟩ (Value.bool true)).setCell ⟨m+2,0,none⟩ (Value.int IntKind.i64 (c-48))).setCell ⟨n+1,0,none⟩ (Value.slice (some ⟨m+3,0,none⟩) 1 1)).setCell ⟨n+1,1,none⟩ (Value.bool true)).cell? ⟨n+1,0,none⟩=some (Value.slice (some ⟨m+3,0,none⟩) 1 1):=by
  rw [World.cell?_setCell_other _ _ _ _ ea.symm,World.cell?_setCell_same _ _ _ (u:=.slice none 0 0)]
  rw [World.cell?_setCell_other _ _ _ _ (by simp<;>omega),World.cell?_setCell_other _ _ _ _ (by simp),World.cell?_setCell_other _ _ _ _ (by simp)]
  exact c10
 refine bodyPost_ret (v:=.agg #[.slice (some ⟨m+3,0,none⟩) 1 1,.bool true]) ?_ rfl ?_
 · revert q0 q1
   generalize World.setCell _ _ _=W
   intro q1 q0
   exact aiu _ _ q0 q1 _ rfl
 clear q0 q1
 refine ⟨m+2,m+3,rfl,by omega,by omega,?_,?_,?_,fun k hk=>?_,?_,?_⟩
 · simp only [World.setCell,Array.size_modify];omega
 · rw [heap_set _ _ (by simp<;>omega),heap_set _ _ (by simp<;>omega)]
   have e:((W4.setCell ⟨n,0,none⟩ (Value.slice (some ⟨m+3,0,none⟩) 1 1)).setCell ⟨n,1,none⟩ (Value.bool true)).heap[m+2]? = some (.cells #[.int .i64 (-1)] 3 (0,0)):=by
    rw [heap_set _ _ (by simp<;>omega),heap_set _ _ (by simp<;>omega)];exact u2
   generalize (W4.setCell ⟨n,0,none⟩ (Value.slice (some ⟨m+3,0,none⟩) 1 1)).setCell ⟨n,1,none⟩ (Value.bool true)=W at e
   simp [World.setCell,Array.getElem?_modify,e]
 · rw [heap_set _ _ (by simp<;>omega),heap_set _ _ (by simp<;>omega),heap_set _ _ (by simp),heap_set _ _ (by simp<;>omega),heap_set _ _ (by simp<;>omega)];exact u3
 · rw [heap_set _ _ (by simp<;>omega),heap_set _ _ (by simp<;>omega),heap_set _ _ (by simp<;>omega),heap_set _ _ (by simp<;>omega),heap_set _ _ (by simp<;>omega),u4 k (by omega),z2 k (by omega),y3 k hk]
 · exact u5.trans (z3.trans y4.1)
 · exact u6.trans (z4.trans y4.2)
end
end Go.Proofs
namespace Go.Vx
open Go.Proofs
set_option maxRecDepth 100000
theorem U3 (p:iA) (c:Int) (r:iA) (h:FQ p c=some r):dn Tryz.prog 367 [.agg 2 (fun j=>uF aj p j),.v (.int .u8 c)] (.agg 2 (fun j=>uF aj r j)):=by
 obtain ⟨l,o⟩:=p
 cases l with
 | cons x l=>cases h
 | nil =>
  unfold FQ at h
  simp only at h
  split at h
  · rename_i hh
    obtain ⟨rfl,h1,h2⟩:=hh
    cases h
    refine ⟨⟨_,Tryz.func367,by kernel_rfl,by kernel_rfl⟩,fun w I c0 vs hc hI rz hlen hargs=>?_⟩
    match vs,hlen with
    | [v0,v1],_ =>
    obtain ⟨y0,e0,a0⟩:=hargs 0 _ rfl
    obtain ⟨y1,e1,a1⟩:=hargs 1 _ rfl
    cases e0;cases e1
    obtain rfl:v1 = .int .u8 c:=a1
    have a00:=a0
    obtain ⟨ys,rfl,hys,hj⟩:=a0
    obtain ⟨z0,f0,_,a,len,cap,rfl,hl,_⟩:=hj 0 (by omega)
    obtain ⟨z1,f1,_,rfl⟩:=hj 1 (by omega)
    have hl:(len:Int)=0:=hl
    obtain rfl:len=0:=by omega
    have hyy:ys = #[.slice a 0 cap,.bool false]:=by
     apply Array.ext
     · rw [hys];rfl
     · intro i h1 h2
       have:i=0∨i=1:=by simp at h2;omega
       rcases this with rfl | rfl
       · rw [Array.getElem?_eq_getElem h1] at f0;exact Option.some.inj f0
       · rw [Array.getElem?_eq_getElem h1] at f1;exact Option.some.inj f1
    subst hyy
    have alO:uP ⟨[],false⟩=some true:=by kernel_rfl
    have H:=JX ⟨[],false⟩ true alO
    refine (aix a cap c h1 h2 w fun W s1 s2 s3=>?_).mono ?_
    · have hb : ∀ b,I b→W.heap[b]? = w.heap[b]?:=fun b hb=>s2 b (hI b hb)
      refine (H.2 W I c0 [.agg #[.slice a 0 cap,.bool false]] hc (fun b hb=>by have:=hI b hb;omega) (rz.mono (fun _ h=>h) hb) rfl (fun t d ht=>?_)).mono ?_
      · cases t with
        | zero =>
         cases ht
         exact ⟨_,rfl,Rd.mono ⟨fun _ h=>h,hb,fun _ h=>h,fun _ _ h=>h,fun _ _ _ o' ho' _ _=>by simp at ho'⟩ _ _ a00⟩
        | succ t=>cases ht
      · rintro e W' ⟨v,I',rfl,i1,i2,i3,i4,i5,i6⟩
        have i6:v = .bool true:=i6
        subst i6
        exact ⟨rfl,i4,i3,i5⟩
    · rintro e w' ⟨b,d,rfl,x1,x2,x3,x4,x5,x6,x7,x8⟩
      refine ⟨_,I.or fun k=>k=b∨k=d,rfl,IS.vv _ _,⟨fun k hk=>?_,fun k hk=>?_⟩,x6,by omega,⟨x7,x8⟩,?_⟩
      · rcases hk with hk | rfl | rfl
        · exact ⟨by have:=hI k hk;omega,.inl hk⟩
        · exact ⟨by omega,.inr (by omega)⟩
        · exact ⟨by omega,.inr (by omega)⟩
      · rcases hk with hk | rfl | rfl
        · exact .inl hk
        · exact .inr (by omega)
        · exact .inr (by omega)
      · refine ⟨_,rfl,rfl,fun j hj=>?_⟩
        match j,hj with
        | 0,_ =>
         refine ⟨_,rfl,rfl,some ⟨d,0,none⟩,1,1,rfl,rfl,Nat.le_refl _,fun h=>(by cases h),fun _=>⟨d,0,_,_,_,rfl,.inr (.inr rfl),x5,fun i hi j hj=>?_⟩⟩
         obtain rfl:i=0:=by omega
         obtain rfl:j=0:=by omega
         refine ⟨_,rfl,rfl,some ⟨b,0,none⟩,1,1,rfl,rfl,Nat.le_refl _,fun h=>(by cases h),fun _=>⟨b,0,_,_,_,rfl,.inr (.inl rfl),x4,fun i hi j hj=>?_⟩⟩
         obtain rfl:i=0:=by omega
         obtain rfl:j=0:=by omega
         exact ⟨_,rfl,rfl,rfl⟩
        | 1,_=>exact ⟨_,rfl,rfl,rfl⟩
  · cases h
end Go.Vx
end
end
