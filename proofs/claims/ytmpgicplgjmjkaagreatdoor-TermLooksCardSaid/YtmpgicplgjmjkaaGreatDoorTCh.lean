/-
  DERIVED: THE SHELF's CONTRACTS AT THIS DUMP, IN PLAIN WORDS (tools/lay-plain.mjs out of 'TryzShelf.lean', which tools/lay-shelf.mjs wrote): THE SAME DECLARATIONS UNDER THE SAME NAMES: 'import', 'namespace', 'open', 'def', 'theorem' AND NOTHING ELSE: no command of the shelf's: FOR A HAND-IN. Each laying: the table of numbers ('.._ren') and one theorem, a field a fact of the dump's own or the kernel's comparison; each contract: ONE APPLICATION.
-/
import Derived.Shelf.Strconv.Itoa0
import Derived.Shelf.Strconv.Itoa1
import Derived.Shelf.LaysM
import Derived.Shelf.Strconv.Itoa2
import Derived.Shelf.Strconv.Itoa3
import Derived.Ground.Names2Prog
import Derived.Sort.Grow
import Derived.Test.YtmpgicplgjmjkaaGreatDoorTHead
import Derived.WalkKit
import Derived.MapKept
import Derived.RangeFuncNested
import Derived.RangeFuncBound
import Derived.RangeFuncCalls
import Derived.RangeFuncLeaves
import Derived.Shelf.Abstract
import Derived.Shelf.RegionOpen
import Derived.OwnWalkIn
import Derived.TacticsInMore
import Derived.LoopNIn
import Derived.LoopIn
import Derived.Deep.RegionHeld
import Derived.RegionIn
import Derived.BigRegionIn
set_option linter.all false
section
namespace Go.Proofs
open Go.Shelf
def Tryz.laysM171_ren:Go.Shelf.Ren:=⟨λ| 171=>188|243=>280|246=>340|283=>376|284=>377|285=>378|286=>379|129=>403|317=>402|318=>404|319=>405|320=>406|337=>437|338=>438|n=>n,λ| 3=>3|9=>9|2=>2|4=>4|171=>433|0=>0|53=>194|37=>22|5=>5|173=>436|212=>468|51=>292|20=>20|213=>469|46=>221|232=>508|233=>509|n=>n,λ| 17=>12|18=>13|19=>14|n=>n⟩
theorem Tryz.laysM171:Go.Proofs.LaysM.n171 Tryz.prog Tryz.laysM171_ren:={
 mixed:=by kernel_rfl
 f129:=Tryz.func403.trans (congrArg some (by kernel_rfl))
 f171:=Tryz.func188.trans (congrArg some (by kernel_rfl))
 f243:=Tryz.func280.trans (congrArg some (by kernel_rfl))
 f246:=Tryz.func340.trans (congrArg some (by kernel_rfl))
 f283:=Tryz.func376.trans (congrArg some (by kernel_rfl))
 f284:=Tryz.func377.trans (congrArg some (by kernel_rfl))
 f285:=Tryz.func378.trans (congrArg some (by kernel_rfl))
 f286:=Tryz.func379.trans (congrArg some (by kernel_rfl))
 f317:=Tryz.func402.trans (congrArg some (by kernel_rfl))
 f318:=Tryz.func404.trans (congrArg some (by kernel_rfl))
 f319:=Tryz.func405.trans (congrArg some (by kernel_rfl))
 f320:=Tryz.func406.trans (congrArg some (by kernel_rfl))
 f337:=Tryz.func437.trans (congrArg some (by kernel_rfl))
 f338:=Tryz.func438.trans (congrArg some (by kernel_rfl))
 t0:=Tryz.underlying0
 a0:=Tryz.isAgg0
 z0:=Tryz.sizeOf0
 v0:=Tryz.zeroValue0
 t2:=Tryz.underlying2
 a2:=Tryz.isAgg2
 z2:=Tryz.sizeOf2
 v2:=Tryz.zeroValue2
 t3:=Tryz.underlying3
 a3:=Tryz.isAgg3
 z3:=Tryz.sizeOf3
 v3:=Tryz.zeroValue3
 t4:=Tryz.underlying4
 a4:=Tryz.isAgg4
 z4:=Tryz.sizeOf4
 v4:=Tryz.zeroValue4
 t5:=Tryz.underlying5
 a5:=Tryz.isAgg5
 z5:=Tryz.sizeOf5
 v5:=Tryz.zeroValue5
 t9:=Tryz.underlying9
 a9:=Tryz.isAgg9
 z9:=Tryz.sizeOf9
 v9:=Tryz.zeroValue9
 t20:=Tryz.underlying20
 a20:=Tryz.isAgg20
 z20:=Tryz.sizeOf20
 v20:=Tryz.zeroValue20
 t37:=Tryz.underlying22
 a37:=Tryz.isAgg22
 z37:=Tryz.sizeOf22
 v37:=Tryz.zeroValue22
 t46:=Tryz.underlying221
 a46:=Tryz.isAgg221
 z46:=Tryz.sizeOf221
 v46:=Tryz.zeroValue221
 t51:=Tryz.underlying292
 a51:=Tryz.isAgg292
 z51:=Tryz.sizeOf292
 v51:=Tryz.zeroValue292
 t53:=Tryz.underlying194
 a53:=Tryz.isAgg194
 z53:=Tryz.sizeOf194
 v53:=Tryz.zeroValue194
 t171:=Tryz.underlying433
 a171:=Tryz.isAgg433
 z171:=Tryz.sizeOf433
 v171:=Tryz.zeroValue433
 t173:=Tryz.underlying436
 a173:=Tryz.isAgg436
 z173:=Tryz.sizeOf436
 v173:=Tryz.zeroValue436
 t212:=Tryz.underlying468
 a212:=Tryz.isAgg468
 z212:=Tryz.sizeOf468
 v212:=Tryz.zeroValue468
 t213:=Tryz.underlying469
 a213:=Tryz.isAgg469
 z213:=Tryz.sizeOf469
 t232:=Tryz.underlying508
 a232:=Tryz.isAgg508
 z232:=Tryz.sizeOf508
 v232:=Tryz.zeroValue508
 t233:=Tryz.underlying509
 a233:=Tryz.isAgg509
 z233:=Tryz.sizeOf509
 v233:=Tryz.zeroValue509
 g17:=by kernel_rfl
 g18:=by kernel_rfl
 g19:=by kernel_rfl
 i0:=by kernel_rfl
 i2:=by kernel_rfl
 i3:=by kernel_rfl
 i4:=by kernel_rfl
 i5:=by kernel_rfl
 i9:=by kernel_rfl
 i20:=by kernel_rfl
 i37:=by kernel_rfl
 i46:=by kernel_rfl
 i51:=by kernel_rfl
 i53:=by kernel_rfl
 i171:=by kernel_rfl
 i173:=by kernel_rfl
 i212:=by kernel_rfl
 i232:=by kernel_rfl
 i233:=by kernel_rfl
 m17:=by kernel_rfl
 m18:=by kernel_rfl
 m19:=by kernel_rfl }
open Go.RowKit Go.Sort Go.Lib in
theorem Tryz.strconv_Itoa(n:Int)(h0 : -9223372036854775808<=n)(h1:n<=9223372036854775807)(w:World) (htab:Lib.TabIs Tryz.prog w "internal/strconv.uint64pow10" .u64 Lib.pow10Tab) :
 Calls Tryz.prog 188 #[.int .i64 n] w λe w'=>e = .returned (.string ⟨(Lib.itoa n).toArray⟩)/\∃ k os,w'=grow (w.drewN k) os:=Any.strconv_Itoa Tryz.laysM171 n h0 h1 w htab
end Go.Proofs
end
section
namespace Go.Vx
open Go Go.Proofs Go.RowKit
set_option maxRecDepth 100000
theorem CW(i:Int)(r:ByteArray)(h:strconv_Itoa i=some r):d9 Tryz.prog 188 [.v (.int .i64 i)] (.v (.string r)):=by
 have hb:(-9223372036854775808<=i/\i<=9223372036854775807)/\r=⟨(Lib.itoa i).toArray⟩:=by
  unfold strconv_Itoa at h;split at h
  . rename_i h1;cases h;refine⟨by omega,?_⟩;obtain⟨n,rfl⟩ : ∃ n:Nat,i=n:=⟨i.toNat,by omega⟩
    rw[Lib.itoa_nonneg,Lib.decDigits_one (by omega)];rfl
  obtain⟨h1,h2⟩:=jC h;have e1:IntKind.min .i64 = -9223372036854775808:=by decide
  have e2:IntKind.max .i64=9223372036854775807:=by decide
  unfold aU at h1;exact⟨by omega,(Option.some.inj h2).symm⟩
 obtain⟨hb,rfl⟩:=hb;refine⟨⟨_,Tryz.func188,by kernel_rfl,by kernel_rfl⟩,λw I c vs hc hI wJ hlen hargs=>?_⟩;obtain⟨v,rfl⟩ : ∃ v,vs=[v]:=by
  match vs,hlen with
  | [v],_=>exact⟨v,rfl⟩
 obtain⟨y,hy,hr⟩:=hargs 0 _ rfl;obtain rfl:v=y:=by simpa using hy
 have hv:v = .int .i64 i:=hr;subst hv;have htab:Lib.TabIs Tryz.prog w "internal/strconv.uint64pow10" .u64 Lib.pow10Tab:=by
  obtain⟨_,_,c,e,fr,hx,hs,hy⟩:=wJ.1 12 20 .u64 rfl;unfold Lib.TabIs World.var?;rw[show Tryz.prog.globalNamed "internal/strconv.uint64pow10" = some 12 by kernel_rfl];simp only[Option.bind_some,hx,Option.some.injEq];refine Array.ext (by rw[hs];simp[Lib.pow10Tab]) λj h1 h2=>?_;have hj:=hy j (by omega);rw[Array.getElem?_eq_getElem h1] at hj;rw[Option.some.inj hj];have : ∀ j,j<20->xA 12 (j:Nat)=((10 ^ j:Nat):Int):=by decide
  simp[Lib.pow10Tab,this j (by omega)]
 refine(Tryz.strconv_Itoa i hb.1 hb.2 w htab).mono ?_;rintro e w' ⟨rfl,k,os,rfl⟩;have hh:(Sort.grow (w.drewN k) os).heap=w.heap++os:=rfl;refine⟨_,I,rfl,⟨λ_ h=>h,λ_ h=>h⟩,⟨λb hb=>⟨?_,.inl hb⟩,λb hb=>.inl hb⟩,λb hb=>?_,?_,⟨rfl,rfl⟩,rfl⟩
 . have:=hI b hb;rw[hh,Array.size_append];omega
 . rw[hh,Array.getElem?_append_left hb]
 rw[hh,Array.size_append];omega
end Go.Vx
end
section
namespace Go.Vx
open Go Go.Proofs Go.RowKit
set_option maxRecDepth 100000
theorem ae4{P:Program}(hu:P.underlying 448=some (.map 3 3))(hi:P.underlying 3=some (.int .i64))(w:World)(es:Array MapEntry)(cl:Nat)(k v:Int)
  (hf:Instr.findNow (.int .i64) (.int .i64 k) es.toList 0=some none) :
  (Instr.mapUpdate 448 (.map (some w.heap.size)) (.int .i64 k) (.int .i64 v)).run P (w.alloc (.map es cl)) = .ok () (w.alloc (.map (es.push { key:=.int .i64 k,val:=.int .i64 v,born:=cl }) (cl+1))):=by
 have hb:(w.alloc (.map es cl)).heap[w.heap.size]? = some (.map es cl):=(MapKept.heap_alloc w _).1;have hs : ∀ o,({ w.alloc (.map es cl) with heap:=(w.alloc (.map es cl)).heap.setIfInBounds w.heap.size o } : World)=w.alloc o:=by
  intro o;show({ w with heap:=(w.heap.push (.map es cl)).setIfInBounds w.heap.size o } : World) = { w with heap:=w.heap.push o }
  congr 1;apply Array.ext';simp
 simp[Instr.mapUpdate,run_underlying hu,MapKept.run_getObj_map hb,MapKept.run_checkKey hi (show MapKept.IsKey (.int .i64) (.int .i64 k) from rfl),MapKept.run_findKey hi hf,MapKept.run_setObj_map _ hb,Result.andThen];exact hs _
theorem size_alloc(w:World)(o:Obj):(w.alloc o).heap.size=w.heap.size+1:=Array.size_push ..
theorem ae5(r:List (Int×Int))(h:abp=some r):d9 Tryz.prog 390 [] (.mp .i64 .i64 r):=by
 cases h;refine⟨⟨_,Tryz.func390,by kernel_rfl,by kernel_rfl⟩,λw I c vs hc hI wJ hlen hargs=>?_⟩;obtain rfl:vs=[]:=by cases vs with|nil=>rfl|cons _ _=>cases hlen
 have key:Calls Tryz.prog 390 #[] w λe w'=>e = .returned (.map (some w.heap.size))/\w'=w.alloc (.map #[⟨.int .i64 1,.int .i64 1,0⟩,⟨.int .i64 2,.int .i64 3,1⟩,⟨.int .i64 3,.int .i64 3,2⟩] 3):=by
  have hmm:=@run_makeMap Tryz.prog;have hu:Tryz.prog.underlying 448=some (.map 3 3):=by kernel_rfl
  have hi:Tryz.prog.underlying 3=some (.int .i64):=by kernel_rfl
  have h1:(Instr.mapUpdate 448 (.map (some w.heap.size)) (.int .i64 1) (.int .i64 1)).run Tryz.prog (w.alloc (.map #[] 0)) = .ok () (w.alloc (.map #[⟨.int .i64 1,.int .i64 1,0⟩] 1)):=ae4 hu hi w #[] 0 1 1 rfl;have h2:(Instr.mapUpdate 448 (.map (some w.heap.size)) (.int .i64 2) (.int .i64 3)).run Tryz.prog (w.alloc (.map #[⟨.int .i64 1,.int .i64 1,0⟩] 1)) = .ok () (w.alloc (.map #[⟨.int .i64 1,.int .i64 1,0⟩,⟨.int .i64 2,.int .i64 3,1⟩] 2)):=ae4 hu hi w #[⟨.int .i64 1,.int .i64 1,0⟩] 1 2 3 (by kernel_rfl);have h3:(Instr.mapUpdate 448 (.map (some w.heap.size)) (.int .i64 3) (.int .i64 3)).run Tryz.prog (w.alloc (.map #[⟨.int .i64 1,.int .i64 1,0⟩,⟨.int .i64 2,.int .i64 3,1⟩] 2)) = .ok () (w.alloc (.map #[⟨.int .i64 1,.int .i64 1,0⟩,⟨.int .i64 2,.int .i64 3,1⟩,⟨.int .i64 3,.int .i64 3,2⟩] 3)):=ae4 hu hi w #[⟨.int .i64 1,.int .i64 1,0⟩,⟨.int .i64 2,.int .i64 3,1⟩] 2 3 3 (by kernel_rfl);clear hu hi hargs wJ
  go_enter Tryz.func390,Tryz.ntmps390
  go_wp2
  go_ret
  exact⟨rfl,rfl⟩
 refine key.mono ?_;rintro e w' ⟨rfl,rfl⟩;refine⟨_,I.or λb=>b=w.heap.size,rfl,IS.CX _ _,⟨λb hb=>?_,λb hb=>?_⟩,λb hb=>(MapKept.heap_alloc w _).2 b hb,?_,⟨rfl,rfl⟩,_,_,_,rfl,.inr rfl,(MapKept.heap_alloc w _).1,rfl⟩
 . rw[size_alloc];rcases hb with hb|hb
   . exact⟨by have:=hI b hb;omega,.inl hb⟩
   exact⟨by omega,.inr (by omega)⟩
 . rcases hb with hb|hb
   . exact .inl hb
   exact .inr (by omega)
 rw[size_alloc];omega
end Go.Vx
end
section
namespace Go.Proofs
open Go.RowKit Go.Shelf
attribute [local go_sem] Oper.semAt_some
def rX(q:Nat->Bool):Nat->Nat->List Int
 | _,0=>[]
 | 0,_=>[]
 | n+1,x+1=>if q x=true then (x:Int)::rX q n x else []
def oz(q:Nat->Bool)(len:Nat):Nat->Nat->List Int
 | 0,_=>[]
 | n+1,x=>if x<len/\q (x-1)=true then (x:Int)::oz q len n (x+1) else []
structure tq (n₀ By Bl:Nat) (A B:World):Prop where
 low:Below n₀ A B
 hy:B.heap[By]? = A.heap[By]?
 hl:B.heap[Bl]? = A.heap[Bl]?
theorem adi{A B:World}{k:Nat}{v:Value}(h:B.heap[k]? = A.heap[k]?)(hc:A.cell? ⟨k,0,none⟩=some v):B.cell? ⟨k,0,none⟩=some v:=by
 rw[← hc];simp[World.cell?,h]
theorem tq.refl(n₀ By Bl:Nat)(A:World):tq n₀ By Bl A A:=⟨Below.refl _ _,rfl,rfl⟩
theorem tq.trans{n₀ By Bl:Nat}{A B C:World}(h:tq n₀ By Bl A B)(h':tq n₀ By Bl B C):tq n₀ By Bl A C:=⟨h.low.trans h'.low,h'.hy.trans h.hy,h'.hl.trans h.hl⟩
set_option maxRecDepth 100000 in
set_option maxHeartbeats 4000000 in
theorem apb(F:Fence)(n:Nat)(h6:F.fn 343)(hro:F.round=none)(hn:1<=n)(l By Bl n₀ y len cap:Nat)(a:Option Addr)(q:Nat->Bool)(hy:y<=len)(hlen:len<4611686018427387904)(J Jx:List Int->World->Prop)
  (hY : ∀ pre x W,J pre W->pre.length<31->YieldAt F (n-1) Tryz.prog l #[.int .i64 x] W λe W'=>
   (e = .returned (.bool true)/\J (pre++[x]) W'/\tq n₀ By Bl W W')\/(e = .returned (.bool false)/\Jx (pre++[x]) W'))
  (W:World) (hcy:W.cell? ⟨By,0,none⟩=some (.int .i64 y)) (hcl:W.cell? ⟨Bl,0,none⟩=some (.slice a len cap))
  (hc:0<len->∃ b off,a=some ⟨b,off,none⟩/\b<n₀/\∀ j,j<len->W.cell? ⟨b,off+j*4+1,none⟩=some (.bool (q j))) (h0:J [] W) :
  CallsIn F n Tryz.prog 343 #[.func (.yield l) #[] #[],.pointer (some ⟨By,0,none⟩),.pointer (some ⟨Bl,0,none⟩)] W λe W'=>(∃ v,e = .returned v) /\
   ((∃ ys,ys=rX q 31 y/\J ys W')\/(∃ pre,pre <+: rX q 31 y/\Jx pre W')):=by
 refine callsIn_of_wp Tryz.func343 rfl h6 ?_ hro;simp only[Tryz.ntmps343,List.size_toArray,List.length_cons,List.length_nil,Nat.reduceAdd,Nat.reduceSub,Array.replicate_succ,Array.replicate_zero,List.push_toArray,List.append_toArray,List.nil_append,List.cons_append]
 gi_wp2
 gi_loopw [4] (λp wr=>∃ (x k:Nat) (pre:List Int),p = .int .i64 ((x:Int)-1)/\x+k=y/\k<=31/\pre.length=k/\pre++rX q (31-k) x=rX q 31 y/\J pre wr/\tq n₀ By Bl W wr)
  (λp _=>(intOf p+1).toNat)
 case atStart=>exact⟨y,0,[],by simp,rfl,by omega,rfl,rfl,h0,tq.refl _ _ _ _⟩
 case round=>
  obtain⟨x,k,pre,rfl,hx,hk,hl,he,hJs,hB⟩:=hrel;have ayq:=adi hB.hy hcy;have hcl':=adi hB.hl hcl;cases x with
  | zero=>
   gi_wp2
   go_end0
   refine⟨⟨_,rfl⟩,.inl ⟨pre,?_,hJs⟩⟩;rw[← he];cases h:31-k<;>simp[rX]
  | succ x=>
   obtain⟨b,off,rfl,hb,hc⟩:=hc (by omega);have hcx:=(hB.low.cell (p:=⟨b,off+x*4+1,none⟩) hb).trans (hc x (by omega))
   by_cases hk31:k=31
   . gi_wp2
     go_end0
     have hJ':J (rX q 31 y) wr:=by
      have e:pre=rX q 31 y:=by rw[← he,hk31];simp[rX]
      exact e▸hJs
     first
      | exact⟨⟨_,rfl⟩,.inl ⟨_,rfl,hJ'⟩⟩
      | exact⟨⟨_,rfl⟩,.inl hJ'⟩
   have e31:31-k=(30-k)+1:=by omega
   rw[e31] at he;cases hq:q x with
   | false=>
    rw[hq] at hcx
    gi_wp2
    go_end0
    refine⟨⟨_,rfl⟩,.inl ⟨pre,?_,hJs⟩⟩;rw[← he];simp[rX,hq]
   | true=>
    rw[hq] at hcx;obtain⟨fn,tmps,assign,body,hy,hR⟩:=hY pre x wr hJs (by omega)
    gi_wp2
    have hp:(pre++[(x:Int)])++rX q (30-k) x=rX q 31 y:=by rw[← he];simp[rX,hq]
    refine hR.mono ?_;rintro e W3 (⟨rfl,hJ3,hk3⟩|⟨rfl,hJx3⟩)
    . gi_wp2
      go_roundw
      case rel=>exact⟨x,k+1,pre++[(x:Int)],by simp,by omega,by omega,by simp[hl],by rw[← hp,show 31-(k+1)=30-k by omega],hJ3,hB.trans hk3⟩
      case measure=>simp[intOf]<;>omega
    gi_wp2
    refine bodyPost_ret (results_none rfl _ _ _) rfl ?_;exact⟨⟨_,rfl⟩,.inr ⟨pre++[(x:Int)],⟨_,hp⟩,hJx3⟩⟩
set_option maxRecDepth 100000 in
set_option maxHeartbeats 4000000 in
theorem apc(F:Fence)(n:Nat)(h6:F.fn 344)(hro:F.round=none)(hn:1<=n)(l By Bl n₀ y len cap:Nat)(a:Option Addr)(q:Nat->Bool)(hy:y<=len)(hlen:len<4611686018427387904)(J Jx:List Int->World->Prop)
  (hY : ∀ pre x W,J pre W->pre.length<32->YieldAt F (n-1) Tryz.prog l #[.int .i64 x] W λe W'=>
   (e = .returned (.bool true)/\J (pre++[x]) W'/\tq n₀ By Bl W W')\/(e = .returned (.bool false)/\Jx (pre++[x]) W'))
  (W:World) (hcy:W.cell? ⟨By,0,none⟩=some (.int .i64 y)) (hcl:W.cell? ⟨Bl,0,none⟩=some (.slice a len cap))
  (hc:0<len->∃ b off,a=some ⟨b,off,none⟩/\b<n₀/\∀ j,j<len->W.cell? ⟨b,off+j*4+1,none⟩=some (.bool (q j))) (h0:J [] W) :
  CallsIn F n Tryz.prog 344 #[.func (.yield l) #[] #[],.pointer (some ⟨By,0,none⟩),.pointer (some ⟨Bl,0,none⟩)] W λe W'=>(∃ v,e = .returned v) /\
   ((∃ ys,ys=oz q len 32 (y+1)/\J ys W')\/(∃ pre,pre <+: oz q len 32 (y+1)/\Jx pre W')):=by
 refine callsIn_of_wp Tryz.func344 rfl h6 ?_ hro;simp only[Tryz.ntmps344,List.size_toArray,List.length_cons,List.length_nil,Nat.reduceAdd,Nat.reduceSub,Array.replicate_succ,Array.replicate_zero,List.push_toArray,List.append_toArray,List.nil_append,List.cons_append]
 gi_wp2
 gi_loopw [4] (λp wr=>∃ (x k:Nat) (pre:List Int),p = .int .i64 ((x:Int)+1)/\y+k=x/\x<=len/\k<=32/\pre.length=k/\pre++oz q len (32-k) (x+1)=oz q len 32 (y+1)/\J pre wr/\tq n₀ By Bl W wr)
  (λp _=>(len+2-intOf p).toNat)
 case atStart=>exact⟨y,0,[],by simp,rfl,hy,by omega,rfl,rfl,h0,tq.refl _ _ _ _⟩
 case round=>
  obtain⟨x,k,pre,rfl,hx,hxl,hk,hl,he,hJs,hB⟩:=hrel;have ayq:=adi hB.hy hcy;have hcl':=adi hB.hl hcl;have fin:(∀ n,oz q len (32-k) (x+1)=[])->J (oz q len 32 (y+1)) wr:=λh=>by rw[← he,h 0,List.append_nil];exact hJs
  by_cases hlt:x+1<len
  . obtain⟨b,off,rfl,hb,hc⟩:=hc (by omega);have hcx:=(hB.low.cell (p:=⟨b,off+x*4+1,none⟩) hb).trans (hc x (by omega))
    by_cases ayr:k=32
    . have hJ':=fin (λ_=>by rw[ayr];rfl)
      gi_wp2
      go_end0
      first
       | exact⟨⟨_,rfl⟩,.inl ⟨_,rfl,hJ'⟩⟩
       | exact⟨⟨_,rfl⟩,.inl hJ'⟩
    have e32:32-k=(31-k)+1:=by omega
    cases hq:q x with
    | false=>
     have hJ':=fin (λ_=>by rw[e32];simp[oz,hq]);rw[hq] at hcx
     gi_wp2
     go_end0
     first
      | exact⟨⟨_,rfl⟩,.inl ⟨_,rfl,hJ'⟩⟩
      | exact⟨⟨_,rfl⟩,.inl hJ'⟩
    | true=>
     rw[hq] at hcx;obtain⟨fn,tmps,assign,body,hy,hR⟩:=hY pre (x+1:Int) wr hJs (by omega);have hp:(pre++[(x+1:Int)])++oz q len (31-k) (x+1+1)=oz q len 32 (y+1):=by rw[← he,e32];simp[oz,hq,hlt]
     gi_wp2
     refine hR.mono ?_;rintro e W3 (⟨rfl,hJ3,hk3⟩|⟨rfl,hJx3⟩)
     . gi_wp2
       go_roundw
       case rel=>exact⟨x+1,k+1,pre++[(x+1:Int)],by simp,by omega,by omega,by omega,by simp[hl],by rw[← hp,show 32-(k+1)=31-k by omega],hJ3,hB.trans hk3⟩
       case measure=>simp[intOf]<;>omega
     gi_wp2
     refine bodyPost_ret (results_none rfl _ _ _) rfl ?_;exact⟨⟨_,rfl⟩,.inr ⟨pre++[(x+1:Int)],⟨_,hp⟩,hJx3⟩⟩
  have hJ':=fin (λ_=>by cases 32-k<;>simp[oz,hlt])
  gi_wp2
  go_end0
  first
   | exact⟨⟨_,rfl⟩,.inl ⟨_,rfl,hJ'⟩⟩
   | exact⟨⟨_,rfl⟩,.inl hJ'⟩
set_option maxHeartbeats 1000000 in
theorem apd(F:Fence)(n:Nat)(h5:F.fn 285)(hro:F.round=none)(a:Option Addr)(len cap:Nat)(y:Int)(w:World) :
  CallsIn F n Tryz.prog 285 #[.slice a len cap,.int .i64 y] w λe w'=>e = .returned (.func (.func 343) #[] #[.pointer (some ⟨w.heap.size+1,0,none⟩),.pointer (some ⟨w.heap.size,0,none⟩)])/\w'=(w.alloc (.cells #[.slice a len cap] 40)).alloc (.cells #[.int .i64 y] 3):=by
 refine callsIn_of_wp Tryz.func285 rfl h5 ?_ hro;simp only[Tryz.ntmps285,List.size_toArray,List.length_cons,List.length_nil,Nat.reduceAdd,Nat.reduceSub,Array.replicate_succ,Array.replicate_zero,List.push_toArray,List.append_toArray,List.nil_append,List.cons_append]
 gi_wp2
 go_ret
 exact⟨rfl,rfl⟩
set_option maxHeartbeats 1000000 in
theorem ape(F:Fence)(n:Nat)(h5:F.fn 286)(hro:F.round=none)(a:Option Addr)(len cap:Nat)(y:Int)(w:World) :
  CallsIn F n Tryz.prog 286 #[.slice a len cap,.int .i64 y] w λe w'=>e = .returned (.func (.func 344) #[] #[.pointer (some ⟨w.heap.size+1,0,none⟩),.pointer (some ⟨w.heap.size,0,none⟩)])/\w'=(w.alloc (.cells #[.slice a len cap] 40)).alloc (.cells #[.int .i64 y] 3):=by
 refine callsIn_of_wp Tryz.func286 rfl h5 ?_ hro;simp only[Tryz.ntmps286,List.size_toArray,List.length_cons,List.length_nil,Nat.reduceAdd,Nat.reduceSub,Array.replicate_succ,Array.replicate_zero,List.push_toArray,List.append_toArray,List.nil_append,List.cons_append]
 gi_wp2
 go_ret
 exact⟨rfl,rfl⟩
def Uw(n₀:Nat)(w:World)(a:Option Addr)(len:Nat)(q:Nat->Bool):Prop:=0<len->∃ b off,a=some ⟨b,off,none⟩/\b<n₀/\∀ j,j<len->w.cell? ⟨b,off+j*4+1,none⟩=some (.bool (q j))
theorem Uw.below{n₀:Nat}{A B:World}(h:Below n₀ A B){a:Option Addr}{len:Nat}{q:Nat->Bool}(H:Uw n₀ A a len q):Uw n₀ B a len q:=λhl=>by
 obtain⟨b,off,e,hb,hc⟩:=H hl;exact⟨b,off,e,hb,λj hj=>(h.cell (p:=⟨b,off+j*4+1,none⟩) hb).trans (hc j hj)⟩
theorem arN(F:Fence)(n:Nat)(h6:F.fn 343)(hro:F.round=none)(hn:1<=n)(By Bl n₀ y len cap:Nat)(a:Option Addr)(q:Nat->Bool)(hy:y<=len)(hlen:len<4611686018427387904)(w:World)(hBy:By<w.heap.size)(hBl:Bl<w.heap.size)(hn₀:n₀<=w.heap.size)
  (hcy:w.cell? ⟨By,0,none⟩=some (.int .i64 y)) (hcl:w.cell? ⟨Bl,0,none⟩=some (.slice a len cap)) (hc:Uw n₀ w a len q) :
  SeqStopsK F n Tryz.prog 343 #[.pointer (some ⟨By,0,none⟩),.pointer (some ⟨Bl,0,none⟩)] (λx:Int=>#[Value.int .i64 x]) (tq n₀ By Bl) (λys=>ys=rX q 31 y) (λpre=>pre <+: rX q 31 y) 31 w:=λl J Jx W hW _ _ hY h0=>
 apb F n h6 hro hn l By Bl n₀ y len cap a q hy hlen J Jx hY W ((hW.cell (p:=⟨By,0,none⟩) hBy).trans hcy) ((hW.cell (p:=⟨Bl,0,none⟩) hBl).trans hcl) (hc.below (hW.mono hn₀)) h0
theorem arO(F:Fence)(n:Nat)(h6:F.fn 344)(hro:F.round=none)(hn:1<=n)(By Bl n₀ y len cap:Nat)(a:Option Addr)(q:Nat->Bool)(hy:y<=len)(hlen:len<4611686018427387904)(w:World)(hBy:By<w.heap.size)(hBl:Bl<w.heap.size)(hn₀:n₀<=w.heap.size)
  (hcy:w.cell? ⟨By,0,none⟩=some (.int .i64 y)) (hcl:w.cell? ⟨Bl,0,none⟩=some (.slice a len cap)) (hc:Uw n₀ w a len q) :
  SeqStopsK F n Tryz.prog 344 #[.pointer (some ⟨By,0,none⟩),.pointer (some ⟨Bl,0,none⟩)] (λx:Int=>#[Value.int .i64 x]) (tq n₀ By Bl) (λys=>ys=oz q len 32 (y+1)) (λpre=>pre <+: oz q len 32 (y+1)) 32 w:=λl J Jx W hW _ _ hY h0=>
 apc F n h6 hro hn l By Bl n₀ y len cap a q hy hlen J Jx hY W ((hW.cell (p:=⟨By,0,none⟩) hBy).trans hcy) ((hW.cell (p:=⟨Bl,0,none⟩) hBl).trans hcl) (hc.below (hW.mono hn₀)) h0
end Go.Proofs
end
section
namespace Go.Proofs
open Go.RowKit Go.Shelf
attribute [local go_sem] Oper.semAt_some
theorem avI{W:World}{B:Nat}{v:Value}{t:TypeId}(h:W.heap[B]? = some (.cells #[v] t (0,0))):W.cell? ⟨B,0,none⟩=some v/\W.frozen? ⟨B,0,none⟩=false:=by
 constructor<;>simp[World.cell?,World.frozen?,h]
theorem aas(W:World)(v:Value)(t:TypeId):(W.alloc (.cells #[v] t)).cell? ⟨W.heap.size,0,none⟩=some v/\(W.alloc (.cells #[v] t)).frozen? ⟨W.heap.size,0,none⟩=false :=
 avI (World.alloc_heap_new W _)
theorem Ik{W:World}{a:Addr}{v:Value}(o:Obj)(h:W.cell? a=some v/\W.frozen? a=false):(W.alloc o).cell? a=some v/\(W.alloc o).frozen? a=false :=
 ⟨cell_kept h.1 (World.grownBy_alloc W o none) (λr e=>by cases e),(frozen_kept h.1 (World.grownBy_alloc W o none) (λr e=>by cases e)).trans h.2⟩
theorem aqw{W:World}{B:Nat}(x:Value)(p:Addr)(v:Value)(hp:p.block≠B)(h:W.cell? ⟨B,0,none⟩=some v/\W.frozen? ⟨B,0,none⟩=false):(W.setCell p x).cell? ⟨B,0,none⟩=some v/\(W.setCell p x).frozen? ⟨B,0,none⟩=false :=
 ⟨(World.cell?_setCell_far W p ⟨B,0,none⟩ x hp).trans h.1,by rw[World.frozen?_setCell];exact h.2⟩
theorem akR{n₀ By Bl:Nat}{w:World}(h:n₀<=w.heap.size)(hy:By<w.heap.size)(hl:Bl<w.heap.size)(W:World)(l:Nat)(o o':Obj)(hS:w.heap.size<=l)(ho:W.heap[l]? = some o)(h1:o.isCells=false)(h2:o.isWalk=false):tq n₀ By Bl W (W.putObj l o'):=by
 have hb:=belowK_b (w:=w) (Nat.le_refl _) W l o o' hS ho h1 h2;exact⟨hb.mono h,hb.block _ hy,hb.block _ hl⟩
set_option maxRecDepth 100000 in
set_option maxHeartbeats 4000000 in
theorem atw(F:Fence)(n:Nat)(h30:F.fn 193)(h47:F.fn 285)(h48:F.fn 286)(h73:F.fn 343)(h74:F.fn 344)(hro:F.round=none)(hn:3<=n)(y len cap:Nat)(a:Option Addr)(q:Nat->Bool)(hy:y<=len)(hlen:len<4611686018427387904)(w:World)(hc:Uw w.heap.size w a len q) :
  CallsIn F n Tryz.prog 193 #[.slice a len cap,.int .i64 y] w λe W'=>e = .returned (.tuple #[.int .i64 ((rX q 31 y).foldl (λ_ i=>i) (y:Int)),.int .i64 ((oz q len 32 (y+1)).foldl (λ_ i=>wrap64 (i+1)) (y+1:Int))])/\Below w.heap.size w W':=by
 have h1:1<=n:=by omega
 refine callsIn_of_wp_marks Tryz.func193 rfl h30 ?_ hro;simp only[Tryz.ntmps193,List.size_toArray,List.length_cons,List.length_nil,Nat.reduceAdd,Nat.reduceSub,Array.replicate_succ,Array.replicate_zero,List.push_toArray,List.append_toArray,List.nil_append,List.cons_append]
 gi_wp2_with (gi_at_call 285;refine(apd F (n-1) h47 hro _ _ _ _ _).mono ?_;rintro e w' ⟨rfl,rfl⟩)
 obtain⟨W1,hW1⟩ : ∃ W1,(w.alloc (.cells #[.int .i64 y] 3)).alloc (.cells #[.int .i64 ((y:Int)+1)] 3)=W1:=⟨_,rfl⟩
 have s1:W1.heap.size=w.heap.size+2:=by rw[← hW1];simp
 have c6:W1.cell? ⟨w.heap.size,0,none⟩=some (.int .i64 y)/\W1.frozen? ⟨w.heap.size,0,none⟩=false:=by rw[← hW1];exact Ik _ (aas w _ 3)
 have c7:W1.cell? ⟨w.heap.size+1,0,none⟩=some (.int .i64 ((y:Int)+1))/\W1.frozen? ⟨w.heap.size+1,0,none⟩=false:=by
  rw[← hW1];have:=aas (w.alloc (.cells #[.int .i64 y] 3)) (.int .i64 ((y:Int)+1)) 3;rwa [World.size_alloc] at this
 have b1:Below w.heap.size w W1:=by rw[← hW1];exact((Below.refl _ w).alloc (Nat.le_refl _) _).alloc (by simp) _
 obtain⟨W2,hW2⟩ : ∃ W2,(W1.alloc (.cells #[.slice a len cap] 40)).alloc (.cells #[.int .i64 y] 3)=W2:=⟨_,rfl⟩
 have s2:W2.heap.size=w.heap.size+4:=by rw[← hW2];simp[s1]
 have d6:W2.cell? ⟨w.heap.size,0,none⟩=some (.int .i64 y)/\W2.frozen? ⟨w.heap.size,0,none⟩=false:=by rw[← hW2];exact Ik _ (Ik _ c6)
 have d7:W2.cell? ⟨w.heap.size+1,0,none⟩=some (.int .i64 ((y:Int)+1))/\W2.frozen? ⟨w.heap.size+1,0,none⟩=false:=by rw[← hW2];exact Ik _ (Ik _ c7)
 have dl:W2.cell? ⟨w.heap.size+2,0,none⟩=some (.slice a len cap)/\W2.frozen? ⟨w.heap.size+2,0,none⟩=false:=by
  rw[← hW2];have:=Ik (.cells #[.int .i64 y] 3) (aas W1 (.slice a len cap) 40);rwa [s1] at this
 have dy:W2.cell? ⟨w.heap.size+3,0,none⟩=some (.int .i64 y)/\W2.frozen? ⟨w.heap.size+3,0,none⟩=false:=by
  rw[← hW2];have:=aas (W1.alloc (.cells #[.slice a len cap] 40)) (.int .i64 y) 3;rwa [World.size_alloc,s1] at this
 have b2:Below w.heap.size w W2:=by rw[← hW2];exact(b1.alloc (by omega) _).alloc (by simp;omega) _
 simp only[hW1,hW2];refine wpIn_rangeFunc_ownF hro h1 (gf:=343) (lb:=#[.pointer (some ⟨w.heap.size+3,0,none⟩),.pointer (some ⟨w.heap.size+2,0,none⟩)]) rfl h73 (enters_of Tryz.func343 (by kernel_rfl) rfl)
  (arN F (n-1) h73 hro (by omega) (w.heap.size+3) (w.heap.size+2) w.heap.size y len cap a q hy hlen W2 (by omega) (by omega) (by omega) dy.1 dl.1 (hc.below b2)) tq.trans (akR (by omega) (by omega) (by omega)) (Below.refl _ _) (λ_=>rfl)
  (λpre W=>((W.cell? ⟨w.heap.size,0,none⟩=some (.int .i64 (pre.foldl (λ_ i=>i) (y:Int)))/\W.frozen? ⟨w.heap.size,0,none⟩=false)/\W.cell? ⟨w.heap.size+1,0,none⟩=some (.int .i64 ((y:Int)+1))/\W.frozen? ⟨w.heap.size+1,0,none⟩=false)/\Below w.heap.size w W)
  (λ_ _ _=>False)
  (OwnFrom.and (Own.from (λs A B row hs hg hr=>⟨⟨cell_kept hs.1.1 hg hr,(frozen_kept hs.1.1 hg hr).trans hs.1.2⟩,cell_kept hs.2.1 hg hr,(frozen_kept hs.2.1 hg hr).trans hs.2.2⟩) _) (ownFrom_below (Nat.le_refl _) (by omega)))
  (λ_ _ _ _ _ hs _ _=>hs)
  ⟨⟨d6,d7⟩,b2⟩
  (λx=>{ tmps:=#[.slice a len cap,.int .i64 y,undef,undef,.int .i64 0,.int .i64 0,.pointer (some ⟨w.heap.size,0,none⟩),.pointer (some ⟨w.heap.size+1,0,none⟩),.int .i64 x,undef,.int .i64 y,.int .i64 y,.int .i64 ((y:Int)+1),.slice a len cap,.int .i64 y,
   .func (.func 343) #[] #[.pointer (some ⟨w.heap.size+1+1+1,0,none⟩),.pointer (some ⟨w.heap.size+1+1,0,none⟩)],.int .i64 x,undef,undef,undef,undef,undef,undef,undef,undef,undef],defers:=[] }) ?assign ?body ?done ?stop
 case assign=>
  intro l x W K hK
  gi_wp2
  exact hK
 case stop=>
  rintro D c pre W _ _ h _;exact h.elim
 case body=>
  rintro l pre x W ⟨⟨h6,h7⟩,hB⟩ _;have h61:=h6.1;have h62:=h6.2
  gi_wp2
  refine⟨KeepsOthers.setCell _ _ _,⟨(Below.refl _ W).setCell (p:=⟨w.heap.size,0,none⟩) (Nat.le_refl _) _,?_,?_⟩,⟨⟨?_,?_⟩,aqw _ _ _ (by simp) h7⟩,hB.setCell (p:=⟨w.heap.size,0,none⟩) (Nat.le_refl _) _⟩
  . exact Below.heap_setCell _ _ _ _ (by simp)
  . exact Below.heap_setCell _ _ _ _ (by simp)
  . rw[List.foldl_append];exact World.cell?_setCell_same' _ _ _ (by rw[h61];rfl)
  rw[World.frozen?_setCell];exact h62
 case done=>
  rintro D ys W hD rfl ⟨⟨h6,h7⟩,hB⟩ hK
  gi_wp2_with (gi_at_call 286;refine(ape F (n-1) h48 hro _ _ _ _ _).mono ?_;rintro e w' ⟨rfl,rfl⟩)
  have hDlt:D<W.heap.size:=(Array.getElem?_eq_some_iff.1 hK).1;obtain⟨V,hV⟩ : ∃ V,(W.alloc (.cells #[.slice a len cap] 40)).alloc (.cells #[.int .i64 y] 3)=V:=⟨_,rfl⟩
  have sV:V.heap.size=W.heap.size+2:=by rw[← hV];simp
  have e6:V.cell? ⟨w.heap.size,0,none⟩=some (.int .i64 ((rX q 31 y).foldl (λ_ i=>i) (y:Int)))/\V.frozen? ⟨w.heap.size,0,none⟩=false:=by rw[← hV];exact Ik _ (Ik _ h6)
  have e7:V.cell? ⟨w.heap.size+1,0,none⟩=some (.int .i64 ((y:Int)+1))/\V.frozen? ⟨w.heap.size+1,0,none⟩=false:=by rw[← hV];exact Ik _ (Ik _ h7)
  have el:V.cell? ⟨W.heap.size,0,none⟩=some (.slice a len cap):=by rw[← hV];exact(Ik _ (aas W _ 40)).1
  have ey:V.cell? ⟨W.heap.size+1,0,none⟩=some (.int .i64 y):=by rw[← hV];have:=aas (W.alloc (.cells #[.slice a len cap] 40)) (.int .i64 y) 3;rw[World.size_alloc] at this;exact this.1
  have hBV:Below W.heap.size W V:=by rw[← hV];exact((Below.refl _ W).alloc (Nat.le_refl _) _).alloc (by simp) _
  have hDV:V.heap[D]? = some (.deferred (some [])):=(hBV.block D hDlt).trans hK;have b3:Below w.heap.size w V:=hB.trans (hBV.mono hB.size);have hs2:w.heap.size+4<=W.heap.size:=by omega
  simp only[hV];refine wpIn_rangeFunc_ownF hro h1 (gf:=344) (lb:=#[.pointer (some ⟨W.heap.size+1,0,none⟩),.pointer (some ⟨W.heap.size,0,none⟩)]) rfl h74 (enters_of Tryz.func344 (by kernel_rfl) rfl)
   (arO F (n-1) h74 hro (by omega) (W.heap.size+1) W.heap.size w.heap.size y len cap a q hy hlen V (by omega) (by omega) (by omega) ey el (hc.below b3)) tq.trans (akR (by omega) (by omega) (by omega)) (Below.refl _ _) (λ_=>rfl)
   (λpre X=>((X.cell? ⟨w.heap.size,0,none⟩=some (.int .i64 ((rX q 31 y).foldl (λ_ i=>i) (y:Int)))/\X.frozen? ⟨w.heap.size,0,none⟩=false)/\X.cell? ⟨w.heap.size+1,0,none⟩=some (.int .i64 (pre.foldl (λ_ i=>wrap64 (i+1)) ((y:Int)+1)))/\X.frozen? ⟨w.heap.size+1,0,none⟩=false)/\Below w.heap.size w X/\X.heap[D]? = some (.deferred (some [])))
   (λ_ _ _=>False)
   (OwnFrom.and (Own.from (λs A B row hs hg hr=>⟨⟨cell_kept hs.1.1 hg hr,(frozen_kept hs.1.1 hg hr).trans hs.1.2⟩,cell_kept hs.2.1 hg hr,(frozen_kept hs.2.1 hg hr).trans hs.2.2⟩) _)
    (OwnFrom.and (ownFrom_below (Nat.le_refl _) (by omega)) (λs A B row hs hg hr=>(hg.block D (Array.getElem?_eq_some_iff.1 hs).1 (λe=>by have:=(hr D e.symm).1;omega)).trans hs)))
   (λ_ _ _ _ _ hs _ _=>hs)
   ⟨⟨e6,e7⟩,b3,hDV⟩
   (λx=>{ tmps:=#[.slice a len cap,.int .i64 y,undef,undef,.int .i64 0,.int .i64 0,.pointer (some ⟨w.heap.size,0,none⟩),.pointer (some ⟨w.heap.size+1,0,none⟩),undef,.int .i64 x,.int .i64 y,.int .i64 y,.int .i64 ((y:Int)+1),.slice a len cap,.int .i64 y,
    .func (.func 343) #[] #[.pointer (some ⟨w.heap.size+1+1+1,0,none⟩),.pointer (some ⟨w.heap.size+1+1,0,none⟩)],undef,undef,.slice a len cap,.int .i64 y,.func (.func 344) #[] #[.pointer (some ⟨W.heap.size+1,0,none⟩),.pointer (some ⟨W.heap.size,0,none⟩)],.int .i64 x,undef,undef,undef,undef],defers:=[] }) ?assign2 ?avJ ?avK ?avL
  case assign2=>
   intro l x X K hK
   gi_wp2
   exact hK
  case avL=>
   rintro D c pre W _ _ h _;exact h.elim
  case avJ=>
   rintro l pre x X ⟨⟨h6,h7⟩,hB,hX⟩ _;have h71:=h7.1;have h72:=h7.2
   gi_wp2
   refine⟨KeepsOthers.setCell _ _ _,⟨(Below.refl _ X).setCell (p:=⟨w.heap.size+1,0,none⟩) (by simp) _,?_,?_⟩,⟨aqw _ _ _ (by simp) h6,?_,?_⟩,hB.setCell (p:=⟨w.heap.size+1,0,none⟩) (by simp) _,(KeepsOthers.setCell _ _ _).same D _ hX rfl⟩
   . exact Below.heap_setCell _ _ _ _ (by simp;omega)
   . exact Below.heap_setCell _ _ _ _ (by simp;omega)
   . rw[List.foldl_append];exact World.cell?_setCell_same' _ _ _ (by rw[h71];rfl)
   rw[World.frozen?_setCell];exact h72
  case avK=>
   rintro D2 ys X hD2 rfl ⟨⟨h6,h7⟩,hB2,hX⟩ hK2;have h61:=h6.1;have h71:=h7.1
   gi_wp2
   gi_region
   all_goals gi_wp2
   all_goals
    have hwD:w.heap.size<=D:=by omega
    have hB3:Below w.heap.size w X.drew:=hB2.drew;have hsV:w.heap.size<=D2:=by omega
    have hK3:X.drew.heap[D2]? = some (.deferred (some [])):=hK2;have hb1:=belowK_b (w:=w) (Nat.le_refl _) X.drew D2 _ (.deferred none) hsV hK3 rfl rfl;have hb2:=belowK_b (w:=V) (Nat.le_refl _) X.drew D2 _ (.deferred none) (by omega) hK3 rfl rfl;have hX':(X.drew.putObj D2 (.deferred none)).heap[D]? = some (.deferred (some [])):=(hb2.block D (by omega)).trans hX;have hb3:=belowK_b (w:=w) (Nat.le_refl _) _ D _ (.deferred none) hwD hX' rfl rfl;refine⟨by simp,.inl ⟨_,_,rfl,run_takeDeferred hK3,by simp,.inl ⟨_,_,rfl,run_takeDeferred hX',?_⟩⟩⟩;refine⟨_,?_,rfl,(hB3.trans hb1).trans hb3⟩;simp[results,Tryz.f193,go_sem]
end Go.Proofs
end
section
namespace Go.Proofs
open Go.RowKit Go.Shelf Go.Vx
theorem akS(l:List aR) : ∀ (n x:Nat),(rX (λj=>(aB aH l (j:Int)).dz) n x).foldl (λ_ i=>i) (x:Int)=Ux l n x
 | 0,0=>rfl
 | 0,x+1=>rfl
 | n+1,0=>by simp[rX,Ux]
 | n+1,x+1=>by
  unfold rX Ux;rw[show((x+1:Nat):Int)-1=(x:Int) by omega]
  by_cases h:(aB aH l (x:Int)).dz=true
  . rw[if_pos h,if_pos ⟨by omega,h⟩];exact akS l n x
  rw[if_neg h,if_neg (λe=>h e.2)];rfl
theorem agn(l:List aR)(hl:l.length<4611686018427387904) : ∀ (n x:Nat),(oz (λj=>(aB aH l (j:Int)).dz) l.length n (x+1)).foldl (λ_ i=>wrap64 (i+1)) ((x+1:Nat):Int)=QM l n ((x+1:Nat):Int)
 | 0,x=>rfl
 | n+1,x=>by
  unfold oz QM;rw[show((x+1:Nat):Int)-1=(x:Int) by omega,show x+1-1=x by omega]
  by_cases h:x+1<l.length/\(aB aH l (x:Int)).dz=true
  . rw[if_pos h,if_pos ⟨by show((x+1:Nat):Int)<(l.length:Int);omega,h.2⟩];have e:wrap64 (((x+1:Nat):Int)+1)=((x+1+1:Nat):Int):=by simp[wrap64];omega
    show(oz _ _ n (x+1+1)).foldl _ (wrap64 (((x+1:Nat):Int)+1))=_;rw[e];exact agn l hl n (x+1)
  rw[if_neg h,if_neg (λe=>h ⟨by have:((x+1:Nat):Int)<(l.length:Int):=e.1;omega,e.2⟩)];rfl
theorem ag0(l':List aR)(y':Int)(r:Int×Int)(h:VR l' y'=some r):d9 Tryz.prog 193 [(.sl 4 (aj.len l') false (λix jx=>(gB aj (aj.get aH l' ix) jx))),(.v (.int .i64 y'))] (.jO 2 (λj=>match j with|0=>(.v (.int .i64 r.1))|1=>(.v (.int .i64 r.2))|_=>.junk)):=by
 unfold VR at h;split at h
 case isFalse=>cases h
 rename_i hc;cases h;obtain⟨y,rfl⟩ : ∃ y:Nat,y'=y:=⟨y'.toNat,by omega⟩
 refine⟨⟨_,Tryz.func193,by kernel_rfl,by kernel_rfl⟩,λw I c vs hcc hI wJ hlen hargs=>?_⟩
 match vs,hlen with
 | [v0,v1],_=>
 obtain⟨y0,e0,a0⟩:=hargs 0 _ rfl;obtain⟨y1,e1,a1⟩:=hargs 1 _ rfl;cases e0;cases e1;obtain rfl:v1 = .int .i64 y:=a1;obtain⟨a,len,cap,rfl,hl,-,-,hb⟩:=a0;obtain rfl:len=l'.length:=by have:(len:Int)=l'.length:=hl;omega
 have hll:ah l'=(l'.length:Int):=rfl;have key:=atw Fence.wide 3 trivial trivial trivial trivial trivial rfl (by omega) y l'.length cap a (λj=>(aB aH l' (j:Int)).dz) (by omega) (by omega) w (λh0=>by
  obtain⟨b,o,cc,e,fr,rfl,hIb,hcell,hz⟩:=hb h0;refine⟨b,o,rfl,hI b (I.sub b hIb),λj hj=>?_⟩;obtain⟨z,z1,-,z3⟩:=hz j hj 1 (by omega);cases z3;simp[World.cell?,hcell,z1];rfl)
 refine(callsIn_wide.1 key).mono ?_;rintro e w' ⟨rfl,hB⟩;refine⟨_,I,rfl,IS.le.refl _,⟨λb hb=>⟨Nat.lt_of_lt_of_le (hI b hb) hB.size,.inl hb⟩,λ_ hb=>.inl hb⟩,λb hb=>hB.block b hb,hB.size,⟨hB.os,hB.output⟩,_,rfl,rfl,λj hj=>?_⟩;have e2:=agn l' (by omega) 32 y;rw[show((y+1:Nat):Int)=(y:Int)+1 by omega] at e2;rw[akS l' 31 y,e2]
 match j,hj with
 | 0,_=>exact⟨_,rfl,rfl⟩
 | 1,_=>exact⟨_,rfl,rfl⟩
end Go.Proofs
end
