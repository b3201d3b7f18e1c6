/- The walk of the function that makes a small map. No conditions. -/
import Derived.Test.YtckmalogclklmaaGreatDoorTHead
import Derived.WalkKit
import Derived.MapKept
set_option linter.all false
namespace Go.Vx
open Go Go.Proofs Go.RowKit
set_option maxRecDepth 100000
theorem Xf {P:Program} (hu:P.underlying 434=some (.map 3 3)) (hi:P.underlying 3=some (.int .i64)) (w:World) (es:Array MapEntry) (cl:Nat) (k v:Int)
  (hf:Instr.findNow (.int .i64) (.int .i64 k) es.toList 0=some none) :
  (Instr.mapUpdate 434 (.map (some w.heap.size)) (.int .i64 k) (.int .i64 v)).run P (w.alloc (.map es cl)) = .ok () (w.alloc (.map (es.push { key:=.int .i64 k,val:=.int .i64 v,born:=cl }) (cl+1))):=by
 have hb:(w.alloc (.map es cl)).heap[w.heap.size]? = some (.map es cl):=(MapKept.heap_alloc w _).1
 have hs : ∀ o,({ w.alloc (.map es cl) with heap:=(w.alloc (.map es cl)).heap.setIfInBounds w.heap.size o } : World)=w.alloc o:=by
  intro o
  show ({ w with heap:=(w.heap.push (.map es cl)).setIfInBounds w.heap.size o } : World) = { w with heap:=w.heap.push o }
  congr 1
  apply Array.ext'
  simp
 simp [Instr.mapUpdate,run_underlying hu,MapKept.run_getObj_map hb,MapKept.run_checkKey hi (show MapKept.IsKey (.int .i64) (.int .i64 k) from rfl),MapKept.run_findKey hi hf,MapKept.run_setObj_map _ hb,Result.andThen]
 exact hs _
theorem size_alloc (w:World) (o:Obj):(w.alloc o).heap.size=w.heap.size+1:=Array.size_push ..
theorem Xg (r:List (Int × Int)) (h:SX=some r):dn Tryz.prog 359 [] (.mp .i64 .i64 r):=by
 cases h
 refine ⟨⟨_,Tryz.func359,by kernel_rfl,by kernel_rfl⟩,fun w I c vs hc hI rz hlen hargs=>?_⟩
 obtain rfl:vs=[]:=by cases vs with | nil=>rfl | cons _ _=>cases hlen
 have key:Calls Tryz.prog 359 #[] w fun e w'=>e = .returned (.map (some w.heap.size))∧w'=w.alloc (.map #[⟨.int .i64 1,.int .i64 1,0⟩,⟨.int .i64 2,.int .i64 3,1⟩,⟨.int .i64 3,.int .i64 3,2⟩] 3):=by
  have hmm:=@run_makeMap Tryz.prog
  have hu:Tryz.prog.underlying 434=some (.map 3 3):=by kernel_rfl
  have hi:Tryz.prog.underlying 3=some (.int .i64):=by kernel_rfl
  have h1:(Instr.mapUpdate 434 (.map (some w.heap.size)) (.int .i64 1) (.int .i64 1)).run Tryz.prog (w.alloc (.map #[] 0)) = .ok () (w.alloc (.map #[⟨.int .i64 1,.int .i64 1,0⟩] 1)):=Xf hu hi w #[] 0 1 1 rfl
  have h2:(Instr.mapUpdate 434 (.map (some w.heap.size)) (.int .i64 2) (.int .i64 3)).run Tryz.prog (w.alloc (.map #[⟨.int .i64 1,.int .i64 1,0⟩] 1)) = .ok () (w.alloc (.map #[⟨.int .i64 1,.int .i64 1,0⟩,⟨.int .i64 2,.int .i64 3,1⟩] 2)):=Xf hu hi w #[⟨.int .i64 1,.int .i64 1,0⟩] 1 2 3 (by kernel_rfl)
  have h3:(Instr.mapUpdate 434 (.map (some w.heap.size)) (.int .i64 3) (.int .i64 3)).run Tryz.prog (w.alloc (.map #[⟨.int .i64 1,.int .i64 1,0⟩,⟨.int .i64 2,.int .i64 3,1⟩] 2)) = .ok () (w.alloc (.map #[⟨.int .i64 1,.int .i64 1,0⟩,⟨.int .i64 2,.int .i64 3,1⟩,⟨.int .i64 3,.int .i64 3,2⟩] 3)):=Xf hu hi w #[⟨.int .i64 1,.int .i64 1,0⟩,⟨.int .i64 2,.int .i64 3,1⟩] 2 3 3 (by kernel_rfl)
  clear hu hi hargs rz
  go_enter Tryz.func359,Tryz.ntmps359
  go_wp2
  go_ret
  exact ⟨rfl,rfl⟩
 refine key.mono ?_
 rintro e w' ⟨rfl,rfl⟩
 refine ⟨_,I.or fun b=>b=w.heap.size,rfl,IS.vv _ _,⟨fun b hb=>?_,fun b hb=>?_⟩,fun b hb=>(MapKept.heap_alloc w _).2 b hb,?_,⟨rfl,rfl⟩,_,_,_,rfl,.inr rfl,(MapKept.heap_alloc w _).1,rfl⟩
 · rw [size_alloc]
   rcases hb with hb | hb
   · exact ⟨by have:=hI b hb;omega,.inl hb⟩
   · exact ⟨by omega,.inr (by omega)⟩
 · rcases hb with hb | hb
   · exact .inl hb
   · exact .inr (by omega)
 · rw [size_alloc];omega
end Go.Vx
