/- slices.SortFunc at [2]int, by the library's contract of it: what it leaves is what sortPairs says. -/
import Derived.Test.YtkaphbmifenkbaaGreatDoorVHead
import Derived.Test.YtkaphbmifenkbaaGreatDoorVS
set_option linter.all false
namespace Go.Proofs
open Go.Shelf Go.RowKit Go.Lib Go.Sort Go.Vx
def Tryz.sortP_ren : Go.Shelf.Ren := ⟨fun | 6 => 131 | 15 => 151 | 14 => 150 | 28 => 170 | 29 => 171 | 20 => 162 | 21 => 163 | 22 => 164 | 23 => 165 | 24 => 166 | 25 => 167 | 26 => 168 | 27 => 169 | 46 => 175 | 47 => 176 | 48 => 177 | 49 => 178 | 50 => 179 | 57 => 181 | n => n, fun | 22 => 149 | 24 => 45 | 25 => 180 | 3 => 3 | 39 => 191 | 0 => 0 | 53 => 167 | 55 => 188 | 4 => 4 | 46 => 221 | 45 => 220 | 50 => 130 | 5 => 5 | 9 => 9 | 66 => 237 | 70 => 241 | 76 => 244 | 77 => 69 | n => n, fun | n => n⟩
theorem Tryz.sortP : SlLaysF0.n6 Tryz.prog Tryz.sortP_ren := {
  mixed := by kernel_rfl
  f6 := ⟨Tryz.f131.name, by decide, Tryz.func131.trans (congrArg some (by kernel_rfl))⟩
  f14 := ⟨Tryz.f150.name, by decide, Tryz.func150.trans (congrArg some (by kernel_rfl))⟩
  f15 := Tryz.func151.trans (congrArg some (by kernel_rfl))
  f20 := ⟨Tryz.f162.name, by decide, Tryz.func162.trans (congrArg some (by kernel_rfl))⟩
  f21 := ⟨Tryz.f163.name, by decide, Tryz.func163.trans (congrArg some (by kernel_rfl))⟩
  f22 := ⟨Tryz.f164.name, by decide, Tryz.func164.trans (congrArg some (by kernel_rfl))⟩
  f23 := ⟨Tryz.f165.name, by decide, Tryz.func165.trans (congrArg some (by kernel_rfl))⟩
  f24 := ⟨Tryz.f166.name, by decide, Tryz.func166.trans (congrArg some (by kernel_rfl))⟩
  f25 := ⟨Tryz.f167.name, by decide, Tryz.func167.trans (congrArg some (by kernel_rfl))⟩
  f26 := ⟨Tryz.f168.name, by decide, Tryz.func168.trans (congrArg some (by kernel_rfl))⟩
  f27 := ⟨Tryz.f169.name, by decide, Tryz.func169.trans (congrArg some (by kernel_rfl))⟩
  f28 := Tryz.func170.trans (congrArg some (by kernel_rfl))
  f29 := Tryz.func171.trans (congrArg some (by kernel_rfl))
  f46 := ⟨Tryz.f175.name, by decide, Tryz.func175.trans (congrArg some (by kernel_rfl))⟩
  f47 := Tryz.func176.trans (congrArg some (by kernel_rfl))
  f48 := Tryz.func177.trans (congrArg some (by kernel_rfl))
  f49 := ⟨Tryz.f178.name, by decide, Tryz.func178.trans (congrArg some (by kernel_rfl))⟩
  f50 := ⟨Tryz.f179.name, by decide, Tryz.func179.trans (congrArg some (by kernel_rfl))⟩
  f57 := ⟨Tryz.f181.name, by decide, Tryz.func181.trans (congrArg some (by kernel_rfl))⟩
  t0 := Tryz.underlying0
  a0 := Tryz.isAgg0
  z0 := Tryz.sizeOf0
  v0 := Tryz.zeroValue0
  t3 := Tryz.underlying3
  a3 := Tryz.isAgg3
  z3 := Tryz.sizeOf3
  v3 := Tryz.zeroValue3
  t4 := Tryz.underlying4
  a4 := Tryz.isAgg4
  z4 := Tryz.sizeOf4
  v4 := Tryz.zeroValue4
  t5 := Tryz.underlying5
  a5 := Tryz.isAgg5
  z5 := Tryz.sizeOf5
  v5 := Tryz.zeroValue5
  t9 := Tryz.underlying9
  a9 := Tryz.isAgg9
  z9 := Tryz.sizeOf9
  v9 := Tryz.zeroValue9
  t22 := Tryz.underlying149
  a22 := Tryz.isAgg149
  z22 := Tryz.sizeOf149
  v22 := Tryz.zeroValue149
  t25 := Tryz.underlying180
  a25 := Tryz.isAgg180
  z25 := Tryz.sizeOf180
  v25 := Tryz.zeroValue180
  t39 := Tryz.underlying191
  a39 := Tryz.isAgg191
  z39 := Tryz.sizeOf191
  v39 := Tryz.zeroValue191
  t45 := Tryz.underlying220
  a45 := Tryz.isAgg220
  z45 := Tryz.sizeOf220
  v45 := Tryz.zeroValue220
  t46 := Tryz.underlying221
  a46 := Tryz.isAgg221
  z46 := Tryz.sizeOf221
  v46 := Tryz.zeroValue221
  t50 := Tryz.underlying130
  a50 := Tryz.isAgg130
  z50 := Tryz.sizeOf130
  v50 := Tryz.zeroValue130
  t53 := Tryz.underlying167
  a53 := Tryz.isAgg167
  z53 := Tryz.sizeOf167
  v53 := Tryz.zeroValue167
  t55 := Tryz.underlying188
  a55 := Tryz.isAgg188
  z55 := Tryz.sizeOf188
  v55 := Tryz.zeroValue188
  t66 := Tryz.underlying237
  a66 := Tryz.isAgg237
  z66 := Tryz.sizeOf237
  v66 := Tryz.zeroValue237
  t70 := Tryz.underlying241
  a70 := Tryz.isAgg241
  z70 := Tryz.sizeOf241
  v70 := Tryz.zeroValue241
  t76 := Tryz.underlying244
  a76 := Tryz.isAgg244
  z76 := Tryz.sizeOf244
  v76 := Tryz.zeroValue244
  t77 := Tryz.underlying69
  a77 := Tryz.isAgg69
  z77 := Tryz.sizeOf69
  v77 := Tryz.zeroValue69 }


def encP (x : BPair) : List Value := [.int .i64 x.1.x0, .int .i64 x.1.x1]

set_option maxHeartbeats 1000000 in
theorem closure132 (x y : BPair) (W : World) : Calls Tryz.prog 132 #[.agg #[.int .i64 x.1.x0, .int .i64 x.1.x1], .agg #[.int .i64 y.1.x0, .int .i64 y.1.x1]] W fun e w' => e = .returned (.int .i64 (bCmp x y)) ∧ ∃ q os', w' = grow (W.drewN q) os' := by
  have hx := x.2; have hy := y.2
  have e : IntKind.i64.wrap (x.1.x0 - y.1.x0) = bCmp x y := by
    unfold bCmp; simp [IntKind.wrap, IntKind.bits, IntKind.signed]; omega
  generalize bCmp x y = r at e ⊢
  generalize x.1.x0 = a at e ⊢
  generalize x.1.x1 = b
  generalize y.1.x0 = c at e ⊢
  generalize y.1.x1 = d
  go_enter Tryz.func132, Tryz.ntmps132
  go_wp2
  go_ret
  exact ⟨rfl, 0, _, by rw [alloc_eq_grow, alloc_eq_grow, grow_grow]; rfl⟩
theorem cmpLays132 (blk off size : Nat) (w : World) : CmpLays Tryz.prog 132 #[] encP 2 bCmp blk off size w :=
  fun _ _ _ _ x y => closure132 x y _

theorem sortW_heap (w : World) (b o n : Nat) (d : Array BPair) (os : Array Obj) (k : Nat) (hk : k < w.heap.size) :
    (sortWorldK encP 2 w b o n d os).heap[k]? = if b = k then (w.heap[k]?).map (onCells (putCells id o (flatK encP 2 d))) else w.heap[k]? := by
  show (w.heap.modify b _ ++ os)[k]? = _
  rw [Array.getElem?_append_left (by simpa using hk), Array.getElem?_modify]

theorem flatP_get (d : Array BPair) (i j : Nat) (hi : i < d.size) (hj : j < 2) : (flatK encP 2 d)[i * 2 + j]! = match j with | 0 => .int .i64 (d[i]!).1.x0 | _ => .int .i64 (d[i]!).1.x1 := by
  rw [get_flatK _ _ _ _ (by omega), show (i * 2 + j) / 2 = i by omega, show (i * 2 + j) % 2 = j by omega]
  rcases (show j = 0 ∨ j = 1 by omega) with rfl | rfl <;> rfl

theorem putP_get (d : Array BPair) (o : Nat) (c : Array Value) (k : Nat) : (putCells id o (flatK encP 2 d) c)[k]? = (c[k]?).map fun x => if o ≤ k ∧ k < o + d.size * 2 then (flatK encP 2 d)[k - o]! else x := by
  unfold putCells
  rw [Array.getElem?_mapIdx, size_flatK]; rfl

theorem cellP (x : T_Arr2_i64) (j : Nat) (hj : j < 2) (h I β objs ctr) (z : Value) : Rd h I β objs ctr (D_Arr2_i64 nvS x j) z ↔ z = match j with | 0 => .int .i64 x.x0 | _ => .int .i64 x.x1 := by
  rcases (show j = 0 ∨ j = 1 by omega) with rfl | rfl <;> rfl

set_option maxHeartbeats 1000000 in
theorem sortPairs_ok (x : List T_Arr2_i64) (off n : Int) (r : List T_Arr2_i64) (h : sortPairs x off n = some r) (N : Int) (hN : lenL x = N) (tg : Bool) :
    LentFn Tryz.prog 131 [.vec 0 0 2 off n, .fn (.func 132) 0 (fun _ => .junk)] [.arr 0 2 N tg (fun ix jx => (D_Arr2_i64 nvS (nvS.get d_Arr2_i64 x ix) jx))] [.arr 0 2 N tg (fun ix jx => (D_Arr2_i64 nvS (nvS.get d_Arr2_i64 r ix) jx))] (.tup 0 (fun _ => .junk)) := by
  refine ⟨⟨_, Tryz.func131, by kernel_rfl, by kernel_rfl⟩, ?_⟩
  intro w I c vs β hc hI hG hlen hargs hpre hdom hdis
  have hrl := sortPairs_len h
  obtain ⟨rfl, rfl, hbig, hx, hr⟩ := sortPairs_some h
  match vs, hlen with
  | [v0, v1], _ =>
  obtain ⟨y0, e0, a0⟩ := hargs 0 _ rfl
  obtain ⟨y1, e1, a1⟩ := hargs 1 _ rfl
  cases e0; cases e1
  obtain ⟨ys, rfl, hys, -⟩ := a1
  obtain rfl : ys = #[] := Array.eq_empty_of_size_eq_zero hys
  obtain ⟨-, -, a0⟩ := a0
  obtain ⟨-, -, -, a, len, cap, rfl, hl, hcap, -, hb⟩ := a0 _ _ _ rfl
  obtain ⟨hg, hrob⟩ := hpre 0 _ rfl
  obtain ⟨hgc, hn0, hrob⟩ := hrob
  have hlx : (len : Int) = x.length := hl
  by_cases hz : len = 0
  · subst hz
    have hcon := AnyF.slices_SortFunc_none Tryz.sortP a cap (.func (.func 132) #[] #[]) w
    change Calls Tryz.prog 131 _ _ _ at hcon
    refine hcon.mono ?_
    rintro e w' ⟨rfl, rfl⟩
    refine ⟨_, I, c, β, rfl, fun _ h => h, fun b hb => ⟨hI b hb, Or.inl hb⟩, fun _ _ _ => rfl, Nat.le_refl _, SameOut.refl _, ?_, hdis, ?_, ?_⟩
    · intro k o hk
      match k with
      | 0 =>
        cases hk
        refine ⟨⟨hgc, hn0, ?_⟩, fun _ => rfl⟩
        rcases hrob with hq | ⟨b, o, s, cc, e, q1, q2, q3, q4, q5, q6⟩
        · exact Or.inl hq
        · refine Or.inr ⟨b, o, s, cc, e, q1, q2, q3, q4, q5, fun i hi => ?_⟩
          exfalso
          have : (i : Int) < lenL x := by rw [hN]; exact hi
          have : (i : Int) < x.length := this
          omega
      | k + 1 => cases hk
    · intro k z hk
      obtain ⟨o, ho⟩ := hdom k z hk
      match k with
      | 0 => exact ⟨⟨_, rfl⟩, Or.inl ⟨0, z, hk, rfl⟩⟩
      | k + 1 => cases ho
    · exact ⟨#[], rfl, rfl, fun j hj => absurd hj (Nat.not_lt_zero _)⟩
  · have hcap0 : 0 < cap := by omega
    obtain ⟨b, o, s, hβ, rfl, hfit⟩ := hb hcap0
    rcases hrob with ⟨hq, -⟩ | ⟨b', o', s', cc, e, q1, q2, q3, q4, q5, q6⟩
    · exfalso
      have : lenL x = 0 := by rw [hN]; exact hq
      have : (x.length : Int) = 0 := this
      omega
    rw [hβ] at q1; cases q1
    have hblk : b < w.heap.size := (Array.getElem?_eq_some_iff.1 q2).1
    have hds : (bArr x hx).size = x.length := bArr_size x hx
    have hlen' : len = (bArr x hx).size := by omega
    have hNx : N = x.length := by rw [← hN]; rfl
    have hcell : ∀ i : Nat, i < x.length → ∀ j, j < 2 → cc[o + (i * 2 + j)]? = some (flatK encP 2 (bArr x hx))[i * 2 + j]! := by
      intro i hi j hj
      obtain ⟨z, z1, -, z3⟩ := q6 i (by omega) j hj
      rw [← Nat.add_assoc, z1, flatP_get _ _ _ (by omega) hj, bArr_get x hx i hi]
      have := (cellP _ j hj _ _ _ _ _ _).1 z3
      rw [this]
      have e : nvS.get d_Arr2_i64 x (i : Int) = x[i] := by
        show getL d_Arr2_i64 x (i : Int) = x[i]
        unfold getL
        simp [hi]
      rw [e]
    have hH : HoldsK encP 2 w b o (bArr x hx) := by
      intro k hk
      rw [size_flatK, hds] at hk
      have e1 : k = k / 2 * 2 + k % 2 := by omega
      have := hcell (k / 2) (by omega) (k % 2) (by omega)
      rw [← e1] at this
      constructor
      · show (match w.heap[b]? with | some (.cells c _ _) => _ | _ => _) = _
        rw [q2]; exact this
      · show (match w.heap[b]? with | some (.cells _ _ (lo, hi)) => _ | _ => _) = _
        rw [q2]; simp
    have eg : ∀ args w, (callFunc 132 args).run Tryz.prog w = .ok (.enter 132 args) w := enters_of Tryz.func132 (by kernel_rfl) rfl
    have hcon := AnyQ.slices_SortFunc_eq Tryz.sortP 2 Tryz.isAgg45 Tryz.sizeOf45 encP (fun _ => rfl) (fun x v hv => by simp [encP] at hv; rcases hv with rfl | rfl <;> rfl) bCmp swoP 132 #[] b o cap (bArr x hx) w eg (cmpLays132 b o _ w) hH hblk (by rw [hds]; have : (x.length : Int) < 4611686018427387904 := hbig; omega)
    change Calls Tryz.prog 131 _ _ _ at hcon
    have hperm := pdq_sorts (ltOf bCmp) swoP (bArr x hx) 0 (bArr x hx).size (Lib.bitLen (bArr x hx).size) true true (Nat.zero_le _) (Nat.le_refl _) (Or.inl rfl)
    generalize hd : pdq (ltOf bCmp) (bArr x hx) 0 (bArr x hx).size (Lib.bitLen (bArr x hx).size) true true = d at hcon hr hperm
    have hdsz : d.size = x.length := hperm.1.1.trans hds
    rw [← hlen'] at hcon
    show Calls Tryz.prog 131 #[.slice (some ⟨b, o + 0 * 2, none⟩) len cap, _] _ _
    rw [Nat.zero_mul, Nat.add_zero]
    refine hcon.mono ?_
    rintro e' w' ⟨rfl, nn, os, rfl⟩
    have hsize : w.heap.size ≤ (sortWorldK encP 2 w b o nn d os).heap.size := by
      show _ ≤ (w.heap.modify b _ ++ os).size
      simp
    have hrget : ∀ i : Nat, i < x.length → nvS.get d_Arr2_i64 r (i : Int) = (d[i]!).1 := by
      intro i hi
      show getL d_Arr2_i64 r (i : Int) = _
      rw [hr]; unfold getL
      rw [getElem!_pos d i (by omega)]
      simp [hdsz, hi]
    refine ⟨_, I, c, β, rfl, fun _ h => h, fun b' hb' => ⟨Nat.lt_of_lt_of_le (hI b' hb') hsize, Or.inl hb'⟩, ?_, hsize, ⟨rfl, rfl⟩, ?_, hdis, ?_, ?_⟩
    · intro b' hb' hne
      rw [sortW_heap _ _ _ _ _ _ _ hb', if_neg (hne 0 _ hβ)]
    · intro k ob hk
      match k with
      | 0 =>
        cases hk
        refine ⟨⟨hgc, hn0, Or.inr ⟨b, o, s, putCells id o (flatK encP 2 d) cc, e, hβ, ?_, ?_, q4, q5, ?_⟩⟩, fun _ => rfl⟩
        · rw [sortW_heap _ _ _ _ _ _ _ hblk, if_pos rfl, q2]; rfl
        · unfold putCells; rw [Array.size_mapIdx]; exact q3
        · intro i hi j hj
          have hi' : i < x.length := by omega
          refine ⟨(flatK encP 2 d)[i * 2 + j]!, ?_, ?_, ?_⟩
          · have h1 := hcell i hi' j hj
            rw [putP_get, Nat.add_assoc, h1, Option.map_some, if_pos ⟨by omega, by omega⟩, show o + (i * 2 + j) - o = i * 2 + j by omega]
          · rw [flatP_get d i j (by omega) hj]
            rcases (show j = 0 ∨ j = 1 by omega) with rfl | rfl <;> rfl
          · rw [flatP_get d i j (by omega) hj]
            refine (cellP _ j hj _ _ _ _ _ _).2 ?_
            rw [hrget i hi']
      | k + 1 => cases hk
    · intro k z hk
      obtain ⟨o', ho⟩ := hdom k z hk
      match k with
      | 0 => exact ⟨⟨_, rfl⟩, Or.inl ⟨0, z, hk, rfl⟩⟩
      | k + 1 => cases ho
    · exact ⟨#[], rfl, rfl, fun j hj => absurd hj (Nat.not_lt_zero _)⟩
end Go.Proofs
