/- slices.SortFunc at [2]int, by the library's contract of it: what it leaves is what sortPairs says. -/
import Derived.Test.YtmbgnnedjgmhmaaGreatDoorKHead
import Derived.Test.YtmbgnnedjgmhmaaGreatDoorKS
set_option linter.all false
namespace Go.Proofs
open Go.Shelf Go.RowKit Go.Lib Go.Sort Go.Vx
def Tryz.sortP_ren : Go.Shelf.Ren := ⟨fun | 6 => 155 | 15 => 172 | 14 => 171 | 28 => 184 | 29 => 185 | 20 => 176 | 21 => 177 | 22 => 178 | 23 => 179 | 24 => 180 | 25 => 181 | 26 => 182 | 27 => 183 | 46 => 187 | 47 => 188 | 48 => 189 | 49 => 190 | 50 => 191 | 57 => 196 | n => n, fun | 22 => 179 | 24 => 59 | 25 => 218 | 3 => 3 | 39 => 196 | 0 => 0 | 53 => 158 | 55 => 193 | 4 => 4 | 46 => 243 | 45 => 242 | 50 => 121 | 5 => 5 | 9 => 9 | 66 => 251 | 70 => 255 | 76 => 261 | 77 => 55 | n => n, fun | n => n⟩
theorem Tryz.sortP : SlLaysF0.n6 Tryz.prog Tryz.sortP_ren := {
  mixed := by kernel_rfl
  f6 := ⟨Tryz.f155.name, by decide, Tryz.func155.trans (congrArg some (by kernel_rfl))⟩
  f14 := ⟨Tryz.f171.name, by decide, Tryz.func171.trans (congrArg some (by kernel_rfl))⟩
  f15 := Tryz.func172.trans (congrArg some (by kernel_rfl))
  f20 := ⟨Tryz.f176.name, by decide, Tryz.func176.trans (congrArg some (by kernel_rfl))⟩
  f21 := ⟨Tryz.f177.name, by decide, Tryz.func177.trans (congrArg some (by kernel_rfl))⟩
  f22 := ⟨Tryz.f178.name, by decide, Tryz.func178.trans (congrArg some (by kernel_rfl))⟩
  f23 := ⟨Tryz.f179.name, by decide, Tryz.func179.trans (congrArg some (by kernel_rfl))⟩
  f24 := ⟨Tryz.f180.name, by decide, Tryz.func180.trans (congrArg some (by kernel_rfl))⟩
  f25 := ⟨Tryz.f181.name, by decide, Tryz.func181.trans (congrArg some (by kernel_rfl))⟩
  f26 := ⟨Tryz.f182.name, by decide, Tryz.func182.trans (congrArg some (by kernel_rfl))⟩
  f27 := ⟨Tryz.f183.name, by decide, Tryz.func183.trans (congrArg some (by kernel_rfl))⟩
  f28 := Tryz.func184.trans (congrArg some (by kernel_rfl))
  f29 := Tryz.func185.trans (congrArg some (by kernel_rfl))
  f46 := ⟨Tryz.f187.name, by decide, Tryz.func187.trans (congrArg some (by kernel_rfl))⟩
  f47 := Tryz.func188.trans (congrArg some (by kernel_rfl))
  f48 := Tryz.func189.trans (congrArg some (by kernel_rfl))
  f49 := ⟨Tryz.f190.name, by decide, Tryz.func190.trans (congrArg some (by kernel_rfl))⟩
  f50 := ⟨Tryz.f191.name, by decide, Tryz.func191.trans (congrArg some (by kernel_rfl))⟩
  f57 := ⟨Tryz.f196.name, by decide, Tryz.func196.trans (congrArg some (by kernel_rfl))⟩
  t0 := Tryz.underlying0
  a0 := Tryz.isAgg0
  z0 := Tryz.sizeOf0
  v0 := Tryz.zeroValue0
  t3 := Tryz.underlying3
  a3 := Tryz.isAgg3
  z3 := Tryz.sizeOf3
  v3 := Tryz.zeroValue3
  t4 := Tryz.underlying4
  a4 := Tryz.isAgg4
  z4 := Tryz.sizeOf4
  v4 := Tryz.zeroValue4
  t5 := Tryz.underlying5
  a5 := Tryz.isAgg5
  z5 := Tryz.sizeOf5
  v5 := Tryz.zeroValue5
  t9 := Tryz.underlying9
  a9 := Tryz.isAgg9
  z9 := Tryz.sizeOf9
  v9 := Tryz.zeroValue9
  t22 := Tryz.underlying179
  a22 := Tryz.isAgg179
  z22 := Tryz.sizeOf179
  v22 := Tryz.zeroValue179
  t25 := Tryz.underlying218
  a25 := Tryz.isAgg218
  z25 := Tryz.sizeOf218
  v25 := Tryz.zeroValue218
  t39 := Tryz.underlying196
  a39 := Tryz.isAgg196
  z39 := Tryz.sizeOf196
  v39 := Tryz.zeroValue196
  t45 := Tryz.underlying242
  a45 := Tryz.isAgg242
  z45 := Tryz.sizeOf242
  v45 := Tryz.zeroValue242
  t46 := Tryz.underlying243
  a46 := Tryz.isAgg243
  z46 := Tryz.sizeOf243
  v46 := Tryz.zeroValue243
  t50 := Tryz.underlying121
  a50 := Tryz.isAgg121
  z50 := Tryz.sizeOf121
  v50 := Tryz.zeroValue121
  t53 := Tryz.underlying158
  a53 := Tryz.isAgg158
  z53 := Tryz.sizeOf158
  v53 := Tryz.zeroValue158
  t55 := Tryz.underlying193
  a55 := Tryz.isAgg193
  z55 := Tryz.sizeOf193
  v55 := Tryz.zeroValue193
  t66 := Tryz.underlying251
  a66 := Tryz.isAgg251
  z66 := Tryz.sizeOf251
  v66 := Tryz.zeroValue251
  t70 := Tryz.underlying255
  a70 := Tryz.isAgg255
  z70 := Tryz.sizeOf255
  v70 := Tryz.zeroValue255
  t76 := Tryz.underlying261
  a76 := Tryz.isAgg261
  z76 := Tryz.sizeOf261
  v76 := Tryz.zeroValue261
  t77 := Tryz.underlying55
  a77 := Tryz.isAgg55
  z77 := Tryz.sizeOf55
  v77 := Tryz.zeroValue55 }


def encP (x : Z4n) : List Value := [.int .i64 x.1.x0, .int .i64 x.1.x1]

set_option maxHeartbeats 1000000 in
theorem closure132 (x y : Z4n) (W : World) : Calls Tryz.prog 156 #[.agg #[.int .i64 x.1.x0, .int .i64 x.1.x1], .agg #[.int .i64 y.1.x0, .int .i64 y.1.x1]] W fun e w' => e = .returned (.int .i64 (bCmp x y)) ∧ ∃ q os', w' = grow (W.drewN q) os' := by
  have hx := x.2; have hy := y.2
  have e : IntKind.i64.wrap (x.1.x0 - y.1.x0) = bCmp x y := by
    unfold bCmp; simp [IntKind.wrap, IntKind.bits, IntKind.signed]; omega
  generalize bCmp x y = r at e ⊢
  generalize x.1.x0 = a at e ⊢
  generalize x.1.x1 = b
  generalize y.1.x0 = c at e ⊢
  generalize y.1.x1 = d
  go_enter Tryz.func156, Tryz.ntmps156
  go_wp2
  go_ret
  exact ⟨rfl, 0, _, by rw [alloc_eq_grow, alloc_eq_grow, grow_grow]; rfl⟩
theorem cmpLays132 (blk off size : Nat) (w : World) : CmpLays Tryz.prog 156 #[] encP 2 bCmp blk off size w :=
  fun _ _ _ _ x y => closure132 x y _

theorem sortW_heap (w : World) (b o n : Nat) (d : Array Z4n) (os : Array Obj) (k : Nat) (hk : k < w.heap.size) :
    (sortWorldK encP 2 w b o n d os).heap[k]? = if b = k then (w.heap[k]?).map (onCells (putCells id o (flatK encP 2 d))) else w.heap[k]? := by
  show (w.heap.modify b _ ++ os)[k]? = _
  rw [Array.getElem?_append_left (by simpa using hk), Array.getElem?_modify]

theorem flatP_get (d : Array Z4n) (i j : Nat) (hi : i < d.size) (hj : j < 2) : (flatK encP 2 d)[i * 2 + j]! = match j with | 0 => .int .i64 (d[i]!).1.x0 | _ => .int .i64 (d[i]!).1.x1 := by
  rw [get_flatK _ _ _ _ (by omega), show (i * 2 + j) / 2 = i by omega, show (i * 2 + j) % 2 = j by omega]
  rcases (show j = 0 ∨ j = 1 by omega) with rfl | rfl <;> rfl

theorem putP_get (d : Array Z4n) (o : Nat) (c : Array Value) (k : Nat) : (putCells id o (flatK encP 2 d) c)[k]? = (c[k]?).map fun x => if o ≤ k ∧ k < o + d.size * 2 then (flatK encP 2 d)[k - o]! else x := by
  unfold putCells
  rw [Array.getElem?_mapIdx, size_flatK]; rfl

theorem cellP (x : Zx) (j : Nat) (hj : j < 2) (h I β objs ctr) (z : Value) : Rd h I β objs ctr (Xk nvS x j) z ↔ z = match j with | 0 => .int .i64 x.x0 | _ => .int .i64 x.x1 := by
  rcases (show j = 0 ∨ j = 1 by omega) with rfl | rfl <;> rfl

set_option maxHeartbeats 1000000 in
theorem sortPairs_ok (x : List Zx) (off n : Int) (r : List Zx) (h : Z1e x off n = some r) (N : Int) (hN : Z0 x = N) (tg : Bool) :
    X3 Tryz.prog 155 [.vec 0 0 2 off n, .fn (.func 156) 0 (fun _ => .junk)] [.arr 0 2 N tg (fun ix jx => (Xk nvS (nvS.get Zz x ix) jx))] [.arr 0 2 N tg (fun ix jx => (Xk nvS (nvS.get Zz r ix) jx))] (.tup 0 (fun _ => .junk)) := by
  refine ⟨⟨_, Tryz.func155, by kernel_rfl, by kernel_rfl⟩, ?_⟩
  intro w I c vs β hc hI hG hlen hargs hpre hdom hdis
  have hrl := Z8e h
  obtain ⟨rfl, rfl, hbig, hx, hr⟩ := Z76 h
  match vs, hlen with
  | [v0, v1], _ =>
  obtain ⟨y0, e0, a0⟩ := hargs 0 _ rfl
  obtain ⟨y1, e1, a1⟩ := hargs 1 _ rfl
  cases e0; cases e1
  obtain ⟨ys, rfl, hys, -⟩ := a1
  obtain rfl : ys = #[] := Array.eq_empty_of_size_eq_zero hys
  obtain ⟨-, -, a0⟩ := a0
  obtain ⟨-, -, -, a, len, cap, rfl, hl, hcap, -, hb⟩ := a0 _ _ _ rfl
  obtain ⟨hg, hrob⟩ := hpre 0 _ rfl
  obtain ⟨hgc, hn0, hrob⟩ := hrob
  have hlx : (len : Int) = x.length := hl
  by_cases hz : len = 0
  · subst hz
    have hcon := AnyF.slices_SortFunc_none Tryz.sortP a cap (.func (.func 156) #[] #[]) w
    change Calls Tryz.prog 155 _ _ _ at hcon
    refine hcon.mono ?_
    rintro e w' ⟨rfl, rfl⟩
    refine ⟨_, I, c, β, rfl, fun _ h => h, fun b hb => ⟨hI b hb, Or.inl hb⟩, fun _ _ _ => rfl, Nat.le_refl _, Xg.refl _, ?_, hdis, ?_, ?_⟩
    · intro k o hk
      match k with
      | 0 =>
        cases hk
        refine ⟨⟨hgc, hn0, ?_⟩, fun _ => rfl⟩
        rcases hrob with hq | ⟨b, o, s, cc, e, q1, q2, q3, q4, q5, q6⟩
        · exact Or.inl hq
        · refine Or.inr ⟨b, o, s, cc, e, q1, q2, q3, q4, q5, fun i hi => ?_⟩
          exfalso
          have : (i : Int) < Z0 x := by rw [hN]; exact hi
          have : (i : Int) < x.length := this
          omega
      | k + 1 => cases hk
    · intro k z hk
      obtain ⟨o, ho⟩ := hdom k z hk
      match k with
      | 0 => exact ⟨⟨_, rfl⟩, Or.inl ⟨0, z, hk, rfl⟩⟩
      | k + 1 => cases ho
    · exact ⟨#[], rfl, rfl, fun j hj => absurd hj (Nat.not_lt_zero _)⟩
  · have hcap0 : 0 < cap := by omega
    obtain ⟨b, o, s, hβ, rfl, hfit⟩ := hb hcap0
    rcases hrob with ⟨hq, -⟩ | ⟨b', o', s', cc, e, q1, q2, q3, q4, q5, q6⟩
    · exfalso
      have : Z0 x = 0 := by rw [hN]; exact hq
      have : (x.length : Int) = 0 := this
      omega
    rw [hβ] at q1; cases q1
    have hblk : b < w.heap.size := (Array.getElem?_eq_some_iff.1 q2).1
    have hds : (Z0o x hx).size = x.length := bArr_size x hx
    have hlen' : len = (Z0o x hx).size := by omega
    have hNx : N = x.length := by rw [← hN]; rfl
    have hcell : ∀ i : Nat, i < x.length → ∀ j, j < 2 → cc[o + (i * 2 + j)]? = some (flatK encP 2 (Z0o x hx))[i * 2 + j]! := by
      intro i hi j hj
      obtain ⟨z, z1, -, z3⟩ := q6 i (by omega) j hj
      rw [← Nat.add_assoc, z1, flatP_get _ _ _ (by omega) hj, bArr_get x hx i hi]
      have := (cellP _ j hj _ _ _ _ _ _).1 z3
      rw [this]
      have e : nvS.get Zz x (i : Int) = x[i] := by
        show Z1 Zz x (i : Int) = x[i]
        unfold Z1
        simp [hi]
      rw [e]
    have hH : HoldsK encP 2 w b o (Z0o x hx) := by
      intro k hk
      rw [size_flatK, hds] at hk
      have e1 : k = k / 2 * 2 + k % 2 := by omega
      have := hcell (k / 2) (by omega) (k % 2) (by omega)
      rw [← e1] at this
      constructor
      · show (match w.heap[b]? with | some (.cells c _ _) => _ | _ => _) = _
        rw [q2]; exact this
      · show (match w.heap[b]? with | some (.cells _ _ (lo, hi)) => _ | _ => _) = _
        rw [q2]; simp
    have eg : ∀ args w, (callFunc 156 args).run Tryz.prog w = .ok (.enter 156 args) w := enters_of Tryz.func156 (by kernel_rfl) rfl
    have hcon := AnyQ.slices_SortFunc_eq Tryz.sortP 2 Tryz.isAgg59 Tryz.sizeOf59 encP (fun _ => rfl) (fun x v hv => by simp [encP] at hv; rcases hv with rfl | rfl <;> rfl) bCmp swoP 156 #[] b o cap (Z0o x hx) w eg (cmpLays132 b o _ w) hH hblk (by rw [hds]; have : (x.length : Int) < 4611686018427387904 := hbig; omega)
    change Calls Tryz.prog 155 _ _ _ at hcon
    have hperm := pdq_sorts (ltOf bCmp) swoP (Z0o x hx) 0 (Z0o x hx).size (Lib.bitLen (Z0o x hx).size) true true (Nat.zero_le _) (Nat.le_refl _) (Or.inl rfl)
    generalize hd : pdq (ltOf bCmp) (Z0o x hx) 0 (Z0o x hx).size (Lib.bitLen (Z0o x hx).size) true true = d at hcon hr hperm
    have hdsz : d.size = x.length := hperm.1.1.trans hds
    rw [← hlen'] at hcon
    show Calls Tryz.prog 155 #[.slice (some ⟨b, o + 0 * 2, none⟩) len cap, _] _ _
    rw [Nat.zero_mul, Nat.add_zero]
    refine hcon.mono ?_
    rintro e' w' ⟨rfl, nn, os, rfl⟩
    have hsize : w.heap.size ≤ (sortWorldK encP 2 w b o nn d os).heap.size := by
      show _ ≤ (w.heap.modify b _ ++ os).size
      simp
    have hrget : ∀ i : Nat, i < x.length → nvS.get Zz r (i : Int) = (d[i]!).1 := by
      intro i hi
      show Z1 Zz r (i : Int) = _
      rw [hr]; unfold Z1
      rw [getElem!_pos d i (by omega)]
      simp [hdsz, hi]
    refine ⟨_, I, c, β, rfl, fun _ h => h, fun b' hb' => ⟨Nat.lt_of_lt_of_le (hI b' hb') hsize, Or.inl hb'⟩, ?_, hsize, ⟨rfl, rfl⟩, ?_, hdis, ?_, ?_⟩
    · intro b' hb' hne
      rw [sortW_heap _ _ _ _ _ _ _ hb', if_neg (hne 0 _ hβ)]
    · intro k ob hk
      match k with
      | 0 =>
        cases hk
        refine ⟨⟨hgc, hn0, Or.inr ⟨b, o, s, putCells id o (flatK encP 2 d) cc, e, hβ, ?_, ?_, q4, q5, ?_⟩⟩, fun _ => rfl⟩
        · rw [sortW_heap _ _ _ _ _ _ _ hblk, if_pos rfl, q2]; rfl
        · unfold putCells; rw [Array.size_mapIdx]; exact q3
        · intro i hi j hj
          have hi' : i < x.length := by omega
          refine ⟨(flatK encP 2 d)[i * 2 + j]!, ?_, ?_, ?_⟩
          · have h1 := hcell i hi' j hj
            rw [putP_get, Nat.add_assoc, h1, Option.map_some, if_pos ⟨by omega, by omega⟩, show o + (i * 2 + j) - o = i * 2 + j by omega]
          · rw [flatP_get d i j (by omega) hj]
            rcases (show j = 0 ∨ j = 1 by omega) with rfl | rfl <;> rfl
          · rw [flatP_get d i j (by omega) hj]
            refine (cellP _ j hj _ _ _ _ _ _).2 ?_
            rw [hrget i hi']
      | k + 1 => cases hk
    · intro k z hk
      obtain ⟨o', ho⟩ := hdom k z hk
      match k with
      | 0 => exact ⟨⟨_, rfl⟩, Or.inl ⟨0, z, hk, rfl⟩⟩
      | k + 1 => cases ho
    · exact ⟨#[], rfl, rfl, fun j hj => absurd hj (Nat.not_lt_zero _)⟩
end Go.Proofs
