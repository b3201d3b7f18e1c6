/- The rows above: the iterator, walked for every loop body that keeps what lay below. -/
import Derived.Test.YtmbgnnedjgmhmaaGreatDoorKHead
import Derived.RangeFuncNested
import Derived.RangeFuncBound
import Derived.RangeFuncCalls
import Derived.RangeFuncLeaves
import Derived.Shelf.Abstract
import Derived.Shelf.RegionOpen
import Derived.WalkKit
import Derived.OwnWalkIn
import Derived.TacticsInMore
import Derived.LoopNIn
import Derived.LoopIn
set_option linter.all false
namespace Go.Proofs
open Go.RowKit Go.Shelf
attribute [local go_sem] Oper.semAt_some
def Z1m (q : Nat → Bool) : Nat → Nat → List Int
  | _, 0 => []
  | 0, _ => []
  | n + 1, x + 1 => if q x = true then (x : Int) :: Z1m q n x else []
def Qu (q : Nat → Bool) (len : Nat) : Nat → Nat → List Int
  | 0, _ => []
  | n + 1, x => if x < len ∧ q (x - 1) = true then (x : Int) :: Qu q len n (x + 1) else []
structure Z19 (n₀ By Bl : Nat) (A B : World) : Prop where
  low : Below n₀ A B
  hy : B.heap[By]? = A.heap[By]?
  hl : B.heap[Bl]? = A.heap[Bl]?
theorem chCell {A B : World} {k : Nat} {v : Value} (h : B.heap[k]? = A.heap[k]?) (hc : A.cell? ⟨k, 0, none⟩ = some v) : B.cell? ⟨k, 0, none⟩ = some v := by
  rw [← hc]; simp [World.cell?, h]
theorem Z19.refl (n₀ By Bl : Nat) (A : World) : Z19 n₀ By Bl A A := ⟨Below.refl _ _, rfl, rfl⟩
theorem Z19.trans {n₀ By Bl : Nat} {A B C : World} (h : Z19 n₀ By Bl A B) (h' : Z19 n₀ By Bl B C) : Z19 n₀ By Bl A C := ⟨h.low.trans h'.low, h'.hy.trans h.hy, h'.hl.trans h.hl⟩
set_option maxRecDepth 100000 in
set_option maxHeartbeats 4000000 in
theorem chAbove1 (F : Fence) (n : Nat) (h6 : F.fn 63) (hro : F.round = none) (hn : 1 ≤ n) (l By Bl n₀ y len cap : Nat) (a : Option Addr) (q : Nat → Bool) (hy : y ≤ len) (hlen : len < 4611686018427387904) (J Jx : List Int → World → Prop)
    (hY : ∀ pre x W, J pre W → pre.length < 31 → YieldAt F (n - 1) Tryz.prog l #[.int .i64 x] W fun e W' =>
      (e = .returned (.bool true) ∧ J (pre ++ [x]) W' ∧ Z19 n₀ By Bl W W') ∨ (e = .returned (.bool false) ∧ Jx (pre ++ [x]) W'))
    (W : World) (hcy : W.cell? ⟨By, 0, none⟩ = some (.int .i64 y)) (hcl : W.cell? ⟨Bl, 0, none⟩ = some (.slice a len cap))
    (hc : 0 < len → ∃ b off, a = some ⟨b, off, none⟩ ∧ b < n₀ ∧ ∀ j, j < len → W.cell? ⟨b, off + j * 4 + 1, none⟩ = some (.bool (q j))) (h0 : J [] W) :
    CallsIn F n Tryz.prog 63 #[.func (.yield l) #[] #[], .pointer (some ⟨By, 0, none⟩), .pointer (some ⟨Bl, 0, none⟩)] W fun e W' => (∃ v, e = .returned v) ∧
      ((∃ ys, ys = Z1m q 31 y ∧ J ys W') ∨ (∃ pre, pre <+: Z1m q 31 y ∧ Jx pre W')) := by
  refine callsIn_of_wp Tryz.func63 rfl h6 ?_ hro
  simp only [Tryz.ntmps63, List.size_toArray, List.length_cons, List.length_nil, Nat.reduceAdd, Nat.reduceSub, Array.replicate_succ, Array.replicate_zero, List.push_toArray, List.append_toArray, List.nil_append, List.cons_append]
  gi_wp2
  gi_loopw [4] (fun p wr => ∃ (x k : Nat) (pre : List Int), p = .int .i64 ((x : Int) - 1) ∧ x + k = y ∧ k ≤ 31 ∧ pre.length = k ∧ pre ++ Z1m q (31 - k) x = Z1m q 31 y ∧ J pre wr ∧ Z19 n₀ By Bl W wr)
    (fun p _ => (intOf p + 1).toNat)
  case atStart => exact ⟨y, 0, [], by simp, rfl, by omega, rfl, rfl, h0, Z19.refl _ _ _ _⟩
  case round =>
    obtain ⟨x, k, pre, rfl, hx, hk, hl, he, hJs, hB⟩ := hrel
    have hcy' := chCell hB.hy hcy
    have hcl' := chCell hB.hl hcl
    cases x with
    | zero =>
      gi_wp2
      go_end0
      refine ⟨⟨_, rfl⟩, .inl ⟨pre, ?_, hJs⟩⟩
      rw [← he]; cases h : 31 - k <;> simp [Z1m]
    | succ x =>
      obtain ⟨b, off, rfl, hb, hc⟩ := hc (by omega)
      have hcx := (hB.low.cell (p := ⟨b, off + x * 4 + 1, none⟩) hb).trans (hc x (by omega))
      by_cases hk31 : k = 31
      · gi_wp2
        go_end0
        have hJ' : J (Z1m q 31 y) wr := by
          have e : pre = Z1m q 31 y := by rw [← he, hk31]; simp [Z1m]
          exact e ▸ hJs
        first
          | exact ⟨⟨_, rfl⟩, .inl ⟨_, rfl, hJ'⟩⟩
          | exact ⟨⟨_, rfl⟩, .inl hJ'⟩
      · have e31 : 31 - k = (30 - k) + 1 := by omega
        rw [e31] at he
        cases hq : q x with
        | false =>
          rw [hq] at hcx
          gi_wp2
          go_end0
          refine ⟨⟨_, rfl⟩, .inl ⟨pre, ?_, hJs⟩⟩
          rw [← he]; simp [Z1m, hq]
        | true =>
          rw [hq] at hcx
          obtain ⟨fn, tmps, assign, body, hy, hR⟩ := hY pre x wr hJs (by omega)
          gi_wp2
          have hp : (pre ++ [(x : Int)]) ++ Z1m q (30 - k) x = Z1m q 31 y := by rw [← he]; simp [Z1m, hq]
          refine hR.mono ?_
          rintro e W3 (⟨rfl, hJ3, hk3⟩ | ⟨rfl, hJx3⟩)
          · gi_wp2
            go_roundw
            case rel => exact ⟨x, k + 1, pre ++ [(x : Int)], by simp, by omega, by omega, by simp [hl], by rw [← hp, show 31 - (k + 1) = 30 - k by omega], hJ3, hB.trans hk3⟩
            case measure => simp [intOf] <;> omega
          · gi_wp2
            refine bodyPost_ret (results_none rfl _ _ _) rfl ?_
            exact ⟨⟨_, rfl⟩, .inr ⟨pre ++ [(x : Int)], ⟨_, hp⟩, hJx3⟩⟩
set_option maxRecDepth 100000 in
set_option maxHeartbeats 4000000 in
theorem chBelow1 (F : Fence) (n : Nat) (h6 : F.fn 64) (hro : F.round = none) (hn : 1 ≤ n) (l By Bl n₀ y len cap : Nat) (a : Option Addr) (q : Nat → Bool) (hy : y ≤ len) (hlen : len < 4611686018427387904) (J Jx : List Int → World → Prop)
    (hY : ∀ pre x W, J pre W → pre.length < 32 → YieldAt F (n - 1) Tryz.prog l #[.int .i64 x] W fun e W' =>
      (e = .returned (.bool true) ∧ J (pre ++ [x]) W' ∧ Z19 n₀ By Bl W W') ∨ (e = .returned (.bool false) ∧ Jx (pre ++ [x]) W'))
    (W : World) (hcy : W.cell? ⟨By, 0, none⟩ = some (.int .i64 y)) (hcl : W.cell? ⟨Bl, 0, none⟩ = some (.slice a len cap))
    (hc : 0 < len → ∃ b off, a = some ⟨b, off, none⟩ ∧ b < n₀ ∧ ∀ j, j < len → W.cell? ⟨b, off + j * 4 + 1, none⟩ = some (.bool (q j))) (h0 : J [] W) :
    CallsIn F n Tryz.prog 64 #[.func (.yield l) #[] #[], .pointer (some ⟨By, 0, none⟩), .pointer (some ⟨Bl, 0, none⟩)] W fun e W' => (∃ v, e = .returned v) ∧
      ((∃ ys, ys = Qu q len 32 (y + 1) ∧ J ys W') ∨ (∃ pre, pre <+: Qu q len 32 (y + 1) ∧ Jx pre W')) := by
  refine callsIn_of_wp Tryz.func64 rfl h6 ?_ hro
  simp only [Tryz.ntmps64, List.size_toArray, List.length_cons, List.length_nil, Nat.reduceAdd, Nat.reduceSub, Array.replicate_succ, Array.replicate_zero, List.push_toArray, List.append_toArray, List.nil_append, List.cons_append]
  gi_wp2
  gi_loopw [4] (fun p wr => ∃ (x k : Nat) (pre : List Int), p = .int .i64 ((x : Int) + 1) ∧ y + k = x ∧ x ≤ len ∧ k ≤ 32 ∧ pre.length = k ∧ pre ++ Qu q len (32 - k) (x + 1) = Qu q len 32 (y + 1) ∧ J pre wr ∧ Z19 n₀ By Bl W wr)
    (fun p _ => (len + 2 - intOf p).toNat)
  case atStart => exact ⟨y, 0, [], by simp, rfl, hy, by omega, rfl, rfl, h0, Z19.refl _ _ _ _⟩
  case round =>
    obtain ⟨x, k, pre, rfl, hx, hxl, hk, hl, he, hJs, hB⟩ := hrel
    have hcy' := chCell hB.hy hcy
    have hcl' := chCell hB.hl hcl
    have fin : (∀ n, Qu q len (32 - k) (x + 1) = []) → J (Qu q len 32 (y + 1)) wr := fun h => by rw [← he, h 0, List.append_nil]; exact hJs
    by_cases hlt : x + 1 < len
    · obtain ⟨b, off, rfl, hb, hc⟩ := hc (by omega)
      have hcx := (hB.low.cell (p := ⟨b, off + x * 4 + 1, none⟩) hb).trans (hc x (by omega))
      by_cases hk32 : k = 32
      · have hJ' := fin (fun _ => by rw [hk32]; rfl)
        gi_wp2
        go_end0
        first
          | exact ⟨⟨_, rfl⟩, .inl ⟨_, rfl, hJ'⟩⟩
          | exact ⟨⟨_, rfl⟩, .inl hJ'⟩
      · have e32 : 32 - k = (31 - k) + 1 := by omega
        cases hq : q x with
        | false =>
          have hJ' := fin (fun _ => by rw [e32]; simp [Qu, hq])
          rw [hq] at hcx
          gi_wp2
          go_end0
          first
            | exact ⟨⟨_, rfl⟩, .inl ⟨_, rfl, hJ'⟩⟩
            | exact ⟨⟨_, rfl⟩, .inl hJ'⟩
        | true =>
          rw [hq] at hcx
          obtain ⟨fn, tmps, assign, body, hy, hR⟩ := hY pre (x + 1 : Int) wr hJs (by omega)
          have hp : (pre ++ [(x + 1 : Int)]) ++ Qu q len (31 - k) (x + 1 + 1) = Qu q len 32 (y + 1) := by rw [← he, e32]; simp [Qu, hq, hlt]
          gi_wp2
          refine hR.mono ?_
          rintro e W3 (⟨rfl, hJ3, hk3⟩ | ⟨rfl, hJx3⟩)
          · gi_wp2
            go_roundw
            case rel => exact ⟨x + 1, k + 1, pre ++ [(x + 1 : Int)], by simp, by omega, by omega, by omega, by simp [hl], by rw [← hp, show 32 - (k + 1) = 31 - k by omega], hJ3, hB.trans hk3⟩
            case measure => simp [intOf] <;> omega
          · gi_wp2
            refine bodyPost_ret (results_none rfl _ _ _) rfl ?_
            exact ⟨⟨_, rfl⟩, .inr ⟨pre ++ [(x + 1 : Int)], ⟨_, hp⟩, hJx3⟩⟩
    · have hJ' := fin (fun _ => by cases 32 - k <;> simp [Qu, hlt])
      gi_wp2
      go_end0
      first
        | exact ⟨⟨_, rfl⟩, .inl ⟨_, rfl, hJ'⟩⟩
        | exact ⟨⟨_, rfl⟩, .inl hJ'⟩

set_option maxHeartbeats 1000000 in
theorem chAbove0 (F : Fence) (n : Nat) (h5 : F.fn 45) (hro : F.round = none) (a : Option Addr) (len cap : Nat) (y : Int) (w : World) :
    CallsIn F n Tryz.prog 45 #[.slice a len cap, .int .i64 y] w fun e w' => e = .returned (.func (.func 63) #[] #[.pointer (some ⟨w.heap.size + 1, 0, none⟩), .pointer (some ⟨w.heap.size, 0, none⟩)]) ∧ w' = (w.alloc (.cells #[.slice a len cap] 22)).alloc (.cells #[.int .i64 y] 3) := by
  refine callsIn_of_wp Tryz.func45 rfl h5 ?_ hro
  simp only [Tryz.ntmps45, List.size_toArray, List.length_cons, List.length_nil, Nat.reduceAdd, Nat.reduceSub, Array.replicate_succ, Array.replicate_zero, List.push_toArray, List.append_toArray, List.nil_append, List.cons_append]
  gi_wp2
  go_ret
  exact ⟨rfl, rfl⟩
set_option maxHeartbeats 1000000 in
theorem chBelow0 (F : Fence) (n : Nat) (h5 : F.fn 46) (hro : F.round = none) (a : Option Addr) (len cap : Nat) (y : Int) (w : World) :
    CallsIn F n Tryz.prog 46 #[.slice a len cap, .int .i64 y] w fun e w' => e = .returned (.func (.func 64) #[] #[.pointer (some ⟨w.heap.size + 1, 0, none⟩), .pointer (some ⟨w.heap.size, 0, none⟩)]) ∧ w' = (w.alloc (.cells #[.slice a len cap] 22)).alloc (.cells #[.int .i64 y] 3) := by
  refine callsIn_of_wp Tryz.func46 rfl h5 ?_ hro
  simp only [Tryz.ntmps46, List.size_toArray, List.length_cons, List.length_nil, Nat.reduceAdd, Nat.reduceSub, Array.replicate_succ, Array.replicate_zero, List.push_toArray, List.append_toArray, List.nil_append, List.cons_append]
  gi_wp2
  go_ret
  exact ⟨rfl, rfl⟩
def ChRows (n₀ : Nat) (w : World) (a : Option Addr) (len : Nat) (q : Nat → Bool) : Prop := 0 < len → ∃ b off, a = some ⟨b, off, none⟩ ∧ b < n₀ ∧ ∀ j, j < len → w.cell? ⟨b, off + j * 4 + 1, none⟩ = some (.bool (q j))
theorem ChRows.below {n₀ : Nat} {A B : World} (h : Below n₀ A B) {a : Option Addr} {len : Nat} {q : Nat → Bool} (H : ChRows n₀ A a len q) : ChRows n₀ B a len q := fun hl => by
  obtain ⟨b, off, e, hb, hc⟩ := H hl
  exact ⟨b, off, e, hb, fun j hj => (h.cell (p := ⟨b, off + j * 4 + 1, none⟩) hb).trans (hc j hj)⟩
theorem chAbove (F : Fence) (n : Nat) (h6 : F.fn 63) (hro : F.round = none) (hn : 1 ≤ n) (By Bl n₀ y len cap : Nat) (a : Option Addr) (q : Nat → Bool) (hy : y ≤ len) (hlen : len < 4611686018427387904) (w : World) (hBy : By < w.heap.size) (hBl : Bl < w.heap.size) (hn₀ : n₀ ≤ w.heap.size)
    (hcy : w.cell? ⟨By, 0, none⟩ = some (.int .i64 y)) (hcl : w.cell? ⟨Bl, 0, none⟩ = some (.slice a len cap)) (hc : ChRows n₀ w a len q) :
    SeqStopsK F n Tryz.prog 63 #[.pointer (some ⟨By, 0, none⟩), .pointer (some ⟨Bl, 0, none⟩)] (fun x : Int => #[Value.int .i64 x]) (Z19 n₀ By Bl) (fun ys => ys = Z1m q 31 y) (fun pre => pre <+: Z1m q 31 y) 31 w := fun l J Jx W hW _ _ hY h0 =>
  chAbove1 F n h6 hro hn l By Bl n₀ y len cap a q hy hlen J Jx hY W ((hW.cell (p := ⟨By, 0, none⟩) hBy).trans hcy) ((hW.cell (p := ⟨Bl, 0, none⟩) hBl).trans hcl) (hc.below (hW.mono hn₀)) h0
theorem chBelow (F : Fence) (n : Nat) (h6 : F.fn 64) (hro : F.round = none) (hn : 1 ≤ n) (By Bl n₀ y len cap : Nat) (a : Option Addr) (q : Nat → Bool) (hy : y ≤ len) (hlen : len < 4611686018427387904) (w : World) (hBy : By < w.heap.size) (hBl : Bl < w.heap.size) (hn₀ : n₀ ≤ w.heap.size)
    (hcy : w.cell? ⟨By, 0, none⟩ = some (.int .i64 y)) (hcl : w.cell? ⟨Bl, 0, none⟩ = some (.slice a len cap)) (hc : ChRows n₀ w a len q) :
    SeqStopsK F n Tryz.prog 64 #[.pointer (some ⟨By, 0, none⟩), .pointer (some ⟨Bl, 0, none⟩)] (fun x : Int => #[Value.int .i64 x]) (Z19 n₀ By Bl) (fun ys => ys = Qu q len 32 (y + 1)) (fun pre => pre <+: Qu q len 32 (y + 1)) 32 w := fun l J Jx W hW _ _ hY h0 =>
  chBelow1 F n h6 hro hn l By Bl n₀ y len cap a q hy hlen J Jx hY W ((hW.cell (p := ⟨By, 0, none⟩) hBy).trans hcy) ((hW.cell (p := ⟨Bl, 0, none⟩) hBl).trans hcl) (hc.below (hW.mono hn₀)) h0
end Go.Proofs
