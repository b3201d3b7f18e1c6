/- KWalkFl, KSpA, KWalkSp, KWalkRc, KWalkD in one. No conditions. -/
import Derived.Test.YtmbgnnedjgmhmaaGreatDoorKFillB
import Derived.Test.YtmbgnnedjgmhmaaGreatDoorKWalkC
import Derived.Deep.RegionWith
import Derived.Tactics
import Derived.Tactics2
import Derived.RegionTactic
import Derived.ChangeAlike
import Derived.BigRegion
import Derived.Test.YtmbgnnedjgmhmaaGreatDoorKWalk
set_option linter.all false
section

namespace Go.Vx
open Go.Proofs
set_option maxRecDepth 100000
set_option linter.all false
theorem Z7w {α β : Type} {x : Option α} {f : α → Option β} {r : β} (h : Z8 x f = some r) : ∃ s, x = some s ∧ f s = some r := by
  cases x with
  | none => cases h
  | some s => exact ⟨s, rfl, h⟩
theorem most_eq (most : Int) : Yn 0 (Yo most 65536) = max 0 (min most 65536) := by
  unfold Yn Yo
  rw [Int.max_def, Int.min_def]
  split <;> split <;> (try split) <;> omega
theorem copy_fill_Span_ok (most : Int) (a b : Zg) (rows : List Z5) (l : List Zj) (r : List Int × Bool) (h : Z09 most a b rows l = some r) :
    Ze Tryz.prog 32 [.v (.int .i64 most), .fn (.func 33) 4 (fun j => match j with | 0 => .imm 2 1 (fun _ j => (Xf nvS a j)) 0 0 | 1 => .imm 2 1 (fun _ j => (Xf nvS b j)) 0 0 | 2 => .imm 1 1 (fun _ j => (.sl 4 (nvS.len rows) false (fun ix jx => (Yq nvS (nvS.get Z3 rows ix) jx)))) 0 0 | 3 => .imm 1 1 (fun _ j => (.sl 4 (nvS.len l) false (fun ix jx => (Yy nvS (nvS.get Ya l ix) jx)))) 0 0 | _ => .junk)]
      (.tup 2 (fun j => match j with | 0 => (.sl 1 (nvS.len r.1) false (fun ix jx => (.v (.int .i64 (nvS.get 0 r.1 ix))))) | 1 => (.v (.bool r.2)) | _ => .junk)) := by
  unfold Z09 at h
  obtain ⟨s, h1, h2⟩ := Z7w h
  cases h2
  refine fill_pure (.inl rfl) most (most_eq most) ?_ (copy_Span_1_ok _ a b rows l s h1)
  intro j hj
  match j, hj with
  | 0, _ => exact Wcl
  | 1, _ => exact Wcl
  | 2, _ => exact Wcl
  | 3, _ => exact Wcl
theorem copy_fill_Rect_ok (most : Int) (a b : Int) (rows : List Z5) (l : List Zj) (c d : Int) (r : List Int × Bool) (h : Z2o most a b rows l c d = some r) :
    Ze Tryz.prog 32 [.v (.int .i64 most), .fn (.func 37) 6 (fun j => match j with | 0 => .imm 1 1 (fun _ j => (.v (.int .i64 a))) 0 0 | 1 => .imm 1 1 (fun _ j => (.v (.int .i64 b))) 0 0 | 2 => .imm 1 1 (fun _ j => (.sl 4 (nvS.len rows) false (fun ix jx => (Yq nvS (nvS.get Z3 rows ix) jx)))) 0 0 | 3 => .imm 1 1 (fun _ j => (.sl 4 (nvS.len l) false (fun ix jx => (Yy nvS (nvS.get Ya l ix) jx)))) 0 0 | 4 => .imm 1 1 (fun _ j => (.v (.int .i64 c))) 0 0 | 5 => .imm 1 1 (fun _ j => (.v (.int .i64 d))) 0 0 | _ => .junk)]
      (.tup 2 (fun j => match j with | 0 => (.sl 1 (nvS.len r.1) false (fun ix jx => (.v (.int .i64 (nvS.get 0 r.1 ix))))) | 1 => (.v (.bool r.2)) | _ => .junk)) := by
  unfold Z2o at h
  obtain ⟨s, h1, h2⟩ := Z7w h
  cases h2
  refine fill_pure (.inr rfl) most (most_eq most) ?_ (copy_Rect_1_ok _ a b rows l c d s h1)
  intro j hj
  match j, hj with
  | 0, _ => exact Wcl
  | 1, _ => exact Wcl
  | 2, _ => exact Wcl
  | 3, _ => exact Wcl
  | 4, _ => exact Wcl
  | 5, _ => exact Wcl
end Go.Vx
end
section
namespace Go.Proofs
open Go.RowKit
theorem four_new {w : World} {n : Nat} (hn : w.heap.size = n) (o1 o2 o3 o4 : Obj) : ∃ W, ((((w.alloc o1).alloc o2).alloc o3).alloc o4).drew = W ∧ W.heap.size = n + 4 ∧ W.heap[n]? = some o1 ∧ W.heap[n + 1]? = some o2 ∧ W.heap[n + 2]? = some o3 ∧ W.heap[n + 3]? = some o4 ∧ (∀ k, k < n → W.heap[k]? = w.heap[k]?) ∧ W.os = w.os ∧ W.output = w.output := by
  refine ⟨_, rfl, ?_, ?_, ?_, ?_, ?_, ?_, rfl, rfl⟩
  · show ((((w.alloc o1).alloc o2).alloc o3).alloc o4).heap.size = _
    simp [hn]
  · show ((((w.alloc o1).alloc o2).alloc o3).alloc o4).heap[n]? = _
    rw [X7 _ _ (by simp [hn] <;> omega), X7 _ _ (by simp [hn] <;> omega), X7 _ _ (by simp [hn] <;> omega), ← hn, Z3l]
  · show ((((w.alloc o1).alloc o2).alloc o3).alloc o4).heap[n + 1]? = _
    rw [X7 _ _ (by simp [hn] <;> omega), X7 _ _ (by simp [hn] <;> omega)]
    have := Z3l (w.alloc o1) o2
    rw [World.size_alloc, hn] at this; exact this
  · show ((((w.alloc o1).alloc o2).alloc o3).alloc o4).heap[n + 2]? = _
    rw [X7 _ _ (by simp [hn] <;> omega)]
    have := Z3l ((w.alloc o1).alloc o2) o3
    rw [World.size_alloc, World.size_alloc, hn] at this; exact this
  · show ((((w.alloc o1).alloc o2).alloc o3).alloc o4).heap[n + 3]? = _
    have := Z3l (((w.alloc o1).alloc o2).alloc o3) o4
    rw [World.size_alloc, World.size_alloc, World.size_alloc, hn] at this; exact this
  · intro k hk
    show ((((w.alloc o1).alloc o2).alloc o3).alloc o4).heap[k]? = _
    rw [X7 _ _ (by simp [hn] <;> omega), X7 _ _ (by simp [hn] <;> omega), X7 _ _ (by simp [hn] <;> omega), X7 _ _ (by omega)]
set_option maxRecDepth 100000 in
theorem spanW (la ra : Option Addr) (ln lc rn rc : Nat) (ay ax b_y bx most : Int) (w : World) (hr : (rn : Int) - 1 ≤ 9223372036854775807) (h1 : ln = rn) (h2 : ¬ rn = 0) (G : World → Value → Value → Prop)
    (hc : ∀ (n : Nat) (Y1 X1 Y2 X2 : Int) (W : World), w.heap.size = n → W.heap.size = n + 4 → W.heap[n]? = some (.cells #[.slice la ln lc] 27 (0, 0)) → W.heap[n + 1]? = some (.cells #[.slice ra rn rc] 22 (0, 0)) → W.heap[n + 2]? = some (.cells #[.int .i64 Y1, .int .i64 X1] 40 (0, 0)) →
      W.heap[n + 3]? = some (.cells #[.int .i64 Y2, .int .i64 X2] 40 (0, 0)) → (∀ k, k < n → W.heap[k]? = w.heap[k]?) → W.os = w.os ∧ W.output = w.output →
      ((max 0 (min b_y ((rn : Int) - 1)) < max 0 (min ay ((rn : Int) - 1)) ∨ max 0 (min ay ((rn : Int) - 1)) = max 0 (min b_y ((rn : Int) - 1)) ∧ bx < ax) → Y1 = max 0 (min b_y ((rn : Int) - 1)) ∧ X1 = bx ∧ Y2 = max 0 (min ay ((rn : Int) - 1)) ∧ X2 = ax) →
      (¬ (max 0 (min b_y ((rn : Int) - 1)) < max 0 (min ay ((rn : Int) - 1)) ∨ max 0 (min ay ((rn : Int) - 1)) = max 0 (min b_y ((rn : Int) - 1)) ∧ bx < ax) → Y1 = max 0 (min ay ((rn : Int) - 1)) ∧ X1 = ax ∧ Y2 = max 0 (min b_y ((rn : Int) - 1)) ∧ X2 = bx) →
      Calls Tryz.prog 32 #[.int .i64 most, .func (.func 33) #[] #[.pointer (some ⟨n + 2, 0, none⟩), .pointer (some ⟨n + 3, 0, none⟩), .pointer (some ⟨n + 1, 0, none⟩), .pointer (some ⟨n, 0, none⟩)]] W fun e W' => ∃ u v, e = .returned (.tuple #[u, v]) ∧ G W' u v) :
    Calls Tryz.prog 11 #[.slice la ln lc, .slice ra rn rc, .agg #[.int .i64 ay, .int .i64 ax], .agg #[.int .i64 b_y, .int .i64 bx], .int .i64 most] w fun e w' => ∃ u v, e = .returned (.tuple #[u, v]) ∧ G w' u v := by
  have hmf : ∀ (fn : Fn) (first cap : Array Value) (w : World), (Instr.makeFunc fn first cap).run Tryz.prog w = .ok (.func fn first cap) w := fun _ _ _ _ => rfl
  subst h1
  obtain ⟨n, hn⟩ : ∃ n, w.heap.size = n := ⟨_, rfl⟩
  have hc := hc n
  go_enter Tryz.func11, Tryz.ntmps11
  go_wp2_with (go_at_call 32; fail)
  go_region
  all_goals go_wp2_with (go_at_call 32; fail)
  all_goals
    (try simp only [hn])
    generalize hW : World.drew _ = W
    obtain ⟨W2, q0, q1, q2, q3, q4, q5, q6, q7⟩ := four_new hn _ _ _ _
    rw [q0] at hW
    subst hW
    refine (hc _ _ _ _ _ hn q1 q2 q3 q4 q5 q6 q7 ?_ ?_).mono ?_
    · intro h; refine ⟨?_, ?_, ?_, ?_⟩ <;> omega
    · intro h; refine ⟨?_, ?_, ?_, ?_⟩ <;> omega
    rintro e w' ⟨u, v, rfl, hG⟩
    go_wp2
    go_ret2
    exact ⟨u, v, rfl, hG⟩
theorem Z5o {w : World} (o1 o2 o3 o4 : Obj) : w.heap.size ≤ ((((w.alloc o1).alloc o2).alloc o3).alloc o4).heap.size ∧ ∀ k, k < w.heap.size → ((((w.alloc o1).alloc o2).alloc o3).alloc o4).heap[k]? = w.heap[k]? := by
  refine ⟨by simp <;> omega, fun k hk => ?_⟩
  rw [X7 _ _ (by simp <;> omega), X7 _ _ (by simp <;> omega), X7 _ _ (by simp <;> omega), X7 _ _ hk]
set_option maxRecDepth 100000 in
theorem spanW0 (la ra : Option Addr) (ln lc rn rc : Nat) (ay ax b_y bx most : Int) (w : World) (h : ln ≠ rn ∨ rn = 0) :
    Calls Tryz.prog 11 #[.slice la ln lc, .slice ra rn rc, .agg #[.int .i64 ay, .int .i64 ax], .agg #[.int .i64 b_y, .int .i64 bx], .int .i64 most] w fun e w' => e = .returned (.tuple #[.slice none 0 0, .bool true]) ∧ w.heap.size ≤ w'.heap.size ∧ (∀ k, k < w.heap.size → w'.heap[k]? = w.heap[k]?) ∧ w'.os = w.os ∧ w'.output = w.output := by
  rcases h with h | h
  · have h1 : ¬ (ln : Int) = rn := by omega
    have h2 : ((ln : Int) == rn) = false := by simpa using h1
    go_enter Tryz.func11, Tryz.ntmps11
    go_wp2
    go_ret2
    exact ⟨rfl, (Z5o _ _ _ _).1, (Z5o _ _ _ _).2, rfl, rfl⟩
  · subst h
    by_cases h1 : ln = 0
    · subst h1
      go_enter Tryz.func11, Tryz.ntmps11
      go_wp2
      go_ret2
      exact ⟨rfl, (Z5o _ _ _ _).1, (Z5o _ _ _ _).2, rfl, rfl⟩
    · have h1 : ¬ (ln : Int) = 0 := by omega
      go_enter Tryz.func11, Tryz.ntmps11
      go_wp2
      go_ret2
      exact ⟨rfl, (Z5o _ _ _ _).1, (Z5o _ _ _ _).2, rfl, rfl⟩
end Go.Proofs
end
section
namespace Go.Vx
open Go.Proofs
set_option maxRecDepth 100000
set_option linter.all false
theorem pointV {h : Array Obj} {I : Nat → Prop} {c : Nat} {a : Zg} {y : Value} (hr : Rd h I (fun _ => none) [] c (.agg 2 (fun j => Xf nvS a j)) y) : y = .agg #[.int .i64 a.fY, .int .i64 a.fX] := by
  obtain ⟨ys, rfl, hs, hx⟩ := hr
  obtain ⟨z0, a0, _, c0⟩ := hx 0 (by omega)
  obtain ⟨z1, a1, _, c1⟩ := hx 1 (by omega)
  have c0 : z0 = .int .i64 a.fY := c0
  have c1 : z1 = .int .i64 a.fX := c1
  subst c0 c1
  congr 1
  refine Array.ext_getElem? fun i => ?_
  match i with
  | 0 => simpa using a0
  | 1 => simpa using a1
  | i + 2 => rw [Array.getElem?_eq_none (by omega)]; simp
theorem pointI {h : Array Obj} {I : Nat → Prop} {c b : Nat} {a : Zg} {e : TypeId} (hb : h[b]? = some (.cells #[.int .i64 a.fY, .int .i64 a.fX] e (0, 0))) (hI : I b) : Rd h I (fun _ => none) [] c (.imm 2 1 (fun _ j => Xf nvS a j) 0 0) (.pointer (some ⟨b, 0, none⟩)) := by
  refine ⟨by omega, by omega, b, 0, _, e, _, rfl, hI, hb, fun i hi j hj => ?_⟩
  have : i = 0 := by omega
  subst this
  match j, hj with
  | 0, _ => exact ⟨_, rfl, rfl, rfl⟩
  | 1, _ => exact ⟨_, rfl, rfl, rfl⟩
theorem oneI {h : Array Obj} {I : Nat → Prop} {c b : Nat} {d : D} {v : Value} {e : TypeId} (hb : h[b]? = some (.cells #[v] e (0, 0))) (hI : I b) (hv : v.oneCell' = true) (hr : Rd h I (fun _ => none) [] c d v) : Rd h I (fun _ => none) [] c (.imm 1 1 (fun _ _ => d) 0 0) (.pointer (some ⟨b, 0, none⟩)) := by
  refine ⟨by omega, by omega, b, 0, _, e, _, rfl, hI, hb, fun i hi j hj => ?_⟩
  have : i = 0 := by omega
  subst this
  have : j = 0 := by omega
  subst this
  exact ⟨_, rfl, hv, hr⟩
/-- What a call of fill leaves, told of the world ahead of the boxes. -/
def FillG (w : World) (I : Nat → Prop) (res : D) (W' : World) (u v : Value) : Prop :=
  ∃ I' : Nat → Prop, (∀ b, I b → I' b) ∧ (∀ b, I' b → b < W'.heap.size ∧ (I b ∨ w.heap.size ≤ b)) ∧ (∀ b, b < w.heap.size → W'.heap[b]? = w.heap[b]?) ∧ w.heap.size ≤ W'.heap.size ∧ (W'.os = w.os ∧ W'.output = w.output) ∧ Rd W'.heap I' (fun _ => none) [] 0 res (.tuple #[u, v])
theorem tup2 {h : Array Obj} {I : Nat → Prop} {c : Nat → D} {y : Value} (hr : Rd h I (fun _ => none) [] 0 (.tup 2 c) y) : ∃ u v, y = .tuple #[u, v] := by
  obtain ⟨ys, rfl, hs, -⟩ := hr
  match ys, hs with
  | ⟨[u, v]⟩, _ => exact ⟨u, v, rfl⟩
theorem Z6a (l' : (List Zj)) (rows : (List Z5)) (a : Zg) (b : Zg) (most : Int) (r : ((List Int) × Bool)) (h : Qn l' rows a b most = some r) :
    Ze Tryz.prog 11 [(.sl 4 (nvS.len l') false (fun ix jx => (Yy nvS (nvS.get Ya l' ix) jx))), (.sl 4 (nvS.len rows) false (fun ix jx => (Yq nvS (nvS.get Z3 rows ix) jx))), (.agg 2 (fun j => (Xf nvS a j))), (.agg 2 (fun j => (Xf nvS b j))), (.v (.int .i64 most))]
      (.tup 2 (fun j => match j with | 0 => (.sl 1 (nvS.len r.1) false (fun ix jx => (.v (.int .i64 (nvS.get 0 r.1 ix))))) | 1 => (.v (.bool r.2)) | _ => .junk)) := by
  refine ⟨⟨_, Tryz.func11, by kernel_rfl, by kernel_rfl⟩, fun w I c vs hcc hI hglob hlen hargs => ?_⟩
  match vs, hlen with
  | [v0, v1, v2, v3, v4], _ =>
  obtain ⟨y0, e0, a0⟩ := hargs 0 _ rfl
  obtain ⟨y1, e1, a1⟩ := hargs 1 _ rfl
  obtain ⟨y2, e2, a2⟩ := hargs 2 _ rfl
  obtain ⟨y3, e3, a3⟩ := hargs 3 _ rfl
  obtain ⟨y4, e4, a4⟩ := hargs 4 _ rfl
  cases e0; cases e1; cases e2; cases e3; cases e4
  obtain rfl := pointV a2
  obtain rfl := pointV a3
  obtain rfl : v4 = .int .i64 most := a4
  have b0 := a0
  have b1 := a1
  obtain ⟨la, ln, lc, rfl, hln, -, -, -⟩ := b0
  obtain ⟨ra, rn, rc, rfl, hrn, -, -, -⟩ := b1
  have hln : (ln : Int) = Z0 l' := hln
  have hrn : (rn : Int) = Z0 rows := hrn
  unfold Qn at h
  by_cases hz : ln ≠ rn ∨ rn = 0
  · have hc : (if (!((Z0 l') == (Z0 rows))) = true then true else ((Z0 rows) == 0)) = true := by
      rcases hz with hz | hz
      · have : ¬ Z0 l' = Z0 rows := by omega
        simp [this]
      · have : Z0 rows = 0 := by omega
        simp [this]
    rw [hc] at h
    have h : some (([] : List Int), true) = some r := h
    cases h
    refine (spanW0 la ra ln lc rn rc a.fY a.fX b.fY b.fX most w hz).mono ?_
    rintro e w' ⟨rfl, s1, s2, s3, s4⟩
    refine ⟨_, I, rfl, fun _ h => h, fun b hb => ⟨by have := hI b hb; omega, .inl hb⟩, s2, s1, ⟨s3, s4⟩, ?_⟩
    refine ⟨_, rfl, rfl, fun j hj => ?_⟩
    match j, hj with
    | 0, _ => exact ⟨_, rfl, none, 0, 0, rfl, rfl, Nat.le_refl _, fun h => absurd h (by decide), fun h => absurd h (by omega)⟩
    | 1, _ => exact ⟨_, rfl, rfl⟩
  · have z1 : ln = rn := by omega
    have z2 : ¬ rn = 0 := by omega
    have hc : (if (!((Z0 l') == (Z0 rows))) = true then true else ((Z0 rows) == 0)) = false := by
      have e1 : Z0 l' = Z0 rows := by omega
      have e2 : ¬ Z0 rows = 0 := by omega
      simp [e1, e2]
    rw [hc] at h
    have h := X9 (show chk _ _ = some r from h)
    obtain ⟨hin, h⟩ := h
    have hin2 : (rn : Int) - 1 ≤ 9223372036854775807 := by
      have := hin.2
      have e2 : IntKind.max .i64 = 9223372036854775807 := by decide
      omega
    refine (spanW la ra ln lc rn rc a.fY a.fX b.fY b.fX most w hin2 z1 z2 (FillG w I (.tup 2 (fun j => match j with | 0 => (.sl 1 (nvS.len r.1) false (fun ix jx => (.v (.int .i64 (nvS.get 0 r.1 ix))))) | 1 => (.v (.bool r.2)) | _ => .junk))) (fun n Y1 X1 Y2 X2 W hn q1 q2 q3 q4 q5 q6 q7 k1 k2 => ?_)).mono ?_
    · have hfill : Z09 most ⟨Y1, X1⟩ ⟨Y2, X2⟩ rows l' = some r := by
        have m1 : Yn 0 (Yo a.fY (Z0 rows - 1)) = max 0 (min a.fY ((rn : Int) - 1)) := by
          rw [← hrn]; unfold Yn Yo; rw [Int.max_def, Int.min_def]; split <;> split <;> (try split) <;> omega
        have m2 : Yn 0 (Yo b.fY (Z0 rows - 1)) = max 0 (min b.fY ((rn : Int) - 1)) := by
          rw [← hrn]; unfold Yn Yo; rw [Int.max_def, Int.min_def]; split <;> split <;> (try split) <;> omega
        simp only [m1, m2] at h
        by_cases hs : max 0 (min b.fY ((rn : Int) - 1)) < max 0 (min a.fY ((rn : Int) - 1)) ∨ max 0 (min a.fY ((rn : Int) - 1)) = max 0 (min b.fY ((rn : Int) - 1)) ∧ b.fX < a.fX
        · obtain ⟨rfl, rfl, rfl, rfl⟩ := k1 hs
          have e : (if (decide (max 0 (min b.fY ((rn : Int) - 1)) < max 0 (min a.fY ((rn : Int) - 1)))) = true then true else (if ((max 0 (min a.fY ((rn : Int) - 1))) == (max 0 (min b.fY ((rn : Int) - 1)))) = true then (decide (b.fX < a.fX)) else false)) = true := by
            rcases hs with hs | ⟨h1, h2⟩
            · rw [decide_eq_true hs]; rfl
            · simp [h1, h2]
          rw [e] at h
          obtain ⟨s, h1, h2⟩ := Z7w (show Z8 _ _ = some r from h)
          cases h2
          exact h1
        · obtain ⟨rfl, rfl, rfl, rfl⟩ := k2 hs
          have e : (if (decide (max 0 (min b.fY ((rn : Int) - 1)) < max 0 (min a.fY ((rn : Int) - 1)))) = true then true else (if ((max 0 (min a.fY ((rn : Int) - 1))) == (max 0 (min b.fY ((rn : Int) - 1)))) = true then (decide (b.fX < a.fX)) else false)) = false := by
            rw [decide_eq_false (fun h => hs (.inl h))]
            by_cases h1 : max 0 (min a.fY ((rn : Int) - 1)) = max 0 (min b.fY ((rn : Int) - 1))
            · have h2 : ¬ b.fX < a.fX := fun h2 => hs (.inr ⟨h1, h2⟩)
              simp [h1, h2]
            · simp [h1]
          rw [e] at h
          obtain ⟨s, h1, h2⟩ := Z7w (show Z8 _ _ = some r from h)
          cases h2
          exact h1
      subst hn
      have hok := (copy_fill_Span_ok most ⟨Y1, X1⟩ ⟨Y2, X2⟩ rows l' r hfill).2 W (fun b => I b ∨ (w.heap.size ≤ b ∧ b < w.heap.size + 4)) c [.int .i64 most, .func (.func 33) #[] #[.pointer (some ⟨w.heap.size + 2, 0, none⟩), .pointer (some ⟨w.heap.size + 3, 0, none⟩), .pointer (some ⟨w.heap.size + 1, 0, none⟩), .pointer (some ⟨w.heap.size, 0, none⟩)]]
        hcc (fun b hb => by rcases hb with hb | hb; · have := hI b hb; omega
                            · omega) (hglob.mono (fun _ h => .inl h) (fun b hb => q6 b (hI b hb))) rfl ?_
      · refine hok.mono ?_
        rintro e W' ⟨v, I', rfl, i1, i2, i3, i4, i5, i6⟩
        obtain ⟨u, v2, rfl⟩ := tup2 (show Rd _ _ _ _ _ (.tup 2 _) v from i6)
        refine ⟨u, v2, rfl, I', fun b hb => i1 b (.inl hb), fun b hb => ?_, fun b hb => (i3 b (by omega)).trans (q6 b hb), by omega, ⟨i5.1.trans q7.1, i5.2.trans q7.2⟩, i6⟩
        obtain ⟨p1, p2⟩ := i2 b hb
        refine ⟨p1, ?_⟩
        rcases p2 with (p2 | p2) | p2
        · exact .inl p2
        · exact .inr p2.1
        · exact .inr (by omega)
      · have G : Q5 w.heap I (fun _ => none) [] c W.heap (fun b => I b ∨ (w.heap.size ≤ b ∧ b < w.heap.size + 4)) (fun _ => none) [] c := ⟨fun _ h => .inl h, fun b hb => q6 b (hI b hb), fun _ _ h => h, fun _ _ _ o' ho' _ _ => by simp at ho'⟩
        intro t d ht
        match t, ht with
        | 0, ht => cases ht; exact ⟨_, rfl, rfl⟩
        | 1, ht =>
          cases ht
          refine ⟨_, rfl, _, rfl, rfl, fun j hj => ?_⟩
          match j, hj with
          | 0, _ => exact ⟨_, rfl, pointI q4 (.inr (by omega))⟩
          | 1, _ => exact ⟨_, rfl, pointI q5 (.inr (by omega))⟩
          | 2, _ => exact ⟨_, rfl, oneI q3 (.inr (by omega)) rfl (Rd.mono G _ _ a1)⟩
          | 3, _ => exact ⟨_, rfl, oneI q2 (.inr (by omega)) rfl (Rd.mono G _ _ a0)⟩
    · rintro e w' ⟨u, v, rfl, I', i1, i2, i3, i4, i5, i6⟩
      exact ⟨_, I', rfl, i1, i2, i3, i4, i5, i6⟩
end Go.Vx
end
section
namespace Go.Vx
open Go.Proofs
set_option maxRecDepth 100000
set_option maxHeartbeats 1000000
set_option linter.unusedVariables false
set_option linter.unusedSimpArgs false
attribute [local irreducible] chk Z7 Z8 Zu nilO

theorem copy_Rect_ok (l' : (List Zj)) (rows : (List Z5)) (a : Zg) (b : Zg) (most : Int) (r : ((List Int) × Bool)) (h : Q8 l' rows a b most = some r) : Ze Tryz.prog 13 [(.sl 4 (nvS.len l') false (fun ix jx => (Yy nvS (nvS.get Ya l' ix) jx))), (.sl 4 (nvS.len rows) false (fun ix jx => (Yq nvS (nvS.get Z3 rows ix) jx))), (.agg 2 (fun j => (Xf nvS a j))), (.agg 2 (fun j => (Xf nvS b j))), (.v (.int .i64 most))] (.tup 2 (fun j => match j with | 0 => (.sl 1 (nvS.len r.1) false (fun ix jx => (.v (.int .i64 (nvS.get 0 r.1 ix))))) | 1 => (.v (.bool r.2)) | _ => .junk)) := by
  obtain ⟨a_Y, a_X⟩ := a
  obtain ⟨b_Y, b_X⟩ := b
  unfold Q8 at h
  try dsimp only at h
  refine Wfn Tryz.func13 (Zl Tryz.f13) fun ctr hc => ?_
  refine Wo0 ?_
  refine Wo 55 0 (Z7b (Yn a_X b_X)) fun v h2 => ?_
  refine Wo 58 6 (copy_fill_Rect_ok most (Yn 0 (Yo (Yo a_Y b_Y) ((Z0 rows) - 1))) (Yn 0 (Yo (Yn a_Y b_Y) ((Z0 rows) - 1))) rows l' (Yo a_X b_X) v) fun v1 h3 => ?_
  obtain ⟨v1_0, v1_1⟩ := v1
  refine Wk [999] 0 [] Wz
end Go.Vx
end
section
namespace Go.Vx
open Go.Proofs
set_option maxRecDepth 100000
set_option maxHeartbeats 1000000
set_option linter.unusedVariables false
set_option linter.unusedSimpArgs false
attribute [local irreducible] chk Z7 Z8 Zu nilO

theorem Z6q  (r : Bool) (h : Qs = some r) : Ze Tryz.prog 7 [] ((.v (.bool r))) := by
  unfold Qs at h
  refine Wfn Tryz.func7 (Zl Tryz.f7) fun ctr hc => ?_
  refine Wo0 ?_
  refine Wo 10 0 (ucd_Load_ok) fun v h1 => ?_
  obtain ⟨⟨v_Class_L⟩, ⟨v_Wide_L⟩, ⟨v_Join_L⟩, v_Mirror, v_Brackets, v_Forms⟩ := v
  refine Wo 13 1 (view_All_ok (Za.mk (Z2.mk v_Class_L) (Z2.mk v_Wide_L) (Z2.mk v_Join_L) v_Mirror v_Brackets v_Forms) ([(Z5.mk ([(Zi.mk 97 Zz 1 Qc), (Zi.mk 1488 Zz 1 Qc), (Zi.mk 1489 Zz 1 Qc)] : List Zi) false 0 false)] : List Z5) false) fun v1 h2 => ?_
  refine Wo 20 0 (Z6a v1 ([(Z5.mk ([(Zi.mk 97 Zz 1 Qc), (Zi.mk 1488 Zz 1 Qc), (Zi.mk 1489 Zz 1 Qc)] : List Zi) false 0 false)] : List Z5) (Zg.mk 0 1) (Zg.mk 0 2) 9) fun v2 h3 => ?_
  obtain ⟨v2_0, v2_1⟩ := v2
  refine Wog 27 0 v2_1 (Z1a v2_0 ([1488, 1489] : List Int)) false fun v3 h4 => ?_
  refine Wk [8,12,17,26] 0 [(3, [.freeze (.slot 2)])] Wz

theorem Z2z (p' : Y5) (r : Zg) (h : Yl p' = some r) : Ze Tryz.prog 12 [(.agg 2 (fun j => (Xt nvS p' j)))] ((.agg 2 (fun j => (Xf nvS r j)))) := by
  obtain ⟨p_Y, p_X⟩ := p'
  unfold Yl at h
  try dsimp only at h
  refine Wfn Tryz.func12 (Zl Tryz.f12) fun ctr hc => ?_
  refine Wx [] 0 [] Wz

end Go.Vx
end
