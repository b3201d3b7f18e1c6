/- The chain of a row: two ranges over functions. -/
import Derived.Test.YtmbgnnedjgmhmaaGreatDoorKWalkChA
import Derived.Deep.RegionHeld
import Derived.RegionIn
import Derived.BigRegionIn
set_option linter.all false
namespace Go.Proofs
open Go.RowKit Go.Shelf
attribute [local go_sem] Oper.semAt_some
theorem chBox {W : World} {B : Nat} {v : Value} {t : TypeId} (h : W.heap[B]? = some (.cells #[v] t (0, 0))) : W.cell? ⟨B, 0, none⟩ = some v ∧ W.frozen? ⟨B, 0, none⟩ = false := by
  constructor <;> simp [World.cell?, World.frozen?, h]
theorem chNew (W : World) (v : Value) (t : TypeId) : (W.alloc (.cells #[v] t)).cell? ⟨W.heap.size, 0, none⟩ = some v ∧ (W.alloc (.cells #[v] t)).frozen? ⟨W.heap.size, 0, none⟩ = false :=
  chBox (World.alloc_heap_new W _)
theorem chOld {W : World} {a : Addr} {v : Value} (o : Obj) (h : W.cell? a = some v ∧ W.frozen? a = false) : (W.alloc o).cell? a = some v ∧ (W.alloc o).frozen? a = false :=
  ⟨cell_kept h.1 (World.grownBy_alloc W o none) (fun r e => by cases e), (frozen_kept h.1 (World.grownBy_alloc W o none) (fun r e => by cases e)).trans h.2⟩
theorem chTwo {W : World} {B : Nat} (x : Value) (p : Addr) (v : Value) (hp : p.block ≠ B) (h : W.cell? ⟨B, 0, none⟩ = some v ∧ W.frozen? ⟨B, 0, none⟩ = false) : (W.setCell p x).cell? ⟨B, 0, none⟩ = some v ∧ (W.setCell p x).frozen? ⟨B, 0, none⟩ = false :=
  ⟨(World.cell?_setCell_far W p ⟨B, 0, none⟩ x hp).trans h.1, by rw [World.frozen?_setCell]; exact h.2⟩
theorem chKeepB {n₀ By Bl : Nat} {w : World} (h : n₀ ≤ w.heap.size) (hy : By < w.heap.size) (hl : Bl < w.heap.size) (W : World) (l : Nat) (o o' : Obj) (hS : w.heap.size ≤ l) (ho : W.heap[l]? = some o) (h1 : o.isCells = false) (h2 : o.isWalk = false) : Z19 n₀ By Bl W (W.putObj l o') := by
  have hb := belowK_b (w := w) (Nat.le_refl _) W l o o' hS ho h1 h2
  exact ⟨hb.mono h, hb.block _ hy, hb.block _ hl⟩
set_option maxRecDepth 100000 in
set_option maxHeartbeats 4000000 in
theorem chainW (F : Fence) (n : Nat) (h30 : F.fn 23) (h47 : F.fn 45) (h48 : F.fn 46) (h73 : F.fn 63) (h74 : F.fn 64) (hro : F.round = none) (hn : 3 ≤ n) (y len cap : Nat) (a : Option Addr) (q : Nat → Bool) (hy : y ≤ len) (hlen : len < 4611686018427387904) (w : World) (hc : ChRows w.heap.size w a len q) :
    CallsIn F n Tryz.prog 23 #[.slice a len cap, .int .i64 y] w fun e W' => e = .returned (.tuple #[.int .i64 ((Z1m q 31 y).foldl (fun _ i => i) (y : Int)), .int .i64 ((Qu q len 32 (y + 1)).foldl (fun _ i => wrap64 (i + 1)) (y + 1 : Int))]) ∧ Below w.heap.size w W' := by
  have h1 : 1 ≤ n := by omega
  refine callsIn_of_wp_marks Tryz.func23 rfl h30 ?_ hro
  simp only [Tryz.ntmps23, List.size_toArray, List.length_cons, List.length_nil, Nat.reduceAdd, Nat.reduceSub, Array.replicate_succ, Array.replicate_zero, List.push_toArray, List.append_toArray, List.nil_append, List.cons_append]
  gi_wp2_with (gi_at_call 45; refine (chAbove0 F (n - 1) h47 hro _ _ _ _ _).mono ?_; rintro e w' ⟨rfl, rfl⟩)
  obtain ⟨W1, hW1⟩ : ∃ W1, (w.alloc (.cells #[.int .i64 y] 3)).alloc (.cells #[.int .i64 ((y : Int) + 1)] 3) = W1 := ⟨_, rfl⟩
  have s1 : W1.heap.size = w.heap.size + 2 := by rw [← hW1]; simp
  have c6 : W1.cell? ⟨w.heap.size, 0, none⟩ = some (.int .i64 y) ∧ W1.frozen? ⟨w.heap.size, 0, none⟩ = false := by rw [← hW1]; exact chOld _ (chNew w _ 3)
  have c7 : W1.cell? ⟨w.heap.size + 1, 0, none⟩ = some (.int .i64 ((y : Int) + 1)) ∧ W1.frozen? ⟨w.heap.size + 1, 0, none⟩ = false := by
    rw [← hW1]; have := chNew (w.alloc (.cells #[.int .i64 y] 3)) (.int .i64 ((y : Int) + 1)) 3; rwa [World.size_alloc] at this
  have b1 : Below w.heap.size w W1 := by rw [← hW1]; exact ((Below.refl _ w).alloc (Nat.le_refl _) _).alloc (by simp) _
  obtain ⟨W2, hW2⟩ : ∃ W2, (W1.alloc (.cells #[.slice a len cap] 22)).alloc (.cells #[.int .i64 y] 3) = W2 := ⟨_, rfl⟩
  have s2 : W2.heap.size = w.heap.size + 4 := by rw [← hW2]; simp [s1]
  have d6 : W2.cell? ⟨w.heap.size, 0, none⟩ = some (.int .i64 y) ∧ W2.frozen? ⟨w.heap.size, 0, none⟩ = false := by rw [← hW2]; exact chOld _ (chOld _ c6)
  have d7 : W2.cell? ⟨w.heap.size + 1, 0, none⟩ = some (.int .i64 ((y : Int) + 1)) ∧ W2.frozen? ⟨w.heap.size + 1, 0, none⟩ = false := by rw [← hW2]; exact chOld _ (chOld _ c7)
  have dl : W2.cell? ⟨w.heap.size + 2, 0, none⟩ = some (.slice a len cap) ∧ W2.frozen? ⟨w.heap.size + 2, 0, none⟩ = false := by
    rw [← hW2]; have := chOld (.cells #[.int .i64 y] 3) (chNew W1 (.slice a len cap) 22); rwa [s1] at this
  have dy : W2.cell? ⟨w.heap.size + 3, 0, none⟩ = some (.int .i64 y) ∧ W2.frozen? ⟨w.heap.size + 3, 0, none⟩ = false := by
    rw [← hW2]; have := chNew (W1.alloc (.cells #[.slice a len cap] 22)) (.int .i64 y) 3; rwa [World.size_alloc, s1] at this
  have b2 : Below w.heap.size w W2 := by rw [← hW2]; exact (b1.alloc (by omega) _).alloc (by simp; omega) _
  simp only [hW1, hW2]
  refine wpIn_rangeFunc_ownF hro h1 (gf := 63) (lb := #[.pointer (some ⟨w.heap.size + 3, 0, none⟩), .pointer (some ⟨w.heap.size + 2, 0, none⟩)]) rfl h73 (enters_of Tryz.func63 (by kernel_rfl) rfl)
    (chAbove F (n - 1) h73 hro (by omega) (w.heap.size + 3) (w.heap.size + 2) w.heap.size y len cap a q hy hlen W2 (by omega) (by omega) (by omega) dy.1 dl.1 (hc.below b2)) Z19.trans (chKeepB (by omega) (by omega) (by omega)) (Below.refl _ _) (fun _ => rfl)
    (fun pre W => ((W.cell? ⟨w.heap.size, 0, none⟩ = some (.int .i64 (pre.foldl (fun _ i => i) (y : Int))) ∧ W.frozen? ⟨w.heap.size, 0, none⟩ = false) ∧ W.cell? ⟨w.heap.size + 1, 0, none⟩ = some (.int .i64 ((y : Int) + 1)) ∧ W.frozen? ⟨w.heap.size + 1, 0, none⟩ = false) ∧ Below w.heap.size w W)
    (fun _ _ _ => False)
    (OwnFrom.and (Own.from (fun s A B row hs hg hr => ⟨⟨cell_kept hs.1.1 hg hr, (frozen_kept hs.1.1 hg hr).trans hs.1.2⟩, cell_kept hs.2.1 hg hr, (frozen_kept hs.2.1 hg hr).trans hs.2.2⟩) _) (ownFrom_below (Nat.le_refl _) (by omega)))
    (fun _ _ _ _ _ hs _ _ => hs)
    ⟨⟨d6, d7⟩, b2⟩
    (fun x => { tmps := #[.slice a len cap, .int .i64 y, undef, undef, .int .i64 0, .int .i64 0, .pointer (some ⟨w.heap.size, 0, none⟩), .pointer (some ⟨w.heap.size + 1, 0, none⟩), .int .i64 x, undef, .int .i64 y, .int .i64 y, .int .i64 ((y : Int) + 1), .slice a len cap, .int .i64 y,
      .func (.func 63) #[] #[.pointer (some ⟨w.heap.size + 1 + 1 + 1, 0, none⟩), .pointer (some ⟨w.heap.size + 1 + 1, 0, none⟩)], .int .i64 x, undef, undef, undef, undef, undef, undef, undef, undef, undef], defers := [] }) ?assign ?body ?done ?stop
  case assign =>
    intro l x W K hK
    gi_wp2
    exact hK
  case stop =>
    rintro D c pre W _ _ h _
    exact h.elim
  case body =>
    rintro l pre x W ⟨⟨h6, h7⟩, hB⟩ _
    have h61 := h6.1
    have h62 := h6.2
    gi_wp2
    refine ⟨KeepsOthers.setCell _ _ _, ⟨(Below.refl _ W).setCell (p := ⟨w.heap.size, 0, none⟩) (Nat.le_refl _) _, ?_, ?_⟩, ⟨⟨?_, ?_⟩, chTwo _ _ _ (by simp) h7⟩, hB.setCell (p := ⟨w.heap.size, 0, none⟩) (Nat.le_refl _) _⟩
    · exact Below.heap_setCell _ _ _ _ (by simp)
    · exact Below.heap_setCell _ _ _ _ (by simp)
    · rw [List.foldl_append]; exact World.cell?_setCell_same' _ _ _ (by rw [h61]; rfl)
    · rw [World.frozen?_setCell]; exact h62
  case done =>
    rintro D ys W hD rfl ⟨⟨h6, h7⟩, hB⟩ hK
    gi_wp2_with (gi_at_call 46; refine (chBelow0 F (n - 1) h48 hro _ _ _ _ _).mono ?_; rintro e w' ⟨rfl, rfl⟩)
    have hDlt : D < W.heap.size := (Array.getElem?_eq_some_iff.1 hK).1
    obtain ⟨V, hV⟩ : ∃ V, (W.alloc (.cells #[.slice a len cap] 22)).alloc (.cells #[.int .i64 y] 3) = V := ⟨_, rfl⟩
    have sV : V.heap.size = W.heap.size + 2 := by rw [← hV]; simp
    have e6 : V.cell? ⟨w.heap.size, 0, none⟩ = some (.int .i64 ((Z1m q 31 y).foldl (fun _ i => i) (y : Int))) ∧ V.frozen? ⟨w.heap.size, 0, none⟩ = false := by rw [← hV]; exact chOld _ (chOld _ h6)
    have e7 : V.cell? ⟨w.heap.size + 1, 0, none⟩ = some (.int .i64 ((y : Int) + 1)) ∧ V.frozen? ⟨w.heap.size + 1, 0, none⟩ = false := by rw [← hV]; exact chOld _ (chOld _ h7)
    have el : V.cell? ⟨W.heap.size, 0, none⟩ = some (.slice a len cap) := by rw [← hV]; exact (chOld _ (chNew W _ 22)).1
    have ey : V.cell? ⟨W.heap.size + 1, 0, none⟩ = some (.int .i64 y) := by rw [← hV]; have := chNew (W.alloc (.cells #[.slice a len cap] 22)) (.int .i64 y) 3; rw [World.size_alloc] at this; exact this.1
    have hBV : Below W.heap.size W V := by rw [← hV]; exact ((Below.refl _ W).alloc (Nat.le_refl _) _).alloc (by simp) _
    have hDV : V.heap[D]? = some (.deferred (some [])) := (hBV.block D hDlt).trans hK
    have b3 : Below w.heap.size w V := hB.trans (hBV.mono hB.size)
    have hs2 : w.heap.size + 4 ≤ W.heap.size := by omega
    simp only [hV]
    refine wpIn_rangeFunc_ownF hro h1 (gf := 64) (lb := #[.pointer (some ⟨W.heap.size + 1, 0, none⟩), .pointer (some ⟨W.heap.size, 0, none⟩)]) rfl h74 (enters_of Tryz.func64 (by kernel_rfl) rfl)
      (chBelow F (n - 1) h74 hro (by omega) (W.heap.size + 1) W.heap.size w.heap.size y len cap a q hy hlen V (by omega) (by omega) (by omega) ey el (hc.below b3)) Z19.trans (chKeepB (by omega) (by omega) (by omega)) (Below.refl _ _) (fun _ => rfl)
      (fun pre X => ((X.cell? ⟨w.heap.size, 0, none⟩ = some (.int .i64 ((Z1m q 31 y).foldl (fun _ i => i) (y : Int))) ∧ X.frozen? ⟨w.heap.size, 0, none⟩ = false) ∧ X.cell? ⟨w.heap.size + 1, 0, none⟩ = some (.int .i64 (pre.foldl (fun _ i => wrap64 (i + 1)) ((y : Int) + 1))) ∧ X.frozen? ⟨w.heap.size + 1, 0, none⟩ = false) ∧ Below w.heap.size w X ∧ X.heap[D]? = some (.deferred (some [])))
      (fun _ _ _ => False)
      (OwnFrom.and (Own.from (fun s A B row hs hg hr => ⟨⟨cell_kept hs.1.1 hg hr, (frozen_kept hs.1.1 hg hr).trans hs.1.2⟩, cell_kept hs.2.1 hg hr, (frozen_kept hs.2.1 hg hr).trans hs.2.2⟩) _)
        (OwnFrom.and (ownFrom_below (Nat.le_refl _) (by omega)) (fun s A B row hs hg hr => (hg.block D (Array.getElem?_eq_some_iff.1 hs).1 (fun e => by have := (hr D e.symm).1; omega)).trans hs)))
      (fun _ _ _ _ _ hs _ _ => hs)
      ⟨⟨e6, e7⟩, b3, hDV⟩
      (fun x => { tmps := #[.slice a len cap, .int .i64 y, undef, undef, .int .i64 0, .int .i64 0, .pointer (some ⟨w.heap.size, 0, none⟩), .pointer (some ⟨w.heap.size + 1, 0, none⟩), undef, .int .i64 x, .int .i64 y, .int .i64 y, .int .i64 ((y : Int) + 1), .slice a len cap, .int .i64 y,
        .func (.func 63) #[] #[.pointer (some ⟨w.heap.size + 1 + 1 + 1, 0, none⟩), .pointer (some ⟨w.heap.size + 1 + 1, 0, none⟩)], undef, undef, .slice a len cap, .int .i64 y, .func (.func 64) #[] #[.pointer (some ⟨W.heap.size + 1, 0, none⟩), .pointer (some ⟨W.heap.size, 0, none⟩)], .int .i64 x, undef, undef, undef, undef], defers := [] }) ?assign2 ?body2 ?done2 ?stop2
    case assign2 =>
      intro l x X K hK
      gi_wp2
      exact hK
    case stop2 =>
      rintro D c pre W _ _ h _
      exact h.elim
    case body2 =>
      rintro l pre x X ⟨⟨h6, h7⟩, hB, hX⟩ _
      have h71 := h7.1
      have h72 := h7.2
      gi_wp2
      refine ⟨KeepsOthers.setCell _ _ _, ⟨(Below.refl _ X).setCell (p := ⟨w.heap.size + 1, 0, none⟩) (by simp) _, ?_, ?_⟩, ⟨chTwo _ _ _ (by simp) h6, ?_, ?_⟩, hB.setCell (p := ⟨w.heap.size + 1, 0, none⟩) (by simp) _, (KeepsOthers.setCell _ _ _).same D _ hX rfl⟩
      · exact Below.heap_setCell _ _ _ _ (by simp; omega)
      · exact Below.heap_setCell _ _ _ _ (by simp; omega)
      · rw [List.foldl_append]; exact World.cell?_setCell_same' _ _ _ (by rw [h71]; rfl)
      · rw [World.frozen?_setCell]; exact h72
    case done2 =>
      rintro D2 ys X hD2 rfl ⟨⟨h6, h7⟩, hB2, hX⟩ hK2
      have h61 := h6.1
      have h71 := h7.1
      gi_wp2
      gi_region
      all_goals gi_wp2
      all_goals
        have hwD : w.heap.size ≤ D := by omega
        have hB3 : Below w.heap.size w X.drew := hB2.drew
        have hsV : w.heap.size ≤ D2 := by omega
        have hK3 : X.drew.heap[D2]? = some (.deferred (some [])) := hK2
        have hb1 := belowK_b (w := w) (Nat.le_refl _) X.drew D2 _ (.deferred none) hsV hK3 rfl rfl
        have hb2 := belowK_b (w := V) (Nat.le_refl _) X.drew D2 _ (.deferred none) (by omega) hK3 rfl rfl
        have hX' : (X.drew.putObj D2 (.deferred none)).heap[D]? = some (.deferred (some [])) := (hb2.block D (by omega)).trans hX
        have hb3 := belowK_b (w := w) (Nat.le_refl _) _ D _ (.deferred none) hwD hX' rfl rfl
        refine ⟨by simp, .inl ⟨_, _, rfl, run_takeDeferred hK3, by simp, .inl ⟨_, _, rfl, run_takeDeferred hX', ?_⟩⟩⟩
        refine ⟨_, ?_, rfl, (hB3.trans hb1).trans hb3⟩
        simp [results, Tryz.f23, go_sem]
end Go.Proofs
