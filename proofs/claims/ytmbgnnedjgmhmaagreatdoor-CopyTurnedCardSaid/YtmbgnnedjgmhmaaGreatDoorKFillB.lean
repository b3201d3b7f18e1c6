/- KFillA, KFillB in one. No conditions. -/
import Derived.Test.YtmbgnnedjgmhmaaGreatDoorKHead
import Derived.Tactics
import Derived.Tactics2
import Derived.Defers
import Derived.Recover
import Derived.Laws.Pointers
set_option linter.all false
section
namespace Go.Proofs
open Go.RowKit
theorem fill_idle (p q r : Addr) (w : World) :
    CallsD Tryz.prog 55 #[.pointer (some p), .pointer (some q), .pointer (some r)] .returning w fun e u' w' => e = .returned (.tuple #[]) ∧ u' = .returning ∧ w' = w := by
  refine callsD_of_wpS Tryz.func55 rfl fun c₀ cs hu => ?_
  apply wpS_seq
  apply wpS_region
  simp [wpOpsS, go_sem, recoverD, hu, Tryz.ntmps55, Exit.thenS]
  refine wpS_cond (t := false) (by simp [Act.eval, Array.replicate]) ?_
  simp only [Bool.false_eq_true, if_false]
  refine wpS_of_wp (wp_skip ?_)
  cases c₀
  simp_all [bodyPostS, results, Tryz.results55]
theorem Z3l (W : World) (o : Obj) : (W.alloc o).heap[W.heap.size]? = some o := by
  show (W.heap.push o)[W.heap.size]? = some o
  simp
theorem X7 (W : World) (o : Obj) {k : Nat} (h : k < W.heap.size) : (W.alloc o).heap[k]? = W.heap[k]? := by
  show (W.heap.push o)[k]? = W.heap[k]?
  rw [Array.getElem?_push, if_neg (Nat.ne_of_lt h)]
theorem cell_of {W : World} {b : Nat} {c : Array Value} {e : TypeId} {v : Value} {i : Nat} (h : W.heap[b]? = some (.cells c e (0, 0))) (hi : c[i]? = some v) : W.cell? ⟨b, i, none⟩ = some v ∧ W.frozen? ⟨b, i, none⟩ = false := by
  constructor
  · simp [World.cell?, h, hi]
  · simp [World.frozen?, h]
set_option maxRecDepth 100000 in
theorem fillW (F : Nat) (hF : F = 33 ∨ F = 37) (most : Int) (caps : Array Value) (w : World) (G : World → Value → Prop)
    (hc : ∀ W : World, W.heap.size = w.heap.size + 4 → W.heap[w.heap.size + 2]? = some (.cells #[.slice none 0 0, .int .i64 (max 0 (min most 65536))] 107 (0, 0)) → (∀ k, k < w.heap.size → W.heap[k]? = w.heap[k]?) → W.os = w.os ∧ W.output = w.output →
      Calls Tryz.prog F (#[.pointer (some ⟨w.heap.size + 2, 0, none⟩)] ++ caps) W fun e W' => e = .returned (.tuple #[]) ∧ ∃ a len cap m t, W'.heap[w.heap.size + 2]? = some (.cells #[.slice a len cap, m] t (0, 0)) ∧ (∀ k, k < w.heap.size + 4 → k ≠ w.heap.size + 2 → W'.heap[k]? = W.heap[k]?) ∧ w.heap.size + 4 ≤ W'.heap.size ∧ (W'.os = W.os ∧ W'.output = W.output) ∧ G W' (.slice a len cap)) :
    Calls Tryz.prog 32 #[.int .i64 most, .func (.func F) #[] caps] w fun e w' => ∃ v W', G W' v ∧ e = .returned (.tuple #[v, .bool true]) ∧ w' = (W'.setCell ⟨w.heap.size, 0, none⟩ v).setCell ⟨w.heap.size + 1, 0, none⟩ (.bool true) ∧
      (∀ k, k < w.heap.size → W'.heap[k]? = w.heap[k]?) ∧ w.heap.size + 4 ≤ W'.heap.size ∧ (W'.os = w.os ∧ W'.output = w.output) := by
  have hmf : ∀ (fn : Fn) (first cap : Array Value) (w : World), (Instr.makeFunc fn first cap).run Tryz.prog w = .ok (.func fn first cap) w := fun _ _ _ _ => rfl
  obtain ⟨n, hn⟩ : ∃ n, w.heap.size = n := ⟨_, rfl⟩
  rw [hn] at hc ⊢
  rcases hF with rfl | rfl
  all_goals
    go_enter_defers Tryz.func32, Tryz.ntmps32
    go_wp2_with (first | (go_at_call 33; fail) | (go_at_call 37; fail))
    (try simp only [hn])
    obtain ⟨W, hW⟩ : ∃ W, ((((w.alloc (Obj.cells #[Value.slice none 0 0] 37)).alloc (Obj.cells #[Value.bool false] 4)).alloc (Obj.cells #[Value.slice none 0 0, Value.int IntKind.i64 (max 0 (min most 65536))] 107)).alloc (Obj.cells #[Value.pointer (some { block := n + 1 + 1, off := 0 })] 77)) = W := ⟨_, rfl⟩
    simp only [hW]
    have hs : W.heap.size = n + 4 := by rw [← hW]; simp [hn]
    have z0 : W.heap[n]? = some (.cells #[.slice none 0 0] 37 (0, 0)) := by
      rw [← hW, X7 _ _ (by simp [hn] <;> omega), X7 _ _ (by simp [hn] <;> omega), X7 _ _ (by simp [hn] <;> omega), ← hn, Z3l]
    have z1 : W.heap[n + 1]? = some (.cells #[.bool false] 4 (0, 0)) := by
      rw [← hW, X7 _ _ (by simp [hn] <;> omega), X7 _ _ (by simp [hn] <;> omega)]
      have := Z3l (w.alloc (Obj.cells #[Value.slice none 0 0] 37)) (Obj.cells #[Value.bool false] 4)
      rw [World.size_alloc, hn] at this; exact this
    have z2 : W.heap[n + 2]? = some (.cells #[.slice none 0 0, .int .i64 (max 0 (min most 65536))] 107 (0, 0)) := by
      rw [← hW, X7 _ _ (by simp [hn] <;> omega)]
      have := Z3l ((w.alloc (Obj.cells #[Value.slice none 0 0] 37)).alloc (Obj.cells #[Value.bool false] 4)) (Obj.cells #[Value.slice none 0 0, Value.int IntKind.i64 (max 0 (min most 65536))] 107)
      rw [World.size_alloc, World.size_alloc, hn] at this; exact this
    have z3 : W.heap[n + 3]? = some (.cells #[.pointer (some ⟨n + 2, 0, none⟩)] 77 (0, 0)) := by
      rw [← hW]
      have := Z3l (((w.alloc (Obj.cells #[Value.slice none 0 0] 37)).alloc (Obj.cells #[Value.bool false] 4)).alloc (Obj.cells #[Value.slice none 0 0, Value.int IntKind.i64 (max 0 (min most 65536))] 107)) (Obj.cells #[Value.pointer (some { block := n + 1 + 1, off := 0 })] 77)
      rw [World.size_alloc, World.size_alloc, World.size_alloc, hn] at this; exact this
    have zk : ∀ k, k < n → W.heap[k]? = w.heap[k]? := fun k hk => by
      rw [← hW, X7 _ _ (by simp [hn] <;> omega), X7 _ _ (by simp [hn] <;> omega), X7 _ _ (by simp [hn] <;> omega), X7 _ _ (by omega)]
    have zo : W.os = w.os ∧ W.output = w.output := by rw [← hW]; exact ⟨rfl, rfl⟩
    refine (hc W hs z2 zk zo).mono ?_
    rintro e W' ⟨rfl, a, len, cap, m, t, y2, yk, ys, yo, hG⟩
    have y0 := cell_of (i := 0) ((yk n (by omega) (by omega)).trans z0) rfl
    have y1 := cell_of (i := 0) ((yk (n + 1) (by omega) (by omega)).trans z1) rfl
    have y3 := cell_of (i := 0) ((yk (n + 3) (by omega) (by omega)).trans z3) rfl
    have y4 := cell_of (i := 0) y2 rfl
    have e1 : n + 1 + 1 + 1 = n + 3 := rfl
    have e2 : n + 1 + 1 = n + 2 := rfl
    simp only [e1, e2]
    obtain ⟨y01, y02⟩ := y0
    obtain ⟨y11, y12⟩ := y1
    obtain ⟨y31, y32⟩ := y3
    obtain ⟨y41, y42⟩ := y4
    go_wp2
    refine leaves_cons (f := 55) (args := #[.pointer (some ⟨n + 3, 0, none⟩), .pointer (some ⟨n, 0, none⟩), .pointer (some ⟨n + 1, 0, none⟩)]) (by simp) (by simp [go_sem]) ?_
    refine (fill_idle ⟨n + 3, 0, none⟩ ⟨n, 0, none⟩ ⟨n + 1, 0, none⟩ _).mono ?_
    rintro e u' w'' ⟨rfl, rfl, rfl⟩
    have q0 : ((W'.setCell ⟨n, 0, none⟩ (.slice a len cap)).setCell ⟨n + 1, 0, none⟩ (.bool true)).cell? ⟨n, 0, none⟩ = some (.slice a len cap) := by
      refine (World.cell?_setCell_other _ _ _ _ (by simp)).trans ?_
      simp [go_sem, y01, y02]
    have q1 : ((W'.setCell ⟨n, 0, none⟩ (.slice a len cap)).setCell ⟨n + 1, 0, none⟩ (.bool true)).cell? ⟨n + 1, 0, none⟩ = some (.bool true) := by
      simp [go_sem, y11, y12]
    simp [Leaves, settle, results, Tryz.results32, go_sem, q0, q1]
    exact ⟨_, W', hG, rfl, rfl, fun k hk => (yk k (by omega) (by omega)).trans (zk k hk), ys, yo.1.trans zo.1, yo.2.trans zo.2⟩
end Go.Proofs
end
section
namespace Go.Vx
open Go.Proofs
set_option maxRecDepth 100000
theorem fill_pure {F : Nat} (hF : F = 33 ∨ F = 37) (most : Int) {k : Nat} {cd : Nat → D} {rl : List Int} {m m0 : Int} (hm : m0 = max 0 (min most 65536)) (hcd : ∀ j, j < k → clo (std Tryz.prog) (cd j))
    (H : X3 Tryz.prog F (.bref 0 0 0 :: cellsOf k cd) [.box 0 [.vec 1 0 1 0 0, .v (.int .i64 m0)], .arr 0 1 0 false (fun ix _ => .v (.int .i64 (nvS.get 0 ([] : List Int) ix)))]
      [.box 0 [.vec 1 1 1 0 (nvS.len rl), .v (.int .i64 m)], .arr 1 1 (nvS.len rl) false (fun ix _ => .v (.int .i64 (nvS.get 0 rl ix)))] (.tup 0 (fun _ => .junk))) :
    Ze Tryz.prog 32 [.v (.int .i64 most), .fn (.func F) k cd] (.tup 2 (fun j => match j with | 0 => .sl 1 (nvS.len rl) false (fun ix _ => .v (.int .i64 (nvS.get 0 rl ix))) | 1 => .v (.bool true) | _ => .junk)) := by
  subst hm
  refine ⟨⟨_, Tryz.func32, by kernel_rfl, by kernel_rfl⟩, fun w I c vs hcc hI hglob hlen hargs => ?_⟩
  match vs, hlen with
  | [v0, v1], _ =>
  obtain ⟨y0, e0, a0⟩ := hargs 0 _ rfl
  obtain ⟨y1, e1, a1⟩ := hargs 1 _ rfl
  cases e0; cases e1
  obtain rfl : v0 = .int .i64 most := a0
  obtain ⟨ys, rfl, hys, hcaps⟩ := a1
  have key := fillW F hF most ys w (fun W' v => ∃ I' : Nat → Prop, (∀ b, I b → I' b) ∧ (∀ b, I' b → b < W'.heap.size ∧ (I b ∨ w.heap.size + 4 ≤ b)) ∧ Rd W'.heap I' (fun _ => none) [] 0 (.sl 1 (nvS.len rl) false (fun ix _ => .v (.int .i64 (nvS.get 0 rl ix)))) v) (fun W hs z2 zk zo => ?_)
  · refine key.mono ?_
    rintro e w' ⟨v, W', ⟨I', i1, i2, hr⟩, rfl, rfl, h1, h2, h3⟩
    have hsz : ((W'.setCell ⟨w.heap.size, 0, none⟩ v).setCell ⟨w.heap.size + 1, 0, none⟩ (.bool true)).heap.size = W'.heap.size := by simp [World.setCell]
    have hhe : ∀ b, b ≠ w.heap.size → b ≠ w.heap.size + 1 → ((W'.setCell ⟨w.heap.size, 0, none⟩ v).setCell ⟨w.heap.size + 1, 0, none⟩ (.bool true)).heap[b]? = W'.heap[b]? := by
      intro b b0 b1
      simp only [World.setCell, Array.getElem?_modify]
      rw [if_neg (fun h => b1 h.symm), if_neg (fun h => b0 h.symm)]
    refine ⟨_, I', rfl, i1, fun b hb => ?_, fun b hb => ?_, by omega, ⟨h3.1, h3.2⟩, ?_⟩
    · obtain ⟨q1, q2⟩ := i2 b hb
      refine ⟨by omega, ?_⟩
      rcases q2 with q2 | q2
      · exact .inl q2
      · exact .inr (by omega)
    · rw [hhe b (by omega) (by omega)]; exact h1 b hb
    · refine ⟨_, rfl, rfl, fun j hj => ?_⟩
      match j, hj with
      | 0, _ =>
        refine ⟨v, rfl, Rd.mono ⟨fun _ h => h, fun b hb => hhe b ?_ ?_, fun _ _ h => h, fun _ _ _ o' ho' _ _ => by simp at ho'⟩ _ _ hr⟩
        · obtain ⟨q1, q2⟩ := i2 b hb
          rcases q2 with q2 | q2
          · have := hI b q2; omega
          · omega
        · obtain ⟨q1, q2⟩ := i2 b hb
          rcases q2 with q2 | q2
          · have := hI b q2; omega
          · omega
      | 1, _ => exact ⟨_, rfl, rfl⟩
  · let β : Nat → Option (Nat × Nat × Array Value) := fun k => if k = 0 then some (w.heap.size + 2, 0, #[.slice none 0 0, .int .i64 (max 0 (min most 65536))]) else none
    have hIW : ∀ b, I b → W.heap[b]? = w.heap[b]? := fun b hb => zk b (hI b hb)
    have hnb : ¬ I (w.heap.size + 2) := fun h => by have := hI _ h; omega
    have eA : (#[Value.pointer (some ⟨w.heap.size + 2, 0, none⟩)] ++ ys) = (Value.pointer (some ⟨w.heap.size + 2, 0, none⟩) :: ys.toList).toArray := by
      apply Array.toList_inj.1
      simp
    rw [eA]
    refine (H.2 W I c (.pointer (some ⟨w.heap.size + 2, 0, none⟩) :: ys.toList) β hcc (fun b hb => by have := hI b hb; omega) (hglob.mono (fun _ h => h) hIW) ?_ ?_ ?_ ?_ ?_).mono ?_
    · simp only [List.length_cons, Z7i, Array.length_toList, hys]
    · intro t d ht
      cases t with
      | zero =>
        simp only [List.getElem?_cons_zero, Option.some.injEq] at ht
        subst ht
        refine ⟨_, rfl, .inl hcc, ⟨_, rfl⟩, fun cs hcs => ?_⟩
        exact ⟨_, _, _, rfl, rfl⟩
      | succ t =>
        simp only [List.getElem?_cons_succ] at ht
        rw [Z0i] at ht
        split at ht
        · rename_i hk
          cases ht
          obtain ⟨z, z1, z3⟩ := hcaps t hk
          exact ⟨z, by simpa using z1, clo_ok (fun _ h => h) hIW _ _ (hcd t hk) z3⟩
        · cases ht
    · intro q o hq
      match q, hq with
      | 0, hq =>
        simp only [List.getElem?_cons_zero, Option.some.injEq] at hq
        subst hq
        refine ⟨rfl, Nat.zero_le _, w.heap.size + 2, 0, _, _, 107, rfl, z2, ⟨rfl, fun _ _ => rfl⟩, hnb, by simp, fun j d hj => ?_⟩
        match j, hj with
        | 0, hj =>
          simp only [List.getElem?_cons_zero, Option.some.injEq] at hj
          subst hj
          refine ⟨.slice none 0 0, rfl, rfl, .inl hcc, ⟨none, 0, 0, rfl, rfl, Nat.le_refl _, fun h => absurd h (by omega)⟩, fun N t f ho => ?_⟩
          cases ho
          exact ⟨by omega, by omega, by omega, none, 0, 0, rfl, rfl, Nat.le_refl _, fun h => absurd h (by decide), fun h => absurd h (by omega)⟩
        | 1, hj =>
          simp only [List.getElem?_cons_succ, List.getElem?_cons_zero, Option.some.injEq] at hj
          subst hj
          exact ⟨_, rfl, rfl, rfl⟩
      | 1, hq =>
        simp only [List.getElem?_cons_succ, List.getElem?_cons_zero, Option.some.injEq] at hq
        subst hq
        exact ⟨rfl, Nat.zero_le _, by omega, .inl ⟨rfl, rfl⟩⟩
    · intro q x hx
      by_cases hq : q = 0
      · subst hq; exact ⟨_, rfl⟩
      · simp only [β, if_neg hq] at hx; cases hx
    · intro q q' x x' hne hx hx'
      by_cases hq : q = 0
      · have hq' : q' ≠ 0 := fun h => hne (hq.trans h.symm)
        simp only [β, if_neg hq'] at hx'; cases hx'
      · simp only [β, if_neg hq] at hx; cases hx
    · rintro e W' ⟨v, I', c', β', rfl, k1, k2, k3, k4, k5, k6, k7, k8, k9⟩
      obtain ⟨r0, r0'⟩ := k6 0 _ rfl
      obtain ⟨r1, -⟩ := k6 1 _ rfl
      obtain ⟨ys', e1, e2, -⟩ : ∃ ys' : Array Value, v = .tuple ys' ∧ ys'.size = 0 ∧ True := by
        obtain ⟨ys', e1, e2, -⟩ := k9
        exact ⟨ys', e1, e2, trivial⟩
      have e3 : ys' = #[] := Array.eq_empty_of_size_eq_zero e2
      subst e1 e3
      have hb0 : β' 0 = some (w.heap.size + 2, 0, #[.slice none 0 0, .int .i64 (max 0 (min most 65536))]) := r0' rfl
      obtain ⟨_, b, o, s, cc, et, p1, p2, p3, p4, p5, p6⟩ := r0
      rw [hb0] at p1
      cases p1
      obtain ⟨za, za1, za2, za3⟩ := p6 0 _ rfl
      obtain ⟨zb, zb1, zb2, zb3⟩ := p6 1 _ rfl
      obtain ⟨a, len, cap, rfl, x1, x2, -, x4⟩ := Z4h za3 rfl r1
      have hcc2 : cc = #[.slice a len cap, zb] := by
        have hs2 : cc.size = 2 := by rw [p3.1]; rfl
        refine Array.ext_getElem? fun i => ?_
        match i with
        | 0 => simpa using za1
        | 1 => simpa using zb1
        | i + 2 => rw [Array.getElem?_eq_none (by omega)]; simp
      subst hcc2
      refine ⟨rfl, a, len, cap, zb, et, p2, fun q hq hne => k3 q (by omega) (fun q' x hx => ?_), by omega, k5, fun b => I' b ∨ (∃ x, β' 1 = some x ∧ x.1 = b), fun b hb => .inl (k1 b hb), fun b hb => ?_, ?_⟩
      · by_cases hq' : q' = 0
        · subst hq'
          cases hx
          exact fun h => hne h.symm
        · simp only [β, if_neg hq'] at hx; cases hx
      · rcases hb with hb | ⟨x, hx, rfl⟩
        · obtain ⟨q1, q2⟩ := k2 b hb
          refine ⟨q1, ?_⟩
          rcases q2 with q2 | q2 | ⟨q', x, hx, rfl⟩
          · exact .inl q2
          · exact .inr (by omega)
          · by_cases hq' : q' = 0
            · subst hq'
              cases hx
              exact absurd hb p4
            · simp only [β, if_neg hq'] at hx; cases hx
        · obtain ⟨q1, q2⟩ := k8 1 x hx
          have hne := k7 0 1 _ _ (by omega) hb0 hx
          obtain ⟨_, _, hr1⟩ := r1
          have hlt : x.1 < W'.heap.size := by
            rcases hr1 with ⟨_, h⟩ | ⟨b, o, s, c, e, h1, h2, _⟩
            · rw [h] at hx; cases hx
            · rw [h1] at hx; cases hx
              rcases Nat.lt_or_ge b W'.heap.size with h | h
              · exact h
              · rw [Array.getElem?_eq_none h] at h2; cases h2
          refine ⟨hlt, .inr ?_⟩
          rcases q2 with ⟨q', x', hx', hxe⟩ | q2
          · by_cases hq' : q' = 0
            · subst hq'
              cases hx'
              exact absurd hxe hne
            · simp only [β, if_neg hq'] at hx'; cases hx'
          · omega
      · refine ⟨a, len, cap, rfl, x1, x2, fun h => absurd h (by decide), fun hp => ?_⟩
        obtain ⟨b, o, c2, e2, s2, q1, rfl, q2, q3, q4, q5⟩ := x4 (by omega)
        refine ⟨b, o, c2, e2, _, rfl, .inr ⟨_, q1, rfl⟩, q2, fun i hi j hj => ?_⟩
        obtain ⟨z, w1, w2, w3⟩ := q5 i hi j hj
        refine ⟨z, w1, w2, ?_⟩
        have w3 : z = .int .i64 (nvS.get 0 rl (0 + (i : Int))) := w3
        rw [Int.zero_add] at w3
        exact w3
end Go.Vx
end
