/- WeakPairs, as a plain law: no conditions. -/
import Derived.Test.YtkjmcemgncalgaaGreatDoorWTw2
set_option linter.all false
namespace Go.Vx
open Go.Proofs
set_option maxRecDepth 100000
def Apart (p q : T_Arr2_i64) : Prop := p.x1 < q.x0 ∨ q.x1 < p.x0 ∨ (p.x0 < q.x0 ∧ q.x1 < p.x1) ∨ (q.x0 < p.x0 ∧ p.x1 < q.x1)
theorem Apart.symm {p q : T_Arr2_i64} (h : Apart p q) : Apart q p := by unfold Apart at *; omega
structure PairOk (r l : List Int) (v : Int) (p : T_Arr2_i64) : Prop where
 a0 : 0 ≤ p.x0
 a1 : p.x0 < p.x1
 a2 : p.x1 < v
 b0 : getL 0 l p.x0 = 14
 b1 : getL 0 l p.x1 = 14
 k : (braL (getL 0 r p.x0)).2 = 1
 o : (braL (getL 0 r p.x0)).1 = getL 0 r p.x1
theorem PairOk.up {r l : List Int} {v w : Int} {p : T_Arr2_i64} (h : PairOk r l v p) (hw : v ≤ w) : PairOk r l w p := ⟨h.a0, h.a1, by have := h.a2; omega, h.b0, h.b1, h.k, h.o⟩
structure PI (r l : List Int) (off n v : Int) (op : List Int) (out : List T_Arr2_i64) : Prop where
 o0 : 0 ≤ off
 n0 : 0 ≤ n
 n1 : n ≤ 63
 on : off + n ≤ lenL op
 e : ∀ k, 0 ≤ k → k < n → 0 ≤ getL 0 op (off + k) ∧ getL 0 op (off + k) < v ∧ getL 0 l (getL 0 op (off + k)) = 14 ∧ (braL (getL 0 r (getL 0 op (off + k)))).2 = 1
 inc : ∀ k k', 0 ≤ k → k < k' → k' < n → getL 0 op (off + k) < getL 0 op (off + k')
 ok : ∀ p ∈ out, PairOk r l v p
 ap : out.Pairwise Apart
 free : ∀ p ∈ out, ∀ k, 0 ≤ k → k < n → getL 0 op (off + k) < p.x0 ∨ p.x1 < getL 0 op (off + k)
 len : lenL out ≤ v
theorem PI.next {r l : List Int} {off n v : Int} {op : List Int} {out : List T_Arr2_i64} (H : PI r l off n v op out) : PI r l off n (v + 1) op out :=
 ⟨H.o0, H.n0, H.n1, H.on, fun k k0 k1 => by obtain ⟨a, b, c, d⟩ := H.e k k0 k1; exact ⟨a, by omega, c, d⟩, H.inc, fun p hp => (H.ok p hp).up (by omega), H.ap, H.free, by have := H.len; omega⟩
theorem PI.push {r l : List Int} {off n v : Int} {op : List Int} {out : List T_Arr2_i64} (H : PI r l off n v op out) (v0 : 0 ≤ v) (hn : n < 63) (h14 : getL 0 l v = 14) (hk : (braL (getL 0 r v)).2 = 1) :
  PI r l 0 (n + 1) (v + 1) (subL op off (off + n) ++ [v]) out := by
 have o0 := H.o0; have n0 := H.n0; have on := H.on
 have hl : lenL (subL op off (off + n)) = n := by rw [lenL_sub (by omega) (by omega) (by omega)]; omega
 have hg : ∀ k, 0 ≤ k → k < n → getL 0 (subL op off (off + n) ++ [v]) (0 + k) = getL 0 op (off + k) := fun k k0 k1 => by
  rw [Int.zero_add, getL_app k0, if_pos (by omega), getL_sub o0 k0 (by omega)]
 have hv : getL 0 (subL op off (off + n) ++ [v]) (0 + n) = v := by
  rw [Int.zero_add]
  have := getL_snoc 0 v (subL op off (off + n))
  rwa [hl] at this
 refine ⟨Int.le_refl _, by omega, by omega, by simp [hl], fun k k0 k1 => ?_, fun k k' k0 k1 k2 => ?_, fun p hp => (H.ok p hp).up (by omega), H.ap, fun p hp k k0 k1 => ?_, by have := H.len; omega⟩
 · by_cases e : k = n
   · subst e; rw [hv]; exact ⟨v0, by omega, h14, hk⟩
   · rw [hg k k0 (by omega)]
     obtain ⟨a, b, c, d⟩ := H.e k k0 (by omega)
     exact ⟨a, by omega, c, d⟩
 · rw [hg k k0 (by omega)]
   by_cases e : k' = n
   · subst e; rw [hv]; exact (H.e k k0 (by omega)).2.1
   · rw [hg k' (by omega) (by omega)]; exact H.inc k k' k0 k1 (by omega)
 · by_cases e : k = n
   · subst e; rw [hv]; exact .inr (H.ok p hp).a2
   · rw [hg k k0 (by omega)]; exact H.free p hp k k0 (by omega)
theorem PI.pop {r l : List Int} {off n v : Int} {op : List Int} {out : List T_Arr2_i64} (H : PI r l off n v op out) {m : Int} (m0 : 0 ≤ m) (m1 : m < n) (h14 : getL 0 l v = 14) (ho : (braL (getL 0 r (getL 0 op (off + m)))).1 = getL 0 r v) :
  PI r l (off + 0) (m - 0) (v + 1) op (out ++ [⟨getL 0 op (off + m), v⟩]) := by
 obtain ⟨a, b, c, d⟩ := H.e m m0 m1
 rw [Int.add_zero, Int.sub_zero]
 refine ⟨H.o0, m0, by have := H.n1; omega, by have := H.on; omega, fun k k0 k1 => ?_, fun k k' k0 k1 k2 => H.inc k k' k0 k1 (by omega), fun p hp => ?_, ?_, fun p hp k k0 k1 => ?_, by have := H.len; simp; omega⟩
 · obtain ⟨a, b, c, d⟩ := H.e k k0 (by omega)
   exact ⟨a, by omega, c, d⟩
 · rcases List.mem_append.1 hp with hp | hp
   · exact (H.ok p hp).up (by omega)
   · obtain rfl := List.mem_singleton.1 hp
     exact ⟨a, b, by show v < v + 1; omega, c, h14, d, ho⟩
 · rw [List.pairwise_append]
   refine ⟨H.ap, List.pairwise_singleton _ _, fun p hp q hq => ?_⟩
   obtain rfl := List.mem_singleton.1 hq
   have h1 := (H.ok p hp).a2
   have h2 := H.free p hp m m0 m1
   unfold Apart
   simp only
   omega
 · rcases List.mem_append.1 hp with hp | hp
   · exact H.free p hp k k0 (by omega)
   · obtain rfl := List.mem_singleton.1 hp
     exact .inl (H.inc k m k0 k1 m1)
structure PairsP (r l : List Int) (p : List T_Arr2_i64) : Prop where
 ok : ∀ q ∈ p, PairOk r l (lenL l) q
 ap : p.Pairwise Apart
 so : p.Pairwise fun a b => a.x0 ≤ b.x0
 len : lenL p ≤ lenL l
theorem pairs_yields {r l : List Int} (hb : lenL l ≤ 100000) : Yields (weak_Pairs dLoad r l) (fun p => PairsP r l p ∧ (lenL r ≠ lenL l → p = [])) := by
 have hn := lenL_nn l
 have nil : PairsP r l [] := ⟨fun q hq => (by cases hq), List.Pairwise.nil, List.Pairwise.nil, by simpa using hn⟩
 unfold weak_Pairs
 refine .ite (fun _ => .ret ⟨nil, fun _ => rfl⟩) (fun h => ?_)
 have hrl : lenL r = lenL l := by simpa using h
 clear h
 refine .cut (fun q => (q = .out []) ∨ ∃ out off n op, q = .go out ∧ PI r l off n (lenL l) op out) ?_ ?_
 · refine .loop (fun (off, n, v, op, out) => v ≤ lenL l ∧ 0 ≤ v ∧ PI r l off n v op out) (fun x => (lenL l - x.2.2.1).toNat)
    ⟨hn, by omega, ⟨by omega, by omega, by omega, by simp, fun k k0 k1 => (by omega), fun k k' k0 k1 k2 => (by omega), fun p hp => (by cases hp), List.Pairwise.nil, fun p hp => (by cases hp), by simp⟩⟩ ?_
   rintro ⟨off, n, v, op, out⟩ ⟨v1, v0, H⟩
   refine .ite (fun h => ?_) (fun h => ?_)
   · have h : v < lenL l := by simpa using h
     refine .cut (fun q => (q = .out (.out (.out []))) ∨ ∃ off n op out, q = .go (off, n, op, out) ∧ PI r l off n (v + 1) op out) ?_ ?_
     · refine .chk ⟨v0, h⟩ ?_
       refine .ite (fun _ => .ret (.inr ⟨off, n, op, out, rfl, H.next⟩)) (fun h14 => ?_)
       have h14 : getL 0 l v = 14 := by simpa using h14
       refine .chk ⟨v0, by omega⟩ (.call (bracket_L _) ?_)
       have o0 := H.o0; have n0 := H.n0; have n1 := H.n1; have on := H.on
       refine .ite (fun h1 => .ite (fun _ => .ret (.inl rfl)) (fun h63 => ?_)) (fun h1 => .ite (fun h2 => ?_) (fun _ => .ret (.inr ⟨off, n, op, out, rfl, H.next⟩)))
       · have h1 : (braL (getL 0 r v)).2 = 1 := by simpa using h1
         have h63 : n ≠ 63 := by simpa using h63
         exact .chk ⟨o0, n0, on⟩ (.chk (grOk (by omega) (by omega) (by omega)) (.ret (.inr ⟨_, _, _, _, rfl, H.push v0 (by omega) h14 h1⟩)))
       · have h2 : (braL (getL 0 r v)).2 = 2 := by simpa using h2
         have hbm : (braL (braL (getL 0 r v)).1).1 = getL 0 r v := by
          rcases braL_mem (getL 0 r v) with e | e
          · rw [e] at h2; cases h2
          · exact e.2.1
         refine .chk (inR64 (by omega) (by omega)) ?_
         refine .loop (fun m => -1 ≤ m ∧ m < n) (fun m => (m + 1).toNat) ⟨by omega, by omega⟩ ?_
         rintro m ⟨m0, m1⟩
         refine .ite (fun hm => ?_) (fun _ => .ret (.inr ⟨off, n, op, out, rfl, H.next⟩))
         have hm : 0 ≤ m := by simpa using hm
         obtain ⟨a, b, c, d⟩ := H.e m hm m1
         have hlen := H.len
         have := lenL_nn out
         refine .chk ⟨hm, m1⟩ (.chk ⟨a, by omega⟩ (.ite (fun he => ?_) (fun _ => .chk (inR64 (by omega) (by omega)) (.ret ⟨⟨by omega, by omega⟩, by simp only; omega⟩))))
         have he : getL 0 r (getL 0 op (off + m)) = (braL (getL 0 r v)).1 := by simpa using he
         exact .chk ⟨hm, m1⟩ (.chk (grOk (by omega) (by omega) (by omega)) (.chk ⟨by omega, by omega, by omega⟩ (.ret (.inr ⟨_, _, _, _, rfl, H.pop hm m1 h14 (by rw [he]; exact hbm)⟩))))
     · rintro q (rfl | ⟨off, n, op, out, rfl, H2⟩)
       · exact .out (.inl rfl)
       · exact .go (.chk (inR64 (by omega) (by omega)) (.ret ⟨⟨by omega, by omega, H2⟩, by simp only; omega⟩))
   · have h : lenL l ≤ v := by simpa using h
     have e : v = lenL l := by omega
     subst e
     exact .ret (.inr ⟨out, off, n, op, rfl, H⟩)
 · rintro q (rfl | ⟨out, off, n, op, rfl, H⟩)
   · exact .out ⟨nil, fun _ => rfl⟩
   · refine .go ?_
     have hs := sortPairs_ex (x := out) (by have := H.len; omega) (fun p hp => by have := H.ok p hp; have := this.a0; have := (H.ok p hp).a1; have := (H.ok p hp).a2; omega)
     obtain ⟨p, hp⟩ := hs
     obtain ⟨p1, p2⟩ := sortPairs_perm hp
     have pl := sortPairs_len hp
     refine .call hp (.chk pl (.ret ⟨⟨fun q hq => H.ok q (p1.mem_iff.1 hq), (p1.pairwise_iff (fun h => Apart.symm h)).2 H.ap, p2, by have := H.len; omega⟩, fun hh => absurd hrl hh⟩))
theorem weakPairs_true (r l : List Int) : lapwinglaw18_WeakPairs r l = some true := by
 have hn := lenL_nn l
 refine Yields.eq ?_
 unfold lapwinglaw18_WeakPairs
 refine .call awake_true (.ite (fun _ => .ret rfl) (fun h => ?_))
 have hb : lenL r ≤ 200 ∧ lenL l ≤ 200 := by
  by_cases h1 : 200 < lenL r
  · simp [h1] at h
  · exact ⟨by omega, by simpa [h1] using h⟩
 clear h
 refine .call load_eq (.bind _ (pairs_yields (by omega)) fun p hp => ?_)
 obtain ⟨H, hnil⟩ := hp
 refine .ite (fun h => ?_) (fun h => ?_)
 · have h : lenL r ≠ lenL l := by simpa using h
   rw [hnil h]; exact .ret rfl
 have hrl : lenL r = lenL l := by simpa using h
 clear h
 have hpl := H.len
 have mem : ∀ i, 0 ≤ i → i < lenL p → PairOk r l (lenL l) (getL d_Arr2_i64 p i) := fun i i0 i1 => H.ok _ (getL_mem _ i0 i1)
 have two : ∀ j i, 0 ≤ j → j < i → i < lenL p → Apart (getL d_Arr2_i64 p j) (getL d_Arr2_i64 p i) ∧ (getL d_Arr2_i64 p j).x0 ≤ (getL d_Arr2_i64 p i).x0 := fun j i j0 ji i1 => by
  obtain ⟨hj, ej⟩ := getL_eq (d := d_Arr2_i64) j0 (show j < lenL p by omega)
  obtain ⟨hi, ei⟩ := getL_eq (d := d_Arr2_i64) (show 0 ≤ i by omega) i1
  rw [ej, ei]
  have hlt : j.toNat < i.toNat := by omega
  exact ⟨(List.pairwise_iff_getElem.1 H.ap) _ _ hj hi hlt, (List.pairwise_iff_getElem.1 H.so) _ _ hj hi hlt⟩
 refine .cut (fun q => q = .go ()) ?_ (fun q hq => by subst hq; exact .go (.ret rfl))
 refine .loop (fun i => 0 ≤ i ∧ i ≤ lenL p) (fun i => (lenL p - i).toNat) ⟨by omega, lenL_nn p⟩ ?_
 rintro i ⟨i0, i1⟩
 refine .ite (fun h => ?_) (fun _ => .ret rfl)
 have h : i < lenL p := by simpa using h
 have Q := mem i i0 h
 refine .cut (fun q => q = .go ()) ?_ (fun q hq => by subst hq; exact .go (.chk (inR64 (by omega) (by omega)) (.ret ⟨⟨by omega, by omega⟩, by show (_ - _ : Int).toNat < (_ - _ : Int).toNat; omega⟩)))
 refine .chk ⟨i0, h⟩ ?_
 simp only [Int.zero_add]
 have T := fun j j0 (ji : j < i) => two j i j0 ji h
 have MJ := fun j j0 (ji : j < i) => mem j j0 (by omega)
 generalize getL d_Arr2_i64 p i = A at Q T
 obtain ⟨q0, q1, q2, q3, q4, q5, q6⟩ := Q
 refine .chk (fun _ => ⟨q0, by omega⟩) (.chk (fun _ => ⟨by omega, q2⟩) (.ite (fun hh => ?_) (fun _ => ?_)))
 · exfalso
   rw [q3, q4, decide_eq_false (by omega), decide_eq_false (by omega), decide_eq_false (by omega)] at hh
   cases hh
 refine .chk ⟨q0, by omega⟩ (.call (bracket_L _) ?_)
 refine .chk (fun _ => ⟨by omega, by omega⟩) (.chk (fun _ => inR64 (by omega) (by omega)) ?_)
 rw [q5, q6]
 by_cases hi0 : 0 < i
 · have t1 := T (i - 1) (by omega) (by omega)
   have m1 := MJ (i - 1) (by omega) (by omega)
   have ha1 := m1.a1
   have hx : (getL d_Arr2_i64 p (i - 1)).x0 < A.x0 := by
    have := t1.1; unfold Apart at this; omega
   refine .chk (fun _ => ⟨by omega, by omega⟩) (.ite (fun hh => ?_) (fun _ => ?_))
   · exfalso
     rw [decide_eq_true hi0, decide_eq_false (by omega)] at hh
     simp at hh
   refine .loop (fun j => 0 ≤ j ∧ j ≤ i) (fun j => (i - j).toNat) ⟨by omega, by omega⟩ ?_
   rintro j ⟨j0, j1⟩
   refine .ite (fun hj => ?_) (fun _ => .ret rfl)
   have hj : j < i := by simpa using hj
   have tj := T j j0 hj
   have mj := (MJ j j0 hj).a1
   have ta := tj.1
   unfold Apart at ta
   refine .chk ⟨j0, by omega⟩ (.chk (fun _ => ⟨j0, by omega⟩) (.chk (fun _ => ⟨j0, by omega⟩) (.ite (fun hh => ?_) (fun _ => .chk (inR64 (by omega) (by omega)) (.ret ⟨⟨by omega, by omega⟩, by simp only; omega⟩)))))
   exfalso
   revert hh
   have e1 : ((getL d_Arr2_i64 p j).x1 == A.x1) = false := by simp; omega
   rw [e1]
   by_cases h1 : A.x0 < (getL d_Arr2_i64 p j).x1
   · rw [decide_eq_true h1, decide_eq_false (by omega)]; simp
   · rw [decide_eq_false h1]; simp
 · refine .chk (fun hh => by rw [decide_eq_false hi0] at hh; simp at hh) (.ite (fun hh => ?_) (fun _ => ?_))
   · exfalso
     rw [decide_eq_false hi0] at hh
     simp at hh
   refine .loop (fun j => j = 0) (fun j => 0) rfl ?_
   rintro j rfl
   refine .ite (fun hj => ?_) (fun _ => .ret rfl)
   have hj : (0 : Int) < i := by simpa using hj
   omega
end Go.Vx
