/- Part of a proof; no conditions of its own. -/
import Derived.Test.YtofgfpibcoafgaaE4
set_option linter.all false
namespace Go.Vx
set_option maxRecDepth 100000

instance (l : List Int) (i : Int) : Decidable (Op l i) := by unfold Op; infer_instance
/-- Match, letter by letter: what is open, and what each letter is told. -/
def mstep (l : List Int) (v : Int) (s : List Int × (Int → Int)) : List Int × (Int → Int) :=
  if Op l v then (s.1 ++ [v], up s.2 v (lenL l))
  else if getL 0 l v = 23 then
    if 0 < lenL s.1 then (subL s.1 0 (lenL s.1 - 1), up (up s.2 v (getL 0 s.1 (lenL s.1 - 1))) (getL 0 s.1 (lenL s.1 - 1)) v)
    else (s.1, up s.2 v (-1))
  else if getL 0 l v = 11 then ([], up s.2 v (-1)) else (s.1, up s.2 v (-1))
def mst (l : List Int) : Nat → List Int × (Int → Int)
  | 0 => ([], fun _ => 0)
  | n + 1 => mstep l n (mst l n)
theorem mst_next {l : List Int} {v : Int} (v0 : 0 ≤ v) : mst l (v + 1).toNat = mstep l v (mst l v.toNat) := by
  have e : (v + 1).toNat = v.toNat + 1 := by omega
  have e2 : (v.toNat : Int) = v := by omega
  rw [e]
  show mstep l (v.toNat : Int) (mst l v.toNat) = _
  rw [e2]

theorem mst_inv {l : List Int} : ∀ n : Nat, (n : Int) ≤ lenL l → MInv l n (mst l n).2 (mst l n).1 ∧ lenL (mst l n).1 ≤ n := by
  intro n
  induction n with
  | zero => intro _; exact ⟨MInv.zero l _, by simp [mst]⟩
  | succ n ih =>
    intro h
    obtain ⟨I, hl⟩ := ih (by omega)
    show MInv l ((n + 1 : Nat) : Int) (mstep l n (mst l n)).2 (mstep l n (mst l n)).1 ∧ lenL (mstep l n (mst l n)).1 ≤ ((n + 1 : Nat) : Int)
    have e : ((n + 1 : Nat) : Int) = (n : Int) + 1 := by omega
    rw [e]
    generalize mst l n = s at I hl ⊢
    have hn := lenL_nn s.1
    unfold mstep
    split
    · rename_i hO
      exact ⟨I.push (by omega) (by omega) hO, by simp; omega⟩
    · rename_i hO
      split
      · rename_i hc
        split
        · rename_i ho
          refine ⟨I.pop (by omega) (by omega) hc ho rfl (by rw [lenL_sub (by omega) (by omega) (by omega)]; omega) (fun j j0 j1 => by rw [getL_sub (by omega) j0 (by omega), Int.zero_add]), ?_⟩
          simp only
          rw [lenL_sub (by omega) (by omega) (by omega)]; omega
        · exact ⟨I.plain (by omega) (by omega) hO (.inl rfl), by simp only; omega⟩
      · split
        · exact ⟨I.plain (by omega) (by omega) hO (.inr rfl), by simp; omega⟩
        · exact ⟨I.plain (by omega) (by omega) hO (.inl rfl), by simp only; omega⟩

theorem match_exact {l : List Int} (hb : lenL l ≤ 100000) : Yields (embed_Match l) fun m => lenL m = lenL l ∧ ∀ i, 0 ≤ i → i < lenL l → getL 0 m i = (mst l (lenL l).toNat).2 i := by
  have hn := lenL_nn l
  unfold embed_Match
  refine .chk (mkOk hn (by omega) (by omega)) ?_
  refine .cut (fun r => ∃ m, r = .go m ∧ lenL m = lenL l ∧ ∀ i, 0 ≤ i → i < lenL l → getL 0 m i = (mst l (lenL l).toNat).2 i) ?_ (fun r hr => by
    obtain ⟨m, rfl, h⟩ := hr
    exact .go (.ret h))
  refine .loop (fun x => 0 ≤ x.1 ∧ x.1 ≤ lenL l ∧ lenL x.2.1 = lenL l ∧ x.2.2 = (mst l x.1.toNat).1 ∧ ∀ i, 0 ≤ i → i < x.1 → getL 0 x.2.1 i = (mst l x.1.toNat).2 i) (fun x => (lenL l - x.1).toNat)
    ⟨by simp only; omega, by simp only; omega, lenL_rep _ hn, rfl, fun i i0 i1 => by simp only at i1; omega⟩ ?_
  rintro ⟨v, out, o⟩ ⟨v0, vn, hl, he, hg⟩
  simp only at v0 vn hl he hg ⊢
  refine .ite (fun h => ?_) (fun h => ?_)
  · have h : v < lenL l := by simpa using h
    obtain ⟨I, hlo⟩ := mst_inv (l := l) v.toNat (by omega)
    have ev : (v.toNat : Int) = v := by omega
    rw [ev] at I hlo
    rw [← he] at I hlo
    have hst := mst_next (l := l) v0
    have hgs : ∀ x, ∀ i, 0 ≤ i → i < v + 1 → getL 0 (setL out v x) i = up (mst l v.toNat).2 v x i := fun x i i0 i1 => by
      rw [getL_put v0 i0 (by omega)]
      unfold up
      split
      · rfl
      · exact hg i i0 (by omega)
    refine .cut (fun r => ∃ out' o', r = .go (out', o') ∧ lenL out' = lenL l ∧ o' = (mstep l v (mst l v.toNat)).1 ∧ ∀ i, 0 ≤ i → i < v + 1 → getL 0 out' i = (mstep l v (mst l v.toNat)).2 i) ?_ (fun r hr => by
      obtain ⟨out', o', rfl, h1, h2, h3⟩ := hr
      exact .go (.chk (inR64 (by omega) (by omega)) (.ret ⟨⟨by simp only; omega, by simp only; omega, h1, by simp only [hst]; exact h2, by simp only [hst]; exact h3⟩, by simp only; omega⟩)))
    refine .chk ⟨v0, h⟩ ?_
    refine .chk ⟨v0, h⟩ ?_
    have hop : Op l v ↔ ((getL 0 l v == 20) = true ∨ (getL 0 l v == 21) = true ∨ (getL 0 l v == 22) = true) := by
      simp only [beq_iff_eq, Op]; omega
    refine .cut (fun r => ∃ b : Bool, r = .go b ∧ (b = true ↔ Op l v)) ?_ ?_
    · refine .ite (fun h1 => .ret ⟨_, rfl, by rw [hop]; simp [h1]⟩) (fun h1 => ?_)
      refine .ite (fun h2 => .ret ⟨_, rfl, by rw [hop]; simp [h2]⟩) (fun h2 => .ret ⟨_, rfl, by rw [hop]; simp [h1, h2]⟩)
    · rintro r ⟨b, rfl, hb'⟩
      refine .go ?_
      unfold mstep
      refine .ite (fun hb1 => ?_) (fun hb1 => ?_)
      · have hO := hb'.1 hb1
        rw [if_pos hO]
        refine .chk ⟨v0, h⟩ (.call (si_push_eq (by omega)) (.ret ⟨_, _, rfl, by simp [hl], by simp only [he], ?_⟩))
        have e : setL (setL out v (-1)) v (lenL l) = setL out v (lenL l) := by
          refine extL 0 (by simp) fun i i0 i1 => ?_
          simp only [lenL_set] at i1
          rw [getL_put v0 i0 (by simpa using i1), getL_put v0 i0 (by omega), getL_put v0 i0 (by omega)]
          split <;> rfl
        rw [e]
        exact hgs _
      · have hO : ¬ Op l v := fun hh => by rw [hb'.2 hh] at hb1; cases hb1
        rw [if_neg hO]
        refine .ite (fun hc => ?_) (fun hc => ?_)
        · have hc : getL 0 l v = 23 := by simpa using hc
          rw [if_pos hc]
          refine .call (b := lenL o) rfl ?_
          refine .ite (fun h1 => ?_) (fun h1 => ?_)
          · have h1 : 0 < lenL o := by simpa using h1
            obtain ⟨p0, pv, _, _⟩ := I.st (lenL o - 1) (by omega) (by omega)
            rw [← he, if_pos h1]
            refine .call (si_last_eq h1 (by omega)) (.chk ⟨v0, h⟩ (.call (si_last_eq h1 (by omega)) (.chk ⟨p0, by omega⟩ (.call (si_pop_eq h1 (by omega)) (.ret ⟨_, _, rfl, by simp [hl], rfl, ?_⟩)))))
            intro i i0 i1
            rw [getL_put (by omega) i0 (by simp; omega), getL_put v0 i0 (by simp; omega), getL_put v0 i0 (by omega)]
            simp only [up]
            split
            · rfl
            · split
              · rfl
              · exact hg i i0 (by omega)
          · have h1 : lenL o = 0 := by have := lenL_nn o; simp at h1; omega
            rw [← he, if_neg (by omega)]
            exact .ret ⟨_, _, rfl, by simp [hl], rfl, hgs _⟩
        · rw [if_neg (by simpa using hc)]
          refine .ite (fun h1 => ?_) (fun h1 => ?_)
          · rw [if_pos (by simpa using h1)]
            exact .ret ⟨_, _, rfl, by simp [hl], rfl, hgs _⟩
          · rw [if_neg (by simpa using h1)]
            exact .ret ⟨_, _, rfl, by simp [hl], he, hgs _⟩
  · have h : lenL l ≤ v := by simpa using h
    have e : v = lenL l := by omega
    subst e
    exact .ret ⟨out, rfl, hl, hg⟩

theorem mst_congr {l k : List Int} (hl : lenL l = lenL k) (h : ∀ i, 0 ≤ i → i < lenL l → (Op l i ↔ Op k i) ∧ (getL 0 l i = 23 ↔ getL 0 k i = 23) ∧ (getL 0 l i = 11 ↔ getL 0 k i = 11)) : ∀ n : Nat, (n : Int) ≤ lenL l → mst l n = mst k n := by
  intro n
  induction n with
  | zero => intro _; rfl
  | succ n ih =>
    intro hn
    show mstep l n (mst l n) = mstep k n (mst k n)
    rw [ih (by omega)]
    obtain ⟨h1, h2, h3⟩ := h n (by omega) (by omega)
    unfold mstep
    simp only [h1, h2, h3, hl]

/-! The levels below what is open, the last first. -/
def mlev (m : Mch) : List Int := List.replicate m.fisolates.toNat (lastS m.fopen.fl).flevel ++ levs m.fopen.fl
theorem levs_len (o : List Sts) : (levs o).length = cntI o := by
  have h : ∀ r : List Sts, (levsR r).length = cntI r := fun r => by
    induction r with
    | nil => rfl
    | cons s t ih => unfold levsR cntI; split <;> simp [ih] <;> omega
  have h2 : ∀ r : List Sts, cntI r.reverse = cntI r := fun r => by
    induction r with
    | nil => rfl
    | cons s t ih => rw [List.reverse_cons, cntI_app, ih]; simp only [cntI]; omega
  unfold levs
  rw [h, h2]

variable {l mt : List Int} {b v : Int} {m : Mch}
theorem mlev_embed (G : Good l mt b v m) {odd : Bool} {ov : Int} : mlev (embedC m odd ov) = mlev m := by
  unfold embedC
  split
  · rename_i h
    obtain ⟨_, _, hi, _⟩ := mayM_up G h
    simp only [mlev, pushM, hi, levs_push]
    rfl
  · split <;> rfl
theorem mlev_isolate (G : Good l mt b v m) {odd : Bool} : mlev (isolateC m odd) = (lastS m.fopen.fl).flevel :: mlev m := by
  unfold isolateC
  have is := G.is
  split
  · rename_i h
    obtain ⟨_, _, hi, _⟩ := mayM_up G h
    simp only [mlev, pushM, hi, levs_push]
    rfl
  · simp only [mlev]
    have e : (m.fisolates + 1).toNat = m.fisolates.toNat + 1 := by omega
    rw [e, List.replicate_succ]; rfl
theorem mlev_endIso (G : Good l mt b v m) : (mlev m = [] ∧ mlev (endIsoM m) = []) ∨ mlev m = (lastS (endIsoM m).fopen.fl).flevel :: mlev (endIsoM m) := by
  unfold endIsoM
  have is := G.is
  split
  · rename_i h
    right
    simp only [mlev]
    have e : m.fisolates.toNat = (m.fisolates - 1).toNat + 1 := by omega
    rw [e, List.replicate_succ]; rfl
  · have e : m.fisolates.toNat = 0 := by omega
    split
    · rename_i h
      left
      have := levs_len m.fopen.fl
      have va := G.va
      have : levs m.fopen.fl = [] := List.eq_nil_of_length_eq_zero (by omega)
      have : mlev m = [] := by simp only [mlev, e, this]; rfl
      exact ⟨this, this⟩
    · rename_i h
      right
      obtain ⟨_, _, a3, _, _⟩ := G.popped h
      simp only [mlev, e, List.replicate_zero, List.nil_append]
      exact a3
theorem mlev_endEmb (G : Good l mt b v m) : mlev (endEmbM m) = mlev m := by
  unfold endEmbM
  have is := G.is
  split
  · rfl
  · have e : m.fisolates.toNat = 0 := by omega
    split
    · rfl
    · split
      · rename_i h
        simp only [mlev, e, List.replicate_zero, List.nil_append]
        rw [levs_split G.o0, if_neg (by rw [h.1]; simp)]
      · rfl
end Go.Vx
