/- Part of a proof; no conditions of its own. -/
import Derived.Test.YtofgfpibcoafgaaE6
set_option linter.all false
namespace Go.Vx
set_option maxRecDepth 100000

/-- Who is open has his level below what stands on the stack; whom a match closes has its level. -/
structure LI (k : List Int) (v : Int) (s : List Int × (Int → Int)) (M L : List Int) : Prop where
  a1 : lenL s.1 ≤ lenL M
  a2 : ∀ j, 0 ≤ j → j < lenL s.1 → getL 0 M j = getL 0 L (getL 0 s.1 (lenL s.1 - 1 - j))
  lv : ∀ i, 0 ≤ i → i < v → Op k i → s.2 i < lenL k → getL 0 L (s.2 i) = getL 0 L i

section
variable {k : List Int} {v : Int} {s : List Int × (Int → Int)} {M L L' : List Int}
theorem LI.plain (H : LI k v s M L) (I : MInv k v s.2 s.1) (v0 : 0 ≤ v) (hL : ∀ i, 0 ≤ i → i < v → getL 0 L' i = getL 0 L i) {o' : List Int} (ho : o' = s.1 ∨ o' = []) (hc : ¬ Op k v) (hvn : v < lenL k) : LI k (v + 1) (o', up s.2 v (-1)) M L' := by
  refine ⟨?_, fun j j0 j1 => ?_, fun i i0 i1 hO hlt => ?_⟩
  · rcases ho with rfl | rfl
    · exact H.a1
    · exact lenL_nn M
  · rcases ho with rfl | rfl
    · rw [H.a2 j j0 j1]
      obtain ⟨p0, p1, _⟩ := I.st (lenL s.1 - 1 - j) (by simp only at j1; omega) (by omega)
      rw [hL _ p0 p1]
    · simp at j1; omega
  · have hiv : i ≠ v := fun h => hc (h ▸ hO)
    have e : up s.2 v (-1) i = s.2 i := if_neg hiv
    simp only [e] at hlt ⊢
    rcases (I.loc i i0 (by omega)).1 hO with h | ⟨h1, h2, _, _⟩
    · omega
    · rw [hL _ (by omega) h2, hL _ i0 (by omega)]
      exact H.lv i i0 (by omega) hO hlt
theorem LI.push (H : LI k v s M L) (I : MInv k v s.2 s.1) (v0 : 0 ≤ v) (hL : ∀ i, 0 ≤ i → i < v → getL 0 L' i = getL 0 L i) {x : Int} (hx : getL 0 L' v = x) : LI k (v + 1) (s.1 ++ [v], up s.2 v (lenL k)) (x :: M) L' := by
  have hn := lenL_nn s.1
  refine ⟨by have := H.a1; simp; omega, fun j j0 j1 => ?_, fun i i0 i1 hO hlt => ?_⟩
  · have el : lenL (s.1 ++ [v]) = lenL s.1 + 1 := by simp
    simp only [el] at j1 ⊢
    by_cases h : j = 0
    · subst h
      have e : lenL s.1 + 1 - 1 - 0 = lenL s.1 := by omega
      rw [e, getL_snoc, hx]; rfl
    · rw [getL_cons (by omega), H.a2 (j - 1) (by omega) (by omega), getL_app (by omega), if_pos (by omega)]
      have e : lenL s.1 - 1 - (j - 1) = lenL s.1 + 1 - 1 - j := by omega
      rw [e]
      obtain ⟨p0, p1, _⟩ := I.st (lenL s.1 + 1 - 1 - j) (by omega) (by omega)
      rw [hL _ p0 p1]
  · by_cases hiv : i = v
    · subst hiv
      have e : up s.2 i (lenL k) i = lenL k := if_pos rfl
      simp only [e] at hlt; omega
    · have e : up s.2 v (lenL k) i = s.2 i := if_neg hiv
      simp only [e] at hlt ⊢
      rcases (I.loc i i0 (by omega)).1 hO with h | ⟨h1, h2, _, _⟩
      · omega
      · rw [hL _ (by omega) h2, hL _ i0 (by omega)]
        exact H.lv i i0 (by omega) hO hlt
theorem LI.pop (H : LI k v s M L) (I : MInv k v s.2 s.1) (v0 : 0 ≤ v) (hL : ∀ i, 0 ≤ i → i < v → getL 0 L' i = getL 0 L i) (hc : getL 0 k v = 23) (ho : 0 < lenL s.1) {x : Int} {M' : List Int} (hM : M = x :: M') (hx : getL 0 L' v = x) :
    LI k (v + 1) (subL s.1 0 (lenL s.1 - 1), up (up s.2 v (getL 0 s.1 (lenL s.1 - 1))) (getL 0 s.1 (lenL s.1 - 1)) v) M' L' := by
  have hn := lenL_nn s.1
  have el : lenL (subL s.1 0 (lenL s.1 - 1)) = lenL s.1 - 1 := by rw [lenL_sub (by omega) (by omega) (by omega)]; omega
  obtain ⟨q0, q1, _, _⟩ := I.st (lenL s.1 - 1) (by omega) (by omega)
  have h0 := H.a2 0 (by omega) ho
  rw [Int.sub_zero] at h0
  have a1 := H.a1
  have a2 := H.a2
  subst hM
  generalize hp : getL 0 s.1 (lenL s.1 - 1) = p at *
  have h0 : x = getL 0 L p := h0
  refine ⟨by simp only [el]; simp at a1; omega, fun j j0 j1 => ?_, fun i i0 i1 hO hlt => ?_⟩
  · simp only [el] at j1 ⊢
    have h := a2 (j + 1) (by omega) (by omega)
    rw [getL_cons (by omega)] at h
    have e1 : j + 1 - 1 = j := by omega
    have e2 : lenL s.1 - 1 - (j + 1) = lenL s.1 - 1 - 1 - j := by omega
    rw [e1, e2] at h
    rw [h, getL_sub (by omega) (by omega) (by omega), Int.zero_add]
    obtain ⟨p0, p1, _⟩ := I.st (lenL s.1 - 1 - 1 - j) (by omega) (by omega)
    rw [hL _ p0 p1]
  · by_cases hip : i = p
    · subst hip
      have e : up (up s.2 v i) i v i = v := if_pos rfl
      simp only [e] at hlt ⊢
      rw [hx, hL _ i0 q1, h0]
    · have hiv : i ≠ v := fun h => by subst h; unfold Op at hO; omega
      have e : up (up s.2 v p) p v i = s.2 i := (if_neg hip).trans (if_neg hiv)
      simp only [e] at hlt ⊢
      rcases (I.loc i i0 (by omega)).1 hO with h | ⟨h1, h2, _, _⟩
      · omega
      · rw [hL _ (by omega) h2, hL _ i0 (by omega)]
        exact H.lv i i0 (by omega) hO hlt
end

variable {k mt : List Int} {b v : Int} {m m' : Mch}
theorem take_lev (G : Good k mt b v m) (v0 : 0 ≤ v) (hv : v < lenL k) : (∀ i, 0 ≤ i → i < v → getL 0 (takeM m v).frun.fLevels i = getL 0 m.frun.fLevels i) ∧ getL 0 (takeM m v).frun.fLevels v = (lastS m.fopen.fl).flevel := by
  have n1 := G.n1
  constructor
  · intro i i0 i1
    simp only [takeM]
    rw [getL_put v0 i0 (by omega), if_neg (by omega)]
  · simp only [takeM]
    rw [getL_put v0 v0 (by omega), if_pos rfl]
theorem isolateC_run {odd : Bool} : (isolateC m odd).frun = m.frun := by unfold isolateC; split <;> rfl
theorem embedC_run {odd : Bool} {ov : Int} : (embedC m odd ov).frun = m.frun := by
  unfold embedC
  split
  · rfl
  · split <;> rfl
theorem endIso_run : (endIsoM m).frun = m.frun := by
  unfold endIsoM
  split
  · rfl
  · split <;> rfl
theorem endEmb_run : (endEmbM m).frun = m.frun := by
  unfold endEmbM
  split
  · rfl
  · split
    · rfl
    · split <;> rfl

theorem li_step (G : Good k mt b v m) (v0 : 0 ≤ v) (hv : v < lenL k) (H : LI k v (mst k v.toNat) (mlev m) m.frun.fLevels) (hs : StepM k mt b v m m') :
    LI k (v + 1) (mst k (v + 1).toNat) (mlev m') m'.frun.fLevels := by
  obtain ⟨I, _⟩ := mst_inv (l := k) v.toNat (by omega)
  have ev : (v.toNat : Int) = v := by omega
  rw [ev] at I
  rw [mst_next v0]
  generalize mst k v.toNat = s at *
  have n1 := G.n1
  have plain : ∀ {m2 : Mch}, ¬ Op k v → getL 0 k v ≠ 23 → mlev m2 = mlev m → (∀ i, 0 ≤ i → i < v → getL 0 m2.frun.fLevels i = getL 0 m.frun.fLevels i) → LI k (v + 1) (mstep k v s) (mlev m2) m2.frun.fLevels := by
    intro m2 h1 h2 h3 h4
    unfold mstep
    rw [if_neg h1, if_neg h2, h3]
    split
    · exact H.plain I v0 h4 (.inr rfl) h1 hv
    · exact H.plain I v0 h4 (.inl rfl) h1 hv
  have remL : ∀ i, 0 ≤ i → i < v → getL 0 (removeM m v).frun.fLevels i = getL 0 m.frun.fLevels i := fun i i0 i1 => by
    simp only [removeM]
    rw [getL_put v0 i0 (by omega), if_neg (by omega)]
  rcases hs with ⟨⟨h1, h2⟩, c, rfl⟩ | ⟨hO, odd, rfl⟩ | ⟨h23, rfl⟩ | ⟨⟨h1, h2⟩, rfl⟩ | ⟨h11, rfl⟩ | ⟨⟨h1, h2⟩, rfl⟩ | ⟨h1, h2, rfl⟩
  · refine plain h1 h2 ?_ ?_
    · exact mlev_embed G.remove
    · unfold embedM; rw [embedC_run]; exact remL
  · obtain ⟨t1, t2⟩ := take_lev G v0 hv
    unfold isolateM
    rw [mlev_isolate G.take, isolateC_run]
    unfold mstep
    rw [if_pos hO]
    exact H.push I v0 t1 t2
  · obtain ⟨t1, t2⟩ := take_lev G.endIso v0 hv
    rw [endIso_run] at t1
    have hO : ¬ Op k v := by unfold Op; omega
    show LI k (v + 1) (mstep k v s) (mlev (endIsoM m)) (takeM (endIsoM m) v).frun.fLevels
    unfold mstep
    rw [if_neg hO, if_pos h23]
    have a1 := H.a1
    rcases mlev_endIso G with ⟨e1, e2⟩ | e
    · rw [e1] at a1 H
      have hz : ¬ 0 < lenL s.1 := by simp at a1; omega
      rw [if_neg hz, e2]
      exact H.plain I v0 t1 (.inl rfl) hO hv
    · split
      · rename_i hz
        exact H.pop I v0 t1 h23 hz e t2
      · rename_i hz
        have hz : s.1 = [] := by
          cases hh : s.1 with
          | nil => rfl
          | cons a t => rw [hh] at hz; have := lenL_nn t; simp at hz; omega
        have H2 : LI k v s (mlev (endIsoM m)) m.frun.fLevels := ⟨by rw [hz]; exact lenL_nn _, fun j j0 j1 => by rw [hz] at j1; simp at j1; omega, H.lv⟩
        exact H2.plain I v0 t1 (.inl rfl) hO hv
  · refine plain h1 h2 ?_ ?_
    · rw [mlev_endEmb G.remove]; rfl
    · rw [endEmb_run]; exact remL
  · refine plain (by unfold Op; omega) (by omega) rfl (fun i i0 i1 => ?_)
    simp only
    rw [getL_put v0 i0 (by omega), if_neg (by omega)]
  · exact plain h1 h2 rfl remL
  · exact plain h1 h2 rfl (take_lev G v0 hv).1

theorem known_spec {l : List Int} (hb : lenL l ≤ 100000) : Yields (embed_known l) fun k => lenL k = lenL l ∧ ∀ i, 0 ≤ i → i < lenL l → getL 0 k i = if getL 0 l i < 1 ∨ 23 < getL 0 l i then 14 else getL 0 l i := by
  have hn := lenL_nn l
  unfold embed_known
  refine .chk (mkOk hn (by omega) (by omega)) ?_
  refine .cut (fun r => ∃ k, r = .go k ∧ lenL k = lenL l ∧ ∀ i, 0 ≤ i → i < lenL l → getL 0 k i = if getL 0 l i < 1 ∨ 23 < getL 0 l i then 14 else getL 0 l i) ?_ (fun r hr => by obtain ⟨k, rfl, h⟩ := hr; exact .go (.ret h))
  refine .loop (fun x => 0 ≤ x.1 ∧ x.1 ≤ lenL l ∧ lenL x.2 = lenL l ∧ ∀ i, 0 ≤ i → i < x.1 → getL 0 x.2 i = if getL 0 l i < 1 ∨ 23 < getL 0 l i then 14 else getL 0 l i) (fun x => (lenL l - x.1).toNat)
    ⟨by simp only; omega, by simp only; omega, lenL_rep _ hn, fun i h0 h1 => by simp only at h1; omega⟩ ?_
  rintro ⟨v, o⟩ ⟨v0, vn, hl, hg⟩
  simp only at v0 vn hl hg ⊢
  refine .ite (fun h => ?_) (fun h => ?_)
  · have h : v < lenL l := by simpa using h
    refine .chk ⟨v0, h⟩ ?_
    refine .ite (fun h2 => ?_) (fun h2 => ?_)
    · refine .chk ⟨v0, h⟩ (.chk (inR64 (by omega) (by omega)) (.ret ⟨⟨by simp only; omega, by simp only; omega, by simp [hl], fun i i0 i1 => ?_⟩, by simp only; omega⟩))
      simp only at i1 ⊢
      rw [getL_put v0 i0 (by omega)]
      split
      · rename_i he
        rw [he, if_pos]
        by_cases h3 : getL 0 l v < 1
        · exact .inl h3
        · simp [h3] at h2; exact .inr h2
      · exact hg i i0 (by omega)
    · refine .chk ⟨v0, h⟩ (.chk (inR64 (by omega) (by omega)) (.ret ⟨⟨by simp only; omega, by simp only; omega, by simp [hl], fun i i0 i1 => ?_⟩, by simp only; omega⟩))
      simp only at i1 ⊢
      rw [getL_put v0 i0 (by omega)]
      split
      · rename_i he
        rw [he, if_neg]
        by_cases h3 : getL 0 l v < 1
        · simp [h3] at h2
        · simp [h3] at h2; omega
      · exact hg i i0 (by omega)
  · have h : lenL l ≤ v := by simpa using h
    have e : v = lenL l := by omega
    subst e
    exact .ret ⟨o, rfl, hl, hg⟩

theorem parity_spec (base : Int) : Yields (embed_parity base) fun b => 0 ≤ b ∧ b ≤ 1 := by
  unfold embed_parity
  refine .chk (by decide) (.ret ?_)
  have h0 : 0 ≤ imaxI base 0 := by unfold imaxI; split <;> omega
  exact ⟨Int.tmod_nonneg _ h0, by have := Int.tmod_lt_of_pos (imaxI base 0) (show (0 : Int) < 2 by omega); omega⟩

/-- What the law needs of the run. -/
structure RunP (l : List Int) (r : T_embed_Run) : Prop where
  n1 : lenL r.fLevels = lenL l
  n2 : lenL r.fClasses = lenL l
  n3 : lenL r.fRemoved = lenL l
  lv : ∀ i, 0 ≤ i → i < lenL l → Op l i → (mst l (lenL l).toNat).2 i < lenL l → getL 0 r.fLevels ((mst l (lenL l).toNat).2 i) = getL 0 r.fLevels i

theorem explicit_run {l : List Int} (base : Int) (hb : lenL l ≤ 100000) : Yields (embed_Explicit l base) (RunP l) := by
  have hn := lenL_nn l
  obtain ⟨k, hk, hkl, hkg⟩ := known_spec hb
  obtain ⟨b, hp, hb0⟩ := parity_spec base
  have hkc : ∀ i, 0 ≤ i → i < lenL l → (Op l i ↔ Op k i) ∧ (getL 0 l i = 23 ↔ getL 0 k i = 23) ∧ (getL 0 l i = 11 ↔ getL 0 k i = 11) := fun i i0 i1 => by
    have := hkg i i0 i1
    unfold Op
    split at this <;> refine ⟨?_, ?_, ?_⟩ <;> omega
  have hmst : mst l (lenL l).toNat = mst k (lenL l).toNat := mst_congr hkl.symm hkc _ (by omega)
  refine (explicit_rule hk (by omega) hp hb0 (fun mt v m => LI k v (mst k v.toNat) (mlev m) m.frun.fLevels) (fun mt => ?_) (fun mt v m m' v0 v1 G H hs => li_step G v0 v1 H hs)).mono ?_
  · exact ⟨lenL_nn _, fun j j0 j1 => by simp [mst] at j1; omega, fun i i0 i1 => by omega⟩
  · rintro r ⟨mt, m, rfl, G, H⟩
    rw [hkl] at H
    refine ⟨by rw [G.n1, hkl], by rw [G.n2, hkl], by rw [G.n3, hkl], fun i i0 i1 hO hlt => ?_⟩
    rw [hmst] at hlt ⊢
    exact H.lv i i0 i1 ((hkc i i0 i1).1.1 hO) (by rw [hkl]; exact hlt)
end Go.Vx
