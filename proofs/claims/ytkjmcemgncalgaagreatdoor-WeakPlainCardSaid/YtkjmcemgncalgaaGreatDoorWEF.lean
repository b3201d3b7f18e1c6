/- Part of a proof; no conditions of its own. -/
import Derived.Test.YtkjmcemgncalgaaGreatDoorWE1
set_option linter.all false
namespace Go.Vx
set_option maxRecDepth 100000
def Flat (l : List Int) : Prop := ∀ i, 0 ≤ i → i < lenL l → 1 ≤ getL 0 l i ∧ getL 0 l i ≤ 14
def wnt (l : List Int) : Nat → List Int
 | 0 => []
 | n + 1 => if getL 0 l n = 10 then wnt l n else wnt l n ++ [(n : Int)]
theorem wnt_rng {l : List Int} {n : Nat} : ∀ {i : Int}, 0 ≤ i → i < lenL (wnt l n) → 0 ≤ getL 0 (wnt l n) i ∧ getL 0 (wnt l n) i < n := by
 induction n with
 | zero => intro i h0 h1; simp [wnt] at h1; omega
 | succ n ih =>
  intro i h0 h1
  unfold wnt at h1 ⊢
  split at h1
  · rename_i h
    rw [if_pos h]
    have := ih h0 h1
    omega
  · rename_i h
    rw [if_neg h, getL_app h0]
    rw [lenL_app] at h1
    split
    · rename_i h2
      have := ih h0 h2
      omega
    · rename_i h2
      have e : i - lenL (wnt l n) = 0 := by simp at h1; omega
      rw [e]
      simp only [getL_zero]
      omega
theorem wnt_len {l : List Int} {n : Nat} : lenL (wnt l n) ≤ n := by
 induction n with
 | zero => simp [wnt]
 | succ n ih =>
  unfold wnt
  split
  · omega
  · simp; omega
theorem wnt_step {l : List Int} {v : Int} (v0 : 0 ≤ v) : wnt l (v + 1).toNat = if getL 0 l v = 10 then wnt l v.toNat else wnt l v.toNat ++ [v] := by
 have e : (v + 1).toNat = v.toNat + 1 := by omega
 have e2 : (v.toNat : Int) = v := by omega
 rw [e]
 unfold wnt
 rw [e2]
 cases v.toNat <;> rfl
theorem known_flat {l : List Int} (hb : lenL l ≤ 100000) (hf : Flat l) : embed_known l = some l := by
 have hn := lenL_nn l
 refine Yields.eq ?_
 unfold embed_known
 refine .chk (mkOk hn (by omega) (by omega)) ?_
 refine .cut (fun r => r = .go l) ?_ (fun r hr => by subst hr; exact .go (.ret rfl))
 refine .loop (fun x => 0 ≤ x.1 ∧ x.1 ≤ lenL l ∧ lenL x.2 = lenL l ∧ ∀ i, 0 ≤ i → i < x.1 → getL 0 x.2 i = getL 0 l i) (fun x => (lenL l - x.1).toNat)
  ⟨by simp only; omega, by simp only; omega, lenL_rep _ hn, fun i h0 h1 => by simp only at h1; omega⟩ ?_
 rintro ⟨v, o⟩ ⟨v0, vn, hl, hg⟩
 simp only at v0 vn hl hg ⊢
 refine .ite (fun h => ?_) (fun h => ?_)
 · have h : v < lenL l := by simpa using h
   obtain ⟨c0, c1⟩ := hf v v0 h
   refine .chk ⟨v0, h⟩ ?_
   refine .ite (fun h2 => ?_) (fun _ => ?_)
   · simp at h2; omega
   · refine .chk ⟨v0, h⟩ (.chk (inR64 (by omega) (by omega)) (.ret ⟨⟨by simp only; omega, by simp only; omega, by simp [hl], fun i i0 i1 => ?_⟩, by simp only; omega⟩))
     simp only at i1 ⊢
     rw [getL_put v0 i0 (by omega)]
     split
     · rename_i he; rw [he]
     · exact hg i i0 (by omega)
 · have h : lenL l ≤ v := by simpa using h
   have e : v = lenL l := by omega
   subst e
   refine .ret ?_
   have : o = l := extL 0 hl fun i i0 i1 => hg i i0 (by omega)
   rw [this]
   exact rfl
theorem parity_flat {b : Int} (hb : b = 0 ∨ b = 1) : embed_parity b = some b := by
 unfold embed_parity
 rw [chk_ok (by decide)]
 rcases hb with rfl | rfl <;> decide
theorem ss_last_one (s : T_embed_status) : ss_last ⟨[s]⟩ = some s := by
 unfold ss_last
 rw [chk_ok (inR64 (by simp) (by simp)), chk_ok (by simp)]
 rfl
theorem take_flat {l mt : List Int} {b : Int} {o8 o9 : List Int} {o10 : List Bool} {i : Int} (i0 : 0 ≤ i) (i1 : i < lenL o8) :
  m_take ⟨l, mt, b, ⟨o8, o9, o10⟩, ⟨[⟨b, 14, false⟩]⟩, 0, 0, 0⟩ i = some ⟨l, mt, b, ⟨setL o8 i b, o9, o10⟩, ⟨[⟨b, 14, false⟩]⟩, 0, 0, 0⟩ := by
 unfold m_take
 simp only [ss_last_one]
 show (chk _ _) = _
 rw [chk_ok ⟨i0, i1⟩]
 rfl
theorem remove_flat {l mt : List Int} {b : Int} {o8 o9 : List Int} {o10 : List Bool} {i : Int} (i0 : 0 ≤ i) (i1 : i < lenL o8) (i2 : i < lenL o10) :
  m_remove ⟨l, mt, b, ⟨o8, o9, o10⟩, ⟨[⟨b, 14, false⟩]⟩, 0, 0, 0⟩ i = some ⟨l, mt, b, ⟨setL o8 i b, o9, setL o10 i true⟩, ⟨[⟨b, 14, false⟩]⟩, 0, 0, 0⟩ := by
 unfold m_remove
 simp only [ss_last_one]
 show (chk _ _) = _
 rw [chk_ok ⟨i0, i1⟩, chk_ok ⟨i0, i2⟩]
structure FlatRun (l : List Int) (b : Int) (r : T_embed_Run) : Prop where
 n1 : lenL r.fLevels = lenL l
 lv : ∀ i, 0 ≤ i → i < lenL l → getL 0 r.fLevels i = b
 cl : r.fClasses = l
 n3 : lenL r.fRemoved = lenL l
 rm : ∀ i, 0 ≤ i → i < lenL l → getL false r.fRemoved i = decide (getL 0 l i = 10)
theorem explicit_flat {l : List Int} {b : Int} (hn2 : lenL l ≤ 100000) (hf : Flat l) (hb : b = 0 ∨ b = 1) : Yields (embed_Explicit l b) (FlatRun l b) := by
 have hn := lenL_nn l
 unfold embed_Explicit
 refine .cut (fun r => ∃ mt, r = .go (l, l, mt, b, repL (lenL l) 0, l, repL (lenL l) false, [])) ?_ ?_
 · refine .call (known_flat hn2 hf) ?_
   refine .bind _ (match_yields hn2) fun mt _ => ?_
   refine .call (parity_flat hb) ?_
   refine .chk (mkOk hn (by omega) (by omega)) (.chk (grOk hn (by omega) (by omega)) (.chk (mkOk hn (by omega) (by omega)) (.ret ⟨mt, rfl⟩)))
 rintro r ⟨mt, rfl⟩
 refine .go ?_
 refine .call (b := ⟨[⟨b, 14, false⟩]⟩) (by unfold ss_push; rw [chk_ok (grOk (by simp) (by simp) (by omega))]; rfl) ?_
 refine .cut (fun r => ∃ A B x y z w L R C S, r = .go (A, B, x, y, z, w, L, C, R, S) ∧ FlatRun l b ⟨L, C, R⟩) ?_ (by
  rintro r ⟨A, B, x, y, z, w, L, R, C, S, rfl, h⟩
  exact .go (.ret h))
 refine .loop (fun (v1, A, B, x, y, z, w, L, C, R, S) => 0 ≤ v1 ∧ v1 ≤ lenL l ∧ A = l ∧ x = b ∧ y = 0 ∧ z = 0 ∧ w = 0 ∧ lenL L = lenL l ∧ (∀ i, 0 ≤ i → i < v1 → getL 0 L i = b) ∧ C = l ∧ lenL R = lenL l ∧ (∀ i, 0 ≤ i → i < lenL l → getL false R i = if i < v1 then decide (getL 0 l i = 10) else false) ∧ S = [⟨b, 14, false⟩]) (fun x => (lenL l - x.1).toNat)
  ⟨by omega, hn, rfl, rfl, rfl, rfl, rfl, lenL_rep _ hn, fun i h0 h1 => by omega, rfl, lenL_rep _ hn, fun i h0 h1 => by rw [if_neg (by omega)]; exact getL_rep h0 h1, rfl⟩ ?_
 rintro ⟨v, A, B, x, y, z, w, L, C, R, S⟩ ⟨v0, vn, rfl, rfl, rfl, rfl, rfl, n1, lv, rfl, n3, rm, rfl⟩
 refine .ite (fun h => ?_) (fun h => ?_)
 · have h : v < lenL C := by simpa using h
   obtain ⟨c0, c1⟩ := hf v v0 h
   refine .cut (fun r => ∃ L' R', r = .go (C, B, x, 0, 0, 0, L', C, R', [⟨x, 14, false⟩]) ∧ L' = setL L v x ∧ R' = (if getL 0 C v = 10 then setL R v true else R)) ?_ ?_
   · refine .chk ⟨v0, h⟩ ?_
     refine .cut (fun r => r = .go false) ?_ ?_
     · refine .ite (fun hh => by simp at hh; omega) (fun _ => .ite (fun hh => by simp at hh; omega) (fun _ => .ite (fun hh => by simp at hh; omega) (fun _ => .ret ?_)))
       have : (getL 0 C v == 16) = false := by simp; omega
       rw [this]
     rintro r rfl
     refine .go (.ite (fun hh => by cases hh) (fun _ => ?_))
     refine .cut (fun r => r = .go false) ?_ ?_
     · refine .ite (fun hh => by simp at hh; omega) (fun _ => .ite (fun hh => by simp at hh; omega) (fun _ => .ret ?_))
       have : (getL 0 C v == 22) = false := by simp; omega
       rw [this]
     rintro r rfl
     refine .go (.ite (fun hh => by cases hh) (fun _ => ?_))
     refine .ite (fun hh => by simp at hh; omega) (fun _ => .ite (fun hh => by simp at hh; omega) (fun _ => ?_))
     refine .ite (fun hh => ?_) (fun _ => .ite (fun hh => ?_) (fun hh => ?_))
     · refine .chk ⟨v0, by omega⟩ (.ret ⟨_, _, rfl, rfl, ?_⟩)
       rw [if_neg (by simp at hh; omega)]
     · refine .call (remove_flat v0 (by omega) (by omega)) (.ret ⟨_, _, rfl, rfl, ?_⟩)
       rw [if_pos (by simpa using hh)]
     · refine .call (take_flat v0 (by omega)) (.ret ⟨_, _, rfl, rfl, ?_⟩)
       rw [if_neg (by simpa using hh)]
   · rintro r ⟨L', R', rfl, rfl, rfl⟩
     refine .go (.chk (inR64 (by omega) (by omega)) (.ret ⟨⟨by omega, by omega, rfl, rfl, rfl, rfl, rfl, by simp [n1], fun i i0 i1 => ?_, rfl, ?_, fun i i0 i1 => ?_, rfl⟩, by simp only; omega⟩))
     · rw [getL_put v0 i0 (by omega)]
       split
       · rfl
       · exact lv i i0 (by omega)
     · split <;> simp [n3]
     · by_cases he : i = v
       · subst he
         rw [if_pos (show i < i + 1 by omega)]
         by_cases h10 : getL 0 C i = 10
         · rw [if_pos h10, getL_put v0 i0 (by omega), if_pos rfl]; simp [h10]
         · rw [if_neg h10, rm i i0 i1, if_neg (show ¬ i < i by omega)]; simp [h10]
       · have e1 : getL false (if getL 0 C v = 10 then setL R v true else R) i = getL false R i := by
          split
          · rw [getL_put v0 i0 (by omega), if_neg he]
          · rfl
         rw [e1, rm i i0 i1]
         by_cases hh : i < v
         · rw [if_pos hh, if_pos (by omega)]
         · rw [if_neg hh, if_neg (by omega)]
 · have h : lenL C ≤ v := by simpa using h
   have e : v = lenL C := by omega
   subst e
   exact .ret ⟨_, _, _, _, _, _, _, _, _, _, rfl, n1, lv, rfl, n3, fun i i0 i1 => by rw [rm i i0 i1, if_pos i1]⟩
def oneS (W : List Int) : List (List Int) := if lenL W = 0 then [] else [W]
theorem runs_flat {l : List Int} {b : Int} {r : T_embed_Run} (hn2 : lenL l ≤ 100000) (F : FlatRun l b r) : embed_runs r = some (oneS (wnt l (lenL l).toNat)) := by
 have hn := lenL_nn l
 refine Yields.eq ?_
 unfold embed_runs
 refine .cut (fun q => q = .go (oneS (wnt l (lenL l).toNat))) ?_ (fun q hq => by subst hq; exact .go (.ret rfl))
 refine .loop (fun x => 0 ≤ x.1 ∧ x.1 ≤ lenL l ∧ x.2 = oneS (wnt l x.1.toNat)) (fun x => (lenL l - x.1).toNat) ⟨by simp only; omega, hn, rfl⟩ ?_
 rintro ⟨v, out⟩ ⟨v0, vn, he⟩
 simp only at v0 vn he ⊢
 subst he
 refine .ite (fun h => ?_) (fun h => ?_)
 · have h : v < lenL r.fRemoved := by simpa using h
   have h' : v < lenL l := by rw [← F.n3]; exact h
   have ws := wnt_step (l := l) v0
   refine .chk ⟨v0, h⟩ ?_
   rw [F.rm v v0 h']
   refine .ite (fun hg => ?_) (fun hg => ?_)
   · have hg : getL 0 l v = 10 := by simpa using hg
     rw [if_pos hg] at ws
     exact .chk (inR64 (by omega) (by omega)) (.ret ⟨⟨by simp only; omega, by simp only; omega, by simp only [ws]⟩, by simp only; omega⟩)
   · have hg : ¬ getL 0 l v = 10 := by simpa using hg
     rw [if_neg hg] at ws
     have wl := wnt_len (l := l) (n := v.toNat)
     have wn := lenL_nn (wnt l v.toNat)
     by_cases hW : lenL (wnt l v.toNat) = 0
     · have e : oneS (wnt l v.toNat) = [] := if_pos hW
       have eW : wnt l v.toNat = [] := by
        cases hx : wnt l v.toNat with
        | nil => rfl
        | cons a t => rw [hx] at hW; have := lenL_nn t; simp at hW; omega
       rw [e]
       refine .chk (fun hh => by simp at hh) (.chk (fun hh => by simp at hh) (.chk (fun hh => by simp at hh) (.chk (fun hh => by simp at hh) (.chk (fun hh => by simp at hh) ?_))))
       refine .ite (fun _ => ?_) (fun hh => by simp at hh)
       refine .chk (grOk (by simp) (by simp) (by omega)) (.chk (inR64 (by omega) (by omega)) (.ret ⟨⟨by simp only; omega, by simp only; omega, ?_⟩, by simp only; omega⟩))
       simp only
       rw [ws, eW]
       rfl
     · have e : oneS (wnt l v.toNat) = [wnt l v.toNat] := if_neg hW
       have hr := wnt_rng (l := l) (n := v.toNat) (i := 0) (by omega) (by omega)
       rw [e]
       generalize hw : wnt l v.toNat = W at *
       have l1 : lenL [W] = 1 := by simp
       have g1 : getL [] [W] (lenL [W] - 1) = W := by rw [l1]; rfl
       rw [g1]
       simp only [Int.zero_add]
       refine .chk (fun _ => inR64 (by omega) (by omega)) (.chk (fun _ => by omega) (.chk (fun _ => by omega) (.chk (fun _ => by rw [F.n1]; omega) (.chk (fun _ => by rw [F.n1]; omega) ?_))))
       rw [F.lv v v0 h', F.lv _ hr.1 (by omega)]
       refine .ite (fun hh => by simp at hh) (fun _ => ?_)
       refine .chk (inR64 (by omega) (by omega)) (.chk (inR64 (by omega) (by omega)) (.chk (by omega) (.chk (grOk (by omega) (by omega) (by omega)) (.chk (by omega) (.chk (inR64 (by omega) (by omega)) (.ret ⟨⟨by simp only; omega, by simp only; omega, ?_⟩, by simp only; omega⟩))))))
       simp only
       rw [ws]
       have e2 : oneS (W ++ [v]) = [W ++ [v]] := if_neg (by simp; omega)
       rw [e2]
       have e3 : lenL [W] - 1 = 0 := by omega
       rw [e3]
       rfl
 · have h : lenL l ≤ v := by rw [← F.n3]; simpa using h
   have e : v = lenL l := by omega
   subst e
   exact .ret rfl
theorem seq_flat {l : List Int} {b : Int} {r : T_embed_Run} (hn2 : lenL l ≤ 100000) (hf : Flat l) (F : FlatRun l b r) : embed_Sequences l r b = some (oneS (wnt l (lenL l).toNat)) := by
 have hn := lenL_nn l
 refine Yields.eq ?_
 unfold embed_Sequences
 refine .call (b := true) (by unfold embed_fits; simp [F.n1, F.n3, F.cl]) ?_
 refine .ite (fun hh => by cases hh) (fun _ => ?_)
 refine .bind _ (match_yields hn2) fun mt hm => ?_
 have hml := hm.1
 refine .call (runs_flat hn2 F) ?_
 have wl := wnt_len (l := l) (n := (lenL l).toNat)
 have wn := lenL_nn (wnt l (lenL l).toNat)
 have wr := @wnt_rng l (lenL l).toNat
 generalize hw : wnt l (lenL l).toNat = W at *
 have hS : (oneS W = [] ∧ lenL W = 0) ∨ (oneS W = [W] ∧ 0 < lenL W) := by
  unfold oneS
  by_cases h : lenL W = 0
  · exact .inl ⟨if_pos h, h⟩
  · exact .inr ⟨if_neg h, by omega⟩
 generalize hs : oneS W = S at *
 have hSl : lenL S ≤ 1 ∧ 0 ≤ lenL S := by rcases hS with ⟨h, _⟩ | ⟨h, _⟩ <;> rw [h] <;> simp
 have hSg : ∀ k, 0 ≤ k → k < lenL S → k = 0 ∧ getL [] S k = W ∧ 0 < lenL W ∧ S = [W] := fun k k0 k1 => by
  rcases hS with ⟨h, _⟩ | ⟨h, hp⟩
  · rw [h] at k1; simp at k1; omega
  · have : k = 0 := by omega
    subst this
    exact ⟨rfl, by rw [h]; rfl, hp, h⟩
 refine .chk (inR64 (by omega) (by omega)) (.chk (mkOk (by omega) (by omega) (by omega)) ?_)
 refine .cut (fun q => ∃ hd, q = .go hd ∧ lenL hd = lenL l + 1) ?_ ?_
 · refine .loop (fun x => 0 ≤ x.1 ∧ x.1 ≤ lenL l + 1 ∧ lenL x.2 = lenL l + 1) (fun x => (lenL l + 1 - x.1).toNat) ⟨by simp only; omega, by simp only; omega, lenL_rep _ (by omega)⟩ ?_
   rintro ⟨v, hd⟩ ⟨v0, v1, hl⟩
   simp only at v0 v1 hl ⊢
   refine .ite (fun h => ?_) (fun h => .ret ⟨hd, rfl, hl⟩)
   have h : v < lenL l + 1 := by simpa using h
   exact .chk ⟨v0, h⟩ (.chk (inR64 (by omega) (by omega)) (.ret ⟨⟨by simp only; omega, by simp only; omega, by simp [hl]⟩, by simp only; omega⟩))
 rintro q ⟨hd, rfl, hdl⟩
 refine .go ?_
 simp only [Int.zero_add]
 refine .cut (fun q => ∃ hd, q = .go hd ∧ lenL hd = lenL l + 1) ?_ ?_
 · refine .loop (fun x => 0 ≤ x.1 ∧ x.1 ≤ lenL S ∧ lenL x.2 = lenL l + 1) (fun x => (lenL S - x.1).toNat) ⟨by simp only; omega, by simp only; omega, hdl⟩ ?_
   rintro ⟨v, hd⟩ ⟨v0, v1, hl⟩
   simp only at v0 v1 hl ⊢
   refine .ite (fun h => ?_) (fun h => .ret ⟨hd, rfl, hl⟩)
   have h : v < lenL S := by simpa using h
   obtain ⟨_, hg, hp, _⟩ := hSg v v0 h
   have := wr (i := 0) (by omega) hp
   rw [hg]
   exact .chk ⟨v0, h⟩ (.chk ⟨by omega, hp⟩ (.chk ⟨by omega, by omega⟩ (.chk (inR64 (by omega) (by omega)) (.ret ⟨⟨by simp only; omega, by simp only; omega, by simp [hl]⟩, by simp only; omega⟩))))
 rintro q ⟨hd, rfl, hdl⟩
 refine .go ?_
 refine .chk (mkOk (by omega) (by omega) (by omega)) (.chk (mkOk (by omega) (by omega) (by omega)) ?_)
 refine .cut (fun q => ∃ bh jo, q = .go (bh, jo) ∧ (∀ k, 0 ≤ k → k < lenL S → getL 0 bh k = -1 ∧ getL false jo k = false)) ?_ ?_
 · refine .loop (fun x => 0 ≤ x.1 ∧ x.1 ≤ lenL S ∧ lenL x.2.1 = lenL S ∧ (∀ k, 0 ≤ k → k < x.1 → getL 0 x.2.1 k = -1) ∧ x.2.2 = repL (lenL S) false) (fun x => (lenL S - x.1).toNat) ⟨by simp only; omega, by simp only; omega, lenL_rep _ (by omega), fun k k0 k1 => by simp only at k1; omega, rfl⟩ ?_
   rintro ⟨v, bh, jo⟩ ⟨v0, v1, hl, hk, he⟩
   simp only at v0 v1 hl hk he ⊢
   subst he
   refine .ite (fun h => ?_) (fun h => .ret ⟨bh, _, rfl, fun k k0 k1 => ⟨hk k k0 (by simp at h; omega), getL_rep k0 k1⟩⟩)
   have h : v < lenL S := by simpa using h
   obtain ⟨_, hg, hp, _⟩ := hSg v v0 h
   have hr := wr (i := lenL W - 1) (by omega) (by omega)
   have hr1 : getL 0 W (lenL W - 1) < lenL l := by omega
   obtain ⟨c0, c1⟩ := hf _ hr.1 hr1
   rw [hg]
   refine .chk ⟨v0, h⟩ (.chk ⟨v0, h⟩ (.chk (inR64 (by omega) (by omega)) (.chk ⟨by omega, by omega⟩ (.chk ⟨hr.1, hr1⟩ ?_))))
   refine .call (b := false) ?_ ?_
   · unfold embed_isolate
     have e1 : (getL 0 l (getL 0 W (lenL W - 1)) == 20) = false := by simp; omega
     have e2 : (getL 0 l (getL 0 W (lenL W - 1)) == 21) = false := by simp; omega
     have e3 : (getL 0 l (getL 0 W (lenL W - 1)) == 22) = false := by simp; omega
     rw [e1, e2, e3]; rfl
   refine .ite (fun _ => ?_) (fun hh => by cases hh)
   refine .chk (inR64 (by omega) (by omega)) (.ret ⟨⟨by simp only; omega, by simp only; omega, by simp [hl], fun k k0 k1 => ?_, rfl⟩, by simp only; omega⟩)
   simp only at k1 ⊢
   rw [getL_put v0 k0 (by omega)]
   split
   · rfl
   · exact hk k k0 (by omega)
 rintro q ⟨bh, jo, rfl, hbj⟩
 refine .go ?_
 refine .cut (fun q => q = .go S) ?_ (fun q hq => by subst hq; exact .go (.ret rfl))
 refine .loop (fun x => 0 ≤ x.1 ∧ x.1 ≤ lenL S ∧ x.2 = if x.1 = 0 then [] else S) (fun x => (lenL S - x.1).toNat) ⟨by simp only; omega, by simp only; omega, rfl⟩ ?_
 rintro ⟨v, out⟩ ⟨v0, v1, he⟩
 simp only at v0 v1 ⊢
 replace he : out = if v = 0 then [] else S := he
 subst he
 refine .ite (fun h => ?_) (fun h => ?_)
 · have h : v < lenL S := by simpa using h
   obtain ⟨rfl, hg, hp, hSW⟩ := hSg v v0 h
   obtain ⟨hb0, hj0⟩ := hbj 0 v0 h
   rw [if_pos rfl]
   refine .cut (fun q => q = .go S) ?_ ?_
   · refine .chk ⟨v0, h⟩ ?_
     rw [hj0]
     refine .ite (fun hh => by cases hh) (fun _ => ?_)
     refine .cut (fun q => q = .go W) ?_ ?_
     · refine .loop (fun x => (x.1 = 0 ∧ x.2 = []) ∨ (x.1 = -1 ∧ x.2 = W)) (fun x => (x.1 + 1).toNat) (.inl ⟨rfl, rfl⟩) ?_
       rintro ⟨a, s⟩ hh
       simp only at hh ⊢
       rcases hh with ⟨rfl, rfl⟩ | ⟨rfl, rfl⟩
       · refine .ite (fun _ => ?_) (fun hh => by simp at hh)
         rw [hg, hb0]
         refine .chk ⟨v0, h⟩ (.chk (grOk (by simp; omega) (by simp; omega) (by omega)) (.chk ⟨v0, h⟩ (.ret ⟨.inr ⟨rfl, rfl⟩, by simp⟩)))
       · exact .ite (fun hh => by simp at hh) (fun _ => .ret rfl)
     rintro q rfl
     refine .go (.chk (grOk (by simp) (by simp) (by omega)) (.ret ?_))
     rw [hSW]; rfl
   rintro q rfl
   refine .go (.chk (inR64 (by omega) (by omega)) (.ret ⟨⟨by simp only; omega, by simp only; omega, ?_⟩, by simp only; omega⟩))
   rw [if_neg (by simp)]
 · have h : lenL S ≤ v := by simpa using h
   have e : v = lenL S := by omega
   refine .ret ?_
   by_cases h0 : v = 0
   · rw [if_pos h0]
     rcases hS with ⟨h, _⟩ | ⟨h, _⟩
     · rw [h]; exact rfl
     · rw [h] at e; simp at e; omega
   · rw [if_neg h0]; exact rfl
end Go.Vx
