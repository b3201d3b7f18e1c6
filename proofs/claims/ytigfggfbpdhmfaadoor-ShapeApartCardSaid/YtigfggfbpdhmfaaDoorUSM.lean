/- The laws on letters apart, and on marks passed over, hold of the lifted functions. No conditions. -/
import Derived.Test.YtigfggfbpdhmfaaDoorUSK
set_option linter.all false
namespace Go.Vx
set_option maxRecDepth 100000

theorem j32 : joiL 32 = 0 := by kernel_rfl
theorem s32 : shpL 32 0 = 32 := by kernel_rfl
theorem l32 : (32 : Int) ∉ lig4 := by decide
theorem fst32 (x : Int) : fstF x (some 32) = fstF x none := by unfold fstF; dsimp only; rw [j32]; rfl
theorem snd32 (x : Int) : sndF x (some 32) = sndF x none := by unfold sndF; dsimp only; rw [j32]; rfl
theorem lig32 (x : Int) (p : Option Int) : ligS x p (some 32) = ligS x p none := by unfold ligS; dsimp only; rw [if_neg l32]
theorem gv_s32 (x : Int) (p : Option Int) (l : Int) (b : Bool) : gv x p (some 32) l b = gv x p none l b := by unfold gv g1; rw [lig32, snd32]
theorem ligS_p32 (x : Int) (s : Option Int) : ligS x (some 32) s = ligS x none s := by
  unfold ligS
  rw [fst32]
theorem gv_p32 (x : Int) (s : Option Int) (l : Int) (b : Bool) : gv x (some 32) s l b = gv x none s l b := by
  have h1 : ¬ (some (32 : Int) = some 1604 ∧ x ∈ lig4) := by rintro ⟨h, _⟩; exact absurd (Option.some.inj h) (by decide)
  have h2 : ¬ ((none : Option Int) = some 1604 ∧ x ∈ lig4) := by rintro ⟨h, _⟩; cases h
  have h3 : g1 x (some 32) s l b = g1 x none s l b := by unfold g1; rw [fst32]
  unfold gv
  rw [if_neg h1, if_neg h2, ligS_p32, h3]
theorem gv_32 (p s : Option Int) (b : Bool) : gv 32 p s 0 b = 32 := gv_plain j32 s32 (.inl rfl)

theorem drop_left_add (l1 l2 : List Int) (n : Nat) : (l1 ++ l2).drop (l1.length + n) = l2.drop n := by
  rw [← List.drop_drop, List.drop_left]
def allL (a b : List Int) : List Int := (a ++ ([32] : List Int)) ++ b
theorem all_len (a b : List Int) : lenL (allL a b) = lenL a + 1 + lenL b := by unfold allL; rw [lenL_app, lenL_app]; rfl
theorem all_a {a b : List Int} {k : Int} (k0 : 0 ≤ k) (k1 : k < lenL a) : getL 0 (allL a b) k = getL 0 a k := by
  unfold allL
  rw [getL_app k0, lenL_app, show lenL ([32] : List Int) = 1 from rfl, if_pos (by omega), getL_app k0, if_pos k1]
theorem all_m (a b : List Int) : getL 0 (allL a b) (lenL a) = 32 := by
  have := lenL_nn a
  unfold allL
  rw [getL_app this, lenL_app, show lenL ([32] : List Int) = 1 from rfl, if_pos (by omega), getL_app this, if_neg (by omega), show lenL a - lenL a = 0 by omega]; rfl
theorem all_b {a b : List Int} {k : Int} (k0 : 0 ≤ k) : getL 0 (allL a b) (lenL a + 1 + k) = getL 0 b k := by
  have := lenL_nn a
  unfold allL
  rw [getL_app (by omega), lenL_app, show lenL ([32] : List Int) = 1 from rfl, if_neg (by omega)]
  congr 1; omega
theorem prev_a (a b : List Int) : ∀ m : Nat, (m : Int) ≤ lenL a → prevN (allL a b) m = prevN a m
  | 0, _ => rfl
  | m + 1, h => by
    simp only [prevN]
    rw [prev_a a b m (by omega)]
    unfold J
    rw [all_a (by omega) (by omega)]
theorem prev_b (a b : List Int) : ∀ m : Nat, prevN (allL a b) (a.length + 1 + m) = (prevN b m).or (some 32)
  | 0 => by
    show prevN (allL a b) (a.length + 1) = some 32
    have e : getL 0 (allL a b) (a.length : Nat) = 32 := all_m a b
    simp only [prevN]
    unfold J
    rw [e, if_neg (by rw [j32]; decide)]
  | m + 1 => by
    show prevN (allL a b) ((a.length + 1 + m) + 1) = _
    have e : getL 0 (allL a b) ((a.length + 1 + m : Nat) : Int) = getL 0 b (m : Nat) := by
      have := all_b (a := a) (b := b) (k := m) (by omega)
      rw [← this]
      congr 1 <;> (simp only [lenL]; omega)
    simp only [prevN]
    unfold J
    rw [e, prev_b a b m]
    split <;> rfl
theorem next_a {a b : List Int} {k : Int} (k0 : 0 ≤ k) (k1 : k < lenL a) : nextS (allL a b) k = (nextS a k).or (some 32) := by
  unfold nextS allL
  rw [List.append_assoc, List.drop_append_of_le_length (by simp only [lenL] at k1; omega)]
  have e32 : nxt (([32] : List Int) ++ b) = some 32 := by
    show nxt (32 :: b) = some 32
    rw [nxt_cons, if_neg (by rw [j32]; decide)]
  rw [← e32]
  exact List.find?_append
theorem next_b {a b : List Int} {k : Int} (k0 : 0 ≤ k) : nextS (allL a b) (lenL a + 1 + k) = nextS b k := by
  unfold nextS allL
  rw [show (lenL a + 1 + k + 1).toNat = (a ++ ([32] : List Int)).length + (k + 1).toNat by simp [lenL]; omega, drop_left_add]
theorem gv_sor (x : Int) (p s : Option Int) (l : Int) (b : Bool) : gv x p (s.or (some 32)) l b = gv x p s l b := by
  cases s with
  | none => exact gv_s32 x p l b
  | some y => rfl
theorem gv_por (x : Int) (p s : Option Int) (l : Int) (b : Bool) : gv x (p.or (some 32)) s l b = gv x p s l b := by
  cases p with
  | none => exact gv_p32 x s l b
  | some y => rfl
theorem shapeApart_true (a b : List Int) : lapwinglaw20_ShapeApart a b = some true := by
  refine Yields.eq ?_
  unfold lapwinglaw20_ShapeApart
  rw [awake20, bindO_eq]
  refine .ite (fun _ => .ret rfl) (fun hg => ?_)
  have hg : lenL a ≤ 70 ∧ lenL b ≤ 70 := by
    by_cases h1 : 70 < lenL a
    · simp [h1] at hg
    · simp [h1] at hg; exact ⟨by omega, hg⟩
  obtain ⟨ha, hb⟩ := hg
  have a0 := lenL_nn a
  have b0 := lenL_nn b
  rw [load_eq, bindO_eq]
  have hall := all_len a b
  refine .chk (grOk a0 (by omega) (by omega)) (.chk (grOk (by omega) (by omega) (by omega)) (.chk (grOk (by omega) (by omega) (by omega)) (.chk (mkOk (by omega) (by omega) (by omega)) ?_)))
  refine .bind _ (glyphs_spec (r := allL a b) (ls := repL (lenL a + 1 + lenL b) 0) false (by rw [lenL_rep _ (by omega), hall]) (by omega)) fun g ⟨hg, hgv⟩ => ?_
  refine .chk (mkOk a0 (by omega) (by omega)) (.bind _ (glyphs_spec (r := a) (ls := repL (lenL a) 0) false (lenL_rep _ a0) (by omega)) fun x ⟨hx, hxv⟩ => ?_)
  refine .chk (mkOk b0 (by omega) (by omega)) (.bind _ (glyphs_spec (r := b) (ls := repL (lenL b) 0) false (lenL_rep _ b0) (by omega)) fun y ⟨hy, hyv⟩ => ?_)
  rw [show (!((lenL g) == (((lenL a) + 1) + (lenL b)))) = false by simp [hg, hall], iteO_false]
  refine .chk (fun _ => ⟨by omega, by omega, by omega⟩) ?_
  have e1 : subL g (0 + 0) ((0 + 0) + ((lenL a) - 0)) = x := by
    refine extL 0 (by rw [lenL_sub (by omega) (by omega) (by omega), hx]; omega) fun k k0 k1 => ?_
    rw [lenL_sub (by omega) (by omega) (by omega)] at k1
    rw [getL_sub (by omega) k0 (by omega), show (0 : Int) + 0 + k = k by omega, hgv k k0 (by omega), hxv k k0 (by omega)]
    unfold gvAt
    rw [getL_rep k0 (by omega), getL_rep k0 (by omega), all_a k0 (by omega), next_a k0 (by omega), gv_sor]
    unfold prevS
    rw [prev_a a b k.toNat (by omega)]
  have e2 : subL g (0 + ((lenL a) + 1)) ((0 + ((lenL a) + 1)) + ((lenL g) - ((lenL a) + 1))) = y := by
    refine extL 0 (by rw [lenL_sub (by omega) (by omega) (by omega), hy]; omega) fun k k0 k1 => ?_
    rw [lenL_sub (by omega) (by omega) (by omega)] at k1
    rw [getL_sub (by omega) k0 (by omega), show (0 : Int) + (lenL a + 1) + k = lenL a + 1 + k by omega, hgv _ (by omega) (by omega), hyv k k0 (by omega)]
    unfold gvAt
    rw [getL_rep (by omega) (by omega), getL_rep k0 (by omega), all_b k0, next_b k0]
    have : prevS (allL a b) (lenL a + 1 + k) = (prevS b k).or (some 32) := by
      unfold prevS
      rw [← prev_b a b k.toNat]
      congr 1
      simp only [lenL]; omega
    rw [this, gv_por]
  have e3 : getL 0 g (0 + lenL a) = 32 := by
    rw [show (0 : Int) + lenL a = lenL a by omega, hgv _ a0 (by omega)]
    unfold gvAt
    rw [getL_rep a0 (by omega), all_m, gv_32]
  rw [e1, e2, e3]
  rw [if_pos rfl, ints_self x (by omega), bindO_eq]
  refine .chk (fun _ => inR64 (by omega) (by omega)) (.chk (fun _ => ⟨by omega, by omega, by omega⟩) ?_)
  simp only [if_true]
  rw [ints_self y (by omega), bindO_eq]
  refine .chk (fun _ => ⟨by omega, by omega⟩) (.ret ?_)
  simp

/-! Marks between letters. -/
def fil (l : List Int) : List Int := l.filter (fun x => !(joiL x == 4))
theorem fil_cons (x : Int) (l : List Int) : fil (x :: l) = if joiL x = 4 then fil l else x :: fil l := by
  unfold fil
  rw [List.filter_cons]
  by_cases h : joiL x = 4
  · simp [h]
  · simp [h]
theorem nxt_fil : ∀ l : List Int, nxt (fil l) = nxt l
  | [] => rfl
  | x :: l => by
    rw [fil_cons, nxt_cons]
    split
    · exact nxt_fil l
    · rename_i h
      rw [nxt_cons, if_neg h]
theorem fil_len (l : List Int) : lenL (fil l) ≤ lenL l := by
  have := List.length_filter_le (fun x => !(joiL x == 4)) l
  simp only [lenL, fil]; omega
theorem take_get {l : List Int} {i : Int} (h0 : 0 ≤ i) (h1 : i < lenL l) : l.take (i + 1).toNat = l.take i.toNat ++ [getL 0 l i] := by
  have h : i.toNat < l.length := by simp only [lenL] at h1; omega
  rw [show (i + 1).toNat = i.toNat + 1 by omega, List.take_succ_eq_append_getElem h]
  obtain ⟨h', e⟩ := getL_eq (d := (0 : Int)) h0 h1
  rw [e]
theorem fil_app (l : List Int) (x : Int) : fil (l ++ [x]) = if joiL x = 4 then fil l else fil l ++ [x] := by
  unfold fil
  rw [List.filter_append]
  by_cases h : joiL x = 4
  · simp [h]
  · simp [h]
theorem gv_mark {x : Int} {p s : Option Int} {b : Bool} (hj : joiL x = 4) : gv x p s 0 b = x := by
  have h4 : x ∉ lig4 := fun h => by rw [lig4_join h] at hj; cases hj
  have hl : x ≠ 1604 := fun h => by rw [h, lam_join] at hj; cases hj
  unfold gv ligS
  rw [if_neg (fun h => h4 h.2), if_neg hl]
  show g1 x p s 0 b = x
  have hf : frmV (fstF x p) (sndF x s) = 0 := by
    unfold fstF sndF
    rw [hj]; rfl
  have hs : shpL x 0 = x := by
    rcases shpL_mem x with h | ⟨f, f1, f2, f3⟩
    · exact h 0
    · exfalso
      have := allI (show (ldForms.all fun f => !(joiL f.fR == 4)) = true by kernel_rfl) f f1
      rw [f2, hj] at this
      cases this
  unfold g1 Mir
  rw [hf, if_pos hs, if_pos (.inl rfl)]
theorem shapePass_true (r : List Int) : lapwinglaw20_ShapePass r = some true := by
  refine Yields.eq ?_
  unfold lapwinglaw20_ShapePass
  rw [awake20, bindO_eq]
  refine .ite (fun _ => .ret rfl) (fun hg => ?_)
  have hr : lenL r ≤ 100 := by simpa using hg
  have r0 := lenL_nn r
  rw [load_eq, bindO_eq]
  refine .cut (fun o => o = .go (fil r)) ?_ ?_
  · refine .loop (fun x => 0 ≤ x.1 ∧ x.1 ≤ lenL r ∧ x.2 = fil (r.take x.1.toNat)) (fun x => (lenL r - x.1).toNat) ⟨by dsimp only; omega, r0, rfl⟩ ?_
    rintro ⟨i, t⟩ ⟨i0, i1, ht⟩
    dsimp only at i0 i1 ht ⊢
    have htl : lenL t ≤ lenL r := by
      have := fil_len (r.take i.toNat)
      rw [ht]
      have h2 : lenL (r.take i.toNat) ≤ lenL r := by simp only [lenL, List.length_take]; omega
      omega
    refine .ite (fun h => ?_) (fun h => ?_)
    · have h : i < lenL r := by simpa using h
      refine .chk ⟨i0, h⟩ (.call (join_L _) (.ite (fun hc => ?_) (fun hc => ?_)))
      · refine .chk ⟨i0, h⟩ (.chk (grOk (by have := lenL_nn t; omega) (by omega) (by omega)) (.chk (inR64 (by omega) (by omega)) (.ret ⟨⟨by dsimp only; omega, by dsimp only; omega, ?_⟩, by dsimp only; omega⟩)))
        dsimp only
        rw [take_get i0 h, fil_app, if_neg (by simpa using hc), ht]
      · refine .chk (inR64 (by omega) (by omega)) (.ret ⟨⟨by dsimp only; omega, by dsimp only; omega, ?_⟩, by dsimp only; omega⟩)
        dsimp only
        rw [take_get i0 h, fil_app, if_pos (by simpa using hc), ht]
    · have h : ¬ i < lenL r := by simpa using h
      refine .ret (show Fl.go t = Fl.go (fil r) from ?_)
      rw [ht, List.take_of_length_le (by simp only [lenL] at h; omega)]
  · rintro o rfl
    refine .go ?_
    have hfl := fil_len r
    have f0 := lenL_nn (fil r)
    refine .chk (mkOk r0 (by omega) (by omega)) (.bind _ (glyphs_spec (r := r) (ls := repL (lenL r) 0) false (lenL_rep _ r0) (by omega)) fun g ⟨hg, hgv⟩ => ?_)
    refine .chk (mkOk f0 (by omega) (by omega)) (.bind _ (glyphs_spec (r := fil r) (ls := repL (lenL (fil r)) 0) false (lenL_rep _ f0) (by omega)) fun x ⟨hx, hxv⟩ => ?_)
    rw [show (if (!((lenL g) == (lenL r))) = true then true else (!((lenL x) == (lenL (fil r))))) = false by simp [hg, hx], iteO_false]
    refine .cut (fun o => o = .go ()) ?_ ?_
    · refine .loop (fun y => 0 ≤ y.2 ∧ y.2 ≤ lenL r ∧ 0 ≤ y.1 ∧ y.1 ≤ lenL (fil r) ∧ (fil r).drop y.1.toNat = fil (r.drop y.2.toNat) ∧ prevN r y.2.toNat = prevN (fil r) y.1.toNat) (fun y => (lenL r - y.2).toNat) ⟨by dsimp only; omega, r0, by dsimp only; omega, f0, rfl, rfl⟩ ?_
      rintro ⟨k, i⟩ ⟨i0, i1, k0, k1, hd, hp⟩
      dsimp only at i0 i1 k0 k1 hd hp ⊢
      simp only [show ∀ x : Int, 0 + x = x from fun x => by omega]
      refine .ite (fun h => ?_) (fun h => .ret rfl)
      have h : i < lenL r := by simpa using h
      rw [drop_get 0 i0 h, fil_cons] at hd
      have hpn : prevN r (i + 1).toNat = if joiL (getL 0 r i) = 4 then prevN r i.toNat else some (getL 0 r i) := by
        rw [show (i + 1).toNat = i.toNat + 1 by omega]
        simp only [prevN]
        rw [show ((i.toNat : Nat) : Int) = i by omega]; rfl
      refine .chk ⟨i0, h⟩ (.call (join_L _) (.ite (fun hc => ?_) (fun hc => ?_)))
      · have hc : joiL (getL 0 r i) = 4 := by simpa using hc
        rw [if_pos hc] at hd hpn
        refine .chk ⟨i0, by omega⟩ (.chk ⟨i0, h⟩ ?_)
        have : getL 0 g i = getL 0 r i := by
          rw [hgv i i0 h]
          unfold gvAt
          rw [getL_rep i0 h, gv_mark hc]
        rw [this, show (!((getL 0 r i) == (getL 0 r i))) = false by simp, iteO_false]
        exact .chk (inR64 (by omega) (by omega)) (.ret ⟨⟨by dsimp only; omega, by dsimp only; omega, k0, k1, hd, hpn.trans hp⟩, by dsimp only; omega⟩)
      · have hc : ¬ joiL (getL 0 r i) = 4 := by simpa using hc
        rw [if_neg hc] at hd hpn
        have hk : k < lenL (fil r) := by
          by_cases h' : k < lenL (fil r)
          · exact h'
          · rw [drop_end h'] at hd; cases hd
        rw [drop_get 0 k0 hk] at hd
        obtain ⟨hd1, hd2⟩ := List.cons.inj hd
        refine .chk ⟨i0, by omega⟩ (.chk ⟨k0, by omega⟩ ?_)
        have : getL 0 g i = getL 0 x k := by
          rw [hgv i i0 h, hxv k k0 hk]
          unfold gvAt
          rw [getL_rep i0 h, getL_rep k0 hk, hd1]
          have e1 : prevS r i = prevS (fil r) k := hp
          have e2 : nextS r i = nextS (fil r) k := by
            unfold nextS
            rw [hd2, nxt_fil]
          rw [e1, e2]
        rw [this, show (!((getL 0 x k) == (getL 0 x k))) = false by simp, iteO_false]
        refine .chk (inR64 (by omega) (by omega)) (.chk (inR64 (by omega) (by omega)) (.ret ⟨⟨by dsimp only; omega, by dsimp only; omega, by dsimp only; omega, by dsimp only; omega, hd2, ?_⟩, by dsimp only; omega⟩))
        dsimp only
        rw [hpn, show (k + 1).toNat = k.toNat + 1 by omega]
        simp only [prevN]
        have hJ : ¬ J (fil r) k = 4 := by unfold J; rw [hd1]; exact hc
        rw [show ((k.toNat : Nat) : Int) = k by omega, if_neg hJ, hd1]
    · rintro o rfl
      exact .go (.ret rfl)
end Go.Vx
