/- WeakPlain, as a plain law: no conditions. -/
import Derived.Test.YtkjmcemgncalgaaGreatDoorWLr
import Derived.Test.YtkjmcemgncalgaaGreatDoorWEF
set_option linter.all false
namespace Go.Vx
open Go.Proofs
set_option maxRecDepth 100000
theorem implicit_0 {c : Int} (h : c ≠ 2 ∧ c ≠ 4 ∧ c ≠ 7) : weak_Implicit c 0 = some 0 := by
 have e : bndI .i64 0 1 = 0 := by
  have h2 : bndI .i64 0 1 = 0 % 2 := bnd_mask 0 1 (by omega)
  omega
 unfold weak_Implicit
 refine Yields.eq ?_
 rw [e]
 refine .ite (fun hh => by cases hh) (fun _ => .ite (fun hh => ?_) (fun _ => .ite (fun hh => ?_) (fun _ => .ret rfl)))
 · exfalso
   have : c = 2 := by simpa using hh
   omega
 · exfalso
   have : c = 4 ∨ c = 7 := by simpa using hh
   omega
theorem base_flat {l : List Int} (hb : lenL l ≤ 100000) (h : ∀ i, 0 ≤ i → i < lenL l → 1 ≤ getL 0 l i ∧ getL 0 l i ≤ 14 ∧ getL 0 l i ≠ 2 ∧ getL 0 l i ≠ 3) : Yields (embed_Base l) (fun b => b = 0) := by
 have hn := lenL_nn l
 unfold embed_Base
 refine .bind _ (match_yields hb) fun mt hm => ?_
 refine .bind (fun b => b = 0) ?_ (fun b hb => .ret hb)
 unfold embed_base_
 refine .cut (fun q => q = .out 0 ∨ q = .go ()) ?_ (fun q hq => ?_)
 · refine .loop (fun i => 0 ≤ i ∧ i ≤ lenL l) (fun i => (lenL l - i).toNat) ⟨by omega, hn⟩ ?_
   rintro i ⟨i0, i1⟩
   refine .ite (fun hi => ?_) (fun _ => .ret (.inr rfl))
   have hi : i < lenL l := by simpa using hi
   have hc := h i i0 hi
   refine .cut (fun q => q = .out (.out (.out 0)) ∨ q = .go i) ?_ (fun q hq => ?_)
   · refine .chk ⟨i0, hi⟩ ?_
     generalize getL 0 l i = c at hc
     refine .cut (fun q => ∃ b, q = .go b) (.ite (fun _ => .ret ⟨_, rfl⟩) (fun _ => .ret ⟨_, rfl⟩)) ?_
     rintro q ⟨b, rfl⟩
     refine .go (.ite (fun _ => .ret (.inl rfl)) (fun _ => ?_))
     refine .cut (fun q => q = .go false) (.ite (fun hh => absurd (show c = 2 by simpa using hh) hc.2.2.1) (fun _ => .ret ?_)) ?_
     · congr 1
       have : ¬ c = 3 := hc.2.2.2
       simpa using this
     rintro q rfl
     refine .go (.ite (fun hh => by cases hh) (fun _ => ?_))
     have n20 : ¬ c = 20 := by omega
     have n21 : ¬ c = 21 := by omega
     have n22 : ¬ c = 22 := by omega
     exact .ite (fun hh => absurd (by simpa using hh) n20) (fun _ => .ite (fun hh => absurd (by simpa using hh) n21) (fun _ => .ite (fun hh => absurd (by simpa using hh) n22) (fun _ => .ret (.inr rfl))))
   · rcases hq with rfl | rfl
     · exact .out (.inl rfl)
     · exact .go (.chk (inR64 (by omega) (by omega)) (.ret ⟨⟨by omega, by omega⟩, by simp only; omega⟩))
 · rcases hq with rfl | rfl
   · exact .out rfl
   · exact .go (.ret rfl)
theorem levels_plain {r l : List Int} (hb : lenL l ≤ 100000) (hr : lenL r = lenL l) (h : ∀ i, 0 ≤ i → i < lenL l → 1 ≤ getL 0 l i ∧ getL 0 l i ≤ 14 ∧ getL 0 l i ≠ 2 ∧ getL 0 l i ≠ 3 ∧ getL 0 l i ≠ 7) :
  Yields (weak_levels dLoad r l 0) (fun o => lenL o = lenL l ∧ ∀ i, 0 ≤ i → i < lenL l → getL 0 o i = 0) := by
 have hn := lenL_nn l
 have hf : Flat l := fun i i0 i1 => by have := h i i0 i1; omega
 obtain ⟨R, hE, F⟩ := explicit_flat hb hf (.inl rfl : (0 : Int) = 0 ∨ (0 : Int) = 1)
 have hS := seq_flat hb hf F
 have wl := wnt_len (l := l) (n := (lenL l).toNat)
 have wr := fun {i : Int} (h0 : 0 ≤ i) (h1 : i < lenL (wnt l (lenL l).toNat)) => wnt_rng (l := l) (n := (lenL l).toNat) h0 h1
 have ev : ((lenL l).toNat : Int) = lenL l := by omega
 rw [ev] at wl
 generalize wnt l (lenL l).toNat = W at hS wl wr
 have wn := lenL_nn W
 have one : ∀ k, 0 ≤ k → k < lenL (oneS W) → 0 < lenL W ∧ getL [] (oneS W) k = W := fun k k0 k1 => by
  unfold oneS at k1 ⊢
  split at k1
  · simp at k1; omega
  · rename_i hw
    rw [if_neg hw]
    have : k = 0 := by simp at k1; omega
    subst this
    exact ⟨by omega, rfl⟩
 have sl : lenL (oneS W) ≤ lenL l := by
  unfold oneS
  split
  · simpa using hn
  · simp; omega
 have hsq : ∀ k, 0 ≤ k → k < lenL (oneS W) → 0 < lenL (getL [] (oneS W) k) ∧ lenL (getL [] (oneS W) k) ≤ lenL l ∧ ∀ j, 0 ≤ j → j < lenL (getL [] (oneS W) k) → 0 ≤ getL 0 (getL [] (oneS W) k) j ∧ getL 0 (getL [] (oneS W) k) j < lenL l := fun k k0 k1 => by
  obtain ⟨a, b⟩ := one k k0 k1
  rw [b]
  exact ⟨a, wl, fun j j0 j1 => by have := wr j0 j1; omega⟩
 refine (levels_rule (a0 := 0) hb hE hS F.n1 F.n3 sl hsq (fun y => y = 0) (fun _ y => y = 0) (fun x x0 x1 => F.lv x x0 x1) (fun _ _ h => h) (by decide) rfl fun k k0 k1 => ?_).mono fun o ho => ⟨ho.1, fun i i0 i1 => (ho.2 i i0 i1).1⟩
 obtain ⟨wp, e⟩ := one k k0 k1
 rw [e]
 have wr2 : ∀ j, 0 ≤ j → j < lenL W → 0 ≤ getL 0 W j ∧ getL 0 W j < lenL l := fun j j0 j1 => by have := wr j0 j1; omega
 have hcl := F.cl
 obtain ⟨was, c1, wasl, wasg⟩ := pick_yields (l := R.fClasses) (seq := W) (by omega) (by rw [hcl]; exact wr2)
 obtain ⟨ed, c2, -, -, ed0⟩ := edges_yields (R := R) (base := 0) (b := 0) (seq := W) hb F.n1 (by rw [hcl]) F.n3 (parity_flat (.inl rfl)) wp wl wr2
 obtain ⟨e1, e2⟩ := ed0 rfl F.lv
 obtain ⟨rr, c3, rrl, -⟩ := pick_yields (l := r) (seq := W) (by omega) (by rw [hr]; exact wr2)
 obtain ⟨w, c4, WP⟩ := weak_yields (l := was) (s := ed.1) (by omega) (.inl e1)
 have wpl := WP.plain e1 (fun i i0 i1 => by
  rw [wasg i i0 (by omega), hcl]
  have := wr2 i i0 (by omega)
  have := h _ this.1 this.2
  omega)
 have lev0 : getL 0 R.fLevels (getL 0 W 0) = 0 := by have := wr2 0 (by omega) wp; exact F.lv _ this.1 this.2
 have wL := WP.len
 obtain ⟨now, c5, nl, -, np⟩ := neutral_yields (r := rr) (was := was) (l := w) (level := getL 0 R.fLevels (getL 0 W 0)) (sos := ed.1) (eos := ed.2) (by omega) (by omega) (by omega) (.inl e1)
 refine ⟨was, ed, rr, w, now, c1, c2, c3, c4, c5, by omega, fun j j0 j1 => ⟨0, ?_, rfl⟩⟩
 rw [lev0]
 exact implicit_0 (np lev0 e1 (fun i i0 i1 => wpl i i0 (by omega)) j j0 (by omega))
theorem weakPlain_true (r : List Int) : lapwinglaw18_WeakPlain r = some true := by
 have hn := lenL_nn r
 refine Yields.eq ?_
 unfold lapwinglaw18_WeakPlain
 refine .call awake_true (.ite (fun _ => .ret rfl) (fun h => ?_))
 have hb : lenL r ≤ 200 := by simpa using h
 clear h
 refine .call load_eq ?_
 refine .cut (fun q => q = .out true ∨ (q = .go () ∧ ∀ i, 0 ≤ i → i < lenL r → 1 ≤ clsL (getL 0 r i) ∧ clsL (getL 0 r i) ≤ 14 ∧ clsL (getL 0 r i) ≠ 2 ∧ clsL (getL 0 r i) ≠ 3 ∧ clsL (getL 0 r i) ≠ 7)) ?_ ?_
 · refine .loop (fun i => 0 ≤ i ∧ i ≤ lenL r ∧ ∀ k, 0 ≤ k → k < i → 1 ≤ clsL (getL 0 r k) ∧ clsL (getL 0 r k) ≤ 14 ∧ clsL (getL 0 r k) ≠ 2 ∧ clsL (getL 0 r k) ≠ 3 ∧ clsL (getL 0 r k) ≠ 7) (fun i => (lenL r - i).toNat) ⟨by omega, hn, fun k k0 k1 => by omega⟩ ?_
   rintro i ⟨i0, i1, ig⟩
   refine .ite (fun h => ?_) (fun h => ?_)
   · have h : i < lenL r := by simpa using h
     refine .chk ⟨i0, h⟩ (.call (class_L _) (.ite (fun _ => .ret (.inl rfl)) (fun hc => .chk (inR64 (by omega) (by omega)) (.ret ⟨⟨by omega, by omega, fun k k0 k1 => ?_⟩, by simp only; omega⟩))))
     by_cases e : k = i
     · subst e
       have hd := clsL_bd (getL 0 r k)
       generalize clsL (getL 0 r k) = c at hc hd
       simp at hc
       omega
     · exact ig k k0 (by omega)
   · have h : lenL r ≤ i := by simpa using h
     exact .ret (.inr ⟨rfl, fun k k0 k1 => ig k k0 (by omega)⟩)
 rintro q (rfl | ⟨rfl, hc⟩)
 · exact .out rfl
 refine .go ?_
 refine .bind (fun v => v.2 = 0 ∧ lenL v.1 = lenL r ∧ ∀ i, 0 ≤ i → i < lenL r → getL 0 v.1 i = 0) ?_ ?_
 · unfold weak_Paragraph
   refine .bind _ (classes_yields (by omega)) fun l hl => ?_
   obtain ⟨ll, lg⟩ := hl
   have hc' : ∀ i, 0 ≤ i → i < lenL l → 1 ≤ getL 0 l i ∧ getL 0 l i ≤ 14 ∧ getL 0 l i ≠ 2 ∧ getL 0 l i ≠ 3 ∧ getL 0 l i ≠ 7 := fun i i0 i1 => by
    rw [lg i i0 (by omega)]; exact hc i i0 (by omega)
   refine .cut (fun q => q = .go 0) ?_ ?_
   · refine .ite (fun _ => ?_) (fun h => by cases h)
     refine .bind _ (base_flat (by omega) (fun i i0 i1 => by have := hc' i i0 i1; omega)) fun b hb => ?_
     subst hb; exact .ret rfl
   rintro q rfl
   refine .go (.bind _ (levels_plain (r := r) (by omega) (by omega) hc') fun o ho => .ret ⟨rfl, by simp only; omega, fun i i0 i1 => ho.2 i i0 (by omega)⟩)
 rintro ⟨o, b⟩ ⟨hb0, ol, og⟩
 simp only at hb0 ol og ⊢
 subst hb0
 refine .ite (fun h => by simp [ol] at h) (fun _ => ?_)
 refine .cut (fun q => q = .go ()) ?_ (fun q hq => by subst hq; exact .go (.ret rfl))
 refine .loop (fun i => 0 ≤ i ∧ i ≤ lenL r) (fun i => (lenL r - i).toNat) ⟨by omega, hn⟩ ?_
 rintro i ⟨i0, i1⟩
 refine .ite (fun h => ?_) (fun _ => .ret rfl)
 have h : i < lenL r := by simpa using h
 refine .chk ⟨i0, by omega⟩ (.ite (fun hh => ?_) (fun _ => .chk (inR64 (by omega) (by omega)) (.ret ⟨⟨by omega, by omega⟩, by simp only; omega⟩)))
 exfalso
 rw [og i i0 h] at hh; cases hh
end Go.Vx
