/- The document's runs, classes and levels of a row are the program's. No conditions. -/
import Derived.Test.YtgkpmoapkjlopaaM4
set_option linter.all false
namespace Go.Vx
set_option maxRecDepth 100000
theorem bindO_eq' {β γ : Type} (x : β) (k : β → Option γ) : bindO (some x) k = k x := rfl
theorem refruns_yields {levels : List Int} {n : Int} (hn : lenL levels = n) (hb : n ≤ 1000) : Yields (lapwingref19_Runs levels) fun out => Runs n (getL 0 levels) n out := by
  have hn0 : 0 ≤ n := by rw [← hn]; exact lenL_nn levels
  unfold lapwingref19_Runs
  rw [hn]
  refine .cut (fun o => ∃ out, o = .go out ∧ Runs n (getL 0 levels) n out) ?_ ?_
  · refine .loop (fun x => 0 ≤ x.1 ∧ 1 ≤ x.2.1 ∧ x.2.1 ≤ n + 1 ∧ ((x.2.1 ≤ n ∧ x.1 < x.2.1 ∧ Runs n (getL 0 levels) x.1 x.2.2 ∧ (∀ j, x.1 ≤ j → j < x.2.1 → getL 0 levels j = getL 0 levels x.1) ∧ (0 < x.1 → getL 0 levels x.1 ≠ getL 0 levels (x.1 - 1))) ∨ (x.2.1 = n + 1 ∧ Runs n (getL 0 levels) n x.2.2))) (fun x => (n + 1 - x.2.1).toNat) ?_ ?_
    · refine ⟨by dsimp only; omega, by dsimp only; omega, by dsimp only; omega, ?_⟩
      have hnil : ∀ m : Int, m = 0 → Runs n (getL 0 levels) m [] := fun m hm => ⟨by simp; omega, fun _ => hm, fun i _ h => by simp at h; omega⟩
      by_cases c : 1 ≤ n
      · refine .inl ⟨c, by dsimp only; omega, hnil 0 rfl, fun j j0 j1 => ?_, fun h => by dsimp only at h; omega⟩
        dsimp only at j0 j1 ⊢
        rw [show j = 0 by omega]
      · exact .inr ⟨by dsimp only; omega, hnil n (by omega)⟩
    · rintro ⟨fr, i, out⟩ ⟨f0, i0, i1, hor⟩
      dsimp only at f0 i0 i1 hor ⊢
      refine .ite (fun h => ?_) (fun h => ?_)
      · have h : i ≤ n := by simpa using h
        rcases hor with ⟨_, hfi, hr, hall, hne⟩ | ⟨h', _⟩
        · have hl : 0 ≤ lenL out ∧ lenL out ≤ fr := ⟨lenL_nn out, hr.1⟩
          by_cases hin : i = n
          · rw [show (i == n) = true by simp [hin]]
            refine .chk (fun h => by cases h) (.chk (fun h => by cases h) ?_)
            rw [if_pos rfl, iteO_true]
            refine .chk (grOk (by omega) (by omega) (by omega)) (.chk (inR64 (by omega) (by omega)) (.ret ⟨⟨by dsimp only; omega, by dsimp only; omega, by dsimp only; omega, .inr ⟨by dsimp only; omega, ?_⟩⟩, by dsimp only; omega⟩))
            dsimp only
            have := hr.add f0 hfi h hall hne
            rw [hin] at this ⊢
            exact this
          · rw [show (i == n) = false by simp [hin]]
            refine .chk (fun _ => ⟨by omega, by omega⟩) (.chk (fun _ => ⟨by omega, by omega⟩) ?_)
            simp only [Bool.false_eq_true, if_false]
            refine .ite (fun hc => ?_) (fun hc => ?_)
            · have hc : getL 0 levels i ≠ getL 0 levels fr := by simpa using hc
              refine .chk (grOk (by omega) (by omega) (by omega)) (.chk (inR64 (by omega) (by omega)) (.ret ⟨⟨by dsimp only; omega, by dsimp only; omega, by dsimp only; omega, .inl ⟨by dsimp only; omega, by dsimp only; omega, hr.add f0 hfi h hall hne, fun j j0 j1 => ?_, fun _ => ?_⟩⟩, by dsimp only; omega⟩))
              · dsimp only at j0 j1 ⊢
                rw [show j = i by omega]
              · dsimp only
                rw [hall (i - 1) (by omega) (by omega)]; exact hc
            · have hc : getL 0 levels i = getL 0 levels fr := by simpa using hc
              refine .chk (inR64 (by omega) (by omega)) (.ret ⟨⟨by dsimp only; omega, by dsimp only; omega, by dsimp only; omega, .inl ⟨by dsimp only; omega, by dsimp only; omega, hr, fun j j0 j1 => ?_, hne⟩⟩, by dsimp only; omega⟩)
              dsimp only at j0 j1 ⊢
              rcases Int.lt_or_eq_of_le (show j ≤ i by omega) with c | rfl
              · exact hall j j0 c
              · exact hc
        · omega
      · have h : ¬ i ≤ n := by simpa using h
        rcases hor with ⟨h', _⟩ | ⟨_, hr⟩
        · omega
        · exact .ret ⟨out, rfl, hr⟩
  · rintro _ ⟨out, rfl, h⟩
    exact .go (.ret h)
theorem runs_same {levels : List Int} (hb : lenL levels ≤ 1000) : ∃ c, order_Runs levels = some c ∧ lapwingref19_Runs levels = some c ∧ lenL c ≤ 1000 := by
  obtain ⟨c, h1, h2⟩ := runs_yields (levels := levels) rfl hb
  obtain ⟨c', k1, k2⟩ := refruns_yields (levels := levels) rfl hb
  have := Runs.uniq h2 k2
  subst this
  exact ⟨c, h1, k1, by have := h2.1; omega⟩
theorem pair_self (a : List T_Arr2_i64) (ha : lenL a ≤ 100000) : lapwingref18_Pairwise a a = some true := by
  refine Yields.eq ?_
  unfold lapwingref18_Pairwise
  rw [show (!((lenL a) == (lenL a))) = false by simp, iteO_false]
  refine .cut (fun o => o = .go ()) ?_ ?_
  · refine .loop (fun i => 0 ≤ i ∧ i ≤ lenL a) (fun i => (lenL a - i).toNat) ⟨by omega, lenL_nn a⟩ ?_
    rintro i ⟨i0, i1⟩
    refine .ite (fun h => ?_) (fun h => .ret rfl)
    have h : i < lenL a := by simpa using h
    refine .chk ⟨i0, h⟩ (.chk ⟨i0, h⟩ ?_)
    refine .ite (fun hc => by simp at hc) (fun _ => .chk (inR64 (by omega) (by omega)) (.ret ⟨⟨by omega, by omega⟩, by dsimp only; omega⟩))
  · rintro o rfl
    exact .go (.ret rfl)

/-! Tables. -/
theorem drop_get' {α : Type} (d : α) {l : List α} {v : Int} (h0 : 0 ≤ v) (h1 : v < lenL l) : l.drop v.toNat = getL d l v :: l.drop (v + 1).toNat := by
  have h : v.toNat < l.length := by simp only [lenL] at h1; omega
  have e : (v + 1).toNat = v.toNat + 1 := by omega
  rw [e, List.drop_eq_getElem_cons h]
  simp [getL, h]
theorem drop_end' {α : Type} {l : List α} {v : Int} (h1 : ¬ v < lenL l) : l.drop v.toNat = [] := by
  simp only [lenL] at h1
  exact List.drop_of_length_le (by omega)
theorem take_get' {α : Type} (d : α) {l : List α} {i : Int} (h0 : 0 ≤ i) (h1 : i < lenL l) : l.take (i + 1).toNat = l.take i.toNat ++ [getL d l i] := by
  have h : i.toNat < l.length := by simp only [lenL] at h1; omega
  rw [show (i + 1).toNat = i.toNat + 1 by omega, List.take_succ_eq_append_getElem h]
  simp [getL, h]
def rowC (x : T_lapwingref01_Row) : T_ranges_Row := ⟨x.fLo, x.fHi, x.fV⟩
theorem rows_eq {t : T_lapwingref01_Table} (hb : lenL t.fL ≤ 1000) : lapwinglaw19_rows t = some ⟨t.fL.map rowC⟩ := by
  refine Yields.eq ?_
  have hn := lenL_nn t.fL
  unfold lapwinglaw19_rows
  refine .cut (fun o => o = .go (t.fL.map rowC)) ?_ ?_
  · refine .loop (fun x => 0 ≤ x.1 ∧ x.1 ≤ lenL t.fL ∧ x.2 = (t.fL.take x.1.toNat).map rowC ∧ lenL x.2 = x.1) (fun x => (lenL t.fL - x.1).toNat) ⟨by dsimp only; omega, hn, rfl, rfl⟩ ?_
    rintro ⟨i, o⟩ ⟨i0, i1, ho, hl⟩
    dsimp only at i0 i1 ho hl ⊢
    refine .ite (fun h => ?_) (fun h => ?_)
    · have h : i < lenL t.fL := by simpa using h
      refine .chk ⟨i0, h⟩ (.chk ⟨i0, h⟩ (.chk ⟨i0, h⟩ (.chk (grOk (by omega) (by omega) (by omega)) (.chk (inR64 (by omega) (by omega)) (.ret ⟨⟨by dsimp only; omega, by dsimp only; omega, ?_, ?_⟩, by dsimp only; omega⟩)))))
      · dsimp only
        rw [take_get' d_lapwingref01_Row i0 h, List.map_append, ← ho]; rfl
      · dsimp only; rw [lenL_app, hl]; rfl
    · have h : ¬ i < lenL t.fL := by simpa using h
      refine .ret (show Fl.go o = Fl.go _ from ?_)
      rw [ho, List.take_of_length_le (by simp only [lenL] at h; omega)]
  · rintro o rfl
    exact .go (.ret rfl)
theorem tables_yields {x : T_lapwingref02_Data} (h1 : lenL x.fClass.fL ≤ 1000) (h2 : lenL x.fWide.fL ≤ 1000) (h3 : lenL x.fJoin.fL ≤ 1000) (h4 : lenL x.fMirror ≤ 1000) (h5 : lenL x.fBrackets ≤ 1000) (h6 : lenL x.fForms ≤ 1000) :
    Yields (lapwinglaw19_tables x) (fun d => d.fClass.fL = x.fClass.fL.map rowC) := by
  unfold lapwinglaw19_tables
  rw [rows_eq h1, bindO_eq', rows_eq h2, bindO_eq', rows_eq h3, bindO_eq']
  refine .cut (fun o => ∃ q, o = .go q) ?_ ?_
  · refine .loop (fun y => 0 ≤ y.1 ∧ y.1 ≤ lenL x.fMirror ∧ lenL y.2 = y.1) (fun y => (lenL x.fMirror - y.1).toNat) ⟨by dsimp only; omega, lenL_nn _, rfl⟩ ?_
    rintro ⟨i, o⟩ ⟨i0, i1, hl⟩
    dsimp only at i0 i1 hl ⊢
    refine .ite (fun h => ?_) (fun h => .ret ⟨o, rfl⟩)
    have h : i < lenL x.fMirror := by simpa using h
    exact .chk ⟨i0, h⟩ (.chk ⟨i0, h⟩ (.chk (grOk (by omega) (by omega) (by omega)) (.chk (inR64 (by omega) (by omega)) (.ret ⟨⟨by dsimp only; omega, by dsimp only; omega, by dsimp only; rw [lenL_app, hl]; rfl⟩, by dsimp only; omega⟩))))
  · rintro o ⟨q1, rfl⟩
    refine .go (.cut (fun o => ∃ q, o = .go q) ?_ ?_)
    · refine .loop (fun y => 0 ≤ y.1 ∧ y.1 ≤ lenL x.fBrackets ∧ lenL y.2 = y.1) (fun y => (lenL x.fBrackets - y.1).toNat) ⟨by dsimp only; omega, lenL_nn _, rfl⟩ ?_
      rintro ⟨i, o⟩ ⟨i0, i1, hl⟩
      dsimp only at i0 i1 hl ⊢
      refine .ite (fun h => ?_) (fun h => .ret ⟨o, rfl⟩)
      have h : i < lenL x.fBrackets := by simpa using h
      exact .chk ⟨i0, h⟩ (.chk ⟨i0, h⟩ (.chk (grOk (by omega) (by omega) (by omega)) (.chk (inR64 (by omega) (by omega)) (.ret ⟨⟨by dsimp only; omega, by dsimp only; omega, by dsimp only; rw [lenL_app, hl]; rfl⟩, by dsimp only; omega⟩))))
    · rintro o ⟨q2, rfl⟩
      refine .go (.cut (fun o => ∃ q, o = .go q) ?_ ?_)
      · refine .loop (fun y => 0 ≤ y.1 ∧ y.1 ≤ lenL x.fForms ∧ lenL y.2 = y.1) (fun y => (lenL x.fForms - y.1).toNat) ⟨by dsimp only; omega, lenL_nn _, rfl⟩ ?_
        rintro ⟨i, o⟩ ⟨i0, i1, hl⟩
        dsimp only at i0 i1 hl ⊢
        refine .ite (fun h => ?_) (fun h => .ret ⟨o, rfl⟩)
        have h : i < lenL x.fForms := by simpa using h
        exact .chk ⟨i0, h⟩ (.chk ⟨i0, h⟩ (.chk ⟨i0, h⟩ (.chk (grOk (by omega) (by omega) (by omega)) (.chk (inR64 (by omega) (by omega)) (.ret ⟨⟨by dsimp only; omega, by dsimp only; omega, by dsimp only; rw [lenL_app, hl]; rfl⟩, by dsimp only; omega⟩)))))
      · rintro o ⟨q3, rfl⟩
        exact .go (.ret rfl)
def getE : List T_lapwingref01_Row → Int → Int
  | [], _ => 0
  | x :: l, r => if x.fLo ≤ r ∧ r ≤ x.fHi then x.fV else getE l r
theorem refget_eq {t : T_lapwingref01_Table} (r : Int) (hl : lenL t.fL ≤ 100000) : lapwingref01_Get t r = some (getE t.fL r) := by
  refine Yields.eq ?_
  unfold lapwingref01_Get
  refine .cut (fun o => (o = .go () ∧ getE t.fL r = 0) ∨ o = .out (getE t.fL r)) ?_ ?_
  · refine .loop (fun v => 0 ≤ v ∧ v ≤ lenL t.fL ∧ getE (t.fL.drop v.toNat) r = getE t.fL r) (fun v => (lenL t.fL - v).toNat) ⟨by omega, lenL_nn _, rfl⟩ ?_
    rintro v ⟨h0, h1, h2⟩
    refine .ite (fun h => ?_) (fun h => ?_)
    · have h : v < lenL t.fL := by simpa using h
      rw [drop_get' d_lapwingref01_Row h0 h] at h2
      simp only [getE] at h2
      refine .chk ⟨h0, h⟩ (.chk (fun _ => ⟨h0, h⟩) (.ite (fun hc => .chk ⟨h0, h⟩ (.ret (.inr ?_))) (fun hc => .chk (inR64 (by omega) (by omega)) (.ret ⟨⟨by omega, by omega, ?_⟩, by dsimp only; omega⟩))))
      · have hc' : (getL d_lapwingref01_Row t.fL v).fLo ≤ r ∧ r ≤ (getL d_lapwingref01_Row t.fL v).fHi := by
          simp only [decide_eq_true_eq] at hc
          split at hc
          · exact ⟨by assumption, by simpa using hc⟩
          · cases hc
        rw [if_pos hc'] at h2
        rw [h2]
      · have hc' : ¬ ((getL d_lapwingref01_Row t.fL v).fLo ≤ r ∧ r ≤ (getL d_lapwingref01_Row t.fL v).fHi) := by
          rintro ⟨x1, x2⟩
          simp [x1, x2] at hc
        rw [if_neg hc'] at h2
        exact h2
    · have h : ¬ v < lenL t.fL := by simpa using h
      rw [drop_end' h] at h2
      exact .ret (.inl ⟨rfl, h2.symm⟩)
  · rintro o (⟨rfl, h⟩ | rfl)
    · exact .go (.ret h.symm)
    · exact .out rfl
def getF : List T_ranges_Row → Int → Int
  | [], _ => 0
  | x :: l, r => if x.fLo ≤ r ∧ r ≤ x.fHi then x.fV else getF l r
theorem getF_map (r : Int) : ∀ l : List T_lapwingref01_Row, getF (l.map rowC) r = getE l r
  | [] => rfl
  | x :: l => by
    simp only [List.map_cons, getF, getE, rowC]
    rw [← getF_map r l]
theorem get_eq' {t : T_ranges_Table} (r : Int) (hl : lenL t.fL ≤ 100000) : ranges_Get t r = some (getF t.fL r) := by
  refine Yields.eq ?_
  unfold ranges_Get
  refine .cut (fun o => (o = .go () ∧ getF t.fL r = 0) ∨ o = .out (getF t.fL r)) ?_ ?_
  · refine .loop (fun v => 0 ≤ v ∧ v ≤ lenL t.fL ∧ getF (t.fL.drop v.toNat) r = getF t.fL r) (fun v => (lenL t.fL - v).toNat) ⟨by omega, lenL_nn _, rfl⟩ ?_
    rintro v ⟨h0, h1, h2⟩
    refine .ite (fun h => ?_) (fun h => ?_)
    · have h : v < lenL t.fL := by simpa using h
      rw [drop_get' d_ranges_Row h0 h] at h2
      simp only [getF] at h2
      refine .chk ⟨h0, h⟩ (.ite (fun hc => .ret (.inr ?_)) (fun hc => .chk (inR64 (by omega) (by omega)) (.ret ⟨⟨by omega, by omega, ?_⟩, by dsimp only; omega⟩)))
      · have hc' : (getL d_ranges_Row t.fL v).fLo ≤ r ∧ r ≤ (getL d_ranges_Row t.fL v).fHi := by
          simp only [decide_eq_true_eq] at hc
          split at hc
          · exact ⟨by assumption, by simpa using hc⟩
          · cases hc
        rw [if_pos hc'] at h2
        rw [h2]
      · have hc' : ¬ ((getL d_ranges_Row t.fL v).fLo ≤ r ∧ r ≤ (getL d_ranges_Row t.fL v).fHi) := by
          rintro ⟨x1, x2⟩
          simp [x1, x2] at hc
        rw [if_neg hc'] at h2
        exact h2
    · have h : ¬ v < lenL t.fL := by simpa using h
      rw [drop_end' h] at h2
      exact .ret (.inl ⟨rfl, h2.symm⟩)
  · rintro o (⟨rfl, h⟩ | rfl)
    · exact .go (.ret h.symm)
    · exact .out rfl
def clsE (l : List T_lapwingref01_Row) (r : Int) : Int := imaxI 1 (getE l r)
theorem refclass_eq {x : T_lapwingref02_Data} (r : Int) (hl : lenL x.fClass.fL ≤ 1000) : lapwingref02_Class x r = some (clsE x.fClass.fL r) := by
  unfold lapwingref02_Class
  rw [refget_eq r (by omega)]; rfl
theorem class_eq {d : T_ucd_Data} {l : List T_lapwingref01_Row} (r : Int) (hd : d.fClass.fL = l.map rowC) (hl : lenL l ≤ 1000) : ucd_Class d r = some (clsE l r) := by
  unfold ucd_Class
  rw [get_eq' r (by rw [hd]; simp only [lenL, List.length_map] at hl ⊢; omega), hd, getF_map, bindO_eq']
  unfold clsE imaxI
  by_cases h : 0 < getE l r
  · rw [decide_eq_true h]
    show some _ = some _
    congr 1
    split <;> omega
  · rw [decide_eq_false h]
    show some _ = some _
    congr 1
    split <;> omega
end Go.Vx
