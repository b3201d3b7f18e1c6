/- What is told of letters by the tables that Load lays, as plain functions. No conditions. -/
import Derived.Test.YtigfggfbpdhmfaaDoorULoad
set_option linter.all false
namespace Go.Vx
set_option maxRecDepth 100000

theorem drop_get {α : Type} (d : α) {l : List α} {v : Int} (h0 : 0 ≤ v) (h1 : v < lenL l) : l.drop v.toNat = getL d l v :: l.drop (v + 1).toNat := by
  have h : v.toNat < l.length := by simp only [lenL] at h1; omega
  have e : (v + 1).toNat = v.toNat + 1 := by omega
  rw [e, List.drop_eq_getElem_cons h]
  simp [getL, h]
theorem drop_end {α : Type} {l : List α} {v : Int} (h1 : ¬ v < lenL l) : l.drop v.toNat = [] := by
  simp only [lenL] at h1
  exact List.drop_of_length_le (by omega)

def getR : List T_ranges_Row → Int → Int
  | [], _ => 0
  | x :: l, r => if x.fLo ≤ r ∧ r ≤ x.fHi then x.fV else getR l r
theorem get_eq {t : T_ranges_Table} (r : Int) (hl : lenL t.fL ≤ 100000) : ranges_Get t r = some (getR t.fL r) := by
  refine Yields.eq ?_
  unfold ranges_Get
  refine .cut (fun o => (o = .go () ∧ getR t.fL r = 0) ∨ o = .out (getR t.fL r)) ?_ ?_
  · refine .loop (fun v => 0 ≤ v ∧ v ≤ lenL t.fL ∧ getR (t.fL.drop v.toNat) r = getR t.fL r) (fun v => (lenL t.fL - v).toNat) ⟨by omega, lenL_nn _, rfl⟩ ?_
    rintro v ⟨h0, h1, h2⟩
    refine .ite (fun h => ?_) (fun h => ?_)
    · have h : v < lenL t.fL := by simpa using h
      rw [drop_get d_ranges_Row h0 h] at h2
      refine .chk ⟨h0, h⟩ (.ite (fun hc => .ret (.inr ?_)) (fun hc => .chk (inR64 (by omega) (by omega)) (.ret ⟨⟨by omega, by omega, ?_⟩, by dsimp only; omega⟩)))
      · simp only [getR] at h2
        have hc' : (getL d_ranges_Row t.fL v).fLo ≤ r ∧ r ≤ (getL d_ranges_Row t.fL v).fHi := by
          simp only [decide_eq_true_eq] at hc
          split at hc
          · exact ⟨by assumption, by simpa using hc⟩
          · cases hc
        rw [if_pos hc'] at h2
        rw [h2]
      · simp only [getR] at h2
        have hc' : ¬ ((getL d_ranges_Row t.fL v).fLo ≤ r ∧ r ≤ (getL d_ranges_Row t.fL v).fHi) := by
          rintro ⟨x1, x2⟩
          simp [x1, x2] at hc
        rw [if_neg hc'] at h2
        exact h2
    · have h : ¬ v < lenL t.fL := by simpa using h
      rw [drop_end h] at h2
      exact .ret (.inl ⟨rfl, h2.symm⟩)
  · rintro o (⟨rfl, h⟩ | rfl)
    · exact .go (.ret h.symm)
    · exact .out rfl

theorem getR_mem : ∀ (l : List T_ranges_Row) (r : Int), (getR l r = 0) ∨ ∃ x ∈ l, getR l r = x.fV ∧ x.fLo ≤ r ∧ r ≤ x.fHi
  | [], _ => .inl rfl
  | x :: l, r => by
    simp only [getR]
    split
    · rename_i h; exact .inr ⟨x, List.mem_cons_self .., rfl, h.1, h.2⟩
    · rcases getR_mem l r with h | ⟨y, h1, h2⟩
      · exact .inl h
      · exact .inr ⟨y, List.mem_cons_of_mem _ h1, h2⟩
theorem getR_out : ∀ (l : List T_ranges_Row) (r lo hi : Int), (∀ x ∈ l, lo ≤ x.fLo ∧ x.fHi ≤ hi) → ¬ (lo ≤ r ∧ r ≤ hi) → getR l r = 0
  | [], _, _, _, _, _ => rfl
  | x :: l, r, lo, hi, h, hr => by
    have hx := h x (List.mem_cons_self ..)
    simp only [getR]
    rw [if_neg (by omega)]
    exact getR_out l r lo hi (fun y hy => h y (List.mem_cons_of_mem _ hy)) hr
/-- All of a range lies in one row, of a value. -/
def coverR : List T_ranges_Row → Int → Int → Int → Bool
  | [], _, _, _ => false
  | x :: l, lo, hi, v => if x.fLo ≤ lo ∧ hi ≤ x.fHi then x.fV == v else if hi < x.fLo ∨ x.fHi < lo then coverR l lo hi v else false
theorem coverR_ok : ∀ {l : List T_ranges_Row} {lo hi v : Int}, coverR l lo hi v = true → ∀ r, lo ≤ r → r ≤ hi → getR l r = v
  | [], _, _, _, h, _, _, _ => by cases h
  | x :: l, lo, hi, v, h, r, h0, h1 => by
    simp only [coverR] at h
    simp only [getR]
    split at h
    · rw [if_pos (by omega)]; simpa using h
    · split at h
      · rw [if_neg (by omega)]; exact coverR_ok h r h0 h1
      · cases h

def pairB : List T_ucd_Pair → Int → Int × Int
  | [], _ => (0, 0)
  | p :: l, r => if r = p.fA then (p.fB, 1) else if r = p.fB then (p.fA, 2) else pairB l r
theorem bracket_eq {d : T_ucd_Data} (r : Int) (hl : lenL d.fBrackets ≤ 100000) : ucd_Bracket d r = some (pairB d.fBrackets r) := by
  refine Yields.eq ?_
  unfold ucd_Bracket
  refine .cut (fun o => (o = .go () ∧ pairB d.fBrackets r = (0, 0)) ∨ o = .out (pairB d.fBrackets r)) ?_ ?_
  · refine .loop (fun v => 0 ≤ v ∧ v ≤ lenL d.fBrackets ∧ pairB (d.fBrackets.drop v.toNat) r = pairB d.fBrackets r) (fun v => (lenL d.fBrackets - v).toNat) ⟨by omega, lenL_nn _, rfl⟩ ?_
    rintro v ⟨h0, h1, h2⟩
    refine .ite (fun h => ?_) (fun h => ?_)
    · have h : v < lenL d.fBrackets := by simpa using h
      rw [drop_get d_ucd_Pair h0 h] at h2
      simp only [pairB] at h2
      refine .chk ⟨h0, h⟩ (.ite (fun hc => .ret (.inr ?_)) (fun hc => .ite (fun hc2 => .ret (.inr ?_)) (fun hc2 => .chk (inR64 (by omega) (by omega)) (.ret ⟨⟨by omega, by omega, ?_⟩, by dsimp only; omega⟩))))
      · rw [if_pos (by simpa using hc)] at h2; rw [h2]
      · rw [if_neg (by simpa using hc), if_pos (by simpa using hc2)] at h2; rw [h2]
      · rw [if_neg (by simpa using hc), if_neg (by simpa using hc2)] at h2; exact h2
    · have h : ¬ v < lenL d.fBrackets := by simpa using h
      rw [drop_end h] at h2
      exact .ret (.inl ⟨rfl, h2.symm⟩)
  · rintro o (⟨rfl, h⟩ | rfl)
    · exact .go (.ret h.symm)
    · exact .out rfl
theorem pairB_mem : ∀ (l : List T_ucd_Pair) (r : Int), pairB l r = (0, 0) ∨ ∃ p ∈ l, (r = p.fA ∧ pairB l r = (p.fB, 1)) ∨ (r = p.fB ∧ pairB l r = (p.fA, 2))
  | [], _ => .inl rfl
  | p :: l, r => by
    simp only [pairB]
    split
    · rename_i h; exact .inr ⟨p, List.mem_cons_self .., .inl ⟨h, rfl⟩⟩
    · split
      · rename_i h; exact .inr ⟨p, List.mem_cons_self .., .inr ⟨h, rfl⟩⟩
      · rcases pairB_mem l r with h | ⟨y, h1, h2⟩
        · exact .inl h
        · exact .inr ⟨y, List.mem_cons_of_mem _ h1, h2⟩
theorem pairB_out : ∀ (l : List T_ucd_Pair) (r : Int), (∀ p ∈ l, r ≠ p.fA ∧ r ≠ p.fB) → pairB l r = (0, 0)
  | [], _, _ => rfl
  | p :: l, r, h => by
    have hp := h p (List.mem_cons_self ..)
    simp only [pairB]
    rw [if_neg hp.1, if_neg hp.2]
    exact pairB_out l r fun q hq => h q (List.mem_cons_of_mem _ hq)

def mirF : List T_ucd_Pair → Int → Int
  | [], r => r
  | p :: l, r => if r = p.fA then p.fB else if r = p.fB then p.fA else mirF l r
theorem mirror_eq {d : T_ucd_Data} (r : Int) (hl : lenL d.fMirror ≤ 100000) : ucd_Mirror d r = some (mirF d.fMirror r) := by
  refine Yields.eq ?_
  unfold ucd_Mirror
  refine .cut (fun o => (o = .go () ∧ mirF d.fMirror r = r) ∨ o = .out (mirF d.fMirror r)) ?_ ?_
  · refine .loop (fun v => 0 ≤ v ∧ v ≤ lenL d.fMirror ∧ mirF (d.fMirror.drop v.toNat) r = mirF d.fMirror r) (fun v => (lenL d.fMirror - v).toNat) ⟨by omega, lenL_nn _, rfl⟩ ?_
    rintro v ⟨h0, h1, h2⟩
    refine .ite (fun h => ?_) (fun h => ?_)
    · have h : v < lenL d.fMirror := by simpa using h
      rw [drop_get d_ucd_Pair h0 h] at h2
      simp only [mirF] at h2
      refine .chk ⟨h0, h⟩ (.ite (fun hc => .ret (.inr ?_)) (fun hc => .ite (fun hc2 => .ret (.inr ?_)) (fun hc2 => .chk (inR64 (by omega) (by omega)) (.ret ⟨⟨by omega, by omega, ?_⟩, by dsimp only; omega⟩))))
      · rw [if_pos (by simpa using hc)] at h2; rw [h2]
      · rw [if_neg (by simpa using hc), if_pos (by simpa using hc2)] at h2; rw [h2]
      · rw [if_neg (by simpa using hc), if_neg (by simpa using hc2)] at h2; exact h2
    · have h : ¬ v < lenL d.fMirror := by simpa using h
      rw [drop_end h] at h2
      exact .ret (.inl ⟨rfl, h2.symm⟩)
  · rintro o (⟨rfl, h⟩ | rfl)
    · exact .go (.ret h.symm)
    · exact .out rfl
theorem mirF_mem : ∀ (l : List T_ucd_Pair) (r : Int), mirF l r = r ∨ ∃ p ∈ l, r = p.fA ∨ r = p.fB
  | [], _ => .inl rfl
  | p :: l, r => by
    simp only [mirF]
    split
    · rename_i h; exact .inr ⟨p, List.mem_cons_self .., .inl h⟩
    · split
      · rename_i h; exact .inr ⟨p, List.mem_cons_self .., .inr h⟩
      · rcases mirF_mem l r with h | ⟨y, h1, h2⟩
        · exact .inl h
        · exact .inr ⟨y, List.mem_cons_of_mem _ h1, h2⟩
theorem mirF_out : ∀ (l : List T_ucd_Pair) (r : Int), (∀ p ∈ l, r ≠ p.fA ∧ r ≠ p.fB) → mirF l r = r
  | [], _, _ => rfl
  | p :: l, r, h => by
    have hp := h p (List.mem_cons_self ..)
    simp only [mirF]
    rw [if_neg hp.1, if_neg hp.2]
    exact mirF_out l r fun q hq => h q (List.mem_cons_of_mem _ hq)

/-- A form's letter, by which it is. -/
def valF (f : T_ucd_Form) (w : Int) : Int := if f.fN = 4 then f.fAt + w else if f.fN = 2 ∧ (w = 1 ∨ w = 3) then f.fAt + 1 else f.fAt
def frmF : List T_ucd_Form → Int → Int → Int
  | [], r, _ => r
  | f :: l, r, w => if f.fR = r then valF f w else frmF l r w
def shpF (l : List T_ucd_Form) (r w : Int) : Int := if w < 0 ∨ 3 < w then r else frmF l r w
theorem shape_eq {d : T_ucd_Data} (r w : Int) (hl : lenL d.fForms ≤ 100000) (hb : ∀ v, 0 ≤ v → v < lenL d.fForms → 0 ≤ (getL d_ucd_Form d.fForms v).fAt ∧ (getL d_ucd_Form d.fForms v).fAt ≤ 100000) : ucd_Shape d r w = some (shpF d.fForms r w) := by
  refine Yields.eq ?_
  unfold ucd_Shape shpF
  refine .ite (fun h => .ret ?_) (fun h => ?_)
  · rw [if_pos]
    simp only [decide_eq_true_eq] at h
    split at h
    · exact .inl (by assumption)
    · exact .inr (by simpa using h)
  have hw : ¬ (w < 0 ∨ 3 < w) := by
    rintro (h1 | h1)
    · simp [h1] at h
    · simp [h1] at h
  rw [if_neg hw]
  refine .cut (fun o => (o = .go () ∧ frmF d.fForms r w = r) ∨ o = .out (frmF d.fForms r w)) ?_ ?_
  · refine .loop (fun v => 0 ≤ v ∧ v ≤ lenL d.fForms ∧ frmF (d.fForms.drop v.toNat) r w = frmF d.fForms r w) (fun v => (lenL d.fForms - v).toNat) ⟨by omega, lenL_nn _, rfl⟩ ?_
    rintro v ⟨h0, h1, h2⟩
    refine .ite (fun h => ?_) (fun h => ?_)
    · have h : v < lenL d.fForms := by simpa using h
      have hv := hb v h0 h
      rw [drop_get d_ucd_Form h0 h] at h2
      simp only [frmF] at h2
      refine .chk ⟨h0, h⟩ (.ite (fun hc => .chk (inR64 (by omega) (by omega)) (.ret ⟨⟨by omega, by omega, ?_⟩, by dsimp only; omega⟩)) (fun hc => ?_))
      · rw [if_neg (by simpa using hc)] at h2; exact h2
      · rw [if_pos (by simpa using hc)] at h2
        unfold valF at h2
        refine .ite (fun hc2 => .chk (inR64 (by omega) (by omega)) (.ret (.inr ?_))) (fun hc2 => .ite (fun hc3 => .chk (inR64 (by omega) (by omega)) (.ret (.inr ?_))) (fun hc3 => .ret (.inr ?_)))
        · rw [if_pos (by simpa using hc2)] at h2; rw [h2]
        · rw [if_neg (by simpa using hc2), if_pos] at h2
          · rw [h2]
          · simp only [beq_iff_eq] at hc3
            split at hc3
            · refine ⟨by assumption, ?_⟩
              split at hc3
              · exact .inl (by assumption)
              · exact .inr (by simpa using hc3)
            · cases hc3
        · rw [if_neg (by simpa using hc2), if_neg] at h2
          · rw [h2]
          · rintro ⟨x1, x2 | x2⟩ <;> simp [x1, x2] at hc3
    · have h : ¬ v < lenL d.fForms := by simpa using h
      rw [drop_end h] at h2
      exact .ret (.inl ⟨rfl, h2.symm⟩)
  · rintro o (⟨rfl, h⟩ | rfl)
    · exact .go (.ret h.symm)
    · exact .out rfl
theorem frmF_mem : ∀ (l : List T_ucd_Form) (r : Int), (∀ w, frmF l r w = r) ∨ ∃ f ∈ l, f.fR = r ∧ ∀ w, frmF l r w = valF f w
  | [], _ => .inl fun _ => rfl
  | f :: l, r => by
    simp only [frmF]
    by_cases h : f.fR = r
    · exact .inr ⟨f, List.mem_cons_self .., h, fun w => by rw [if_pos h]⟩
    · rcases frmF_mem l r with h1 | ⟨y, h1, h2, h3⟩
      · exact .inl fun w => by rw [if_neg h]; exact h1 w
      · exact .inr ⟨y, List.mem_cons_of_mem _ h1, h2, fun w => by rw [if_neg h]; exact h3 w⟩

/-! By the tables that Load lays. -/
def clsL (r : Int) : Int := if 0 < getR ldClass r then getR ldClass r else 1
def widL (r : Int) : Int := if 0 < getR ldWide r then getR ldWide r - 1 else 1
def joiL (r : Int) : Int := getR ldJoin r
def mirL (r : Int) : Int := mirF ldMirror r
def braL (r : Int) : Int × Int := pairB ldBrackets r
def shpL (r w : Int) : Int := shpF ldForms r w
theorem allI {α : Type} {l : List α} {p : α → Bool} (h : l.all p = true) : ∀ x ∈ l, p x = true := List.all_eq_true.1 h
theorem ldWide_bd : ∀ x ∈ ldWide, 1 ≤ x.fV ∧ x.fV ≤ 3 := fun x hx => by
  have := allI (show ldWide.all (fun x => decide (1 ≤ x.fV) && decide (x.fV ≤ 3)) = true by kernel_rfl) x hx
  simpa using this
theorem class_L (r : Int) : ucd_Class dLoad r = some (clsL r) := by
  unfold ucd_Class
  rw [get_eq (t := dLoad.fClass) r (show lenL ldClass ≤ 100000 by decide)]
  show iteO (decide (0 < getR ldClass r)) (some (getR ldClass r)) (some 1) = _
  unfold clsL
  by_cases h : 0 < getR ldClass r
  · simp [iteO, h]
  · simp [iteO, h]
theorem width_L (r : Int) : ucd_Width dLoad r = some (widL r) := by
  unfold ucd_Width
  rw [get_eq (t := dLoad.fWide) r (show lenL ldWide ≤ 100000 by decide)]
  show iteO (decide (0 < getR ldWide r)) (chk (inR .i64 (getR ldWide r - 1)) <| some (getR ldWide r - 1)) (some 1) = _
  unfold widL
  by_cases h : 0 < getR ldWide r
  · have hb : getR ldWide r ≤ 3 := by
      rcases getR_mem ldWide r with h1 | ⟨x, h1, h2, _⟩
      · omega
      · have := ldWide_bd x h1; omega
    rw [if_pos h]
    simp only [iteO, h, decide_true]
    rw [chk_ok (inR64 (by omega) (by omega))]
  · simp [iteO, h]
theorem join_L (r : Int) : ucd_Join dLoad r = some (joiL r) := by
  unfold ucd_Join
  rw [get_eq (t := dLoad.fJoin) r (show lenL ldJoin ≤ 100000 by decide)]; rfl
theorem mirror_L (r : Int) : ucd_Mirror dLoad r = some (mirL r) := mirror_eq r (show lenL ldMirror ≤ 100000 by decide)
theorem bracket_L (r : Int) : ucd_Bracket dLoad r = some (braL r) := bracket_eq r (show lenL ldBrackets ≤ 100000 by decide)
theorem getL_mem {α : Type} (d : α) {l : List α} {v : Int} (h0 : 0 ≤ v) (h1 : v < lenL l) : getL d l v ∈ l := by
  obtain ⟨h, e⟩ := getL_eq (d := d) h0 h1
  rw [e]; exact List.getElem_mem _
theorem shape_L (r w : Int) : ucd_Shape dLoad r w = some (shpL r w) := by
  refine shape_eq r w (show lenL ldForms ≤ 100000 by decide) fun v h0 h1 => ?_
  have := allI (show ldForms.all (fun x => decide (0 ≤ x.fAt) && decide (x.fAt ≤ 100000)) = true by kernel_rfl) _ (getL_mem d_ucd_Form h0 h1)
  have h : 0 ≤ (getL d_ucd_Form ldForms v).fAt ∧ (getL d_ucd_Form ldForms v).fAt ≤ 100000 := by simpa using this
  exact h
theorem awake02 : lapwinglaw02_awake = some true := by
  have e1 : clsL 1488 = 2 := by kernel_rfl
  have e2 : mirL 40 = 41 := by kernel_rfl
  have e3 : clsL 65 = 1 := by kernel_rfl
  have e4 : widL 65 = 1 := by kernel_rfl
  have e5 : shpL 1576 3 = 65170 := by kernel_rfl
  unfold lapwinglaw02_awake
  simp [load_eq, bindO, class_L, mirror_L, width_L, shape_L, e1, e2, e3, e4, e5]
end Go.Vx
