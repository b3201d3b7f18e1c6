/- More laws of the tables hold of the lifted functions. No conditions. -/
import Derived.Test.YtigfggfbpdhmfaaDoorUB
import Derived.Test.YtigfggfbpdhmfaaDoorUTwin2
set_option linter.all false
namespace Go.Vx
set_option maxRecDepth 100000
theorem ok_true {o : Option Bool} (h : (match o with | some b => b | none => false) = true) : o = some true := by
  cases o with
  | none => cases h
  | some b => exact congrArg some h
theorem sane1 : ranges_Sane dLoad.fClass = some true := (ranges_Sane_le _).of (ok_true (by kernel_rfl))
theorem sane2 : ranges_Sane dLoad.fWide = some true := (ranges_Sane_le _).of (ok_true (by kernel_rfl))
theorem sane3 : ranges_Sane dLoad.fJoin = some true := (ranges_Sane_le _).of (ok_true (by kernel_rfl))
theorem ucdSane_true (r : Int) : lapwinglaw02_UcdSane r = some true := by
  obtain ⟨c0, c1⟩ := clsL_bd r
  obtain ⟨w0, w1⟩ := widL_bd r
  obtain ⟨j0, j1⟩ := joiL_bd r
  have hn := nsm_wide (r := r)
  have ht := t_wide (r := r)
  unfold lapwinglaw02_UcdSane
  simp only [awake02, load_eq, bindO_eq, class_L, width_L, join_L, sane1, sane2, sane3, bindO_gif, if_true]
  by_cases h9 : clsL r = 9
  · have := hn h9
    simp [c0, c1, w0, w1, j0, j1, h9, this]
  · by_cases h4 : joiL r = 4
    · have := ht h4
      simp [c0, c1, w0, w1, j0, j1, h9, this]
    · simp [c0, c1, w0, w1, j0, j1, h9, h4]

/-! Letters in no table. -/
theorem out_rows {l : List T_ranges_Row} (h : (l.all fun x => decide (0 ≤ x.fLo) && decide (x.fHi ≤ 262141)) = true) {r : Int} (hr : ¬ (0 ≤ r ∧ r ≤ 262141)) : getR l r = 0 :=
  getR_out l r 0 262141 (fun x hx => by simpa using allI h x hx) hr
theorem out_pairs {l : List T_ucd_Pair} (h : (l.all fun x => decide (0 ≤ x.fA) && decide (x.fA ≤ 262141) && (decide (0 ≤ x.fB) && decide (x.fB ≤ 262141))) = true) {r : Int} (hr : ¬ (0 ≤ r ∧ r ≤ 262141)) : ∀ p ∈ l, r ≠ p.fA ∧ r ≠ p.fB := by
  intro p hp
  have : (0 ≤ p.fA ∧ p.fA ≤ 262141) ∧ (0 ≤ p.fB ∧ p.fB ≤ 262141) := by simpa using allI h p hp
  omega
theorem ucdWide_true (r : Int) : lapwinglaw02_UcdWide r = some true := by
  unfold lapwinglaw02_UcdWide
  simp only [awake02, load_eq, bindO_eq, bracket_L]
  by_cases hr : 0 ≤ r ∧ r ≤ 262141
  · simp [hr, iteO]
  · have hc : (if decide (0 ≤ r) = true then decide (r ≤ 262141) else false) = false := by
      by_cases h : 0 ≤ r
      · have : ¬ r ≤ 262141 := fun h2 => hr ⟨h, h2⟩
        simp [this]
      · simp [h]
    have h1 : clsL r = 1 := by
      unfold clsL; rw [out_rows (l := ldClass) (by kernel_rfl) hr]; rfl
    have h2 : widL r = 1 := by
      unfold widL; rw [out_rows (l := ldWide) (by kernel_rfl) hr]; rfl
    have h3 : joiL r = 0 := out_rows (l := ldJoin) (by kernel_rfl) hr
    have h4 : mirL r = r := mirF_out _ _ (out_pairs (l := ldMirror) (by kernel_rfl) hr)
    have h5 : braL r = (0, 0) := pairB_out _ _ (out_pairs (l := ldBrackets) (by kernel_rfl) hr)
    have h6 : shpL r 1 = r := by
      rcases shpL_mem r with h | ⟨f, f1, f2, _⟩
      · exact h 1
      · have := allI (show (ldForms.all fun f => decide (0 ≤ f.fR) && decide (f.fR ≤ 262141)) = true by kernel_rfl) f f1
        have : 0 ≤ f.fR ∧ f.fR ≤ 262141 := by simpa using this
        omega
    have h7 : ucd_Ligature r 1575 true = some (0, false) := by
      unfold ucd_Ligature
      have : (r == 1604) = false := by rw [beq_eq_false_iff_ne]; omega
      rw [this]; rfl
    rw [hc, h7, h5]
    simp only [iteO_false, bindO_eq, class_L, width_L, join_L, mirror_L, shape_L, bindO_gif, h1, h2, h3, h4, h6]
    simp [bindO_eq]

/-! Ligatures. -/
def ligL (a : Int) (f : Bool) : Int × Bool := if a = 1570 then (if f then 65270 else 65269, true) else if a = 1571 then (if f then 65272 else 65271, true) else if a = 1573 then (if f then 65274 else 65273, true) else if a = 1575 then (if f then 65276 else 65275, true) else (0, false)
theorem lig_eq (a : Int) (f : Bool) : ucd_Ligature 1604 a f = some (ligL a f) := by
  unfold ucd_Ligature ligL
  by_cases h1 : a = 1570
  · subst h1; cases f <;> rfl
  by_cases h2 : a = 1571
  · subst h2; cases f <;> rfl
  by_cases h3 : a = 1573
  · subst h3; cases f <;> rfl
  by_cases h4 : a = 1575
  · subst h4; cases f <;> rfl
  have e1 : (a == 1570) = false := by rw [beq_eq_false_iff_ne]; exact h1
  have e2 : (a == 1571) = false := by rw [beq_eq_false_iff_ne]; exact h2
  have e3 : (a == 1573) = false := by rw [beq_eq_false_iff_ne]; exact h3
  have e4 : (a == 1575) = false := by rw [beq_eq_false_iff_ne]; exact h4
  rw [e1, e2, e3, e4, if_neg h1, if_neg h2, if_neg h3, if_neg h4]; rfl
def lig4 : List Int := [1570, 1571, 1573, 1575]
theorem lig_mem (a : Int) (f : Bool) : ligL a f = (0, false) ∧ a ∉ lig4 ∨ (ligL a f).2 = true ∧ a ∈ lig4 := by
  unfold ligL lig4
  by_cases h1 : a = 1570
  · simp [h1]
  by_cases h2 : a = 1571
  · simp [h2]
  by_cases h3 : a = 1573
  · simp [h3]
  by_cases h4 : a = 1575
  · simp [h4]
  simp [h1, h2, h3, h4]
theorem ucdLigature_true (a b : Int) (i j : Bool) : lapwinglaw02_UcdLigature a b i j = some true := by
  unfold lapwinglaw02_UcdLigature
  simp only [awake02, load_eq, bindO_eq, lig_eq, class_L, join_L, bindO_gif]
  have hcj : ∀ a ∈ lig4, ∀ f, 65269 ≤ (ligL a f).1 ∧ (ligL a f).1 ≤ 65276 ∧ clsL (ligL a f).1 = 3 ∧ joiL a = 1 := by
    intro a ha f
    have := allI (show (lig4.all fun a => [true, false].all fun f => decide (65269 ≤ (ligL a f).1) && (decide ((ligL a f).1 ≤ 65276) && (clsL (ligL a f).1 == 3 && joiL a == 1))) = true by kernel_rfl) a ha
    have := allI this f (by cases f <;> simp)
    simpa using this
  have hab : ∀ a ∈ lig4, ∀ b ∈ lig4, ∀ f g, ((ligL a f).1 == (ligL b g).1) = (if (a == b) = true then (f == g) else false) := by
    intro a ha b hb f g
    have := allI (show (lig4.all fun a => lig4.all fun b => [true, false].all fun f => [true, false].all fun g => ((ligL a f).1 == (ligL b g).1) == (if (a == b) = true then (f == g) else false)) = true by kernel_rfl) a ha
    have := allI (allI (allI this b hb) f (by cases f <;> simp)) g (by cases g <;> simp)
    simpa using this
  rcases lig_mem a i with ⟨h1, _⟩ | ⟨h1, ha⟩
  · rw [h1]; simp [iteO]
  · obtain ⟨k1, k2, k3, k4⟩ := hcj a ha i
    rcases lig_mem b j with ⟨h2, _⟩ | ⟨h2, hb⟩
    · rw [h2, h1]; simp [iteO, k1, k2, k3, k4]
    · rw [h1, h2, hab a ha b hb i j]
      simp [iteO, k1, k2, k3, k4]
end Go.Vx
