/- Part of a proof; no conditions of its own. -/
import Derived.Test.YtofgfpibcoafgaaE3
set_option linter.all false
namespace Go.Vx
set_option maxRecDepth 100000
variable {l mt : List Int} {b v : Int} {m : Mch}

def dS : Sts := d_embed_status
/-- The levels below the isolates of a stack, the topmost first (the stack's top comes first). -/
def levsR : List Sts → List Int
  | [] => []
  | s :: t => if s.fisolate = true then (t.headD dS).flevel :: levsR t else levsR t
def levs (o : List Sts) : List Int := levsR o.reverse
theorem lastS_rev (o : List Sts) : lastS o = o.reverse.headD dS := by
  by_cases h : 0 < lenL o
  · have e := split_last h
    generalize initS o = p at e
    generalize hs : lastS o = s at e
    subst e
    simp
  · have : o = [] := by
      cases o with
      | nil => rfl
      | cons a t => have := lenL_nn t; simp at h; omega
    subst this
    rfl
theorem levs_push (o : List Sts) (s : Sts) : levs (o ++ [s]) = if s.fisolate = true then (lastS o).flevel :: levs o else levs o := by
  unfold levs
  rw [List.reverse_append, lastS_rev]
  rfl
theorem levs_split {o : List Sts} (h : 0 < lenL o) : levs o = if (lastS o).fisolate = true then (lastS (initS o)).flevel :: levs (initS o) else levs (initS o) := by
  have e := levs_push (initS o) (lastS o)
  rw [← split_last h] at e
  exact e

theorem get_init {o : List Sts} {j : Int} (j0 : 0 ≤ j) (j1 : j < lenL o - 1) : getL dS (initS o) j = getL dS o j := by
  unfold initS
  rw [getL_sub (by omega) j0 (by omega), Int.zero_add]

/-- What popI leaves. -/
theorem popI_spec : ∀ (n : Nat) (o : List Sts), lenL o ≤ n → 0 < cntI o →
    (lastS (popI n o)).fisolate = true ∧ 0 < lenL (popI n o) ∧ lenL (popI n o) ≤ lenL o ∧ levs (popI n o) = levs o ∧ cntI (popI n o) = cntI o ∧ ∀ j, 0 ≤ j → j < lenL (popI n o) → getL dS (popI n o) j = getL dS o j := by
  intro n
  induction n with
  | zero =>
    intro o h1 h2
    have : o = [] := by
      cases o with
      | nil => rfl
      | cons a t => have := lenL_nn t; simp at h1; omega
    subst this
    simp [cntI] at h2
  | succ n ih =>
    intro o h1 h2
    have ho : 0 < lenL o := by
      cases o with
      | nil => simp [cntI] at h2
      | cons a t => have := lenL_nn t; simp; omega
    unfold popI
    split
    · rename_i h
      exact ⟨h, ho, by omega, rfl, rfl, fun j _ _ => rfl⟩
    · rename_i h
      have hl := lenL_init ho
      have hc := cntI_split ho
      rw [if_neg h] at hc
      have hv := levs_split ho
      rw [if_neg h] at hv
      obtain ⟨a, b, c, d, e, f⟩ := ih (initS o) (by omega) (by omega)
      exact ⟨a, b, by omega, by rw [d, hv], by omega, fun j j0 j1 => by rw [f j j0 j1, get_init j0 (by omega)]⟩

theorem popI_loop {o : List Sts} (hn : lenL o < 1000000) (hc : 0 < cntI o) : Yields (loopO (fun (o1 : List T_embed_status) =>
              bindO (ss_last (T_embed_status_.mk o1)) fun v1 =>
              iteO (!v1.fisolate)
                (bindO (ss_pop (T_embed_status_.mk o1)) fun v2 =>
                 some (.go v2.fl))
                (some (.out (Fl.go (γ := T_embed_machine) o1)))) o) (fun r => r = .go (popI o.length o)) := by
  refine .loop (fun p => lenL p ≤ lenL o ∧ 0 < cntI p ∧ popI o.length o = popI p.length p) (fun p => (lenL p).toNat) ⟨by omega, hc, rfl⟩ ?_
  intro p ⟨h1, h2, h3⟩
  have hp : 0 < lenL p := by
    cases p with
    | nil => simp [cntI] at h2
    | cons a t => have := lenL_nn t; simp; omega
  have hl := lenL_init hp
  refine .call (ss_last_eq hp (by omega)) (.ite (fun h => ?_) (fun h => ?_))
  · have h : (lastS p).fisolate = false := by simpa using h
    have hs := cntI_split hp
    rw [h, if_neg (by simp)] at hs
    refine .call (ss_pop_eq hp (by omega)) (.ret ⟨⟨by simp only; omega, by simp only; omega, ?_⟩, by simp only; omega⟩)
    rw [h3]
    have e : p.length = (initS p).length + 1 := by unfold lenL at hl hp; omega
    rw [e]
    show popI ((initS p).length + 1) p = _
    unfold popI
    rw [h, if_neg (by simp)]
    cases (initS p).length <;> rfl
  · have h : (lastS p).fisolate = true := by simpa using h
    refine .ret ?_
    show _ = _
    rw [h3]
    have e : p.length = (initS p).length + 1 := by unfold lenL at hl hp; omega
    rw [e]
    unfold popI
    rw [if_pos h]

theorem Good.cnt (G : Good l mt b v m) : 0 ≤ m.fvalid ∧ m.fvalid ≤ v + 1 := by
  have hva := G.va
  have o1 := G.o1
  have : ∀ o : List Sts, cntI o ≤ o.length := fun o => by
    induction o with
    | nil => simp [cntI]
    | cons s r ih => simp only [cntI, List.length_cons]; split <;> omega
  have := this m.fopen.fl
  unfold lenL at o1; omega

theorem endIso_eq (hb : lenL l ≤ 100000) (G : Good l mt b v m) (v1 : v < lenL l) : m_endIsolate m = some (endIsoM m) := by
  refine Yields.eq ?_
  have em := G.em
  have is := G.is
  have o1 := G.o1
  have o0 := G.o0
  have hv := G.cnt
  have hva := G.va
  unfold m_endIsolate
  refine .ite (fun h => ?_) (fun h => .ite (fun h2 => ?_) (fun h2 => ?_))
  · have h : 0 < m.fisolates := by simpa using h
    refine .chk (inR64 (show _ ≤ m.fisolates - 1 by omega) (show m.fisolates - 1 ≤ _ by omega)) (.ret ?_)
    simp only [endIsoM, h, if_true]
  · have h : ¬ 0 < m.fisolates := by simpa using h
    have h2 : m.fvalid = 0 := by simpa using h2
    refine .ret ?_
    simp only [endIsoM, h, h2, if_true, if_false]
  · have h : ¬ 0 < m.fisolates := by simpa using h
    have h2 : ¬ m.fvalid = 0 := by simpa using h2
    obtain ⟨a1, a2, a3, a4, a5, a6⟩ := popI_spec m.fopen.fl.length m.fopen.fl (by unfold lenL; omega) (by omega)
    refine .cut _ (popI_loop (by omega) (by omega)) ?_
    rintro r rfl
    refine .go (.call (ss_pop_eq a2 (by omega)) (.chk (inR64 (show _ ≤ m.fvalid - 1 by omega) (show m.fvalid - 1 ≤ _ by omega)) (.ret ?_)))
    simp only [endIsoM, h, h2, if_false]

theorem endEmb_eq (hb : lenL l ≤ 100000) (G : Good l mt b v m) (v1 : v < lenL l) : m_endEmbedding m = some (endEmbM m) := by
  refine Yields.eq ?_
  have em := G.em
  have is := G.is
  have o1 := G.o1
  have o0 := G.o0
  unfold m_endEmbedding
  refine .ite (fun h => ?_) (fun h => .ite (fun h2 => ?_) (fun h2 => ?_))
  · have h : 0 < m.fisolates := by simpa using h
    refine .ret ?_
    simp only [endEmbM, h, if_true]
  · have h : ¬ 0 < m.fisolates := by simpa using h
    have h2 : 0 < m.fembeddings := by simpa using h2
    refine .chk (inR64 (show _ ≤ m.fembeddings - 1 by omega) (show m.fembeddings - 1 ≤ _ by omega)) (.ret ?_)
    simp only [endEmbM, h, h2, if_true, if_false]
  · have h : ¬ 0 < m.fisolates := by simpa using h
    have h2 : ¬ 0 < m.fembeddings := by simpa using h2
    refine .call (ss_last_eq (o := m.fopen.fl) o0 (by omega)) ?_
    by_cases hi : (lastS m.fopen.fl).fisolate = true
    · rw [hi]
      refine .call (b := 0) rfl (.ite (fun hh => by cases hh) (fun _ => .ret ?_))
      simp [endEmbM, h, h2, hi]
    · have hi : (lastS m.fopen.fl).fisolate = false := by simpa using hi
      rw [hi]
      refine .call (b := lenL m.fopen.fl) rfl (.ite (fun hh => ?_) (fun hh => ?_))
      · have hh : 2 ≤ lenL m.fopen.fl := by simpa using hh
        refine .call (ss_pop_eq (o := m.fopen.fl) o0 (by omega)) (.ret ?_)
        simp [endEmbM, h, h2, hi, hh]
      · have hh : ¬ 2 ≤ lenL m.fopen.fl := by simpa using hh
        refine .ret ?_
        simp only [endEmbM, h, h2, hi, hh, and_false, if_false]

/-! The steps keep what is true of the machine. -/
theorem Good.up (G : Good l mt b v m) : Good l mt b (v + 1) m :=
  ⟨G.hl, G.hm, G.hb, G.n1, G.n2, G.n3, G.o0, by have := G.o1; omega, by have := G.is; omega, by have := G.em; omega, G.va, G.b0, G.lv⟩
theorem Good.take (G : Good l mt b v m) {i : Int} : Good l mt b v (takeM m i) := ⟨G.hl, G.hm, G.hb, by simpa [takeM] using G.n1, by have := G.n2; simp only [takeM]; split <;> simpa using this, G.n3, G.o0, G.o1, G.is, G.em, G.va, G.b0, G.lv⟩
theorem Good.remove (G : Good l mt b v m) {i : Int} : Good l mt b v (removeM m i) := ⟨G.hl, G.hm, G.hb, by simpa [removeM] using G.n1, G.n2, by simpa [removeM] using G.n3, G.o0, G.o1, G.is, G.em, G.va, G.b0, G.lv⟩
theorem Good.last (G : Good l mt b v m) : 0 ≤ (lastS m.fopen.fl).flevel ∧ (lastS m.fopen.fl).flevel ≤ 125 := G.lv _ (by have := G.o0; omega) (by omega)
theorem Good.push (G : Good l mt b v m) {s : Sts} (h0 : 0 ≤ s.flevel) (h1 : s.flevel ≤ 125) {w : Int} (hw : w = m.fvalid + if s.fisolate = true then 1 else 0) : Good l mt b (v + 1) (pushM { m with fvalid := w } s) := by
  have o0 := G.o0
  have o1 := G.o1
  refine ⟨G.hl, G.hm, G.hb, G.n1, G.n2, G.n3, by simp [pushM]; omega, by simp [pushM]; omega, by have := G.is; simp only [pushM]; omega, by have := G.em; simp only [pushM]; omega, ?_, ?_, fun j j0 j1 => ?_⟩
  · have := G.va
    simp only [pushM, cntI_app, cntI]
    rw [hw]
    split <;> omega
  · simp only [pushM]
    rw [getL_app (by omega), if_pos o0]; exact G.b0
  · simp only [pushM] at j1 ⊢
    rw [lenL_app] at j1
    rw [getL_app j0]
    split
    · exact G.lv j j0 (by assumption)
    · have e : j - lenL m.fopen.fl = 0 := by simp at j1; omega
      rw [e]; exact ⟨h0, h1⟩
theorem mayM_up {odd : Bool} (G : Good l mt b v m) (h : mayM m odd = true) : 0 ≤ upL (lastS m.fopen.fl).flevel odd ∧ upL (lastS m.fopen.fl).flevel odd ≤ 125 ∧ m.fisolates = 0 ∧ m.fembeddings = 0 := by
  have h1 := @upL_le (lastS m.fopen.fl).flevel odd
  have h2 := G.last
  simp only [mayM, Bool.and_eq_true, decide_eq_true_eq, beq_iff_eq] at h
  obtain ⟨⟨a, b⟩, c⟩ := h
  exact ⟨by omega, a, b, c⟩
theorem Good.embedC (G2 : Good l mt b v m) {odd : Bool} {ov : Int} : Good l mt b (v + 1) (embedC m odd ov) := by
  unfold Vx.embedC
  split
  · rename_i h
    obtain ⟨a, b', _, _⟩ := mayM_up G2 h
    exact G2.push (s := ⟨upL (lastS m.fopen.fl).flevel odd, ov, false⟩) (w := m.fvalid) a b' (by simp)
  · split
    · have G3 := G2.up
      have := G2.em
      exact ⟨G3.hl, G3.hm, G3.hb, G3.n1, G3.n2, G3.n3, G3.o0, G3.o1, G3.is, by simp only; omega, G3.va, G3.b0, G3.lv⟩
    · exact G2.up
theorem Good.isolateC (G2 : Good l mt b v m) {odd : Bool} : Good l mt b (v + 1) (isolateC m odd) := by
  unfold Vx.isolateC
  split
  · rename_i h
    obtain ⟨a, b', _, _⟩ := mayM_up G2 h
    exact G2.push (s := ⟨upL (lastS m.fopen.fl).flevel odd, 14, true⟩) (w := m.fvalid + 1) a b' (by simp)
  · have G3 := G2.up
    have := G2.is
    exact ⟨G3.hl, G3.hm, G3.hb, G3.n1, G3.n2, G3.n3, G3.o0, G3.o1, by simp only; omega, G3.em, G3.va, G3.b0, G3.lv⟩
theorem Good.embed (G : Good l mt b v m) {c : Int} : Good l mt b (v + 1) (embedM m v c) := G.remove.embedC
theorem Good.isolate (G : Good l mt b v m) {odd : Bool} : Good l mt b (v + 1) (isolateM m v odd) := G.take.isolateC
/-- What a stack with an isolate on it is once that is gone. -/
theorem Good.popped (G : Good l mt b v m) (h : ¬ m.fvalid = 0) : 
    let q := initS (popI m.fopen.fl.length m.fopen.fl)
    0 < lenL q ∧ lenL q ≤ lenL m.fopen.fl ∧ levs m.fopen.fl = (lastS q).flevel :: levs q ∧ cntI m.fopen.fl = cntI q + 1 ∧ ∀ j, 0 ≤ j → j < lenL q → getL dS q j = getL dS m.fopen.fl j := by
  have hva := G.va
  obtain ⟨a1, a2, a3, a4, a5, a6⟩ := popI_spec m.fopen.fl.length m.fopen.fl (by unfold lenL; omega) (by omega)
  have hl := lenL_init a2
  have hs := levs_split a2
  have hc := cntI_split a2
  rw [a1, if_pos rfl] at hc
  rw [a1, if_pos rfl] at hs
  refine ⟨?_, by omega, by rw [← a4]; exact hs, by omega, fun j j0 j1 => by rw [get_init j0 (by omega), a6 j j0 (by omega)]⟩
  by_cases h1 : lenL (popI m.fopen.fl.length m.fopen.fl) = 1
  · exfalso
    have hb := G.b0
    have h6 := a6 0 (by omega) (by omega)
    have : lastS (popI m.fopen.fl.length m.fopen.fl) = getL dS (popI m.fopen.fl.length m.fopen.fl) 0 := by unfold lastS; rw [h1]; rfl
    rw [this, h6] at a1
    have : (getL dS m.fopen.fl 0).fisolate = false := hb
    rw [this] at a1; cases a1
  · omega
theorem Good.endIso (G : Good l mt b v m) : Good l mt b v (endIsoM m) := by
  unfold endIsoM
  have is := G.is
  split
  · exact ⟨G.hl, G.hm, G.hb, G.n1, G.n2, G.n3, G.o0, G.o1, by simp only; omega, G.em, G.va, G.b0, G.lv⟩
  · split
    · exact G
    · rename_i h
      obtain ⟨a1, a2, a3, a4, a5⟩ := G.popped h
      have o1 := G.o1
      have em := G.em
      have va := G.va
      exact ⟨G.hl, G.hm, G.hb, G.n1, G.n2, G.n3, a1, by simp only; omega, G.is, by simp only; omega, by simp only; omega,
        (by have := a5 0 (by omega) a1; show (getL dS _ 0).fisolate = false; rw [this]; exact G.b0), fun j j0 j1 => (by
          have := a5 j j0 j1
          show 0 ≤ (getL dS _ j).flevel ∧ (getL dS _ j).flevel ≤ 125
          rw [this]; exact G.lv j j0 (by simp only at j1; omega))⟩
theorem Good.endEmb (G : Good l mt b v m) : Good l mt b v (endEmbM m) := by
  unfold endEmbM
  have em := G.em
  split
  · exact G
  · split
    · exact ⟨G.hl, G.hm, G.hb, G.n1, G.n2, G.n3, G.o0, G.o1, G.is, by simp only; omega, G.va, G.b0, G.lv⟩
    · split
      · rename_i h
        obtain ⟨h1, h2⟩ := h
        have o0 := G.o0
        have o1 := G.o1
        have hl := lenL_init o0
        have hc := cntI_split o0
        rw [h1, if_neg (by simp)] at hc
        have va := G.va
        exact ⟨G.hl, G.hm, G.hb, G.n1, G.n2, G.n3, by simp only; omega, by simp only; omega, G.is, G.em, by simp only; omega,
          (by show (getL dS _ 0).fisolate = false; rw [get_init (by omega) (by omega)]; exact G.b0), fun j j0 j1 => (by
            show 0 ≤ (getL dS _ j).flevel ∧ (getL dS _ j).flevel ≤ 125
            simp only at j1
            rw [get_init j0 (by omega)]; exact G.lv j j0 (by omega))⟩
      · exact G
end Go.Vx
