/- Part of a proof; no conditions of its own. -/
import Derived.Test.YtofgfpibcoafgaaE1
set_option linter.all false
namespace Go.Vx
set_option maxRecDepth 100000

/-! The machine's steps as plain functions. -/
abbrev Mch := T_embed_machine
abbrev Sts := T_embed_status
def lastS (o : List Sts) : Sts := getL d_embed_status o (lenL o - 1)
def initS (o : List Sts) : List Sts := subL o 0 (lenL o - 1)

def takeM (m : Mch) (i : Int) : Mch :=
  let s := lastS m.fopen.fl
  { m with frun := { m.frun with fLevels := setL m.frun.fLevels i s.flevel, fClasses := if s.foverride = 14 then m.frun.fClasses else setL m.frun.fClasses i s.foverride } }
def removeM (m : Mch) (i : Int) : Mch :=
  { m with frun := { m.frun with fLevels := setL m.frun.fLevels i (lastS m.fopen.fl).flevel, fRemoved := setL m.frun.fRemoved i true } }
def upL (x : Int) (odd : Bool) : Int := if ((Int.tmod (x + 1) 2 == 1) == odd) = true then x + 1 else x + 2
def mayM (m : Mch) (odd : Bool) : Bool := decide (upL (lastS m.fopen.fl).flevel odd ≤ 125) && m.fisolates == 0 && m.fembeddings == 0
def pushM (m : Mch) (s : Sts) : Mch := { m with fopen := ⟨m.fopen.fl ++ [s]⟩ }
def embedC (m : Mch) (odd : Bool) (ov : Int) : Mch :=
  if mayM m odd = true then pushM m ⟨upL (lastS m.fopen.fl).flevel odd, ov, false⟩
  else if m.fisolates = 0 then { m with fembeddings := m.fembeddings + 1 } else m
def embedM (m : Mch) (i c : Int) : Mch := embedC (removeM m i) (c == 17 || c == 18) (if c = 18 then 2 else if c = 16 then 1 else 14)
def isolateC (m : Mch) (odd : Bool) : Mch :=
  if mayM m odd = true then pushM { m with fvalid := m.fvalid + 1 } ⟨upL (lastS m.fopen.fl).flevel odd, 14, true⟩
  else { m with fisolates := m.fisolates + 1 }
def isolateM (m : Mch) (i : Int) (odd : Bool) : Mch := isolateC (takeM m i) odd
def popI : Nat → List Sts → List Sts
  | 0, o => o
  | n + 1, o => if (lastS o).fisolate = true then o else popI n (initS o)
def endIsoM (m : Mch) : Mch :=
  if 0 < m.fisolates then { m with fisolates := m.fisolates - 1 }
  else if m.fvalid = 0 then m
  else { m with fopen := ⟨initS (popI m.fopen.fl.length m.fopen.fl)⟩, fembeddings := 0, fvalid := m.fvalid - 1 }
def endEmbM (m : Mch) : Mch :=
  if 0 < m.fisolates then m
  else if 0 < m.fembeddings then { m with fembeddings := m.fembeddings - 1 }
  else if (lastS m.fopen.fl).fisolate = false ∧ 2 ≤ lenL m.fopen.fl then { m with fopen := ⟨initS m.fopen.fl⟩ } else m

/-- How many isolates stand on the stack. -/
def cntI : List Sts → Nat
  | [] => 0
  | s :: r => (if s.fisolate = true then 1 else 0) + cntI r
theorem cntI_app (a b : List Sts) : cntI (a ++ b) = cntI a + cntI b := by
  induction a with
  | nil => simp [cntI]
  | cons s r ih => simp only [List.cons_append, cntI, ih]; omega

theorem split_last {o : List Sts} (h : 0 < lenL o) : o = initS o ++ [lastS o] := by
  refine extL d_embed_status ?_ fun i i0 i1 => ?_
  · rw [lenL_app, show lenL (initS o) = lenL o - 1 by unfold initS; rw [lenL_sub (by omega) (by omega) (by omega)]; omega]; simp
  · have hl : lenL (initS o) = lenL o - 1 := by unfold initS; rw [lenL_sub (by omega) (by omega) (by omega)]; omega
    rw [getL_app i0]
    by_cases hi : i < lenL (initS o)
    · rw [if_pos hi]; unfold initS; rw [getL_sub (by omega) i0 (by omega), Int.zero_add]
    · rw [if_neg hi]
      have e : i = lenL o - 1 := by omega
      subst e
      rw [hl, Int.sub_self]; rfl
theorem lenL_init {o : List Sts} (h : 0 < lenL o) : lenL (initS o) = lenL o - 1 := by
  unfold initS; rw [lenL_sub (by omega) (by omega) (by omega)]; omega
theorem lastS_push (o : List Sts) (s : Sts) : lastS (o ++ [s]) = s := by
  unfold lastS
  rw [lenL_app]
  have : lenL o + lenL [s] - 1 = lenL o := by simp
  rw [this, getL_snoc]
theorem initS_push (o : List Sts) (s : Sts) : initS (o ++ [s]) = o := by
  have h := split_last (o := o ++ [s]) (by rw [lenL_app]; have := lenL_nn o; simp; omega)
  rw [lastS_push] at h
  exact (List.append_cancel_right h).symm

/-- What stays true of the machine while it goes over n letters. -/
structure Good (l mt : List Int) (b v : Int) (m : Mch) : Prop where
  hl : m.fl = l
  hm : m.fmatch = mt
  hb : m.fbase = b
  n1 : lenL m.frun.fLevels = lenL l
  n2 : lenL m.frun.fClasses = lenL l
  n3 : lenL m.frun.fRemoved = lenL l
  o0 : 0 < lenL m.fopen.fl
  o1 : lenL m.fopen.fl ≤ v + 1
  is : 0 ≤ m.fisolates ∧ m.fisolates ≤ v
  em : 0 ≤ m.fembeddings ∧ m.fembeddings ≤ v
  va : m.fvalid = (cntI m.fopen.fl : Nat)
  b0 : (getL d_embed_status m.fopen.fl 0).fisolate = false
  lv : ∀ j, 0 ≤ j → j < lenL m.fopen.fl → 0 ≤ (getL d_embed_status m.fopen.fl j).flevel ∧ (getL d_embed_status m.fopen.fl j).flevel ≤ 125

theorem ss_last_eq {o : List Sts} (h0 : 0 < lenL o) (h : lenL o < 1000000) : ss_last ⟨o⟩ = some (lastS o) := by
  unfold ss_last
  rw [chk_ok (inR64 (by simp only; omega) (by simp only; omega)), chk_ok ⟨by simp only; omega, by simp only; omega⟩]; rfl
theorem ss_pop_eq {o : List Sts} (h0 : 0 < lenL o) (h : lenL o < 1000000) : ss_pop ⟨o⟩ = some ⟨initS o⟩ := by
  unfold ss_pop
  rw [chk_ok (inR64 (by simp only; omega) (by simp only; omega)), chk_ok ⟨by omega, by simp only; omega, by simp only; omega⟩]
  simp [initS]
theorem ss_push_eq {o : List Sts} {s : Sts} (h : lenL o < 1000000) : ss_push ⟨o⟩ s = some ⟨o ++ [s]⟩ := by
  have := lenL_nn o
  unfold ss_push
  rw [chk_ok (grOk (by simp only; omega) (by simp only; omega) (by omega))]

variable {l mt : List Int} {b v : Int} {m : Mch}
theorem take_eq (hb : lenL l ≤ 100000) (G : Good l mt b v m) {i : Int} (i0 : 0 ≤ i) (i1 : i < lenL l) (hv : v ≤ lenL l) : m_take m i = some (takeM m i) := by
  obtain ⟨ml, mm, mb, ⟨a1, a2, a3⟩, ⟨o⟩, is, em, va⟩ := m
  have n1 : lenL a1 = lenL l := G.n1
  have n2 : lenL a2 = lenL l := G.n2
  have o0 : 0 < lenL o := G.o0
  have o1 : lenL o ≤ v + 1 := G.o1
  unfold m_take
  simp only [ss_last_eq o0 (show lenL o < 1000000 by omega)]
  show (chk _ _) = _
  rw [chk_ok ⟨i0, by omega⟩]
  by_cases h : (lastS o).foverride = 14
  · have e : (!((lastS o).foverride == 14)) = false := by simp [h]
    rw [e]
    simp [takeM, h, iteO]
  · have e : (!((lastS o).foverride == 14)) = true := by simp [h]
    rw [e]
    show chk _ _ = _
    rw [chk_ok ⟨i0, by omega⟩]
    simp [takeM, h]
theorem remove_eq (hb : lenL l ≤ 100000) (G : Good l mt b v m) {i : Int} (i0 : 0 ≤ i) (i1 : i < lenL l) (hv : v ≤ lenL l) : m_remove m i = some (removeM m i) := by
  obtain ⟨ml, mm, mb, ⟨a1, a2, a3⟩, ⟨o⟩, is, em, va⟩ := m
  have n1 : lenL a1 = lenL l := G.n1
  have n3 : lenL a3 = lenL l := G.n3
  have o0 : 0 < lenL o := G.o0
  have o1 : lenL o ≤ v + 1 := G.o1
  unfold m_remove
  simp only [ss_last_eq o0 (show lenL o < 1000000 by omega)]
  show (chk _ _) = _
  rw [chk_ok ⟨i0, by omega⟩, chk_ok ⟨i0, by omega⟩]
  rfl
theorem next_eq (hb : lenL l ≤ 100000) (G : Good l mt b v m) (hv : v ≤ lenL l) (odd : Bool) : m_next m odd = some (upL (lastS m.fopen.fl).flevel odd, mayM m odd) := by
  obtain ⟨ml, mm, mb, ⟨a1, a2, a3⟩, ⟨o⟩, is, em, va⟩ := m
  have o0 : 0 < lenL o := G.o0
  have o1 : lenL o ≤ v + 1 := G.o1
  have lv : 0 ≤ (lastS o).flevel ∧ (lastS o).flevel ≤ 125 := G.lv (lenL o - 1) (by omega) (show lenL o - 1 < lenL o by omega)
  unfold m_next
  simp only [ss_last_eq o0 (show lenL o < 1000000 by omega)]
  show (chk _ _) = _
  rw [chk_ok (inR64 (by omega) (by omega))]
  show (chk _ _) = _
  rw [chk_ok (by decide)]
  by_cases h : ((Int.tmod ((lastS o).flevel + 1) 2 == 1) == odd) = true
  · have e : (!((Int.tmod ((lastS o).flevel + 1) 2 == 1) == odd)) = false := by rw [h]; rfl
    simp only [e]
    show some _ = _
    simp only [upL, mayM, h, if_true]
    congr 2
    cases decide ((lastS o).flevel + 1 ≤ 125) <;> cases (is == 0) <;> cases (em == 0) <;> rfl
  · have h : ((Int.tmod ((lastS o).flevel + 1) 2 == 1) == odd) = false := by simpa using h
    have e : (!((Int.tmod ((lastS o).flevel + 1) 2 == 1) == odd)) = true := by rw [h]; rfl
    simp only [e]
    show (chk _ _) = _
    rw [chk_ok (inR64 (by omega) (by omega))]
    have e2 : (lastS o).flevel + 1 + 1 = (lastS o).flevel + 2 := by omega
    simp only [upL, mayM, h, e2, Bool.false_eq_true, if_false]
    congr 2
    cases decide ((lastS o).flevel + 2 ≤ 125) <;> cases (is == 0) <;> cases (em == 0) <;> rfl

theorem upL_le {x : Int} {odd : Bool} : x + 1 ≤ upL x odd ∧ upL x odd ≤ x + 2 := by unfold upL; split <;> omega

theorem embed_eq (hb : lenL l ≤ 100000) (G : Good l mt b v m) (v0 : 0 ≤ v) (v1 : v < lenL l) {c : Int} : m_embed m v c = some (embedM m v c) := by
  have G2 : Good l mt b v (removeM m v) := ⟨G.hl, G.hm, G.hb, by simpa [removeM] using G.n1, G.n2, by simpa [removeM] using G.n3, G.o0, G.o1, G.is, G.em, G.va, G.b0, G.lv⟩
  unfold m_embed
  rw [remove_eq hb G v0 v1 (by omega)]
  show bindO (m_next (removeM m v) _) _ = _
  rw [next_eq hb G2 (by omega)]
  have eo : (if (c == 17) = true then true else (c == 18)) = (c == 17 || c == 18) := by cases (c == 17) <;> rfl
  rw [eo]
  show iteO (!(mayM (removeM m v) (c == 17 || c == 18))) _ _ = _
  have em := G.em
  have o1 := G.o1
  have o0 := G.o0
  by_cases h : mayM (removeM m v) (c == 17 || c == 18) = true
  · rw [h]
    refine Yields.eq ?_
    refine .ite (fun hh => by cases hh) (fun _ => ?_)
    refine .cut (fun r => r = .go (if c = 18 then 2 else if c = 16 then 1 else 14)) ?_ ?_
    · refine .ite (fun h1 => .ret ?_) (fun h1 => .ite (fun h2 => .ret ?_) (fun h2 => .ret ?_))
      · rw [if_pos (by simpa using h1)]
      · rw [if_neg (by simpa using h1), if_pos (by simpa using h2)]
      · rw [if_neg (by simpa using h1), if_neg (by simpa using h2)]
    · rintro r rfl
      refine .go (.call (ss_push_eq (o := m.fopen.fl) (by omega)) (.ret ?_))
      simp only [embedM, embedC, h, if_true]
      rfl
  · have h : mayM (removeM m v) (c == 17 || c == 18) = false := by simpa using h
    rw [h]
    show iteO ((removeM m v).fisolates == 0) _ _ = _
    simp only [embedM, embedC, h, Bool.false_eq_true, if_false]
    by_cases h2 : (removeM m v).fisolates = 0
    · have e : ((removeM m v).fisolates == 0) = true := by simpa using h2
      rw [e, if_pos h2]
      show chk (inR .i64 (m.fembeddings + 1)) _ = _
      rw [chk_ok (inR64 (show _ ≤ m.fembeddings + 1 by omega) (show m.fembeddings + 1 ≤ _ by omega))]
    · have e : ((removeM m v).fisolates == 0) = false := by simpa using h2
      rw [e, if_neg h2]; rfl

theorem base_yields {l mt : List Int} {s e : Int} (hb : lenL l ≤ 100000) (s0 : 0 ≤ s) (e1 : e ≤ lenL l) (hm : lenL mt = lenL l) (hg : ∀ i, 0 ≤ i → i < lenL l → Op l i → i < getL 0 mt i ∧ getL 0 mt i ≤ lenL l) :
    Yields (embed_base_ l mt s e) (fun r => r = 0 ∨ r = 1) := by
  unfold embed_base_
  refine .cut (fun r => r = .go () ∨ r = .out 0 ∨ r = .out 1) ?_ (fun r hr => ?_)
  · refine .loop (fun i => 0 ≤ i) (fun i => (e - i).toNat) s0 ?_
    intro i i0
    refine .ite (fun h => ?_) (fun _ => .ret (.inl rfl))
    have h : i < e := by simpa using h
    have hl : i < lenL l := by omega
    refine .cut (fun r => (∃ k, r = .go k ∧ i ≤ k ∧ k ≤ lenL l) ∨ r = .out (.out (.out 0)) ∨ r = .out (.out (.out 1))) ?_ (fun r hr => ?_)
    · refine .chk ⟨i0, hl⟩ ?_
      refine .cut (fun r => ∃ q : Bool, r = .go q) (.ite (fun _ => .ret ⟨_, rfl⟩) (fun _ => .ret ⟨_, rfl⟩)) ?_
      rintro r ⟨q, rfl⟩
      refine .go (.ite (fun _ => .ret (.inr (.inl rfl))) (fun _ => ?_))
      refine .cut (fun r => ∃ q : Bool, r = .go q) (.ite (fun _ => .ret ⟨_, rfl⟩) (fun _ => .ret ⟨_, rfl⟩)) ?_
      rintro r ⟨q, rfl⟩
      refine .go (.ite (fun _ => .ret (.inr (.inr rfl))) (fun _ => ?_))
      have hop : ∀ k : Int, (getL 0 l i == k) = true → 20 ≤ k → k ≤ 22 → Op l i := fun k hk h1 h2 => by
        have : getL 0 l i = k := by simpa using hk
        unfold Op; omega
      refine .ite (fun h1 => ?_) (fun _ => ?_)
      · refine .ite (fun _ => .chk ⟨i0, by omega⟩ (.ret (.inl ?_))) (fun _ => .ret (.inl ⟨i, rfl, by omega, by omega⟩))
        obtain ⟨a, b⟩ := hg i i0 hl (hop _ h1 (by omega) (by omega))
        exact ⟨_, rfl, by omega, b⟩
      · refine .ite (fun h1 => ?_) (fun _ => ?_)
        · refine .ite (fun _ => .chk ⟨i0, by omega⟩ (.ret (.inl ?_))) (fun _ => .ret (.inl ⟨i, rfl, by omega, by omega⟩))
          obtain ⟨a, b⟩ := hg i i0 hl (hop _ h1 (by omega) (by omega))
          exact ⟨_, rfl, by omega, b⟩
        · refine .ite (fun h1 => .chk ⟨i0, by omega⟩ (.ret (.inl ?_))) (fun _ => .ret (.inl ⟨i, rfl, by omega, by omega⟩))
          obtain ⟨a, b⟩ := hg i i0 hl (hop _ h1 (by omega) (by omega))
          exact ⟨_, rfl, by omega, b⟩
    · rcases hr with ⟨k, rfl, k0, k1⟩ | rfl | rfl
      · exact .go (.chk (inR64 (by omega) (by omega)) (.ret ⟨by omega, by simp only; omega⟩))
      · exact .out (.inr (.inl rfl))
      · exact .out (.inr (.inr rfl))
  · rcases hr with rfl | rfl | rfl
    · exact .go (.ret (.inl rfl))
    · exact .out (.inl rfl)
    · exact .out (.inr rfl)

theorem isolate_eq (hb : lenL l ≤ 100000) (G : Good l mt b v m) (v0 : 0 ≤ v) (v1 : v < lenL l) (hm : lenL mt = lenL l) (hg : ∀ i, 0 ≤ i → i < lenL l → Op l i → i < getL 0 mt i ∧ getL 0 mt i ≤ lenL l) (hO : Op l v) {c : Int} : ∃ odd, m_isolate m v c = some (isolateM m v odd) := by
  have G2 : Good l mt b v (takeM m v) := ⟨G.hl, G.hm, G.hb, by simpa [takeM] using G.n1, by have := G.n2; simp only [takeM]; split <;> simpa using this, G.n3, G.o0, G.o1, G.is, G.em, G.va, G.b0, G.lv⟩
  have em := G.em
  have is := G.is
  have o1 := G.o1
  have o0 := G.o0
  have h : Yields (m_isolate m v c) (fun r => ∃ odd, r = isolateM m v odd) := by
    unfold m_isolate
    refine .cut (fun r => ∃ odd, r = .go odd) ?_ ?_
    · refine .ite (fun _ => ?_) (fun _ => .ret ⟨_, rfl⟩)
      rw [G.hm, G.hl]
      refine .chk (inR64 (by omega) (by omega)) (.chk ⟨v0, by omega⟩ (.bind _ (base_yields hb (by omega) ?_ hm hg) fun x _ => .ret ⟨_, rfl⟩))
      exact (hg v v0 v1 hO).2
    · rintro r ⟨odd, rfl⟩
      refine .go (.call (take_eq hb G v0 v1 (by omega)) (.call (next_eq hb G2 (by omega) odd) ?_))
      refine .ite (fun hh => ?_) (fun hh => ?_)
      · have hh : mayM (takeM m v) odd = false := by simpa using hh
        refine .chk (inR64 (show _ ≤ m.fisolates + 1 by omega) (show m.fisolates + 1 ≤ _ by omega)) (.ret ⟨odd, ?_⟩)
        simp only [isolateM, isolateC, hh, Bool.false_eq_true, if_false]
      · have hh : mayM (takeM m v) odd = true := by simpa using hh
        have hva := G.va
        have hcn : (cntI m.fopen.fl : Int) ≤ lenL m.fopen.fl := by
          have : ∀ o : List Sts, cntI o ≤ o.length := fun o => by
            induction o with
            | nil => simp [cntI]
            | cons s r ih => simp only [cntI, List.length_cons]; split <;> omega
          have := this m.fopen.fl
          unfold lenL; omega
        refine .chk (inR64 (show _ ≤ m.fvalid + 1 by omega) (show m.fvalid + 1 ≤ _ by omega)) (.call (ss_push_eq (o := m.fopen.fl) (by omega)) (.ret ⟨odd, ?_⟩))
        simp only [isolateM, isolateC, hh, if_true]
        rfl
  obtain ⟨r, h1, odd, rfl⟩ := h
  exact ⟨odd, h1⟩

/-- What stands on the stack below its last isolate. -/
theorem cntI_split {o : List Sts} (h : 0 < lenL o) : cntI o = cntI (initS o) + (if (lastS o).fisolate = true then 1 else 0) := by
  have e := split_last h
  have := cntI_app (initS o) [lastS o]
  rw [← e] at this
  simpa [cntI] using this
end Go.Vx
