/- A function's contract from its code. -/
import Derived.Test.YtigfggfbpdhmfaaDoorVxWp
set_option linter.all false
namespace Go.Vx

/-- The one says what the other says, and holds nothing of the callee's objects. -/
def out0 (p : Pr) : D → D → Prop
  | _, .junk => True
  | .v (.int k x), .v (.int k' y) => if k = k' then p.eqI x y else False
  | .v (.bool x), .v (.bool y) => p.eqB x y
  | .v (.string x), .v (.string y) => p.eqS x y
  | .v .nilIface, .v .nilIface => True
  | .nilsl, .nilsl => True
  | .nilsl, .sl _ n _ _ => p.eqI n 0
  | .sl sz n t f, .sl sz' n' t' f' => if Nat.beq sz sz' then p.eqI n n' ∧ p.imp t' (p.tru t) ∧ p.all2 n sz (fun i j => out0 p (f i j) (f' i j)) else False
  | .agg k c, .agg k' c' => if Nat.beq k k' then p.all2 1 k (fun _ j => out0 p (c j) (c' j)) else False
  | .tup k c, .tup k' c' => if Nat.beq k k' then p.all2 1 k (fun _ j => out0 p (c j) (c' j)) else False
  | _, _ => False

/-- As before, but a list of the callee's own may be handed out. -/
def out1 (p : Pr) (objs : List (Option Ob)) : D → D → Prop
  | .vec id g sz off n, d' => match d' with
    | .sl sz' n' t' f' => match objs[id]? with
      | some (some (.arr g' sz'' N t f)) => if Nat.beq sz sz' && Nat.beq sz sz'' then
          p.eqN g g' ∧ p.eqI n n' ∧ p.imp t' (p.tru (p.band2 t (p.eq (p.add off n) N))) ∧ p.all2 n sz (fun i j => out0 p (f (p.add off i) j) (f' i j))
        else False
      | _ => False
    | .junk => True
    | _ => False
  | .agg k c, .agg k' c' => if Nat.beq k k' then p.all2 1 k (fun _ j => out1 p objs (c j) (c' j)) else False
  | d, d' => out0 p d d'

/-- What is handed out at the top: several values; or a list nobody else holds. -/
def outT (p : Pr) (objs : List (Option Ob)) : List D → D → Prop
  | [d], .own sz' n' t' f' => match d with
    | .vec id g sz off n => match objs[id]? with
      | some (some (.arr g' sz'' N t f)) => if Nat.beq sz sz' && Nat.beq sz sz'' then
          p.eqN g g' ∧ p.eqI n n' ∧ p.imp t' (p.tru (p.band2 t (p.eq (p.add off n) N))) ∧ p.all2 n sz (fun i j => out0 p (f (p.add off i) j) (f' i j))
        else False
      | _ => False
    | .nilsl => p.eqI n' 0
    | _ => False
  | [d], d' => out1 p objs d d'
  | [a, b], .tup k c => if Nat.beq k 2 then out1 p objs a (c 0) ∧ out1 p objs b (c 1) else False
  | [a, b, e], .tup k c => if Nat.beq k 3 then out1 p objs a (c 0) ∧ out1 p objs b (c 1) ∧ out1 p objs e (c 2) else False
  | [], .tup k _ => if Nat.beq k 0 then True else False
  | _, _ => False

def resL (p : Pr) (tt : TT) (objs : List (Option Ob)) (slots : List D) : List ResultVar → Option (List D × List Prop)
  | [] => some ([], [])
  | .tmp t :: r => match resL p tt objs slots r with
    | some (ds, os) => let s := strip p (slots.getD t .junk); some (s.1 :: ds, s.2 ++ os)
    | none => none
  | .cell x t :: r => match tget tt t, strip p (slots.getD x .junk), resL p tt objs slots r with
    | some ti, (.bref id g j, os1), some (ds, os) => match loadD p objs ti (.bref id g j) with
      | some (d, os2) => some (d :: ds, os1 ++ os2 ++ os)
      | none => none
    | _, _, _ => none

def retQ (p : Pr) (tt : TT) (rs : List ResultVar) (res : D) : Exit → St → Prop
  | .normal, st => match resL p tt st.objs st.slots rs with
    | some (ds, os) => conj os (outT p st.objs ds res)
    | none => False
  | .ret, st => match resL p tt st.objs st.slots rs with
    | some (ds, os) => conj os (outT p st.objs ds res)
    | none => False
  | _, _ => False

section
variable {P : Program} {h : Array Obj} {I : Nat → Prop} {β : Nat → Option (Nat × Nat × Nat)} {objs : List (Option Ob)} {ctr : Nat}

theorem out0_ok : ∀ (d d' : D) (y : Value), out0 (std P) d d' → Rd h I β objs ctr d y → Rd h I (fun _ => none) [] 0 d' y := by
  intro d
  induction d with
  | v x =>
    intro d' y ho hr
    cases hr
    cases d' with
    | junk => trivial
    | v x' =>
      cases x <;> cases x' <;> simp only [out0] at ho <;> first | exact ho.elim | skip
      case int.int k x k' x' =>
        split at ho
        · rename_i hk; subst hk; cases ho; rfl
        · exact ho.elim
      case nilIface.nilIface => rfl
      all_goals (cases ho; rfl)
    | _ => cases x <;> simp [out0] at ho
  | nilsl =>
    intro d' y ho hr
    cases hr
    cases d' with
    | junk => trivial
    | nilsl => rfl
    | sl sz n t f =>
      have ho : n = 0 := ho
      subst ho
      exact ⟨none, 0, 0, rfl, rfl, Nat.le_refl _, fun _ => rfl, fun h => by omega⟩
    | _ => simp [out0] at ho
  | sl sz n t f ih =>
    intro d' y ho hr
    cases d' with
    | junk => trivial
    | sl sz' n' t' f' =>
      simp only [out0] at ho
      split at ho
      · rename_i hk
        have hk := Nat.eq_of_beq_eq_true hk; subst hk
        obtain ⟨h1, h2, h3⟩ := ho
        have h1 : n = n' := h1
        subst h1
        obtain ⟨ad, len, cap, rfl, x1, x2, x3, x4⟩ := hr
        refine ⟨ad, len, cap, rfl, x1, x2, fun ht => x3 (h2 ht), fun hp => ?_⟩
        obtain ⟨b, o, c, e, fr, e1, e2, e3, e4⟩ := x4 hp
        refine ⟨b, o, c, e, fr, e1, e2, e3, fun i hi j hj => ?_⟩
        obtain ⟨z, z1, z2, z3⟩ := e4 i hi j hj
        exact ⟨z, z1, z2, ih _ _ _ _ (h3 i (by omega) (by omega) j hj) z3⟩
      · exact ho.elim
    | _ => simp [out0] at ho
  | agg k c ih =>
    intro d' y ho hr
    cases d' with
    | junk => trivial
    | agg k' c' =>
      simp only [out0] at ho
      split at ho
      · rename_i hk
        have hk := Nat.eq_of_beq_eq_true hk; subst hk
        obtain ⟨ys, rfl, x1, x2⟩ := hr
        refine ⟨ys, rfl, x1, fun j hj => ?_⟩
        obtain ⟨z, z1, z2, z3⟩ := x2 j hj
        exact ⟨z, z1, z2, ih _ _ _ (ho 0 (by omega) (by omega) j hj) z3⟩
      · exact ho.elim
    | _ => simp [out0] at ho
  | tup k c ih =>
    intro d' y ho hr
    cases d' with
    | junk => trivial
    | tup k' c' =>
      simp only [out0] at ho
      split at ho
      · rename_i hk
        have hk := Nat.eq_of_beq_eq_true hk; subst hk
        obtain ⟨ys, rfl, x1, x2⟩ := hr
        refine ⟨ys, rfl, x1, fun j hj => ?_⟩
        obtain ⟨z, z1, z3⟩ := x2 j hj
        exact ⟨z, z1, ih _ _ _ (ho 0 (by omega) (by omega) j hj) z3⟩
      · exact ho.elim
    | _ => simp [out0] at ho
  | _ =>
    intro d' y ho hr
    cases d' with
    | junk => trivial
    | _ => simp [out0] at ho

def retV : List Value → Value
  | [v] => v
  | vs => .tuple vs.toArray

/-- Readings outlast that more blocks are called frozen. -/
theorem Goes.ice (h : Array Obj) (I I' : Nat → Prop) (hI : ∀ b, I b → I' b) : Goes h I (fun _ => none) [] 0 h I' (fun _ => none) [] 0 :=
  ⟨hI, fun _ _ => rfl, fun _ _ x => x, fun _ _ _ o' ho' _ _ => ⟨o', ho', Ob.like_refl _, rfl⟩⟩

theorem out1_ok (hrob : ∀ (k : Nat) (o : Ob), objs[k]? = some (some o) → Rob h I β objs ctr k o) : ∀ (d d' : D) (y : Value), out1 (std P) objs d d' → Rd h I β objs ctr d y →
    Rd h (fun b => I b ∨ Blocks β b) (fun _ => none) [] 0 d' y := by
  intro d
  have h0 : ∀ d d' y, out0 (std P) d d' → Rd h I β objs ctr d y → Rd h (fun b => I b ∨ Blocks β b) (fun _ => none) [] 0 d' y := fun d d' y ho hr =>
    Rd.mono (Goes.ice h I _ (fun b hb => .inl hb)) _ _ (out0_ok d d' y ho hr)
  induction d with
  | vec k g sz off n =>
    intro d' y ho hr
    cases d' with
    | junk => trivial
    | sl sz' n' t' f' =>
      simp only [out1] at ho
      split at ho
      · rename_i g' sz'' N t f hob
        split at ho
        · rename_i hk
          simp only [Bool.and_eq_true] at hk
          have hk1 := Nat.eq_of_beq_eq_true hk.1; subst hk1
          have hk2 := Nat.eq_of_beq_eq_true hk.2; subst hk2
          obtain ⟨o1, o2, o3, o4⟩ := ho
          have o1 : g = g' := o1
          subst o1
          have o2 : n = n' := o2
          subst o2
          obtain ⟨ad, len, cap, rfl, x1, x2, x3, x4⟩ := vec_cells hr hob (hrob _ _ hob)
          refine ⟨ad, len, cap, rfl, x1, x2, fun ht => x3 (o3 ht), fun hp => ?_⟩
          obtain ⟨b, o, c, e, s, y1, rfl, y2, y3, y4, y5⟩ := x4 (by omega)
          refine ⟨b, o, c, e, _, rfl, .inr ⟨k, _, y1, rfl⟩, y2, fun i hi j hj => ?_⟩
          obtain ⟨z, z1, z2, z3⟩ := y5 i hi j hj
          exact ⟨z, z1, z2, h0 _ _ _ (o4 i (by omega) (by omega) j hj) z3⟩
        · exact ho.elim
      · exact ho.elim
    | _ => simp [out1] at ho
  | agg k c ih =>
    intro d' y ho hr
    cases d' with
    | junk => trivial
    | agg k' c' =>
      simp only [out1] at ho
      split at ho
      · rename_i hk
        have hk := Nat.eq_of_beq_eq_true hk; subst hk
        obtain ⟨ys, rfl, x1, x2⟩ := hr
        refine ⟨ys, rfl, x1, fun j hj => ?_⟩
        obtain ⟨z, z1, z2, z3⟩ := x2 j hj
        exact ⟨z, z1, z2, ih _ _ _ (ho 0 (by omega) (by omega) j hj) z3⟩
      · exact ho.elim
    | _ => exact h0 _ _ _ (by simpa [out1] using ho) hr
  | _ => intro d' y ho hr; exact h0 _ _ _ (by simpa [out1] using ho) hr
end

theorem resL_len {p : Pr} {tt : TT} {objs : List (Option Ob)} {slots : List D} : ∀ {rs : List ResultVar} {ds : List D} {os : List Prop}, resL p tt objs slots rs = some (ds, os) → ds.length = rs.length
  | [], _, _, h => by simp only [resL, Option.some.injEq, Prod.mk.injEq] at h; rw [← h.1]; rfl
  | .tmp t :: r, _, _, h => by
    simp only [resL] at h
    split at h
    · rename_i ds os h'
      simp only [Option.some.injEq, Prod.mk.injEq] at h
      rw [← h.1]; simp [resL_len h']
    · cases h
  | .cell x t :: r, _, _, h => by
    simp only [resL] at h
    split at h
    · rename_i h'
      split at h
      · simp only [Option.some.injEq, Prod.mk.injEq] at h
        rw [← h.1]; simp [resL_len h']
      · cases h
    · cases h

section
variable {P : Program} {B0 : Nat} {h0 : Array Obj} {I0 I : Nat → Prop} {L : Lend} {β : Nat → Option (Nat × Nat × Nat)} {slots : List D} {objs : List (Option Ob)} {ctr : Nat} {a : Act} {w : World}

theorem cell_ok {tt : TT} (hT : TTok P tt) (R : RM B0 h0 I0 L I β slots objs ctr a w) {t : TypeId} {ti : TI} (ht : tget tt t = some ti) {id g j : Nat} {d : D} {os : List Prop} {y : Value}
    (he : loadD (std P) objs ti (.bref id g j) = some (d, os)) (hos : ∀ q ∈ os, q) (hy : Rd w.heap I β objs ctr (.bref id g j) y) : ∃ z, (do loadVar t (← asAddr y)).run P w = .ok z w ∧ Rd w.heap I β objs ctr d z := by
  simp only [loadD] at he
  split at he
  · rename_i g' cs ho
    cases hl : ldCells ti cs.length j (fun j => cs.getD j .junk) with
    | none => rw [hl] at he; cases he
    | some d' =>
      simp only [hl, Option.map_some, Option.some.injEq, Prod.mk.injEq] at he
      obtain ⟨rfl, rfl⟩ := he
      have hg : g = g' := hos _ (List.mem_singleton.2 rfl)
      subst hg
      obtain ⟨_, _, hx⟩ := hy
      obtain ⟨b, o, s, hb, rfl⟩ := hx _ ho
      obtain ⟨_, b', o', s', c, e, q1, q2, q3, _, q5, q6⟩ := R.ob id _ ho
      rw [hb] at q1; cases q1
      obtain ⟨z, z1, z2⟩ := loadVar_ok (h := w.heap) (I := I) (β := β) (objs := objs) (ctr := ctr) hT ht (base := o) q2 hl (fun jj hjj => by
        have := q6 jj (cs.getD jj .junk) (by simp [List.getD, List.getElem?_eq_getElem hjj])
        exact this)
      exact ⟨z, by simp [asAddr, z1], z2⟩
  · cases he

theorem resL_ok {tt : TT} (hT : TTok P tt) (R : RM B0 h0 I0 L I β slots objs ctr a w) (F : ResultVar → Sem Value) (hF : ∀ t, F (.tmp t) = pure (a.tmps.getD t undef)) (hC : ∀ x t, F (.cell x t) = do loadVar t (← asAddr (a.tmps.getD x undef))) : ∀ {rs : List ResultVar} {ds : List D} {os : List Prop},
    resL (std P) tt objs slots rs = some (ds, os) → (∀ q ∈ os, q) → ∃ vs : List Value, (rs.mapM F).run P w = .ok vs w ∧ vs.length = rs.length ∧
      ∀ (t : Nat) (d : D), ds[t]? = some d → ∃ y, vs[t]? = some y ∧ Rd w.heap I β objs ctr d y
  | [], _, _, h, _ => by
    simp only [resL, Option.some.injEq, Prod.mk.injEq] at h
    obtain ⟨rfl, rfl⟩ := h
    exact ⟨[], by simp, rfl, fun t d h => by simp at h⟩
  | .tmp t :: r, _, _, h, hos => by
    simp only [resL] at h
    split at h
    · rename_i ds os h'
      simp only [Option.some.injEq, Prod.mk.injEq] at h
      obtain ⟨rfl, rfl⟩ := h
      obtain ⟨vs, h1, h2, h3⟩ := resL_ok hT R F hF hC h' (fun q hq => hos q (List.mem_append_right _ hq))
      refine ⟨a.tmps.getD t undef :: vs, ?_, by simp [h2], fun s d hd => ?_⟩
      · simp [List.mapM_cons, hF, h1]
      · cases s with
        | zero =>
          simp only [List.getElem?_cons_zero, Option.some.injEq] at hd ⊢
          subst hd
          exact ⟨_, rfl, strip_ok (P := P) _ _ (R.eval (P := P) (.tmp t)) (fun q hq => hos q (List.mem_append_left _ hq))⟩
        | succ s => simpa using h3 s d (by simpa using hd)
    · cases h
  | .cell x t :: r, _, _, h, hos => by
    simp only [resL] at h
    split at h
    · rename_i ti id g j os1 ds os ht hs h'
      split at h
      · rename_i d0 os2 hl
        simp only [Option.some.injEq, Prod.mk.injEq] at h
        obtain ⟨rfl, rfl⟩ := h
        obtain ⟨vs, h1, h2, h3⟩ := resL_ok hT R F hF hC h' (fun q hq => hos q (List.mem_append_right _ hq))
        have hy : Rd w.heap I β objs ctr (.bref id g j) (a.tmps.getD x undef) := by
          have := strip_ok (P := P) (slots.getD x .junk) _ (R.eval (P := P) (.tmp x)) (by rw [hs]; exact fun q hq => hos q (List.mem_append_left _ (List.mem_append_left _ hq)))
          rw [hs] at this; exact this
        obtain ⟨z, z1, z2⟩ := cell_ok hT R ht hl (fun q hq => hos q (List.mem_append_left _ (List.mem_append_right _ hq))) hy
        refine ⟨z :: vs, ?_, by simp [h2], fun s d hd => ?_⟩
        · rw [List.mapM_cons, Sem.run_bind, hC, z1]
          simp [h1]
        · cases s with
          | zero =>
            simp only [List.getElem?_cons_zero, Option.some.injEq] at hd ⊢
            subst hd
            exact ⟨z, rfl, z2⟩
          | succ s => simpa using h3 s d (by simpa using hd)
      · cases h
    · cases h

theorem results_ok {tt : TT} (hT : TTok P tt) (R : RM B0 h0 I0 L I β slots objs ctr a w) {fn : Func} {ds : List D} {os : List Prop} (h : resL (std P) tt objs slots fn.results.toList = some (ds, os)) (hos : ∀ q ∈ os, q) :
    ∃ vs : List Value, (results fn a.tmps).run P w = .ok (retV vs) w ∧ vs.length = ds.length ∧ ∀ (t : Nat) (d : D), ds[t]? = some d → ∃ y, vs[t]? = some y ∧ Rd w.heap I β objs ctr d y := by
  unfold results
  obtain ⟨vs, h1, h2, h3⟩ := resL_ok hT R (fun | .tmp t => pure (a.tmps.getD t undef) | .cell x t => do loadVar t (← asAddr (a.tmps.getD x undef))) (fun t => rfl) (fun x t => rfl) h hos
  refine ⟨vs, ?_, by rw [h2, resL_len h], h3⟩
  have e : fn.results = fn.results.toList.toArray := by simp
  rw [e, List.mapM_toArray]
  simp only [Sem.run_bind, Sem.run_map]
  refine (congrArg (fun r : Result (List Value) => (r.andThen fun a w' => Result.ok a.toArray w').andThen fun vs w' => Sem.run P (pure (if h : vs.size = 1 then vs[0] else Value.tuple vs)) w') h1).trans ?_
  simp only [Result.andThen_ok, Sem.run_pure]
  congr 1
  match vs with
  | [] => rfl
  | [v] => rfl
  | v :: u :: r =>
    rw [dif_neg (show ¬ (v :: u :: r).toArray.size = 1 by simp)]
    rfl
end

section
variable {P : Program}

/-- What the caller is given. -/
theorem outT_ok {h : Array Obj} {I : Nat → Prop} {β : Nat → Option (Nat × Nat × Nat)} {objs : List (Option Ob)} {ctr B : Nat} (hrob : ∀ (k : Nat) (o : Ob), objs[k]? = some (some o) → Rob h I β objs ctr k o)
    (hB : ∀ k x, β k = some x → B ≤ x.1) {ds : List D} {res : D} {vs : List Value} (ho : outT (std P) objs ds res) (hl : vs.length = ds.length)
    (hv : ∀ (t : Nat) (d : D), ds[t]? = some d → ∃ y, vs[t]? = some y ∧ Rd h I β objs ctr d y) :
    ∃ I', (∀ b, I b → I' b) ∧ (∀ b, I' b → I b ∨ Blocks β b) ∧ Res B h I' res (retV vs) := by
  match ds, vs, hl with
  | [], [], _ =>
    refine ⟨I, fun _ h => h, fun _ h => .inl h, ?_⟩
    cases res <;> simp [outT] at ho
    subst ho
    exact ⟨_, rfl, rfl, fun j hj => by omega⟩
  | [d], [v], _ =>
    obtain ⟨y, hy, hr⟩ := hv 0 d (by simp)
    simp at hy; subst hy
    have hplain : isOwnD res = false → out1 (std P) objs d res → ∃ I', (∀ b, I b → I' b) ∧ (∀ b, I' b → I b ∨ Blocks β b) ∧ Res B h I' res v := by
      intro hno ho1
      refine ⟨fun b => I b ∨ Blocks β b, fun _ h => .inl h, fun _ h => h, ?_⟩
      have := out1_ok hrob d res v ho1 hr
      cases res <;> simp [isOwnD] at hno <;> exact this
    cases res with
    | own sz' n' t' f' =>
      refine ⟨I, fun _ h => h, fun _ h => .inl h, ?_⟩
      cases d with
      | nilsl =>
        have ho : n' = 0 := ho
        subst ho
        cases hr
        exact ⟨none, 0, 0, rfl, rfl, Nat.le_refl _, fun _ => rfl, fun h => by omega⟩
      | vec k g sz off n =>
        simp only [outT] at ho
        split at ho
        · rename_i g' sz'' N t f hob
          split at ho
          · rename_i hk
            simp only [Bool.and_eq_true] at hk
            have hk1 := Nat.eq_of_beq_eq_true hk.1; subst hk1
            have hk2 := Nat.eq_of_beq_eq_true hk.2; subst hk2
            obtain ⟨o1, o2, o3, o4⟩ := ho
            have o1 : g = g' := o1
            subst o1
            have o2 : n = n' := o2
            subst o2
            obtain ⟨ad, len, cap, rfl, x1, x2, x3, x4⟩ := vec_cells hr hob (hrob _ _ hob)
            refine ⟨ad, len, cap, rfl, x1, x2, fun ht => x3 (o3 ht), fun hp => ?_⟩
            obtain ⟨b, o, c, e, s, y1, rfl, y2, y3, y4, y5⟩ := x4 hp
            refine ⟨b, o, c, e, rfl, hB k _ y1, y3, y2, y4, fun i hi j hj => ?_⟩
            obtain ⟨z, z1, z2, z3⟩ := y5 i hi j hj
            exact ⟨z, z1, z2, out0_ok _ _ _ (o4 i (by omega) (by omega) j hj) z3⟩
          · exact ho.elim
        · exact ho.elim
      | _ => exact ho.elim
    | _ => exact hplain rfl ho
  | [d1, d2], [v1, v2], _ =>
    obtain ⟨y1, hy1, hr1⟩ := hv 0 d1 (by simp)
    obtain ⟨y2, hy2, hr2⟩ := hv 1 d2 (by simp)
    simp at hy1 hy2; subst hy1; subst hy2
    refine ⟨fun b => I b ∨ Blocks β b, fun _ h => .inl h, fun _ h => h, ?_⟩
    cases res with
    | tup k c =>
      simp only [outT] at ho
      split at ho
      · rename_i hk
        have hk := Nat.eq_of_beq_eq_true hk; subst hk
        refine ⟨_, rfl, rfl, fun j hj => ?_⟩
        match j, hj with
        | 0, _ => exact ⟨v1, rfl, out1_ok hrob _ _ _ ho.1 hr1⟩
        | 1, _ => exact ⟨v2, rfl, out1_ok hrob _ _ _ ho.2 hr2⟩
      · exact ho.elim
    | _ => simp [outT] at ho
  | [d1, d2, d3], [v1, v2, v3], _ =>
    obtain ⟨y1, hy1, hr1⟩ := hv 0 d1 (by simp)
    obtain ⟨y2, hy2, hr2⟩ := hv 1 d2 (by simp)
    obtain ⟨y3, hy3, hr3⟩ := hv 2 d3 (by simp)
    simp at hy1 hy2 hy3; subst hy1; subst hy2; subst hy3
    refine ⟨fun b => I b ∨ Blocks β b, fun _ h => .inl h, fun _ h => h, ?_⟩
    cases res with
    | tup k c =>
      simp only [outT] at ho
      split at ho
      · rename_i hk
        have hk := Nat.eq_of_beq_eq_true hk; subst hk
        refine ⟨_, rfl, rfl, fun j hj => ?_⟩
        match j, hj with
        | 0, _ => exact ⟨v1, rfl, out1_ok hrob _ _ _ ho.1 hr1⟩
        | 1, _ => exact ⟨v2, rfl, out1_ok hrob _ _ _ ho.2.1 hr2⟩
        | 2, _ => exact ⟨v3, rfl, out1_ok hrob _ _ _ ho.2.2 hr3⟩
      · exact ho.elim
    | _ => simp [outT] at ho
  | _ :: _ :: _ :: _ :: _, _, _ => exact (by cases res <;> exact ho.elim)

/-- The slots at a function's door. -/
def door (args : List D) (nt : Nat) (ctr : Nat) : St := ⟨args ++ List.replicate (nt - args.length) .junk, List.replicate nt none, ctr⟩

theorem fn_tr {tt : TT} (hT : TTok P tt) {f : FuncId} {fn : Func} {c : Code} {args : List D} {res : D} (hf : P.funcs[f]? = some fn) (hn : (fn.name == "runtime.NumGoroutine") = false) (hb : fn.body = some c)
    (h : ∀ ctr, 0 < ctr → Tr P c (retQ (std P) tt fn.results.toList res) (door args fn.ntmps ctr)) : PureFn P f args res := by
  refine ⟨⟨fn, hf, hn, by rw [hb]; rfl⟩, fun w I ctr vs hpos hI hglob hlen hargs => ?_⟩
  refine calls_of_wp hf hb ?_
  have hRS : RS w.heap.size w.heap I ⟨fun _ => none, w.os, w.output⟩ (door args fn.ntmps ctr) { tmps := vs.toArray ++ Array.replicate (fn.ntmps - vs.toArray.size) undef, defers := [] } w := by
    have hnone : ∀ (k : Nat) (o : Ob), (List.replicate fn.ntmps (none : Option Ob))[k]? = some (some o) → False := by
      intro k o hk
      rw [List.getElem?_replicate] at hk
      split at hk <;> cases hk
    have G : Goes w.heap I (fun _ => none) [] ctr w.heap I (fun _ => none) (List.replicate fn.ntmps none) ctr := by
      refine ⟨fun _ h => h, fun _ _ => rfl, fun id g hg => ?_, fun id g _ o' ho' _ _ => (hnone id o' ho').elim⟩
      rcases hg with h | ⟨_, o, ho, _⟩
      · exact .inl h
      · simp at ho
    refine ⟨I, fun _ => none, ?_, ?_, rfl, fun k o hk => (hnone k o hk).elim, fun k x hk => (by cases hk), fun k k' x x' _ hk => (by cases hk), fun k x hk => (by cases hk),
      fun _ h => h, fun b hb => ⟨hI b hb, .inl hb⟩, fun _ _ _ => rfl, Nat.le_refl _, hpos, fun k o hk => (hnone k o hk).elim, ⟨rfl, rfl⟩, hglob⟩
    · simp [door, hlen]
    · intro t d ht
      simp only [door] at ht
      rcases Nat.lt_or_ge t args.length with hlt | hge
      · rw [List.getElem?_append_left hlt] at ht
        obtain ⟨y, y1, y2⟩ := hargs t d ht
        refine ⟨y, ?_, Rd.mono G _ _ y2⟩
        rw [Array.getElem?_append_left (by simpa [hlen] using hlt)]
        simpa using y1
      · rw [List.getElem?_append_right hge, List.getElem?_replicate] at ht
        split at ht
        · rename_i hlt
          cases ht
          refine ⟨undef, ?_, trivial⟩
          rw [Array.getElem?_append_right (by simpa [hlen] using hge)]
          simp only [List.size_toArray, hlen, Array.getElem?_replicate]
          rw [if_pos hlt]
        · cases ht
  refine h ctr hpos w.heap.size w.heap I ⟨fun _ => none, w.os, w.output⟩ _ w _ hRS fun ex st' a' w' q R => ?_
  have hfin : ∀ ds os, resL (std P) tt st'.objs st'.slots fn.results.toList = some (ds, os) → conj os (outT (std P) st'.objs ds res) →
      a'.defers = [] ∧ ∃ v, (results fn a'.tmps).run P w' = .ok v w' ∧ (∃ v' I', Ending.returned v = .returned v' ∧ (∀ b, I b → I' b) ∧ (∀ b, I' b → b < w'.heap.size ∧ (I b ∨ w.heap.size ≤ b)) ∧
        (∀ b, b < w.heap.size → w'.heap[b]? = w.heap[b]?) ∧ w.heap.size ≤ w'.heap.size ∧ SameOut w w' ∧ Res w.heap.size w'.heap I' res v') := by
    intro ds os hres hc
    obtain ⟨h1, h2⟩ := conj_spec hc
    obtain ⟨J, β, R⟩ := R
    obtain ⟨vs', r1, r2, r3⟩ := results_ok hT R hres h1
    have hB : ∀ k x, β k = some x → w.heap.size ≤ x.1 := fun k x hk => (R.own k x hk).elim id (fun ⟨_, _, h, _⟩ => by cases h)
    obtain ⟨I', i1, i2, i3⟩ := outT_ok R.ob hB h2 r2 r3
    refine ⟨R.defers, _, r1, _, I', rfl, fun b hb => i1 b (R.old b hb), fun b hb => ?_, fun b hb => R.frame b hb (fun ⟨_, _, h, _⟩ => by cases h), R.size, R.wo, i3⟩
    rcases i2 b hb with h | ⟨k, x, hk, rfl⟩
    · obtain ⟨l1, l2⟩ := R.lt b h
      exact ⟨l1, l2.imp id fun h => h.elim id fun ⟨_, _, h, _⟩ => by cases h⟩
    · exact ⟨R.lt_block hk, .inr (hB k x hk)⟩
  cases ex with
  | normal =>
    simp only [retQ] at q
    split at q
    · rename_i ds os hres; exact hfin ds os hres q
    · exact q.elim
  | ret =>
    simp only [retQ] at q
    split at q
    · rename_i ds os hres; exact hfin ds os hres q
    · exact q.elim
  | _ => exact q.elim

theorem fn_ok {cx : Cx} (hT : TTok P cx.tt) (hP : P.follows .mixedOrders = true) {f : FuncId} {fn : Func} {c : Code} {args : List D} {res : D} (hf : P.funcs[f]? = some fn) (hn : (fn.name == "runtime.NumGoroutine") = false) (hb : fn.body = some c)
    (h : ∀ ctr, 0 < ctr → wp (std P) cx c (retQ (std P) cx.tt fn.results.toList res) (door args fn.ntmps ctr)) : PureFn P f args res :=
  fn_tr hT hf hn hb fun ctr hc => wp_sound hT hP _ _ _ (h ctr hc)

def cellsEnd (p : Pr) : List D → List D → Prop
  | [], [] => True
  | d :: r, d' :: r' => out0 p d d' ∧ cellsEnd p r r'
  | _, _ => False

/-- What was lent, at the end. -/
def lentEnd (p : Pr) : List (Option Ob) → List Ob → Prop
  | _, [] => True
  | some (.box g cs) :: r, .box g' cs' :: r' => p.eqN g 0 ∧ p.eqN g' 0 ∧ cellsEnd p cs cs' ∧ lentEnd p r r'
  | some (.arr g sz n t f) :: r, .arr g' sz' n' t' f' :: r' => if Nat.beq sz sz' then p.eqN g 0 ∧ p.eqN g' 0 ∧ p.eqI n n' ∧ p.eqB t t' ∧ p.all2 n sz (fun i j => out0 p (f i j) (f' i j)) ∧ lentEnd p r r' else False
  | _, _ => False

def outL (p : Pr) : List D → D → Prop
  | [], .tup k _ => if Nat.beq k 0 then True else False
  | [d], d' => out0 p d d'
  | [a, b], .tup k c => if Nat.beq k 2 then out0 p a (c 0) ∧ out0 p b (c 1) else False
  | _, _ => False

def lentQ (p : Pr) (tt : TT) (rs : List ResultVar) (post : List Ob) (res : D) : Exit → St → Prop
  | .normal, st => match resL p tt st.objs st.slots rs with
    | some (ds, os) => conj os (outL p ds res ∧ lentEnd p st.objs post)
    | none => False
  | .ret, st => match resL p tt st.objs st.slots rs with
    | some (ds, os) => conj os (outL p ds res ∧ lentEnd p st.objs post)
    | none => False
  | _, _ => False

theorem cellsEnd_get : ∀ {cs cs' : List D}, cellsEnd (std P) cs cs' → cs'.length = cs.length ∧ ∀ (j : Nat) (d' : D), cs'[j]? = some d' → ∃ d, cs[j]? = some d ∧ out0 (std P) d d'
  | [], [], _ => ⟨rfl, fun j d h => by simp at h⟩
  | [], _ :: _, h => h.elim
  | _ :: _, [], h => h.elim
  | d :: r, d' :: r', h => by
    obtain ⟨h1, h2⟩ := cellsEnd_get h.2
    refine ⟨by simp [h1], fun j x hj => ?_⟩
    cases j with
    | zero => simp only [List.getElem?_cons_zero, Option.some.injEq] at hj; subst hj; exact ⟨d, rfl, h.1⟩
    | succ j => simpa using h2 j x (by simpa using hj)

theorem lentEnd_get : ∀ {objs : List (Option Ob)} {post : List Ob}, lentEnd (std P) objs post → ∀ (k : Nat) (q : Ob), post[k]? = some q → ∃ o, objs[k]? = some (some o) ∧ o.gen = 0 ∧ o.live ∧ q.gen = 0 ∧
      ((∃ cs cs', o = .box 0 cs ∧ q = .box 0 cs' ∧ cellsEnd (std P) cs cs') ∨ ∃ sz n t f f', o = .arr 0 sz n t f ∧ q = .arr 0 sz n t f' ∧ ∀ i : Int, 0 ≤ i → i < n → ∀ j : Nat, j < sz → out0 (std P) (f i j) (f' i j))
  | _, [], _, k, q, hk => by simp at hk
  | [], _ :: _, h, _, _, _ => by simp [lentEnd] at h
  | none :: _, _ :: _, h, _, _, _ => by simp [lentEnd] at h
  | some (.dead _) :: _, _ :: _, h, _, _, _ => by simp [lentEnd] at h
  | some (.iter _ _ _) :: _, _ :: _, h, _, _, _ => by simp [lentEnd] at h
  | some (.box _ _) :: _, .iter _ _ _ :: _, h, _, _, _ => by simp [lentEnd] at h
  | some (.arr _ _ _ _ _) :: _, .iter _ _ _ :: _, h, _, _, _ => by simp [lentEnd] at h
  | some (.box _ _) :: _, .arr _ _ _ _ _ :: _, h, _, _, _ => by simp [lentEnd] at h
  | some (.box _ _) :: _, .dead _ :: _, h, _, _, _ => by simp [lentEnd] at h
  | some (.arr _ _ _ _ _) :: _, .box _ _ :: _, h, _, _, _ => by simp [lentEnd] at h
  | some (.arr _ _ _ _ _) :: _, .dead _ :: _, h, _, _, _ => by simp [lentEnd] at h
  | some (.box g cs) :: r, .box g' cs' :: r', h, k, q, hk => by
    obtain ⟨h1, h2, h3, h4⟩ := h
    have h1 : g = 0 := h1
    have h2 : g' = 0 := h2
    subst h1; subst h2
    cases k with
    | zero => simp only [List.getElem?_cons_zero, Option.some.injEq] at hk; subst hk; exact ⟨_, rfl, rfl, trivial, rfl, .inl ⟨cs, cs', rfl, rfl, h3⟩⟩
    | succ k => simpa using lentEnd_get h4 k q (by simpa using hk)
  | some (.arr g sz n t f) :: r, .arr g' sz' n' t' f' :: r', h, k, q, hk => by
    simp only [lentEnd] at h
    split at h
    · rename_i hsz
      have hsz := Nat.eq_of_beq_eq_true hsz; subst hsz
      obtain ⟨h1, h2, h3, h4, h5, h6⟩ := h
      have h1 : g = 0 := h1
      have h2 : g' = 0 := h2
      have h3 : n = n' := h3
      have h4 : t = t' := h4
      subst h1; subst h2; subst h3; subst h4
      cases k with
      | zero => simp only [List.getElem?_cons_zero, Option.some.injEq] at hk; subst hk; exact ⟨_, rfl, rfl, trivial, rfl, .inr ⟨sz, n, t, f, f', rfl, rfl, h5⟩⟩
      | succ k => simpa using lentEnd_get h6 k q (by simpa using hk)
    · exact h.elim

def doorL (args : List D) (pre : List Ob) (nt : Nat) (ctr : Nat) : St := ⟨args ++ List.replicate (nt - args.length) .junk, pre.map some ++ List.replicate nt none, ctr⟩

theorem outL_ok {h : Array Obj} {I : Nat → Prop} {β : Nat → Option (Nat × Nat × Nat)} {objs : List (Option Ob)} {ctr B : Nat} {ds : List D} {res : D} {vs : List Value} (ho : outL (std P) ds res) (hl : vs.length = ds.length)
    (hv : ∀ (t : Nat) (d : D), ds[t]? = some d → ∃ y, vs[t]? = some y ∧ Rd h I β objs ctr d y) : Res B h I res (retV vs) := by
  match ds, vs, hl with
  | [], [], _ =>
    cases res <;> simp [outL] at ho
    subst ho
    exact ⟨_, rfl, rfl, fun j hj => by omega⟩
  | [d], [v], _ =>
    obtain ⟨y, hy, hr⟩ := hv 0 d (by simp)
    simp at hy; subst hy
    have := out0_ok d res _ (show out0 (std P) d res from ho) hr
    cases res <;> first | exact this | exact this.elim
  | [d1, d2], [v1, v2], _ =>
    obtain ⟨y1, hy1, hr1⟩ := hv 0 d1 (by simp)
    obtain ⟨y2, hy2, hr2⟩ := hv 1 d2 (by simp)
    simp at hy1 hy2; subst hy1; subst hy2
    cases res with
    | tup k c =>
      simp only [outL] at ho
      split at ho
      · rename_i hk
        have hk := Nat.eq_of_beq_eq_true hk; subst hk
        refine ⟨_, rfl, rfl, fun j hj => ?_⟩
        match j, hj with
        | 0, _ => exact ⟨v1, rfl, out0_ok _ _ _ ho.1 hr1⟩
        | 1, _ => exact ⟨v2, rfl, out0_ok _ _ _ ho.2 hr2⟩
      · exact ho.elim
    | _ => simp [outL] at ho
  | _ :: _ :: _ :: _, _, _ => exact (by cases res <;> exact ho.elim)

theorem lent_tr {tt : TT} (hT : TTok P tt) {f : FuncId} {fn : Func} {c : Code} {args : List D} {pre post : List Ob} {res : D} (hf : P.funcs[f]? = some fn) (hn : (fn.name == "runtime.NumGoroutine") = false) (hb : fn.body = some c) (hpl : post.length = pre.length)
    (h : ∀ ctr, 0 < ctr → Tr P c (lentQ (std P) tt fn.results.toList post res) (doorL args pre fn.ntmps ctr)) : LentFn P f args pre post res := by
  refine ⟨⟨fn, hf, hn, by rw [hb]; rfl⟩, fun w I ctr vs β hpos hI hglob hlen hargs hob hdom hdist => ?_⟩
  refine calls_of_wp hf hb ?_
  have hobj : ∀ (k : Nat) (o : Ob), (pre.map some ++ List.replicate fn.ntmps (none : Option Ob))[k]? = some (some o) → pre[k]? = some o := by
    intro k o hk
    rcases Nat.lt_or_ge k pre.length with hlt | hge
    · rw [List.getElem?_append_left (by simpa using hlt), List.getElem?_map] at hk
      cases hp : pre[k]? with
      | none => rw [hp] at hk; cases hk
      | some o' => rw [hp] at hk; simp only [Option.map_some, Option.some.injEq] at hk; rw [hk]
    · rw [List.getElem?_append_right (by simpa using hge), List.getElem?_replicate] at hk
      split at hk <;> cases hk
  have hobj' : ∀ (k : Nat) (o : Ob), pre[k]? = some o → (pre.map some ++ List.replicate fn.ntmps (none : Option Ob))[k]? = some (some o) := by
    intro k o hk
    have hlt := (List.getElem?_eq_some_iff.1 hk).1
    rw [List.getElem?_append_left (by simpa using hlt), List.getElem?_map, hk]; rfl
  have hpre : ∀ (k : Nat) (o : Ob), (pre.map some)[k]? = some (some o) → pre[k]? = some o := by
    intro k o hk
    rw [List.getElem?_map] at hk
    cases hp : pre[k]? with
    | none => rw [hp] at hk; cases hk
    | some o' => rw [hp] at hk; simp only [Option.map_some, Option.some.injEq] at hk; rw [hk]
  have G : Goes w.heap I β (pre.map some) ctr w.heap I β (pre.map some ++ List.replicate fn.ntmps none) ctr := by
    refine ⟨fun _ h => h, fun _ _ => rfl, fun id g hg => ?_, fun id g _ o' ho' _ _ => ⟨o', by rw [List.getElem?_map, hobj id o' ho']; rfl, Ob.like_refl _, rfl⟩⟩
    rcases hg with h | ⟨h, o, ho, hgo⟩
    · exact .inl h
    · exact .inr ⟨h, o, hobj' _ _ (hpre _ _ ho), hgo⟩
  have hRob : ∀ (k : Nat) (o : Ob), pre[k]? = some o → Rob w.heap I β (pre.map some ++ List.replicate fn.ntmps none) ctr k o := fun k o hk => Rob.mono G (fun _ _ _ hI => ⟨rfl, hI⟩) rfl (hob k o hk).2
  have hblk : ∀ k x, β k = some x → x.1 < w.heap.size ∧ ¬ I x.1 := by
    intro k x hk
    obtain ⟨o, ho⟩ := hdom k x hk
    have hr := (hob k o ho).2
    cases o with
    | box g cs => obtain ⟨_, b', o', s', c, e, h1, h2, _, h4, _⟩ := hr; rw [hk] at h1; cases h1; exact ⟨(Array.getElem?_eq_some_iff.1 h2).1, h4⟩
    | arr g sz n t f =>
      obtain ⟨_, _, hx⟩ := hr
      rcases hx with ⟨_, h2⟩ | ⟨b', o', s', c, e, h1, h2, _, h4, _⟩
      · rw [hk] at h2; cases h2
      · rw [hk] at h1; cases h1; exact ⟨(Array.getElem?_eq_some_iff.1 h2).1, h4⟩
    | iter g s pos => obtain ⟨_, _, b', o', z', h1, h2, h3⟩ := hr; rw [hk] at h1; cases h1; exact ⟨(Array.getElem?_eq_some_iff.1 h2).1, h3⟩
    | dead g => exact absurd (hk.symm.trans hr.2) (by simp)
  have hRS : RS w.heap.size w.heap I ⟨β, w.os, w.output⟩ (doorL args pre fn.ntmps ctr) { tmps := vs.toArray ++ Array.replicate (fn.ntmps - vs.toArray.size) undef, defers := [] } w := by
    refine ⟨I, β, ?_, ?_, rfl, fun k o hk => hRob k o (hobj k o hk), fun k x hk => ?_, hdist, fun k x hk => .inr ⟨k, x, hk, rfl⟩,
      fun _ h => h, fun b hb => ⟨hI b hb, .inl hb⟩, fun _ _ _ => rfl, Nat.le_refl _, hpos, fun k o hk _ _ => rfl, ⟨rfl, rfl⟩, hglob⟩
    · simp [doorL, hlen]
    · intro t d ht
      simp only [doorL] at ht
      rcases Nat.lt_or_ge t args.length with hlt | hge
      · rw [List.getElem?_append_left hlt] at ht
        obtain ⟨y, y1, y2⟩ := hargs t d ht
        refine ⟨y, ?_, Rd.mono G _ _ y2⟩
        rw [Array.getElem?_append_left (by simpa [hlen] using hlt)]
        simpa using y1
      · rw [List.getElem?_append_right hge, List.getElem?_replicate] at ht
        split at ht
        · rename_i hlt
          cases ht
          refine ⟨undef, ?_, trivial⟩
          rw [Array.getElem?_append_right (by simpa [hlen] using hge)]
          simp only [List.size_toArray, hlen, Array.getElem?_replicate]
          rw [if_pos hlt]
        · cases ht
    · obtain ⟨o, ho⟩ := hdom k x hk
      exact ⟨o, hobj' k o ho⟩
  refine h ctr hpos w.heap.size w.heap I ⟨β, w.os, w.output⟩ _ w _ hRS fun ex st' a' w' q R => ?_
  have hfin : ∀ ds os, resL (std P) tt st'.objs st'.slots fn.results.toList = some (ds, os) → conj os (outL (std P) ds res ∧ lentEnd (std P) st'.objs post) →
      a'.defers = [] ∧ ∃ v, (results fn a'.tmps).run P w' = .ok v w' ∧ (∃ v' I' c', Ending.returned v = .returned v' ∧ (∀ b, I b → I' b) ∧ (∀ b, I' b → b < w'.heap.size ∧ (I b ∨ w.heap.size ≤ b)) ∧
        (∀ b, b < w.heap.size → (∀ k x, β k = some x → x.1 ≠ b) → w'.heap[b]? = w.heap[b]?) ∧ w.heap.size ≤ w'.heap.size ∧ SameOut w w' ∧
        (∀ (k : Nat) (o : Ob), post[k]? = some o → Rob w'.heap I' β (post.map some) c' k o) ∧ Res w.heap.size w'.heap I' res v') := by
    intro ds os hres hc
    obtain ⟨h1, h2, h2'⟩ := conj_spec hc
    obtain ⟨J, β', R⟩ := R
    obtain ⟨vs', r1, r2, r3⟩ := results_ok hT R hres h1
    have hend := lentEnd_get h2'
    have hβ : ∀ (k : Nat) (q : Ob), post[k]? = some q → β' k = β k := by
      intro k q hk
      obtain ⟨o, e1, e2, e3, _⟩ := hend k q hk
      exact R.stay k o e1 e2 e3
    have hJ : ∀ k x, β k = some x → ¬ J x.1 := by
      intro k x hk
      obtain ⟨o, ho⟩ := hdom k x hk
      have hlt : k < post.length := by rw [hpl]; exact (List.getElem?_eq_some_iff.1 ho).1
      have := hβ k _ (List.getElem?_eq_getElem hlt)
      exact R.notI (this.trans hk)
    refine ⟨R.defers, _, r1, _, J, st'.ctr, rfl, R.old, fun b hb => ?_, fun b hb hn => R.frame b hb (fun ⟨k, x, hk, he⟩ => hn k x hk he), R.size, R.wo, fun k q hk => ?_, outL_ok h2 r2 r3⟩
    · obtain ⟨l1, l2⟩ := R.lt b hb
      refine ⟨l1, ?_⟩
      rcases l2 with h | h | ⟨k, x, hk, rfl⟩
      · exact .inl h
      · exact .inr h
      · exact absurd hb (hJ k x hk)
    · have hbk := hβ k q hk
      obtain ⟨o, e1, e2, e3, e4, e5⟩ := hend k q hk
      have hr := R.ob k o e1
      have hback : ∀ d' y, Rd w'.heap J (fun _ => none) [] 0 d' y → Rd w'.heap J β (post.map some) st'.ctr d' y := fun d' y hy => Rd.mono (Goes.back _ _ _ _ _) _ _ hy
      rcases e5 with ⟨cs, cs', rfl, rfl, hcs⟩ | ⟨sz, n, t, f, f', rfl, rfl, hff⟩
      · obtain ⟨_, b, o, s, c, e, x1, x2, x3, x4, x5, x6⟩ := hr
        obtain ⟨hl, hg⟩ := cellsEnd_get hcs
        refine ⟨Nat.zero_le _, b, o, s, c, e, hbk ▸ x1, x2, x3, x4, by rw [hl]; exact x5, fun j d' hj => ?_⟩
        obtain ⟨d, d1, d2⟩ := hg j d' hj
        obtain ⟨z, z1, z2, z3⟩ := x6 j d d1
        exact ⟨z, z1, z2, hback _ _ (out0_ok _ _ _ d2 z3)⟩
      · obtain ⟨_, hn0, hx⟩ := hr
        refine ⟨Nat.zero_le _, hn0, ?_⟩
        rcases hx with ⟨x1, x2⟩ | ⟨b, o, s, c, e, x1, x2, x3, x4, x5, x6⟩
        · exact .inl ⟨x1, hbk ▸ x2⟩
        · refine .inr ⟨b, o, s, c, e, hbk ▸ x1, x2, x3, x4, x5, fun i hi j hj => ?_⟩
          obtain ⟨z, z1, z2, z3⟩ := x6 i hi j hj
          exact ⟨z, z1, z2, hback _ _ (out0_ok _ _ _ (hff i (by omega) hi j hj) z3)⟩
  cases ex with
  | normal =>
    simp only [lentQ] at q
    split at q
    · rename_i ds os hres; exact hfin ds os hres q
    · exact q.elim
  | ret =>
    simp only [lentQ] at q
    split at q
    · rename_i ds os hres; exact hfin ds os hres q
    · exact q.elim
  | _ => exact q.elim
end
end Go.Vx
