/- Each step of the evaluator is a step of the Go model: calls; the whole. -/
import Derived.Test.YtigfggfbpdhmfaaDoorVxOps5
set_option linter.all false
namespace Go.Vx

section
variable {P : Program} {tt : TT} {B0 : Nat} {h0 : Array Obj} {I0 I : Nat → Prop} {L : Lend} {β : Nat → Option (Nat × Nat × Nat)} {slots : List D} {objs : List (Option Ob)} {ctr : Nat} {a : Act} {w : World}

/-- What is handed in is seen without the caller's objects. -/
theorem Goes.bare (h : Array Obj) (I : Nat → Prop) (β : Nat → Option (Nat × Nat × Nat)) (objs : List (Option Ob)) (ctr : Nat) : Goes h I β objs ctr h I (fun _ => none) [] (ctr + 1) := by
  refine ⟨fun _ x => x, fun _ _ => rfl, fun id g hg => .inl ?_, fun id g hg o' ho' _ _ => by simp at ho'⟩
  rcases hg with h | ⟨h, _⟩ <;> omega

/-- What comes back holds no object of anyone's. -/
theorem Goes.back (h : Array Obj) (I : Nat → Prop) (β : Nat → Option (Nat × Nat × Nat)) (objs : List (Option Ob)) (ctr : Nat) : Goes h I (fun _ => none) [] 0 h I β objs ctr := by
  refine ⟨fun _ x => x, fun _ _ => rfl, fun id g hg => ?_, fun id g hg => ?_⟩
  · rcases hg with h | ⟨_, o, ho, _⟩
    · omega
    · simp at ho
  · rcases hg with h | ⟨_, o, ho, _⟩
    · omega
    · simp at ho

theorem res_plain {B : Nat} {h : Array Obj} {I : Nat → Prop} {d : D} {v : Value} (hd : isOwnD d = false) (hr : Res B h I d v) : Rd h I (fun _ => none) [] 0 d v := by
  cases d <;> simp [isOwnD] at hd <;> exact hr

def Blocks (β : Nat → Option (Nat × Nat × Nat)) (b : Nat) : Prop := ∃ k x, β k = some x ∧ x.1 = b

theorem vec_cells {h : Array Obj} {k g sz : Nat} {off n N : Int} {t : Bool} {f : Int → Nat → D} {y : Value} (hr : Rd h I β objs ctr (.vec k g sz off n) y) (hob : objs[k]? = some (some (.arr g sz N t f)))
    (hrob : Rob h I β objs ctr k (.arr g sz N t f)) : ∃ a len cap, y = .slice a len cap ∧ (len : Int) = n ∧ len ≤ cap ∧ ((t && (off + n == N)) = true → cap = len) ∧
      (0 < cap → ∃ b o c e s, β k = some (b, s) ∧ a = some ⟨b, o, none⟩ ∧ h[b]? = some (.cells c e (0, 0)) ∧ ¬ I b ∧ o + cap * sz ≤ c.size ∧
        ∀ i : Nat, i < len → ∀ j, j < sz → ∃ z, c[o + i * sz + j]? = some z ∧ z.oneCell' = true ∧ Rd h I β objs ctr (f (off + i) j) z) := by
  obtain ⟨_, _, hx⟩ := hr
  obtain ⟨o1, o2, o3, ad, len, cap, rfl, x1, x2, x3, x4⟩ := hx _ _ _ hob
  refine ⟨ad, len, cap, rfl, x1, x2, ?_, fun hp => ?_⟩
  · intro ht
    simp only [Bool.and_eq_true, beq_iff_eq] at ht
    have := x3 ht.1
    omega
  · obtain ⟨b, o, s', hb, rfl, hrr⟩ := x4 hp
    obtain ⟨_, _, hrob⟩ := hrob
    rcases hrob with ⟨h1, h2⟩ | ⟨b', p', s1, c, e, q1, q2, q3, q4, q5, q6⟩
    · rw [hb] at h2; cases h2
    · rw [hb] at q1; cases q1
      refine ⟨b, _, c, e, _, hb, rfl, q2, q4, by omega, fun i hi j hj => ?_⟩
      obtain ⟨z, z1, z2, z3⟩ := q6 (off.toNat + i) (by omega) j hj
      refine ⟨z, ?_, z2, ?_⟩
      · rw [← z1]; congr 1; rw [Nat.add_mul]; omega
      · have e1 : ((off.toNat + i : Nat) : Int) = off + (i : Int) := by omega
        rw [e1] at z3; exact z3


/-- What holds no object reads anywhere. -/
theorem clo_ok {h h' : Array Obj} {I I' : Nat → Prop} (hI : ∀ b, I b → I' b) (hh : ∀ b, I b → h'[b]? = h[b]?) {β β' : Nat → Option (Nat × Nat × Nat)} {objs objs' : List (Option Ob)} {ctr ctr' : Nat} :
    ∀ (d : D) (y : Value), clo (std P) d → Rd h I β objs ctr d y → Rd h' I' β' objs' ctr' d y := by
  intro d
  induction d with
  | sl sz n t f ih =>
    rintro y hc ⟨a, len, cap, rfl, hl, hcp, ht, hcells⟩
    refine ⟨a, len, cap, rfl, hl, hcp, ht, fun hp => ?_⟩
    obtain ⟨b, o, c, e, fr, rfl, hb1, hb, hx⟩ := hcells hp
    refine ⟨b, o, c, e, fr, rfl, hI b hb1, by rw [hh b hb1]; exact hb, fun i hi j hj => ?_⟩
    obtain ⟨z, h1, h2, h3⟩ := hx i hi j hj
    exact ⟨z, h1, h2, ih _ _ _ (hc i (by omega) (by omega) j hj) h3⟩
  | agg k c ih =>
    rintro y hc ⟨ys, rfl, hs, hx⟩
    refine ⟨ys, rfl, hs, fun j hj => ?_⟩
    obtain ⟨z, h1, h2, h3⟩ := hx j hj
    exact ⟨z, h1, h2, ih _ _ (hc 0 (by omega) (by omega) j hj) h3⟩
  | tup k c ih =>
    rintro y hc ⟨ys, rfl, hs, hx⟩
    refine ⟨ys, rfl, hs, fun j hj => ?_⟩
    obtain ⟨z, h1, h3⟩ := hx j hj
    exact ⟨z, h1, ih _ _ (hc 0 (by omega) (by omega) j hj) h3⟩
  | fn f k c ih =>
    rintro y hc ⟨ys, rfl, hs, hx⟩
    refine ⟨ys, rfl, hs, fun j hj => ?_⟩
    obtain ⟨z, h1, h3⟩ := hx j hj
    exact ⟨z, h1, ih _ _ (hc 0 (by omega) (by omega) j hj) h3⟩
  | imm sz n f i j ih =>
    rintro y hc ⟨h0, h1, b, o, c, e, fr, hy, hb1, hb, hx⟩
    refine ⟨h0, h1, b, o, c, e, fr, hy, hI b hb1, by rw [hh b hb1]; exact hb, fun i hi j hj => ?_⟩
    obtain ⟨z, h1, h2, h3⟩ := hx i hi j hj
    exact ⟨z, h1, h2, ih _ _ _ (hc i (by omega) hi j hj) h3⟩
  | whn b d ih => exact fun y hc hy => ⟨fun hb => ih y hc (hy.1 hb), hy.2⟩
  | v x => exact fun y _ hy => hy
  | nilsl => exact fun y _ hy => hy
  | junk => exact fun y _ _ => trivial
  | bref => exact fun y hc _ => hc.elim
  | aref => exact fun y hc _ => hc.elim
  | vec => exact fun y hc _ => hc.elim
  | own => exact fun y hc _ => hc.elim
  | mp kk kv es => exact fun y _ ⟨r, c, cl, hy, hr, hb, he⟩ => ⟨r, c, cl, hy, hI r hr, by rw [hh r hr]; exact hb, he⟩
  | iref => exact fun y hc _ => hc.elim
  | ntup => exact fun y _ hy => hy
  | tab g n k => exact fun y _ ⟨h1, h2, h3⟩ => ⟨h1, hI g h2, by rw [hh g h2]; exact h3⟩

theorem flat_rd {h : Array Obj} {I I' : Nat → Prop} : ∀ (d : D) (y : Value), flat (std P) d → Rd h I (fun _ => none) [] 0 d y → Rd h I' (fun _ => none) [] 0 d y := by
  intro d
  induction d with
  | agg k c ih =>
    rintro y hc ⟨ys, rfl, hs, hx⟩
    refine ⟨ys, rfl, hs, fun j hj => ?_⟩
    obtain ⟨z, h1, h2, h3⟩ := hx j hj
    exact ⟨z, h1, h2, ih _ _ (hc 0 (by omega) (by omega) j hj) h3⟩
  | tup k c ih =>
    rintro y hc ⟨ys, rfl, hs, hx⟩
    refine ⟨ys, rfl, hs, fun j hj => ?_⟩
    obtain ⟨z, h1, h3⟩ := hx j hj
    exact ⟨z, h1, ih _ _ (hc 0 (by omega) (by omega) j hj) h3⟩
  | fn f k c ih =>
    rintro y hc ⟨ys, rfl, hs, hx⟩
    refine ⟨ys, rfl, hs, fun j hj => ?_⟩
    obtain ⟨z, h1, h3⟩ := hx j hj
    exact ⟨z, h1, ih _ _ (hc 0 (by omega) (by omega) j hj) h3⟩
  | own => exact fun y _ hy => hy.elim
  | v x => exact fun y _ hy => hy
  | nilsl => exact fun y _ hy => hy
  | junk => exact fun y _ _ => trivial
  | _ => exact fun y hc _ => hc.elim

theorem flat_res {B : Nat} {h : Array Obj} {I I' : Nat → Prop} (hI : ∀ b, I b → b < B) {d : D} {v : Value} (hf : flat (std P) d) (hr : Res B h I' d v) : Res B h I d v := by
  cases d with
  | own sz n t g =>
    obtain ⟨ad, len, cap, rfl, x1, x2, x3, x4⟩ := hr
    refine ⟨ad, len, cap, rfl, x1, x2, x3, fun hp => ?_⟩
    obtain ⟨b, p, c, e, rfl, y1, y2, y3, y4, y5⟩ := x4 hp
    refine ⟨b, p, c, e, rfl, y1, fun hb => by have := hI b hb; omega, y3, y4, fun i hi j hj => ?_⟩
    obtain ⟨z, z1, z2, z3⟩ := y5 i hi j hj
    exact ⟨z, z1, z2, flat_rd _ _ (hf i (by omega) (by omega) j hj) z3⟩
  | _ => exact flat_rd (I := I') _ _ hf hr

/-- What a call hands over becomes an object. -/
theorem own_post (R : RM B0 h0 I0 L I β slots objs ctr a w) {w' : World} {I' : Nat → Prop} (h1 : ∀ b, I b → I' b) (h2 : ∀ b, I' b → b < w'.heap.size ∧ (I b ∨ w.heap.size ≤ b))
    (h3 : ∀ b, b < w.heap.size → w'.heap[b]? = w.heap[b]?) (h4 : w.heap.size ≤ w'.heap.size) (hwo : SameOut w w') {sz : Nat} {n : Int} {tight : Bool} {g : Int → Nat → D} {v : Value} {key : Nat} (hk : objs[key]? = some none)
    (h5 : Res w.heap.size w'.heap I' (.own sz n tight g) v) : Post B0 h0 I0 L I β objs ctr w (objs.set key (some (.arr ctr sz n tight g))) w' (.vec key ctr sz 0 n) v := by
  obtain ⟨G, R'⟩ := R.grow h1 h2 h3 h4 hwo
  refine Post.after hwo G ?_
  obtain ⟨ad, len, cap, rfl, x1, x2, x3, x4⟩ := h5
  rcases Nat.eq_zero_or_pos cap with hc0 | hc0
  · obtain rfl : len = 0 := by omega
    subst hc0
    exact empty_ok R' (old := none) (.inl hk) (fun _ h => by cases h) (by omega) _ _ _
  · obtain ⟨b, p, c, e, rfl, y1, y2, y3, y4, y5⟩ := x4 hc0
    have hml : len * sz ≤ cap * sz := Nat.mul_le_mul_right _ x2
    have hklt : key < objs.length := by
      rcases Nat.lt_or_ge key objs.length with h | h
      · exact h
      · have hn : objs[key]? = none := List.getElem?_eq_none (by simpa using h)
        rw [hn] at hk; cases hk
    refine R'.turn (old := none) (X := some (b, p, c.size)) rfl (.inl hk) (fun _ h => by cases h) (fun _ _ _ => rfl) (Nat.le_refl _) ?_ ⟨by omega, .inr ⟨b, p, c.size, c, e, rfl, y3, rfl, ?_, fun i hi j hj => ?_⟩⟩ ?_
    · intro x hx
      cases hx
      exact ⟨(Array.getElem?_eq_some_iff.1 y3).1, .inr (.inr ⟨y2, by have := R.size; omega, fun k z hz => by have := R.lt_block hz; simp; omega⟩)⟩
    · have : n.toNat = len := by omega
      rw [this]; omega
    · obtain ⟨z, z1, z2, z3⟩ := y5 i (by omega) j hj
      exact ⟨z, z1, z2, Rd.mono (Goes.back _ _ _ _ _) _ _ z3⟩
    · intro β' hβ G'
      refine ⟨.inr ⟨rfl, _, List.getElem?_set_self hklt, rfl⟩, ⟨_, _, _, rfl, x1, x2, fun _ => rfl⟩, fun N t' f' ho => ?_⟩
      have ho := ho
      simp only [killed] at ho
      rw [List.getElem?_set_self hklt] at ho
      cases ho
      exact ⟨by omega, by omega, by omega, _, _, _, rfl, x1, x2, fun ht => by have := x3 ht; omega, fun _ => ⟨b, p, _, hβ, by simp, by simp; omega⟩⟩

theorem plain_post (R : RM B0 h0 I0 L I β slots objs ctr a w) {w' : World} {I' : Nat → Prop} (h1 : ∀ b, I b → I' b) (h2 : ∀ b, I' b → b < w'.heap.size ∧ (I b ∨ w.heap.size ≤ b))
    (h3 : ∀ b, b < w.heap.size → w'.heap[b]? = w.heap[b]?) (h4 : w.heap.size ≤ w'.heap.size) (hwo : SameOut w w') {d : D} {v : Value} (hd : isOwnD d = false)
    (h5 : Res w.heap.size w'.heap I' d v) : Post B0 h0 I0 L I β objs ctr w objs w' d v := by
  obtain ⟨G, R'⟩ := R.grow h1 h2 h3 h4 hwo
  exact Post.after hwo G (R'.still (Rd.mono (Goes.back _ _ _ _ _) _ _ (res_plain hd h5)))

theorem newD_some' {objs : List (Option Ob)} {key : Nat} {d0 d : D} {o : Ob} {os os' : List Prop} {u : List (Nat × Option Ob)} (h : newD objs key d0 o os = some (d, u, os')) : objs[key]? = some none ∧ d = d0 ∧ u = [(key, some o)] ∧ os' = os := by
  unfold newD at h
  split at h
  · rename_i hk
    simp only [Option.some.injEq, Prod.mk.injEq] at h
    exact ⟨hk, h.1.symm, h.2.1.symm, h.2.2.symm⟩
  · cases h

/-- What is lent to be read. -/
theorem view_ok (R : RM B0 h0 I0 L I β slots objs ctr a w) : ∀ {args va : List D} {vos : List Prop} {vs : List Value}, viewL (std P) objs args = some (va, vos) → (∀ q ∈ vos, q) → vs.length = args.length →
    (∀ (t : Nat) (d : D), args[t]? = some d → ∃ y, vs[t]? = some y ∧ Rd w.heap I β objs ctr d y) →
    va.length = args.length ∧ ∀ (t : Nat) (d : D), va[t]? = some d → ∃ y, vs[t]? = some y ∧ Rd w.heap (fun b => I b ∨ Blocks β b) (fun _ => none) [] (ctr + 1) d y
  | [], va, vos, vs, h, _, _, _ => by
    simp only [viewL, Option.some.injEq, Prod.mk.injEq] at h
    obtain ⟨rfl, rfl⟩ := h
    exact ⟨rfl, fun t d ht => by simp at ht⟩
  | d :: r, va, vos, vs, h, hos, hl, hargs => by
    simp only [viewL] at h
    split at h
    · rename_i d' os1 r' os2 hd hr
      simp only [Option.some.injEq, Prod.mk.injEq] at h
      obtain ⟨rfl, rfl⟩ := h
      cases vs with
      | nil => simp at hl
      | cons y0 vs =>
        obtain ⟨h1, h2⟩ := view_ok R (vs := vs) hr (fun q hq => hos q (List.mem_append_right _ hq)) (by simpa using hl) (fun t d ht => by simpa using hargs (t + 1) d (by simpa using ht))
        refine ⟨by simp [h1], fun t x ht => ?_⟩
        cases t with
        | succ t => simpa using h2 t x (by simpa using ht)
        | zero =>
          simp only [List.getElem?_cons_zero, Option.some.injEq] at ht
          subst ht
          obtain ⟨y, hy, hv⟩ := hargs 0 d (by simp)
          simp only [List.getElem?_cons_zero, Option.some.injEq] at hy
          subst hy
          refine ⟨y0, rfl, ?_⟩
          have hos1 : ∀ q ∈ os1, q := fun q hq => hos q (List.mem_append_left _ hq)
          have G : Goes w.heap I β objs ctr w.heap (fun b => I b ∨ Blocks β b) (fun _ => none) [] (ctr + 1) := by
            refine ⟨fun _ x => .inl x, fun _ _ => rfl, fun id g hg => .inl ?_, fun id g hg o' ho' _ _ => by simp at ho'⟩
            rcases hg with h | ⟨h, _⟩ <;> omega
          unfold viewD at hd
          split at hd
          · rename_i id g sz off n
            split at hd
            · rename_i g' sz' N t f hob
              split at hd
              · rename_i hsz
                have hsz := Nat.eq_of_beq_eq_true hsz; subst hsz
                simp only [Option.some.injEq, Prod.mk.injEq] at hd
                obtain ⟨rfl, rfl⟩ := hd
                have hg : g = g' := hos1 _ (List.mem_singleton.2 rfl)
                subst hg
                obtain ⟨ad, len, cap, rfl, x1, x2, x3, x4⟩ := vec_cells hv hob (R.ob _ _ hob)
                refine ⟨ad, len, cap, rfl, x1, x2, x3, fun hp => ?_⟩
                obtain ⟨b, o, c, e, s, y1, rfl, y2, y3, y4, y5⟩ := x4 (by omega)
                refine ⟨b, o, c, e, _, rfl, .inr ⟨id, _, y1, rfl⟩, y2, fun i hi j hj => ?_⟩
                obtain ⟨z, z1, z2, z3⟩ := y5 i hi j hj
                exact ⟨z, z1, z2, Rd.mono G _ _ z3⟩
              · cases hd
            · cases hd
          · rename_i id g j
            split at hd
            · rename_i g' cs hob
              simp only [Option.some.injEq, Prod.mk.injEq] at hd
              obtain ⟨rfl, rfl⟩ := hd
              have hg : g = g' := hos1 _ (List.mem_singleton.2 rfl)
              subst hg
              obtain ⟨_, _, hx⟩ := hv
              obtain ⟨b, o, s, hb, rfl⟩ := hx _ hob
              obtain ⟨_, b', o', s', c, e, q1, q2, q3, q4, q5, q6⟩ := R.ob _ _ hob
              rw [hb] at q1; cases q1
              refine ⟨by omega, by omega, b, o, c, e, _, by simp, .inr ⟨id, _, hb, rfl⟩, q2, fun i' hi j' hj => ?_⟩
              obtain ⟨z, z1, z2, z3⟩ := q6 j' _ (List.getElem?_eq_getElem hj)
              have e0 : i' = 0 := by omega
              subst e0
              refine ⟨z, by simpa using z1, z2, ?_⟩
              have e1 : cs.getD j' .junk = cs[j'] := by simp [List.getD, hj]
              show Rd _ _ _ _ _ (cs.getD j' .junk) z
              rw [e1]
              exact Rd.mono G _ _ z3
            · cases hd
          · simp only [Option.some.injEq, Prod.mk.injEq] at hd
            obtain ⟨rfl, rfl⟩ := hd
            exact Rd.mono G _ _ hv
    · cases h

theorem memN_iff {y : Nat} : ∀ {l : List Nat}, memN l y = true ↔ y ∈ l
  | [] => by simp [memN]
  | x :: r => by
    simp only [memN, List.mem_cons]
    split
    · rename_i h; simp [Nat.eq_of_beq_eq_true h]
    · rename_i h
      have : ¬ y = x := fun e => h (by rw [e]; exact Nat.beq_refl _)
      simp [this, memN_iff]

theorem idxN_get {y : Nat} : ∀ {l : List Nat}, y ∈ l → l[idxN l y]? = some y
  | [], h => by simp at h
  | x :: r, h => by
    simp only [idxN]
    split
    · rename_i hx; simp [Nat.eq_of_beq_eq_true hx]
    · rename_i hx
      have : ¬ y = x := fun e => hx (by rw [e]; exact Nat.beq_refl _)
      simp only [List.getElem?_cons_succ]
      exact idxN_get ((List.mem_cons.1 h).resolve_left this)

def refId : D → Option Nat
  | .bref id _ _ => some id
  | .aref id _ _ _ _ => some id
  | .vec id _ _ _ _ => some id
  | _ => none

theorem refIds_step (d : D) (r : List D) (l : List Nat) : refIds (d :: r) l = refIds r (match refId d with | some id => if memN l id then l else l ++ [id] | none => l) := by
  cases d <;> rfl

theorem refIds_spec : ∀ (args : List D) (l : List Nat), l.Nodup → (refIds args l).Nodup ∧ (∀ x ∈ l, x ∈ refIds args l) ∧ ∀ (t : Nat) (d : D) (id : Nat), args[t]? = some d → refId d = some id → id ∈ refIds args l
  | [], l, h => ⟨h, fun x hx => hx, fun t d id ht => by simp at ht⟩
  | d :: r, l, h => by
    rw [refIds_step]
    have hnd : (match refId d with | some id => if memN l id then l else l ++ [id] | none => l).Nodup := by
      split
      · split
        · exact h
        · rename_i id _ hm
          rw [List.nodup_append]
          refine ⟨h, by simp, fun a ha b hb => ?_⟩
          simp only [List.mem_singleton] at hb
          subst hb
          intro e; subst e
          exact hm (memN_iff.2 ha)
      · exact h
    have hsub : ∀ x ∈ l, x ∈ (match refId d with | some id => if memN l id then l else l ++ [id] | none => l) := by
      intro x hx
      split
      · split
        · exact hx
        · exact List.mem_append_left _ hx
      · exact hx
    obtain ⟨h1, h2, h3⟩ := refIds_spec r _ hnd
    refine ⟨h1, fun x hx => h2 x (hsub x hx), fun t x id ht hid => ?_⟩
    cases t with
    | zero =>
      simp only [List.getElem?_cons_zero, Option.some.injEq] at ht
      subst ht
      refine h2 id ?_
      rw [hid]
      simp only
      split
      · rename_i hm; exact memN_iff.1 hm
      · exact List.mem_append_right _ (by simp)
    | succ t => exact h3 t x id (by simpa using ht) hid

theorem obsOf_spec {objs : List (Option Ob)} : ∀ {ids : List Nat} {obs : List Ob}, obsOf objs ids = some obs → obs.length = ids.length ∧ ∀ (k id : Nat), ids[k]? = some id → ∃ o, obs[k]? = some o ∧ objs[id]? = some (some o) ∧ o.live
  | [], obs, h => by
    simp only [obsOf, Option.some.injEq] at h
    subst h; exact ⟨rfl, fun k id h => by simp at h⟩
  | i :: r, obs, h => by
    simp only [obsOf] at h
    split at h
    · rename_i g cs ho
      cases hr : obsOf objs r with
      | none => rw [hr] at h; cases h
      | some obs' =>
        rw [hr] at h
        simp only [Option.map_some, Option.some.injEq] at h
        subst h
        obtain ⟨h1, h2⟩ := obsOf_spec hr
        refine ⟨by simp [h1], fun k id hk => ?_⟩
        cases k with
        | zero => simp only [List.getElem?_cons_zero, Option.some.injEq] at hk; subst hk; exact ⟨_, rfl, ho, trivial⟩
        | succ k => simpa using h2 k id (by simpa using hk)
    · rename_i g sz n t f ho
      cases hr : obsOf objs r with
      | none => rw [hr] at h; cases h
      | some obs' =>
        rw [hr] at h
        simp only [Option.map_some, Option.some.injEq] at h
        subst h
        obtain ⟨h1, h2⟩ := obsOf_spec hr
        refine ⟨by simp [h1], fun k id hk => ?_⟩
        cases k with
        | zero => simp only [List.getElem?_cons_zero, Option.some.injEq] at hk; subst hk; exact ⟨_, rfl, ho, trivial⟩
        | succ k => simpa using h2 k id (by simpa using hk)
    · cases h


theorem backU_spec {objs : List (Option Ob)} : ∀ {ids : List Nat} {obs post : List Ob} {u : List (Nat × Option Ob)} {bs : List Prop}, ids.Nodup → backU (std P) ids obs post = some (u, bs) → (∀ q ∈ bs, q) →
    (∀ (k id : Nat), ids[k]? = some id → ∃ o, obs[k]? = some o ∧ objs[id]? = some (some o)) → (putObjs objs u).length = objs.length ∧ (∀ id, id ∉ ids → (putObjs objs u)[id]? = objs[id]?) ∧
      ∀ (k id : Nat), ids[k]? = some id → ∃ o q, obs[k]? = some o ∧ post[k]? = some q ∧ (putObjs objs u)[id]? = some (some (setG o.gen q)) ∧ o.like (setG o.gen q) ∧ q.live
  | [], [], [], u, bs, _, h, _, _ => by
    simp only [backU, Option.some.injEq, Prod.mk.injEq] at h
    obtain ⟨rfl, rfl⟩ := h
    exact ⟨rfl, fun _ _ => rfl, fun k id hk => by simp at hk⟩
  | id :: r, .box g cs :: os, .box g2 cs' :: ps, u, bs, hn, h, hbs, hobj => by
    simp only [backU] at h
    split at h
    · cases hr : backU (std P) r os ps with
      | none => rw [hr] at h; cases h
      | some x =>
        obtain ⟨u', bs'⟩ := x
        rw [hr] at h
        simp only [Option.map_some, Option.some.injEq, Prod.mk.injEq] at h
        obtain ⟨rfl, rfl⟩ := h
        rw [List.nodup_cons] at hn
        obtain ⟨o0, h0, h0'⟩ := hobj 0 id (by simp)
        have hlt : id < objs.length := (List.getElem?_eq_some_iff.1 h0').1
        obtain ⟨h1, h2, h3⟩ := backU_spec (objs := objs.set id (some (.box g cs'))) hn.2 hr hbs (fun k i hk => by
          obtain ⟨o, q1, q2⟩ := hobj (k + 1) i (by simpa using hk)
          refine ⟨o, by simpa using q1, ?_⟩
          have hne : id ≠ i := by intro e; subst e; exact hn.1 (List.mem_of_getElem? hk)
          rw [List.getElem?_set_ne hne]; exact q2)
        refine ⟨by simpa [putObjs] using h1, fun i hi => ?_, fun k i hk => ?_⟩
        · simp only [List.mem_cons, not_or] at hi
          simp only [putObjs]
          rw [h2 i hi.2, List.getElem?_set_ne (Ne.symm hi.1)]
        · cases k with
          | zero =>
            simp only [List.getElem?_cons_zero, Option.some.injEq] at hk
            subst hk
            refine ⟨_, _, rfl, rfl, ?_, ?_, trivial⟩
            · simp only [putObjs]
              rw [h2 id hn.1, List.getElem?_set_self hlt]; rfl
            · simp [Ob.like, setG, Ob.gen]
          | succ k => simpa [putObjs] using h3 k i (by simpa using hk)
    · cases h
  | id :: r, .arr g sz n t f :: os, .arr g2 sz' n' t' f' :: ps, u, bs, hn, h, hbs, hobj => by
    simp only [backU] at h
    split at h
    · rename_i hsz
      have hsz := Nat.eq_of_beq_eq_true hsz; subst hsz
      cases hr : backU (std P) r os ps with
      | none => rw [hr] at h; cases h
      | some x =>
        obtain ⟨u', bs'⟩ := x
        rw [hr] at h
        simp only [Option.map_some, Option.some.injEq, Prod.mk.injEq] at h
        obtain ⟨rfl, rfl⟩ := h
        have e1 : n = n' := hbs _ (List.mem_cons_self ..)
        have e2 : t = t' := hbs _ (List.mem_cons_of_mem _ (List.mem_cons_self ..))
        subst e1; subst e2
        rw [List.nodup_cons] at hn
        obtain ⟨o0, h0, h0'⟩ := hobj 0 id (by simp)
        have hlt : id < objs.length := (List.getElem?_eq_some_iff.1 h0').1
        obtain ⟨h1, h2, h3⟩ := backU_spec (objs := objs.set id (some (.arr g sz n t f'))) hn.2 hr (fun q hq => hbs q (List.mem_cons_of_mem _ (List.mem_cons_of_mem _ hq))) (fun k i hk => by
          obtain ⟨o, q1, q2⟩ := hobj (k + 1) i (by simpa using hk)
          refine ⟨o, by simpa using q1, ?_⟩
          have hne : id ≠ i := by intro e; subst e; exact hn.1 (List.mem_of_getElem? hk)
          rw [List.getElem?_set_ne hne]; exact q2)
        refine ⟨by simpa [putObjs] using h1, fun i hi => ?_, fun k i hk => ?_⟩
        · simp only [List.mem_cons, not_or] at hi
          simp only [putObjs]
          rw [h2 i hi.2, List.getElem?_set_ne (Ne.symm hi.1)]
        · cases k with
          | zero =>
            simp only [List.getElem?_cons_zero, Option.some.injEq] at hk
            subst hk
            refine ⟨_, _, rfl, rfl, ?_, ?_, trivial⟩
            · simp only [putObjs]
              rw [h2 id hn.1, List.getElem?_set_self hlt]; rfl
            · simp [Ob.like, setG, Ob.gen]
          | succ k => simpa [putObjs] using h3 k i (by simpa using hk)
    · cases h
  | [], _ :: _, _, u, bs, _, h, _, _ => by simp [backU] at h
  | [], [], _ :: _, u, bs, _, h, _, _ => by simp [backU] at h
  | _ :: _, [], _, u, bs, _, h, _, _ => by simp [backU] at h
  | _ :: _, .box _ _ :: _, [], u, bs, _, h, _, _ => by simp [backU] at h
  | _ :: _, .arr _ _ _ _ _ :: _, [], u, bs, _, h, _, _ => by simp [backU] at h
  | _ :: _, .dead _ :: _, _, u, bs, _, h, _, _ => by simp [backU] at h
  | _ :: _, .iter _ _ _ :: _, _, u, bs, _, h, _, _ => by simp [backU] at h
  | _ :: _, .box _ _ :: _, .iter _ _ _ :: _, u, bs, _, h, _, _ => by simp [backU] at h
  | _ :: _, .arr _ _ _ _ _ :: _, .iter _ _ _ :: _, u, bs, _, h, _, _ => by simp [backU] at h
  | _ :: _, .box _ _ :: _, .arr _ _ _ _ _ :: _, u, bs, _, h, _, _ => by simp [backU] at h
  | _ :: _, .box _ _ :: _, .dead _ :: _, u, bs, _, h, _, _ => by simp [backU] at h
  | _ :: _, .arr _ _ _ _ _ :: _, .box _ _ :: _, u, bs, _, h, _, _ => by simp [backU] at h
  | _ :: _, .arr _ _ _ _ _ :: _, .dead _ :: _, u, bs, _, h, _, _ => by simp [backU] at h

theorem cloL_get : ∀ {cs : List D}, (∀ q ∈ cloL (std P) cs, q) → ∀ (j : Nat) (d : D), cs[j]? = some d → clo (std P) d
  | [], _, j, d, hj => by simp at hj
  | c :: r, h, j, d, hj => by
    cases j with
    | zero => simp only [List.getElem?_cons_zero, Option.some.injEq] at hj; subst hj; exact h _ (List.mem_cons_self ..)
    | succ j => exact cloL_get (fun q hq => h q (List.mem_cons_of_mem _ hq)) j d (by simpa using hj)

theorem cloObs_get : ∀ {os : List Ob}, (∀ q ∈ cloObs (std P) os, q) → ∀ (k : Nat) (o : Ob), os[k]? = some o → ∀ q ∈ cloOb (std P) o, q
  | [], _, k, o, hk => by simp at hk
  | c :: r, h, k, o, hk => by
    cases k with
    | zero => simp only [List.getElem?_cons_zero, Option.some.injEq] at hk; subst hk; exact fun q hq => h q (List.mem_append_left _ hq)
    | succ k => exact cloObs_get (fun q hq => h q (List.mem_append_right _ hq)) k o (by simpa using hk)

/-- An object whose contents hold no object, seen from elsewhere. -/
theorem rob_over {h : Array Obj} {I I' : Nat → Prop} {β β' : Nat → Option (Nat × Nat × Nat)} {objs objs' : List (Option Ob)} {ctr ctr' k k' g : Nat} {o : Ob} (hg : g ≤ ctr') (hI : ∀ b, I b → I' b)
    (hn : ∀ x, β k = some x → ¬ I' x.1) (hβ : β' k' = β k) (hc : ∀ q ∈ cloOb (std P) o, q) (hr : Rob h I β objs ctr k o) : Rob h I' β' objs' ctr' k' (setG g o) := by
  cases o with
  | box g0 cs =>
    obtain ⟨_, b, o, s, c, e, h1, h2, h3, h4, h5, h6⟩ := hr
    refine ⟨hg, b, o, s, c, e, by rw [hβ]; exact h1, h2, h3, hn _ h1, h5, fun j d hj => ?_⟩
    obtain ⟨z, z1, z2, z3⟩ := h6 j d hj
    exact ⟨z, z1, z2, clo_ok hI (fun _ _ => rfl) _ _ (cloL_get hc j d hj) z3⟩
  | arr g0 sz n t f =>
    obtain ⟨_, hn0, hx⟩ := hr
    refine ⟨hg, hn0, ?_⟩
    have hc := hc _ (List.mem_singleton.2 rfl)
    rcases hx with ⟨h1, h2⟩ | ⟨b, o, s, c, e, h1, h2, h3, h4, h5, h6⟩
    · exact .inl ⟨h1, by rw [hβ]; exact h2⟩
    · refine .inr ⟨b, o, s, c, e, by rw [hβ]; exact h1, h2, h3, hn _ h1, h5, fun i hi j hj => ?_⟩
      obtain ⟨z, z1, z2, z3⟩ := h6 i hi j hj
      exact ⟨z, z1, z2, clo_ok hI (fun _ _ => rfl) _ _ (hc i (by omega) hi j hj) z3⟩
  | iter g0 s pos =>
    obtain ⟨_, hp, b, o, z, h1, h2, h3⟩ := hr
    exact ⟨hg, hp, b, o, z, by rw [hβ]; exact h1, h2, hn _ h1⟩
  | dead g0 => exact ⟨hg, by rw [hβ]; exact hr.2⟩

theorem lendOwe_get {objs : List (Option Ob)} : ∀ {args : List D}, (∀ q ∈ lendOwe (std P) objs args, q) → ∀ (t : Nat) (d : D), args[t]? = some d →
    (∃ id g o, refId d = some id ∧ objs[id]? = some (some o) ∧ g = o.gen ∧ ((∃ j, d = .bref id g j) ∨ (∃ sz i j, d = .aref id g sz i j) ∨ ∃ sz off n, d = .vec id g sz off n)) ∨ (refId d = none ∧ clo (std P) d)
  | [], _, t, d, ht => by simp at ht
  | c :: r, h, t, d, ht => by
    cases t with
    | succ t => exact lendOwe_get (fun q hq => h q (List.mem_cons_of_mem _ hq)) t d (by simpa using ht)
    | zero =>
      simp only [List.getElem?_cons_zero, Option.some.injEq] at ht
      subst ht
      have := h _ (List.mem_cons_self ..)
      cases c <;> simp only at this
      case bref id g j =>
        left
        split at this
        · rename_i o ho; exact ⟨id, g, o, rfl, ho, this, .inl ⟨j, rfl⟩⟩
        · exact this.elim
      case aref id g sz i j =>
        left
        split at this
        · rename_i o ho; exact ⟨id, g, o, rfl, ho, this, .inr (.inl ⟨sz, i, j, rfl⟩)⟩
        · exact this.elim
      case vec id g sz off n =>
        left
        split at this
        · rename_i o ho; exact ⟨id, g, o, rfl, ho, this, .inr (.inr ⟨sz, off, n, rfl⟩)⟩
        · exact this.elim
      all_goals exact .inr ⟨rfl, this⟩

theorem setG_gen (g : Nat) (o : Ob) : (setG g o).gen = g := by cases o <;> rfl

/-- Before and behind a call that changes what is lent to it. -/
theorem lent_ok (R : RM B0 h0 I0 L I β slots objs ctr a w) {f : FuncId} {args : List D} {vs : List Value} {obs post : List Ob} {d : D} {u : List (Nat × Option Ob)} {bs : List Prop}
    (hobs : obsOf objs (refIds args []) = some obs) (hback : backU (std P) (refIds args []) obs post = some (u, bs)) (hd : isOwnD d = false)
    (ho1 : ∀ q ∈ lendOwe (std P) objs args, q) (ho2 : ∀ q ∈ cloObs (std P) obs, q) (ho3 : ∀ q ∈ cloObs (std P) post, q) (ho4 : ∀ q ∈ bs, q)
    (hlent : LentFn P f (args.map (ren (refIds args []))) (obs.map (setG 0)) post d)
    (hlen : vs.length = args.length) (hargs : ∀ (t : Nat) (d : D), args[t]? = some d → ∃ y, vs[t]? = some y ∧ Rd w.heap I β objs ctr d y) :
    Calls P f vs.toArray w fun e w' => ∃ v, e = .returned v ∧ Post B0 h0 I0 L I β objs ctr w (putObjs objs u) w' d v := by
  obtain ⟨hnd, _, hin⟩ := refIds_spec args [] List.nodup_nil
  generalize hids : refIds args [] = ids at *
  obtain ⟨hol, hoo⟩ := obsOf_spec hobs
  obtain ⟨hul, hun, huk⟩ := backU_spec (objs := objs) hnd hback ho4 (fun k id hk => by
    obtain ⟨o, q1, q2, _⟩ := hoo k id hk
    exact ⟨o, q1, q2⟩)
  have hinj : ∀ (k k' id : Nat), ids[k]? = some id → ids[k']? = some id → k = k' := by
    intro k k' id h1 h2
    have l1 := (List.getElem?_eq_some_iff.1 h1)
    have l2 := (List.getElem?_eq_some_iff.1 h2)
    obtain ⟨l1, e1⟩ := l1
    obtain ⟨l2, e2⟩ := l2
    exact (List.getElem_inj hnd).1 (e1.trans e2.symm)
  let β0 : Nat → Option (Nat × Nat × Nat) := fun k => match ids[k]? with
    | some id => β id
    | none => none
  have hβ0 : ∀ k id, ids[k]? = some id → β0 k = β id := fun k id hk => by simp [β0, hk]
  have hβ0x : ∀ k x, β0 k = some x → ∃ id, ids[k]? = some id ∧ β id = some x := by
    intro k x hk
    simp only [β0] at hk
    split at hk
    · rename_i id hid; exact ⟨id, hid, hk⟩
    · cases hk
  have hpre : ∀ (k : Nat) (o : Ob), (obs.map (setG 0))[k]? = some o → ∃ id o', ids[k]? = some id ∧ obs[k]? = some o' ∧ objs[id]? = some (some o') ∧ o = setG 0 o' := by
    intro k o hk
    rw [List.getElem?_map] at hk
    cases hok : obs[k]? with
    | none => rw [hok] at hk; cases hk
    | some o' =>
      rw [hok] at hk
      simp only [Option.map_some, Option.some.injEq] at hk
      have hlt : k < ids.length := by rw [← hol]; exact (List.getElem?_eq_some_iff.1 hok).1
      obtain ⟨o2, q1, q2, _⟩ := hoo k _ (List.getElem?_eq_getElem hlt)
      rw [hok] at q1; cases q1
      exact ⟨_, o', List.getElem?_eq_getElem hlt, rfl, q2, hk.symm⟩
  obtain ⟨_, hcall⟩ := hlent
  have hc := hcall w I (ctr + 1) vs β0 (by omega) (fun b hb => (R.lt b hb).1) R.glob (by simpa using hlen) ?_ ?_ ?_ ?_
  · refine hc.mono ?_
    rintro e w' ⟨v, I', c', rfl, h1, h2, h3, h4, hwo, h5, h6⟩
    have G : Goes w.heap I β objs ctr w'.heap I' β (putObjs objs u) ctr := by
      refine ⟨h1, fun b hb => ?_, fun id g hg => ?_, fun id g hg o' ho' hgo hl => ?_⟩
      · refine h3 b (R.lt b hb).1 fun k x hk he => ?_
        obtain ⟨id, _, hx⟩ := hβ0x k x hk
        exact R.notI hx (he ▸ hb)
      · rcases hg with hg | ⟨hg, o, ho, hgo⟩
        · exact .inl hg
        · refine .inr ⟨hg, ?_⟩
          by_cases hi : id ∈ ids
          · obtain ⟨k, hk⟩ := List.getElem?_of_mem hi
            obtain ⟨o1, q, q1, q2, q3, q4, q5⟩ := huk k id hk
            obtain ⟨o2, r1, r2, _⟩ := hoo k id hk
            rw [q1] at r1; cases r1
            rw [ho] at r2; cases r2
            exact ⟨_, q3, by rw [setG_gen]; exact hgo⟩
          · exact ⟨o, by rw [hun id hi]; exact ho, hgo⟩
      · by_cases hi : id ∈ ids
        · obtain ⟨k, hk⟩ := List.getElem?_of_mem hi
          obtain ⟨o1, q, q1, q2, q3, q4, q5⟩ := huk k id hk
          obtain ⟨o2, r1, r2, _⟩ := hoo k id hk
          rw [q1] at r1; cases r1
          rw [q3] at ho'; cases ho'
          exact ⟨o1, r2, q4, rfl⟩
        · rw [hun id hi] at ho'
          exact ⟨o', ho', Ob.like_refl _, rfl⟩
    refine ⟨v, rfl, I', β, G, fun id o' ho' => ?_, fun k x hk => ?_, R.dist, R.own, fun b hb => ?_, fun b hb hL => ?_, by have := R.size; omega, hwo, ?_⟩
    · by_cases hi : id ∈ ids
      · obtain ⟨k, hk⟩ := List.getElem?_of_mem hi
        obtain ⟨o1, q, q1, q2, q3, q4, q5⟩ := huk k id hk
        obtain ⟨o2, r1, r2, _⟩ := hoo k id hk
        rw [q1] at r1; cases r1
        rw [q3] at ho'; cases ho'
        have hr := h5 k q q2
        refine rob_over (g := o1.gen) (by have := R.ob id o1 r2; cases o1 <;> exact this.1) (fun _ h => h) (fun x hx => ?_) (hβ0 k id hk).symm (cloObs_get ho3 k q q2) hr
        obtain ⟨id', _, hx'⟩ := hβ0x k x hx
        intro hb
        rcases (h2 _ hb).2 with h | h
        · exact R.notI hx' h
        · have := R.lt_block hx'; omega
      · rw [hun id hi] at ho'
        refine Rob.mono G (fun b x hb hI => ⟨?_, ?_⟩) rfl (R.ob id o' ho')
        · refine h3 b (R.lt_block hb) fun k x' hk he => ?_
          obtain ⟨id', hid', hx'⟩ := hβ0x k x' hk
          have hne : id' ≠ id := fun e => hi (e ▸ List.mem_of_getElem? hid')
          exact R.dist id' id x' _ hne hx' hb he
        · intro hb'
          rcases (h2 _ hb').2 with h | h
          · exact hI h
          · have := R.lt_block hb; simp at this; omega
    · obtain ⟨o, ho⟩ := R.dom k x hk
      by_cases hi : k ∈ ids
      · obtain ⟨k', hk'⟩ := List.getElem?_of_mem hi
        obtain ⟨o1, q, q1, q2, q3, q4, q5⟩ := huk k' k hk'
        exact ⟨_, q3⟩
      · exact ⟨o, by rw [hun k hi]; exact ho⟩
    · obtain ⟨l1, l2⟩ := h2 b hb
      refine ⟨l1, ?_⟩
      rcases l2 with h | h
      · exact (R.lt b h).2
      · have := R.size; exact .inr (.inl (by omega))
    · rw [← R.frame b hb hL]
      refine h3 b (Nat.lt_of_lt_of_le hb R.size) fun k x hk he => ?_
      obtain ⟨id, _, hx⟩ := hβ0x k x hk
      rcases R.own id x hx with h | h
      · omega
      · exact hL (he ▸ h)
    · exact Rd.mono (Goes.back _ _ _ _ _) _ _ (res_plain hd h6)
  · intro t d' ht
    rw [List.getElem?_map] at ht
    cases hat : args[t]? with
    | none => rw [hat] at ht; cases ht
    | some d0 =>
      rw [hat] at ht
      simp only [Option.map_some, Option.some.injEq] at ht
      subst ht
      obtain ⟨y, hy, hv⟩ := hargs t d0 hat
      refine ⟨y, hy, ?_⟩
      rcases lendOwe_get ho1 t d0 hat with ⟨id, g, o, hid, hob, hgo, hshape⟩ | ⟨hno, hclo⟩
      · have hmem := hin t d0 id hat hid
        have hk := idxN_get hmem
        obtain ⟨o1, q1, q2, q3⟩ := hoo _ id hk
        rw [hob] at q2; cases q2
        have hpk : ((obs.map (setG 0)).map some)[idxN ids id]? = some (some (setG 0 o)) := by
          rw [List.getElem?_map, List.getElem?_map, q1]; rfl
        have hb0 := hβ0 _ id hk
        rcases hshape with ⟨j, rfl⟩ | ⟨sz, i, j, rfl⟩ | ⟨sz, off, n, rfl⟩
        · obtain ⟨_, hsh, hx⟩ := hv
          refine ⟨.inl (by omega), hsh, fun cs hcs => ?_⟩
          rw [hpk] at hcs
          cases o <;> simp [setG] at hcs
          subst hcs
          have hgo : g = _ := hgo
          simp only [Ob.gen] at hgo
          subst hgo
          rw [hb0]
          exact hx _ hob
        · obtain ⟨_, hsh, hx⟩ := hv
          refine ⟨.inl (by omega), hsh, fun N t f hcs => ?_⟩
          rw [hpk] at hcs
          cases o <;> simp [setG] at hcs
          obtain ⟨rfl, rfl, rfl, rfl⟩ := hcs
          simp only [Ob.gen] at hgo
          subst hgo
          rw [hb0]
          exact hx _ _ _ hob
        · obtain ⟨_, hsh, hx⟩ := hv
          refine ⟨.inl (by omega), hsh, fun N t f hcs => ?_⟩
          rw [hpk] at hcs
          cases o <;> simp [setG] at hcs
          obtain ⟨rfl, rfl, rfl, rfl⟩ := hcs
          simp only [Ob.gen] at hgo
          subst hgo
          rw [hb0]
          exact hx _ _ _ hob
      · have e : ren ids d0 = d0 := by cases d0 <;> simp [refId] at hno <;> rfl
        rw [e]
        exact clo_ok (fun _ h => h) (fun _ _ => rfl) _ _ hclo hv
  · intro k o hk
    obtain ⟨id, o', q1, q2, q3, rfl⟩ := hpre k o hk
    exact ⟨setG_gen _ _, rob_over (by omega) (fun _ h => h) (fun x hx => R.notI hx) (hβ0 k id q1) (cloObs_get ho2 k o' q2) (R.ob id o' q3)⟩
  · intro k x hk
    obtain ⟨id, hid, hx⟩ := hβ0x k x hk
    obtain ⟨o, q1, _⟩ := hoo k id hid
    exact ⟨setG 0 o, by rw [List.getElem?_map, q1]; rfl⟩
  · intro k k' x x' hne hk hk'
    obtain ⟨id, hid, hx⟩ := hβ0x k x hk
    obtain ⟨id', hid', hx'⟩ := hβ0x k' x' hk'
    exact R.dist id id' x x' (fun e => hne (hinj k k' id hid (e ▸ hid'))) hx hx'
end
end Go.Vx
