/- Part of a proof; no conditions of its own. -/
import Derived.Test.YtofgfpibcoafgaaE5
set_option linter.all false
namespace Go.Vx
set_option maxRecDepth 100000

/-- One letter, as the machine goes over it. -/
def StepM (k _mt : List Int) (b v : Int) (m m' : Mch) : Prop :=
  ((¬ Op k v ∧ getL 0 k v ≠ 23) ∧ ∃ c, m' = embedM m v c) ∨ (Op k v ∧ ∃ odd, m' = isolateM m v odd) ∨ (getL 0 k v = 23 ∧ m' = takeM (endIsoM m) v)
  ∨ ((¬ Op k v ∧ getL 0 k v ≠ 23) ∧ m' = endEmbM (removeM m v)) ∨ (getL 0 k v = 11 ∧ m' = { m with frun := { m.frun with fLevels := setL m.frun.fLevels v b } })
  ∨ ((¬ Op k v ∧ getL 0 k v ≠ 23) ∧ m' = removeM m v) ∨ (¬ Op k v ∧ getL 0 k v ≠ 23 ∧ m' = takeM m v)

def mch (x : List Int × List Int × Int × Int × Int × Int × List Int × List Int × List Bool × List Sts) : Mch :=
  ⟨x.1, x.2.1, x.2.2.1, ⟨x.2.2.2.2.2.2.1, x.2.2.2.2.2.2.2.1, x.2.2.2.2.2.2.2.2.1⟩, ⟨x.2.2.2.2.2.2.2.2.2⟩, x.2.2.2.1, x.2.2.2.2.1, x.2.2.2.2.2.1⟩

theorem explicit_rule {l k : List Int} {b base : Int} (hk : embed_known l = some k) (hb : lenL k ≤ 100000) (hp : embed_parity base = some b) (hb0 : 0 ≤ b ∧ b ≤ 1) (Inv : List Int → Int → Mch → Prop)
    (h0 : ∀ mt, Inv mt 0 ⟨k, mt, b, ⟨repL (lenL k) 0, k, repL (lenL k) false⟩, ⟨[⟨b, 14, false⟩]⟩, 0, 0, 0⟩)
    (hstep : ∀ mt v m m', 0 ≤ v → v < lenL k → Good k mt b v m → Inv mt v m → StepM k mt b v m m' → Inv mt (v + 1) m') :
    Yields (embed_Explicit l base) fun r => ∃ mt m, r = m.frun ∧ Good k mt b (lenL k) m ∧ Inv mt (lenL k) m := by
  have hn := lenL_nn k
  unfold embed_Explicit
  refine .cut (fun r => ∃ mt, r = .go (k, k, mt, b, repL (lenL k) 0, k, repL (lenL k) false, []) ∧ lenL mt = lenL k ∧ (∀ i, 0 ≤ i → i < lenL k → Op k i → i < getL 0 mt i ∧ getL 0 mt i ≤ lenL k)) ?_ ?_
  · refine .call hk ?_
    refine .bind _ (match_yields hb) fun mt hm => ?_
    obtain ⟨hml, o, I⟩ := hm
    refine .call hp ?_
    refine .chk (mkOk hn (by omega) (by omega)) (.chk (grOk hn (by omega) (by omega)) (.chk (mkOk hn (by omega) (by omega)) (.ret ⟨mt, rfl, hml, fun i i0 i1 hO => ?_⟩)))
    rcases (I.loc i i0 i1).1 hO with h | ⟨h1, h2, _, _⟩ <;> omega
  rintro r ⟨mt, rfl, hml, hg⟩
  refine .go ?_
  refine .call (b := ⟨[⟨b, 14, false⟩]⟩) (by unfold ss_push; rw [chk_ok (grOk (by simp) (by simp) (by omega))]; rfl) ?_
  refine .cut (fun r => ∃ x, r = .go x ∧ Good k mt b (lenL k) (mch x) ∧ Inv mt (lenL k) (mch x)) ?_ (by
    rintro r ⟨⟨A, B, x, y, z, w, L, R, C, S⟩, rfl, h1, h2⟩
    exact .go (.ret ⟨mt, _, rfl, h1, h2⟩))
  refine .loop (fun x => 0 ≤ x.1 ∧ x.1 ≤ lenL k ∧ Good k mt b x.1 (mch x.2) ∧ Inv mt x.1 (mch x.2)) (fun x => (lenL k - x.1).toNat)
    ⟨by simp only; omega, by simp only; omega, ⟨rfl, rfl, rfl, lenL_rep _ hn, rfl, lenL_rep _ hn, by simp [mch], by simp [mch], by simp [mch], by simp [mch], by simp [mch, cntI], rfl, fun j j0 j1 => ?_⟩, h0 mt⟩ ?_
  · have e : j = 0 := by simp [mch] at j1; omega
    subst e
    show 0 ≤ b ∧ b ≤ 125
    omega
  rintro ⟨v, A, B, x, y, z, w, L, C, R, S⟩ ⟨v0, vn, G, I⟩
  simp only at v0 vn G I
  have hA : A = k := G.hl
  have hx : x = b := G.hb
  have n1 : lenL L = lenL k := G.n1
  refine .ite (fun h => ?_) (fun h => ?_)
  · have h : v < lenL k := by simpa using h
    rw [hA] at G I ⊢
    refine .cut (fun r => ∃ x', r = .go x' ∧ Good k mt b (v + 1) (mch x') ∧ StepM k mt b v (mch (k, B, x, y, z, w, L, C, R, S)) (mch x')) ?_ ?_
    · have ret : ∀ {γ : Type} {m' : Mch}, Good k mt b (v + 1) m' → StepM k mt b v (mch (k, B, x, y, z, w, L, C, R, S)) m' →
          Yields (some (Fl.go (γ := γ) (m'.fl, m'.fmatch, m'.fbase, m'.fisolates, m'.fembeddings, m'.fvalid, m'.frun.fLevels, m'.frun.fClasses, m'.frun.fRemoved, m'.fopen.fl)))
            (fun r => ∃ x', r = .go x' ∧ Good k mt b (v + 1) (mch x') ∧ StepM k mt b v (mch (k, B, x, y, z, w, L, C, R, S)) (mch x')) := fun h1 h2 => .ret ⟨_, rfl, h1, h2⟩
      refine .chk ⟨v0, h⟩ ?_
      refine .cut (fun r => ∃ q : Bool, r = .go q ∧ (q = true → ¬ Op k v ∧ getL 0 k v ≠ 23)) ?_ ?_
      · refine .ite (fun h1 => .ret ⟨_, rfl, fun h2 => by simp at h1; unfold Op; omega⟩) (fun _ => .ite (fun h1 => .ret ⟨_, rfl, fun h2 => by simp at h1; unfold Op; omega⟩) (fun _ => .ite (fun h1 => .ret ⟨_, rfl, fun h2 => by simp at h1; unfold Op; omega⟩) (fun _ => .ret ⟨_, rfl, fun h2 => by simp at h2; unfold Op; omega⟩)))
      rintro r ⟨q, rfl, hq⟩
      refine .go (.ite (fun hh => ?_) (fun _ => ?_))
      · exact .call (embed_eq hb G v0 h) (ret G.embed (.inl ⟨hq hh, _, rfl⟩))
      refine .cut (fun r => ∃ q : Bool, r = .go q ∧ (q = true ↔ Op k v)) ?_ ?_
      · have hop : Op k v ↔ ((getL 0 k v == 21) = true ∨ (getL 0 k v == 20) = true ∨ (getL 0 k v == 22) = true) := by
          simp only [beq_iff_eq, Op]; omega
        refine .ite (fun h1 => .ret ⟨_, rfl, by rw [hop]; simp [h1]⟩) (fun h1 => ?_)
        refine .ite (fun h2 => .ret ⟨_, rfl, by rw [hop]; simp [h2]⟩) (fun h2 => .ret ⟨_, rfl, by rw [hop]; simp [h1, h2]⟩)
      rintro r ⟨q, rfl, hq2⟩
      refine .go (.ite (fun hh => ?_) (fun hh => ?_))
      · have hO := hq2.1 hh
        obtain ⟨odd, he⟩ := isolate_eq hb G v0 h hml hg hO (c := getL 0 k v)
        exact .call he (ret G.isolate (.inr (.inl ⟨hO, odd, rfl⟩)))
      have hO : ¬ Op k v := fun h2 => by rw [hq2.2 h2] at hh; cases hh
      refine .ite (fun hh => ?_) (fun h23 => ?_)
      · exact .call (endIso_eq hb G h) (.call (take_eq hb G.endIso v0 h (by omega)) (ret G.endIso.take.up (.inr (.inr (.inl ⟨by simpa using hh, rfl⟩)))))
      have h23 : getL 0 k v ≠ 23 := by simpa using h23
      refine .ite (fun hh => ?_) (fun _ => ?_)
      · exact .call (remove_eq hb G v0 h (by omega)) (.call (endEmb_eq hb G.remove h) (ret G.remove.endEmb.up (.inr (.inr (.inr (.inl ⟨⟨hO, h23⟩, rfl⟩))))))
      refine .ite (fun hh => ?_) (fun _ => .ite (fun hh => ?_) (fun _ => ?_))
      · refine .chk ⟨v0, by omega⟩ (.ret ⟨_, rfl, ?_, .inr (.inr (.inr (.inr (.inl ⟨by simpa using hh, ?_⟩))))⟩)
        · exact ⟨G.hl, G.hm, G.hb, by simpa [mch] using G.n1, G.n2, G.n3, G.o0, by have := G.o1; simp only [mch] at this ⊢; omega, by have := G.is; simp only [mch] at this ⊢; omega, by have := G.em; simp only [mch] at this ⊢; omega, G.va, G.b0, G.lv⟩
        · rw [hx]; rfl
      · exact .call (remove_eq hb G v0 h (by omega)) (ret G.remove.up (.inr (.inr (.inr (.inr (.inr (.inl ⟨⟨hO, h23⟩, rfl⟩)))))))
      · exact .call (take_eq hb G v0 h (by omega)) (ret G.take.up (.inr (.inr (.inr (.inr (.inr (.inr ⟨hO, h23, rfl⟩)))))))
    · rintro r ⟨⟨A', B', x', y', z', w', L', C', R', S'⟩, rfl, h1, h2⟩
      refine .go (.chk (inR64 (by omega) (by omega)) (.ret ⟨⟨by simp only; omega, by simp only; omega, h1, ?_⟩, by simp only; omega⟩))
      exact hstep mt v _ _ v0 h G I h2
  · have h : lenL k ≤ v := by simpa [hA] using h
    have e : v = lenL k := by omega
    subst e
    exact .ret ⟨_, rfl, G, I⟩
end Go.Vx
