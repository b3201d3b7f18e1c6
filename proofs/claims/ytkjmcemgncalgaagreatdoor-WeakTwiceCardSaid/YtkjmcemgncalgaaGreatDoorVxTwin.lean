/- Twins of lifted functions that the kernel can reckon: loops with fuel; what a twin yields the lifted function yields. -/
import Derived.Test.YtkjmcemgncalgaaGreatDoorVxHoare
set_option linter.all false
namespace Go.Vx
section
variable {α β γ : Type}
def Tw (o o' : Option α) : Prop := ∀ r, o = some r → o' = some r
def loopR (body : α → Option (Fl α γ)) (n : Nat) : α → Option γ :=
 Nat.rec (motive := fun _ => α → Option γ) (fun _ => none) (fun _ ih x => match body x with
  | none => none
  | some (.go y) => ih y
  | some (.out r) => some r) n
def loopF (body : α → Option (Fl α γ)) (x : α) : Option γ := loopR body 3000 x
theorem loopR_eq (body : α → Option (Fl α γ)) : ∀ (n : Nat) (x : α), loopR body n x = loopN body n x
 | 0, _ => rfl
 | n + 1, x => by
  show (match body x with
   | none => none
   | some (.go y) => loopR body n y
   | some (.out r) => some r) = loopN body (n + 1) x
  simp only [loopN]
  cases body x with
  | none => rfl
  | some f =>
   cases f with
   | go y => exact loopR_eq body n _
   | out r => rfl
theorem Tw.refl (o : Option α) : Tw o o := fun _ h => h
theorem Tw.of {o o' : Option α} {r : α} (h : Tw o o') (hr : o = some r) : o' = some r := h r hr
theorem Tw.chk {c : Prop} [Decidable c] {k k' : Option α} (h : Tw k k') : Tw (chk c k) (chk c k') := by
 intro r hr
 obtain ⟨h1, h2⟩ := chk_some hr
 rw [chk_ok h1]; exact h r h2
theorem Tw.ite {c : Bool} {x x' y y' : Option α} (h1 : Tw x x') (h2 : Tw y y') : Tw (iteO c x y) (iteO c x' y') := by
 cases c
 · exact h2
 · exact h1
theorem Tw.gif {c : Bool} {o o' : Option α} {x : Option α} (h : Tw o o') : Tw (if c = true then o else x) (if c = true then o' else x) := by
 cases c
 · exact Tw.refl _
 · exact h
theorem Tw.bind {o o' : Option β} {k k' : β → Option γ} (h : Tw o o') (hk : ∀ b, Tw (k b) (k' b)) : Tw (bindO o k) (bindO o' k') := by
 intro r hr
 obtain ⟨b, h1, h2⟩ := bindO_some hr
 rw [h b h1]; exact hk b r h2
theorem Tw.cont {k k' : β → Option γ} (hk : ∀ b, Tw (k b) (k' b)) : ∀ f : Fl β γ, Tw (contO k f) (contO k' f)
 | .go b => hk b
 | .out _ => Tw.refl _
theorem Tw.cut {o o' : Option (Fl β γ)} {k k' : β → Option γ} (h : Tw o o') (hk : ∀ b, Tw (k b) (k' b)) : Tw (cutO o k) (cutO o' k') := by
 intro r hr
 obtain ⟨f, h1, h2⟩ := cutO_some hr
 rw [h f h1]; exact Tw.cont hk f r h2
theorem Tw.loopN {b b' : α → Option (Fl α γ)} (h : ∀ x, Tw (b x) (b' x)) : ∀ (n : Nat) (x : α), Tw (Go.Vx.loopN b n x) (Go.Vx.loopN b' n x)
 | 0, _ => fun r hr => by cases hr
 | n + 1, x => by
  intro r hr
  simp only [Go.Vx.loopN] at hr ⊢
  cases hb : b x with
  | none => rw [hb] at hr; cases hr
  | some f =>
   rw [hb] at hr
   rw [h x f hb]
   cases f with
   | go y => exact Tw.loopN h n y r hr
   | out q => exact hr
theorem Tw.loop {b b' : α → Option (Fl α γ)} {x : α} (h : ∀ x, Tw (b x) (b' x)) : Tw (loopF b x) (loopO b' x) := by
 intro r hr
 unfold loopF at hr
 rw [loopR_eq] at hr
 exact loopO_of (Tw.loopN h _ x r hr)
theorem Tw.nil {n : Int} {a b b' : Option α} (h : n = 0 → a = b') (hb : Tw b b') : Tw b (nilO n a b') := by
 rw [nilO_eq h]; exact hb
end
def ssubC (s : ByteArray) (l h : Int) : ByteArray := ⟨⟨(s.data.toList.drop l.toNat).take (h.toNat - l.toNat)⟩⟩
theorem ssubS_eq : ssubS = ssubC := by
 funext s l h
 unfold ssubS ssubC
 apply ByteArray.ext
 apply Array.ext'
 simp [ByteArray.data_extract, List.extract_eq_take_drop]
end Go.Vx
