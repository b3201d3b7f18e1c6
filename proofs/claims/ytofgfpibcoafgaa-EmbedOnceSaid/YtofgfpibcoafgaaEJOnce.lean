/- The law EmbedOnce holds of the given program: for every input the call answers true, and each argument reads as it did. No conditions. -/
import Derived.Test.YtofgfpibcoafgaaE11
import Derived.Test.YtofgfpibcoafgaaEWalkL3
import Derived.Test.YtofgfpibcoafgaaVxOpen
import Derived.Test.YtofgfpibcoafgaaRows
set_option linter.all false
namespace Go.Proofs.Ytofgfpibcoafgaa
open Go Go.Vx Go.ChangeShapes Go.WideShapes Go.ChangeAt Go.RowKit
set_option maxRecDepth 100000
theorem Try.own : ownKnob Try.prog.godebug = none := by kernel_rfl
theorem Try.laidOut : laidOutB Try.prog = true := by kernel_rfl
theorem und3 : Try.prog.underlying 3 = some (.int .i64) := by kernel_rfl
theorem und4 : Try.prog.underlying 4 = some .bool := by kernel_rfl
theorem opens3 : Opens Try.prog 3 Int 1 (fun x _ => .v (.int .i64 x)) (fun x => IntKind.min .i64 ≤ x ∧ x ≤ IntKind.max .i64) := opens_int und3
theorem und22 : Try.prog.underlying 22 = some (.slice 3) := by kernel_rfl
theorem opens22 : Opens Try.prog 22 (List Int) 1 (fun xs _ => .sl 1 (nvS.len xs) false (fun i j => .v (.int .i64 (nvS.get 0 xs i)))) (fun xs => lenL xs ≤ maxLen ∧ ∀ i : Int, 0 ≤ i → i < lenL xs → IntKind.min .i64 ≤ getL 0 xs i ∧ getL 0 xs i ≤ IntKind.max .i64) :=
  opens_slice 0 und22 (by kernel_rfl) (by omega) opens3

theorem embedOnce_lifted (os : Os) (started : os.Started) (H : Type) (enc : TypeId × Value → H) :
    ReturnsInHanded {} Try.checked os 5 .any (Rows.embedOnceSpec.pre6 enc Try.prog Try.f5 Rows.embedOnceRow.domain false) (Rows.embedOnceSpec.post enc Try.prog Try.f5 false true false false) := by
  refine returnsInHanded_of_change (C := Try.checked) Try.own started (by kernel_rfl) Try.func5
    (ChangeSpec.witness6 (enc := enc) (C := Try.checked) false ⟨#[], #[.slice none 0 0, .int .i64 0], []⟩ 8 (by kernel_rfl) (by kernel_rfl) (by kernel_rfl) (by kernel_rfl)) ?_
  intro W base args ds gs before hval0 hW hcnd _
  have hval : ∀ (j : Nat) t v, Try.f5.params[j]? = some t → args[j]? = some v → Value.okWide Try.prog W .any base t v := hval0
  have hW' := hW
  obtain ⟨p, q, hA0, hV, rfl, hfz, hnd⟩ := hW
  have hA : DataW.TrodAll enc Try.prog W 0 (fun _ => true) true Try.f5.params.toList args.toList ds p := hA0
  rw [Try.params5] at hA hval
  obtain ⟨v0, vs0, d0, ds0, p0, q0, ha0, rfl, rfl, h0, hA⟩ := trodAll_cons hA
  obtain ⟨v1, vs1, d1, ds1, p1, q1, ha1, rfl, rfl, h1, hA⟩ := trodAll_cons hA
  obtain ⟨rfl, rfl, rfl⟩ := trodAll_nil hA
  obtain ⟨rfl, rfl⟩ := trodVars_none hV
  have ha : args = #[v0, v1] := by cases args; simp_all
  subst ha
  obtain ⟨x0, w0, r0⟩ := open_one opens22 (cells_slice und22 (hval 0 22 v0 rfl rfl)) h0
  obtain ⟨x1, w1, r1⟩ := open_one opens3 (cells_int und3 (hval 1 3 v1 rfl rfl)) h1
  refine ((lapwinglaw17_EmbedOnce_ok x0 x1 true (embedOnce_true x0 x1)).2 W (fun b => b < W.heap.size) 1 [v0, v1] (by decide) (fun b h => h) (fun g n k hg => by cases hg) rfl (fun t d ht => ?_)).mono ?_
  · match t, ht with
    | 0, ht => cases ht; exact ⟨v0, rfl, r0⟩
    | 1, ht => cases ht; exact ⟨v1, rfl, r1⟩
  · rintro e W' ⟨v, I', rfl, _, _, hsame, _, hwo, hres⟩
    have hres : v = .bool true := hres
    subst hres
    exact ⟨_, rfl, law_post Try.laidOut und4 rfl (by kernel_rfl) rfl rfl hW' hsame hwo⟩

theorem embedOnce_holds : Rows.EmbedOnceSaid :=
  OpenClaim.holds_of_wide 5 Try.f5 rfl rfl rfl rfl rfl rfl rfl ⟨rfl, rfl, rfl, rfl, rfl⟩ rfl rfl rfl rfl rfl (by kernel_rfl) Try.func5 (by kernel_rfl)
    (of_decide_eq_true (by kernel_rfl)) (by unfold Func.isWrapper; first | (rw [if_pos (by decide +kernel)]; kernel_rfl) | (rw [if_neg (by decide +kernel)]; exact ⟨rfl, rfl⟩))
    (fun os started H enc _ => embedOnce_lifted os started H enc)
end Go.Proofs.Ytofgfpibcoafgaa
