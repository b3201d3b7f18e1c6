/- The law OrderIs holds of the given program: for all tables, letters, levels, widths and bases the call answers true, and each argument reads as it did. No conditions. -/
import Derived.Test.YtgkpmoapkjlopaaM6
import Derived.Test.YtgkpmoapkjlopaaIWalkIs
import Derived.Test.YtgkpmoapkjlopaaVxOpen
import Derived.Test.YtgkpmoapkjlopaaRows
set_option linter.all false
namespace Go.Proofs.Ytgkpmoapkjlopaa
open Go Go.Vx Go.ChangeShapes Go.WideShapes Go.ChangeAt Go.RowKit
set_option maxRecDepth 100000
theorem Try.own : ownKnob Try.prog.godebug = none := by kernel_rfl
theorem Try.laidOut : laidOutB Try.prog = true := by kernel_rfl
theorem und3 : Try.prog.underlying 3 = some (.int .i64) := by kernel_rfl
theorem und4 : Try.prog.underlying 4 = some .bool := by kernel_rfl
theorem und22 : Try.prog.underlying 22 = some (.slice 3) := by kernel_rfl
theorem und34 : Try.prog.underlying 34 = some (.slice 69) := by kernel_rfl
theorem und37 : Try.prog.underlying 37 = some (.slice 61) := by kernel_rfl
theorem und38 : Try.prog.underlying 38 = some (.slice 64) := by kernel_rfl
theorem opens3 : Opens Try.prog 3 Int 1 (fun x _ => .v (.int .i64 x)) (fun x => IntKind.min .i64 ≤ x ∧ x ≤ IntKind.max .i64) := opens_int und3
theorem opens22 : Opens Try.prog 22 (List Int) 1 (fun xs _ => .sl 1 (nvS.len xs) false (fun i j => .v (.int .i64 (nvS.get 0 xs i)))) (fun xs => lenL xs ≤ maxLen ∧ ∀ i : Int, 0 ≤ i → i < lenL xs → IntKind.min .i64 ≤ getL 0 xs i ∧ getL 0 xs i ≤ IntKind.max .i64) :=
  opens_slice 0 und22 (by kernel_rfl) (by omega) opens3
/-- One field of a struct. -/
theorem opens_field {P : Program} {t : TypeId} {fs : Array Field} (ht : P.underlying t = some (.struct fs)) {H : Type} {enc : TypeId × Value → H} {w : World} {base : Nat} {sp : Nat → Bool} {held : Bool} {fuel : Nat} {cs : List Value} {x : DataW H × List MemPlace}
    (h : DataW.trod enc P w base sp held fuel t cs = some x) (i : Nat) {ft off : Nat} (hf : (fs[i]?).map (fun f => (f.type, f.offset)) = some (ft, off)) {T : Type} {sz : Nat} {rd : T → Nat → D} {wf : T → Prop} (hc : P.cellsOf ft = sz) (ho : Opens P ft T sz rd wf) :
    ∃ y : T, wf y ∧ ∀ j, j < sz → ∃ z, cs[off + j]? = some z ∧ z.oneCell' = true ∧ Rd w.heap (fun b => b < w.heap.size) (fun _ => none) [] 1 (rd y j) z := by
  obtain ⟨f, hfi, he⟩ := Option.map_eq_some_iff.1 hf
  cases he
  obtain ⟨xs, n, _, _, _, hlen, hel⟩ := DataW.trod_struct ht h
  have h1 := hel i f hfi
  have hi : i < xs.length := by rw [hlen]; exact (Array.getElem?_eq_some_iff.1 hfi).1
  rw [List.getElem?_eq_getElem hi] at h1
  obtain ⟨_, y, h2, h3⟩ := ho h1
  refine ⟨y, h2, fun j hj => ?_⟩
  obtain ⟨z, z1, z2⟩ := h3 j hj
  refine ⟨z, ?_, z2⟩
  rw [hc, List.getElem?_take, if_pos hj, List.getElem?_drop] at z1
  exact z1
theorem cells_len {P : Program} {t : TypeId} {fs : Array Field} (ht : P.underlying t = some (.struct fs)) {H : Type} {enc : TypeId × Value → H} {w : World} {base : Nat} {sp : Nat → Bool} {held : Bool} {fuel : Nat} {cs : List Value} {x : DataW H × List MemPlace}
    (h : DataW.trod enc P w base sp held fuel t cs = some x) : cs.length = P.cellsOf t := by
  obtain ⟨_, _, _, _, hl, _, _⟩ := DataW.trod_struct ht h
  exact hl
noncomputable def fsOf (t : TypeId) : Array Field := match Try.prog.underlying t with | some (.struct fs) => fs | _ => #[]
theorem und69 : Try.prog.underlying 69 = some (.struct (fsOf 69)) := by kernel_rfl
theorem und61 : Try.prog.underlying 61 = some (.struct (fsOf 61)) := by kernel_rfl
theorem und64 : Try.prog.underlying 64 = some (.struct (fsOf 64)) := by kernel_rfl
theorem und36 : Try.prog.underlying 36 = some (.struct (fsOf 36)) := by kernel_rfl
theorem und40 : Try.prog.underlying 40 = some (.struct (fsOf 40)) := by kernel_rfl
theorem c3 : Try.prog.cellsOf 3 = 1 := by kernel_rfl
theorem opens69 : Opens Try.prog 69 T_lapwingref01_Row 3 (fun x j => D_lapwingref01_Row nvS x j) (fun _ => True) := by
  intro H enc w base sp held fuel cs x h
  obtain ⟨a, _, ha⟩ := opens_field und69 h 0 (ft := 3) (off := 0) (by kernel_rfl) c3 opens3
  obtain ⟨b, _, hb⟩ := opens_field und69 h 1 (ft := 3) (off := 1) (by kernel_rfl) c3 opens3
  obtain ⟨c, _, hc⟩ := opens_field und69 h 2 (ft := 3) (off := 2) (by kernel_rfl) c3 opens3
  refine ⟨(cells_len und69 h).trans (by kernel_rfl), ⟨a, b, c⟩, trivial, fun j hj => ?_⟩
  match j, hj with
  | 0, _ => exact ha 0 (by omega)
  | 1, _ => exact hb 0 (by omega)
  | 2, _ => exact hc 0 (by omega)
theorem opens64 : Opens Try.prog 64 T_lapwingref02_Form 3 (fun x j => D_lapwingref02_Form nvS x j) (fun _ => True) := by
  intro H enc w base sp held fuel cs x h
  obtain ⟨a, _, ha⟩ := opens_field und64 h 0 (ft := 3) (off := 0) (by kernel_rfl) c3 opens3
  obtain ⟨b, _, hb⟩ := opens_field und64 h 1 (ft := 3) (off := 1) (by kernel_rfl) c3 opens3
  obtain ⟨c, _, hc⟩ := opens_field und64 h 2 (ft := 3) (off := 2) (by kernel_rfl) c3 opens3
  refine ⟨(cells_len und64 h).trans (by kernel_rfl), ⟨a, b, c⟩, trivial, fun j hj => ?_⟩
  match j, hj with
  | 0, _ => exact ha 0 (by omega)
  | 1, _ => exact hb 0 (by omega)
  | 2, _ => exact hc 0 (by omega)
theorem opens61 : Opens Try.prog 61 T_lapwingref02_Pair 2 (fun x j => D_lapwingref02_Pair nvS x j) (fun _ => True) := by
  intro H enc w base sp held fuel cs x h
  obtain ⟨a, _, ha⟩ := opens_field und61 h 0 (ft := 3) (off := 0) (by kernel_rfl) c3 opens3
  obtain ⟨b, _, hb⟩ := opens_field und61 h 1 (ft := 3) (off := 1) (by kernel_rfl) c3 opens3
  refine ⟨(cells_len und61 h).trans (by kernel_rfl), ⟨a, b⟩, trivial, fun j hj => ?_⟩
  match j, hj with
  | 0, _ => exact ha 0 (by omega)
  | 1, _ => exact hb 0 (by omega)
theorem opens34 : Opens Try.prog 34 (List T_lapwingref01_Row) 1 (fun xs _ => .sl 3 (nvS.len xs) false (fun i j => D_lapwingref01_Row nvS (nvS.get d_lapwingref01_Row xs i) j)) (fun xs => lenL xs ≤ maxLen ∧ ∀ i : Int, 0 ≤ i → i < lenL xs → True) :=
  opens_slice d_lapwingref01_Row und34 (by kernel_rfl) (by omega) opens69
theorem opens37 : Opens Try.prog 37 (List T_lapwingref02_Pair) 1 (fun xs _ => .sl 2 (nvS.len xs) false (fun i j => D_lapwingref02_Pair nvS (nvS.get d_lapwingref02_Pair xs i) j)) (fun xs => lenL xs ≤ maxLen ∧ ∀ i : Int, 0 ≤ i → i < lenL xs → True) :=
  opens_slice d_lapwingref02_Pair und37 (by kernel_rfl) (by omega) opens61
theorem opens38 : Opens Try.prog 38 (List T_lapwingref02_Form) 1 (fun xs _ => .sl 3 (nvS.len xs) false (fun i j => D_lapwingref02_Form nvS (nvS.get d_lapwingref02_Form xs i) j)) (fun xs => lenL xs ≤ maxLen ∧ ∀ i : Int, 0 ≤ i → i < lenL xs → True) :=
  opens_slice d_lapwingref02_Form und38 (by kernel_rfl) (by omega) opens64
theorem opens36 : Opens Try.prog 36 T_lapwingref01_Table 1 (fun x j => D_lapwingref01_Table nvS x j) (fun _ => True) := by
  intro H enc w base sp held fuel cs x h
  obtain ⟨a, _, ha⟩ := opens_field und36 h 0 (ft := 34) (off := 0) (by kernel_rfl) (by kernel_rfl) opens34
  refine ⟨(cells_len und36 h).trans (by kernel_rfl), ⟨a⟩, trivial, fun j hj => ?_⟩
  match j, hj with
  | 0, _ => exact ha 0 (by omega)
theorem opens40 : Opens Try.prog 40 T_lapwingref02_Data 6 (fun x j => D_lapwingref02_Data nvS x j) (fun _ => True) := by
  intro H enc w base sp held fuel cs x h
  obtain ⟨a, _, ha⟩ := opens_field und40 h 0 (ft := 36) (off := 0) (by kernel_rfl) (by kernel_rfl) opens36
  obtain ⟨b, _, hb⟩ := opens_field und40 h 1 (ft := 36) (off := 1) (by kernel_rfl) (by kernel_rfl) opens36
  obtain ⟨c, _, hc⟩ := opens_field und40 h 2 (ft := 36) (off := 2) (by kernel_rfl) (by kernel_rfl) opens36
  obtain ⟨d, _, hd⟩ := opens_field und40 h 3 (ft := 37) (off := 3) (by kernel_rfl) (by kernel_rfl) opens37
  obtain ⟨e, _, he⟩ := opens_field und40 h 4 (ft := 37) (off := 4) (by kernel_rfl) (by kernel_rfl) opens37
  obtain ⟨f, _, hf⟩ := opens_field und40 h 5 (ft := 38) (off := 5) (by kernel_rfl) (by kernel_rfl) opens38
  refine ⟨(cells_len und40 h).trans (by kernel_rfl), ⟨a, b, c, d, e, f⟩, trivial, fun j hj => ?_⟩
  match j, hj with
  | 0, _ => exact ha 0 (by omega)
  | 1, _ => exact hb 0 (by omega)
  | 2, _ => exact hc 0 (by omega)
  | 3, _ => exact hd 0 (by omega)
  | 4, _ => exact he 0 (by omega)
  | 5, _ => exact hf 0 (by omega)

theorem orderIs_lifted (os : Os) (started : os.Started) (H : Type) (enc : TypeId × Value → H) :
    ReturnsInHanded {} Try.checked os 7 .any (Rows.orderIsSpec.pre6 enc Try.prog Try.f7 Rows.orderIsRow.domain false) (Rows.orderIsSpec.post enc Try.prog Try.f7 false true false false) := by
  refine returnsInHanded_of_change (C := Try.checked) Try.own started (by kernel_rfl) Try.func7
    (ChangeSpec.witness6 (enc := enc) (C := Try.checked) false ⟨#[], #[.agg #[.slice none 0 0, .slice none 0 0, .slice none 0 0, .slice none 0 0, .slice none 0 0, .slice none 0 0], .slice none 0 0, .slice none 0 0, .slice none 0 0, .int .i64 0], []⟩ 8 (by kernel_rfl) (by kernel_rfl) (by kernel_rfl) (by kernel_rfl)) ?_
  intro W base args ds gs before hval0 hW hcnd _
  have hval : ∀ (j : Nat) t v, Try.f7.params[j]? = some t → args[j]? = some v → Value.okWide Try.prog W .any base t v := hval0
  have hW' := hW
  obtain ⟨p, q, hA0, hV, rfl, hfz, hnd⟩ := hW
  have hA : DataW.TrodAll enc Try.prog W 0 (fun _ => true) true Try.f7.params.toList args.toList ds p := hA0
  rw [Try.params7] at hA hval
  obtain ⟨v0, vs0, d0, ds0, p0, q0, ha0, rfl, rfl, h0, hA⟩ := trodAll_cons hA
  obtain ⟨v1, vs1, d1, ds1, p1, q1, ha1, rfl, rfl, h1, hA⟩ := trodAll_cons hA
  obtain ⟨v2, vs2, d2, ds2, p2, q2, ha2, rfl, rfl, h2, hA⟩ := trodAll_cons hA
  obtain ⟨v3, vs3, d3, ds3, p3, q3, ha3, rfl, rfl, h3, hA⟩ := trodAll_cons hA
  obtain ⟨v4, vs4, d4, ds4, p4, q4, ha4, rfl, rfl, h4, hA⟩ := trodAll_cons hA
  obtain ⟨rfl, rfl, rfl⟩ := trodAll_nil hA
  obtain ⟨rfl, rfl⟩ := trodVars_none hV
  have ha : args = #[v0, v1, v2, v3, v4] := by cases args; simp_all
  subst ha
  obtain ⟨cs0, hv0, _⟩ := okWide_struct und40 (hval 0 40 v0 rfl rfl)
  obtain ⟨x0, w0, r0⟩ := open_agg opens40 hv0 h0
  obtain ⟨x1, w1, r1⟩ := open_one opens22 (cells_slice und22 (hval 1 22 v1 rfl rfl)) h1
  obtain ⟨x2, w2, r2⟩ := open_one opens22 (cells_slice und22 (hval 2 22 v2 rfl rfl)) h2
  obtain ⟨x3, w3, r3⟩ := open_one opens22 (cells_slice und22 (hval 3 22 v3 rfl rfl)) h3
  obtain ⟨x4, w4, r4⟩ := open_one opens3 (cells_int und3 (hval 4 3 v4 rfl rfl)) h4
  refine ((lapwinglaw19_OrderIs_ok x0 x1 x2 x3 x4 true (orderIs_true x0 x1 x2 x3 x4)).2 W (fun b => b < W.heap.size) 1 [v0, v1, v2, v3, v4] (by decide) (fun b h => h) (fun g n k hg => by cases hg) rfl (fun t d ht => ?_)).mono ?_
  · match t, ht with
    | 0, ht => cases ht; exact ⟨v0, rfl, r0⟩
    | 1, ht => cases ht; exact ⟨v1, rfl, r1⟩
    | 2, ht => cases ht; exact ⟨v2, rfl, r2⟩
    | 3, ht => cases ht; exact ⟨v3, rfl, r3⟩
    | 4, ht => cases ht; exact ⟨v4, rfl, r4⟩
  · rintro e W' ⟨v, I', rfl, _, _, hsame, _, hwo, hres⟩
    have hres : v = .bool true := hres
    subst hres
    exact ⟨_, rfl, law_post Try.laidOut und4 rfl (by kernel_rfl) rfl rfl hW' hsame hwo⟩

theorem orderIs_holds : Rows.OrderIsSaid :=
  OpenClaim.holds_of_wide 7 Try.f7 rfl rfl rfl rfl rfl rfl rfl ⟨rfl, rfl, rfl, rfl, rfl⟩ rfl rfl rfl rfl rfl (by kernel_rfl) Try.func7 (by kernel_rfl)
    (of_decide_eq_true (by kernel_rfl)) (by unfold Func.isWrapper; first | (rw [if_pos (by decide +kernel)]; kernel_rfl) | (rw [if_neg (by decide +kernel)]; exact ⟨rfl, rfl⟩))
    (fun os started H enc _ => orderIs_lifted os started H enc)
end Go.Proofs.Ytgkpmoapkjlopaa
