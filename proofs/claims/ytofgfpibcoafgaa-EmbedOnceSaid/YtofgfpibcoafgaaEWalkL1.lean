/- Walks, by program (lift.py). -/
import Derived.Test.YtofgfpibcoafgaaEWalk
import Derived.Test.YtofgfpibcoafgaaEWalkX
import Derived.Test.YtofgfpibcoafgaaEWalkQ
set_option linter.all false
namespace Go.Vx
open Go.Proofs
set_option maxRecDepth 100000
set_option linter.unusedVariables false
set_option linter.unusedSimpArgs false

theorem lapwinglaw17_awake_ok  (r : Bool) (h : lapwinglaw17_awake = some r) : PureFn Try.prog 6 [] ((.v (.bool r))) := by
  unfold lapwinglaw17_awake at h
  refine fn_tr tt0_ok Try.func6 (by kernel_rfl) (c := bodyOf Try.f6) (by kernel_rfl) ?_
  intro ctr hc
  obtain ⟨v, h1⟩ : ∃ v, valO d_embed_Run (embed_Explicit ([1, 17, 2, 19, 1] : List Int) 0) = v := ⟨_, rfl⟩
  obtain ⟨v_Levels, v_Classes, v_Removed⟩ := v
  obtain ⟨v1, h2⟩ : ∃ v1, valO false (lapwingref03_Ints v_Levels ([0, 0, 1, 1, 0] : List Int)) = v1 := ⟨_, rfl⟩
  obtain ⟨v2, h5⟩ : ∃ v2, valO 0 (if (if (if (if v1 = true then ((lenL v_Removed) == 5) else false) = true then (getL false v_Removed 1) else false) = true then (!(getL false v_Removed 2)) else false) = true then embed_Base ([14, 3] : List Int) else some 0) = v2 := ⟨_, rfl⟩
  refine Tr.chunk (cx := ⟨tt0, ⟨fun f => kOf [] f, fun k _ _ _ => orcL [(3, .plain (.agg 3 (fun j => (D_embed_Run nvS (T_embed_Run.mk v_Levels v_Classes v_Removed) j)))), (7, .plain (.v (.bool v1))), (29, .plain (.v (.int .i64 v2)))] k, fun t => memN [2, 6, 28] t⟩, 0, fun r => ghL [] r⟩) tt0_ok hPm fun N hN => ?_
  generalize hp : std Try.prog = p
  generalize hv : nvS = nv
  cbv
  subst hp
  subst hv
  replace h := bindO_val h1 h; clear h1; obtain ⟨h1, h⟩ := h; try dsimp only at h
  refine ⟨(Or.inl (PureFn.arg (embed_Explicit_ok ([1, 17, 2, 19, 1] : List Int) 0 (T_embed_Run.mk v_Levels v_Classes v_Removed) h1) (And.intro (LeD.slE (by first | with_reducible rfl | with_reducible assumption | (symm; with_reducible assumption) | ((try dsimp only [std_eq, stdN, nvS]) <;> first | with_reducible rfl | omega | (simp (disch := first | omega | (simp only [lenL_set, lenL_app, lenL_cons, lenL_nil] <;> omega)) only [lenL_bytes, lenL_set, lenL_app, lenL_cons, lenL_nil, lenL_rep, lenL_sub, lenL_cpy, Int.ofNat_eq_natCast, Int.zero_add, Int.sub_zero] <;> first | done | omega | with_reducible assumption)) | rfl) (fun i i0 i1 j hj => by have i2 : i < 5 := i1; (rcases (show i = 0 ∨ i = 1 ∨ i = 2 ∨ i = 3 ∨ i = 4 by omega) with rfl | rfl | rfl | rfl | rfl) <;> (obtain rfl : j = 0 := (by omega)) <;> rfl))
      (And.intro (LeD.refl _)
      trivial)))), rfl, ?_⟩
  replace h := bindO_val h2 h; clear h2; obtain ⟨h2, h⟩ := h
  replace h := chk_some h; obtain ⟨h3, h⟩ := h
  replace h := chk_some h; obtain ⟨h4, h⟩ := h
  replace h := bindO_val h5 h; clear h5; obtain ⟨h5, h⟩ := h
  refine ⟨rfl, (Or.inl (PureFn.arg (lapwingref03_Ints_ok v_Levels ([0, 0, 1, 1, 0] : List Int) v1 h2) (And.intro (LeD.refl _)
      (And.intro (LeD.slE (by first | with_reducible rfl | with_reducible assumption | (symm; with_reducible assumption) | ((try dsimp only [std_eq, stdN, nvS]) <;> first | with_reducible rfl | omega | (simp (disch := first | omega | (simp only [lenL_set, lenL_app, lenL_cons, lenL_nil] <;> omega)) only [lenL_bytes, lenL_set, lenL_app, lenL_cons, lenL_nil, lenL_rep, lenL_sub, lenL_cpy, Int.ofNat_eq_natCast, Int.zero_add, Int.sub_zero] <;> first | done | omega | with_reducible assumption)) | rfl) (fun i i0 i1 j hj => by have i2 : i < 5 := i1; (rcases (show i = 0 ∨ i = 1 ∨ i = 2 ∨ i = 3 ∨ i = 4 by omega) with rfl | rfl | rfl | rfl | rfl) <;> (obtain rfl : j = 0 := (by omega)) <;> rfl))
      trivial)))), (fun hg => hg), (fun _ => rfl), (fun hg => hg), (fun hg => hg), (fun hg => hg), (fun hg => hg), (fun _ => rfl), (fun hg => hg), h3, (fun hg => hg), (fun hg => hg), (fun hg => hg), (fun _ => rfl), (fun hg => hg), h4, (fun hg => hg), (fun hg => hg), (fun hg => hg), (fun hg => hg), (fun hg => by have h5 := guardO h5 hg; exact (Or.inl (PureFn.arg (embed_Base_ok ([14, 3] : List Int) v2 h5) (And.intro (LeD.slE (by first | with_reducible rfl | with_reducible assumption | (symm; with_reducible assumption) | ((try dsimp only [std_eq, stdN, nvS]) <;> first | with_reducible rfl | omega | (simp (disch := first | omega | (simp only [lenL_set, lenL_app, lenL_cons, lenL_nil] <;> omega)) only [lenL_bytes, lenL_set, lenL_app, lenL_cons, lenL_nil, lenL_rep, lenL_sub, lenL_cpy, Int.ofNat_eq_natCast, Int.zero_add, Int.sub_zero] <;> first | done | omega | with_reducible assumption)) | rfl) (fun i i0 i1 j hj => by have i2 : i < 2 := i1; (rcases (show i = 0 ∨ i = 1 by omega) with rfl | rfl) <;> (obtain rfl : j = 0 := (by omega)) <;> rfl))
      trivial)))), (fun hg => hg), (fun hg => hg), ?_⟩
  subst hN
  have hr := Option.some.inj h
  subst hr
  try dsimp only [noGoto, inBlockQ, thenQ]
  repeat (first | refine (if_pos rfl).mpr ?_ | refine (if_neg (by decide)).mpr ?_)
  refine retQ_ret rfl ?_ ?_
  · exact trivial
  · exact rfl
end Go.Vx
