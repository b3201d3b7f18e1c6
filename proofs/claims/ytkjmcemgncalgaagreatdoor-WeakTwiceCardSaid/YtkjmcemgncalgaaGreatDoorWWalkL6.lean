/- Walks, by program (lift.py). -/
import Derived.Test.YtkjmcemgncalgaaGreatDoorWWalk
import Derived.Test.YtkjmcemgncalgaaGreatDoorWWalkLA
set_option linter.all false
namespace Go.Vx
open Go.Proofs
set_option maxRecDepth 100000
set_option linter.unusedVariables false
set_option linter.unusedSimpArgs false
theorem lapwinglaw18_WeakTwice_ok (l' : (List Int)) (sos : Int) (r : Bool) (h : lapwinglaw18_WeakTwice l' sos = some r) : PureFn Tryz.prog 6 [(WS nvS l'), (WV sos)] ((.v (.bool r))) := by
 unfold lapwinglaw18_WeakTwice at h
 refine fn_tr tt0_ok Tryz.func6 (by kernel_rfl) (c := bodyOf Tryz.f6) (by kernel_rfl) ?_
 intro ctr hc
 obtain ⟨v, h1⟩ : ∃ v, valO false (lapwinglaw18_awake) = v := ⟨_, rfl⟩
 obtain ⟨v1, h4⟩ : ∃ v1, valO [] (weak_Weak l' (1 + (bndI .i64 sos 1))) = v1 := ⟨_, rfl⟩
 refine Wx [(13, 1)] [(10, .plain (.v (.bool v))), (20, .own 1 (nvS.len v1) false (WI nvS v1))] [] 0 [] 6 fun N hN => ?_
 generalize hp : std Tryz.prog = p; generalize hv : nvS = nv; cbv; subst hp hv
 replace h := bindO_val h1 h; clear h1; obtain ⟨h1, h⟩ := h
 refine ⟨(Or.inl (PureFn.arg (lapwinglaw18_awake_ok  v h1) trivial)), ?_⟩
 refine ⟨fun h2 => ?_, fun h2 => ?_⟩
 · replace h := iteO_t h h2
   subst hN; have hr := Option.some.inj h
   subst hr
   try dsimp only [noGoto, inBlockQ, thenQ]
   repeat (first | refine Wt ?_ | refine We ?_)
   exact retQ_ret rfl trivial rfl
 replace h := iteO_f h h2
 replace h := chk_some h; obtain ⟨h3, h⟩ := h
 refine ⟨h3, ?_⟩
 replace h := bindO_val h4 h; clear h4; obtain ⟨h4, h⟩ := h
 refine ⟨(Or.inl (PureFn.arg (weak_Weak_ok l' (1 + (bndI .i64 sos 1)) v1 h4) (And.intro (LeD.refl _) (And.intro (LeD.refl _) trivial)))), ?_⟩
 refine ⟨fun h5 => ?_, fun h5 => ?_⟩
 · replace h := iteO_t h h5
   subst hN; have hr := Option.some.inj h
   subst hr
   try dsimp only [noGoto, inBlockQ, thenQ]
   repeat (first | refine Wt ?_ | refine We ?_)
   exact retQ_ret rfl trivial rfl
 replace h := iteO_f h h5
 subst hN; show Tr _ _ _ _
 refine Tr.cutSeq (α := Unit) h (fun _ t' => (WF 62 [(5, .v (.bool v)), (6, .v (.int .i64 ((std Tryz.prog).add 1 ((std Tryz.prog).bnd .i64 sos 1)))), (7, .vec 20 (t'.g 20) 1 0 (nvS.len v1))] 62 [(20, .arr (t'.g 20) 1 (nvS.len v1) (t'.t 20) (WI nvS v1))] t')) (fun _ t => Hid.ok t) (fun x t' ht' h => ?_) (fun f h => ?_)
 · obtain ⟨t'_c, t'_g, t'_t⟩ := t'; obtain ⟨ht'_c, ht'_g⟩ : 0 < t'_c ∧ ∀ k, t'_g k < t'_c := ht'
   obtain ⟨v2, h14⟩ : ∃ v2, valO [] (if v = true then weak_Weak v1 (1 + (bndI .i64 sos 1)) else some []) = v2 := ⟨_, rfl⟩
   obtain ⟨v3, h15⟩ : ∃ v3, valO false (if v = true then lapwingref03_Ints v2 v1 else some false) = v3 := ⟨_, rfl⟩
   refine Wc [] [(58, .plain (WS nvS v2)), (60, .plain (.v (.bool v3)))] [] 0 [(14, [.freeze (.slot 7)])] fun N hN => ?_
   generalize hp : std Tryz.prog = p; generalize hv : nvS = nv; cbv; subst hp hv
   replace h := bindO_val h14 h; clear h14; obtain ⟨h14, h⟩ := h
   replace h := bindO_val h15 h; clear h15; obtain ⟨h15, h⟩ := h
   refine ⟨rfl, (fun hg => hg), (fun hg => hg), (fun hg => by have h14 := guardO h14 hg; exact (Or.inl (PureFn.arg (PureFn.sl (weak_Weak_ok v1 (1 + (bndI .i64 sos 1)) v2 h14)) (And.intro (LeD.slE Wy Wp) (And.intro (LeD.refl _) trivial))))), (fun hg => hg), (fun hg => hg), (fun hg => by have h15 := guardO h15 hg; exact (Or.inl (PureFn.arg (lapwingref03_Ints_ok v2 v1 v3 h15) (And.intro (LeD.refl _) (And.intro (LeD.slE Wy Wp) trivial))))), (fun hg => hg), ?_⟩
   subst hN; have hr := Option.some.inj h
   subst hr
   try dsimp only [noGoto, inBlockQ, thenQ]
   repeat (first | refine Wt ?_ | refine We ?_)
   exact retQ_ret rfl trivial rfl
 refine Wx [] [] [] 0 [] 1 fun N hN => ?_
 generalize hp : std Tryz.prog = p; generalize hv : nvS = nv; cbv; subst hp hv
 subst hN; show Tr _ _ _ _
 refine Tr.block ?_
 refine Tr.loopO (α := Int) (fun i t'1 => (WF 62 [(5, .v (.bool v)), (6, .v (.int .i64 ((std Tryz.prog).add 1 ((std Tryz.prog).bnd .i64 sos 1)))), (7, .vec 20 (t'1.g 20) 1 0 (nvS.len v1)), (8, WV i)] 62 [(20, .arr (t'1.g 20) 1 (nvS.len v1) (t'1.t 20) (WI nvS v1))] t'1)) (fun _ t => Hid.ok t) ⟨ctr + 16, gfn [(20, ctr + 4)], tfn [(20, false)]⟩ h ?_ ?_ (fun x t'1 f ht'1 h => ?_)
 · exact Wh
 · exact (Wg (Wk rfl (Wk rfl (Wk rfl (Wk rfl trivial)))) (Wi rfl trivial))
 revert h; revert ht'1; revert x; intro i ht'1 h
 obtain ⟨t'1_c, t'1_g, t'1_t⟩ := t'1; obtain ⟨ht'1_c, ht'1_g⟩ : 0 < t'1_c ∧ ∀ k, t'1_g k < t'1_c := ht'1
 refine Wc [] [] [] 0 [] fun N hN => ?_
 generalize hp : std Tryz.prog = p; generalize hv : nvS = nv; cbv; subst hp hv
 refine ⟨fun h24 => ?_, fun h24 => ?_⟩
 · replace h := iteO_t h h24
   replace h := chk_some h; obtain ⟨h25, h⟩ := h
   try (have h25z := h25; simp only [Int.zero_add] at h25z)
   refine ⟨h25, rfl, ?_⟩
   refine ⟨(fun hg => hg), (fun hg => hg), (fun hg => hg), (fun hg => hg), (fun hg => hg), (fun hg => hg), (fun hg => hg), (fun hg => hg), ?_⟩
   refine ⟨fun h26 => ?_, fun h26 => ?_⟩
   · replace h := iteO_t h h26
     subst hN; cases h
     intro he; cases he
     intro hr
     subst hr
     try dsimp only [noGoto, inBlockQ, thenQ]
     repeat (first | refine Wt ?_ | refine We ?_)
     exact retQ_ret rfl trivial rfl
   replace h := iteO_f h h26
   replace h := chk_some h; obtain ⟨h27, h⟩ := h
   refine ⟨h27, ?_⟩
   subst hN; cases h
   show ∃ t', _ ∧ GeSt _ _ _
   refine ⟨⟨t'1_c + 13, gfn [(20, t'1_g 20)], tfn [(20, t'1_t 20)]⟩, Wh, ?_⟩
   exact (Wg (Wk rfl (Wk rfl (Wk rfl (Wk rfl trivial)))) (Wi rfl trivial))
 replace h := iteO_f h h24
 subst hN; cases h
 intro he; cases he
 show ∃ t', _ ∧ GeSt _ _ _
 refine ⟨⟨t'1_c + 10, gfn [(20, t'1_g 20)], tfn [(20, t'1_t 20)]⟩, Wh, ?_⟩
 exact (Wg (Wk rfl (Wk rfl (Wk rfl trivial))) (Wi rfl trivial))
end Go.Vx
