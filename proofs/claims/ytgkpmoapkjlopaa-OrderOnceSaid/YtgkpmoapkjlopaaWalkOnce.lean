/- Walks, by program (lift.py). -/
import Derived.Test.YtgkpmoapkjlopaaWalk
set_option linter.all false
namespace Go.Vx
open Go.Proofs
set_option maxRecDepth 100000
set_option linter.unusedVariables false
set_option linter.unusedSimpArgs false

theorem lapwinglaw19_OrderOnce_ok (levels : (List Int)) (widths : (List Int)) (r : Bool) (h : lapwinglaw19_OrderOnce levels widths = some r) : PureFn Try.prog 6 [(.sl 1 (nvS.len levels) false (fun i j => (.v (.int .i64 (nvS.get 0 levels i))))), (.sl 1 (nvS.len widths) false (fun i j => (.v (.int .i64 (nvS.get 0 widths i)))))] ((.v (.bool r))) := by
  unfold lapwinglaw19_OrderOnce at h
  refine fn_tr Try.func6 (by kernel_rfl) (c := bodyOf Try.f6) (by kernel_rfl) ?_
  intro ctr hc
  obtain ⟨v, h1⟩ : ∃ v, valO false (lapwinglaw19_awake) = v := ⟨_, rfl⟩
  obtain ⟨v1, h3⟩ : ∃ v1, valO [] (order_Visual levels) = v1 := ⟨_, rfl⟩
  obtain ⟨v2, h4⟩ : ∃ v2, valO ([], false) (order_Invert v1) = v2 := ⟨_, rfl⟩
  obtain ⟨v3, h5⟩ : ∃ v3, valO ([], false) (order_Invert v2.1) = v3 := ⟨_, rfl⟩
  obtain ⟨v4, h6⟩ : ∃ v4, valO false (if (!(if (if (!((lenL v1) == (lenL levels))) = true then true else (!v2.2)) = true then true else (!v3.2))) = true then lapwingref03_Ints v3.1 v1 else some false) = v4 := ⟨_, rfl⟩
  obtain ⟨v5, h8⟩ : ∃ v5, valO ([], false) (order_Cells levels widths) = v5 := ⟨_, rfl⟩
  obtain ⟨v6, h10⟩ : ∃ v6, valO ([], false) (order_Invert v5.1) = v6 := ⟨_, rfl⟩
  refine Tr.pre (cx := ⟨tt0, ⟨fun f => kOf [(9, 1)] f, fun k _ _ _ => orcL [(17, .plain (.v (.bool v))), (28, .own 1 (nvS.len v1) false (fun i j => (.v (.int .i64 (nvS.get 0 v1 i))))), (31, .plain (.tup 2 (fun j => match j with | 0 => (.sl 1 (nvS.len v2.1) false (fun i j => (.v (.int .i64 (nvS.get 0 v2.1 i))))) | 1 => (.v (.bool v2.2)) | _ => .junk))), (36, .plain (.tup 2 (fun j => match j with | 0 => (.sl 1 (nvS.len v3.1) false (fun i j => (.v (.int .i64 (nvS.get 0 v3.1 i))))) | 1 => (.v (.bool v3.2)) | _ => .junk))), (55, .plain (.v (.bool v4))), (61, .plain (.tup 2 (fun j => match j with | 0 => (.sl 1 (nvS.len v5.1) false (fun i j => (.v (.int .i64 (nvS.get 0 v5.1 i))))) | 1 => (.v (.bool v5.2)) | _ => .junk))), (74, .plain (.tup 2 (fun j => match j with | 0 => (.sl 1 (nvS.len v6.1) false (fun i j => (.v (.int .i64 (nvS.get 0 v6.1 i))))) | 1 => (.v (.bool v6.2)) | _ => .junk)))] k, fun t => memN [] t⟩, 0, fun r => ghL [(5, [.freeze 6])] r⟩) tt0_ok hPm 11 fun N hN => ?_
  generalize hp : std Try.prog = p
  generalize hv : nvS = nv
  cbv
  subst hp
  subst hv
  replace h := bindO_val h1 h; clear h1; obtain ⟨h1, h⟩ := h
  refine ⟨(PureFn.arg (lapwinglaw19_awake_ok  v h1) trivial), ?_⟩
  refine ⟨(fun hg => hg), (fun hg => hg), (fun hg => hg), ?_⟩
  refine ⟨fun h2 => ?_, fun h2 => ?_⟩
  · replace h := iteO_t h h2
    subst hN
    have hr := Option.some.inj h
    subst hr
    try dsimp only [noGoto, inBlockQ, thenQ]
    repeat (first | refine (if_pos rfl).mpr ?_ | refine (if_neg (by decide)).mpr ?_)
    refine retQ_ret rfl ?_
    exact rfl
  · replace h := iteO_f h h2
    replace h := bindO_val h3 h; clear h3; obtain ⟨h3, h⟩ := h
    refine ⟨(PureFn.arg (order_Visual_ok levels v1 h3) (And.intro (LeD.refl _)
        trivial)), ?_⟩
    replace h := bindO_val h4 h; clear h4; obtain ⟨h4, h⟩ := h
    refine ⟨rfl, (PureFn.arg (order_Invert_ok v1 v2 h4) (And.intro (LeD.slE (by first | rfl | assumption | (symm; assumption) | ((try dsimp only [std_eq, stdN, nvS]) <;> first | rfl | omega | (simp (disch := first | omega | (simp only [lenL_set, lenL_app, lenL_cons, lenL_nil] <;> omega)) only [lenL_set, lenL_app, lenL_cons, lenL_nil, lenL_rep, lenL_sub, lenL_cpy, Int.ofNat_eq_natCast, Int.zero_add, Int.sub_zero] <;> try omega))) (fun i i0 i1 j hj => by (try dsimp only [std_eq, stdN, nvS] at i1); (try simp only [Int.ofNat_eq_natCast] at i1); (obtain rfl : j = 0 := (by omega)) <;> (conv => lhs; whnf) <;> (conv => rhs; whnf) <;> (try dsimp only [std_eq, stdN, nvS]) <;> (first | rfl | (simp (disch := first | omega | (simp only [lenL_set, lenL_app, lenL_cons, lenL_nil] <;> omega)) only [getL_put, getL_app, getL_rep, getL_sub, getL_cpy, Int.zero_add, Int.sub_zero, beq_iff_eq, decide_eq_true_eq, Bool.and_eq_true] <;> first | rfl | (split <;> first | rfl | (simp (disch := first | omega | (simp only [lenL_set, lenL_app, lenL_cons, lenL_nil] <;> omega)) only [getL_one, getL_zero] <;> rfl))))))
        trivial)), ?_⟩
    replace h := bindO_val h5 h; clear h5; obtain ⟨h5, h⟩ := h
    refine ⟨(PureFn.arg (order_Invert_ok v2.1 v3 h5) (And.intro (LeD.refl _)
        trivial)), ?_⟩
    replace h := bindO_val h6 h; clear h6; obtain ⟨h6, h⟩ := h
    refine ⟨(fun hg => hg), (fun hg => hg), (fun hg => hg), (fun hg => hg), (fun hg => hg), (fun hg => hg), (fun hg => by have h6 := guardO h6 hg; exact (PureFn.arg (lapwingref03_Ints_ok v3.1 v1 v4 h6) (And.intro (LeD.refl _)
        (And.intro (LeD.slE (by first | rfl | assumption | (symm; assumption) | ((try dsimp only [std_eq, stdN, nvS]) <;> first | rfl | omega | (simp (disch := first | omega | (simp only [lenL_set, lenL_app, lenL_cons, lenL_nil] <;> omega)) only [lenL_set, lenL_app, lenL_cons, lenL_nil, lenL_rep, lenL_sub, lenL_cpy, Int.ofNat_eq_natCast, Int.zero_add, Int.sub_zero] <;> try omega))) (fun i i0 i1 j hj => by (try dsimp only [std_eq, stdN, nvS] at i1); (try simp only [Int.ofNat_eq_natCast] at i1); (obtain rfl : j = 0 := (by omega)) <;> (conv => lhs; whnf) <;> (conv => rhs; whnf) <;> (try dsimp only [std_eq, stdN, nvS]) <;> (first | rfl | (simp (disch := first | omega | (simp only [lenL_set, lenL_app, lenL_cons, lenL_nil] <;> omega)) only [getL_put, getL_app, getL_rep, getL_sub, getL_cpy, Int.zero_add, Int.sub_zero, beq_iff_eq, decide_eq_true_eq, Bool.and_eq_true] <;> first | rfl | (split <;> first | rfl | (simp (disch := first | omega | (simp only [lenL_set, lenL_app, lenL_cons, lenL_nil] <;> omega)) only [getL_one, getL_zero] <;> rfl))))))
        trivial)))), (fun hg => hg), (fun hg => hg), ?_⟩
    refine ⟨fun h7 => ?_, fun h7 => ?_⟩
    · replace h := iteO_t h h7
      subst hN
      have hr := Option.some.inj h
      subst hr
      try dsimp only [noGoto, inBlockQ, thenQ]
      repeat (first | refine (if_pos rfl).mpr ?_ | refine (if_neg (by decide)).mpr ?_)
      refine retQ_ret rfl ?_
      exact rfl
    · replace h := iteO_f h h7
      replace h := bindO_val h8 h; clear h8; obtain ⟨h8, h⟩ := h
      refine ⟨(PureFn.arg (order_Cells_ok levels widths v5 h8) (And.intro (LeD.refl _)
          (And.intro (LeD.refl _)
          trivial))), ?_⟩
      refine ⟨fun h9 => ?_, fun h9 => ?_⟩
      · replace h := iteO_t h h9
        refine ⟨(fun hg => hg), (fun hg => hg), (fun hg => hg), ?_⟩
        subst hN
        have hr := Option.some.inj h
        subst hr
        try dsimp only [noGoto, inBlockQ, thenQ]
        repeat (first | refine (if_pos rfl).mpr ?_ | refine (if_neg (by decide)).mpr ?_)
        refine retQ_ret rfl ?_
        exact rfl
      · replace h := iteO_f h h9
        replace h := bindO_val h10 h; clear h10; obtain ⟨h10, h⟩ := h
        refine ⟨(PureFn.arg (order_Invert_ok v5.1 v6 h10) (And.intro (LeD.refl _)
            trivial)), ?_⟩
        subst hN
        show Tr _ _ _ _
        refine Tr.cutSeq (α := Int) h (fun n t' => ⟨frm 133 [(5, .v (.bool v)), (11, .sl 1 (nvS.len v5.1) false (fun i j => (.v (.int .i64 (nvS.get 0 v5.1 i))))), (13, .sl 1 (nvS.len v6.1) false (fun i j => (.v (.int .i64 (nvS.get 0 v6.1 i))))), (14, .v (.bool v6.2)), (15, .v (.int .i64 n))] 0, frO 133 [] 0, t'.c⟩) (fun _ t => Hid.ok t) (fun x t' ht' h => ?_) (fun f h => ?_)
        · revert h; revert ht'; revert x; intro n ht' h
          obtain ⟨t'_c, t'_g, t'_t⟩ := t'
          have ht'_c : 0 < t'_c := ht'.1
          have ht'_g : ∀ k, t'_g k < t'_c := ht'.2
          refine Tr.chunk (cx := ⟨tt0, ⟨fun f => kOf [] f, fun k _ _ _ => orcL [] k, fun t => memN [] t⟩, 0, fun r => ghL [] r⟩) tt0_ok hPm fun N hN => ?_
          generalize hp : std Try.prog = p
          generalize hv : nvS = nv
          cbv
          subst hp
          subst hv
          refine ⟨(fun hg => hg), (fun hg => hg), (fun hg => hg), (fun hg => hg), (fun hg => hg), (fun hg => hg), (fun hg => hg), (fun hg => hg), (fun hg => hg), ?_⟩
          subst hN
          have hr := Option.some.inj h
          subst hr
          try dsimp only [noGoto, inBlockQ, thenQ]
          repeat (first | refine (if_pos rfl).mpr ?_ | refine (if_neg (by decide)).mpr ?_)
          refine retQ_ret rfl ?_
          exact rfl
        · refine Tr.pre (cx := ⟨tt0, ⟨fun f => kOf [] f, fun k _ _ _ => orcL [] k, fun t => memN [] t⟩, 0, fun r => ghL [] r⟩) tt0_ok hPm 1 fun N hN => ?_
          generalize hp : std Try.prog = p
          generalize hv : nvS = nv
          cbv
          subst hp
          subst hv
          subst hN
          show Tr _ _ _ _
          refine Tr.block ?_
          refine Tr.loopO (α := Int × Int) (fun (n1, m) t'1 => ⟨frm 133 [(1, .sl 1 (nvS.len widths) false (fun i j => (.v (.int .i64 (nvS.get 0 widths i))))), (5, .v (.bool v)), (11, .sl 1 (nvS.len v5.1) false (fun i j => (.v (.int .i64 (nvS.get 0 v5.1 i))))), (13, .sl 1 (nvS.len v6.1) false (fun i j => (.v (.int .i64 (nvS.get 0 v6.1 i))))), (14, .v (.bool v6.2)), (15, .v (.int .i64 n1)), (16, .v (.int .i64 m))] 0, frO 133 [] 0, t'1.c⟩) (fun _ t => Hid.ok t) ⟨ctr + 22, gfn [], tfn []⟩ h ?_ ?_ (fun x t'1 f ht'1 h => ?_)
          · exact Hid.mk_ok (by omega) trivial
          · exact GeSt.of (LeSt.frame (by show (_ : Nat) < _; (try dsimp only [std_eq, stdN]); omega) rfl rfl (And.intro ⟨_, rfl, LeD.refl _⟩
                (And.intro ⟨_, rfl, LeD.refl _⟩
                (And.intro ⟨_, rfl, LeD.refl _⟩
                (And.intro ⟨_, rfl, LeD.refl _⟩
                (And.intro ⟨_, rfl, LeD.refl _⟩
                (And.intro ⟨_, rfl, LeD.refl _⟩
                (And.intro ⟨_, rfl, LeD.refl _⟩
                trivial))))))) trivial)
          · obtain ⟨n1, m⟩ := x
            obtain ⟨t'1_c, t'1_g, t'1_t⟩ := t'1
            have ht'1_c : 0 < t'1_c := ht'1.1
            have ht'1_g : ∀ k, t'1_g k < t'1_c := ht'1.2
            refine Tr.chunk (cx := ⟨tt0, ⟨fun f => kOf [] f, fun k _ _ _ => orcL [] k, fun t => memN [] t⟩, 0, fun r => ghL [] r⟩) tt0_ok hPm fun N hN => ?_
            generalize hp : std Try.prog = p
            generalize hv : nvS = nv
            cbv
            subst hp
            subst hv
            refine ⟨fun h55 => ?_, fun h55 => ?_⟩
            · replace h := iteO_t h h55
              replace h := chk_some h; obtain ⟨h56, h⟩ := h
              replace h := chk_some h; obtain ⟨h57, h⟩ := h
              refine ⟨h56, h57, ?_⟩
              replace h := chk_some h; obtain ⟨h58, h⟩ := h
              replace h := chk_some h; obtain ⟨h59, h⟩ := h
              replace h := chk_some h; obtain ⟨h60, h⟩ := h
              replace h := chk_some h; obtain ⟨h61, h⟩ := h
              replace h := chk_some h; obtain ⟨h62, h⟩ := h
              replace h := chk_some h; obtain ⟨h63, h⟩ := h
              refine ⟨h58, (fun hg => hg), (fun hg => hg), (fun hg => hg), (fun hg => hg), (fun hg => hg), h59, (fun hg => hg), (fun hg => hg), h60, (fun hg => hg), (fun hg => hg), h61, (fun hg => hg), (fun hg => hg), h62, (fun hg => hg), (fun hg => hg), h63, (fun hg => hg), (fun hg => hg), (fun hg => hg), (fun hg => hg), (fun hg0 => (fun hg => (and_t hg0 (and_t hg0 hg)))), (fun hg => hg), (show drOk _ _ = true by kernel_rfl), ?_⟩
              refine ⟨fun h64 => ?_, fun h64 => ?_⟩
              · replace h := iteO_t h h64
                subst hN
                cases h
                intro he; cases he
                intro hr
                subst hr
                try dsimp only [noGoto, inBlockQ, thenQ]
                repeat (first | refine (if_pos rfl).mpr ?_ | refine (if_neg (by decide)).mpr ?_)
                refine retQ_ret rfl ?_
                exact rfl
              · replace h := iteO_f h h64
                replace h := chk_some h; obtain ⟨h65, h⟩ := h
                refine ⟨h65, ?_⟩
                subst hN
                cases h
                show ∃ t', _ ∧ GeSt _ _ _
                refine ⟨⟨t'1_c + 13, gfn [], tfn []⟩, Hid.mk_ok (by omega) trivial, ?_⟩
                exact GeSt.of (LeSt.frame (by show (_ : Nat) < _; (try dsimp only [std_eq, stdN]); omega) rfl rfl (And.intro ⟨_, rfl, LeD.refl _⟩
                    (And.intro ⟨_, rfl, LeD.refl _⟩
                    (And.intro ⟨_, rfl, LeD.refl _⟩
                    (And.intro ⟨_, rfl, LeD.refl _⟩
                    (And.intro ⟨_, rfl, LeD.refl _⟩
                    (And.intro ⟨_, rfl, LeD.refl _⟩
                    (And.intro ⟨_, rfl, LeD.refl _⟩
                    trivial))))))) trivial)
            · replace h := iteO_f h h55
              subst hN
              cases h
              intro he; cases he
              show ∃ t', _ ∧ GeSt _ _ _
              refine ⟨⟨t'1_c + 10, gfn [], tfn []⟩, Hid.mk_ok (by omega) trivial, ?_⟩
              exact GeSt.of (LeSt.frame (by show (_ : Nat) < _; (try dsimp only [std_eq, stdN]); omega) rfl rfl (And.intro ⟨_, rfl, LeD.refl _⟩
                  (And.intro ⟨_, rfl, LeD.refl _⟩
                  (And.intro ⟨_, rfl, LeD.refl _⟩
                  (And.intro ⟨_, rfl, LeD.refl _⟩
                  (And.intro ⟨_, rfl, LeD.refl _⟩
                  trivial))))) trivial)
end Go.Vx
