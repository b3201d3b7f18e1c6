/- Walks, by program (lift.py). -/
import Derived.Test.YtgkpmoapkjlopaaWalk
set_option linter.all false
namespace Go.Vx
open Go.Proofs
set_option maxRecDepth 100000
set_option linter.unusedVariables false
set_option linter.unusedSimpArgs false

theorem lapwinglaw19_OrderRuns_ok (levels : (List Int)) (r : Bool) (h : lapwinglaw19_OrderRuns levels = some r) : PureFn Try.prog 5 [(.sl 1 (nvS.len levels) false (fun i j => (.v (.int .i64 (nvS.get 0 levels i)))))] ((.v (.bool r))) := by
  unfold lapwinglaw19_OrderRuns at h
  refine fn_tr Try.func5 (by kernel_rfl) (c := bodyOf Try.f5) (by kernel_rfl) ?_
  intro ctr hc
  obtain ⟨v, h1⟩ : ∃ v, valO false (lapwinglaw19_awake) = v := ⟨_, rfl⟩
  obtain ⟨v1, h3⟩ : ∃ v1, valO [] (order_Runs levels) = v1 := ⟨_, rfl⟩
  obtain ⟨v2, h4⟩ : ∃ v2, valO [] (order_Visual levels) = v2 := ⟨_, rfl⟩
  obtain ⟨v3, h5⟩ : ∃ v3, valO ([], false) (order_Invert v2) = v3 := ⟨_, rfl⟩
  refine Tr.pre (cx := ⟨tt0, ⟨fun f => kOf [(11, 1)] f, fun k _ _ _ => orcL [(10, .plain (.v (.bool v))), (16, .own 2 (nvS.len v1) false (fun i j => (D_Arr2_i64 nvS (nvS.get d_Arr2_i64 v1 i) j))), (19, .plain (.sl 1 (nvS.len v2) false (fun i j => (.v (.int .i64 (nvS.get 0 v2 i)))))), (20, .plain (.tup 2 (fun j => match j with | 0 => (.sl 1 (nvS.len v3.1) false (fun i j => (.v (.int .i64 (nvS.get 0 v3.1 i))))) | 1 => (.v (.bool v3.2)) | _ => .junk)))] k, fun t => memN [] t⟩, 0, fun r => ghL [] r⟩) tt0_ok hPm 6 fun N hN => ?_
  generalize hp : std Try.prog = p
  generalize hv : nvS = nv
  cbv
  subst hp
  subst hv
  replace h := bindO_val h1 h; clear h1; obtain ⟨h1, h⟩ := h
  refine ⟨(PureFn.arg (lapwinglaw19_awake_ok  v h1) trivial), ?_⟩
  refine ⟨fun h2 => ?_, fun h2 => ?_⟩
  · replace h := iteO_t h h2
    subst hN
    have hr := Option.some.inj h
    subst hr
    try dsimp only [noGoto, inBlockQ, thenQ]
    repeat (first | refine (if_pos rfl).mpr ?_ | refine (if_neg (by decide)).mpr ?_)
    refine retQ_ret rfl ?_
    exact rfl
  · replace h := iteO_f h h2
    replace h := bindO_val h3 h; clear h3; obtain ⟨h3, h⟩ := h
    refine ⟨(PureFn.arg (order_Runs_ok levels v1 h3) (And.intro (LeD.refl _)
        trivial)), ?_⟩
    replace h := bindO_val h4 h; clear h4; obtain ⟨h4, h⟩ := h
    replace h := bindO_val h5 h; clear h5; obtain ⟨h5, h⟩ := h
    refine ⟨(PureFn.arg (PureFn.sl (order_Visual_ok levels v2 h4)) (And.intro (LeD.refl _)
        trivial)), (PureFn.arg (order_Invert_ok v2 v3 h5) (And.intro (LeD.refl _)
        trivial)), ?_⟩
    subst hN
    show Tr _ _ _ _
    refine Tr.cutSeq (α := Int) h (fun at' t' => ⟨frm 140 [(0, .sl 1 (nvS.len levels) false (fun i j => (.v (.int .i64 (nvS.get 0 levels i))))), (3, .v (.bool v)), (7, .v (.int .i64 at'))] 0, frO 140 [] 0, t'.c⟩) (fun _ t => Hid.ok t) (fun x t' ht' h => ?_) (fun f h => ?_)
    · revert h; revert ht'; revert x; intro at' ht' h
      obtain ⟨t'_c, t'_g, t'_t⟩ := t'
      have ht'_c : 0 < t'_c := ht'.1
      have ht'_g : ∀ k, t'_g k < t'_c := ht'.2
      refine Tr.chunk (cx := ⟨tt0, ⟨fun f => kOf [] f, fun k _ _ _ => orcL [] k, fun t => memN [] t⟩, 0, fun r => ghL [] r⟩) tt0_ok hPm fun N hN => ?_
      generalize hp : std Try.prog = p
      generalize hv : nvS = nv
      cbv
      subst hp
      subst hv
      refine ⟨(fun hg => hg), (fun hg => hg), (fun hg => hg), (fun hg => hg), ?_⟩
      subst hN
      have hr := Option.some.inj h
      subst hr
      try dsimp only [noGoto, inBlockQ, thenQ]
      repeat (first | refine (if_pos rfl).mpr ?_ | refine (if_neg (by decide)).mpr ?_)
      refine retQ_ret rfl ?_
      exact rfl
    · refine Tr.pre (cx := ⟨tt0, ⟨fun f => kOf [] f, fun k _ _ _ => orcL [] k, fun t => memN [] t⟩, 0, fun r => ghL [] r⟩) tt0_ok hPm 1 fun N hN => ?_
      generalize hp : std Try.prog = p
      generalize hv : nvS = nv
      cbv
      subst hp
      subst hv
      subst hN
      show Tr _ _ _ _
      refine Tr.block ?_
      refine Tr.loopO (α := Int × Int) (fun (at'1, i) t'1 => ⟨frm 140 [(0, .sl 1 (nvS.len levels) false (fun i j => (.v (.int .i64 (nvS.get 0 levels i))))), (3, .v (.bool v)), (4, .vec 16 (t'1.g 16) 2 0 (nvS.len v1)), (5, .sl 1 (nvS.len v3.1) false (fun i j => (.v (.int .i64 (nvS.get 0 v3.1 i))))), (6, .v (.bool v3.2)), (7, .v (.int .i64 at'1)), (8, .v (.int .i64 i))] 0, frO 140 [(16, .arr (t'1.g 16) 2 (nvS.len v1) (t'1.t 16) (fun i j => (D_Arr2_i64 nvS (nvS.get d_Arr2_i64 v1 i) j)))] 0, t'1.c⟩) (fun _ t => Hid.ok t) ⟨ctr + 16, gfn [(16, ctr + 3)], tfn [(16, false)]⟩ h ?_ ?_ (fun x t'1 f ht'1 h => ?_)
      · exact Hid.mk_ok (by omega) (And.intro (by omega)
            trivial)
      · exact GeSt.of (LeSt.frame (by show (_ : Nat) < _; (try dsimp only [std_eq, stdN]); omega) rfl rfl (And.intro ⟨_, rfl, LeD.refl _⟩
            (And.intro ⟨_, rfl, LeD.refl _⟩
            (And.intro ⟨_, rfl, LeD.refl _⟩
            (And.intro ⟨_, rfl, LeD.refl _⟩
            (And.intro ⟨_, rfl, LeD.refl _⟩
            (And.intro ⟨_, rfl, LeD.refl _⟩
            (And.intro ⟨_, rfl, LeD.refl _⟩
            trivial))))))) (And.intro ⟨_, rfl, LeOb.refl _⟩
            trivial))
      · obtain ⟨at'1, i⟩ := x
        obtain ⟨t'1_c, t'1_g, t'1_t⟩ := t'1
        have ht'1_c : 0 < t'1_c := ht'1.1
        have ht'1_g : ∀ k, t'1_g k < t'1_c := ht'1.2
        refine Tr.pre (cx := ⟨tt0, ⟨fun f => kOf [] f, fun k _ _ _ => orcL [] k, fun t => memN [] t⟩, 0, fun r => ghL [] r⟩) tt0_ok hPm 1 fun N hN => ?_
        generalize hp : std Try.prog = p
        generalize hv : nvS = nv
        cbv
        subst hp
        subst hv
        refine ⟨fun h162 => ?_, fun h162 => ?_⟩
        · replace h := iteO_t h h162
          subst hN
          show Tr _ _ _ _
          refine Tr.cutSeq (α := Unit) h (fun _ t'2 => ⟨frm 140 [(0, .sl 1 (nvS.len levels) false (fun i j => (.v (.int .i64 (nvS.get 0 levels i))))), (3, .v (.bool v)), (4, .vec 16 (t'2.g 16) 2 0 (nvS.len v1)), (5, .sl 1 (nvS.len v3.1) false (fun i j => (.v (.int .i64 (nvS.get 0 v3.1 i))))), (6, .v (.bool v3.2)), (7, .v (.int .i64 (nvS.get d_Arr2_i64 v1 ((std Try.prog).add 0 i)).x1)), (8, .v (.int .i64 i))] 0, frO 140 [(16, .arr (t'2.g 16) 2 (nvS.len v1) (t'2.t 16) (fun i j => (D_Arr2_i64 nvS (nvS.get d_Arr2_i64 v1 i) j)))] 0, t'2.c⟩) (fun _ t => Hid.ok t) (fun x t'2 ht'2 h => ?_) (fun f h => ?_)
          · obtain ⟨t'2_c, t'2_g, t'2_t⟩ := t'2
            have ht'2_c : 0 < t'2_c := ht'2.1
            have ht'2_g : ∀ k, t'2_g k < t'2_c := ht'2.2
            refine Tr.chunk (cx := ⟨tt0, ⟨fun f => kOf [] f, fun k _ _ _ => orcL [] k, fun t => memN [] t⟩, 0, fun r => ghL [] r⟩) tt0_ok hPm fun N hN => ?_
            generalize hp : std Try.prog = p
            generalize hv : nvS = nv
            cbv
            subst hp
            subst hv
            replace h := chk_some h; obtain ⟨h200, h⟩ := h
            refine ⟨h200, ?_⟩
            subst hN
            cases h
            show ∃ t', _ ∧ GeSt _ _ _
            refine ⟨⟨t'2_c + 10, gfn [(16, t'2_g 16)], tfn [(16, t'2_t 16)]⟩, Hid.mk_ok (by omega) (And.intro (by have := ht'2_g 16; omega)
                trivial), ?_⟩
            exact GeSt.of (LeSt.frame (by show (_ : Nat) < _; (try dsimp only [std_eq, stdN]); omega) rfl rfl (And.intro ⟨_, rfl, LeD.refl _⟩
                (And.intro ⟨_, rfl, LeD.refl _⟩
                (And.intro ⟨_, rfl, LeD.refl _⟩
                (And.intro ⟨_, rfl, LeD.refl _⟩
                (And.intro ⟨_, rfl, LeD.refl _⟩
                (And.intro ⟨_, rfl, LeD.refl _⟩
                (And.intro ⟨_, rfl, LeD.refl _⟩
                trivial))))))) (And.intro ⟨_, rfl, LeOb.refl _⟩
                trivial))
          · refine Tr.block ?_
            refine Tr.pre (cx := ⟨tt0, ⟨fun f => kOf [] f, fun k _ _ _ => orcL [] k, fun t => memN [] t⟩, 0, fun r => ghL [] r⟩) tt0_ok hPm 1 fun N hN => ?_
            generalize hp : std Try.prog = p
            generalize hv : nvS = nv
            cbv
            subst hp
            subst hv
            replace h := chk_some h; obtain ⟨h201, h⟩ := h
            replace h := chk_some h; obtain ⟨h202, h⟩ := h
            replace h := chk_some h; obtain ⟨h203, h⟩ := h
            replace h := chk_some h; obtain ⟨h204, h⟩ := h
            replace h := chk_some h; obtain ⟨h205, h⟩ := h
            replace h := chk_some h; obtain ⟨h206, h⟩ := h
            refine ⟨h201, rfl, (fun hg => hg), (fun hg => hg), h202, (fun hg => hg), (fun hg => hg), (fun _ => rfl), (fun hg => hg), (fun hg => hg), (fun hg => hg), (fun hg => hg), (fun hg => hg), h203, (fun hg => hg), (fun hg => hg), (fun _ => rfl), (fun hg => hg), (fun hg => hg), (fun hg => hg), (fun hg => hg), (fun hg => hg), (fun hg => hg), (fun hg => hg), h204, (fun hg => hg), (fun hg => hg), h205, (fun hg => hg), (fun hg => hg), h206, (fun hg => hg), (fun hg => hg), (fun hg => hg), (fun hg => hg), (fun hg => hg), (fun hg0 => (fun hg => (and_t hg0 (and_t hg0 hg)))), (fun hg => hg), (show drOk _ _ = true by kernel_rfl), ?_⟩
            refine ⟨fun h207 => ?_, fun h207 => ?_⟩
            · replace h := iteO_t h h207
              subst hN
              cases h
              intro he; cases he
              intro he; cases he
              intro hr
              subst hr
              try dsimp only [noGoto, inBlockQ, thenQ]
              repeat (first | refine (if_pos rfl).mpr ?_ | refine (if_neg (by decide)).mpr ?_)
              refine retQ_ret rfl ?_
              exact rfl
            · replace h := iteO_f h h207
              subst hN
              show Tr _ _ _ _
              refine Tr.cutSeq (α := Unit) h (fun _ t'3 => ⟨frm 140 [(0, .sl 1 (nvS.len levels) false (fun i j => (.v (.int .i64 (nvS.get 0 levels i))))), (3, .v (.bool v)), (4, .vec 16 (t'3.g 16) 2 0 (nvS.len v1)), (5, .sl 1 (nvS.len v3.1) false (fun i j => (.v (.int .i64 (nvS.get 0 v3.1 i))))), (6, .v (.bool v3.2)), (8, .v (.int .i64 i))] 0, frO 140 [(16, .arr (t'3.g 16) 2 (nvS.len v1) (t'3.t 16) (fun i j => (D_Arr2_i64 nvS (nvS.get d_Arr2_i64 v1 i) j)))] 0, t'3.c⟩) (fun _ t => Hid.ok t) (fun x t'3 ht'3 h => ?_) (fun f h => ?_)
              · obtain ⟨t'3_c, t'3_g, t'3_t⟩ := t'3
                have ht'3_c : 0 < t'3_c := ht'3.1
                have ht'3_g : ∀ k, t'3_g k < t'3_c := ht'3.2
                refine Tr.chunk (cx := ⟨tt0, ⟨fun f => kOf [] f, fun k _ _ _ => orcL [] k, fun t => memN [] t⟩, 0, fun r => ghL [] r⟩) tt0_ok hPm fun N hN => ?_
                generalize hp : std Try.prog = p
                generalize hv : nvS = nv
                cbv
                subst hp
                subst hv
                replace h := chk_some h; obtain ⟨h237, h⟩ := h
                refine ⟨h237, rfl, ?_⟩
                subst hN
                cases h
                show ∃ t', _ ∧ GeSt _ _ _
                refine ⟨⟨t'3_c + 10, gfn [(16, t'3_g 16)], tfn [(16, t'3_t 16)]⟩, Hid.mk_ok (by omega) (And.intro (by have := ht'3_g 16; omega)
                    trivial), ?_⟩
                exact GeSt.of (LeSt.frame (by show (_ : Nat) < _; (try dsimp only [std_eq, stdN]); omega) rfl rfl (And.intro ⟨_, rfl, LeD.refl _⟩
                    (And.intro ⟨_, rfl, LeD.refl _⟩
                    (And.intro ⟨_, rfl, LeD.refl _⟩
                    (And.intro ⟨_, rfl, LeD.refl _⟩
                    (And.intro ⟨_, rfl, LeD.refl _⟩
                    (And.intro ⟨_, rfl, LeD.refl _⟩
                    (And.intro ⟨_, rfl, LeD.refl _⟩
                    trivial))))))) (And.intro ⟨_, rfl, LeOb.refl _⟩
                    trivial))
              · refine Tr.pre (cx := ⟨tt0, ⟨fun f => kOf [] f, fun k _ _ _ => orcL [] k, fun t => memN [] t⟩, 0, fun r => ghL [] r⟩) tt0_ok hPm 1 fun N hN => ?_
                generalize hp : std Try.prog = p
                generalize hv : nvS = nv
                cbv
                subst hp
                subst hv
                replace h := chk_some h; obtain ⟨h238, h⟩ := h
                refine ⟨h238, ?_⟩
                subst hN
                show Tr _ _ _ _
                refine Tr.block ?_
                refine Tr.loopO (α := Int) (fun k'1 t'4 => ⟨frm 140 [(0, .sl 1 (nvS.len levels) false (fun i j => (.v (.int .i64 (nvS.get 0 levels i))))), (3, .v (.bool v)), (4, .vec 16 (t'4.g 16) 2 0 (nvS.len v1)), (5, .sl 1 (nvS.len v3.1) false (fun i j => (.v (.int .i64 (nvS.get 0 v3.1 i))))), (6, .v (.bool v3.2)), (7, .v (.int .i64 at'1)), (8, .v (.int .i64 i)), (9, .v (.int .i64 k'1))] 0, frO 140 [(16, .arr (t'4.g 16) 2 (nvS.len v1) (t'4.t 16) (fun i j => (D_Arr2_i64 nvS (nvS.get d_Arr2_i64 v1 i) j)))] 0, t'4.c⟩) (fun _ t => Hid.ok t) ⟨t'1_c + 12, gfn [(16, t'1_g 16)], tfn [(16, t'1_t 16)]⟩ h ?_ ?_ (fun x t'4 f ht'4 h => ?_)
                · exact Hid.mk_ok (by omega) (And.intro (by have := ht'1_g 16; omega)
                      trivial)
                · exact GeSt.of (LeSt.frame (by show (_ : Nat) < _; (try dsimp only [std_eq, stdN]); omega) rfl rfl (And.intro ⟨_, rfl, LeD.refl _⟩
                      (And.intro ⟨_, rfl, LeD.refl _⟩
                      (And.intro ⟨_, rfl, LeD.refl _⟩
                      (And.intro ⟨_, rfl, LeD.refl _⟩
                      (And.intro ⟨_, rfl, LeD.refl _⟩
                      (And.intro ⟨_, rfl, LeD.refl _⟩
                      (And.intro ⟨_, rfl, LeD.refl _⟩
                      (And.intro ⟨_, rfl, LeD.refl _⟩
                      trivial)))))))) (And.intro ⟨_, rfl, LeOb.refl _⟩
                      trivial))
                · revert h; revert ht'4; revert x; intro k'1 ht'4 h
                  obtain ⟨t'4_c, t'4_g, t'4_t⟩ := t'4
                  have ht'4_c : 0 < t'4_c := ht'4.1
                  have ht'4_g : ∀ k, t'4_g k < t'4_c := ht'4.2
                  refine Tr.chunk (cx := ⟨tt0, ⟨fun f => kOf [] f, fun k _ _ _ => orcL [] k, fun t => memN [] t⟩, 0, fun r => ghL [] r⟩) tt0_ok hPm fun N hN => ?_
                  generalize hp : std Try.prog = p
                  generalize hv : nvS = nv
                  cbv
                  subst hp
                  subst hv
                  replace h := chk_some h; obtain ⟨h267, h⟩ := h
                  refine ⟨h267, rfl, ?_⟩
                  refine ⟨fun h268 => ?_, fun h268 => ?_⟩
                  · replace h := iteO_t h h268
                    replace h := chk_some h; obtain ⟨h269, h⟩ := h
                    replace h := chk_some h; obtain ⟨h270, h⟩ := h
                    replace h := chk_some h; obtain ⟨h271, h⟩ := h
                    replace h := chk_some h; obtain ⟨h272, h⟩ := h
                    replace h := chk_some h; obtain ⟨h273, h⟩ := h
                    replace h := chk_some h; obtain ⟨h274, h⟩ := h
                    replace h := chk_some h; obtain ⟨h275, h⟩ := h
                    replace h := chk_some h; obtain ⟨h276, h⟩ := h
                    replace h := chk_some h; obtain ⟨h277, h⟩ := h
                    replace h := chk_some h; obtain ⟨h278, h⟩ := h
                    refine ⟨h269, h270, (fun hg => hg), (fun hg => hg), (fun hg => hg), (fun hg => hg), (fun hg => hg), (fun hg => hg), (fun hg => hg), (fun hg => hg), (fun hg => hg), h271, (fun hg => hg), (fun hg => hg), h272, (fun hg => hg), (fun hg => hg), h273, (fun hg => hg), (fun hg => hg), (fun hg => hg), h274, (fun hg => hg), (fun hg => hg), (fun hg => hg), h275, (fun hg => hg), (fun hg => hg), h276, (fun hg => hg), (fun hg => hg), h277, (fun hg => hg), (fun hg => hg), (fun hg => hg), h278, (fun hg => hg), (fun hg => hg), (fun hg => hg), (fun hg0 => (fun hg => (and_t hg0 (and_t hg0 hg)))), (fun hg => hg), (show drOk _ _ = true by kernel_rfl), ?_⟩
                    refine ⟨fun h279 => ?_, fun h279 => ?_⟩
                    · replace h := iteO_t h h279
                      subst hN
                      cases h
                      intro he; cases he
                      intro he; cases he
                      intro he; cases he
                      intro he; cases he
                      intro hr
                      subst hr
                      try dsimp only [noGoto, inBlockQ, thenQ]
                      repeat (first | refine (if_pos rfl).mpr ?_ | refine (if_neg (by decide)).mpr ?_)
                      refine retQ_ret rfl ?_
                      exact rfl
                    · replace h := iteO_f h h279
                      replace h := chk_some h; obtain ⟨h280, h⟩ := h
                      refine ⟨h280, ?_⟩
                      subst hN
                      cases h
                      show ∃ t', _ ∧ GeSt _ _ _
                      refine ⟨⟨t'4_c + 12, gfn [(16, t'4_g 16)], tfn [(16, t'4_t 16)]⟩, Hid.mk_ok (by omega) (And.intro (by have := ht'4_g 16; omega)
                          trivial), ?_⟩
                      exact GeSt.of (LeSt.frame (by show (_ : Nat) < _; (try dsimp only [std_eq, stdN]); omega) rfl rfl (And.intro ⟨_, rfl, LeD.refl _⟩
                          (And.intro ⟨_, rfl, LeD.refl _⟩
                          (And.intro ⟨_, rfl, LeD.refl _⟩
                          (And.intro ⟨_, rfl, LeD.refl _⟩
                          (And.intro ⟨_, rfl, LeD.refl _⟩
                          (And.intro ⟨_, rfl, LeD.refl _⟩
                          (And.intro ⟨_, rfl, LeD.refl _⟩
                          (And.intro ⟨_, rfl, LeD.refl _⟩
                          trivial)))))))) (And.intro ⟨_, rfl, LeOb.refl _⟩
                          trivial))
                  · replace h := iteO_f h h268
                    subst hN
                    cases h
                    intro he; cases he
                    show ∃ t', _ ∧ GeSt _ _ _
                    refine ⟨⟨t'4_c + 10, gfn [(16, t'4_g 16)], tfn [(16, t'4_t 16)]⟩, Hid.mk_ok (by omega) (And.intro (by have := ht'4_g 16; omega)
                        trivial), ?_⟩
                    exact GeSt.of (LeSt.frame (by show (_ : Nat) < _; (try dsimp only [std_eq, stdN]); omega) rfl rfl (And.intro ⟨_, rfl, LeD.refl _⟩
                        (And.intro ⟨_, rfl, LeD.refl _⟩
                        (And.intro ⟨_, rfl, LeD.refl _⟩
                        (And.intro ⟨_, rfl, LeD.refl _⟩
                        (And.intro ⟨_, rfl, LeD.refl _⟩
                        (And.intro ⟨_, rfl, LeD.refl _⟩
                        trivial)))))) (And.intro ⟨_, rfl, LeOb.refl _⟩
                        trivial))
        · replace h := iteO_f h h162
          subst hN
          cases h
          intro he; cases he
          show ∃ t', _ ∧ GeSt _ _ _
          refine ⟨⟨t'1_c + 10, gfn [], tfn []⟩, Hid.mk_ok (by omega) trivial, ?_⟩
          exact GeSt.of (LeSt.frame (by show (_ : Nat) < _; (try dsimp only [std_eq, stdN]); omega) rfl rfl (And.intro ⟨_, rfl, LeD.refl _⟩
              (And.intro ⟨_, rfl, LeD.refl _⟩
              (And.intro ⟨_, rfl, LeD.refl _⟩
              trivial))) trivial)
end Go.Vx
