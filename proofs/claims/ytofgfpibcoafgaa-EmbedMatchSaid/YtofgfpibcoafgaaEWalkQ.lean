/- Walks, by program (lift.py). -/
import Derived.Test.YtofgfpibcoafgaaEWalk
import Derived.Test.YtofgfpibcoafgaaEWalkA
set_option linter.all false
namespace Go.Vx
open Go.Proofs
set_option maxRecDepth 100000
set_option linter.unusedVariables false
set_option linter.unusedSimpArgs false

theorem embed_Edges_ok (l' : (List Int)) (r' : T_embed_Run) (base : Int) (seq : (List Int)) (r : (Int × Int)) (h : embed_Edges l' r' base seq = some r) : PureFn Try.prog 11 [(.sl 1 (nvS.len l') false (fun i j => (.v (.int .i64 (nvS.get 0 l' i))))), (.agg 3 (fun j => (D_embed_Run nvS r' j))), (.v (.int .i64 base)), (.sl 1 (nvS.len seq) false (fun i j => (.v (.int .i64 (nvS.get 0 seq i)))))] (.tup 2 (fun j => match j with | 0 => (.v (.int .i64 r.1)) | 1 => (.v (.int .i64 r.2)) | _ => .junk)) := by
  obtain ⟨r_Levels, r_Classes, r_Removed⟩ := r'
  unfold embed_Edges at h
  try dsimp only at h
  refine fn_tr tt0_ok Try.func11 (by kernel_rfl) (c := bodyOf Try.f11) (by kernel_rfl) ?_
  intro ctr hc
  obtain ⟨v, h1⟩ : ∃ v, valO false (embed_fits l' (T_embed_Run.mk r_Levels r_Classes r_Removed)) = v := ⟨_, rfl⟩
  refine Tr.pre (cx := ⟨tt0, ⟨fun f => kOf [] f, fun k _ _ _ => orcL [(21, .plain (.v (.bool v)))] k, fun t => memN [] t⟩, 0, fun r => ghL [] r⟩) tt0_ok hPm 2 fun N hN => ?_
  generalize hp : std Try.prog = p
  generalize hv : nvS = nv
  cbv
  subst hp
  subst hv
  replace h := bindO_val h1 h; clear h1; obtain ⟨h1, h⟩ := h
  refine ⟨rfl, (Or.inl (PureFn.arg (embed_fits_ok l' (T_embed_Run.mk r_Levels r_Classes r_Removed) v h1) (And.intro (LeD.refl _)
      (And.intro (LeD.agg fun j hj => by
        have hj2 : j < 3 := hj
        rcases (show j = 0 ∨ j = 1 ∨ j = 2 by omega) with rfl | rfl | rfl
        · exact LeD.refl _
        · exact LeD.refl _
        · exact LeD.refl _)
      trivial)))), (fun hg => hg), (fun hg => hg), (fun hg => hg), ?_⟩
  refine ⟨fun h2 => ?_, fun h2 => ?_⟩
  · replace h := iteO_t h h2
    subst hN
    have hr := Option.some.inj h
    subst hr
    try dsimp only [noGoto, inBlockQ, thenQ]
    repeat (first | refine (if_pos rfl).mpr ?_ | refine (if_neg (by decide)).mpr ?_)
    refine retQ_ret rfl ?_ ?_
    · exact trivial
    · exact (And.intro (rfl)
          rfl)
  · replace h := iteO_f h h2
    subst hN
    show Tr _ _ _ _
    refine Tr.cutSeq (α := Unit) h (fun _ t' => ⟨frm 121 [(0, .sl 1 (nvS.len l') false (fun i j => (.v (.int .i64 (nvS.get 0 l' i))))), (2, .v (.int .i64 base)), (3, .sl 1 (nvS.len seq) false (fun i j => (.v (.int .i64 (nvS.get 0 seq i))))), (5, .bref 5 (t'.g 5) 0)] 0, frO 121 [(5, .box (t'.g 5) [.sl 1 (nvS.len r_Levels) false (fun i j => (.v (.int .i64 (nvS.get 0 r_Levels i)))), .sl 1 (nvS.len r_Classes) false (fun i j => (.v (.int .i64 (nvS.get 0 r_Classes i)))), .sl 1 (nvS.len r_Removed) false (fun i j => (.v (.bool (nvS.get false r_Removed i))))])] 0, t'.c⟩) (fun _ t => Hid.ok t) (fun x t' ht' h => ?_) (fun f h => ?_)
    · obtain ⟨t'_c, t'_g, t'_t⟩ := t'
      have ht'_c : 0 < t'_c := ht'.1
      have ht'_g : ∀ k, t'_g k < t'_c := ht'.2
      obtain ⟨v1, h14⟩ : ∃ v1, valO 0 (embed_parity base) = v1 := ⟨_, rfl⟩
      obtain ⟨v2, h15⟩ : ∃ v2, valO 0 (embed_parity base) = v2 := ⟨_, rfl⟩
      refine Tr.pre (cx := ⟨tt0, ⟨fun f => kOf [] f, fun k _ _ _ => orcL [(53, .plain (.v (.int .i64 v1))), (55, .plain (.v (.int .i64 v2)))] k, fun t => memN [] t⟩, 0, fun r => ghL [] r⟩) tt0_ok hPm 2 fun N hN => ?_
      generalize hp : std Try.prog = p
      generalize hv : nvS = nv
      cbv
      subst hp
      subst hv
      replace h := chk_some h; obtain ⟨h11, h⟩ := h
      replace h := chk_some h; obtain ⟨h12, h⟩ := h
      replace h := chk_some h; obtain ⟨h13, h⟩ := h
      refine ⟨h11, h12, h13, (show drOk _ _ = true by kernel_rfl), ?_⟩
      replace h := bindO_val h14 h; clear h14; obtain ⟨h14, h⟩ := h
      replace h := bindO_val h15 h; clear h15; obtain ⟨h15, h⟩ := h
      refine ⟨(Or.inl (PureFn.arg (embed_parity_ok base v1 h14) (And.intro (LeD.refl _)
          trivial))), (Or.inl (PureFn.arg (embed_parity_ok base v2 h15) (And.intro (LeD.refl _)
          trivial))), ?_⟩
      subst hN
      show Tr _ _ _ _
      refine Tr.cutSeq (α := Int) h (fun ahead t'1 => ⟨frm 121 [(0, .sl 1 (nvS.len l') false (fun i j => (.v (.int .i64 (nvS.get 0 l' i))))), (5, .bref 5 (t'1.g 5) 0), (12, .v (.int .i64 (nvS.get 0 seq 0))), (13, .v (.int .i64 (nvS.get 0 seq ((std Try.prog).sub (nvS.len seq) 1)))), (14, .v (.int .i64 ahead)), (15, .v (.int .i64 v2))] 0, frO 121 [(5, .box (t'1.g 5) [.sl 1 (nvS.len r_Levels) false (fun i j => (.v (.int .i64 (nvS.get 0 r_Levels i)))), .sl 1 (nvS.len r_Classes) false (fun i j => (.v (.int .i64 (nvS.get 0 r_Classes i)))), .sl 1 (nvS.len r_Removed) false (fun i j => (.v (.bool (nvS.get false r_Removed i))))])] 0, t'1.c⟩) (fun _ t => Hid.ok t) (fun x t'1 ht'1 h => ?_) (fun f h => ?_)
      · revert h; revert ht'1; revert x; intro ahead ht'1 h
        obtain ⟨t'1_c, t'1_g, t'1_t⟩ := t'1
        have ht'1_c : 0 < t'1_c := ht'1.1
        have ht'1_g : ∀ k, t'1_g k < t'1_c := ht'1.2
        refine Tr.cutSeq (α := Int) h (fun behind t'2 => ⟨frm 121 [(5, .bref 5 (t'2.g 5) 0), (12, .v (.int .i64 (nvS.get 0 seq 0))), (14, .v (.int .i64 ahead)), (15, .v (.int .i64 behind))] 0, frO 121 [(5, .box (t'2.g 5) [.sl 1 (nvS.len r_Levels) false (fun i j => (.v (.int .i64 (nvS.get 0 r_Levels i)))), .sl 1 (nvS.len r_Classes) false (fun i j => (.v (.int .i64 (nvS.get 0 r_Classes i)))), .sl 1 (nvS.len r_Removed) false (fun i j => (.v (.bool (nvS.get false r_Removed i))))])] 0, t'2.c⟩) (fun _ t => Hid.ok t) (fun x t'2 ht'2 h => ?_) (fun f h => ?_)
        · revert h; revert ht'2; revert x; intro behind ht'2 h
          obtain ⟨t'2_c, t'2_g, t'2_t⟩ := t'2
          have ht'2_c : 0 < t'2_c := ht'2.1
          have ht'2_g : ∀ k, t'2_g k < t'2_c := ht'2.2
          obtain ⟨v3, h44⟩ : ∃ v3, valO 0 (embed_side (imaxI (getL 0 r_Levels (getL 0 seq 0)) ahead)) = v3 := ⟨_, rfl⟩
          obtain ⟨v4, h45⟩ : ∃ v4, valO 0 (embed_side (imaxI (getL 0 r_Levels (getL 0 seq 0)) behind)) = v4 := ⟨_, rfl⟩
          refine Tr.chunk (cx := ⟨tt0, ⟨fun f => kOf [] f, fun k _ _ _ => orcL [(116, .plain (.v (.int .i64 v3))), (120, .plain (.v (.int .i64 v4)))] k, fun t => memN [] t⟩, 0, fun r => ghL [] r⟩) tt0_ok hPm fun N hN => ?_
          generalize hp : std Try.prog = p
          generalize hv : nvS = nv
          cbv
          subst hp
          subst hv
          replace h := chk_some h; obtain ⟨h43, h⟩ := h
          refine ⟨rfl, h43, ?_⟩
          replace h := bindO_val h44 h; clear h44; obtain ⟨h44, h⟩ := h
          replace h := bindO_val h45 h; clear h45; obtain ⟨h45, h⟩ := h
          refine ⟨(Or.inl (PureFn.arg (embed_side_ok (imaxI (getL 0 r_Levels (getL 0 seq 0)) ahead) v3 h44) (And.intro (LeD.refl _)
              trivial))), (Or.inl (PureFn.arg (embed_side_ok (imaxI (getL 0 r_Levels (getL 0 seq 0)) behind) v4 h45) (And.intro (LeD.refl _)
              trivial))), ?_⟩
          subst hN
          have hr := Option.some.inj h
          subst hr
          try dsimp only [noGoto, inBlockQ, thenQ]
          repeat (first | refine (if_pos rfl).mpr ?_ | refine (if_neg (by decide)).mpr ?_)
          refine retQ_ret rfl ?_ ?_
          · exact trivial
          · exact (And.intro (rfl)
                rfl)
        · obtain ⟨v5, h47⟩ : ∃ v5, valO false (embed_isolate (getL 0 l' (getL 0 seq ((lenL seq) - 1)))) = v5 := ⟨_, rfl⟩
          obtain ⟨v6, h48⟩ : ∃ v6, valO [] (if (!(!v5)) = true then embed_Match l' else some []) = v6 := ⟨_, rfl⟩
          refine Tr.pre (cx := ⟨tt0, ⟨fun f => kOf [] f, fun k _ _ _ => orcL [(77, .plain (.v (.bool v5))), (81, .plain (.sl 1 (nvS.len v6) false (fun i j => (.v (.int .i64 (nvS.get 0 v6 i))))))] k, fun t => memN [] t⟩, 0, fun r => ghL [] r⟩) tt0_ok hPm 1 fun N hN => ?_
          generalize hp : std Try.prog = p
          generalize hv : nvS = nv
          cbv
          subst hp
          subst hv
          replace h := chk_some h; obtain ⟨h46, h⟩ := h
          replace h := bindO_val h47 h; clear h47; obtain ⟨h47, h⟩ := h
          replace h := bindO_val h48 h; clear h48; obtain ⟨h48, h⟩ := h
          replace h := chk_some h; obtain ⟨h49, h⟩ := h
          refine ⟨h46, (Or.inl (PureFn.arg (embed_isolate_ok (getL 0 l' (getL 0 seq ((lenL seq) - 1))) v5 h47) (And.intro (LeD.refl _)
              trivial))), (fun hg => hg), (fun hg => by have h48 := guardO h48 hg; exact (Or.inl (PureFn.arg (PureFn.sl (embed_Match_ok l' v6 h48)) (And.intro (LeD.refl _)
              trivial)))), (fun hg => hg), (fun hg => hg), h49, (fun hg => hg), (fun hg => hg), (fun hg => hg), (fun hg => hg), (fun hg => hg), ?_⟩
          subst hN
          show Tr _ _ _ _
          refine Tr.cond rfl (fun q hq => by cases hq) (fun h50 => ?_) (fun h50 => ?_)
          · replace h := iteO_t h h50
            refine Tr.pre (cx := ⟨tt0, ⟨fun f => kOf [] f, fun k _ _ _ => orcL [] k, fun t => memN [] t⟩, 0, fun r => ghL [] r⟩) tt0_ok hPm 1 fun N hN => ?_
            generalize hp : std Try.prog = p
            generalize hv : nvS = nv
            cbv
            subst hp
            subst hv
            replace h := chk_some h; obtain ⟨h51, h⟩ := h
            refine ⟨h51, ?_⟩
            subst hN
            show Tr _ _ _ _
            refine Tr.block ?_
            refine Tr.loopO (α := Int) (fun i1 t'3 => ⟨frm 121 [(0, .sl 1 (nvS.len l') false (fun i j => (.v (.int .i64 (nvS.get 0 l' i))))), (5, .bref 5 (t'3.g 5) 0), (12, .v (.int .i64 (nvS.get 0 seq 0))), (14, .v (.int .i64 ahead)), (15, .v (.int .i64 v2)), (17, .v (.int .i64 i1))] 0, frO 121 [(5, .box (t'3.g 5) [.sl 1 (nvS.len r_Levels) false (fun i j => (.v (.int .i64 (nvS.get 0 r_Levels i)))), .sl 1 (nvS.len r_Classes) false (fun i j => (.v (.int .i64 (nvS.get 0 r_Classes i)))), .sl 1 (nvS.len r_Removed) false (fun i j => (.v (.bool (nvS.get false r_Removed i))))])] 0, t'3.c⟩) (fun _ t => Hid.ok t) ⟨t'1_c + 11, gfn [(5, t'1_g 5)], tfn [(5, false)]⟩ h ?_ ?_ (fun x t'3 f ht'3 h => ?_)
            · exact Hid.mk_ok (by omega) (And.intro (by have := ht'1_g 5; omega)
                  trivial)
            · exact GeSt.of (LeSt.frame (by show (_ : Nat) < _; (try dsimp only [std_eq, stdN]); omega) rfl rfl (And.intro ⟨_, rfl, LeD.refl _⟩
                  (And.intro ⟨_, rfl, LeD.refl _⟩
                  (And.intro ⟨_, rfl, LeD.refl _⟩
                  (And.intro ⟨_, rfl, LeD.refl _⟩
                  (And.intro ⟨_, rfl, LeD.refl _⟩
                  (And.intro ⟨_, rfl, LeD.refl _⟩
                  trivial)))))) (And.intro ⟨_, rfl, LeOb.box (And.intro (LeD.refl _)
                  (And.intro (LeD.refl _)
                  (And.intro (LeD.refl _)
                  trivial)))⟩
                  trivial))
            · revert h; revert ht'3; revert x; intro i1 ht'3 h
              obtain ⟨t'3_c, t'3_g, t'3_t⟩ := t'3
              have ht'3_c : 0 < t'3_c := ht'3.1
              have ht'3_g : ∀ k, t'3_g k < t'3_c := ht'3.2
              refine Tr.chunk (cx := ⟨tt0, ⟨fun f => kOf [] f, fun k _ _ _ => orcL [] k, fun t => memN [] t⟩, 0, fun r => ghL [] r⟩) tt0_ok hPm fun N hN => ?_
              generalize hp : std Try.prog = p
              generalize hv : nvS = nv
              cbv
              subst hp
              subst hv
              refine ⟨fun h62 => ?_, fun h62 => ?_⟩
              · replace h := iteO_t h h62
                replace h := chk_some h; obtain ⟨h63, h⟩ := h
                refine ⟨rfl, h63, ?_⟩
                refine ⟨fun h64 => ?_, fun h64 => ?_⟩
                · replace h := iteO_t h h64
                  replace h := chk_some h; obtain ⟨h65, h⟩ := h
                  refine ⟨rfl, h65, ?_⟩
                  subst hN
                  cases h
                  intro he; cases he
                  show ∃ t', _ ∧ GeSt _ _ _
                  refine ⟨⟨t'3_c + 12, gfn [(5, t'3_g 5)], tfn [(5, false)]⟩, Hid.mk_ok (by omega) (And.intro (by have := ht'3_g 5; omega)
                      trivial), ?_⟩
                  exact GeSt.of (LeSt.frame (by show (_ : Nat) < _; (try dsimp only [std_eq, stdN]); omega) rfl rfl (And.intro ⟨_, rfl, LeD.refl _⟩
                      (And.intro ⟨_, rfl, LeD.refl _⟩
                      (And.intro ⟨_, rfl, LeD.refl _⟩
                      (And.intro ⟨_, rfl, LeD.refl _⟩
                      trivial)))) (And.intro ⟨_, rfl, LeOb.box (And.intro (LeD.refl _)
                      (And.intro (LeD.refl _)
                      (And.intro (LeD.refl _)
                      trivial)))⟩
                      trivial))
                · replace h := iteO_f h h64
                  replace h := chk_some h; obtain ⟨h66, h⟩ := h
                  refine ⟨h66, ?_⟩
                  subst hN
                  cases h
                  show ∃ t', _ ∧ GeSt _ _ _
                  refine ⟨⟨t'3_c + 12, gfn [(5, t'3_g 5)], tfn [(5, false)]⟩, Hid.mk_ok (by omega) (And.intro (by have := ht'3_g 5; omega)
                      trivial), ?_⟩
                  exact GeSt.of (LeSt.frame (by show (_ : Nat) < _; (try dsimp only [std_eq, stdN]); omega) rfl rfl (And.intro ⟨_, rfl, LeD.refl _⟩
                      (And.intro ⟨_, rfl, LeD.refl _⟩
                      (And.intro ⟨_, rfl, LeD.refl _⟩
                      (And.intro ⟨_, rfl, LeD.refl _⟩
                      (And.intro ⟨_, rfl, LeD.refl _⟩
                      (And.intro ⟨_, rfl, LeD.refl _⟩
                      trivial)))))) (And.intro ⟨_, rfl, LeOb.box (And.intro (LeD.refl _)
                      (And.intro (LeD.refl _)
                      (And.intro (LeD.refl _)
                      trivial)))⟩
                      trivial))
              · replace h := iteO_f h h62
                subst hN
                cases h
                intro he; cases he
                show ∃ t', _ ∧ GeSt _ _ _
                refine ⟨⟨t'3_c + 10, gfn [(5, t'3_g 5)], tfn [(5, false)]⟩, Hid.mk_ok (by omega) (And.intro (by have := ht'3_g 5; omega)
                    trivial), ?_⟩
                exact GeSt.of (LeSt.frame (by show (_ : Nat) < _; (try dsimp only [std_eq, stdN]); omega) rfl rfl (And.intro ⟨_, rfl, LeD.refl _⟩
                    (And.intro ⟨_, rfl, LeD.refl _⟩
                    (And.intro ⟨_, rfl, LeD.refl _⟩
                    (And.intro ⟨_, rfl, LeD.refl _⟩
                    trivial)))) (And.intro ⟨_, rfl, LeOb.box (And.intro (LeD.refl _)
                    (And.intro (LeD.refl _)
                    (And.intro (LeD.refl _)
                    trivial)))⟩
                    trivial))
          · replace h := iteO_f h h50
            refine Tr.chunk (cx := ⟨tt0, ⟨fun f => kOf [] f, fun k _ _ _ => orcL [] k, fun t => memN [] t⟩, 0, fun r => ghL [] r⟩) tt0_ok hPm fun N hN => ?_
            generalize hp : std Try.prog = p
            generalize hv : nvS = nv
            cbv
            subst hp
            subst hv
            subst hN
            cases h
            show ∃ t', _ ∧ GeSt _ _ _
            refine ⟨⟨t'1_c + 10, gfn [(5, t'1_g 5)], tfn [(5, false)]⟩, Hid.mk_ok (by omega) (And.intro (by have := ht'1_g 5; omega)
                trivial), ?_⟩
            exact GeSt.of (LeSt.frame (by show (_ : Nat) < _; (try dsimp only [std_eq, stdN]); omega) rfl rfl (And.intro ⟨_, rfl, LeD.refl _⟩
                (And.intro ⟨_, rfl, LeD.refl _⟩
                (And.intro ⟨_, rfl, LeD.refl _⟩
                (And.intro ⟨_, rfl, LeD.refl _⟩
                trivial)))) (And.intro ⟨_, rfl, LeOb.box (And.intro (LeD.refl _)
                (And.intro (LeD.refl _)
                (And.intro (LeD.refl _)
                trivial)))⟩
                trivial))
      · refine Tr.pre (cx := ⟨tt0, ⟨fun f => kOf [] f, fun k _ _ _ => orcL [] k, fun t => memN [] t⟩, 0, fun r => ghL [] r⟩) tt0_ok hPm 1 fun N hN => ?_
        generalize hp : std Try.prog = p
        generalize hv : nvS = nv
        cbv
        subst hp
        subst hv
        replace h := chk_some h; obtain ⟨h67, h⟩ := h
        refine ⟨h67, ?_⟩
        subst hN
        show Tr _ _ _ _
        refine Tr.block ?_
        refine Tr.loopO (α := Int) (fun i4 t'4 => ⟨frm 121 [(0, .sl 1 (nvS.len l') false (fun i j => (.v (.int .i64 (nvS.get 0 l' i))))), (5, .bref 5 (t'4.g 5) 0), (12, .v (.int .i64 (nvS.get 0 seq 0))), (13, .v (.int .i64 (nvS.get 0 seq ((std Try.prog).sub (nvS.len seq) 1)))), (14, .v (.int .i64 v1)), (15, .v (.int .i64 v2)), (16, .v (.int .i64 i4))] 0, frO 121 [(5, .box (t'4.g 5) [.sl 1 (nvS.len r_Levels) false (fun i j => (.v (.int .i64 (nvS.get 0 r_Levels i)))), .sl 1 (nvS.len r_Classes) false (fun i j => (.v (.int .i64 (nvS.get 0 r_Classes i)))), .sl 1 (nvS.len r_Removed) false (fun i j => (.v (.bool (nvS.get false r_Removed i))))])] 0, t'4.c⟩) (fun _ t => Hid.ok t) ⟨t'_c + 12, gfn [(5, t'_g 5)], tfn [(5, false)]⟩ h ?_ ?_ (fun x t'4 f ht'4 h => ?_)
        · exact Hid.mk_ok (by omega) (And.intro (by have := ht'_g 5; omega)
              trivial)
        · exact GeSt.of (LeSt.frame (by show (_ : Nat) < _; (try dsimp only [std_eq, stdN]); omega) rfl rfl (And.intro ⟨_, rfl, LeD.refl _⟩
              (And.intro ⟨_, rfl, LeD.refl _⟩
              (And.intro ⟨_, rfl, LeD.refl _⟩
              (And.intro ⟨_, rfl, LeD.refl _⟩
              (And.intro ⟨_, rfl, LeD.refl _⟩
              (And.intro ⟨_, rfl, LeD.refl _⟩
              (And.intro ⟨_, rfl, LeD.refl _⟩
              trivial))))))) (And.intro ⟨_, rfl, LeOb.box (And.intro (LeD.refl _)
              (And.intro (LeD.refl _)
              (And.intro (LeD.refl _)
              trivial)))⟩
              trivial))
        · revert h; revert ht'4; revert x; intro i4 ht'4 h
          obtain ⟨t'4_c, t'4_g, t'4_t⟩ := t'4
          have ht'4_c : 0 < t'4_c := ht'4.1
          have ht'4_g : ∀ k, t'4_g k < t'4_c := ht'4.2
          refine Tr.chunk (cx := ⟨tt0, ⟨fun f => kOf [] f, fun k _ _ _ => orcL [] k, fun t => memN [] t⟩, 0, fun r => ghL [] r⟩) tt0_ok hPm fun N hN => ?_
          generalize hp : std Try.prog = p
          generalize hv : nvS = nv
          cbv
          subst hp
          subst hv
          refine ⟨fun h78 => ?_, fun h78 => ?_⟩
          · replace h := iteO_t h h78
            replace h := chk_some h; obtain ⟨h79, h⟩ := h
            refine ⟨rfl, h79, ?_⟩
            refine ⟨fun h80 => ?_, fun h80 => ?_⟩
            · replace h := iteO_t h h80
              replace h := chk_some h; obtain ⟨h81, h⟩ := h
              refine ⟨rfl, h81, ?_⟩
              subst hN
              cases h
              intro he; cases he
              show ∃ t', _ ∧ GeSt _ _ _
              refine ⟨⟨t'4_c + 12, gfn [(5, t'4_g 5)], tfn [(5, false)]⟩, Hid.mk_ok (by omega) (And.intro (by have := ht'4_g 5; omega)
                  trivial), ?_⟩
              exact GeSt.of (LeSt.frame (by show (_ : Nat) < _; (try dsimp only [std_eq, stdN]); omega) rfl rfl (And.intro ⟨_, rfl, LeD.refl _⟩
                  (And.intro ⟨_, rfl, LeD.refl _⟩
                  (And.intro ⟨_, rfl, LeD.refl _⟩
                  (And.intro ⟨_, rfl, LeD.refl _⟩
                  (And.intro ⟨_, rfl, LeD.refl _⟩
                  (And.intro ⟨_, rfl, LeD.refl _⟩
                  trivial)))))) (And.intro ⟨_, rfl, LeOb.box (And.intro (LeD.refl _)
                  (And.intro (LeD.refl _)
                  (And.intro (LeD.refl _)
                  trivial)))⟩
                  trivial))
            · replace h := iteO_f h h80
              replace h := chk_some h; obtain ⟨h82, h⟩ := h
              refine ⟨h82, ?_⟩
              subst hN
              cases h
              show ∃ t', _ ∧ GeSt _ _ _
              refine ⟨⟨t'4_c + 12, gfn [(5, t'4_g 5)], tfn [(5, false)]⟩, Hid.mk_ok (by omega) (And.intro (by have := ht'4_g 5; omega)
                  trivial), ?_⟩
              exact GeSt.of (LeSt.frame (by show (_ : Nat) < _; (try dsimp only [std_eq, stdN]); omega) rfl rfl (And.intro ⟨_, rfl, LeD.refl _⟩
                  (And.intro ⟨_, rfl, LeD.refl _⟩
                  (And.intro ⟨_, rfl, LeD.refl _⟩
                  (And.intro ⟨_, rfl, LeD.refl _⟩
                  (And.intro ⟨_, rfl, LeD.refl _⟩
                  (And.intro ⟨_, rfl, LeD.refl _⟩
                  (And.intro ⟨_, rfl, LeD.refl _⟩
                  trivial))))))) (And.intro ⟨_, rfl, LeOb.box (And.intro (LeD.refl _)
                  (And.intro (LeD.refl _)
                  (And.intro (LeD.refl _)
                  trivial)))⟩
                  trivial))
          · replace h := iteO_f h h78
            subst hN
            cases h
            intro he; cases he
            show ∃ t', _ ∧ GeSt _ _ _
            refine ⟨⟨t'4_c + 10, gfn [(5, t'4_g 5)], tfn [(5, false)]⟩, Hid.mk_ok (by omega) (And.intro (by have := ht'4_g 5; omega)
                trivial), ?_⟩
            exact GeSt.of (LeSt.frame (by show (_ : Nat) < _; (try dsimp only [std_eq, stdN]); omega) rfl rfl (And.intro ⟨_, rfl, LeD.refl _⟩
                (And.intro ⟨_, rfl, LeD.refl _⟩
                (And.intro ⟨_, rfl, LeD.refl _⟩
                (And.intro ⟨_, rfl, LeD.refl _⟩
                (And.intro ⟨_, rfl, LeD.refl _⟩
                (And.intro ⟨_, rfl, LeD.refl _⟩
                trivial)))))) (And.intro ⟨_, rfl, LeOb.box (And.intro (LeD.refl _)
                (And.intro (LeD.refl _)
                (And.intro (LeD.refl _)
                trivial)))⟩
                trivial))
    · refine Tr.pre (cx := ⟨tt0, ⟨fun f => kOf [] f, fun k _ _ _ => orcL [] k, fun t => memN [] t⟩, 0, fun r => ghL [] r⟩) tt0_ok hPm 1 fun N hN => ?_
      generalize hp : std Try.prog = p
      generalize hv : nvS = nv
      cbv
      subst hp
      subst hv
      subst hN
      show Tr _ _ _ _
      refine Tr.block ?_
      refine Tr.loopO (α := Int) (fun v7 t'5 => ⟨frm 121 [(0, .sl 1 (nvS.len l') false (fun i j => (.v (.int .i64 (nvS.get 0 l' i))))), (2, .v (.int .i64 base)), (3, .sl 1 (nvS.len seq) false (fun i j => (.v (.int .i64 (nvS.get 0 seq i))))), (5, .bref 5 (t'5.g 5) 0), (28, .sl 1 (nvS.len seq) false (fun i j => (.v (.int .i64 (nvS.get 0 seq i))))), (29, .v (.int .i64 (nvS.len seq))), (30, .v (.int .i64 v7))] 0, frO 121 [(5, .box (t'5.g 5) [.sl 1 (nvS.len r_Levels) false (fun i j => (.v (.int .i64 (nvS.get 0 r_Levels i)))), .sl 1 (nvS.len r_Classes) false (fun i j => (.v (.int .i64 (nvS.get 0 r_Classes i)))), .sl 1 (nvS.len r_Removed) false (fun i j => (.v (.bool (nvS.get false r_Removed i))))])] 0, t'5.c⟩) (fun _ t => Hid.ok t) ⟨ctr + 12, gfn [(5, ctr + 0)], tfn [(5, false)]⟩ h ?_ ?_ (fun x t'5 f ht'5 h => ?_)
      · exact Hid.mk_ok (by omega) (And.intro (by omega)
            trivial)
      · exact GeSt.of (LeSt.frame (by show (_ : Nat) < _; (try dsimp only [std_eq, stdN]); omega) rfl rfl (And.intro ⟨_, rfl, LeD.refl _⟩
            (And.intro ⟨_, rfl, LeD.refl _⟩
            (And.intro ⟨_, rfl, LeD.refl _⟩
            (And.intro ⟨_, rfl, LeD.refl _⟩
            (And.intro ⟨_, rfl, LeD.refl _⟩
            (And.intro ⟨_, rfl, LeD.refl _⟩
            (And.intro ⟨_, rfl, LeD.refl _⟩
            trivial))))))) (And.intro ⟨_, rfl, LeOb.box (And.intro (LeD.refl _)
            (And.intro (LeD.refl _)
            (And.intro (LeD.refl _)
            trivial)))⟩
            trivial))
      · revert h; revert ht'5; revert x; intro v7 ht'5 h
        obtain ⟨t'5_c, t'5_g, t'5_t⟩ := t'5
        have ht'5_c : 0 < t'5_c := ht'5.1
        have ht'5_g : ∀ k, t'5_g k < t'5_c := ht'5.2
        refine Tr.chunk (cx := ⟨tt0, ⟨fun f => kOf [] f, fun k _ _ _ => orcL [] k, fun t => memN [] t⟩, 0, fun r => ghL [] r⟩) tt0_ok hPm fun N hN => ?_
        generalize hp : std Try.prog = p
        generalize hv : nvS = nv
        cbv
        subst hp
        subst hv
        refine ⟨fun h91 => ?_, fun h91 => ?_⟩
        · replace h := iteO_t h h91
          replace h := chk_some h; obtain ⟨h92, h⟩ := h
          refine ⟨h92, ?_⟩
          refine ⟨(fun hg => hg), (fun hg => hg), (fun hg => hg), (fun hg => hg), ?_⟩
          refine ⟨fun h93 => ?_, fun h93 => ?_⟩
          · replace h := iteO_t h h93
            subst hN
            cases h
            intro he; cases he
            intro hr
            subst hr
            try dsimp only [noGoto, inBlockQ, thenQ]
            repeat (first | refine (if_pos rfl).mpr ?_ | refine (if_neg (by decide)).mpr ?_)
            refine retQ_ret rfl ?_ ?_
            · exact trivial
            · exact (And.intro (rfl)
                  rfl)
          · replace h := iteO_f h h93
            replace h := chk_some h; obtain ⟨h94, h⟩ := h
            refine ⟨h94, ?_⟩
            subst hN
            cases h
            show ∃ t', _ ∧ GeSt _ _ _
            refine ⟨⟨t'5_c + 13, gfn [(5, t'5_g 5)], tfn [(5, false)]⟩, Hid.mk_ok (by omega) (And.intro (by have := ht'5_g 5; omega)
                trivial), ?_⟩
            exact GeSt.of (LeSt.frame (by show (_ : Nat) < _; (try dsimp only [std_eq, stdN]); omega) rfl rfl (And.intro ⟨_, rfl, LeD.refl _⟩
                (And.intro ⟨_, rfl, LeD.refl _⟩
                (And.intro ⟨_, rfl, LeD.refl _⟩
                (And.intro ⟨_, rfl, LeD.refl _⟩
                (And.intro ⟨_, rfl, LeD.refl _⟩
                (And.intro ⟨_, rfl, LeD.refl _⟩
                (And.intro ⟨_, rfl, LeD.refl _⟩
                trivial))))))) (And.intro ⟨_, rfl, LeOb.box (And.intro (LeD.refl _)
                (And.intro (LeD.refl _)
                (And.intro (LeD.refl _)
                trivial)))⟩
                trivial))
        · replace h := iteO_f h h91
          subst hN
          cases h
          intro he; cases he
          show ∃ t', _ ∧ GeSt _ _ _
          refine ⟨⟨t'5_c + 10, gfn [(5, t'5_g 5)], tfn [(5, false)]⟩, Hid.mk_ok (by omega) (And.intro (by have := ht'5_g 5; omega)
              trivial), ?_⟩
          exact GeSt.of (LeSt.frame (by show (_ : Nat) < _; (try dsimp only [std_eq, stdN]); omega) rfl rfl (And.intro ⟨_, rfl, LeD.refl _⟩
              (And.intro ⟨_, rfl, LeD.refl _⟩
              (And.intro ⟨_, rfl, LeD.refl _⟩
              (And.intro ⟨_, rfl, LeD.refl _⟩
              trivial)))) (And.intro ⟨_, rfl, LeOb.box (And.intro (LeD.refl _)
              (And.intro (LeD.refl _)
              (And.intro (LeD.refl _)
              trivial)))⟩
              trivial))

theorem lapwingref03_Ints_ok (a : (List Int)) (b : (List Int)) (r : Bool) (h : lapwingref03_Ints a b = some r) : PureFn Try.prog 10 [(.sl 1 (nvS.len a) false (fun i j => (.v (.int .i64 (nvS.get 0 a i))))), (.sl 1 (nvS.len b) false (fun i j => (.v (.int .i64 (nvS.get 0 b i)))))] ((.v (.bool r))) := by
  unfold lapwingref03_Ints at h
  refine fn_tr tt0_ok Try.func10 (by kernel_rfl) (c := bodyOf Try.f10) (by kernel_rfl) ?_
  intro ctr hc
  refine Tr.pre (cx := ⟨tt0, ⟨fun f => kOf [] f, fun k _ _ _ => orcL [] k, fun t => memN [] t⟩, 0, fun r => ghL [] r⟩) tt0_ok hPm 2 fun N hN => ?_
  generalize hp : std Try.prog = p
  generalize hv : nvS = nv
  cbv
  subst hp
  subst hv
  refine ⟨fun h1 => ?_, fun h1 => ?_⟩
  · replace h := iteO_t h h1
    subst hN
    have hr := Option.some.inj h
    subst hr
    try dsimp only [noGoto, inBlockQ, thenQ]
    repeat (first | refine (if_pos rfl).mpr ?_ | refine (if_neg (by decide)).mpr ?_)
    refine retQ_ret rfl ?_ ?_
    · exact trivial
    · exact rfl
  · replace h := iteO_f h h1
    subst hN
    show Tr _ _ _ _
    refine Tr.cutSeq (α := Unit) h (fun _ t' => ⟨frm 26 [] 0, frO 26 [] 0, t'.c⟩) (fun _ t => Hid.ok t) (fun x t' ht' h => ?_) (fun f h => ?_)
    · obtain ⟨t'_c, t'_g, t'_t⟩ := t'
      have ht'_c : 0 < t'_c := ht'.1
      have ht'_g : ∀ k, t'_g k < t'_c := ht'.2
      refine Tr.chunk (cx := ⟨tt0, ⟨fun f => kOf [] f, fun k _ _ _ => orcL [] k, fun t => memN [] t⟩, 0, fun r => ghL [] r⟩) tt0_ok hPm fun N hN => ?_
      generalize hp : std Try.prog = p
      generalize hv : nvS = nv
      cbv
      subst hp
      subst hv
      subst hN
      have hr := Option.some.inj h
      subst hr
      try dsimp only [noGoto, inBlockQ, thenQ]
      repeat (first | refine (if_pos rfl).mpr ?_ | refine (if_neg (by decide)).mpr ?_)
      refine retQ_ret rfl ?_ ?_
      · exact trivial
      · exact rfl
    · refine Tr.pre (cx := ⟨tt0, ⟨fun f => kOf [] f, fun k _ _ _ => orcL [] k, fun t => memN [] t⟩, 0, fun r => ghL [] r⟩) tt0_ok hPm 1 fun N hN => ?_
      generalize hp : std Try.prog = p
      generalize hv : nvS = nv
      cbv
      subst hp
      subst hv
      subst hN
      show Tr _ _ _ _
      refine Tr.block ?_
      refine Tr.loopO (α := Int) (fun i t'1 => ⟨frm 26 [(0, .sl 1 (nvS.len a) false (fun i j => (.v (.int .i64 (nvS.get 0 a i))))), (1, .sl 1 (nvS.len b) false (fun i j => (.v (.int .i64 (nvS.get 0 b i))))), (5, .v (.int .i64 i))] 0, frO 26 [] 0, t'1.c⟩) (fun _ t => Hid.ok t) ⟨ctr + 12, gfn [], tfn []⟩ h ?_ ?_ (fun x t'1 f ht'1 h => ?_)
      · exact Hid.mk_ok (by omega) trivial
      · exact GeSt.of (LeSt.frame (by show (_ : Nat) < _; (try dsimp only [std_eq, stdN]); omega) rfl rfl (And.intro ⟨_, rfl, LeD.refl _⟩
            (And.intro ⟨_, rfl, LeD.refl _⟩
            (And.intro ⟨_, rfl, LeD.refl _⟩
            trivial))) trivial)
      · revert h; revert ht'1; revert x; intro i ht'1 h
        obtain ⟨t'1_c, t'1_g, t'1_t⟩ := t'1
        have ht'1_c : 0 < t'1_c := ht'1.1
        have ht'1_g : ∀ k, t'1_g k < t'1_c := ht'1.2
        refine Tr.chunk (cx := ⟨tt0, ⟨fun f => kOf [] f, fun k _ _ _ => orcL [] k, fun t => memN [] t⟩, 0, fun r => ghL [] r⟩) tt0_ok hPm fun N hN => ?_
        generalize hp : std Try.prog = p
        generalize hv : nvS = nv
        cbv
        subst hp
        subst hv
        refine ⟨fun h22 => ?_, fun h22 => ?_⟩
        · replace h := iteO_t h h22
          replace h := chk_some h; obtain ⟨h23, h⟩ := h
          replace h := chk_some h; obtain ⟨h24, h⟩ := h
          refine ⟨h23, h24, (show drOk _ _ = true by kernel_rfl), ?_⟩
          refine ⟨fun h25 => ?_, fun h25 => ?_⟩
          · replace h := iteO_t h h25
            subst hN
            cases h
            intro he; cases he
            intro hr
            subst hr
            try dsimp only [noGoto, inBlockQ, thenQ]
            repeat (first | refine (if_pos rfl).mpr ?_ | refine (if_neg (by decide)).mpr ?_)
            refine retQ_ret rfl ?_ ?_
            · exact trivial
            · exact rfl
          · replace h := iteO_f h h25
            replace h := chk_some h; obtain ⟨h26, h⟩ := h
            refine ⟨h26, ?_⟩
            subst hN
            cases h
            show ∃ t', _ ∧ GeSt _ _ _
            refine ⟨⟨t'1_c + 12, gfn [], tfn []⟩, Hid.mk_ok (by omega) trivial, ?_⟩
            exact GeSt.of (LeSt.frame (by show (_ : Nat) < _; (try dsimp only [std_eq, stdN]); omega) rfl rfl (And.intro ⟨_, rfl, LeD.refl _⟩
                (And.intro ⟨_, rfl, LeD.refl _⟩
                (And.intro ⟨_, rfl, LeD.refl _⟩
                trivial))) trivial)
        · replace h := iteO_f h h22
          subst hN
          cases h
          intro he; cases he
          show ∃ t', _ ∧ GeSt _ _ _
          refine ⟨⟨t'1_c + 10, gfn [], tfn []⟩, Hid.mk_ok (by omega) trivial, ?_⟩
          exact GeSt.of (LeSt.frame (by show (_ : Nat) < _; (try dsimp only [std_eq, stdN]); omega) rfl rfl trivial trivial)
end Go.Vx
