/- Walks, by program (lift.py). -/
import Derived.Test.YtkjmcemgncalgaaGreatDoorWWalk
import Derived.Test.YtkjmcemgncalgaaGreatDoorWWalkL1
set_option linter.all false
namespace Go.Vx
open Go.Proofs
set_option maxRecDepth 100000
set_option linter.unusedVariables false
set_option linter.unusedSimpArgs false
theorem strings_Fields_ok (s : ByteArray) (r : (List ByteArray)) (h : strings_Fields s = some r) : PureFn Tryz.prog 39 [(.v (.string s))] (.own 1 (nvS.len r) false (fun ix jx => (.v (.string (nvS.get ByteArray.empty r ix))))) := by
 unfold strings_Fields at h
 refine fn_tr tt0_ok Tryz.func39 (by kernel_rfl) (c := bodyOf Tryz.f39) (by kernel_rfl) ?_
 intro ctr hc
 refine Wx [] [] [] 0 [] 4 fun N hN => ?_
 generalize hp : std Tryz.prog = p; generalize hv : nvS = nv; cbv; subst hp hv
 subst hN; show Tr _ _ _ _
 refine Tr.cutSeq (α := Int × Int) h (fun (n, setBits) t' => (WF 106 [(0, .v (.string s)), (3, WV n), (5, .v (.int .u8 setBits))] 106 [] t')) (fun _ t => Hid.ok t) (fun x t' ht' h => ?_) (fun f h => ?_)
 · obtain ⟨n, setBits⟩ := x
   try dsimp only at h
   obtain ⟨t'_c, t'_g, t'_t⟩ := t'; obtain ⟨ht'_c, ht'_g⟩ : 0 < t'_c ∧ ∀ k, t'_g k < t'_c := ht'
   refine Wx [] [] [] 0 [] 5 fun N hN => ?_
   generalize hp : std Tryz.prog = p; generalize hv : nvS = nv; cbv; subst hp hv
   refine ⟨fun h11 => ?_, fun h11 => ?_⟩
   · replace h := iteO_t h h11
     cases h
   replace h := iteO_f h h11
   replace h := chk_some h; obtain ⟨h12, h⟩ := h
   have h12' := h12.1; have h12'' := h12.2.1
   refine ⟨h12, ?_⟩
   subst hN; show Tr _ _ _ _
   refine Tr.cutSeq (α := Int) h (fun i t'1 => (WF 106 [(0, .v (.string s)), (9, .vec 41 (t'1.g 41) 1 0 n), (10, WV 0), (12, WV i)] 106 [(41, .arr (t'1.g 41) 1 n (t'1.t 41) (fun ix jx => (.v (.string (nvS.get ByteArray.empty (nvS.rep n ByteArray.empty) ix)))))] t'1)) (fun _ t => Hid.ok t) (fun x t'1 ht'1 h => ?_) (fun f h => ?_)
   · revert h; revert ht'1; revert x; intro i ht'1 h
     obtain ⟨t'1_c, t'1_g, t'1_t⟩ := t'1; obtain ⟨ht'1_c, ht'1_g⟩ : 0 < t'1_c ∧ ∀ k, t'1_g k < t'1_c := ht'1
     refine Wx [] [] [] 0 [] 1 fun N hN => ?_
     generalize hp : std Tryz.prog = p; generalize hv : nvS = nv; cbv; subst hp hv
     subst hN; show Tr _ _ _ _
     refine Tr.cutSeq (α := Int × Int × List ByteArray) h (fun (na, fieldStart, a) t'2 => (WF 106 [(0, .v (.string s)), (9, .vec 41 (t'2.g 41) 1 0 n), (10, WV na), (11, WV fieldStart)] 106 [(41, .arr (t'2.g 41) 1 n (t'2.t 41) (fun ix jx => (.v (.string (nvS.get ByteArray.empty a ix)))))] t'2)) (fun (na, fieldStart, a) t => Hid.ok t ∧ lenL a = n) (fun x t'2 ht'2 h => ?_) (fun f h => ?_)
     · obtain ⟨na, fieldStart, a⟩ := x
       try dsimp only at h
       obtain ⟨ht'2, ht'2_f0⟩ := ht'2
       obtain ⟨t'2_c, t'2_g, t'2_t⟩ := t'2; obtain ⟨ht'2_c, ht'2_g⟩ : 0 < t'2_c ∧ ∀ k, t'2_g k < t'2_c := ht'2
       refine Wc [] [] [] 0 [] fun N hN => ?_
       generalize hp : std Tryz.prog = p; generalize hv : nvS = nv; cbv; subst hp hv
       refine ⟨fun h55 => ?_, fun h55 => ?_⟩
       · replace h := iteO_t h h55
         replace h := chk_some h; obtain ⟨h56, h⟩ := h
         try (have h56z := h56; simp only [Int.zero_add] at h56z)
         replace h := chk_some h; obtain ⟨h57, h⟩ := h
         try (have h57z := h57; simp only [Int.zero_add] at h57z)
         refine ⟨h56, h57, rfl, ?_⟩
         subst hN; have hr := Option.some.inj h
         subst hr
         try dsimp only [noGoto, inBlockQ, thenQ]
         repeat (first | refine Wt ?_ | refine We ?_)
         exact retQ_ret rfl trivial (And.intro (rfl) (And.intro Wy (And.intro (fun h => by cases h) (out0_all Wo Wp))))
       replace h := iteO_f h h55
       subst hN; have hr := Option.some.inj h
       subst hr
       try dsimp only [noGoto, inBlockQ, thenQ]
       repeat (first | refine Wt ?_ | refine We ?_)
       exact retQ_ret rfl trivial (And.intro (rfl) (And.intro Wy (And.intro (fun h => by cases h) (out0_all Wo Wp))))
     refine Tr.block ?_
     refine Tr.loopO (α := Int × Int × Int × List ByteArray) (fun (na1, fieldStart1, i1, a1) t'3 => (WF 106 [(0, .v (.string s)), (9, .vec 41 (t'3.g 41) 1 0 n), (10, WV na1), (11, WV fieldStart1), (12, WV i1)] 106 [(41, .arr (t'3.g 41) 1 n (t'3.t 41) (fun ix jx => (.v (.string (nvS.get ByteArray.empty a1 ix)))))] t'3)) (fun (na1, fieldStart1, i1, a1) t => Hid.ok t ∧ lenL a1 = n) ⟨t'1_c + 10, gfn [(41, t'1_g 41)], tfn [(41, t'1_t 41)]⟩ h ?_ ?_ (fun x t'3 f ht'3 h => ?_)
     · exact (And.intro Wh Wf)
     · exact (Wg (Wk rfl (Wk rfl (Wk rfl (Wk rfl (Wk rfl trivial))))) (Wi rfl trivial))
     obtain ⟨na1, fieldStart1, i1, a1⟩ := x
     try dsimp only at h
     obtain ⟨ht'3, ht'3_f0⟩ := ht'3
     obtain ⟨t'3_c, t'3_g, t'3_t⟩ := t'3; obtain ⟨ht'3_c, ht'3_g⟩ : 0 < t'3_c ∧ ∀ k, t'3_g k < t'3_c := ht'3
     refine Wx [] [] [] 0 [] 1 fun N hN => ?_
     generalize hp : std Tryz.prog = p; generalize hv : nvS = nv; cbv; subst hp hv
     refine ⟨fun h92 => ?_, fun h92 => ?_⟩
     · replace h := iteO_t h h92
       subst hN; show Tr _ _ _ _
       refine Tr.block ?_
       refine Wx [] [] [] 0 [] 4 fun N hN => ?_
       generalize hp : std Tryz.prog = p; generalize hv : nvS = nv; cbv; subst hp hv
       replace h := chk_some h; obtain ⟨h93, h⟩ := h
       try (have h93z := h93; simp only [Int.zero_add] at h93z)
       replace h := chk_some h; obtain ⟨h94, h⟩ := h
       try (have h94z := h94; simp only [Int.zero_add] at h94z)
       refine ⟨h93, h94, ?_⟩
       refine ⟨fun h95 => ?_, fun h95 => ?_⟩
       · replace h := iteO_t h h95
         replace h := chk_some h; obtain ⟨h96, h⟩ := h
         refine ⟨h96, ?_⟩
         subst hN; cases h
         show ∃ t', _ ∧ GeSt _ _ _
         refine ⟨⟨t'3_c + 12, gfn [(41, t'3_g 41)], tfn [(41, t'3_t 41)]⟩, (And.intro Wh Wf), ?_⟩
         exact (Wg (Wk rfl (Wk rfl (Wk rfl (Wk rfl (Wk rfl trivial))))) (Wi rfl trivial))
       replace h := iteO_f h h95
       replace h := chk_some h; obtain ⟨h97, h⟩ := h
       try (have h97z := h97; simp only [Int.zero_add] at h97z)
       replace h := chk_some h; obtain ⟨h98, h⟩ := h
       try (have h98z := h98; simp only [Int.zero_add] at h98z)
       refine ⟨h97, h98, rfl, ?_⟩
       replace h := chk_some h; obtain ⟨h99, h⟩ := h
       refine ⟨h99, ?_⟩
       replace h := chk_some h; obtain ⟨h100, h⟩ := h
       refine ⟨h100, ?_⟩
       subst hN; show Tr _ _ _ _
       refine Tr.cutSeq (α := Int) h (fun i4 t'4 => (WF 106 [(0, .v (.string s)), (9, .vec 41 (t'4.g 41) 1 0 n), (10, .v (.int .i64 ((std Tryz.prog).add na1 1))), (12, WV i4)] 106 [(41, .arr (t'4.g 41) 1 n (t'4.t 41) (fun ix jx => (.v (.string (nvS.get ByteArray.empty (nvS.set a1 na1 ((std Tryz.prog).ssub s fieldStart1 i1)) ix)))))] t'4)) (fun _ t => Hid.ok t) (fun x t'4 ht'4 h => ?_) (fun f h => ?_)
       · revert h; revert ht'4; revert x; intro i4 ht'4 h
         obtain ⟨t'4_c, t'4_g, t'4_t⟩ := t'4; obtain ⟨ht'4_c, ht'4_g⟩ : 0 < t'4_c ∧ ∀ k, t'4_g k < t'4_c := ht'4
         refine Wc [] [] [] 0 [] fun N hN => ?_
         generalize hp : std Tryz.prog = p; generalize hv : nvS = nv; cbv; subst hp hv
         subst hN; cases h
         show ∃ t', _ ∧ GeSt _ _ _
         refine ⟨⟨t'4_c + 10, gfn [(41, t'4_g 41)], tfn [(41, t'4_t 41)]⟩, (And.intro Wh Wf), ?_⟩
         exact (Wg (Wk rfl (Wk rfl (Wk rfl (Wk rfl (Wk rfl trivial))))) (Wi rfl trivial))
       refine Tr.block ?_
       refine Tr.loopO (α := Int) (fun i5 t'5 => (WF 106 [(0, .v (.string s)), (9, .vec 41 (t'5.g 41) 1 0 n), (10, .v (.int .i64 ((std Tryz.prog).add na1 1))), (12, WV i5)] 106 [(41, .arr (t'5.g 41) 1 n (t'5.t 41) (fun ix jx => (.v (.string (nvS.get ByteArray.empty (nvS.set a1 na1 ((std Tryz.prog).ssub s fieldStart1 i1)) ix)))))] t'5)) (fun _ t => Hid.ok t) ⟨t'3_c + 14, gfn [(41, t'3_g 41)], tfn [(41, t'3_t 41)]⟩ h ?_ ?_ (fun x t'5 f ht'5 h => ?_)
       · exact Wh
       · exact (Wg (Wk rfl (Wk rfl (Wk rfl (Wk rfl trivial)))) (Wa rfl trivial))
       revert h; revert ht'5; revert x; intro i5 ht'5 h
       obtain ⟨t'5_c, t'5_g, t'5_t⟩ := t'5; obtain ⟨ht'5_c, ht'5_g⟩ : 0 < t'5_c ∧ ∀ k, t'5_g k < t'5_c := ht'5
       refine Wc [] [] [] 0 [] fun N hN => ?_
       generalize hp : std Tryz.prog = p; generalize hv : nvS = nv; cbv; subst hp hv
       replace h := chk_some h; obtain ⟨h117, h⟩ := h
       replace h := chk_some h; obtain ⟨h118, h⟩ := h
       refine ⟨(fun hg => hg), (fun hg => hg), h117, (fun hg => hg), h118, (fun hg => hg), (fun hg => hg), (fun hg => hg), ?_⟩
       refine ⟨fun h119 => ?_, fun h119 => ?_⟩
       · replace h := iteO_t h h119
         replace h := chk_some h; obtain ⟨h120, h⟩ := h
         refine ⟨h120, ?_⟩
         subst hN; cases h
         show ∃ t', _ ∧ GeSt _ _ _
         refine ⟨⟨t'5_c + 11, gfn [(41, t'5_g 41)], tfn [(41, t'5_t 41)]⟩, Wh, ?_⟩
         exact (Wg (Wk rfl (Wk rfl (Wk rfl (Wk rfl trivial)))) (Wi rfl trivial))
       replace h := iteO_f h h119
       subst hN; cases h
       intro he; cases he
       show ∃ t', _ ∧ GeSt _ _ _
       refine ⟨⟨t'5_c + 10, gfn [(41, t'5_g 41)], tfn [(41, t'5_t 41)]⟩, Wh, ?_⟩
       exact (Wg (Wk rfl (Wk rfl (Wk rfl (Wk rfl trivial)))) (Wi rfl trivial))
     replace h := iteO_f h h92
     subst hN; cases h
     intro he; cases he
     show ∃ t', _ ∧ GeSt _ _ _
     refine ⟨⟨t'3_c + 10, gfn [(41, t'3_g 41)], tfn [(41, t'3_t 41)]⟩, (And.intro Wh Wf), ?_⟩
     exact (Wg (Wk rfl (Wk rfl (Wk rfl (Wk rfl trivial)))) (Wi rfl trivial))
   refine Tr.block ?_
   refine Tr.loopO (α := Int) (fun i7 t'6 => (WF 106 [(0, .v (.string s)), (9, .vec 41 (t'6.g 41) 1 0 n), (10, WV 0), (12, WV i7)] 106 [(41, .arr (t'6.g 41) 1 n (t'6.t 41) (fun ix jx => (.v (.string (nvS.get ByteArray.empty (nvS.rep n ByteArray.empty) ix)))))] t'6)) (fun _ t => Hid.ok t) ⟨t'_c + 14, gfn [(41, t'_c + 1)], tfn [(41, ((std Tryz.prog).eq n n))]⟩ h ?_ ?_ (fun x t'6 f ht'6 h => ?_)
   · exact Wh
   · exact (Wg (Wk rfl (Wk rfl (Wk rfl (Wk rfl trivial)))) (Wa rfl trivial))
   revert h; revert ht'6; revert x; intro i7 ht'6 h
   obtain ⟨t'6_c, t'6_g, t'6_t⟩ := t'6; obtain ⟨ht'6_c, ht'6_g⟩ : 0 < t'6_c ∧ ∀ k, t'6_g k < t'6_c := ht'6
   refine Wc [] [] [] 0 [] fun N hN => ?_
   generalize hp : std Tryz.prog = p; generalize hv : nvS = nv; cbv; subst hp hv
   replace h := chk_some h; obtain ⟨h129, h⟩ := h
   replace h := chk_some h; obtain ⟨h130, h⟩ := h
   refine ⟨(fun hg => hg), (fun hg => hg), h129, (fun hg => hg), h130, (fun hg => hg), (fun hg => hg), (fun hg => hg), ?_⟩
   refine ⟨fun h131 => ?_, fun h131 => ?_⟩
   · replace h := iteO_t h h131
     replace h := chk_some h; obtain ⟨h132, h⟩ := h
     refine ⟨h132, ?_⟩
     subst hN; cases h
     show ∃ t', _ ∧ GeSt _ _ _
     refine ⟨⟨t'6_c + 11, gfn [(41, t'6_g 41)], tfn [(41, t'6_t 41)]⟩, Wh, ?_⟩
     exact (Wg (Wk rfl (Wk rfl (Wk rfl (Wk rfl trivial)))) (Wi rfl trivial))
   replace h := iteO_f h h131
   subst hN; cases h
   intro he; cases he
   show ∃ t', _ ∧ GeSt _ _ _
   refine ⟨⟨t'6_c + 10, gfn [(41, t'6_g 41)], tfn [(41, t'6_t 41)]⟩, Wh, ?_⟩
   exact (Wg (Wk rfl (Wk rfl (Wk rfl (Wk rfl trivial)))) (Wi rfl trivial))
 refine Wx [] [] [] 0 [] 1 fun N hN => ?_
 generalize hp : std Tryz.prog = p; generalize hv : nvS = nv; cbv; subst hp hv
 subst hN; show Tr _ _ _ _
 refine Tr.block ?_
 refine Tr.loopO (α := Int × Int × Int × Int) (fun (n1, wasSpace, setBits1, i9) t'7 => (WF 106 [(0, .v (.string s)), (3, WV n1), (4, WV wasSpace), (5, .v (.int .u8 setBits1)), (6, WV i9)] 106 [] t'7)) (fun _ t => Hid.ok t) ⟨ctr + 14, gfn [], tfn []⟩ h ?_ ?_ (fun x t'7 f ht'7 h => ?_)
 · exact Wh
 · exact (Wg (Wk rfl (Wk rfl (Wk rfl (Wk rfl (Wk rfl trivial))))) trivial)
 obtain ⟨n1, wasSpace, setBits1, i9⟩ := x
 try dsimp only at h
 obtain ⟨t'7_c, t'7_g, t'7_t⟩ := t'7; obtain ⟨ht'7_c, ht'7_g⟩ : 0 < t'7_c ∧ ∀ k, t'7_g k < t'7_c := ht'7
 refine Wc [] [] [] 0 [] fun N hN => ?_
 generalize hp : std Tryz.prog = p; generalize hv : nvS = nv; cbv; subst hp hv
 refine ⟨fun h143 => ?_, fun h143 => ?_⟩
 · replace h := iteO_t h h143
   replace h := chk_some h; obtain ⟨h144, h⟩ := h
   try (have h144z := h144; simp only [Int.zero_add] at h144z)
   refine ⟨h144, ?_⟩
   replace h := chk_some h; obtain ⟨h145, h⟩ := h
   try (have h145z := h145; simp only [Int.zero_add] at h145z)
   refine ⟨h145, ?_⟩
   replace h := chk_some h; obtain ⟨h146, h⟩ := h
   refine ⟨h146, ?_⟩
   replace h := chk_some h; obtain ⟨h147, h⟩ := h
   refine ⟨h147, ?_⟩
   subst hN; cases h
   show ∃ t', _ ∧ GeSt _ _ _
   refine ⟨⟨t'7_c + 16, gfn [], tfn []⟩, Wh, ?_⟩
   exact (Wg (Wk rfl (Wk rfl (Wk rfl (Wk rfl (Wk rfl trivial))))) trivial)
 replace h := iteO_f h h143
 subst hN; cases h
 intro he; cases he
 show ∃ t', _ ∧ GeSt _ _ _
 refine ⟨⟨t'7_c + 10, gfn [], tfn []⟩, Wh, ?_⟩
 exact (Wg (Wk rfl (Wk rfl (Wk rfl trivial))) trivial)
theorem ucd_className_ok (s : ByteArray) (r : Int) (h : ucd_className s = some r) : PureFn Tryz.prog 17 [(.v (.string s))] ((WV r)) := by
 unfold ucd_className at h
 refine fn_tr tt0_ok Tryz.func17 (by kernel_rfl) (c := bodyOf Tryz.f17) (by kernel_rfl) ?_
 intro ctr hc
 refine Wx [] [] [] 0 [] 1 fun N hN => ?_
 generalize hp : std Tryz.prog = p; generalize hv : nvS = nv; cbv; subst hp hv
 subst hN; show Tr _ _ _ _
 refine Tr.cutSeq (α := Unit) h (fun _ t' => (WF 18 [] 18 [] t')) (fun _ t => Hid.ok t) (fun x t' ht' h => ?_) (fun f h => ?_)
 · obtain ⟨t'_c, t'_g, t'_t⟩ := t'; obtain ⟨ht'_c, ht'_g⟩ : 0 < t'_c ∧ ∀ k, t'_g k < t'_c := ht'
   refine Wc [] [] [] 0 [] fun N hN => ?_
   generalize hp : std Tryz.prog = p; generalize hv : nvS = nv; cbv; subst hp hv
   subst hN; have hr := Option.some.inj h
   subst hr
   try dsimp only [noGoto, inBlockQ, thenQ]
   repeat (first | refine Wt ?_ | refine We ?_)
   exact retQ_ret rfl trivial rfl
 obtain ⟨v, h12⟩ : ∃ v, valO [] (strings_Fields kS0) = v := ⟨_, rfl⟩
 refine Wx [(39, 1)] [(5, .own 1 (nvS.len v) false (fun ix jx => (.v (.string (nvS.get ByteArray.empty v ix)))))] [] 0 [] 1 fun N hN => ?_
 generalize hp : std Tryz.prog = p; generalize hv : nvS = nv; cbv; subst hp hv
 replace h := bindO_val h12 h; clear h12; obtain ⟨h12, h⟩ := h
 refine ⟨(Or.inl (PureFn.arg (strings_Fields_ok kS0 v h12) (And.intro (LeD.refl _) trivial))), ?_⟩
 subst hN; show Tr _ _ _ _
 refine Tr.block ?_
 refine Tr.loopO (α := Int) (fun v1 t'1 => (WF 18 [(0, .v (.string s)), (5, .vec 5 (t'1.g 5) 1 0 (nvS.len v)), (6, .v (.int .i64 (nvS.len v))), (7, WV v1)] 18 [(5, .arr (t'1.g 5) 1 (nvS.len v) (t'1.t 5) (fun ix jx => (.v (.string (nvS.get ByteArray.empty v ix)))))] t'1)) (fun _ t => Hid.ok t) ⟨ctr + 11, gfn [(5, ctr + 1)], tfn [(5, false)]⟩ h ?_ ?_ (fun x t'1 f ht'1 h => ?_)
 · exact Wh
 · exact (Wg (Wk rfl (Wk rfl (Wk rfl (Wk rfl trivial)))) (Wi rfl trivial))
 revert h; revert ht'1; revert x; intro v1 ht'1 h
 obtain ⟨t'1_c, t'1_g, t'1_t⟩ := t'1; obtain ⟨ht'1_c, ht'1_g⟩ : 0 < t'1_c ∧ ∀ k, t'1_g k < t'1_c := ht'1
 refine Wc [] [] [] 0 [] fun N hN => ?_
 generalize hp : std Tryz.prog = p; generalize hv : nvS = nv; cbv; subst hp hv
 refine ⟨fun h23 => ?_, fun h23 => ?_⟩
 · replace h := iteO_t h h23
   replace h := chk_some h; obtain ⟨h24, h⟩ := h
   try (have h24z := h24; simp only [Int.zero_add] at h24z)
   refine ⟨h24, rfl, ?_⟩
   refine ⟨fun h25 => ?_, fun h25 => ?_⟩
   · replace h := iteO_t h h25
     replace h := chk_some h; obtain ⟨h26, h⟩ := h
     refine ⟨h26, ?_⟩
     subst hN; cases h
     intro he; cases he
     intro hr
     subst hr
     try dsimp only [noGoto, inBlockQ, thenQ]
     repeat (first | refine Wt ?_ | refine We ?_)
     exact retQ_ret rfl trivial rfl
   replace h := iteO_f h h25
   replace h := chk_some h; obtain ⟨h27, h⟩ := h
   refine ⟨h27, ?_⟩
   subst hN; cases h
   show ∃ t', _ ∧ GeSt _ _ _
   refine ⟨⟨t'1_c + 13, gfn [(5, t'1_g 5)], tfn [(5, t'1_t 5)]⟩, Wh, ?_⟩
   exact (Wg (Wk rfl (Wk rfl (Wk rfl (Wk rfl trivial)))) (Wi rfl trivial))
 replace h := iteO_f h h23
 subst hN; cases h
 intro he; cases he
 show ∃ t', _ ∧ GeSt _ _ _
 refine ⟨⟨t'1_c + 10, gfn [], tfn []⟩, Wh, ?_⟩
 exact (Wg trivial trivial)
theorem ucd_wideName_ok (s : ByteArray) (r : Int) (h : ucd_wideName s = some r) : PureFn Tryz.prog 18 [(.v (.string s))] ((WV r)) := by
 unfold ucd_wideName at h
 refine fn_tr tt0_ok Tryz.func18 (by kernel_rfl) (c := bodyOf Tryz.f18) (by kernel_rfl) ?_
 intro ctr hc
 obtain ⟨v, h1⟩ : ∃ v, valO 0 (ucd_hex s) = v := ⟨_, rfl⟩
 refine Wc [] [(4, .plain (WV v))] [] 0 [] fun N hN => ?_
 generalize hp : std Tryz.prog = p; generalize hv : nvS = nv; cbv; subst hp hv
 replace h := bindO_val h1 h; clear h1; obtain ⟨h1, h⟩ := h
 replace h := chk_some h; obtain ⟨h2, h⟩ := h
 refine ⟨(Or.inl (PureFn.arg (ucd_hex_ok s v h1) (And.intro (LeD.refl _) trivial))), h2, ?_⟩
 subst hN; have hr := Option.some.inj h
 subst hr
 try dsimp only [noGoto, inBlockQ, thenQ]
 repeat (first | refine Wt ?_ | refine We ?_)
 exact retQ_ret rfl trivial rfl
theorem ucd_joinName_ok (s : ByteArray) (r : Int) (h : ucd_joinName s = some r) : PureFn Tryz.prog 19 [(.v (.string s))] ((WV r)) := by
 unfold ucd_joinName at h
 refine fn_tr tt0_ok Tryz.func19 (by kernel_rfl) (c := bodyOf Tryz.f19) (by kernel_rfl) ?_
 intro ctr hc
 refine Wc [] [] [] 0 [] fun N hN => ?_
 generalize hp : std Tryz.prog = p; generalize hv : nvS = nv; cbv; subst hp hv
 refine ⟨fun h1 => ?_, fun h1 => ?_⟩
 · replace h := iteO_t h h1
   subst hN; have hr := Option.some.inj h
   subst hr
   try dsimp only [noGoto, inBlockQ, thenQ]
   repeat (first | refine Wt ?_ | refine We ?_)
   exact retQ_ret rfl trivial rfl
 replace h := iteO_f h h1
 refine ⟨fun h2 => ?_, fun h2 => ?_⟩
 · replace h := iteO_t h h2
   subst hN; have hr := Option.some.inj h
   subst hr
   try dsimp only [noGoto, inBlockQ, thenQ]
   repeat (first | refine Wt ?_ | refine We ?_)
   exact retQ_ret rfl trivial rfl
 replace h := iteO_f h h2
 refine ⟨fun h3 => ?_, fun h3 => ?_⟩
 · replace h := iteO_t h h3
   subst hN; have hr := Option.some.inj h
   subst hr
   try dsimp only [noGoto, inBlockQ, thenQ]
   repeat (first | refine Wt ?_ | refine We ?_)
   exact retQ_ret rfl trivial rfl
 replace h := iteO_f h h3
 refine ⟨fun h4 => ?_, fun h4 => ?_⟩
 · replace h := iteO_t h h4
   subst hN; have hr := Option.some.inj h
   subst hr
   try dsimp only [noGoto, inBlockQ, thenQ]
   repeat (first | refine Wt ?_ | refine We ?_)
   exact retQ_ret rfl trivial rfl
 replace h := iteO_f h h4
 subst hN; have hr := Option.some.inj h
 subst hr
 try dsimp only [noGoto, inBlockQ, thenQ]
 repeat (first | refine Wt ?_ | refine We ?_)
 exact retQ_ret rfl trivial rfl
theorem ucd_table_class_ok (text : ByteArray) (r : T_ranges_Table) (h : ucd_table_class text = some r) : PureFn Tryz.prog 16 [(.v (.string text)), .fn (.func 17) 0 (fun _ => .junk)] ((.agg 1 (fun j => (D_ranges_Table nvS r j)))) := by
 unfold ucd_table_class at h
 refine fn_tr tt0_ok Tryz.func16 (by kernel_rfl) (c := bodyOf Tryz.f16) (by kernel_rfl) ?_
 intro ctr hc
 refine Wx [] [] [] 0 [] 2 fun N hN => ?_
 generalize hp : std Tryz.prog = p; generalize hv : nvS = nv; cbv; subst hp hv
 subst hN; show Tr _ _ _ _
 refine Tr.cutSeq (α := List T_ranges_Row) h (fun o t' => (WF 58 [(4, .bref 4 (t'.g 4) 0), (5, .bref 5 (t'.g 5) 0)] 58 [(4, .box (t'.g 4) [.nilsl]), (5, .box (t'.g 5) [.vec 54 (t'.g 54) 3 0 (nvS.len o)]), (54, .arr (t'.g 54) 3 (nvS.len o) (t'.t 54) (fun ix jx => (D_ranges_Row nvS (nvS.get d_ranges_Row o ix) jx)))] t')) (fun _ t => Hid.ok t) (fun x t' ht' h => ?_) (fun f h => ?_)
 · revert h; revert ht'; revert x; intro o ht' h
   obtain ⟨t'_c, t'_g, t'_t⟩ := t'; obtain ⟨ht'_c, ht'_g⟩ : 0 < t'_c ∧ ∀ k, t'_g k < t'_c := ht'
   refine Wc [] [] [] 0 [] fun N hN => ?_
   generalize hp : std Tryz.prog = p; generalize hv : nvS = nv; cbv; subst hp hv
   refine ⟨rfl, rfl, ?_⟩
   subst hN; have hr := Option.some.inj h
   subst hr
   try dsimp only [noGoto, inBlockQ, thenQ]
   repeat (first | refine Wt ?_ | refine We ?_)
   refine retQ_ret rfl ?_ ?_
   · exact (And.intro (rfl) trivial)
   exact (fun i _ _ j hj => by
    have hj2 : j < 1 := hj
    rcases (show j = 0 by omega) with rfl
    · exact (And.intro (rfl) (And.intro Wy (And.intro (fun h => by cases h) (out0_all Wo Wp)))))
 obtain ⟨v, h30⟩ : ∃ v, valO [] (strings_Split text (⟨#[44]⟩ : ByteArray)) = v := ⟨_, rfl⟩
 refine Wx [(36, 1)] [(11, .own 1 (nvS.len v) false (fun ix jx => (.v (.string (nvS.get ByteArray.empty v ix)))))] [] 0 [] 1 fun N hN => ?_
 generalize hp : std Tryz.prog = p; generalize hv : nvS = nv; cbv; subst hp hv
 replace h := bindO_val h30 h; clear h30; obtain ⟨h30, h⟩ := h
 refine ⟨(Or.inl (PureFn.arg (strings_Split_ok text (⟨#[44]⟩ : ByteArray) v h30) (And.intro (LeD.refl _) (And.intro (LeD.refl _) trivial)))), ?_⟩
 subst hN; show Tr _ _ _ _
 refine Tr.block ?_
 refine Tr.loopO (α := Int × List T_ranges_Row) (fun (v1, o1) t'1 => (WF 58 [(1, .fn (.func 17) 0 (fun _ => .junk)), (4, .bref 4 (t'1.g 4) 0), (5, .bref 5 (t'1.g 5) 0), (11, .vec 11 (t'1.g 11) 1 0 (nvS.len v)), (12, .v (.int .i64 (nvS.len v))), (13, WV v1)] 58 [(4, .box (t'1.g 4) [.nilsl]), (5, .box (t'1.g 5) [.vec 54 (t'1.g 54) 3 0 (nvS.len o1)]), (11, .arr (t'1.g 11) 1 (nvS.len v) (t'1.t 11) (fun ix jx => (.v (.string (nvS.get ByteArray.empty v ix))))), (54, .arr (t'1.g 54) 3 (nvS.len o1) (t'1.t 54) (fun ix jx => (D_ranges_Row nvS (nvS.get d_ranges_Row o1 ix) jx)))] t'1)) (fun _ t => Hid.ok t) ⟨ctr + 13, gfn [(4, ctr + 0), (5, ctr + 1), (11, ctr + 2), (54, ctr + 3)], tfn [(4, false), (5, false), (11, false), (54, false)]⟩ h ?_ ?_ (fun x t'1 f ht'1 h => ?_)
 · exact Wh
 · refine GeSt.by [.thaw (.cell 5 0) 54 3] rfl ?_ ?_
   · exact trivial
   exact LeSt.frame (show ctr + 4 < ctr + 13 by omega) rfl rfl (Wk rfl (Wk rfl (Wk rfl (Wk rfl (Wk rfl (Wk rfl trivial)))))) (Wi rfl (Wi rfl (Wi rfl (Wj rfl (LeOb.arr' rfl (fun i i0 i1 j hj => by exfalso; revert i1; show i < (0 : Int) → False; omega)) trivial))))
 obtain ⟨v1, o1⟩ := x
 try dsimp only at h
 obtain ⟨t'1_c, t'1_g, t'1_t⟩ := t'1; obtain ⟨ht'1_c, ht'1_g⟩ : 0 < t'1_c ∧ ∀ k, t'1_g k < t'1_c := ht'1
 refine Wx [] [] [] 0 [] 2 fun N hN => ?_
 generalize hp : std Tryz.prog = p; generalize hv : nvS = nv; cbv; subst hp hv
 refine ⟨fun h59 => ?_, fun h59 => ?_⟩
 · replace h := iteO_t h h59
   subst hN; show Tr _ _ _ _
   refine Tr.cutSeq (α := List T_ranges_Row) h (fun o2 t'2 => (WF 58 [(1, .fn (.func 17) 0 (fun _ => .junk)), (4, .bref 4 (t'2.g 4) 0), (5, .bref 5 (t'2.g 5) 0), (11, .vec 11 (t'2.g 11) 1 0 (nvS.len v)), (12, .v (.int .i64 (nvS.len v))), (13, WV v1)] 58 [(4, .box (t'2.g 4) [.nilsl]), (5, .box (t'2.g 5) [.vec 54 (t'2.g 54) 3 0 ((std Tryz.prog).add (nvS.len o1) 1)]), (11, .arr (t'2.g 11) 1 (nvS.len v) (t'2.t 11) (fun ix jx => (.v (.string (nvS.get ByteArray.empty v ix))))), (54, .arr (t'2.g 54) 3 ((std Tryz.prog).add (nvS.len o1) 1) (t'2.t 54) (fun ix jx => (D_ranges_Row nvS (nvS.get d_ranges_Row o2 ix) jx)))] t'2)) (fun o2 t => Hid.ok t ∧ lenL o2 = ((lenL o1) + 1)) (fun x t'2 ht'2 h => ?_) (fun f h => ?_)
   · revert h; revert ht'2; revert x; intro o2 ht'2 h
     obtain ⟨ht'2, ht'2_f0⟩ := ht'2
     obtain ⟨t'2_c, t'2_g, t'2_t⟩ := t'2; obtain ⟨ht'2_c, ht'2_g⟩ : 0 < t'2_c ∧ ∀ k, t'2_g k < t'2_c := ht'2
     refine Wc [] [] [] 0 [] fun N hN => ?_
     generalize hp : std Tryz.prog = p; generalize hv : nvS = nv; cbv; subst hp hv
     replace h := chk_some h; obtain ⟨h72, h⟩ := h
     refine ⟨h72, ?_⟩
     subst hN; cases h
     show ∃ t', _ ∧ GeSt _ _ _
     refine ⟨⟨t'2_c + 10, gfn [(4, t'2_g 4), (5, t'2_g 5), (11, t'2_g 11), (54, t'2_g 54)], tfn [(4, false), (5, false), (11, t'2_t 11), (54, t'2_t 54)]⟩, Wh, ?_⟩
     exact (Wg (Wk rfl (Wk rfl (Wk rfl (Wk rfl (Wk rfl (Wk rfl trivial)))))) (Wi rfl (Wj rfl (LeOb.box (Wd (LeD.vec rfl Wy) trivial)) (Wi rfl (Wa rfl trivial)))))
   refine Tr.block ?_
   obtain ⟨v2, h74⟩ : ∃ v2, valO [] (ucd_words (getL ByteArray.empty v (0 + v1))) = v2 := ⟨_, rfl⟩
   refine Wx [(37, 1)] [(18, .own 1 (nvS.len v2) false (fun ix jx => (.v (.string (nvS.get ByteArray.empty v2 ix)))))] [] 0 [] 3 fun N hN => ?_
   generalize hp : std Tryz.prog = p; generalize hv : nvS = nv; cbv; subst hp hv
   replace h := chk_some h; obtain ⟨h73, h⟩ := h
   try (have h73z := h73; simp only [Int.zero_add] at h73z)
   refine ⟨h73, rfl, ?_⟩
   replace h := bindO_val h74 h; clear h74; obtain ⟨h74, h⟩ := h
   refine ⟨(Or.inl (PureFn.arg (ucd_words_ok (getL ByteArray.empty v (0 + v1)) v2 h74) (And.intro (LeD.refl _) trivial))), ?_⟩
   subst hN; show Tr _ _ _ _
   refine Tr.cutSeq (α := Int × Int × Int) h (fun (b9_0, b9_1, b9_2) t'3 => (WF 58 [(1, .fn (.func 17) 0 (fun _ => .junk)), (4, .bref 4 (t'3.g 4) 0), (5, .bref 5 (t'3.g 5) 0), (9, .bref 9 (t'3.g 9) 0), (11, .vec 11 (t'3.g 11) 1 0 (nvS.len v)), (12, .v (.int .i64 (nvS.len v))), (13, WV v1)] 58 [(4, .box (t'3.g 4) [.nilsl]), (5, .box (t'3.g 5) [.vec 54 (t'3.g 54) 3 0 (nvS.len o1)]), (9, .box (t'3.g 9) [WV b9_0, WV b9_1, WV b9_2]), (11, .arr (t'3.g 11) 1 (nvS.len v) (t'3.t 11) (fun ix jx => (.v (.string (nvS.get ByteArray.empty v ix))))), (54, .arr (t'3.g 54) 3 (nvS.len o1) (t'3.t 54) (fun ix jx => (D_ranges_Row nvS (nvS.get d_ranges_Row o1 ix) jx)))] t'3)) (fun _ t => Hid.ok t) (fun x t'3 ht'3 h => ?_) (fun f h => ?_)
   · obtain ⟨b9_0, b9_1, b9_2⟩ := x
     try dsimp only at h
     obtain ⟨t'3_c, t'3_g, t'3_t⟩ := t'3; obtain ⟨ht'3_c, ht'3_g⟩ : 0 < t'3_c ∧ ∀ k, t'3_g k < t'3_c := ht'3
     refine Wc [] [] [53] 0 [] fun N hN => ?_
     generalize hp : std Tryz.prog = p; generalize hv : nvS = nv; cbv; subst hp hv
     refine ⟨rfl, rfl, rfl, ?_⟩
     replace h := chk_some h; obtain ⟨h84, h⟩ := h
     refine ⟨rfl, rfl, rfl, (by have := ht'3_g 54; show (_ : Nat) < _; (try dsimp only [std_eq, stdN]); omega), h84, rfl, ?_⟩
     subst hN; cases h
     show ∃ t', _ ∧ GeSt _ _ _
     refine ⟨⟨t'3_c + 11, gfn [(4, t'3_g 4), (5, t'3_g 5), (11, t'3_g 11), (54, t'3_c + 1)], tfn [(4, false), (5, false), (11, t'3_t 11), (54, false)]⟩, (And.intro Wh Wf), ?_⟩
     exact (Wg (Wk rfl (Wk rfl (Wk rfl (Wk rfl (Wk rfl (Wk rfl trivial)))))) (Wi rfl (Wi rfl (Wi rfl (Wa rfl trivial)))))
   refine Wx [] [] [] 0 [] 1 fun N hN => ?_
   generalize hp : std Tryz.prog = p; generalize hv : nvS = nv; cbv; subst hp hv
   subst hN; show Tr _ _ _ _
   refine Tr.block ?_
   refine Tr.cutSeq (α := Int) h (fun b9_11 t'4 => (WF 58 [(1, .fn (.func 17) 0 (fun _ => .junk)), (4, .bref 4 (t'4.g 4) 0), (5, .bref 5 (t'4.g 5) 0), (8, .vec 18 (t'4.g 18) 1 0 (nvS.len v2)), (9, .bref 9 (t'4.g 9) 0), (11, .vec 11 (t'4.g 11) 1 0 (nvS.len v)), (12, .v (.int .i64 (nvS.len v))), (13, WV v1)] 58 [(4, .box (t'4.g 4) [.nilsl]), (5, .box (t'4.g 5) [.vec 54 (t'4.g 54) 3 0 (nvS.len o1)]), (9, .box (t'4.g 9) [WV 0, WV b9_11, WV 0]), (11, .arr (t'4.g 11) 1 (nvS.len v) (t'4.t 11) (fun ix jx => (.v (.string (nvS.get ByteArray.empty v ix))))), (18, .arr (t'4.g 18) 1 (nvS.len v2) (t'4.t 18) (fun ix jx => (.v (.string (nvS.get ByteArray.empty v2 ix))))), (54, .arr (t'4.g 54) 3 (nvS.len o1) (t'4.t 54) (fun ix jx => (D_ranges_Row nvS (nvS.get d_ranges_Row o1 ix) jx)))] t'4)) (fun _ t => Hid.ok t) (fun x t'4 ht'4 h => ?_) (fun f h => ?_)
   · revert h; revert ht'4; revert x; intro b9_11 ht'4 h
     obtain ⟨t'4_c, t'4_g, t'4_t⟩ := t'4; obtain ⟨ht'4_c, ht'4_g⟩ : 0 < t'4_c ∧ ∀ k, t'4_g k < t'4_c := ht'4
     obtain ⟨v3, h90⟩ : ∃ v3, valO 0 (ucd_hex (getL ByteArray.empty v2 (0 + 0))) = v3 := ⟨_, rfl⟩
     obtain ⟨v4, h93⟩ : ∃ v4, valO 0 (ucd_className (getL ByteArray.empty v2 (0 + ((lenL v2) - 1)))) = v4 := ⟨_, rfl⟩
     refine Wc [] [(33, .plain (WV v3)), (41, .plain (WV v4))] [] 0 [] fun N hN => ?_
     generalize hp : std Tryz.prog = p; generalize hv : nvS = nv; cbv; subst hp hv
     replace h := chk_some h; obtain ⟨h89, h⟩ := h
     replace h := bindO_val h90 h; clear h90; obtain ⟨h90, h⟩ := h
     replace h := chk_some h; obtain ⟨h91, h⟩ := h
     replace h := chk_some h; obtain ⟨h92, h⟩ := h
     try (have h92z := h92; simp only [Int.zero_add] at h92z)
     replace h := bindO_val h93 h; clear h93; obtain ⟨h93, h⟩ := h
     refine ⟨h89, rfl, (Or.inl (PureFn.arg (ucd_hex_ok (getL ByteArray.empty v2 (0 + 0)) v3 h90) (And.intro (LeD.refl _) trivial))), h91, h92, rfl, (Or.inl (PureFn.arg (ucd_className_ok (getL ByteArray.empty v2 (0 + ((lenL v2) - 1))) v4 h93) (And.intro (LeD.refl _) trivial))), rfl, rfl, (show drOk _ _ = true by kernel_rfl), ?_⟩
     subst hN; cases h
     show ∃ t', _ ∧ GeSt _ _ _
     refine ⟨⟨t'4_c + 10, gfn [(4, t'4_g 4), (5, t'4_g 5), (9, t'4_g 9), (11, t'4_g 11), (54, t'4_g 54)], tfn [(4, false), (5, false), (9, false), (11, t'4_t 11), (54, t'4_t 54)]⟩, Wh, ?_⟩
     exact (Wg (Wk rfl (Wk rfl (Wk rfl (Wk rfl (Wk rfl (Wk rfl (Wk rfl trivial))))))) (Wi rfl (Wi rfl (Wi rfl (Wi rfl (Wi rfl trivial))))))
   obtain ⟨v5, h96⟩ : ∃ v5, valO 0 (ucd_hex (getL ByteArray.empty v2 (0 + 1))) = v5 := ⟨_, rfl⟩
   refine Wc [] [(28, .plain (WV v5))] [] 0 [] fun N hN => ?_
   generalize hp : std Tryz.prog = p; generalize hv : nvS = nv; cbv; subst hp hv
   refine ⟨fun h94 => ?_, fun h94 => ?_⟩
   · replace h := iteO_t h h94
     replace h := chk_some h; obtain ⟨h95, h⟩ := h
     replace h := bindO_val h96 h; clear h96; obtain ⟨h96, h⟩ := h
     refine ⟨h95, rfl, (Or.inl (PureFn.arg (ucd_hex_ok (getL ByteArray.empty v2 (0 + 1)) v5 h96) (And.intro (LeD.refl _) trivial))), rfl, ?_⟩
     subst hN; cases h
     show ∃ t', _ ∧ GeSt _ _ _
     refine ⟨⟨t'1_c + 16, gfn [(4, t'1_g 4), (5, t'1_g 5), (9, t'1_c + 3), (11, t'1_g 11), (18, t'1_c + 2), (54, t'1_g 54)], tfn [(4, false), (5, false), (9, false), (11, t'1_t 11), (18, false), (54, t'1_t 54)]⟩, Wh, ?_⟩
     exact (Wg (Wk rfl (Wk rfl (Wk rfl (Wk rfl (Wk rfl (Wk rfl (Wk rfl (Wk rfl trivial)))))))) (Wi rfl (Wi rfl (Wi rfl (Wi rfl (Wi rfl (Wi rfl trivial)))))))
   replace h := iteO_f h h94
   refine ⟨fun h97 => ?_, fun h97 => ?_⟩
   · replace h := iteO_t h h97
     subst hN; cases h
     show ∃ t', _ ∧ GeSt _ _ _
     refine ⟨⟨t'1_c + 16, gfn [(4, t'1_g 4), (5, t'1_g 5), (9, t'1_c + 3), (11, t'1_g 11), (18, t'1_c + 2), (54, t'1_g 54)], tfn [(4, false), (5, false), (9, false), (11, t'1_t 11), (18, false), (54, t'1_t 54)]⟩, Wh, ?_⟩
     exact (Wg (Wk rfl (Wk rfl (Wk rfl (Wk rfl (Wk rfl (Wk rfl (Wk rfl (Wk rfl trivial)))))))) (Wi rfl (Wi rfl (Wi rfl (Wi rfl (Wi rfl (Wi rfl trivial)))))))
   replace h := iteO_f h h97
   subst hN; cases h
   intro he; cases he
   show ∃ t', _ ∧ GeSt _ _ _
   refine ⟨⟨t'1_c + 16, gfn [(4, t'1_g 4), (5, t'1_g 5), (9, t'1_c + 3), (11, t'1_g 11), (54, t'1_g 54)], tfn [(4, false), (5, false), (9, false), (11, t'1_t 11), (54, t'1_t 54)]⟩, Wh, ?_⟩
   exact (Wg (Wk rfl (Wk rfl (Wk rfl (Wk rfl (Wk rfl (Wk rfl (Wk rfl trivial))))))) (Wi rfl (Wi rfl (Wi rfl (Wi rfl (Wi rfl trivial))))))
 replace h := iteO_f h h59
 subst hN; cases h
 intro he; cases he
 show ∃ t', _ ∧ GeSt _ _ _
 refine ⟨⟨t'1_c + 10, gfn [(4, t'1_g 4), (5, t'1_g 5), (54, t'1_g 54)], tfn [(4, false), (5, false), (54, t'1_t 54)]⟩, Wh, ?_⟩
 exact (Wg (Wk rfl (Wk rfl trivial)) (Wi rfl (Wj rfl (LeOb.box (Wd (LeD.vec rfl Wy) trivial)) (Wa rfl trivial))))
theorem ucd_table_wide_ok (text : ByteArray) (r : T_ranges_Table) (h : ucd_table_wide text = some r) : PureFn Tryz.prog 16 [(.v (.string text)), .fn (.func 18) 0 (fun _ => .junk)] ((.agg 1 (fun j => (D_ranges_Table nvS r j)))) := by
 unfold ucd_table_wide at h
 refine fn_tr tt0_ok Tryz.func16 (by kernel_rfl) (c := bodyOf Tryz.f16) (by kernel_rfl) ?_
 intro ctr hc
 refine Wx [] [] [] 0 [] 2 fun N hN => ?_
 generalize hp : std Tryz.prog = p; generalize hv : nvS = nv; cbv; subst hp hv
 subst hN; show Tr _ _ _ _
 refine Tr.cutSeq (α := List T_ranges_Row) h (fun o t' => (WF 58 [(4, .bref 4 (t'.g 4) 0), (5, .bref 5 (t'.g 5) 0)] 58 [(4, .box (t'.g 4) [.nilsl]), (5, .box (t'.g 5) [.vec 54 (t'.g 54) 3 0 (nvS.len o)]), (54, .arr (t'.g 54) 3 (nvS.len o) (t'.t 54) (fun ix jx => (D_ranges_Row nvS (nvS.get d_ranges_Row o ix) jx)))] t')) (fun _ t => Hid.ok t) (fun x t' ht' h => ?_) (fun f h => ?_)
 · revert h; revert ht'; revert x; intro o ht' h
   obtain ⟨t'_c, t'_g, t'_t⟩ := t'; obtain ⟨ht'_c, ht'_g⟩ : 0 < t'_c ∧ ∀ k, t'_g k < t'_c := ht'
   refine Wc [] [] [] 0 [] fun N hN => ?_
   generalize hp : std Tryz.prog = p; generalize hv : nvS = nv; cbv; subst hp hv
   refine ⟨rfl, rfl, ?_⟩
   subst hN; have hr := Option.some.inj h
   subst hr
   try dsimp only [noGoto, inBlockQ, thenQ]
   repeat (first | refine Wt ?_ | refine We ?_)
   refine retQ_ret rfl ?_ ?_
   · exact (And.intro (rfl) trivial)
   exact (fun i _ _ j hj => by
    have hj2 : j < 1 := hj
    rcases (show j = 0 by omega) with rfl
    · exact (And.intro (rfl) (And.intro Wy (And.intro (fun h => by cases h) (out0_all Wo Wp)))))
 obtain ⟨v, h30⟩ : ∃ v, valO [] (strings_Split text (⟨#[44]⟩ : ByteArray)) = v := ⟨_, rfl⟩
 refine Wx [(36, 1)] [(11, .own 1 (nvS.len v) false (fun ix jx => (.v (.string (nvS.get ByteArray.empty v ix)))))] [] 0 [] 1 fun N hN => ?_
 generalize hp : std Tryz.prog = p; generalize hv : nvS = nv; cbv; subst hp hv
 replace h := bindO_val h30 h; clear h30; obtain ⟨h30, h⟩ := h
 refine ⟨(Or.inl (PureFn.arg (strings_Split_ok text (⟨#[44]⟩ : ByteArray) v h30) (And.intro (LeD.refl _) (And.intro (LeD.refl _) trivial)))), ?_⟩
 subst hN; show Tr _ _ _ _
 refine Tr.block ?_
 refine Tr.loopO (α := Int × List T_ranges_Row) (fun (v1, o1) t'1 => (WF 58 [(1, .fn (.func 18) 0 (fun _ => .junk)), (4, .bref 4 (t'1.g 4) 0), (5, .bref 5 (t'1.g 5) 0), (11, .vec 11 (t'1.g 11) 1 0 (nvS.len v)), (12, .v (.int .i64 (nvS.len v))), (13, WV v1)] 58 [(4, .box (t'1.g 4) [.nilsl]), (5, .box (t'1.g 5) [.vec 54 (t'1.g 54) 3 0 (nvS.len o1)]), (11, .arr (t'1.g 11) 1 (nvS.len v) (t'1.t 11) (fun ix jx => (.v (.string (nvS.get ByteArray.empty v ix))))), (54, .arr (t'1.g 54) 3 (nvS.len o1) (t'1.t 54) (fun ix jx => (D_ranges_Row nvS (nvS.get d_ranges_Row o1 ix) jx)))] t'1)) (fun _ t => Hid.ok t) ⟨ctr + 13, gfn [(4, ctr + 0), (5, ctr + 1), (11, ctr + 2), (54, ctr + 3)], tfn [(4, false), (5, false), (11, false), (54, false)]⟩ h ?_ ?_ (fun x t'1 f ht'1 h => ?_)
 · exact Wh
 · refine GeSt.by [.thaw (.cell 5 0) 54 3] rfl ?_ ?_
   · exact trivial
   exact LeSt.frame (show ctr + 4 < ctr + 13 by omega) rfl rfl (Wk rfl (Wk rfl (Wk rfl (Wk rfl (Wk rfl (Wk rfl trivial)))))) (Wi rfl (Wi rfl (Wi rfl (Wj rfl (LeOb.arr' rfl (fun i i0 i1 j hj => by exfalso; revert i1; show i < (0 : Int) → False; omega)) trivial))))
 obtain ⟨v1, o1⟩ := x
 try dsimp only at h
 obtain ⟨t'1_c, t'1_g, t'1_t⟩ := t'1; obtain ⟨ht'1_c, ht'1_g⟩ : 0 < t'1_c ∧ ∀ k, t'1_g k < t'1_c := ht'1
 refine Wx [] [] [] 0 [] 2 fun N hN => ?_
 generalize hp : std Tryz.prog = p; generalize hv : nvS = nv; cbv; subst hp hv
 refine ⟨fun h59 => ?_, fun h59 => ?_⟩
 · replace h := iteO_t h h59
   subst hN; show Tr _ _ _ _
   refine Tr.cutSeq (α := List T_ranges_Row) h (fun o2 t'2 => (WF 58 [(1, .fn (.func 18) 0 (fun _ => .junk)), (4, .bref 4 (t'2.g 4) 0), (5, .bref 5 (t'2.g 5) 0), (11, .vec 11 (t'2.g 11) 1 0 (nvS.len v)), (12, .v (.int .i64 (nvS.len v))), (13, WV v1)] 58 [(4, .box (t'2.g 4) [.nilsl]), (5, .box (t'2.g 5) [.vec 54 (t'2.g 54) 3 0 ((std Tryz.prog).add (nvS.len o1) 1)]), (11, .arr (t'2.g 11) 1 (nvS.len v) (t'2.t 11) (fun ix jx => (.v (.string (nvS.get ByteArray.empty v ix))))), (54, .arr (t'2.g 54) 3 ((std Tryz.prog).add (nvS.len o1) 1) (t'2.t 54) (fun ix jx => (D_ranges_Row nvS (nvS.get d_ranges_Row o2 ix) jx)))] t'2)) (fun o2 t => Hid.ok t ∧ lenL o2 = ((lenL o1) + 1)) (fun x t'2 ht'2 h => ?_) (fun f h => ?_)
   · revert h; revert ht'2; revert x; intro o2 ht'2 h
     obtain ⟨ht'2, ht'2_f0⟩ := ht'2
     obtain ⟨t'2_c, t'2_g, t'2_t⟩ := t'2; obtain ⟨ht'2_c, ht'2_g⟩ : 0 < t'2_c ∧ ∀ k, t'2_g k < t'2_c := ht'2
     refine Wc [] [] [] 0 [] fun N hN => ?_
     generalize hp : std Tryz.prog = p; generalize hv : nvS = nv; cbv; subst hp hv
     replace h := chk_some h; obtain ⟨h72, h⟩ := h
     refine ⟨h72, ?_⟩
     subst hN; cases h
     show ∃ t', _ ∧ GeSt _ _ _
     refine ⟨⟨t'2_c + 10, gfn [(4, t'2_g 4), (5, t'2_g 5), (11, t'2_g 11), (54, t'2_g 54)], tfn [(4, false), (5, false), (11, t'2_t 11), (54, t'2_t 54)]⟩, Wh, ?_⟩
     exact (Wg (Wk rfl (Wk rfl (Wk rfl (Wk rfl (Wk rfl (Wk rfl trivial)))))) (Wi rfl (Wj rfl (LeOb.box (Wd (LeD.vec rfl Wy) trivial)) (Wi rfl (Wa rfl trivial)))))
   refine Tr.block ?_
   obtain ⟨v2, h74⟩ : ∃ v2, valO [] (ucd_words (getL ByteArray.empty v (0 + v1))) = v2 := ⟨_, rfl⟩
   refine Wx [(37, 1)] [(18, .own 1 (nvS.len v2) false (fun ix jx => (.v (.string (nvS.get ByteArray.empty v2 ix)))))] [] 0 [] 3 fun N hN => ?_
   generalize hp : std Tryz.prog = p; generalize hv : nvS = nv; cbv; subst hp hv
   replace h := chk_some h; obtain ⟨h73, h⟩ := h
   try (have h73z := h73; simp only [Int.zero_add] at h73z)
   refine ⟨h73, rfl, ?_⟩
   replace h := bindO_val h74 h; clear h74; obtain ⟨h74, h⟩ := h
   refine ⟨(Or.inl (PureFn.arg (ucd_words_ok (getL ByteArray.empty v (0 + v1)) v2 h74) (And.intro (LeD.refl _) trivial))), ?_⟩
   subst hN; show Tr _ _ _ _
   refine Tr.cutSeq (α := Int × Int × Int) h (fun (b9_0, b9_1, b9_2) t'3 => (WF 58 [(1, .fn (.func 18) 0 (fun _ => .junk)), (4, .bref 4 (t'3.g 4) 0), (5, .bref 5 (t'3.g 5) 0), (9, .bref 9 (t'3.g 9) 0), (11, .vec 11 (t'3.g 11) 1 0 (nvS.len v)), (12, .v (.int .i64 (nvS.len v))), (13, WV v1)] 58 [(4, .box (t'3.g 4) [.nilsl]), (5, .box (t'3.g 5) [.vec 54 (t'3.g 54) 3 0 (nvS.len o1)]), (9, .box (t'3.g 9) [WV b9_0, WV b9_1, WV b9_2]), (11, .arr (t'3.g 11) 1 (nvS.len v) (t'3.t 11) (fun ix jx => (.v (.string (nvS.get ByteArray.empty v ix))))), (54, .arr (t'3.g 54) 3 (nvS.len o1) (t'3.t 54) (fun ix jx => (D_ranges_Row nvS (nvS.get d_ranges_Row o1 ix) jx)))] t'3)) (fun _ t => Hid.ok t) (fun x t'3 ht'3 h => ?_) (fun f h => ?_)
   · obtain ⟨b9_0, b9_1, b9_2⟩ := x
     try dsimp only at h
     obtain ⟨t'3_c, t'3_g, t'3_t⟩ := t'3; obtain ⟨ht'3_c, ht'3_g⟩ : 0 < t'3_c ∧ ∀ k, t'3_g k < t'3_c := ht'3
     refine Wc [] [] [53] 0 [] fun N hN => ?_
     generalize hp : std Tryz.prog = p; generalize hv : nvS = nv; cbv; subst hp hv
     refine ⟨rfl, rfl, rfl, ?_⟩
     replace h := chk_some h; obtain ⟨h84, h⟩ := h
     refine ⟨rfl, rfl, rfl, (by have := ht'3_g 54; show (_ : Nat) < _; (try dsimp only [std_eq, stdN]); omega), h84, rfl, ?_⟩
     subst hN; cases h
     show ∃ t', _ ∧ GeSt _ _ _
     refine ⟨⟨t'3_c + 11, gfn [(4, t'3_g 4), (5, t'3_g 5), (11, t'3_g 11), (54, t'3_c + 1)], tfn [(4, false), (5, false), (11, t'3_t 11), (54, false)]⟩, (And.intro Wh Wf), ?_⟩
     exact (Wg (Wk rfl (Wk rfl (Wk rfl (Wk rfl (Wk rfl (Wk rfl trivial)))))) (Wi rfl (Wi rfl (Wi rfl (Wa rfl trivial)))))
   refine Wx [] [] [] 0 [] 1 fun N hN => ?_
   generalize hp : std Tryz.prog = p; generalize hv : nvS = nv; cbv; subst hp hv
   subst hN; show Tr _ _ _ _
   refine Tr.block ?_
   refine Tr.cutSeq (α := Int) h (fun b9_11 t'4 => (WF 58 [(1, .fn (.func 18) 0 (fun _ => .junk)), (4, .bref 4 (t'4.g 4) 0), (5, .bref 5 (t'4.g 5) 0), (8, .vec 18 (t'4.g 18) 1 0 (nvS.len v2)), (9, .bref 9 (t'4.g 9) 0), (11, .vec 11 (t'4.g 11) 1 0 (nvS.len v)), (12, .v (.int .i64 (nvS.len v))), (13, WV v1)] 58 [(4, .box (t'4.g 4) [.nilsl]), (5, .box (t'4.g 5) [.vec 54 (t'4.g 54) 3 0 (nvS.len o1)]), (9, .box (t'4.g 9) [WV 0, WV b9_11, WV 0]), (11, .arr (t'4.g 11) 1 (nvS.len v) (t'4.t 11) (fun ix jx => (.v (.string (nvS.get ByteArray.empty v ix))))), (18, .arr (t'4.g 18) 1 (nvS.len v2) (t'4.t 18) (fun ix jx => (.v (.string (nvS.get ByteArray.empty v2 ix))))), (54, .arr (t'4.g 54) 3 (nvS.len o1) (t'4.t 54) (fun ix jx => (D_ranges_Row nvS (nvS.get d_ranges_Row o1 ix) jx)))] t'4)) (fun _ t => Hid.ok t) (fun x t'4 ht'4 h => ?_) (fun f h => ?_)
   · revert h; revert ht'4; revert x; intro b9_11 ht'4 h
     obtain ⟨t'4_c, t'4_g, t'4_t⟩ := t'4; obtain ⟨ht'4_c, ht'4_g⟩ : 0 < t'4_c ∧ ∀ k, t'4_g k < t'4_c := ht'4
     obtain ⟨v3, h90⟩ : ∃ v3, valO 0 (ucd_hex (getL ByteArray.empty v2 (0 + 0))) = v3 := ⟨_, rfl⟩
     obtain ⟨v4, h93⟩ : ∃ v4, valO 0 (ucd_wideName (getL ByteArray.empty v2 (0 + ((lenL v2) - 1)))) = v4 := ⟨_, rfl⟩
     refine Wc [] [(33, .plain (WV v3)), (41, .plain (WV v4))] [] 0 [] fun N hN => ?_
     generalize hp : std Tryz.prog = p; generalize hv : nvS = nv; cbv; subst hp hv
     replace h := chk_some h; obtain ⟨h89, h⟩ := h
     replace h := bindO_val h90 h; clear h90; obtain ⟨h90, h⟩ := h
     replace h := chk_some h; obtain ⟨h91, h⟩ := h
     replace h := chk_some h; obtain ⟨h92, h⟩ := h
     try (have h92z := h92; simp only [Int.zero_add] at h92z)
     replace h := bindO_val h93 h; clear h93; obtain ⟨h93, h⟩ := h
     refine ⟨h89, rfl, (Or.inl (PureFn.arg (ucd_hex_ok (getL ByteArray.empty v2 (0 + 0)) v3 h90) (And.intro (LeD.refl _) trivial))), h91, h92, rfl, (Or.inl (PureFn.arg (ucd_wideName_ok (getL ByteArray.empty v2 (0 + ((lenL v2) - 1))) v4 h93) (And.intro (LeD.refl _) trivial))), rfl, rfl, (show drOk _ _ = true by kernel_rfl), ?_⟩
     subst hN; cases h
     show ∃ t', _ ∧ GeSt _ _ _
     refine ⟨⟨t'4_c + 10, gfn [(4, t'4_g 4), (5, t'4_g 5), (9, t'4_g 9), (11, t'4_g 11), (54, t'4_g 54)], tfn [(4, false), (5, false), (9, false), (11, t'4_t 11), (54, t'4_t 54)]⟩, Wh, ?_⟩
     exact (Wg (Wk rfl (Wk rfl (Wk rfl (Wk rfl (Wk rfl (Wk rfl (Wk rfl trivial))))))) (Wi rfl (Wi rfl (Wi rfl (Wi rfl (Wi rfl trivial))))))
   obtain ⟨v5, h96⟩ : ∃ v5, valO 0 (ucd_hex (getL ByteArray.empty v2 (0 + 1))) = v5 := ⟨_, rfl⟩
   refine Wc [] [(28, .plain (WV v5))] [] 0 [] fun N hN => ?_
   generalize hp : std Tryz.prog = p; generalize hv : nvS = nv; cbv; subst hp hv
   refine ⟨fun h94 => ?_, fun h94 => ?_⟩
   · replace h := iteO_t h h94
     replace h := chk_some h; obtain ⟨h95, h⟩ := h
     replace h := bindO_val h96 h; clear h96; obtain ⟨h96, h⟩ := h
     refine ⟨h95, rfl, (Or.inl (PureFn.arg (ucd_hex_ok (getL ByteArray.empty v2 (0 + 1)) v5 h96) (And.intro (LeD.refl _) trivial))), rfl, ?_⟩
     subst hN; cases h
     show ∃ t', _ ∧ GeSt _ _ _
     refine ⟨⟨t'1_c + 16, gfn [(4, t'1_g 4), (5, t'1_g 5), (9, t'1_c + 3), (11, t'1_g 11), (18, t'1_c + 2), (54, t'1_g 54)], tfn [(4, false), (5, false), (9, false), (11, t'1_t 11), (18, false), (54, t'1_t 54)]⟩, Wh, ?_⟩
     exact (Wg (Wk rfl (Wk rfl (Wk rfl (Wk rfl (Wk rfl (Wk rfl (Wk rfl (Wk rfl trivial)))))))) (Wi rfl (Wi rfl (Wi rfl (Wi rfl (Wi rfl (Wi rfl trivial)))))))
   replace h := iteO_f h h94
   refine ⟨fun h97 => ?_, fun h97 => ?_⟩
   · replace h := iteO_t h h97
     subst hN; cases h
     show ∃ t', _ ∧ GeSt _ _ _
     refine ⟨⟨t'1_c + 16, gfn [(4, t'1_g 4), (5, t'1_g 5), (9, t'1_c + 3), (11, t'1_g 11), (18, t'1_c + 2), (54, t'1_g 54)], tfn [(4, false), (5, false), (9, false), (11, t'1_t 11), (18, false), (54, t'1_t 54)]⟩, Wh, ?_⟩
     exact (Wg (Wk rfl (Wk rfl (Wk rfl (Wk rfl (Wk rfl (Wk rfl (Wk rfl (Wk rfl trivial)))))))) (Wi rfl (Wi rfl (Wi rfl (Wi rfl (Wi rfl (Wi rfl trivial)))))))
   replace h := iteO_f h h97
   subst hN; cases h
   intro he; cases he
   show ∃ t', _ ∧ GeSt _ _ _
   refine ⟨⟨t'1_c + 16, gfn [(4, t'1_g 4), (5, t'1_g 5), (9, t'1_c + 3), (11, t'1_g 11), (54, t'1_g 54)], tfn [(4, false), (5, false), (9, false), (11, t'1_t 11), (54, t'1_t 54)]⟩, Wh, ?_⟩
   exact (Wg (Wk rfl (Wk rfl (Wk rfl (Wk rfl (Wk rfl (Wk rfl (Wk rfl trivial))))))) (Wi rfl (Wi rfl (Wi rfl (Wi rfl (Wi rfl trivial))))))
 replace h := iteO_f h h59
 subst hN; cases h
 intro he; cases he
 show ∃ t', _ ∧ GeSt _ _ _
 refine ⟨⟨t'1_c + 10, gfn [(4, t'1_g 4), (5, t'1_g 5), (54, t'1_g 54)], tfn [(4, false), (5, false), (54, t'1_t 54)]⟩, Wh, ?_⟩
 exact (Wg (Wk rfl (Wk rfl trivial)) (Wi rfl (Wj rfl (LeOb.box (Wd (LeD.vec rfl Wy) trivial)) (Wa rfl trivial))))
theorem ucd_table_join_ok (text : ByteArray) (r : T_ranges_Table) (h : ucd_table_join text = some r) : PureFn Tryz.prog 16 [(.v (.string text)), .fn (.func 19) 0 (fun _ => .junk)] ((.agg 1 (fun j => (D_ranges_Table nvS r j)))) := by
 unfold ucd_table_join at h
 refine fn_tr tt0_ok Tryz.func16 (by kernel_rfl) (c := bodyOf Tryz.f16) (by kernel_rfl) ?_
 intro ctr hc
 refine Wx [] [] [] 0 [] 2 fun N hN => ?_
 generalize hp : std Tryz.prog = p; generalize hv : nvS = nv; cbv; subst hp hv
 subst hN; show Tr _ _ _ _
 refine Tr.cutSeq (α := List T_ranges_Row) h (fun o t' => (WF 58 [(4, .bref 4 (t'.g 4) 0), (5, .bref 5 (t'.g 5) 0)] 58 [(4, .box (t'.g 4) [.nilsl]), (5, .box (t'.g 5) [.vec 54 (t'.g 54) 3 0 (nvS.len o)]), (54, .arr (t'.g 54) 3 (nvS.len o) (t'.t 54) (fun ix jx => (D_ranges_Row nvS (nvS.get d_ranges_Row o ix) jx)))] t')) (fun _ t => Hid.ok t) (fun x t' ht' h => ?_) (fun f h => ?_)
 · revert h; revert ht'; revert x; intro o ht' h
   obtain ⟨t'_c, t'_g, t'_t⟩ := t'; obtain ⟨ht'_c, ht'_g⟩ : 0 < t'_c ∧ ∀ k, t'_g k < t'_c := ht'
   refine Wc [] [] [] 0 [] fun N hN => ?_
   generalize hp : std Tryz.prog = p; generalize hv : nvS = nv; cbv; subst hp hv
   refine ⟨rfl, rfl, ?_⟩
   subst hN; have hr := Option.some.inj h
   subst hr
   try dsimp only [noGoto, inBlockQ, thenQ]
   repeat (first | refine Wt ?_ | refine We ?_)
   refine retQ_ret rfl ?_ ?_
   · exact (And.intro (rfl) trivial)
   exact (fun i _ _ j hj => by
    have hj2 : j < 1 := hj
    rcases (show j = 0 by omega) with rfl
    · exact (And.intro (rfl) (And.intro Wy (And.intro (fun h => by cases h) (out0_all Wo Wp)))))
 obtain ⟨v, h30⟩ : ∃ v, valO [] (strings_Split text (⟨#[44]⟩ : ByteArray)) = v := ⟨_, rfl⟩
 refine Wx [(36, 1)] [(11, .own 1 (nvS.len v) false (fun ix jx => (.v (.string (nvS.get ByteArray.empty v ix)))))] [] 0 [] 1 fun N hN => ?_
 generalize hp : std Tryz.prog = p; generalize hv : nvS = nv; cbv; subst hp hv
 replace h := bindO_val h30 h; clear h30; obtain ⟨h30, h⟩ := h
 refine ⟨(Or.inl (PureFn.arg (strings_Split_ok text (⟨#[44]⟩ : ByteArray) v h30) (And.intro (LeD.refl _) (And.intro (LeD.refl _) trivial)))), ?_⟩
 subst hN; show Tr _ _ _ _
 refine Tr.block ?_
 refine Tr.loopO (α := Int × List T_ranges_Row) (fun (v1, o1) t'1 => (WF 58 [(1, .fn (.func 19) 0 (fun _ => .junk)), (4, .bref 4 (t'1.g 4) 0), (5, .bref 5 (t'1.g 5) 0), (11, .vec 11 (t'1.g 11) 1 0 (nvS.len v)), (12, .v (.int .i64 (nvS.len v))), (13, WV v1)] 58 [(4, .box (t'1.g 4) [.nilsl]), (5, .box (t'1.g 5) [.vec 54 (t'1.g 54) 3 0 (nvS.len o1)]), (11, .arr (t'1.g 11) 1 (nvS.len v) (t'1.t 11) (fun ix jx => (.v (.string (nvS.get ByteArray.empty v ix))))), (54, .arr (t'1.g 54) 3 (nvS.len o1) (t'1.t 54) (fun ix jx => (D_ranges_Row nvS (nvS.get d_ranges_Row o1 ix) jx)))] t'1)) (fun _ t => Hid.ok t) ⟨ctr + 13, gfn [(4, ctr + 0), (5, ctr + 1), (11, ctr + 2), (54, ctr + 3)], tfn [(4, false), (5, false), (11, false), (54, false)]⟩ h ?_ ?_ (fun x t'1 f ht'1 h => ?_)
 · exact Wh
 · refine GeSt.by [.thaw (.cell 5 0) 54 3] rfl ?_ ?_
   · exact trivial
   exact LeSt.frame (show ctr + 4 < ctr + 13 by omega) rfl rfl (Wk rfl (Wk rfl (Wk rfl (Wk rfl (Wk rfl (Wk rfl trivial)))))) (Wi rfl (Wi rfl (Wi rfl (Wj rfl (LeOb.arr' rfl (fun i i0 i1 j hj => by exfalso; revert i1; show i < (0 : Int) → False; omega)) trivial))))
 obtain ⟨v1, o1⟩ := x
 try dsimp only at h
 obtain ⟨t'1_c, t'1_g, t'1_t⟩ := t'1; obtain ⟨ht'1_c, ht'1_g⟩ : 0 < t'1_c ∧ ∀ k, t'1_g k < t'1_c := ht'1
 refine Wx [] [] [] 0 [] 2 fun N hN => ?_
 generalize hp : std Tryz.prog = p; generalize hv : nvS = nv; cbv; subst hp hv
 refine ⟨fun h59 => ?_, fun h59 => ?_⟩
 · replace h := iteO_t h h59
   subst hN; show Tr _ _ _ _
   refine Tr.cutSeq (α := List T_ranges_Row) h (fun o2 t'2 => (WF 58 [(1, .fn (.func 19) 0 (fun _ => .junk)), (4, .bref 4 (t'2.g 4) 0), (5, .bref 5 (t'2.g 5) 0), (11, .vec 11 (t'2.g 11) 1 0 (nvS.len v)), (12, .v (.int .i64 (nvS.len v))), (13, WV v1)] 58 [(4, .box (t'2.g 4) [.nilsl]), (5, .box (t'2.g 5) [.vec 54 (t'2.g 54) 3 0 ((std Tryz.prog).add (nvS.len o1) 1)]), (11, .arr (t'2.g 11) 1 (nvS.len v) (t'2.t 11) (fun ix jx => (.v (.string (nvS.get ByteArray.empty v ix))))), (54, .arr (t'2.g 54) 3 ((std Tryz.prog).add (nvS.len o1) 1) (t'2.t 54) (fun ix jx => (D_ranges_Row nvS (nvS.get d_ranges_Row o2 ix) jx)))] t'2)) (fun o2 t => Hid.ok t ∧ lenL o2 = ((lenL o1) + 1)) (fun x t'2 ht'2 h => ?_) (fun f h => ?_)
   · revert h; revert ht'2; revert x; intro o2 ht'2 h
     obtain ⟨ht'2, ht'2_f0⟩ := ht'2
     obtain ⟨t'2_c, t'2_g, t'2_t⟩ := t'2; obtain ⟨ht'2_c, ht'2_g⟩ : 0 < t'2_c ∧ ∀ k, t'2_g k < t'2_c := ht'2
     refine Wc [] [] [] 0 [] fun N hN => ?_
     generalize hp : std Tryz.prog = p; generalize hv : nvS = nv; cbv; subst hp hv
     replace h := chk_some h; obtain ⟨h72, h⟩ := h
     refine ⟨h72, ?_⟩
     subst hN; cases h
     show ∃ t', _ ∧ GeSt _ _ _
     refine ⟨⟨t'2_c + 10, gfn [(4, t'2_g 4), (5, t'2_g 5), (11, t'2_g 11), (54, t'2_g 54)], tfn [(4, false), (5, false), (11, t'2_t 11), (54, t'2_t 54)]⟩, Wh, ?_⟩
     exact (Wg (Wk rfl (Wk rfl (Wk rfl (Wk rfl (Wk rfl (Wk rfl trivial)))))) (Wi rfl (Wj rfl (LeOb.box (Wd (LeD.vec rfl Wy) trivial)) (Wi rfl (Wa rfl trivial)))))
   refine Tr.block ?_
   obtain ⟨v2, h74⟩ : ∃ v2, valO [] (ucd_words (getL ByteArray.empty v (0 + v1))) = v2 := ⟨_, rfl⟩
   refine Wx [(37, 1)] [(18, .own 1 (nvS.len v2) false (fun ix jx => (.v (.string (nvS.get ByteArray.empty v2 ix)))))] [] 0 [] 3 fun N hN => ?_
   generalize hp : std Tryz.prog = p; generalize hv : nvS = nv; cbv; subst hp hv
   replace h := chk_some h; obtain ⟨h73, h⟩ := h
   try (have h73z := h73; simp only [Int.zero_add] at h73z)
   refine ⟨h73, rfl, ?_⟩
   replace h := bindO_val h74 h; clear h74; obtain ⟨h74, h⟩ := h
   refine ⟨(Or.inl (PureFn.arg (ucd_words_ok (getL ByteArray.empty v (0 + v1)) v2 h74) (And.intro (LeD.refl _) trivial))), ?_⟩
   subst hN; show Tr _ _ _ _
   refine Tr.cutSeq (α := Int × Int × Int) h (fun (b9_0, b9_1, b9_2) t'3 => (WF 58 [(1, .fn (.func 19) 0 (fun _ => .junk)), (4, .bref 4 (t'3.g 4) 0), (5, .bref 5 (t'3.g 5) 0), (9, .bref 9 (t'3.g 9) 0), (11, .vec 11 (t'3.g 11) 1 0 (nvS.len v)), (12, .v (.int .i64 (nvS.len v))), (13, WV v1)] 58 [(4, .box (t'3.g 4) [.nilsl]), (5, .box (t'3.g 5) [.vec 54 (t'3.g 54) 3 0 (nvS.len o1)]), (9, .box (t'3.g 9) [WV b9_0, WV b9_1, WV b9_2]), (11, .arr (t'3.g 11) 1 (nvS.len v) (t'3.t 11) (fun ix jx => (.v (.string (nvS.get ByteArray.empty v ix))))), (54, .arr (t'3.g 54) 3 (nvS.len o1) (t'3.t 54) (fun ix jx => (D_ranges_Row nvS (nvS.get d_ranges_Row o1 ix) jx)))] t'3)) (fun _ t => Hid.ok t) (fun x t'3 ht'3 h => ?_) (fun f h => ?_)
   · obtain ⟨b9_0, b9_1, b9_2⟩ := x
     try dsimp only at h
     obtain ⟨t'3_c, t'3_g, t'3_t⟩ := t'3; obtain ⟨ht'3_c, ht'3_g⟩ : 0 < t'3_c ∧ ∀ k, t'3_g k < t'3_c := ht'3
     refine Wc [] [] [53] 0 [] fun N hN => ?_
     generalize hp : std Tryz.prog = p; generalize hv : nvS = nv; cbv; subst hp hv
     refine ⟨rfl, rfl, rfl, ?_⟩
     replace h := chk_some h; obtain ⟨h84, h⟩ := h
     refine ⟨rfl, rfl, rfl, (by have := ht'3_g 54; show (_ : Nat) < _; (try dsimp only [std_eq, stdN]); omega), h84, rfl, ?_⟩
     subst hN; cases h
     show ∃ t', _ ∧ GeSt _ _ _
     refine ⟨⟨t'3_c + 11, gfn [(4, t'3_g 4), (5, t'3_g 5), (11, t'3_g 11), (54, t'3_c + 1)], tfn [(4, false), (5, false), (11, t'3_t 11), (54, false)]⟩, (And.intro Wh Wf), ?_⟩
     exact (Wg (Wk rfl (Wk rfl (Wk rfl (Wk rfl (Wk rfl (Wk rfl trivial)))))) (Wi rfl (Wi rfl (Wi rfl (Wa rfl trivial)))))
   refine Wx [] [] [] 0 [] 1 fun N hN => ?_
   generalize hp : std Tryz.prog = p; generalize hv : nvS = nv; cbv; subst hp hv
   subst hN; show Tr _ _ _ _
   refine Tr.block ?_
   refine Tr.cutSeq (α := Int) h (fun b9_11 t'4 => (WF 58 [(1, .fn (.func 19) 0 (fun _ => .junk)), (4, .bref 4 (t'4.g 4) 0), (5, .bref 5 (t'4.g 5) 0), (8, .vec 18 (t'4.g 18) 1 0 (nvS.len v2)), (9, .bref 9 (t'4.g 9) 0), (11, .vec 11 (t'4.g 11) 1 0 (nvS.len v)), (12, .v (.int .i64 (nvS.len v))), (13, WV v1)] 58 [(4, .box (t'4.g 4) [.nilsl]), (5, .box (t'4.g 5) [.vec 54 (t'4.g 54) 3 0 (nvS.len o1)]), (9, .box (t'4.g 9) [WV 0, WV b9_11, WV 0]), (11, .arr (t'4.g 11) 1 (nvS.len v) (t'4.t 11) (fun ix jx => (.v (.string (nvS.get ByteArray.empty v ix))))), (18, .arr (t'4.g 18) 1 (nvS.len v2) (t'4.t 18) (fun ix jx => (.v (.string (nvS.get ByteArray.empty v2 ix))))), (54, .arr (t'4.g 54) 3 (nvS.len o1) (t'4.t 54) (fun ix jx => (D_ranges_Row nvS (nvS.get d_ranges_Row o1 ix) jx)))] t'4)) (fun _ t => Hid.ok t) (fun x t'4 ht'4 h => ?_) (fun f h => ?_)
   · revert h; revert ht'4; revert x; intro b9_11 ht'4 h
     obtain ⟨t'4_c, t'4_g, t'4_t⟩ := t'4; obtain ⟨ht'4_c, ht'4_g⟩ : 0 < t'4_c ∧ ∀ k, t'4_g k < t'4_c := ht'4
     obtain ⟨v3, h90⟩ : ∃ v3, valO 0 (ucd_hex (getL ByteArray.empty v2 (0 + 0))) = v3 := ⟨_, rfl⟩
     obtain ⟨v4, h93⟩ : ∃ v4, valO 0 (ucd_joinName (getL ByteArray.empty v2 (0 + ((lenL v2) - 1)))) = v4 := ⟨_, rfl⟩
     refine Wc [] [(33, .plain (WV v3)), (41, .plain (WV v4))] [] 0 [] fun N hN => ?_
     generalize hp : std Tryz.prog = p; generalize hv : nvS = nv; cbv; subst hp hv
     replace h := chk_some h; obtain ⟨h89, h⟩ := h
     replace h := bindO_val h90 h; clear h90; obtain ⟨h90, h⟩ := h
     replace h := chk_some h; obtain ⟨h91, h⟩ := h
     replace h := chk_some h; obtain ⟨h92, h⟩ := h
     try (have h92z := h92; simp only [Int.zero_add] at h92z)
     replace h := bindO_val h93 h; clear h93; obtain ⟨h93, h⟩ := h
     refine ⟨h89, rfl, (Or.inl (PureFn.arg (ucd_hex_ok (getL ByteArray.empty v2 (0 + 0)) v3 h90) (And.intro (LeD.refl _) trivial))), h91, h92, rfl, (Or.inl (PureFn.arg (ucd_joinName_ok (getL ByteArray.empty v2 (0 + ((lenL v2) - 1))) v4 h93) (And.intro (LeD.refl _) trivial))), rfl, rfl, (show drOk _ _ = true by kernel_rfl), ?_⟩
     subst hN; cases h
     show ∃ t', _ ∧ GeSt _ _ _
     refine ⟨⟨t'4_c + 10, gfn [(4, t'4_g 4), (5, t'4_g 5), (9, t'4_g 9), (11, t'4_g 11), (54, t'4_g 54)], tfn [(4, false), (5, false), (9, false), (11, t'4_t 11), (54, t'4_t 54)]⟩, Wh, ?_⟩
     exact (Wg (Wk rfl (Wk rfl (Wk rfl (Wk rfl (Wk rfl (Wk rfl (Wk rfl trivial))))))) (Wi rfl (Wi rfl (Wi rfl (Wi rfl (Wi rfl trivial))))))
   obtain ⟨v5, h96⟩ : ∃ v5, valO 0 (ucd_hex (getL ByteArray.empty v2 (0 + 1))) = v5 := ⟨_, rfl⟩
   refine Wc [] [(28, .plain (WV v5))] [] 0 [] fun N hN => ?_
   generalize hp : std Tryz.prog = p; generalize hv : nvS = nv; cbv; subst hp hv
   refine ⟨fun h94 => ?_, fun h94 => ?_⟩
   · replace h := iteO_t h h94
     replace h := chk_some h; obtain ⟨h95, h⟩ := h
     replace h := bindO_val h96 h; clear h96; obtain ⟨h96, h⟩ := h
     refine ⟨h95, rfl, (Or.inl (PureFn.arg (ucd_hex_ok (getL ByteArray.empty v2 (0 + 1)) v5 h96) (And.intro (LeD.refl _) trivial))), rfl, ?_⟩
     subst hN; cases h
     show ∃ t', _ ∧ GeSt _ _ _
     refine ⟨⟨t'1_c + 16, gfn [(4, t'1_g 4), (5, t'1_g 5), (9, t'1_c + 3), (11, t'1_g 11), (18, t'1_c + 2), (54, t'1_g 54)], tfn [(4, false), (5, false), (9, false), (11, t'1_t 11), (18, false), (54, t'1_t 54)]⟩, Wh, ?_⟩
     exact (Wg (Wk rfl (Wk rfl (Wk rfl (Wk rfl (Wk rfl (Wk rfl (Wk rfl (Wk rfl trivial)))))))) (Wi rfl (Wi rfl (Wi rfl (Wi rfl (Wi rfl (Wi rfl trivial)))))))
   replace h := iteO_f h h94
   refine ⟨fun h97 => ?_, fun h97 => ?_⟩
   · replace h := iteO_t h h97
     subst hN; cases h
     show ∃ t', _ ∧ GeSt _ _ _
     refine ⟨⟨t'1_c + 16, gfn [(4, t'1_g 4), (5, t'1_g 5), (9, t'1_c + 3), (11, t'1_g 11), (18, t'1_c + 2), (54, t'1_g 54)], tfn [(4, false), (5, false), (9, false), (11, t'1_t 11), (18, false), (54, t'1_t 54)]⟩, Wh, ?_⟩
     exact (Wg (Wk rfl (Wk rfl (Wk rfl (Wk rfl (Wk rfl (Wk rfl (Wk rfl (Wk rfl trivial)))))))) (Wi rfl (Wi rfl (Wi rfl (Wi rfl (Wi rfl (Wi rfl trivial)))))))
   replace h := iteO_f h h97
   subst hN; cases h
   intro he; cases he
   show ∃ t', _ ∧ GeSt _ _ _
   refine ⟨⟨t'1_c + 16, gfn [(4, t'1_g 4), (5, t'1_g 5), (9, t'1_c + 3), (11, t'1_g 11), (54, t'1_g 54)], tfn [(4, false), (5, false), (9, false), (11, t'1_t 11), (54, t'1_t 54)]⟩, Wh, ?_⟩
   exact (Wg (Wk rfl (Wk rfl (Wk rfl (Wk rfl (Wk rfl (Wk rfl (Wk rfl trivial))))))) (Wi rfl (Wi rfl (Wi rfl (Wi rfl (Wi rfl trivial))))))
 replace h := iteO_f h h59
 subst hN; cases h
 intro he; cases he
 show ∃ t', _ ∧ GeSt _ _ _
 refine ⟨⟨t'1_c + 10, gfn [(4, t'1_g 4), (5, t'1_g 5), (54, t'1_g 54)], tfn [(4, false), (5, false), (54, t'1_t 54)]⟩, Wh, ?_⟩
 exact (Wg (Wk rfl (Wk rfl trivial)) (Wi rfl (Wj rfl (LeOb.box (Wd (LeD.vec rfl Wy) trivial)) (Wa rfl trivial))))
theorem ucd_pairs_ok (text : ByteArray) (r : (List T_ucd_Pair)) (h : ucd_pairs text = some r) : PureFn Tryz.prog 20 [(.v (.string text))] (.own 2 (nvS.len r) false (fun ix jx => (D_ucd_Pair nvS (nvS.get d_ucd_Pair r ix) jx))) := by
 unfold ucd_pairs at h
 refine fn_tr tt0_ok Tryz.func20 (by kernel_rfl) (c := bodyOf Tryz.f20) (by kernel_rfl) ?_
 intro ctr hc
 refine Wx [] [] [] 0 [] 2 fun N hN => ?_
 generalize hp : std Tryz.prog = p; generalize hv : nvS = nv; cbv; subst hp hv
 subst hN; show Tr _ _ _ _
 refine Tr.cutSeq (α := List T_ucd_Pair) h (fun l' t' => (WF 33 [(3, .vec 30 (t'.g 30) 2 0 (nvS.len l'))] 33 [(30, .arr (t'.g 30) 2 (nvS.len l') (t'.t 30) (fun ix jx => (D_ucd_Pair nvS (nvS.get d_ucd_Pair l' ix) jx)))] t')) (fun _ t => Hid.ok t) (fun x t' ht' h => ?_) (fun f h => ?_)
 · revert h; revert ht'; revert x; intro l' ht' h
   obtain ⟨t'_c, t'_g, t'_t⟩ := t'; obtain ⟨ht'_c, ht'_g⟩ : 0 < t'_c ∧ ∀ k, t'_g k < t'_c := ht'
   refine Wc [] [] [] 0 [] fun N hN => ?_
   generalize hp : std Tryz.prog = p; generalize hv : nvS = nv; cbv; subst hp hv
   subst hN; have hr := Option.some.inj h
   subst hr
   try dsimp only [noGoto, inBlockQ, thenQ]
   repeat (first | refine Wt ?_ | refine We ?_)
   exact retQ_ret rfl trivial (And.intro (rfl) (And.intro Wy (And.intro (fun h => by cases h) (out0_all Wo Wp))))
 obtain ⟨v, h24⟩ : ∃ v, valO [] (strings_Split text (⟨#[44]⟩ : ByteArray)) = v := ⟨_, rfl⟩
 refine Wx [(36, 1)] [(8, .own 1 (nvS.len v) false (fun ix jx => (.v (.string (nvS.get ByteArray.empty v ix)))))] [] 0 [] 1 fun N hN => ?_
 generalize hp : std Tryz.prog = p; generalize hv : nvS = nv; cbv; subst hp hv
 replace h := bindO_val h24 h; clear h24; obtain ⟨h24, h⟩ := h
 refine ⟨(Or.inl (PureFn.arg (strings_Split_ok text (⟨#[44]⟩ : ByteArray) v h24) (And.intro (LeD.refl _) (And.intro (LeD.refl _) trivial)))), ?_⟩
 subst hN; show Tr _ _ _ _
 refine Tr.block ?_
 refine Tr.loopO (α := Int × List T_ucd_Pair) (fun (v1, l'1) t'1 => (WF 33 [(3, .vec 30 (t'1.g 30) 2 0 (nvS.len l'1)), (8, .vec 8 (t'1.g 8) 1 0 (nvS.len v)), (9, .v (.int .i64 (nvS.len v))), (10, WV v1)] 33 [(8, .arr (t'1.g 8) 1 (nvS.len v) (t'1.t 8) (fun ix jx => (.v (.string (nvS.get ByteArray.empty v ix))))), (30, .arr (t'1.g 30) 2 (nvS.len l'1) (t'1.t 30) (fun ix jx => (D_ucd_Pair nvS (nvS.get d_ucd_Pair l'1 ix) jx)))] t'1)) (fun _ t => Hid.ok t) ⟨ctr + 13, gfn [(8, ctr + 2), (30, ctr + 3)], tfn [(8, false), (30, false)]⟩ h ?_ ?_ (fun x t'1 f ht'1 h => ?_)
 · exact Wh
 · refine GeSt.by [.thaw (.slot 3) 30 2] rfl ?_ ?_
   · exact trivial
   exact LeSt.frame (show ctr + 4 < ctr + 13 by omega) rfl rfl (Wk rfl (Wk rfl (Wk rfl (Wk rfl trivial)))) (Wi rfl (Wj rfl (LeOb.arr' rfl (fun i i0 i1 j hj => by exfalso; revert i1; show i < (0 : Int) → False; omega)) trivial))
 obtain ⟨v1, l'1⟩ := x
 try dsimp only at h
 obtain ⟨t'1_c, t'1_g, t'1_t⟩ := t'1; obtain ⟨ht'1_c, ht'1_g⟩ : 0 < t'1_c ∧ ∀ k, t'1_g k < t'1_c := ht'1
 obtain ⟨v2, h49⟩ : ∃ v2, valO [] (ucd_words (getL ByteArray.empty v (0 + v1))) = v2 := ⟨_, rfl⟩
 obtain ⟨v3, h52⟩ : ∃ v3, valO 0 (ucd_hex (getL ByteArray.empty v2 (0 + 0))) = v3 := ⟨_, rfl⟩
 obtain ⟨v4, h54⟩ : ∃ v4, valO 0 (ucd_hex (getL ByteArray.empty v2 (0 + 1))) = v4 := ⟨_, rfl⟩
 refine Wc [(37, 1)] [(15, .own 1 (nvS.len v2) false (fun ix jx => (.v (.string (nvS.get ByteArray.empty v2 ix))))), (23, .plain (WV v3)), (27, .plain (WV v4))] [29] 0 [] fun N hN => ?_
 generalize hp : std Tryz.prog = p; generalize hv : nvS = nv; cbv; subst hp hv
 refine ⟨fun h47 => ?_, fun h47 => ?_⟩
 · replace h := iteO_t h h47
   replace h := chk_some h; obtain ⟨h48, h⟩ := h
   try (have h48z := h48; simp only [Int.zero_add] at h48z)
   refine ⟨h48, rfl, ?_⟩
   replace h := bindO_val h49 h; clear h49; obtain ⟨h49, h⟩ := h
   refine ⟨(Or.inl (PureFn.arg (ucd_words_ok (getL ByteArray.empty v (0 + v1)) v2 h49) (And.intro (LeD.refl _) trivial))), ?_⟩
   refine ⟨fun h50 => ?_, fun h50 => ?_⟩
   · replace h := iteO_t h h50
     replace h := chk_some h; obtain ⟨h51, h⟩ := h
     replace h := bindO_val h52 h; clear h52; obtain ⟨h52, h⟩ := h
     replace h := chk_some h; obtain ⟨h53, h⟩ := h
     replace h := bindO_val h54 h; clear h54; obtain ⟨h54, h⟩ := h
     replace h := chk_some h; obtain ⟨h55, h⟩ := h
     refine ⟨h51, rfl, (Or.inl (PureFn.arg (ucd_hex_ok (getL ByteArray.empty v2 (0 + 0)) v3 h52) (And.intro (LeD.refl _) trivial))), h53, rfl, (Or.inl (PureFn.arg (ucd_hex_ok (getL ByteArray.empty v2 (0 + 1)) v4 h54) (And.intro (LeD.refl _) trivial))), rfl, (by have := ht'1_g 30; show (_ : Nat) < _; (try dsimp only [std_eq, stdN]); omega), h55, (show drOk _ _ = true by kernel_rfl), ?_⟩
     replace h := chk_some h; obtain ⟨h56, h⟩ := h
     refine ⟨h56, ?_⟩
     subst hN; cases h
     show ∃ t', _ ∧ GeSt _ _ _
     refine ⟨⟨t'1_c + 15, gfn [(8, t'1_g 8), (30, t'1_c + 4)], tfn [(8, t'1_t 8), (30, false)]⟩, Wh, ?_⟩
     exact (Wg (Wq rfl (LeD.vec rfl Wy) (Wk rfl (Wk rfl (Wk rfl trivial)))) (Wi rfl (Wa rfl trivial)))
   replace h := iteO_f h h50
   replace h := chk_some h; obtain ⟨h57, h⟩ := h
   refine ⟨h57, ?_⟩
   subst hN; cases h
   show ∃ t', _ ∧ GeSt _ _ _
   refine ⟨⟨t'1_c + 14, gfn [(8, t'1_g 8), (30, t'1_g 30)], tfn [(8, t'1_t 8), (30, t'1_t 30)]⟩, Wh, ?_⟩
   exact (Wg (Wq rfl ((by first | exact LeD.refl _ | exact LeD.vec rfl Wy)) (Wk rfl (Wk rfl (Wk rfl trivial)))) (Wi rfl (Wi rfl trivial)))
 replace h := iteO_f h h47
 subst hN; cases h
 intro he; cases he
 show ∃ t', _ ∧ GeSt _ _ _
 refine ⟨⟨t'1_c + 10, gfn [(30, t'1_g 30)], tfn [(30, t'1_t 30)]⟩, Wh, ?_⟩
 exact (Wg (Wq rfl (LeD.vec rfl Wy) trivial) (Wa rfl trivial))
theorem ucd_forms_ok (text : ByteArray) (r : (List T_ucd_Form)) (h : ucd_forms text = some r) : PureFn Tryz.prog 21 [(.v (.string text))] (.own 3 (nvS.len r) false (fun ix jx => (D_ucd_Form nvS (nvS.get d_ucd_Form r ix) jx))) := by
 unfold ucd_forms at h
 refine fn_tr tt0_ok Tryz.func21 (by kernel_rfl) (c := bodyOf Tryz.f21) (by kernel_rfl) ?_
 intro ctr hc
 refine Wx [] [] [] 0 [] 2 fun N hN => ?_
 generalize hp : std Tryz.prog = p; generalize hv : nvS = nv; cbv; subst hp hv
 subst hN; show Tr _ _ _ _
 refine Tr.cutSeq (α := List T_ucd_Form) h (fun l' t' => (WF 37 [(3, .vec 34 (t'.g 34) 3 0 (nvS.len l'))] 37 [(34, .arr (t'.g 34) 3 (nvS.len l') (t'.t 34) (fun ix jx => (D_ucd_Form nvS (nvS.get d_ucd_Form l' ix) jx)))] t')) (fun _ t => Hid.ok t) (fun x t' ht' h => ?_) (fun f h => ?_)
 · revert h; revert ht'; revert x; intro l' ht' h
   obtain ⟨t'_c, t'_g, t'_t⟩ := t'; obtain ⟨ht'_c, ht'_g⟩ : 0 < t'_c ∧ ∀ k, t'_g k < t'_c := ht'
   refine Wc [] [] [] 0 [] fun N hN => ?_
   generalize hp : std Tryz.prog = p; generalize hv : nvS = nv; cbv; subst hp hv
   subst hN; have hr := Option.some.inj h
   subst hr
   try dsimp only [noGoto, inBlockQ, thenQ]
   repeat (first | refine Wt ?_ | refine We ?_)
   exact retQ_ret rfl trivial (And.intro (rfl) (And.intro Wy (And.intro (fun h => by cases h) (out0_all Wo Wp))))
 obtain ⟨v, h28⟩ : ∃ v, valO [] (strings_Split text (⟨#[44]⟩ : ByteArray)) = v := ⟨_, rfl⟩
 refine Wx [(36, 1)] [(8, .own 1 (nvS.len v) false (fun ix jx => (.v (.string (nvS.get ByteArray.empty v ix)))))] [] 0 [] 1 fun N hN => ?_
 generalize hp : std Tryz.prog = p; generalize hv : nvS = nv; cbv; subst hp hv
 replace h := bindO_val h28 h; clear h28; obtain ⟨h28, h⟩ := h
 refine ⟨(Or.inl (PureFn.arg (strings_Split_ok text (⟨#[44]⟩ : ByteArray) v h28) (And.intro (LeD.refl _) (And.intro (LeD.refl _) trivial)))), ?_⟩
 subst hN; show Tr _ _ _ _
 refine Tr.block ?_
 refine Tr.loopO (α := Int × List T_ucd_Form) (fun (v1, l'1) t'1 => (WF 37 [(3, .vec 34 (t'1.g 34) 3 0 (nvS.len l'1)), (8, .vec 8 (t'1.g 8) 1 0 (nvS.len v)), (9, .v (.int .i64 (nvS.len v))), (10, WV v1)] 37 [(8, .arr (t'1.g 8) 1 (nvS.len v) (t'1.t 8) (fun ix jx => (.v (.string (nvS.get ByteArray.empty v ix))))), (34, .arr (t'1.g 34) 3 (nvS.len l'1) (t'1.t 34) (fun ix jx => (D_ucd_Form nvS (nvS.get d_ucd_Form l'1 ix) jx)))] t'1)) (fun _ t => Hid.ok t) ⟨ctr + 13, gfn [(8, ctr + 2), (34, ctr + 3)], tfn [(8, false), (34, false)]⟩ h ?_ ?_ (fun x t'1 f ht'1 h => ?_)
 · exact Wh
 · refine GeSt.by [.thaw (.slot 3) 34 3] rfl ?_ ?_
   · exact trivial
   exact LeSt.frame (show ctr + 4 < ctr + 13 by omega) rfl rfl (Wk rfl (Wk rfl (Wk rfl (Wk rfl trivial)))) (Wi rfl (Wj rfl (LeOb.arr' rfl (fun i i0 i1 j hj => by exfalso; revert i1; show i < (0 : Int) → False; omega)) trivial))
 obtain ⟨v1, l'1⟩ := x
 try dsimp only at h
 obtain ⟨t'1_c, t'1_g, t'1_t⟩ := t'1; obtain ⟨ht'1_c, ht'1_g⟩ : 0 < t'1_c ∧ ∀ k, t'1_g k < t'1_c := ht'1
 obtain ⟨v2, h57⟩ : ∃ v2, valO [] (ucd_words (getL ByteArray.empty v (0 + v1))) = v2 := ⟨_, rfl⟩
 obtain ⟨v3, h60⟩ : ∃ v3, valO 0 (ucd_hex (getL ByteArray.empty v2 (0 + 0))) = v3 := ⟨_, rfl⟩
 obtain ⟨v4, h62⟩ : ∃ v4, valO 0 (ucd_hex (getL ByteArray.empty v2 (0 + 1))) = v4 := ⟨_, rfl⟩
 obtain ⟨v5, h64⟩ : ∃ v5, valO 0 (ucd_hex (getL ByteArray.empty v2 (0 + 2))) = v5 := ⟨_, rfl⟩
 refine Wc [(37, 1)] [(15, .own 1 (nvS.len v2) false (fun ix jx => (.v (.string (nvS.get ByteArray.empty v2 ix))))), (23, .plain (WV v3)), (27, .plain (WV v4)), (31, .plain (WV v5))] [33] 0 [] fun N hN => ?_
 generalize hp : std Tryz.prog = p; generalize hv : nvS = nv; cbv; subst hp hv
 refine ⟨fun h55 => ?_, fun h55 => ?_⟩
 · replace h := iteO_t h h55
   replace h := chk_some h; obtain ⟨h56, h⟩ := h
   try (have h56z := h56; simp only [Int.zero_add] at h56z)
   refine ⟨h56, rfl, ?_⟩
   replace h := bindO_val h57 h; clear h57; obtain ⟨h57, h⟩ := h
   refine ⟨(Or.inl (PureFn.arg (ucd_words_ok (getL ByteArray.empty v (0 + v1)) v2 h57) (And.intro (LeD.refl _) trivial))), ?_⟩
   refine ⟨fun h58 => ?_, fun h58 => ?_⟩
   · replace h := iteO_t h h58
     replace h := chk_some h; obtain ⟨h59, h⟩ := h
     replace h := bindO_val h60 h; clear h60; obtain ⟨h60, h⟩ := h
     replace h := chk_some h; obtain ⟨h61, h⟩ := h
     replace h := bindO_val h62 h; clear h62; obtain ⟨h62, h⟩ := h
     replace h := chk_some h; obtain ⟨h63, h⟩ := h
     replace h := bindO_val h64 h; clear h64; obtain ⟨h64, h⟩ := h
     replace h := chk_some h; obtain ⟨h65, h⟩ := h
     refine ⟨h59, rfl, (Or.inl (PureFn.arg (ucd_hex_ok (getL ByteArray.empty v2 (0 + 0)) v3 h60) (And.intro (LeD.refl _) trivial))), h61, rfl, (Or.inl (PureFn.arg (ucd_hex_ok (getL ByteArray.empty v2 (0 + 1)) v4 h62) (And.intro (LeD.refl _) trivial))), h63, rfl, (Or.inl (PureFn.arg (ucd_hex_ok (getL ByteArray.empty v2 (0 + 2)) v5 h64) (And.intro (LeD.refl _) trivial))), rfl, (by have := ht'1_g 34; show (_ : Nat) < _; (try dsimp only [std_eq, stdN]); omega), h65, (show drOk _ _ = true by kernel_rfl), ?_⟩
     replace h := chk_some h; obtain ⟨h66, h⟩ := h
     refine ⟨h66, ?_⟩
     subst hN; cases h
     show ∃ t', _ ∧ GeSt _ _ _
     refine ⟨⟨t'1_c + 15, gfn [(8, t'1_g 8), (34, t'1_c + 4)], tfn [(8, t'1_t 8), (34, false)]⟩, Wh, ?_⟩
     exact (Wg (Wq rfl (LeD.vec rfl Wy) (Wk rfl (Wk rfl (Wk rfl trivial)))) (Wi rfl (Wa rfl trivial)))
   replace h := iteO_f h h58
   replace h := chk_some h; obtain ⟨h67, h⟩ := h
   refine ⟨h67, ?_⟩
   subst hN; cases h
   show ∃ t', _ ∧ GeSt _ _ _
   refine ⟨⟨t'1_c + 14, gfn [(8, t'1_g 8), (34, t'1_g 34)], tfn [(8, t'1_t 8), (34, t'1_t 34)]⟩, Wh, ?_⟩
   exact (Wg (Wq rfl ((by first | exact LeD.refl _ | exact LeD.vec rfl Wy)) (Wk rfl (Wk rfl (Wk rfl trivial)))) (Wi rfl (Wi rfl trivial)))
 replace h := iteO_f h h55
 subst hN; cases h
 intro he; cases he
 show ∃ t', _ ∧ GeSt _ _ _
 refine ⟨⟨t'1_c + 10, gfn [(34, t'1_g 34)], tfn [(34, t'1_t 34)]⟩, Wh, ?_⟩
 exact (Wg (Wq rfl (LeD.vec rfl Wy) trivial) (Wa rfl trivial))
theorem ucd_Load_ok  (r : T_ucd_Data) (h : ucd_Load = some r) : PureFn Tryz.prog 8 [] ((.agg 6 (fun j => (D_ucd_Data nvS r j)))) := by
 unfold ucd_Load at h
 refine fn_tr tt0_ok Tryz.func8 (by kernel_rfl) (c := bodyOf Tryz.f8) (by kernel_rfl) ?_
 intro ctr hc
 obtain ⟨v, h1⟩ : ∃ v, valO d_ranges_Table (ucd_table_class kS1) = v := ⟨_, rfl⟩
 obtain ⟨v_L⟩ := v
 obtain ⟨v1, h2⟩ : ∃ v1, valO d_ranges_Table (ucd_table_wide kS2) = v1 := ⟨_, rfl⟩
 obtain ⟨v1_L⟩ := v1
 obtain ⟨v2, h3⟩ : ∃ v2, valO d_ranges_Table (ucd_table_join kS3) = v2 := ⟨_, rfl⟩
 obtain ⟨v2_L⟩ := v2
 obtain ⟨v3, h4⟩ : ∃ v3, valO [] (ucd_pairs kS4) = v3 := ⟨_, rfl⟩
 obtain ⟨v4, h5⟩ : ∃ v4, valO [] (ucd_pairs kS5) = v4 := ⟨_, rfl⟩
 obtain ⟨v5, h6⟩ : ∃ v5, valO [] (ucd_forms kS6) = v5 := ⟨_, rfl⟩
 refine Wc [(20, 1), (21, 1)] [(1, .plain (.agg 1 (fun j => (D_ranges_Table nvS (T_ranges_Table.mk v_L) j)))), (2, .plain (.agg 1 (fun j => (D_ranges_Table nvS (T_ranges_Table.mk v1_L) j)))), (3, .plain (.agg 1 (fun j => (D_ranges_Table nvS (T_ranges_Table.mk v2_L) j)))), (4, .own 2 (nvS.len v3) false (fun ix jx => (D_ucd_Pair nvS (nvS.get d_ucd_Pair v3 ix) jx))), (5, .own 2 (nvS.len v4) false (fun ix jx => (D_ucd_Pair nvS (nvS.get d_ucd_Pair v4 ix) jx))), (6, .own 3 (nvS.len v5) false (fun ix jx => (D_ucd_Form nvS (nvS.get d_ucd_Form v5 ix) jx)))] [] 0 [] fun N hN => ?_
 generalize hp : std Tryz.prog = p; generalize hv : nvS = nv; cbv; subst hp hv
 replace h := bindO_val h1 h; clear h1; obtain ⟨h1, h⟩ := h; try dsimp only at h
 replace h := bindO_val h2 h; clear h2; obtain ⟨h2, h⟩ := h; try dsimp only at h
 replace h := bindO_val h3 h; clear h3; obtain ⟨h3, h⟩ := h; try dsimp only at h
 replace h := bindO_val h4 h; clear h4; obtain ⟨h4, h⟩ := h
 replace h := bindO_val h5 h; clear h5; obtain ⟨h5, h⟩ := h
 replace h := bindO_val h6 h; clear h6; obtain ⟨h6, h⟩ := h
 refine ⟨(Or.inl (PureFn.arg (ucd_table_class_ok kS1 (T_ranges_Table.mk v_L) h1) (And.intro (LeD.refl _) (And.intro (LeD.refl _) trivial)))), (Or.inl (PureFn.arg (ucd_table_wide_ok kS2 (T_ranges_Table.mk v1_L) h2) (And.intro (LeD.refl _) (And.intro (LeD.refl _) trivial)))), (Or.inl (PureFn.arg (ucd_table_join_ok kS3 (T_ranges_Table.mk v2_L) h3) (And.intro (LeD.refl _) (And.intro (LeD.refl _) trivial)))), (Or.inl (PureFn.arg (ucd_pairs_ok kS4 v3 h4) (And.intro (LeD.refl _) trivial))), (Or.inl (PureFn.arg (ucd_pairs_ok kS5 v4 h5) (And.intro (LeD.refl _) trivial))), (Or.inl (PureFn.arg (ucd_forms_ok kS6 v5 h6) (And.intro (LeD.refl _) trivial))), rfl, ?_⟩
 subst hN; have hr := Option.some.inj h
 subst hr
 try dsimp only [noGoto, inBlockQ, thenQ]
 repeat (first | refine Wt ?_ | refine We ?_)
 refine retQ_ret rfl ?_ ?_
 · exact (And.intro (rfl) trivial)
 exact (fun i _ _ j hj => by
  have hj2 : j < 6 := hj
  rcases (show j = 0 ∨ j = 1 ∨ j = 2 ∨ j = 3 ∨ j = 4 ∨ j = 5 by omega) with rfl | rfl | rfl | rfl | rfl | rfl
  · exact out0_sl (fun i j => out_ranges_Row _ _)
  · exact out0_sl (fun i j => out_ranges_Row _ _)
  · exact out0_sl (fun i j => out_ranges_Row _ _)
  · exact (And.intro (rfl) (And.intro Wy (And.intro (fun h => by cases h) (out0_all Wo Wp))))
  · exact (And.intro (rfl) (And.intro Wy (And.intro (fun h => by cases h) (out0_all Wo Wp))))
  exact (And.intro (rfl) (And.intro Wy (And.intro (fun h => by cases h) (out0_all Wo Wp)))))
end Go.Vx
