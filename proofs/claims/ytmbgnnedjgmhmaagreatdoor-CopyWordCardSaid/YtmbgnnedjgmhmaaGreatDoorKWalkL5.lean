/- Walks, by program (lift.py). -/
import Derived.Test.YtmbgnnedjgmhmaaGreatDoorKWalk
import Derived.Test.YtmbgnnedjgmhmaaGreatDoorKWalkD
set_option linter.all false
namespace Go.Vx
open Go.Proofs
set_option maxRecDepth 100000
set_option maxHeartbeats 1000000
set_option linter.unusedVariables false
set_option linter.unusedSimpArgs false
attribute [local irreducible] chk Z6 Z7 Zp nilO

theorem Z6b (rows:(List Z5)) (y':Int) (r:Bool) (h:Qt rows y'=some r):Ze Tryz.prog 5 [(.sl 4 (nvS.len rows) false (fun ix jx=>(Y8 nvS (nvS.get Z3 rows ix) jx))),(.v (.int .i64 y'))] ((.v (.bool r))):=by
  unfold Qt at h
  refine Wfn Tryz.func5 (Zj Tryz.f5) fun ctr hc=>?_
  refine Wo0 ?_
  refine Wo 17 0 (Z19) fun v h1=>?_
  refine Wo 19 0 (Z25 rows) fun v1 h2=>?_
  refine Wog 24 0 (!(!v1)) (Z1t (Yb.mk rows)) false fun v2 h3=>?_
  refine Wo 34 0 (Z5y) fun v3 h5=>?_
  obtain ⟨⟨v3_Class_L⟩,⟨v3_Wide_L⟩,⟨v3_Join_L⟩,v3_Mirror,v3_Brackets,v3_Forms⟩:=v3
  refine Wo 37 0 (view_Map_ok (Za.mk (Z4.mk v3_Class_L) (Z4.mk v3_Wide_L) (Z4.mk v3_Join_L) v3_Mirror v3_Brackets v3_Forms) rows (Int.tmod (Z0a .i64 y' 65535) (Z0 rows)) false) fun v4 h6=>?_
  obtain ⟨⟨v4_0_V2L,v4_0_L2V,v4_0_Cells,v4_0_Base⟩,v4_1⟩:=v4
  revert h
  refine Wjp 7 [] 0 [] (Wq ?_)
  intro h
  intros
  refine Zx h (ctr+7) [(4,1),(5,7),(29,58)] [] (fun at' u=>Fa [(10,.v (.int .i64 at'))] []) (fun at' uc ug ut ht hu hp h=>?_) (fun f h=>?_)
  · refine Wx [] 0 [] Wz
  · revert h
    refine Wyp 1 [] 0 [] (Wq ?_)
    intro h
    intros
    refine Tr.block ?_
    refine Wlp h (ctr+8) [(4,1),(5,7),(29,58)] [] (fun (at'1,n) u1=>Fa [(10,.v (.int .i64 at'1)),(11,.v (.int .i64 n))] []) Yk (fun x u1c u1g u1t f ht hu hp h=>?_)
    obtain ⟨at'1,n⟩:=x
    try dsimp only at hp h
    revert h
    refine Wyp 1 [] 0 [] (Wq ?_)
    intro h
    intros
    refine Zx h (u1c+1) [(4,1),(5,1),(1,5),(39,48)] [] (fun at'2 u2=>Fa [(10,.v (.int .i64 at'2))] []) (fun at'2 u2c u2g u2t ht hu hp h=>?_) (fun f h=>?_)
    · refine Wx [] 0 [] Wz
    · refine Tr.block ?_
      refine Wo0 ?_
      refine Wo 63 0 (copy_Word_ok (Zi.mk v4_0_V2L v4_0_L2V v4_0_Cells v4_0_Base) (Z1 Z3 rows (Int.tmod (Z0a .i64 y' 65535) (Z0 rows))) at'1) fun v5 h54=>?_
      obtain ⟨v5_0,v5_1⟩:=v5
      revert h
      refine Wjp 2 [] 0 [] (Wq ?_)
      intro h
      intros
      refine Zx h (u1c+3) [(4,1),(9,3),(62,24)] [] (fun _ u3=>Fa [] []) (fun x u3c u3g u3t ht hu hp h=>?_) (fun f h=>?_)
      · refine Wx [] 0 [] Wz
      · revert h
        refine Wyp 1 [] 0 [] (Wq ?_)
        intro h
        intros
        refine Tr.block ?_
        refine Wlp h (u1c+4) [(4,1),(9,3),(63,23)] [] (fun i u4=>Fa [(14,.v (.int .i64 i))] []) Yk (fun i u4c u4g u4t f ht hu hp h=>?_)
        refine Wo0 ?_
        refine Wo 92 0 (copy_Word_ok (Zi.mk v4_0_V2L v4_0_L2V v4_0_Cells v4_0_Base) (Z1 Z3 rows (Int.tmod (Z0a .i64 y' 65535) (Z0 rows))) i) fun v6 h68=>?_
        obtain ⟨v6_0,v6_1⟩:=v6
        refine Wk [] 0 [] Wz
end Go.Vx
