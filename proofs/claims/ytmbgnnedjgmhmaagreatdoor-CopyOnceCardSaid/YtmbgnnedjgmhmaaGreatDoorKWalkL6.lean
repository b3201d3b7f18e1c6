/- Walks, by program (lift.py). -/
import Derived.Test.YtmbgnnedjgmhmaaGreatDoorKWalk
import Derived.Test.YtmbgnnedjgmhmaaGreatDoorKWalkD
set_option linter.all false
namespace Go.Vx
open Go.Proofs
set_option maxRecDepth 100000
set_option maxHeartbeats 1000000
set_option linter.unusedVariables false
set_option linter.unusedSimpArgs false
attribute [local irreducible] chk Z6 Z7 Zp nilO

theorem Z6c (rows:(List Z5)) (y':Int) (at':Int) (r:Bool) (h:Qu rows y' at'=some r):Ze Tryz.prog 6 [(.sl 4 (nvS.len rows) false (fun ix jx=>(Y8 nvS (nvS.get Z3 rows ix) jx))),(.v (.int .i64 y')),(.v (.int .i64 at'))] ((.v (.bool r))):=by
  unfold Qu at h
  refine Wfn Tryz.func6 (Zj Tryz.f6) fun ctr hc=>?_
  refine Wo0 ?_
  refine Wo 21 0 (Z19) fun v h1=>?_
  refine Wo 23 0 (Z25 rows) fun v1 h2=>?_
  refine Wog 28 0 (!(!v1)) (Z1t (Yb.mk rows)) false fun v2 h3=>?_
  refine Wo 38 0 (Z5y) fun v3 h5=>?_
  obtain ⟨⟨v3_Class_L⟩,⟨v3_Wide_L⟩,⟨v3_Join_L⟩,v3_Mirror,v3_Brackets,v3_Forms⟩:=v3
  refine Wo 41 0 (view_Map_ok (Za.mk (Z4.mk v3_Class_L) (Z4.mk v3_Wide_L) (Z4.mk v3_Join_L) v3_Mirror v3_Brackets v3_Forms) rows (Int.tmod (Z0a .i64 y' 65535) (Z0 rows)) false) fun v4 h6=>?_
  obtain ⟨⟨v4_0_V2L,v4_0_L2V,v4_0_Cells,v4_0_Base⟩,v4_1⟩:=v4
  refine Wo 59 1 (Z46 (Zi.mk v4_0_V2L v4_0_L2V v4_0_Cells v4_0_Base) (Z1 Z3 rows (Int.tmod (Z0a .i64 y' 65535) (Z0 rows))) 0 (Int.tmod (Z0a .i64 at' 65535) ((Z0 (Z1 Z3 rows (Int.tmod (Z0a .i64 y' 65535) (Z0 rows))).fCells)+1))) fun v5 h10=>?_
  refine Wo 64 1 (Z46 (Zi.mk v4_0_V2L v4_0_L2V v4_0_Cells v4_0_Base) (Z1 Z3 rows (Int.tmod (Z0a .i64 y' 65535) (Z0 rows))) (Int.tmod (Z0a .i64 at' 65535) ((Z0 (Z1 Z3 rows (Int.tmod (Z0a .i64 y' 65535) (Z0 rows))).fCells)+1)) (Z0 (Z1 Z3 rows (Int.tmod (Z0a .i64 y' 65535) (Z0 rows))).fCells)) fun v6 h11=>?_
  refine Wo 68 1 (Z46 (Zi.mk v4_0_V2L v4_0_L2V v4_0_Cells v4_0_Base) (Z1 Z3 rows (Int.tmod (Z0a .i64 y' 65535) (Z0 rows))) 0 (Z0 (Z1 Z3 rows (Int.tmod (Z0a .i64 y' 65535) (Z0 rows))).fCells)) fun v7 h12=>?_
  revert h
  refine Wjp 12 [] 0 [] (Wq ?_)
  intro h
  intros
  refine Zx h (ctr+12) [(6,1),(11,2),(51,83)] [(70,1)] (fun met u=>⟨[],[(70,.arr (ctr+11) 1 (nvS.len (nvS.get Z3 rows ((std Tryz.prog).rem ((std Tryz.prog).bnd .i64 y' 65535) (nvS.len rows))).fCells) (u.t 70) (fun ix jx=>(.v (.int .i64 (nvS.get 0 met ix)))))],fun _=>Z0 met=(Z0 (Z1 Z3 rows (Int.tmod (Z0a .i64 y' 65535) (Z0 rows))).fCells)⟩) (fun met uc ug ut ht hu hp h=>?_) (fun f h=>?_)
  · try dsimp only at hp h
    refine Zx h uc [(6,1),(13,1),(133,58)] [] (fun _ u1=>Fa [] []) (fun x u1c u1g u1t ht hu hp h=>?_) (fun f h=>?_)
    · refine Wo0 ?_
      refine Wog 219 0 (if v=true then v4_1 else false) (copy_Text_ok (Z1 Z3 rows (Int.tmod (Z0a .i64 y' 65535) (Z0 rows))) v7) [] fun v8 h58=>?_
      refine Wog 222 0 (if v=true then v4_1 else false) (Z81 (Z1 Z3 rows (Int.tmod (Z0a .i64 y' 65535) (Z0 rows))) 0 (Z0 (Z1 Z3 rows (Int.tmod (Z0a .i64 y' 65535) (Z0 rows))).fCells)) [] fun v9 h59=>?_
      refine Wog 223 0 (if v=true then v4_1 else false) (Z1s v8 v9) false fun v10 h60=>?_
      refine Wk [] 0 [(28,[.freeze (.slot 16)])] Wz
    · revert h
      refine Wyp 1 [] 0 [] (Wq ?_)
      intro h
      intros
      refine Tr.block ?_
      refine Wlp h (uc+1) [(6,1),(13,1),(133,58)] [] (fun i u2=>Fa [(20,.v (.int .i64 i))] []) Yk (fun i u2c u2g u2t f ht hu hp h=>?_)
      revert h
      refine Wyp 1 [] 0 [] (Wq ?_)
      intro h
      intros
      refine Zx h (u2c+1) [(6,1),(152,53)] [] (fun _ u3=>Fa [] []) (fun x u3c u3g u3t ht hu hp h=>?_) (fun f h=>?_)
      · refine Wx [] 0 [] Wz
      · refine Tr.block ?_
        refine Tr.seq ?_
        revert h
        refine Wyt 8 [] 0 [] (Wq ?_)
        intro h
        intros
        revert h
        refine Wmore 6 (Wq ?_)
        intro h
        intros
        revert h
        refine Wmore 8 (Wq ?_)
        intro h
        intros
        revert h
        refine Wmore 8 (Wq ?_)
        intro h
        intros
        revert h
        refine Wmore 8 (Wq ?_)
        intro h
        intros
        revert h
        refine Wmore 7 (Wq ?_)
        intro h
        intros
        revert h
        refine Wlast (Wq ?_)
        intro h
        intros
        refine Wx [] 0 [] Wz
  · revert h
    refine Wyp 1 [] 0 [] (Wq ?_)
    intro h
    intros
    refine Tr.block ?_
    refine Wlp h (ctr+13) [(6,1),(11,2),(51,83)] [(70,1)] (fun (i2,met1) u4=>⟨[(18,.v (.int .i64 i2))],[(70,.arr (ctr+11) 1 (nvS.len (nvS.get Z3 rows ((std Tryz.prog).rem ((std Tryz.prog).bnd .i64 y' 65535) (nvS.len rows))).fCells) (u4.t 70) (fun ix jx=>(.v (.int .i64 (nvS.get 0 met1 ix)))))],fun _=>Z0 met1=(Z0 (Z1 Z3 rows (Int.tmod (Z0a .i64 y' 65535) (Z0 rows))).fCells)⟩) Yk (fun x u4c u4g u4t f ht hu hp h=>?_)
    obtain ⟨i2,met1⟩:=x
    try dsimp only at hp h
    revert h
    refine Wyp 1 [] 0 [] (Wq ?_)
    intro h
    intros
    refine Zx h (u4c+1) [(6,1),(12,1),(60,74)] [(70,1)] (fun met2 u5=>⟨[],[(70,.arr (ctr+11) 1 (nvS.len (nvS.get Z3 rows ((std Tryz.prog).rem ((std Tryz.prog).bnd .i64 y' 65535) (nvS.len rows))).fCells) (u5.t 70) (fun ix jx=>(.v (.int .i64 (nvS.get 0 met2 ix)))))],fun _=>Z0 met2=(Z0 (Z1 Z3 rows (Int.tmod (Z0a .i64 y' 65535) (Z0 rows))).fCells)⟩) (fun met2 u5c u5g u5t ht hu hp h=>?_) (fun f h=>?_)
    · try dsimp only at hp h
      refine Wx [] 0 [] Wz
    · refine Tr.block ?_
      revert h
      refine Wyp 1 [] 0 [] (Wq ?_)
      intro h
      intros
      refine Zx h (u4c+2) [(19,1),(60,15)] [] (fun c' u6=>Fa [(19,.v (.int .i64 c'))] []) (fun c' u6c u6g u6t ht hu hp h=>?_) (fun f h=>?_)
      · refine Zx h u6c [(6,1),(88,53)] [] (fun _ u7=>Fa [] []) (fun x u7c u7g u7t ht hu hp h=>?_) (fun f h=>?_)
        · refine Wx [] 0 [] Wz
        · refine Tr.seq ?_
          revert h
          refine Wyt 8 [] 0 [] (Wq ?_)
          intro h
          intros
          revert h
          refine Wmore 8 (Wq ?_)
          intro h
          intros
          revert h
          refine Wmore 9 (Wq ?_)
          intro h
          intros
          revert h
          refine Wmore 10 (Wq ?_)
          intro h
          intros
          revert h
          refine Wmore 9 (Wq ?_)
          intro h
          intros
          revert h
          refine Wlast (Wq ?_)
          intro h
          intros
          refine Wx [] 0 [] Wz
      · refine Wx [] 0 [] Wz
end Go.Vx
