/- Walks, by program (lift.py). -/
import Derived.Test.YtmbgnnedjgmhmaaGreatDoorKWalk
import Derived.Test.YtmbgnnedjgmhmaaGreatDoorKWalkD
set_option linter.all false
namespace Go.Vx
open Go.Proofs
set_option maxRecDepth 100000
set_option maxHeartbeats 1000000
set_option linter.unusedVariables false
set_option linter.unusedSimpArgs false
attribute [local irreducible] chk Z6 Z7 Zp nilO

theorem Z6p (rows:(List Z5)) (r:Bool) (h:Z07 rows=some r):Ze Tryz.prog 4 [(.sl 4 (nvS.len rows) false (fun ix jx=>(Y8 nvS (nvS.get Z3 rows ix) jx)))] ((.v (.bool r))):=by
  unfold Z07 at h
  refine Wfn Tryz.func4 (Zj Tryz.f4) fun ctr hc=>?_
  refine Wo0 ?_
  refine Wo 11 0 (Z19) fun v h1=>?_
  refine Wo 13 0 (Z25 rows) fun v1 h2=>?_
  refine Wog 18 0 (!(!v1)) (Z1t (Yb.mk rows)) false fun v2 h3=>?_
  refine Wo 22 0 (Z5y) fun v3 h4=>?_
  obtain ⟨⟨v3_Class_L⟩,⟨v3_Wide_L⟩,⟨v3_Join_L⟩,v3_Mirror,v3_Brackets,v3_Forms⟩:=v3
  refine Wo 24 1 (view_All_ok (Za.mk (Z4.mk v3_Class_L) (Z4.mk v3_Wide_L) (Z4.mk v3_Join_L) v3_Mirror v3_Brackets v3_Forms) rows true) fun v4 h5=>?_
  refine Wo 40 0 (copy_Span_ok v4 rows (Zu.mk ((Z0 rows)-1) ((Z0 (Z1 Z3 rows 0).fCells)-1)) Z01 65536) fun v5 h9=>?_
  obtain ⟨v5_0,v5_1⟩:=v5
  revert h
  refine Wjp 7 [] 0 [(6,[.freeze (.slot 4)])] (Wq ?_)
  intro h
  intros
  refine Zx h (ctr+8) [(8,3),(32,56)] [(82,1)] (fun want u=>Fa [(8,.vec 82 (u.g 82) 1 0 (nvS.len want))] [(82,.arr (u.g 82) 1 (nvS.len want) (u.t 82) (fun ix jx=>(.v (.int .i64 (nvS.get 0 want ix)))))]) (fun want uc ug ut ht hu hp h=>?_) (fun f h=>?_)
  · refine Wo0 ?_
    refine Wog 106 4 (if v=true then v5_1 else false) (Z1s v5_0 want) false fun v6 h44=>?_
    refine Wk [] 0 [] Wz
  · revert h
    refine Wyp 1 [] 0 [] (Wq ?_)
    intro h
    intros
    refine Tr.block ?_
    refine Wlp h (ctr+9) [(8,3),(32,56)] [(82,1)] (fun (y',want1) u1=>Fa [(8,.vec 82 (u1.g 82) 1 0 (nvS.len want1)),(9,.v (.int .i64 y'))] [(82,.arr (u1.g 82) 1 (nvS.len want1) (u1.t 82) (fun ix jx=>(.v (.int .i64 (nvS.get 0 want1 ix)))))]) Yk (fun x u1c u1g u1t f ht hu hp h=>?_)
    obtain ⟨y',want1⟩:=x
    try dsimp only at hp h
    revert h
    refine Wyp 1 [] 0 [] (Wq ?_)
    intro h
    intros
    refine Zx h (u1c+1) [(8,1),(1,1),(38,50)] [(54,1),(27,1),(15,1)] (fun want2 u2=>Fa [(8,.vec 82 (u2.g 82) 1 0 (nvS.len want2))] [(82,.arr (u2.g 82) 1 (nvS.len want2) (u2.t 82) (fun ix jx=>(.v (.int .i64 (nvS.get 0 want2 ix)))))]) (fun want2 u2c u2g u2t ht hu hp h=>?_) (fun f h=>?_)
    · refine Wx [] 0 [] Wz
    · refine Tr.block ?_
      refine Wo0 ?_
      refine Wo 54 1 (Z81 (Z1 Z3 rows y') 0 (Z0 (Z1 Z3 rows 0).fCells)) fun v7 h97=>?_
      revert h
      refine Wjp 1 [] 0 [] (Wq ?_)
      intro h
      intros
      refine Zx h (u1c+2) [(10,1),(44,25)] [] (fun (x_off,x_n) u3=>⟨[(10,.vec 54 (u1c+1) 1 x_off x_n)],[],fun _=>0≤x_off∧0≤x_n∧x_off+x_n≤Z0 v7⟩) (fun x u3c u3g u3t ht hu hp h=>?_) (fun f h=>?_)
      · obtain ⟨x_off,x_n⟩:=x
        try dsimp only at hp h
        refine Zx h u3c [(8,1),(71,3)] [(82,1)] (fun want3 u4=>Fa [(8,.vec 82 (u4.g 82) 1 0 (nvS.len want3))] [(82,.arr (u4.g 82) 1 (nvS.len want3) (u4.t 82) (fun ix jx=>(.v (.int .i64 (nvS.get 0 want3 ix)))))]) (fun want3 u4c u4g u4t ht hu hp h=>?_) (fun f h=>?_)
        · refine Wx [97] 0 [] Wz
        · refine Wx [] 0 [] Wz
      · refine Tr.block ?_
        have hnn0:=Zb (v7)
        refine Wlp h (u1c+2) [(10,1),(44,25)] [] (fun (x_off1,x_n1) u5=>⟨[(10,.vec 54 (u1c+1) 1 x_off1 x_n1)],[],fun _=>0≤x_off1∧0≤x_n1∧x_off1+x_n1≤Z0 v7⟩) Yk (fun x u5c u5g u5t f ht hu hp h=>?_)
        obtain ⟨x_off1,x_n1⟩:=x
        try dsimp only at hp h
        refine Wx [] 0 [] Wz
end Go.Vx
