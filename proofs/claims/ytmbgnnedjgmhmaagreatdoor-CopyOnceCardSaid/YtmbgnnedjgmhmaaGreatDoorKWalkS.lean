/- Walks, by program (lift.py). -/
import Derived.Test.YtmbgnnedjgmhmaaGreatDoorKWalk
import Derived.Test.YtmbgnnedjgmhmaaGreatDoorKWalkE
import Derived.Test.YtmbgnnedjgmhmaaGreatDoorKWalkW
import Derived.Test.YtmbgnnedjgmhmaaGreatDoorKWalkSd
import Derived.Test.YtmbgnnedjgmhmaaGreatDoorKWalkCh
set_option linter.all false
namespace Go.Vx
open Go.Proofs
set_option maxRecDepth 100000
set_option maxHeartbeats 1000000
set_option linter.unusedVariables false
set_option linter.unusedSimpArgs false
attribute [local irreducible] chk Z6 Z7 Zp nilO

theorem Z7i (c':Int) (r:Bool) (h:Z0w c'=some r):Ze Tryz.prog 110 [(.v (.int .i64 c'))] ((.v (.bool r))):=by
  unfold Z0w at h
  refine Wfn Tryz.func110 (Zj Tryz.f110) fun ctr hc=>?_
  refine Wx [] 0 [] Wz

theorem pen_Sane_ok (p':Q1) (r:Bool) (h:Z4e p'=some r):Ze Tryz.prog 86 [(.agg 3 (fun j=>(Z50 nvS p' j)))] ((.v (.bool r))):=by
  obtain ⟨p_Fg,p_Bg,p_Flags⟩:=p'
  unfold Z4e at h
  try dsimp only at h
  refine Wfn Tryz.func86 (Zj Tryz.f86) fun ctr hc=>?_
  refine Wo0 ?_
  refine Wo 5 0 (Z7i p_Fg) fun v h1=>?_
  refine Wog 9 0 v (Z7i p_Bg) false fun v1 h2=>?_
  refine Wk [] 0 [] Wz

theorem row_fits_ok (c':Zc) (r:Bool) (h:Z26 c'=some r):Ze Tryz.prog 59 [(.agg 7 (fun j=>(Yr nvS c' j)))] ((.v (.bool r))):=by
  obtain ⟨c_R,⟨c_M_x0,c_M_x1⟩,c_W,⟨c_Pen_Fg,c_Pen_Bg,c_Pen_Flags⟩⟩:=c'
  unfold Z26 at h
  try dsimp only at h
  refine Wfn Tryz.func59 (Zj Tryz.f59) fun ctr hc=>?_
  revert h
  refine Wyp 1 [] 0 [] (Wq ?_)
  intro h
  intros
  refine Zx h (ctr+1) [(2,1),(1,22)] [] (fun _ u=>Fa [] []) (fun x uc ug ut ht hu hp h=>?_) (fun f h=>?_)
  · refine Wo0 ?_
    refine Wog 49 0 (!(if (if (decide (c_R < 0))=true then true else (decide (1114111 < c_R)))=true then true else (if (c_M_x0 == 0)=true then (!(c_M_x1 == 0)) else false))) (pen_Sane_ok (Q1.mk c_Pen_Fg c_Pen_Bg c_Pen_Flags)) false fun v h3=>?_
    refine Wk [] 0 [] Wz
  · revert h
    refine Wyp 1 [] 0 [] (Wq ?_)
    intro h
    intros
    refine Tr.block ?_
    refine Tr.rounds 3 ?_
    refine Wrnd h (ctr+2) [(2,1),(1,1),(2,19)] [] (fun _ u1=>Fa [(7,.v (.int .i64 1))] []) (fun x u1c u1g u1t ht hu hp h=>?_) (fun f h=>?_)
    · refine Wrnd h u1c [(2,1),(1,1),(2,19)] [] (fun _ u2=>Fa [(7,.v (.int .i64 2))] []) (fun x u2c u2g u2t ht hu hp h=>?_) (fun f h=>?_)
      · refine Wx [] 0 [] Wz
      · refine Wx [] 0 [] Wz
    · refine Wx [] 0 [] Wz

theorem row_lost_ok (l':(List Zc)) (i:Int) (r:Bool) (h:Z5d l' i=some r):Ze Tryz.prog 60 [(.sl 7 (nvS.len l') false (fun ix jx=>(Yr nvS (nvS.get Z2 l' ix) jx))),(.v (.int .i64 i))] ((.v (.bool r))):=by
  unfold Z5d at h
  refine Wfn Tryz.func60 (Zj Tryz.f60) fun ctr hc=>?_
  refine Wx [] 0 [] Wz

theorem Z5z (r':Z5) (r:Bool) (h:Yx r'=some r):Ze Tryz.prog 39 [(.agg 4 (fun j=>(Y8 nvS r' j)))] ((.v (.bool r))):=by
  obtain ⟨r_Cells,r_Wrap,r_Dir,r_Explicit⟩:=r'
  unfold Yx at h
  try dsimp only at h
  refine Wfn Tryz.func39 (Zj Tryz.f39) fun ctr hc=>?_
  revert h
  refine Wyp 2 [] 0 [] (Wq ?_)
  intro h
  intros
  refine Zx h (ctr+2) [(2,3),(20,18)] [] (fun _ u=>Fa [] []) (fun x uc ug ut ht hu hp h=>?_) (fun f h=>?_)
  · refine Wx [] 0 [] Wz
  · revert h
    refine Wyp 1 [] 0 [] (Wq ?_)
    intro h
    intros
    refine Tr.block ?_
    refine Wlp h (ctr+3) [(2,3),(23,15)] [(4,1)] (fun v u1=>Fa [(28,.v (.int .i64 v))] []) Yk (fun v u1c u1g u1t f ht hu hp h=>?_)
    refine Wo0 ?_
    refine Wo 34 0 (row_fits_ok (Z1 Z2 r_Cells v)) fun v1 h18=>?_
    refine Wog 40 0 (!(!v1)) (row_lost_ok r_Cells v) false fun v2 h19=>?_
    refine Wk [] 0 [] Wz

theorem view_sane_ok (l':(List Z5)) (r:Bool) (h:Xg l'=some r):Ze Tryz.prog 21 [(.sl 4 (nvS.len l') false (fun ix jx=>(Y8 nvS (nvS.get Z3 l' ix) jx)))] ((.v (.bool r))):=by
  unfold Xg at h
  refine Wfn Tryz.func21 (Zj Tryz.f21) fun ctr hc=>?_
  revert h
  refine Wyp 1 [] 0 [] (Wq ?_)
  intro h
  intros
  refine Zx h (ctr+1) [(2,1),(1,11)] [] (fun _ u=>Fa [] []) (fun x uc ug ut ht hu hp h=>?_) (fun f h=>?_)
  · refine Wx [] 0 [] Wz
  · revert h
    refine Wyp 1 [] 0 [] (Wq ?_)
    intro h
    intros
    refine Tr.block ?_
    refine Wlp h (ctr+2) [(2,1),(1,1),(2,8)] [(4,1)] (fun v u1=>Fa [(7,.v (.int .i64 v))] []) Yk (fun v u1c u1g u1t f ht hu hp h=>?_)
    refine Wo0 ?_
    refine Wo 12 0 (Z5z (Z1 Z3 l' v)) fun v1 h14=>?_
    refine Wk [] 0 [] Wz

theorem Z4o (r':Z5) (r:((List Int) × (List Int))) (h:Z0x r'=some r):Ze Tryz.prog 43 [(.agg 4 (fun j=>(Y8 nvS r' j)))] (.tup 2 (fun j=>match j with | 0=>(.sl 1 (nvS.len r.1) false (fun ix jx=>(.v (.int .i64 (nvS.get 0 r.1 ix))))) | 1=>(.sl 1 (nvS.len r.2) false (fun ix jx=>(.v (.int .i64 (nvS.get 0 r.2 ix))))) | _=>.junk)):=by
  obtain ⟨r_Cells,r_Wrap,r_Dir,r_Explicit⟩:=r'
  unfold Z0x at h
  try dsimp only at h
  refine Wfn Tryz.func43 (Zj Tryz.f43) fun ctr hc=>?_
  revert h
  refine Wyp 2 [] 0 [] (Wq ?_)
  intro h
  intros
  refine Zx h (ctr+2) [(4,2),(1,26)] [(26,1),(4,1)] (fun (out,widths) u=>Fa [(4,.vec 26 (u.g 26) 1 0 (nvS.len out)),(5,.vec 31 (u.g 31) 1 0 (nvS.len widths))] [(26,.arr (u.g 26) 1 (nvS.len out) (u.t 26) (fun ix jx=>(.v (.int .i64 (nvS.get 0 out ix))))),(31,.arr (u.g 31) 1 (nvS.len widths) (u.t 31) (fun ix jx=>(.v (.int .i64 (nvS.get 0 widths ix)))))]) (fun x uc ug ut ht hu hp h=>?_) (fun f h=>?_)
  · obtain ⟨out,widths⟩:=x
    try dsimp only at hp h
    refine Wx [] 0 [] Wz
  · revert h
    refine Wyp 1 [] 0 [] (Wq ?_)
    intro h
    intros
    refine Tr.block ?_
    refine Wlp h (ctr+3) [(4,2),(1,2),(3,21)] [(7,1),(18,1),(4,1)] (fun (v,Zf,widths1) u1=>Fa [(4,.vec 26 (u1.g 26) 1 0 (nvS.len Zf)),(5,.vec 31 (u1.g 31) 1 0 (nvS.len widths1)),(12,.v (.int .i64 v))] [(26,.arr (u1.g 26) 1 (nvS.len Zf) (u1.t 26) (fun ix jx=>(.v (.int .i64 (nvS.get 0 Zf ix))))),(31,.arr (u1.g 31) 1 (nvS.len widths1) (u1.t 31) (fun ix jx=>(.v (.int .i64 (nvS.get 0 widths1 ix)))))]) Yk (fun x u1c u1g u1t f ht hu hp h=>?_)
    obtain ⟨v,Zf,widths1⟩:=x
    try dsimp only at hp h
    refine Wx [25,30] 0 [] Wz

theorem Z4p (s:List Int) (s_off:Int) (s_n:Int) (r:(List Int)) (h:Xi s s_off s_n=some r) (s_N:Int) (hs_N:Z0 s=s_N) (tg0:Bool):X4 Tryz.prog 111 [.vec 0 0 1 s_off s_n] [.arr 0 1 s_N tg0 (fun ix jx=>(.v (.int .i64 (nvS.get 0 s ix))))] [.arr 0 1 s_N tg0 (fun ix jx=>(.v (.int .i64 (nvS.get 0 r ix))))] (.tup 0 (fun _=>.junk)):=by
  unfold Xi at h
  refine Wfl Tryz.func111 (Zj Tryz.f111) fun ctr hc=>?_
  replace h:=Xa h;obtain ⟨h20,h⟩:=h
  revert h
  refine Wyp 1 [] 1 [] (Wq ?_)
  intro h
  intros
  refine Tr.block ?_
  refine Wlp h (ctr+1) [(2,2),(3,21)] [(0,1)] (fun (i,j1,s1) u=>⟨[(2,.v (.int .i64 i)),(3,.v (.int .i64 j1))],[(0,.arr (0) 1 s_N (tg0) (fun ix jx=>(.v (.int .i64 (nvS.get 0 s1 ix)))))],fun _=>Z0 s1=s_N⟩) Yk (fun x uc ug ut f ht hu hp h=>?_)
  obtain ⟨i,j1,s1⟩:=x
  try dsimp only at hp h
  refine Wx [] 1 [] Wz

theorem order_Visual_ok (levels:(List Int)) (r:(List Int)) (h:Q8 levels=some r):Ze Tryz.prog 87 [(.sl 1 (nvS.len levels) false (fun ix jx=>(.v (.int .i64 (nvS.get 0 levels ix)))))] (.own 1 (nvS.len r) false (fun ix jx=>(.v (.int .i64 (nvS.get 0 r ix))))):=by
  unfold Q8 at h
  refine Wfn Tryz.func87 (Zj Tryz.f87) fun ctr hc=>?_
  revert h
  refine Wyp 4 [] 0 [] (Wq ?_)
  intro h
  intros
  refine Zx h (ctr+4) [(5,4),(9,28)] [(14,1),(2,1)] (fun (most,Xf,l',out) u=>⟨[(5,.v (.int .i64 most)),(6,.v (.int .i64 Xf))],[(14,.arr (ctr+1) 1 (nvS.len levels) (u.t 14) (fun ix jx=>(.v (.int .i64 (nvS.get 0 l' ix))))),(17,.arr (ctr+2) 1 (nvS.len levels) (u.t 17) (fun ix jx=>(.v (.int .i64 (nvS.get 0 out ix)))))],fun _=>Z0 l'=(Z0 levels)∧Z0 out=(Z0 levels)⟩) (fun x uc ug ut ht hu hp h=>?_) (fun f h=>?_)
  · obtain ⟨most,Xf,l',out⟩:=x
    try dsimp only at hp h
    refine Zx h uc [(9,3),(34,32)] [(17,1)] (fun Zf u1=>⟨[],[(17,.arr (ctr+2) 1 (nvS.len levels) (u1.t 17) (fun ix jx=>(.v (.int .i64 (nvS.get 0 Zf ix)))))],fun _=>Z0 Zf=(Z0 levels)⟩) (fun Zf u1c u1g u1t ht hu hp h=>?_) (fun f h=>?_)
    · try dsimp only at hp h
      refine Wx [] 0 [] Wz
    · revert h
      refine Wyp 1 [] 0 [] (Wq ?_)
      intro h
      intros
      refine Tr.block ?_
      refine Wlp h (uc+1) [(9,3),(35,31)] [(17,1)] (fun (level,out2) u2=>⟨[(9,.v (.int .i64 level))],[(17,.arr (ctr+2) 1 (nvS.len levels) (u2.t 17) (fun ix jx=>(.v (.int .i64 (nvS.get 0 out2 ix)))))],fun _=>Z0 out2=(Z0 levels)⟩) Yk (fun x u2c u2g u2t f ht hu hp h=>?_)
      obtain ⟨level,out2⟩:=x
      try dsimp only at hp h
      revert h
      refine Wyp 1 [] 0 [] (Wq ?_)
      intro h
      intros
      refine Zx h (u2c+1) [(10,2),(40,26)] [(17,1)] (fun out3 u3=>⟨[],[(17,.arr (ctr+2) 1 (nvS.len levels) (u3.t 17) (fun ix jx=>(.v (.int .i64 (nvS.get 0 out3 ix)))))],fun _=>Z0 out3=(Z0 levels)⟩) (fun out3 u3c u3g u3t ht hu hp h=>?_) (fun f h=>?_)
      · try dsimp only at hp h
        refine Wx [] 0 [] Wz
      · refine Tr.block ?_
        revert h
        refine Wyp 1 [] 0 [] (Wq ?_)
        intro h
        intros
        refine Tr.block ?_
        refine Wlp h (u2c+2) [(10,2),(40,26)] [(17,1)] (fun (from',out4) u4=>⟨[(10,.v (.int .i64 from'))],[(17,.arr (ctr+2) 1 (nvS.len levels) (u4.t 17) (fun ix jx=>(.v (.int .i64 (nvS.get 0 out4 ix)))))],fun _=>Z0 out4=(Z0 levels)⟩) Yk (fun x u4c u4g u4t f ht hu hp h=>?_)
        obtain ⟨from',out4⟩:=x
        try dsimp only at hp h
        revert h
        refine Wyp 1 [] 0 [] (Wq ?_)
        intro h
        intros
        refine Tr.block ?_
        revert h
        refine Wyp 1 [] 0 [] (Wq ?_)
        intro h
        intros
        refine Zx h (u4c+2) [(11,1),(45,14)] [] (fun to u5=>Fa [(11,.v (.int .i64 to))] []) (fun to u5c u5g u5t ht hu hp h=>?_) (fun f h=>?_)
        · refine Wo0 ?_
          refine Wol 75 (fun r h=>Z4p out4 (0+from') (to-from') r h ((nvS.len levels)) Wy (u4t 17)) fun v h121=>?_
          refine Wk [] 0 [] Wz
        · refine Tr.block ?_
          refine Wlp h (u4c+2) [(11,1),(45,14)] [] (fun to1 u6=>Fa [(11,.v (.int .i64 to1))] []) Yk (fun to1 u6c u6g u6t f ht hu hp h=>?_)
          refine Wx [] 0 [] Wz
  · revert h
    refine Wyp 1 [] 0 [] (Wq ?_)
    intro h
    intros
    refine Tr.block ?_
    refine Wlp h (ctr+5) [(5,4),(11,26)] [(14,1),(2,1)] (fun (most1,least1,v1,l'1,out5) u7=>⟨[(5,.v (.int .i64 most1)),(6,.v (.int .i64 least1)),(20,.v (.int .i64 v1))],[(14,.arr (ctr+1) 1 (nvS.len levels) (u7.t 14) (fun ix jx=>(.v (.int .i64 (nvS.get 0 l'1 ix))))),(17,.arr (ctr+2) 1 (nvS.len levels) (u7.t 17) (fun ix jx=>(.v (.int .i64 (nvS.get 0 out5 ix)))))],fun _=>Z0 l'1=(Z0 levels)∧Z0 out5=(Z0 levels)⟩) Yk (fun x u7c u7g u7t f ht hu hp h=>?_)
    obtain ⟨most1,least1,v1,l'1,out5⟩:=x
    try dsimp only at hp h
    refine Wx [] 0 [] Wz

theorem order_Cells_ok (levels:(List Int)) (widths:(List Int)) (r:((List Int) × Bool)) (h:Z4f levels widths=some r):Ze Tryz.prog 62 [(.sl 1 (nvS.len levels) false (fun ix jx=>(.v (.int .i64 (nvS.get 0 levels ix))))),(.sl 1 (nvS.len widths) false (fun ix jx=>(.v (.int .i64 (nvS.get 0 widths ix)))))] (.tup 2 (fun j=>match j with | 0=>(.sl 1 (nvS.len r.1) false (fun ix jx=>(.v (.int .i64 (nvS.get 0 r.1 ix))))) | 1=>(.v (.bool r.2)) | _=>.junk)):=by
  unfold Z4f at h
  refine Wfn Tryz.func62 (Zj Tryz.f62) fun ctr hc=>?_
  revert h
  refine Wyp 4 [] 0 [] (Wq ?_)
  intro h
  intros
  refine Zx h (ctr+4) [(4,2),(1,3),(12,21)] [(21,1)] (fun (n,starts) u=>⟨[(7,.v (.int .i64 n))],[(21,.arr (ctr+2) 1 (nvS.len widths) (u.t 21) (fun ix jx=>(.v (.int .i64 (nvS.get 0 starts ix)))))],fun _=>Z0 starts=(Z0 widths)⟩) (fun x uc ug ut ht hu hp h=>?_) (fun f h=>?_)
  · obtain ⟨n,starts⟩:=x
    try dsimp only at hp h
    revert h
    refine Wyp 1 [] 0 [] (Wq ?_)
    intro h
    intros
    refine Zx h (uc+1) [(10,1),(1,2),(31,25)] [(44,1),(1,1)] (fun out u1=>Fa [(10,.vec 44 (u1.g 44) 1 0 (nvS.len out))] [(44,.arr (u1.g 44) 1 (nvS.len out) (u1.t 44) (fun ix jx=>(.v (.int .i64 (nvS.get 0 out ix)))))]) (fun out u1c u1g u1t ht hu hp h=>?_) (fun f h=>?_)
    · refine Wx [] 0 [] Wz
    · refine Wo0 ?_
      refine Wo 46 1 (order_Visual_ok levels) fun v h34=>?_
      revert h
      refine Wjp 1 [] 0 [] (Wq ?_)
      intro h
      intros
      refine Tr.block ?_
      refine Wlp h (uc+2) [(10,1),(1,2),(34,22)] [(44,1)] (fun (v1,Zf) u2=>Fa [(10,.vec 44 (u2.g 44) 1 0 (nvS.len Zf)),(48,.v (.int .i64 v1))] [(44,.arr (u2.g 44) 1 (nvS.len Zf) (u2.t 44) (fun ix jx=>(.v (.int .i64 (nvS.get 0 Zf ix)))))]) Yk (fun x u2c u2g u2t f ht hu hp h=>?_)
      obtain ⟨v1,Zf⟩:=x
      try dsimp only at hp h
      revert h
      refine Wyp 2 [] 0 [] (Wq ?_)
      intro h
      intros
      refine Zx h (u2c+1) [(10,1),(1,2),(36,19)] [(44,1)] (fun out2 u3=>Fa [(10,.vec 44 (u3.g 44) 1 0 (nvS.len out2))] [(44,.arr (u3.g 44) 1 (nvS.len out2) (u3.t 44) (fun ix jx=>(.v (.int .i64 (nvS.get 0 out2 ix)))))]) (fun out2 u3c u3g u3t ht hu hp h=>?_) (fun f h=>?_)
      · refine Wx [] 0 [] Wz
      · refine Tr.block ?_
        revert h
        refine Wyp 2 [] 0 [] (Wq ?_)
        intro h
        intros
        refine Tr.block ?_
        refine Wlp h (u2c+3) [(10,1),(2,1),(42,13)] [(44,1),(22,1)] (fun (v2,out3) u4=>Fa [(10,.vec 44 (u4.g 44) 1 0 (nvS.len out3)),(56,.v (.int .i64 v2))] [(44,.arr (u4.g 44) 1 (nvS.len out3) (u4.t 44) (fun ix jx=>(.v (.int .i64 (nvS.get 0 out3 ix)))))]) Yk (fun x u4c u4g u4t f ht hu hp h=>?_)
        obtain ⟨v2,out3⟩:=x
        try dsimp only at hp h
        refine Wx [66] 0 [] Wz
  · revert h
    refine Wyp 1 [] 0 [] (Wq ?_)
    intro h
    intros
    refine Tr.block ?_
    refine Wlp h (ctr+5) [(4,2),(1,3),(14,19)] [(21,1)] (fun (n1,v3,starts1) u5=>⟨[(7,.v (.int .i64 n1)),(24,.v (.int .i64 v3))],[(21,.arr (ctr+2) 1 (nvS.len widths) (u5.t 21) (fun ix jx=>(.v (.int .i64 (nvS.get 0 starts1 ix)))))],fun _=>Z0 starts1=(Z0 widths)⟩) Yk (fun x u5c u5g u5t f ht hu hp h=>?_)
    obtain ⟨n1,v3,starts1⟩:=x
    try dsimp only at hp h
    refine Wx [] 0 [] Wz

theorem Z7j (l':(List Int)) (r:((List Int) × Bool)) (h:Z03 l'=some r):Ze Tryz.prog 61 [(.sl 1 (nvS.len l') false (fun ix jx=>(.v (.int .i64 (nvS.get 0 l' ix)))))] (.tup 2 (fun j=>match j with | 0=>(.sl 1 (nvS.len r.1) false (fun ix jx=>(.v (.int .i64 (nvS.get 0 r.1 ix))))) | 1=>(.v (.bool r.2)) | _=>.junk)):=by
  unfold Z03 at h
  refine Wfn Tryz.func61 (Zj Tryz.f61) fun ctr hc=>?_
  revert h
  refine Wyp 2 [] 0 [] (Wq ?_)
  intro h
  intros
  refine Zx h (ctr+2) [(5,1),(5,9)] [(10,1)] (fun out u=>⟨[],[(10,.arr (ctr+1) 1 (nvS.len l') (u.t 10) (fun ix jx=>(.v (.int .i64 (nvS.get 0 out ix)))))],fun _=>Z0 out=(Z0 l')⟩) (fun out uc ug ut ht hu hp h=>?_) (fun f h=>?_)
  · try dsimp only at hp h
    refine Zx h uc [(2,2),(2,2),(12,27)] [(10,1)] (fun Zf u1=>⟨[],[(10,.arr (ctr+1) 1 (nvS.len l') (u1.t 10) (fun ix jx=>(.v (.int .i64 (nvS.get 0 Zf ix)))))],fun _=>Z0 Zf=(Z0 l')⟩) (fun Zf u1c u1g u1t ht hu hp h=>?_) (fun f h=>?_)
    · try dsimp only at hp h
      refine Wx [] 0 [] Wz
    · revert h
      refine Wyp 1 [] 0 [] (Wq ?_)
      intro h
      intros
      refine Tr.block ?_
      refine Wlp h (uc+1) [(2,2),(2,2),(14,25)] [(10,1)] (fun (v,out2) u2=>⟨[(22,.v (.int .i64 v))],[(10,.arr (ctr+1) 1 (nvS.len l') (u2.t 10) (fun ix jx=>(.v (.int .i64 (nvS.get 0 out2 ix)))))],fun _=>Z0 out2=(Z0 l')⟩) Yk (fun x u2c u2g u2t f ht hu hp h=>?_)
      obtain ⟨v,out2⟩:=x
      try dsimp only at hp h
      refine Wx [] 0 [] Wz
  · revert h
    refine Wyp 1 [] 0 [] (Wq ?_)
    intro h
    intros
    refine Tr.block ?_
    refine Wlp h (ctr+3) [(5,1),(7,7)] [(10,1)] (fun (v1,out3) u3=>⟨[(13,.v (.int .i64 v1))],[(10,.arr (ctr+1) 1 (nvS.len l') (u3.t 10) (fun ix jx=>(.v (.int .i64 (nvS.get 0 out3 ix)))))],fun _=>Z0 out3=(Z0 l')⟩) Yk (fun x u3c u3g u3t f ht hu hp h=>?_)
    obtain ⟨v1,out3⟩:=x
    try dsimp only at hp h
    refine Wx [] 0 [] Wz

theorem Z83 (cells:(List Zc)) (levels:(List Int)) (widths:(List Int)) (base:Int) (r:Zi) (h:Z32 cells levels widths base=some r):Ze Tryz.prog 44 [(.sl 7 (nvS.len cells) false (fun ix jx=>(Yr nvS (nvS.get Z2 cells ix) jx))),(.sl 1 (nvS.len levels) false (fun ix jx=>(.v (.int .i64 (nvS.get 0 levels ix))))),(.sl 1 (nvS.len widths) false (fun ix jx=>(.v (.int .i64 (nvS.get 0 widths ix))))),(.v (.int .i64 base))] ((.agg 4 (fun j=>(Yz nvS r j)))):=by
  unfold Z32 at h
  refine Wfn Tryz.func44 (Zj Tryz.f44) fun ctr hc=>?_
  refine Wo0 ?_
  refine Wo 17 0 (order_Cells_ok levels widths) fun v h1=>?_
  obtain ⟨v_0,v_1⟩:=v
  refine Wo 24 0 (Z7j v_0) fun v1 h2=>?_
  obtain ⟨v1_0,v1_1⟩:=v1
  revert h
  refine Wjp 5 [] 0 [] (Wq ?_)
  intro h
  intros
  refine Zx h (ctr+5) [(10,2),(21,17)] [(31,1)] (fun o u=>⟨[],[(31,.arr (ctr+4) 7 (nvS.len v_0) (u.t 31) (fun ix jx=>(Yr nvS (nvS.get Z2 o ix) jx)))],fun _=>Z0 o=(Z0 v_0)⟩) (fun o uc ug ut ht hu hp h=>?_) (fun f h=>?_)
  · try dsimp only at hp h
    refine Wx [] 0 [] Wz
  · revert h
    refine Wyp 1 [] 0 [] (Wq ?_)
    intro h
    intros
    refine Tr.block ?_
    refine Wlp h (ctr+6) [(10,2),(24,14)] [(31,1)] (fun (v2,o1) u1=>⟨[(36,.v (.int .i64 v2))],[(31,.arr (ctr+4) 7 (nvS.len v_0) (u1.t 31) (fun ix jx=>(Yr nvS (nvS.get Z2 o1 ix) jx)))],fun _=>Z0 o1=(Z0 v_0)⟩) Yk (fun x u1c u1g u1t f ht hu hp h=>?_)
    obtain ⟨v2,o1⟩:=x
    try dsimp only at hp h
    refine Wx [] 0 [] Wz

theorem Z9b (r':Z5) (r:Zi) (h:Z2g r'=some r):Ze Tryz.prog 22 [(.agg 4 (fun j=>(Y8 nvS r' j)))] ((.agg 4 (fun j=>(Yz nvS r j)))):=by
  obtain ⟨r_Cells,r_Wrap,r_Dir,r_Explicit⟩:=r'
  unfold Z2g at h
  try dsimp only at h
  refine Wfn Tryz.func22 (Zj Tryz.f22) fun ctr hc=>?_
  refine Wo0 ?_
  refine Wo 9 0 (Z4o (Z5.mk r_Cells r_Wrap r_Dir r_Explicit)) fun v h1=>?_
  obtain ⟨v_0,v_1⟩:=v
  refine Wo 22 0 (Z83 r_Cells (Z0n (Z0 v_0) 0) v_1 0) fun v1 h3=>?_
  obtain ⟨v1_V2L,v1_L2V,v1_Cells,v1_Base⟩:=v1
  revert h
  refine Wjp 4 [] 0 [(4,[.freeze (.slot 5)])] (Wq ?_)
  intro h
  intros
  refine Zx h (ctr+4) [(6,1),(16,9)] [(14,1)] (fun levels u=>⟨[],[(14,.arr (ctr+2) 1 (nvS.len v_0) (u.t 14) (fun ix jx=>(.v (.int .i64 (nvS.get 0 levels ix)))))],fun _=>Z0 levels=(Z0 v_0)⟩) (fun levels uc ug ut ht hu hp h=>?_) (fun f h=>?_)
  · try dsimp only at hp h
    refine Wo0 ?_
    refine Wo 36 0 (Z83 r_Cells levels v_1 1) fun v2 h8=>?_
    obtain ⟨v2_V2L,v2_L2V,v2_Cells,v2_Base⟩:=v2
    refine Wk [] 0 [(10,[.freeze (.slot 5)])] Wz
  · revert h
    refine Wyp 1 [] 0 [] (Wq ?_)
    intro h
    intros
    refine Tr.block ?_
    refine Wlp h (ctr+5) [(6,1),(18,7)] [(14,1)] (fun (v3,levels1) u1=>⟨[(25,.v (.int .i64 v3))],[(14,.arr (ctr+2) 1 (nvS.len v_0) (u1.t 14) (fun ix jx=>(.v (.int .i64 (nvS.get 0 levels1 ix)))))],fun _=>Z0 levels1=(Z0 v_0)⟩) Yk (fun x u1c u1g u1t f ht hu hp h=>?_)
    obtain ⟨v3,levels1⟩:=x
    try dsimp only at hp h
    refine Wx [] 0 [] Wz

theorem Z84 (l':(List Z5)) (r:(List Int)) (h:Z1o l'=some r):Ze Tryz.prog 47 [(.sl 4 (nvS.len l') false (fun ix jx=>(Y8 nvS (nvS.get Z3 l' ix) jx)))] (.own 1 (nvS.len r) false (fun ix jx=>(.v (.int .i64 (nvS.get 0 r ix))))):=by
  unfold Z1o at h
  refine Wfn Tryz.func47 (Zj Tryz.f47) fun ctr hc=>?_
  revert h
  refine Wyp 2 [] 0 [] (Wq ?_)
  intro h
  intros
  refine Zx h (ctr+2) [(3,1),(1,18)] [(21,1)] (fun out u=>Fa [(3,.vec 21 (u.g 21) 1 0 (nvS.len out))] [(21,.arr (u.g 21) 1 (nvS.len out) (u.t 21) (fun ix jx=>(.v (.int .i64 (nvS.get 0 out ix)))))]) (fun out uc ug ut ht hu hp h=>?_) (fun f h=>?_)
  · refine Wx [] 0 [] Wz
  · revert h
    refine Wyp 1 [] 0 [] (Wq ?_)
    intro h
    intros
    refine Tr.block ?_
    refine Wlp h (ctr+3) [(3,1),(1,3),(2,13)] [(5,1),(15,1)] (fun (v,Zf) u1=>Fa [(3,.vec 21 (u1.g 21) 1 0 (nvS.len Zf)),(10,.v (.int .i64 v))] [(21,.arr (u1.g 21) 1 (nvS.len Zf) (u1.t 21) (fun ix jx=>(.v (.int .i64 (nvS.get 0 Zf ix)))))]) Yk (fun x u1c u1g u1t f ht hu hp h=>?_)
    obtain ⟨v,Zf⟩:=x
    try dsimp only at hp h
    refine Wo0 ?_
    refine Wo 16 0 (Z4o (Z1 Z3 l' v)) fun v1 h18=>?_
    obtain ⟨v1_0,v1_1⟩:=v1
    refine Wk [] 0 [] Wz

theorem Z85 (d':Za) (r':Int) (r:Int) (h:Z5h d' r'=some r):Ze Tryz.prog 99 [(.agg 6 (fun j=>(Ym nvS d' j))),(.v (.int .i64 r'))] ((.v (.int .i64 r))):=by
  obtain ⟨⟨d_Class_L⟩,⟨d_Wide_L⟩,⟨d_Join_L⟩,d_Mirror,d_Brackets,d_Forms⟩:=d'
  unfold Z5h at h
  try dsimp only at h
  refine Wfn Tryz.func99 (Zj Tryz.f99) fun ctr hc=>?_
  refine Wo0 ?_
  refine Wo 8 0 (Z98 (Z4.mk d_Join_L) r') fun v h1=>?_
  refine Wk [] 0 [] Wz

theorem Z22 (at':Int) (side:Int) (cap0:(List (Int × Int))) (cap1:Za) (cap2:(List Int)) (r:Bool) (h:Qm at' side cap0 cap1 cap2=some r):Ze Tryz.prog 98 [(.v (.int .i64 at')),(.v (.int .i64 side)),.imm 1 1 (fun _ j=>(.mp .i64 .i64 cap0)) 0 0,.imm 6 1 (fun _ j=>(Ym nvS cap1 j)) 0 0,.imm 1 1 (fun _ j=>(.sl 1 (nvS.len cap2) false (fun ix jx=>(.v (.int .i64 (nvS.get 0 cap2 ix)))))) 0 0] ((.v (.bool r))):=by
  obtain ⟨⟨cap1_Class_L⟩,⟨cap1_Wide_L⟩,⟨cap1_Join_L⟩,cap1_Mirror,cap1_Brackets,cap1_Forms⟩:=cap1
  unfold Qm at h
  try dsimp only at h
  refine Wfn Tryz.func98 (Zj Tryz.f98) fun ctr hc=>?_
  refine Wo0 ?_
  refine Wog 17 0 (decide (0≤at')) (Z85 (Za.mk (Z4.mk cap1_Class_L) (Z4.mk cap1_Wide_L) (Z4.mk cap1_Join_L) cap1_Mirror cap1_Brackets cap1_Forms) (Z1 0 cap2 at')) 0 fun v h2=>?_
  refine Wk [] 0 [] Wz

theorem shape_Before_ok (d':Za) (r':(List Int)) (at':Int) (r:Int) (h:Z36 d' r' at'=some r):Ze Tryz.prog 100 [(.agg 6 (fun j=>(Ym nvS d' j))),(.sl 1 (nvS.len r') false (fun ix jx=>(.v (.int .i64 (nvS.get 0 r' ix))))),(.v (.int .i64 at'))] ((.v (.int .i64 r))):=by
  obtain ⟨⟨d_Class_L⟩,⟨d_Wide_L⟩,⟨d_Join_L⟩,d_Mirror,d_Brackets,d_Forms⟩:=d'
  unfold Z36 at h
  try dsimp only at h
  refine Wfn Tryz.func100 (Zj Tryz.f100) fun ctr hc=>?_
  revert h
  refine Wyp 2 [] 0 [] (Wq ?_)
  intro h
  intros
  refine Zx h (ctr+2) [(6,2),(8,14)] [] (fun _ u=>Fa [] []) (fun x uc ug ut ht hu hp h=>?_) (fun f h=>?_)
  · refine Wx [] 0 [] Wz
  · revert h
    refine Wyp 1 [] 0 [] (Wq ?_)
    intro h
    intros
    refine Tr.block ?_
    refine Wlp h (ctr+3) [(6,2),(10,12)] [] (fun i1 u1=>Fa [(7,.v (.int .i64 i1))] []) Yk (fun i1 u1c u1g u1t f ht hu hp h=>?_)
    refine Wo0 ?_
    refine Wo 27 0 (Z85 (Za.mk (Z4.mk d_Class_L) (Z4.mk d_Wide_L) (Z4.mk d_Join_L) d_Mirror d_Brackets d_Forms) (Z1 0 r' i1)) fun v h16=>?_
    refine Wk [] 0 [] Wz

theorem Z86 (d':Za) (r':(List Int)) (at':Int) (r:Int) (h:Z2q d' r' at'=some r):Ze Tryz.prog 72 [(.agg 6 (fun j=>(Ym nvS d' j))),(.sl 1 (nvS.len r') false (fun ix jx=>(.v (.int .i64 (nvS.get 0 r' ix))))),(.v (.int .i64 at'))] ((.v (.int .i64 r))):=by
  obtain ⟨⟨d_Class_L⟩,⟨d_Wide_L⟩,⟨d_Join_L⟩,d_Mirror,d_Brackets,d_Forms⟩:=d'
  unfold Z2q at h
  try dsimp only at h
  refine Wfn Tryz.func72 (Zj Tryz.f72) fun ctr hc=>?_
  revert h
  refine Wyp 2 [] 0 [] (Wq ?_)
  intro h
  intros
  refine Zx h (ctr+2) [(6,2),(8,16)] [] (fun _ u=>Fa [] []) (fun x uc ug ut ht hu hp h=>?_) (fun f h=>?_)
  · refine Wx [] 0 [] Wz
  · revert h
    refine Wyp 1 [] 0 [] (Wq ?_)
    intro h
    intros
    refine Tr.block ?_
    refine Wlp h (ctr+3) [(6,2),(10,14)] [] (fun i1 u1=>Fa [(7,.v (.int .i64 i1))] []) Yk (fun i1 u1c u1g u1t f ht hu hp h=>?_)
    refine Wo0 ?_
    refine Wo 29 0 (Z85 (Za.mk (Z4.mk d_Class_L) (Z4.mk d_Wide_L) (Z4.mk d_Join_L) d_Mirror d_Brackets d_Forms) (Z1 0 r' i1)) fun v h16=>?_
    refine Wk [] 0 [] Wz

theorem shape_Forms_ok (d':Za) (r':(List Int)) (r:(List Int)) (h:Z4g d' r'=some r):Ze Tryz.prog 69 [(.agg 6 (fun j=>(Ym nvS d' j))),(.sl 1 (nvS.len r') false (fun ix jx=>(.v (.int .i64 (nvS.get 0 r' ix)))))] (.own 1 (nvS.len r) false (fun ix jx=>(.v (.int .i64 (nvS.get 0 r ix))))):=by
  obtain ⟨⟨d_Class_L⟩,⟨d_Wide_L⟩,⟨d_Join_L⟩,d_Mirror,d_Brackets,d_Forms⟩:=d'
  unfold Z4g at h
  try dsimp only at h
  refine Wfn Tryz.func69 (Zj Tryz.f69) fun ctr hc=>?_
  refine Wo0 ?_
  refine Wo 11 0 (shape_sides_ok) fun v h1=>?_
  revert h
  refine Wjp 4 [] 0 [] (Wq ?_)
  intro h
  intros
  refine Zx h (ctr+4) [(8,3),(5,49)] [(15,1)] (fun out u=>⟨[],[(15,.arr (ctr+3) 1 (nvS.len r') (u.t 15) (fun ix jx=>(.v (.int .i64 (nvS.get 0 out ix)))))],fun _=>Z0 out=(Z0 r')⟩) (fun out uc ug ut ht hu hp h=>?_) (fun f h=>?_)
  · try dsimp only at hp h
    refine Wx [] 0 [] Wz
  · revert h
    refine Wyp 1 [] 0 [] (Wq ?_)
    intro h
    intros
    refine Tr.block ?_
    refine Wlp h (ctr+5) [(8,3),(7,47)] [(15,1)] (fun (v1,Zf) u1=>⟨[(18,.v (.int .i64 v1))],[(15,.arr (ctr+3) 1 (nvS.len r') (u1.t 15) (fun ix jx=>(.v (.int .i64 (nvS.get 0 Zf ix)))))],fun _=>Z0 Zf=(Z0 r')⟩) Yk (fun x u1c u1g u1t f ht hu hp h=>?_)
    obtain ⟨v1,Zf⟩:=x
    try dsimp only at hp h
    refine Wo0 ?_
    refine Wo 23 4 (Z22 v1 1 v (Za.mk (Z4.mk d_Class_L) (Z4.mk d_Wide_L) (Z4.mk d_Join_L) d_Mirror d_Brackets d_Forms) r') fun v2 h59=>?_
    refine Wog 29 0 v2 (shape_Before_ok (Za.mk (Z4.mk d_Class_L) (Z4.mk d_Wide_L) (Z4.mk d_Join_L) d_Mirror d_Brackets d_Forms) r' v1) 0 fun v3 h60=>?_
    refine Wog 30 4 v2 (Z22 v3 2 v (Za.mk (Z4.mk d_Class_L) (Z4.mk d_Wide_L) (Z4.mk d_Join_L) d_Mirror d_Brackets d_Forms) r') false fun v4 h61=>?_
    refine Wo 34 4 (Z22 v1 2 v (Za.mk (Z4.mk d_Class_L) (Z4.mk d_Wide_L) (Z4.mk d_Join_L) d_Mirror d_Brackets d_Forms) r') fun v5 h62=>?_
    refine Wog 40 0 v5 (Z86 (Za.mk (Z4.mk d_Class_L) (Z4.mk d_Wide_L) (Z4.mk d_Join_L) d_Mirror d_Brackets d_Forms) r' v1) 0 fun v6 h63=>?_
    refine Wog 41 4 v5 (Z22 v6 1 v (Za.mk (Z4.mk d_Class_L) (Z4.mk d_Wide_L) (Z4.mk d_Join_L) d_Mirror d_Brackets d_Forms) r') false fun v7 h64=>?_
    refine Wk [] 0 [] Wz

theorem ucd_Shape_ok (d':Za) (r':Int) (which:Int) (r:Int) (h:Z6i d' r' which=some r):Ze Tryz.prog 70 [(.agg 6 (fun j=>(Ym nvS d' j))),(.v (.int .i64 r')),(.v (.int .i64 which))] ((.v (.int .i64 r))):=by
  obtain ⟨⟨d_Class_L⟩,⟨d_Wide_L⟩,⟨d_Join_L⟩,d_Mirror,d_Brackets,d_Forms⟩:=d'
  unfold Z6i at h
  try dsimp only at h
  refine Wfn Tryz.func70 (Zj Tryz.f70) fun ctr hc=>?_
  revert h
  refine Wyp 2 [] 0 [] (Wq ?_)
  intro h
  intros
  refine Zx h (ctr+2) [(6,1),(1,1),(7,37)] [] (fun _ u=>Fa [] []) (fun x uc ug ut ht hu hp h=>?_) (fun f h=>?_)
  · refine Wx [] 0 [] Wz
  · revert h
    refine Wyp 1 [] 0 [] (Wq ?_)
    intro h
    intros
    refine Tr.block ?_
    refine Wlp h (ctr+3) [(6,1),(1,1),(10,34)] [(8,1)] (fun v u1=>Fa [(19,.v (.int .i64 v))] []) Yk (fun v u1c u1g u1t f ht hu hp h=>?_)
    refine Wx [] 0 [] Wz

theorem ucd_Mirror_ok (d':Za) (r':Int) (r:Int) (h:Z5i d' r'=some r):Ze Tryz.prog 101 [(.agg 6 (fun j=>(Ym nvS d' j))),(.v (.int .i64 r'))] ((.v (.int .i64 r))):=by
  obtain ⟨⟨d_Class_L⟩,⟨d_Wide_L⟩,⟨d_Join_L⟩,d_Mirror,d_Brackets,d_Forms⟩:=d'
  unfold Z5i at h
  try dsimp only at h
  refine Wfn Tryz.func101 (Zj Tryz.f101) fun ctr hc=>?_
  revert h
  refine Wyp 1 [] 0 [] (Wq ?_)
  intro h
  intros
  refine Zx h (ctr+1) [(4,1),(1,22)] [] (fun _ u=>Fa [] []) (fun x uc ug ut ht hu hp h=>?_) (fun f h=>?_)
  · refine Wx [] 0 [] Wz
  · revert h
    refine Wyp 1 [] 0 [] (Wq ?_)
    intro h
    intros
    refine Tr.block ?_
    refine Wlp h (ctr+2) [(4,1),(1,1),(3,18)] [(6,1)] (fun v u1=>Fa [(10,.v (.int .i64 v))] []) Yk (fun v u1c u1g u1t f ht hu hp h=>?_)
    refine Wx [] 0 [] Wz

theorem shape_Mirror_ok (d':Za) (r':Int) (level:Int) (boxes:Bool) (r:Int) (h:Z37 d' r' level boxes=some r):Ze Tryz.prog 71 [(.agg 6 (fun j=>(Ym nvS d' j))),(.v (.int .i64 r')),(.v (.int .i64 level)),(.v (.bool boxes))] ((.v (.int .i64 r))):=by
  obtain ⟨⟨d_Class_L⟩,⟨d_Wide_L⟩,⟨d_Join_L⟩,d_Mirror,d_Brackets,d_Forms⟩:=d'
  unfold Z37 at h
  try dsimp only at h
  refine Wfn Tryz.func71 (Zj Tryz.f71) fun ctr hc=>?_
  refine Wo0 ?_
  refine Wo 27 0 (ucd_Mirror_ok (Za.mk (Z4.mk d_Class_L) (Z4.mk d_Wide_L) (Z4.mk d_Join_L) d_Mirror d_Brackets d_Forms) r') fun v h1=>?_
  refine Wk [] 0 [] Wz

theorem ucd_Ligature_ok (lam:Int) (alef:Int) (final:Bool) (r:(Int × Bool)) (h:Z38 lam alef final=some r):Ze Tryz.prog 73 [(.v (.int .i64 lam)),(.v (.int .i64 alef)),(.v (.bool final))] (.tup 2 (fun j=>match j with | 0=>(.v (.int .i64 r.1)) | 1=>(.v (.bool r.2)) | _=>.junk)):=by
  unfold Z38 at h
  refine Wfn Tryz.func73 (Zj Tryz.f73) fun ctr hc=>?_
  revert h
  refine Wyp 3 [] 0 [] (Wq ?_)
  intro h
  intros
  refine Wx [] 0 [] Wz

theorem shape_Glyphs_ok (d':Za) (r':(List Int)) (levels:(List Int)) (boxes:Bool) (r:(List Int)) (h:Z39 d' r' levels boxes=some r):Ze Tryz.prog 49 [(.agg 6 (fun j=>(Ym nvS d' j))),(.sl 1 (nvS.len r') false (fun ix jx=>(.v (.int .i64 (nvS.get 0 r' ix))))),(.sl 1 (nvS.len levels) false (fun ix jx=>(.v (.int .i64 (nvS.get 0 levels ix))))),(.v (.bool boxes))] (.own 1 (nvS.len r) false (fun ix jx=>(.v (.int .i64 (nvS.get 0 r ix))))):=by
  obtain ⟨⟨d_Class_L⟩,⟨d_Wide_L⟩,⟨d_Join_L⟩,d_Mirror,d_Brackets,d_Forms⟩:=d'
  unfold Z39 at h
  try dsimp only at h
  refine Wfn Tryz.func49 (Zj Tryz.f49) fun ctr hc=>?_
  refine Wo0 ?_
  refine Wo 20 1 (Xe r') fun v h1=>?_
  refine Wo 29 1 (shape_Forms_ok (Za.mk (Z4.mk d_Class_L) (Z4.mk d_Wide_L) (Z4.mk d_Join_L) d_Mirror d_Brackets d_Forms) r') fun v1 h2=>?_
  revert h
  refine Wjp 4 [] 0 [] (Wq ?_)
  intro h
  intros
  refine Zx h (ctr+4) [(11,2),(17,35)] [(20,1)] (fun out u=>⟨[],[(20,.arr (ctr+1) 1 (nvS.len v) (u.t 20) (fun ix jx=>(.v (.int .i64 (nvS.get 0 out ix)))))],fun _=>Z0 out=(Z0 v)⟩) (fun out uc ug ut ht hu hp h=>?_) (fun f h=>?_)
  · try dsimp only at hp h
    refine Zx h uc [(13,6),(46,48)] [(20,1)] (fun Zf u1=>⟨[],[(20,.arr (ctr+1) 1 (nvS.len v) (u1.t 20) (fun ix jx=>(.v (.int .i64 (nvS.get 0 Zf ix)))))],fun _=>Z0 Zf=(Z0 v)⟩) (fun Zf u1c u1g u1t ht hu hp h=>?_) (fun f h=>?_)
    · try dsimp only at hp h
      refine Wx [] 0 [] Wz
    · revert h
      refine Wyp 1 [] 0 [] (Wq ?_)
      intro h
      intros
      refine Tr.block ?_
      refine Wlp h (uc+1) [(13,6),(48,46)] [(20,1)] (fun (v2,out2) u2=>⟨[(67,.v (.int .i64 v2))],[(20,.arr (ctr+1) 1 (nvS.len v) (u2.t 20) (fun ix jx=>(.v (.int .i64 (nvS.get 0 out2 ix)))))],fun _=>Z0 out2=(Z0 v)⟩) Yk (fun x u2c u2g u2t f ht hu hp h=>?_)
      obtain ⟨v2,out2⟩:=x
      try dsimp only at hp h
      refine Wo0 ?_
      refine Wo 75 0 (Z86 (Za.mk (Z4.mk d_Class_L) (Z4.mk d_Wide_L) (Z4.mk d_Join_L) d_Mirror d_Brackets d_Forms) r' v2) fun v3 h66=>?_
      refine Wo 101 0 (ucd_Ligature_ok (Z1 0 r' v2) (Z1 0 r' v3) (if ((Z1 0 v1 (0+v2)) == 1)=true then true else ((Z1 0 v1 (0+v2)) == 3))) fun v4 h71=>?_
      obtain ⟨v4_0,v4_1⟩:=v4
      refine Wk [] 0 [] Wz
  · revert h
    refine Wyp 1 [] 0 [] (Wq ?_)
    intro h
    intros
    refine Tr.block ?_
    refine Wlp h (ctr+5) [(11,2),(19,33)] [(20,1)] (fun (v5,out3) u3=>⟨[(32,.v (.int .i64 v5))],[(20,.arr (ctr+1) 1 (nvS.len v) (u3.t 20) (fun ix jx=>(.v (.int .i64 (nvS.get 0 out3 ix)))))],fun _=>Z0 out3=(Z0 v)⟩) Yk (fun x u3c u3g u3t f ht hu hp h=>?_)
    obtain ⟨v5,out3⟩:=x
    try dsimp only at hp h
    revert h
    refine Wyp 2 [] 0 [] (Wq ?_)
    intro h
    intros
    refine Zx h (u3c+1) [(11,2),(21,30)] [(20,1)] (fun out4 u4=>⟨[],[(20,.arr (ctr+1) 1 (nvS.len v) (u4.t 20) (fun ix jx=>(.v (.int .i64 (nvS.get 0 out4 ix)))))],fun _=>Z0 out4=(Z0 v)⟩) (fun out4 u4c u4g u4t ht hu hp h=>?_) (fun f h=>?_)
    · try dsimp only at hp h
      refine Wx [] 0 [] Wz
    · refine Tr.block ?_
      refine Wo0 ?_
      refine Wo 45 0 (ucd_Shape_ok (Za.mk (Z4.mk d_Class_L) (Z4.mk d_Wide_L) (Z4.mk d_Join_L) d_Mirror d_Brackets d_Forms) (Z1 0 r' v5) (Z1 0 v1 (0+v5))) fun v7 h113=>?_
      refine Wkc 2 [] 0 [] h (u3c+1) [(11,2),(21,13)] [(20,1)] (fun out5 u5=>⟨[(11,.v (.int .i64 v5)),(12,.v (.int .i64 (nvS.get 0 r' v5)))],[(20,.arr (ctr+1) 1 (nvS.len v) (u5.t 20) (fun ix jx=>(.v (.int .i64 (nvS.get 0 out5 ix)))))],fun _=>Z0 out5=(Z0 v)⟩) (fun out5 u5c u5g u5t ht hu hp h=>?_) (fun f h=>Wz)
      try dsimp only at hp h
      refine Wo0 ?_
      refine Wo 62 0 (shape_Mirror_ok (Za.mk (Z4.mk d_Class_L) (Z4.mk d_Wide_L) (Z4.mk d_Join_L) d_Mirror d_Brackets d_Forms) (Z1 0 r' v5) (Z1 0 levels v5) boxes) fun v6 h109=>?_
      refine Wk [] 0 [] Wz

theorem view_read_ok (d':Za) (l':(List Z5)) (from':Int) (to:Int) (boxes:Bool) (r:Yh) (h:Z21 d' l' from' to boxes=some r):Ze Tryz.prog 24 [(.agg 6 (fun j=>(Ym nvS d' j))),(.sl 4 (nvS.len l') false (fun ix jx=>(Y8 nvS (nvS.get Z3 l' ix) jx))),(.v (.int .i64 from')),(.v (.int .i64 to)),(.v (.bool boxes))] ((.agg 5 (fun j=>(Z1v nvS r j)))):=by
  obtain ⟨⟨d_Class_L⟩,⟨d_Wide_L⟩,⟨d_Join_L⟩,d_Mirror,d_Brackets,d_Forms⟩:=d'
  unfold Z21 at h
  try dsimp only at h
  refine Wfn Tryz.func24 (Zj Tryz.f24) fun ctr hc=>?_
  refine Wo0 ?_
  refine Wo 18 1 (Z84 (X7 l' from' to)) fun v h2=>?_
  refine Wo 27 0 (weak_Paragraph_ok (Za.mk (Z4.mk d_Class_L) (Z4.mk d_Wide_L) (Z4.mk d_Join_L) d_Mirror d_Brackets d_Forms) v (Z1 Z3 l' from').fDir) fun v1 h4=>?_
  obtain ⟨v1_0,v1_1⟩:=v1
  refine Wo 37 1 (shape_Glyphs_ok (Za.mk (Z4.mk d_Class_L) (Z4.mk d_Wide_L) (Z4.mk d_Join_L) d_Mirror d_Brackets d_Forms) v v1_0 boxes) fun v2 h5=>?_
  refine Wk [] 0 [(2,[.freeze (.slot 11)])] Wz

theorem order_passed_ok (c':Int) (r:Bool) (h:Z3a c'=some r):Ze Tryz.prog 75 [(.v (.int .i64 c'))] ((.v (.bool r))):=by
  unfold Z3a at h
  refine Wfn Tryz.func75 (Zj Tryz.f75) fun ctr hc=>?_
  revert h
  refine Wyp 1 [] 0 [] (Wq ?_)
  intro h
  intros
  refine Zx h (ctr+1) [(2,14)] [] (fun _ u=>Fa [] []) (fun x uc ug ut ht hu hp h=>?_) (fun f h=>?_)
  · refine Wx [] 0 [] Wz
  · revert h
    refine Wyp 1 [] 0 [] (Wq ?_)
    intro h
    intros
    refine Tr.block ?_
    refine Zx h (ctr+2) [(4,12)] [] (fun v u1=>Fa [(4,.v (.bool v))] []) (fun v u1c u1g u1t ht hu hp h=>?_) (fun f h=>?_)
    · refine Wx [] 0 [] Wz
    · revert h
      refine Wyp 1 [] 0 [] (Wq ?_)
      intro h
      intros
      refine Wcond h rfl (fun _ h=>?_) (fun _ h=>?_)
      · refine Wx [] 0 [] Wz
      · revert h
        refine Wyp 1 [] 0 [] (Wq ?_)
        intro h
        intros
        refine Wcond h rfl (fun _ h=>?_) (fun _ h=>?_)
        · refine Wx [] 0 [] Wz
        · refine Wx [] 0 [] Wz

theorem order_Reset_ok (d':Za) (r':(List Int)) (levels:(List Int)) (base:Int) (r:(List Int)) (h:Z4h d' r' levels base=some r):Ze Tryz.prog 50 [(.agg 6 (fun j=>(Ym nvS d' j))),(.sl 1 (nvS.len r') false (fun ix jx=>(.v (.int .i64 (nvS.get 0 r' ix))))),(.sl 1 (nvS.len levels) false (fun ix jx=>(.v (.int .i64 (nvS.get 0 levels ix))))),(.v (.int .i64 base))] (.own 1 (nvS.len r) false (fun ix jx=>(.v (.int .i64 (nvS.get 0 r ix))))):=by
  obtain ⟨⟨d_Class_L⟩,⟨d_Wide_L⟩,⟨d_Join_L⟩,d_Mirror,d_Brackets,d_Forms⟩:=d'
  unfold Z4h at h
  try dsimp only at h
  refine Wfn Tryz.func50 (Zj Tryz.f50) fun ctr hc=>?_
  refine Wo0 ?_
  refine Wo 14 1 (Xe levels) fun v h1=>?_
  revert h
  refine Wjp 4 [] 0 [] (Wq ?_)
  intro h
  intros
  refine Zx h (ctr+4) [(10,3),(8,34)] [(14,1)] (fun out u=>⟨[],[(14,.arr (ctr+1) 1 (nvS.len v) (u.t 14) (fun ix jx=>(.v (.int .i64 (nvS.get 0 out ix)))))],fun _=>Z0 out=(Z0 v)⟩) (fun out uc ug ut ht hu hp h=>?_) (fun f h=>?_)
  · try dsimp only at hp h
    refine Wx [] 0 [] Wz
  · revert h
    refine Wyp 1 [] 0 [] (Wq ?_)
    intro h
    intros
    refine Tr.block ?_
    refine Wlp h (ctr+5) [(10,3),(11,31)] [(14,1)] (fun (end',i1,Zf) u1=>⟨[(10,.v (.bool end')),(11,.v (.int .i64 i1))],[(14,.arr (ctr+1) 1 (nvS.len v) (u1.t 14) (fun ix jx=>(.v (.int .i64 (nvS.get 0 Zf ix)))))],fun _=>Z0 Zf=(Z0 v)⟩) Yk (fun x u1c u1g u1t f ht hu hp h=>?_)
    obtain ⟨end',i1,Zf⟩:=x
    try dsimp only at hp h
    refine Wo0 ?_
    refine Wo 33 0 (ucd_Class_ok (Za.mk (Z4.mk d_Class_L) (Z4.mk d_Wide_L) (Z4.mk d_Join_L) d_Mirror d_Brackets d_Forms) (Z1 0 r' i1)) fun v1 h39=>?_
    refine Wo 47 0 (order_passed_ok v1) fun v2 h42=>?_
    refine Wk [] 0 [] Wz

theorem view_see_ok (d':Za) (l':(List Z5)) (y':Int) (p':Yh) (r:Zi) (h:Z5j d' l' y' p'=some r):Ze Tryz.prog 25 [(.agg 6 (fun j=>(Ym nvS d' j))),(.sl 4 (nvS.len l') false (fun ix jx=>(Y8 nvS (nvS.get Z3 l' ix) jx))),(.v (.int .i64 y')),(.agg 5 (fun j=>(Z1v nvS p' j)))] ((.agg 4 (fun j=>(Yz nvS r j)))):=by
  obtain ⟨⟨d_Class_L⟩,⟨d_Wide_L⟩,⟨d_Join_L⟩,d_Mirror,d_Brackets,d_Forms⟩:=d'
  obtain ⟨p_from,p_to,p_levels,p_glyphs,p_base⟩:=p'
  unfold Z5j at h
  try dsimp only at h
  refine Wfn Tryz.func25 (Zj Tryz.f25) fun ctr hc=>?_
  refine Wo0 ?_
  refine Wo 22 1 (Z84 (X7 l' p_from y')) fun v h2=>?_
  refine Wo 29 0 (Z4o (Z1 Z3 l' y')) fun v1 h4=>?_
  obtain ⟨v1_0,v1_1⟩:=v1
  refine Wo 44 1 (order_Reset_ok (Za.mk (Z4.mk d_Class_L) (Z4.mk d_Wide_L) (Z4.mk d_Join_L) d_Mirror d_Brackets d_Forms) v1_0 (X7 p_levels (Z0 v) ((Z0 v)+(Z0 v1_0))) p_base) fun v2 h7=>?_
  revert h
  refine Wjp 6 [] 0 [] (Wq ?_)
  intro h
  intros
  refine Zx h (ctr+6) [(14,3),(36,30)] [(51,1)] (fun cells u=>⟨[],[(51,.arr (ctr+4) 7 (nvS.len (nvS.get Z3 l' y').fCells) (u.t 51) (fun ix jx=>(Yr nvS (nvS.get Z2 cells ix) jx)))],fun _=>Z0 cells=(Z0 (Z1 Z3 l' y').fCells)⟩) (fun cells uc ug ut ht hu hp h=>?_) (fun f h=>?_)
  · try dsimp only at hp h
    refine Wo0 ?_
    refine Wo 88 0 (Z83 cells v2 v1_1 p_base) fun v3 h31=>?_
    obtain ⟨v3_V2L,v3_L2V,v3_Cells,v3_Base⟩:=v3
    refine Wk [] 0 [(15,[.freeze (.slot 13),.freeze (.slot 12)])] Wz
  · revert h
    refine Wyp 1 [] 0 [] (Wq ?_)
    intro h
    intros
    refine Tr.block ?_
    refine Wlp h (ctr+7) [(14,3),(42,24)] [(16,1),(34,1)] (fun (n,v4,cells1) u1=>⟨[(14,.v (.int .i64 n)),(59,.v (.int .i64 v4))],[(51,.arr (ctr+4) 7 (nvS.len (nvS.get Z3 l' y').fCells) (u1.t 51) (fun ix jx=>(Yr nvS (nvS.get Z2 cells1 ix) jx)))],fun _=>Z0 cells1=(Z0 (Z1 Z3 l' y').fCells)⟩) Yk (fun x u1c u1g u1t f ht hu hp h=>?_)
    obtain ⟨n,v4,cells1⟩:=x
    try dsimp only at hp h
    refine Wx [] 0 [] Wz

theorem view_All_ok (d':Za) (l':(List Z5)) (boxes:Bool) (r:(List Zi)) (h:Z5k d' l' boxes=some r):Ze Tryz.prog 9 [(.agg 6 (fun j=>(Ym nvS d' j))),(.sl 4 (nvS.len l') false (fun ix jx=>(Y8 nvS (nvS.get Z3 l' ix) jx))),(.v (.bool boxes))] (.own 4 (nvS.len r) false (fun ix jx=>(Yz nvS (nvS.get Yj r ix) jx))):=by
  obtain ⟨⟨d_Class_L⟩,⟨d_Wide_L⟩,⟨d_Join_L⟩,d_Mirror,d_Brackets,d_Forms⟩:=d'
  unfold Z5k at h
  try dsimp only at h
  refine Wfn Tryz.func9 (Zj Tryz.f9) fun ctr hc=>?_
  refine Wo0 ?_
  refine Wo 14 0 (view_sane_ok l') fun v h1=>?_
  revert h
  refine Wjp 4 [] 0 [] (Wq ?_)
  intro h
  intros
  refine Zx h (ctr+4) [(9,4),(6,45)] [(8,1),(9,1)] (fun out u=>⟨[],[(18,.arr (ctr+2) 4 (nvS.len l') (u.t 18) (fun ix jx=>(Yz nvS (nvS.get Yj out ix) jx)))],fun _=>Z0 out=(Z0 l')⟩) (fun out uc ug ut ht hu hp h=>?_) (fun f h=>?_)
  · try dsimp only at hp h
    refine Wx [] 0 [] Wz
  · revert h
    refine Wyp 1 [] 0 [] (Wq ?_)
    intro h
    intros
    refine Tr.block ?_
    refine Wlp h (ctr+5) [(9,4),(8,43)] [(8,1),(9,1)] (fun (v1,Zf,b8_0,b8_1,b8_2,b8_3,b8_4) u1=>⟨[(21,.v (.int .i64 v1))],[(8,.box (ctr+3) [.v (.int .i64 b8_0),.v (.int .i64 b8_1),.sl 1 (nvS.len b8_2) false (fun ix jx=>(.v (.int .i64 (nvS.get 0 b8_2 ix)))),.sl 1 (nvS.len b8_3) false (fun ix jx=>(.v (.int .i64 (nvS.get 0 b8_3 ix)))),.v (.int .i64 b8_4)]),(18,.arr (ctr+2) 4 (nvS.len l') (u1.t 18) (fun ix jx=>(Yz nvS (nvS.get Yj Zf ix) jx)))],fun _=>Z0 Zf=(Z0 l')⟩) Yk (fun x u1c u1g u1t f ht hu hp h=>?_)
    obtain ⟨v1,Zf,b8_0,b8_1,b8_2,b8_3,b8_4⟩:=x
    try dsimp only at hp h
    revert h
    refine Wyp 2 [] 0 [] (Wq ?_)
    intro h
    intros
    refine Zx h (u1c+1) [(9,4),(10,40)] [(8,1),(1,1),(7,1)] (fun (out2,b8_01,b8_11,b8_21,b8_31,b8_41) u2=>⟨[],[(8,.box (ctr+3) [.v (.int .i64 b8_01),.v (.int .i64 b8_11),.sl 1 (nvS.len b8_21) false (fun ix jx=>(.v (.int .i64 (nvS.get 0 b8_21 ix)))),.sl 1 (nvS.len b8_31) false (fun ix jx=>(.v (.int .i64 (nvS.get 0 b8_31 ix)))),.v (.int .i64 b8_41)]),(18,.arr (ctr+2) 4 (nvS.len l') (u2.t 18) (fun ix jx=>(Yz nvS (nvS.get Yj out2 ix) jx)))],fun _=>Z0 out2=(Z0 l')⟩) (fun x u2c u2g u2t ht hu hp h=>?_) (fun f h=>?_)
    · obtain ⟨out2,b8_01,b8_11,b8_21,b8_31,b8_41⟩:=x
      try dsimp only at hp h
      refine Wx [] 0 [] Wz
    · refine Tr.block ?_
      refine Wo0 ?_
      refine Wo 31 0 (Z9b (Z1 Z3 l' v1)) fun v2 h44=>?_
      obtain ⟨v2_V2L,v2_L2V,v2_Cells,v2_Base⟩:=v2
      revert h
      refine Wjp 2 [] 0 [] (Wq ?_)
      intro h
      intros
      refine Zx h (u1c+3) [(11,2),(20,22)] [(8,1)] (fun (b8_02,b8_12,b8_22,b8_32,b8_42) u3=>Fa [] [(8,.box (ctr+3) [.v (.int .i64 b8_02),.v (.int .i64 b8_12),.sl 1 (nvS.len b8_22) false (fun ix jx=>(.v (.int .i64 (nvS.get 0 b8_22 ix)))),.sl 1 (nvS.len b8_32) false (fun ix jx=>(.v (.int .i64 (nvS.get 0 b8_32 ix)))),.v (.int .i64 b8_42)])]) (fun x u3c u3g u3t ht hu hp h=>?_) (fun f h=>?_)
      · obtain ⟨b8_02,b8_12,b8_22,b8_32,b8_42⟩:=x
        try dsimp only at hp h
        refine Wo0 ?_
        refine Wo 61 0 (view_see_ok (Za.mk (Z4.mk d_Class_L) (Z4.mk d_Wide_L) (Z4.mk d_Join_L) d_Mirror d_Brackets d_Forms) l' v1 (Yh.mk b8_02 b8_12 b8_22 b8_32 b8_42)) fun v3 h48=>?_
        obtain ⟨v3_V2L,v3_L2V,v3_Cells,v3_Base⟩:=v3
        refine Wk [] 0 [] Wz
      · refine Wo0 ?_
        refine Wo 36 0 (Z97 l' v1) fun v4 h50=>?_
        obtain ⟨v4_0,v4_1⟩:=v4
        refine Wo 54 0 (view_read_ok (Za.mk (Z4.mk d_Class_L) (Z4.mk d_Wide_L) (Z4.mk d_Join_L) d_Mirror d_Brackets d_Forms) l' v4_0 v4_1 boxes) fun v5 h51=>?_
        obtain ⟨v5_from,v5_to,v5_levels,v5_glyphs,v5_base⟩:=v5
        refine Wk [] 0 [] Wz

theorem Z25 (l':(List Z5)) (r:Bool) (h:Q5 l'=some r):Ze Tryz.prog 8 [(.sl 4 (nvS.len l') false (fun ix jx=>(Y8 nvS (nvS.get Z3 l' ix) jx)))] ((.v (.bool r))):=by
  unfold Q5 at h
  refine Wfn Tryz.func8 (Zj Tryz.f8) fun ctr hc=>?_
  revert h
  refine Wyp 2 [] 0 [] (Wq ?_)
  intro h
  intros
  refine Zx h (ctr+2) [(2,2),(3,13)] [] (fun _ u=>Fa [] []) (fun x uc ug ut ht hu hp h=>?_) (fun f h=>?_)
  · refine Wx [] 0 [] Wz
  · revert h
    refine Wyp 1 [] 0 [] (Wq ?_)
    intro h
    intros
    refine Tr.block ?_
    refine Wlp h (ctr+3) [(2,2),(3,13)] [] (fun i u1=>Fa [(3,.v (.int .i64 i))] []) Yk (fun i u1c u1g u1t f ht hu hp h=>?_)
    refine Wx [] 0 [] Wz

theorem Z0y (r':Int) (r:Bool) (h:Xl r'=some r):Ze Tryz.prog 81 [(.v (.int .i64 r'))] ((.v (.bool r))):=by
  unfold Xl at h
  refine Wfn Tryz.func81 (Zj Tryz.f81) fun ctr hc=>?_
  refine Wx [] 0 [] Wz

theorem Z3m (c':Int) (r:(Int × Int × Int × Int)) (h:Q6 c'=some r):Ze Tryz.prog 109 [(.v (.int .i64 c'))] (.tup 4 (fun j=>match j with | 0=>(.v (.int .i64 r.1)) | 1=>(.v (.int .i64 r.2.1)) | 2=>(.v (.int .i64 r.2.2.1)) | 3=>(.v (.int .i64 r.2.2.2)) | _=>.junk)):=by
  unfold Q6 at h
  refine Wfn Tryz.func109 (Zj Tryz.f109) fun ctr hc=>?_
  refine Wx [] 0 [] Wz

theorem Z87 (p':Q1) (r:Bool) (h:Z04 p'=some r):Ze Tryz.prog 82 [(.agg 3 (fun j=>(Z50 nvS p' j)))] ((.v (.bool r))):=by
  obtain ⟨p_Fg,p_Bg,p_Flags⟩:=p'
  unfold Z04 at h
  try dsimp only at h
  refine Wfn Tryz.func82 (Zj Tryz.f82) fun ctr hc=>?_
  refine Wo0 ?_
  refine Wo 14 0 (Z3m p_Fg) fun v h1=>?_
  obtain ⟨v_0,v_1,v_2,v_3⟩:=v
  refine Wo 22 0 (Z3m p_Bg) fun v1 h2=>?_
  obtain ⟨v1_0,v1_1,v1_2,v1_3⟩:=v1
  refine Wk [] 0 [] Wz

theorem Z8x (c':Zc) (r:Bool) (h:Z0j c'=some r):Ze Tryz.prog 56 [(.agg 7 (fun j=>(Yr nvS c' j)))] ((.v (.bool r))):=by
  obtain ⟨c_R,⟨c_M_x0,c_M_x1⟩,c_W,⟨c_Pen_Fg,c_Pen_Bg,c_Pen_Flags⟩⟩:=c'
  unfold Z0j at h
  try dsimp only at h
  refine Wfn Tryz.func56 (Zj Tryz.f56) fun ctr hc=>?_
  refine Wo0 ?_
  refine Wog 14 0 (!(if (decide (c_W < 0))=true then true else (decide (2 < c_W)))) (Z0y c_R) false fun v h1=>?_
  refine Wog 21 0 (!(if (if (decide (c_W < 0))=true then true else (decide (2 < c_W)))=true then true else (!v))) (Z0y c_M_x0) false fun v1 h2=>?_
  refine Wog 28 0 (!(if (if (if (decide (c_W < 0))=true then true else (decide (2 < c_W)))=true then true else (!v))=true then true else (!v1))) (Z0y c_M_x1) false fun v2 h3=>?_
  refine Wog 34 0 (!(if (if (if (if (decide (c_W < 0))=true then true else (decide (2 < c_W)))=true then true else (!v))=true then true else (!v1))=true then true else (!v2))) (Z87 (Q1.mk c_Pen_Fg c_Pen_Bg c_Pen_Flags)) false fun v3 h4=>?_
  refine Wk [] 0 [] Wz

theorem Z7m (p':Q1) (r:Zc) (h:Z2h p'=some r):Ze Tryz.prog 84 [(.agg 3 (fun j=>(Z50 nvS p' j)))] ((.agg 7 (fun j=>(Yr nvS r j)))):=by
  obtain ⟨p_Fg,p_Bg,p_Flags⟩:=p'
  unfold Z2h at h
  try dsimp only at h
  refine Wfn Tryz.func84 (Zj Tryz.f84) fun ctr hc=>?_
  refine Wx [] 0 [] Wz

theorem Z88 (r':Z5) (l':(List Zc)) (r:Z5) (h:Z3b r' l'=some r):Ze Tryz.prog 85 [(.agg 4 (fun j=>(Y8 nvS r' j))),(.sl 7 (nvS.len l') false (fun ix jx=>(Yr nvS (nvS.get Z2 l' ix) jx)))] ((.agg 4 (fun j=>(Y8 nvS r j)))):=by
  obtain ⟨r_Cells,r_Wrap,r_Dir,r_Explicit⟩:=r'
  unfold Z3b at h
  try dsimp only at h
  refine Wfn Tryz.func85 (Zj Tryz.f85) fun ctr hc=>?_
  refine Wx [] 0 [] Wz

theorem Z89 (r':Z5) (r:Z5) (h:Z05 r'=some r):Ze Tryz.prog 58 [(.agg 4 (fun j=>(Y8 nvS r' j)))] ((.agg 4 (fun j=>(Y8 nvS r j)))):=by
  obtain ⟨r_Cells,r_Wrap,r_Dir,r_Explicit⟩:=r'
  unfold Z05 at h
  try dsimp only at h
  refine Wfn Tryz.func58 (Zj Tryz.f58) fun ctr hc=>?_
  revert h
  refine Wyp 2 [5,8] 0 [] (Wq ?_)
  intro h
  intros
  refine Zx h (ctr+2) [(4,1),(4,58)] [(8,1)] (fun l' u=>⟨[],[(8,.arr (ctr+1) 7 (nvS.len r_Cells) (u.t 8) (fun ix jx=>(Yr nvS (nvS.get Z2 l' ix) jx)))],fun _=>Z0 l'=(Z0 r_Cells)⟩) (fun l' uc ug ut ht hu hp h=>?_) (fun f h=>?_)
  · try dsimp only at hp h
    refine Wo0 ?_
    refine Wo 69 0 (Z88 (Z5.mk r_Cells r_Wrap r_Dir r_Explicit) l') fun v h26=>?_
    obtain ⟨v_Cells,v_Wrap,v_Dir,v_Explicit⟩:=v
    refine Wk [] 0 [(7,[.freeze (.slot 3)])] Wz
  · revert h
    refine Wyp 1 [] 0 [] (Wq ?_)
    intro h
    intros
    refine Tr.block ?_
    refine Wlp h (ctr+3) [(4,1),(4,58)] [(8,1)] (fun (i,l'1) u1=>⟨[(4,.v (.int .i64 i))],[(8,.arr (ctr+1) 7 (nvS.len r_Cells) (u1.t 8) (fun ix jx=>(Yr nvS (nvS.get Z2 l'1 ix) jx)))],fun _=>Z0 l'1=(Z0 r_Cells)⟩) Yk (fun x u1c u1g u1t f ht hu hp h=>?_)
    obtain ⟨i,l'1⟩:=x
    try dsimp only at hp h
    refine Wo0 ?_
    refine Wo 65 0 (Z7m (Z1 Z2 l'1 (0+i)).fPen) fun v1 h59=>?_
    obtain ⟨v1_R,⟨v1_M_x0,v1_M_x1⟩,v1_W,⟨v1_Pen_Fg,v1_Pen_Bg,v1_Pen_Flags⟩⟩:=v1
    refine Wk [] 0 [] Wz

theorem Z7n (a:(List Zc)) (b:(List Zc)) (r:Bool) (h:Qr a b=some r):Ze Tryz.prog 83 [(.sl 7 (nvS.len a) false (fun ix jx=>(Yr nvS (nvS.get Z2 a ix) jx))),(.sl 7 (nvS.len b) false (fun ix jx=>(Yr nvS (nvS.get Z2 b ix) jx)))] ((.v (.bool r))):=by
  unfold Qr at h
  refine Wfn Tryz.func83 (Zj Tryz.f83) fun ctr hc=>?_
  revert h
  refine Wyp 2 [] 0 [] (Wq ?_)
  intro h
  intros
  refine Zx h (ctr+2) [(4,2),(5,15)] [] (fun _ u=>Fa [] []) (fun x uc ug ut ht hu hp h=>?_) (fun f h=>?_)
  · refine Wx [] 0 [] Wz
  · revert h
    refine Wyp 1 [] 0 [] (Wq ?_)
    intro h
    intros
    refine Tr.block ?_
    refine Wlp h (ctr+3) [(4,2),(5,15)] [] (fun i u1=>Fa [(5,.v (.int .i64 i))] []) Yk (fun i u1c u1g u1t f ht hu hp h=>?_)
    refine Wx [] 0 [] Wz

theorem Z8a (a:Z5) (b:Z5) (r:Bool) (h:Z1g a b=some r):Ze Tryz.prog 57 [(.agg 4 (fun j=>(Y8 nvS a j))),(.agg 4 (fun j=>(Y8 nvS b j)))] ((.v (.bool r))):=by
  obtain ⟨a_Cells,a_Wrap,a_Dir,a_Explicit⟩:=a
  obtain ⟨b_Cells,b_Wrap,b_Dir,b_Explicit⟩:=b
  unfold Z1g at h
  try dsimp only at h
  refine Wfn Tryz.func57 (Zj Tryz.f57) fun ctr hc=>?_
  refine Wo0 ?_
  refine Wo 9 0 (Z7n a_Cells b_Cells) fun v h1=>?_
  refine Wk [] 0 [] Wz

theorem Z8b (r':Z5) (r:Bool) (h:Z06 r'=some r):Ze Tryz.prog 38 [(.agg 4 (fun j=>(Y8 nvS r' j)))] ((.v (.bool r))):=by
  obtain ⟨r_Cells,r_Wrap,r_Dir,r_Explicit⟩:=r'
  unfold Z06 at h
  try dsimp only at h
  refine Wfn Tryz.func38 (Zj Tryz.f38) fun ctr hc=>?_
  revert h
  refine Wyp 1 [] 0 [] (Wq ?_)
  intro h
  intros
  refine Zx h (ctr+1) [(2,16)] [] (fun _ u=>Fa [] []) (fun x uc ug ut ht hu hp h=>?_) (fun f h=>?_)
  · refine Wo0 ?_
    refine Wog 40 0 (if (if (if (decide (1≤(Z0 r_Cells)))=true then (decide ((Z0 r_Cells)≤4096)) else false)=true then (decide (0≤r_Dir)) else false)=true then (decide (r_Dir≤2)) else false) (Z89 (Z5.mk r_Cells r_Wrap r_Dir r_Explicit)) Z3 fun v h7=>?_
    obtain ⟨v_Cells,v_Wrap,v_Dir,v_Explicit⟩:=v
    refine Wog 42 0 (if (if (if (decide (1≤(Z0 r_Cells)))=true then (decide ((Z0 r_Cells)≤4096)) else false)=true then (decide (0≤r_Dir)) else false)=true then (decide (r_Dir≤2)) else false) (Z8a (Z5.mk v_Cells v_Wrap v_Dir v_Explicit) (Z5.mk r_Cells r_Wrap r_Dir r_Explicit)) false fun v1 h8=>?_
    refine Wk [] 0 [] Wz
  · revert h
    refine Wyp 1 [] 0 [] (Wq ?_)
    intro h
    intros
    refine Tr.block ?_
    refine Wlp h (ctr+2) [(2,16)] [] (fun i u1=>Fa [(3,.v (.int .i64 i))] []) Yk (fun i u1c u1g u1t f ht hu hp h=>?_)
    refine Wo0 ?_
    refine Wo 16 0 (Z8x (Z1 Z2 r_Cells i)) fun v2 h16=>?_
    refine Wk [] 0 [] Wz

theorem Z1t (g':Yb) (r:Bool) (h:Xm g'=some r):Ze Tryz.prog 15 [(.agg 1 (fun j=>(Z23 nvS g' j)))] ((.v (.bool r))):=by
  obtain ⟨g_Rows⟩:=g'
  unfold Xm at h
  try dsimp only at h
  refine Wfn Tryz.func15 (Zj Tryz.f15) fun ctr hc=>?_
  revert h
  refine Wyp 1 [] 0 [] (Wq ?_)
  intro h
  intros
  refine Zx h (ctr+1) [(2,32)] [] (fun _ u=>Fa [] []) (fun x uc ug ut ht hu hp h=>?_) (fun f h=>?_)
  · refine Wx [] 0 [] Wz
  · revert h
    refine Wyp 1 [] 0 [] (Wq ?_)
    intro h
    intros
    refine Tr.block ?_
    refine Wlp h (ctr+2) [(2,32)] [] (fun i u1=>Fa [(3,.v (.int .i64 i))] []) Yk (fun i u1c u1g u1t f ht hu hp h=>?_)
    refine Wo0 ?_
    refine Wo 16 0 (Z8b (Z1 Z3 g_Rows i)) fun v h22=>?_
    refine Wk [] 0 [] Wz

theorem view_Map_ok (d':Za) (l':(List Z5)) (y':Int) (boxes:Bool) (r:(Zi × Bool)) (h:Z11 d' l' y' boxes=some r):Ze Tryz.prog 17 [(.agg 6 (fun j=>(Ym nvS d' j))),(.sl 4 (nvS.len l') false (fun ix jx=>(Y8 nvS (nvS.get Z3 l' ix) jx))),(.v (.int .i64 y')),(.v (.bool boxes))] (.tup 2 (fun j=>match j with | 0=>(.agg 4 (fun j=>(Yz nvS r.1 j))) | 1=>(.v (.bool r.2)) | _=>.junk)):=by
  obtain ⟨⟨d_Class_L⟩,⟨d_Wide_L⟩,⟨d_Join_L⟩,d_Mirror,d_Brackets,d_Forms⟩:=d'
  unfold Z11 at h
  try dsimp only at h
  refine Wfn Tryz.func17 (Zj Tryz.f17) fun ctr hc=>?_
  refine Wo0 ?_
  refine Wog 22 0 (!(if (decide (y' < 0))=true then true else (decide ((Z0 l')≤y')))) (view_sane_ok l') false fun v h1=>?_
  refine Wo 35 0 (Z9b (Z1 Z3 l' y')) fun v1 h4=>?_
  obtain ⟨v1_V2L,v1_L2V,v1_Cells,v1_Base⟩:=v1
  refine Wo 39 0 (Z97 l' y') fun v2 h5=>?_
  obtain ⟨v2_0,v2_1⟩:=v2
  refine Wo 50 0 (view_read_ok (Za.mk (Z4.mk d_Class_L) (Z4.mk d_Wide_L) (Z4.mk d_Join_L) d_Mirror d_Brackets d_Forms) l' v2_0 v2_1 boxes) fun v3 h6=>?_
  obtain ⟨v3_from,v3_to,v3_levels,v3_glyphs,v3_base⟩:=v3
  refine Wo 51 0 (view_see_ok (Za.mk (Z4.mk d_Class_L) (Z4.mk d_Wide_L) (Z4.mk d_Join_L) d_Mirror d_Brackets d_Forms) l' y' (Yh.mk v3_from v3_to v3_levels v3_glyphs v3_base)) fun v4 h7=>?_
  obtain ⟨v4_V2L,v4_L2V,v4_Cells,v4_Base⟩:=v4
  refine Wk [] 0 [] Wz
end Go.Vx
