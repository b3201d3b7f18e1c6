/- Walks, by program (lift.py). -/
import Derived.Test.YtmbgnnedjgmhmaaGreatDoorKWalk
import Derived.Test.YtmbgnnedjgmhmaaGreatDoorKWalkE
import Derived.Test.YtmbgnnedjgmhmaaGreatDoorKWalkW
import Derived.Test.YtmbgnnedjgmhmaaGreatDoorKWalkSd
import Derived.Test.YtmbgnnedjgmhmaaGreatDoorKWalkCh
set_option linter.all false
namespace Go.Vx
open Go.Proofs
set_option maxRecDepth 100000
set_option maxHeartbeats 1000000
set_option linter.unusedVariables false
set_option linter.unusedSimpArgs false
attribute [local irreducible] chk Z7 Z8 Zu nilO

theorem Z6m (c':Int) (r:Bool) (h:Z4a c'=some r):Ze Tryz.prog 110 [(.v (.int .i64 c'))] ((.v (.bool r))):=by
  unfold Z4a at h
  refine Wfn Tryz.func110 (Zl Tryz.f110) fun ctr hc=>?_
  refine Wx [] 0 [] Wz

theorem pen_Sane_ok (p':Z0s) (r:Bool) (h:Z72 p'=some r):Ze Tryz.prog 86 [(.agg 3 (fun j=>(Z7t nvS p' j)))] ((.v (.bool r))):=by
  obtain ⟨p_Fg,p_Bg,p_Flags⟩:=p'
  unfold Z72 at h
  try dsimp only at h
  refine Wfn Tryz.func86 (Zl Tryz.f86) fun ctr hc=>?_
  refine Wo0 ?_
  refine Wo 5 0 (Z6m p_Fg) fun v h1=>?_
  refine Wog 9 0 v (Z6m p_Bg) false fun v1 h2=>?_
  refine Wk [] 0 [] Wz

theorem row_fits_ok (c':Zi) (r:Bool) (h:Z73 c'=some r):Ze Tryz.prog 59 [(.agg 7 (fun j=>(Q7 nvS c' j)))] ((.v (.bool r))):=by
  obtain ⟨c_R,⟨c_M_x0,c_M_x1⟩,c_W,⟨c_Pen_Fg,c_Pen_Bg,c_Pen_Flags⟩⟩:=c'
  unfold Z73 at h
  try dsimp only at h
  refine Wfn Tryz.func59 (Zl Tryz.f59) fun ctr hc=>?_
  revert h
  refine Wyp 1 [] 0 [] (Wq ?_)
  intro h
  intros
  refine Zy h (ctr+1) [(2,1),(1,22)] [] (fun _ u=>Fa [] []) (fun x uc ug ut ht hu hp h=>?_) (fun f h=>?_)
  · refine Wo0 ?_
    refine Wog 49 0 (!(if (if (decide (c_R < 0))=true then true else (decide (1114111 < c_R)))=true then true else (if (c_M_x0 == 0)=true then (!(c_M_x1 == 0)) else false))) (pen_Sane_ok (Z0s.mk c_Pen_Fg c_Pen_Bg c_Pen_Flags)) false fun v h3=>?_
    refine Wk [] 0 [] Wz
  · revert h
    refine Wyp 1 [] 0 [] (Wq ?_)
    intro h
    intros
    refine Tr.block ?_
    refine Tr.rounds 3 ?_
    refine Wrnd h (ctr+2) [(2,1),(1,1),(2,19)] [] (fun _ u1=>Fa [(7,.v (.int .i64 1))] []) (fun x u1c u1g u1t ht hu hp h=>?_) (fun f h=>?_)
    · refine Wrnd h u1c [(2,1),(1,1),(2,19)] [] (fun _ u2=>Fa [(7,.v (.int .i64 2))] []) (fun x u2c u2g u2t ht hu hp h=>?_) (fun f h=>?_)
      · refine Wx [] 0 [] Wz
      · refine Wx [] 0 [] Wz
    · refine Wx [] 0 [] Wz

theorem row_lost_ok (l':(List Zi)) (i:Int) (r:Bool) (h:Z74 l' i=some r):Ze Tryz.prog 60 [(.sl 7 (nvS.len l') false (fun ix jx=>(Q7 nvS (nvS.get Z4 l' ix) jx))),(.v (.int .i64 i))] ((.v (.bool r))):=by
  unfold Z74 at h
  refine Wfn Tryz.func60 (Zl Tryz.f60) fun ctr hc=>?_
  refine Wx [] 0 [] Wz

theorem Z7d (r':Z5) (r:Bool) (h:Q6 r'=some r):Ze Tryz.prog 39 [(.agg 4 (fun j=>(Yq nvS r' j)))] ((.v (.bool r))):=by
  obtain ⟨r_Cells,r_Wrap,r_Dir,r_Explicit⟩:=r'
  unfold Q6 at h
  try dsimp only at h
  refine Wfn Tryz.func39 (Zl Tryz.f39) fun ctr hc=>?_
  revert h
  refine Wyp 2 [] 0 [] (Wq ?_)
  intro h
  intros
  refine Zy h (ctr+2) [(2,3),(20,18)] [] (fun _ u=>Fa [] []) (fun x uc ug ut ht hu hp h=>?_) (fun f h=>?_)
  · refine Wx [] 0 [] Wz
  · revert h
    refine Wyp 1 [] 0 [] (Wq ?_)
    intro h
    intros
    refine Tr.block ?_
    refine Wlp h (ctr+3) [(2,3),(23,15)] [(4,1)] (fun v u1=>Fa [(28,.v (.int .i64 v))] []) Yr (fun v u1c u1g u1t f ht hu hp h=>?_)
    refine Wo0 ?_
    refine Wo 34 0 (row_fits_ok (Z1 Z4 r_Cells v)) fun v1 h18=>?_
    refine Wog 40 0 (!(!v1)) (row_lost_ok r_Cells v) false fun v2 h19=>?_
    refine Wk [] 0 [] Wz

theorem view_sane_ok (l':(List Z5)) (r:Bool) (h:Q2 l'=some r):Ze Tryz.prog 21 [(.sl 4 (nvS.len l') false (fun ix jx=>(Yq nvS (nvS.get Z3 l' ix) jx)))] ((.v (.bool r))):=by
  unfold Q2 at h
  refine Wfn Tryz.func21 (Zl Tryz.f21) fun ctr hc=>?_
  revert h
  refine Wyp 1 [] 0 [] (Wq ?_)
  intro h
  intros
  refine Zy h (ctr+1) [(2,1),(1,11)] [] (fun _ u=>Fa [] []) (fun x uc ug ut ht hu hp h=>?_) (fun f h=>?_)
  · refine Wx [] 0 [] Wz
  · revert h
    refine Wyp 1 [] 0 [] (Wq ?_)
    intro h
    intros
    refine Tr.block ?_
    refine Wlp h (ctr+2) [(2,1),(1,1),(2,8)] [(4,1)] (fun v u1=>Fa [(7,.v (.int .i64 v))] []) Yr (fun v u1c u1g u1t f ht hu hp h=>?_)
    refine Wo0 ?_
    refine Wo 12 0 (Z7d (Z1 Z3 l' v)) fun v1 h14=>?_
    refine Wk [] 0 [] Wz

theorem Z3x (r':Z5) (r:((List Int) × (List Int))) (h:Z0m r'=some r):Ze Tryz.prog 43 [(.agg 4 (fun j=>(Yq nvS r' j)))] (.tup 2 (fun j=>match j with | 0=>(.sl 1 (nvS.len r.1) false (fun ix jx=>(.v (.int .i64 (nvS.get 0 r.1 ix))))) | 1=>(.sl 1 (nvS.len r.2) false (fun ix jx=>(.v (.int .i64 (nvS.get 0 r.2 ix))))) | _=>.junk)):=by
  obtain ⟨r_Cells,r_Wrap,r_Dir,r_Explicit⟩:=r'
  unfold Z0m at h
  try dsimp only at h
  refine Wfn Tryz.func43 (Zl Tryz.f43) fun ctr hc=>?_
  revert h
  refine Wyp 2 [] 0 [] (Wq ?_)
  intro h
  intros
  refine Zy h (ctr+2) [(4,2),(1,26)] [(26,1),(4,1)] (fun (out,widths) u=>Fa [(4,.vec 26 (u.g 26) 1 0 (nvS.len out)),(5,.vec 31 (u.g 31) 1 0 (nvS.len widths))] [(26,.arr (u.g 26) 1 (nvS.len out) (u.t 26) (fun ix jx=>(.v (.int .i64 (nvS.get 0 out ix))))),(31,.arr (u.g 31) 1 (nvS.len widths) (u.t 31) (fun ix jx=>(.v (.int .i64 (nvS.get 0 widths ix)))))]) (fun x uc ug ut ht hu hp h=>?_) (fun f h=>?_)
  · obtain ⟨out,widths⟩:=x
    try dsimp only at hp h
    refine Wx [] 0 [] Wz
  · revert h
    refine Wyp 1 [] 0 [] (Wq ?_)
    intro h
    intros
    refine Tr.block ?_
    refine Wlp h (ctr+3) [(4,2),(1,2),(3,21)] [(7,1),(18,1),(4,1)] (fun (v,Zb,widths1) u1=>Fa [(4,.vec 26 (u1.g 26) 1 0 (nvS.len Zb)),(5,.vec 31 (u1.g 31) 1 0 (nvS.len widths1)),(12,.v (.int .i64 v))] [(26,.arr (u1.g 26) 1 (nvS.len Zb) (u1.t 26) (fun ix jx=>(.v (.int .i64 (nvS.get 0 Zb ix))))),(31,.arr (u1.g 31) 1 (nvS.len widths1) (u1.t 31) (fun ix jx=>(.v (.int .i64 (nvS.get 0 widths1 ix)))))]) Yr (fun x u1c u1g u1t f ht hu hp h=>?_)
    obtain ⟨v,Zb,widths1⟩:=x
    try dsimp only at hp h
    refine Wx [25,30] 0 [] Wz

theorem Z3y (s:List Int) (s_off:Int) (s_n:Int) (r:(List Int)) (h:Xh s s_off s_n=some r) (s_N:Int) (hs_N:Z0 s=s_N) (tg0:Bool):X3 Tryz.prog 111 [.vec 0 0 1 s_off s_n] [.arr 0 1 s_N tg0 (fun ix jx=>(.v (.int .i64 (nvS.get 0 s ix))))] [.arr 0 1 s_N tg0 (fun ix jx=>(.v (.int .i64 (nvS.get 0 r ix))))] (.tup 0 (fun _=>.junk)):=by
  unfold Xh at h
  refine Wfl Tryz.func111 (Zl Tryz.f111) fun ctr hc=>?_
  replace h:=X9 h;obtain ⟨h20,h⟩:=h
  revert h
  refine Wyp 1 [] 1 [] (Wq ?_)
  intro h
  intros
  refine Tr.block ?_
  refine Wlp h (ctr+1) [(2,2),(3,21)] [(0,1)] (fun (i,j1,s1) u=>⟨[(2,.v (.int .i64 i)),(3,.v (.int .i64 j1))],[(0,.arr (0) 1 s_N (tg0) (fun ix jx=>(.v (.int .i64 (nvS.get 0 s1 ix)))))],fun _=>Z0 s1=s_N⟩) Yr (fun x uc ug ut f ht hu hp h=>?_)
  obtain ⟨i,j1,s1⟩:=x
  try dsimp only at hp h
  refine Wx [] 1 [] Wz

theorem order_Visual_ok (levels:(List Int)) (r:(List Int)) (h:Q9 levels=some r):Ze Tryz.prog 87 [(.sl 1 (nvS.len levels) false (fun ix jx=>(.v (.int .i64 (nvS.get 0 levels ix)))))] (.own 1 (nvS.len r) false (fun ix jx=>(.v (.int .i64 (nvS.get 0 r ix))))):=by
  unfold Q9 at h
  refine Wfn Tryz.func87 (Zl Tryz.f87) fun ctr hc=>?_
  revert h
  refine Wyp 4 [] 0 [] (Wq ?_)
  intro h
  intros
  refine Zy h (ctr+4) [(5,4),(9,28)] [(14,1),(2,1)] (fun (most,Xe,l',out) u=>⟨[(5,.v (.int .i64 most)),(6,.v (.int .i64 Xe))],[(14,.arr (ctr+1) 1 (nvS.len levels) (u.t 14) (fun ix jx=>(.v (.int .i64 (nvS.get 0 l' ix))))),(17,.arr (ctr+2) 1 (nvS.len levels) (u.t 17) (fun ix jx=>(.v (.int .i64 (nvS.get 0 out ix)))))],fun _=>Z0 l'=(Z0 levels)∧Z0 out=(Z0 levels)⟩) (fun x uc ug ut ht hu hp h=>?_) (fun f h=>?_)
  · obtain ⟨most,Xe,l',out⟩:=x
    try dsimp only at hp h
    refine Zy h uc [(9,3),(34,32)] [(17,1)] (fun Zb u1=>⟨[],[(17,.arr (ctr+2) 1 (nvS.len levels) (u1.t 17) (fun ix jx=>(.v (.int .i64 (nvS.get 0 Zb ix)))))],fun _=>Z0 Zb=(Z0 levels)⟩) (fun Zb u1c u1g u1t ht hu hp h=>?_) (fun f h=>?_)
    · try dsimp only at hp h
      refine Wx [] 0 [] Wz
    · revert h
      refine Wyp 1 [] 0 [] (Wq ?_)
      intro h
      intros
      refine Tr.block ?_
      refine Wlp h (uc+1) [(9,3),(35,31)] [(17,1)] (fun (level,out2) u2=>⟨[(9,.v (.int .i64 level))],[(17,.arr (ctr+2) 1 (nvS.len levels) (u2.t 17) (fun ix jx=>(.v (.int .i64 (nvS.get 0 out2 ix)))))],fun _=>Z0 out2=(Z0 levels)⟩) Yr (fun x u2c u2g u2t f ht hu hp h=>?_)
      obtain ⟨level,out2⟩:=x
      try dsimp only at hp h
      revert h
      refine Wyp 1 [] 0 [] (Wq ?_)
      intro h
      intros
      refine Zy h (u2c+1) [(10,2),(40,26)] [(17,1)] (fun out3 u3=>⟨[],[(17,.arr (ctr+2) 1 (nvS.len levels) (u3.t 17) (fun ix jx=>(.v (.int .i64 (nvS.get 0 out3 ix)))))],fun _=>Z0 out3=(Z0 levels)⟩) (fun out3 u3c u3g u3t ht hu hp h=>?_) (fun f h=>?_)
      · try dsimp only at hp h
        refine Wx [] 0 [] Wz
      · refine Tr.block ?_
        revert h
        refine Wyp 1 [] 0 [] (Wq ?_)
        intro h
        intros
        refine Tr.block ?_
        refine Wlp h (u2c+2) [(10,2),(40,26)] [(17,1)] (fun (from',out4) u4=>⟨[(10,.v (.int .i64 from'))],[(17,.arr (ctr+2) 1 (nvS.len levels) (u4.t 17) (fun ix jx=>(.v (.int .i64 (nvS.get 0 out4 ix)))))],fun _=>Z0 out4=(Z0 levels)⟩) Yr (fun x u4c u4g u4t f ht hu hp h=>?_)
        obtain ⟨from',out4⟩:=x
        try dsimp only at hp h
        revert h
        refine Wyp 1 [] 0 [] (Wq ?_)
        intro h
        intros
        refine Tr.block ?_
        revert h
        refine Wyp 1 [] 0 [] (Wq ?_)
        intro h
        intros
        refine Zy h (u4c+2) [(11,1),(45,14)] [] (fun to u5=>Fa [(11,.v (.int .i64 to))] []) (fun to u5c u5g u5t ht hu hp h=>?_) (fun f h=>?_)
        · refine Wo0 ?_
          refine Wol 75 (fun r h=>Z3y out4 (0+from') (to-from') r h ((nvS.len levels)) Wy (u4t 17)) fun v h121=>?_
          refine Wk [] 0 [] Wz
        · refine Tr.block ?_
          refine Wlp h (u4c+2) [(11,1),(45,14)] [] (fun to1 u6=>Fa [(11,.v (.int .i64 to1))] []) Yr (fun to1 u6c u6g u6t f ht hu hp h=>?_)
          refine Wx [] 0 [] Wz
  · revert h
    refine Wyp 1 [] 0 [] (Wq ?_)
    intro h
    intros
    refine Tr.block ?_
    refine Wlp h (ctr+5) [(5,4),(11,26)] [(14,1),(2,1)] (fun (most1,least1,v1,l'1,out5) u7=>⟨[(5,.v (.int .i64 most1)),(6,.v (.int .i64 least1)),(20,.v (.int .i64 v1))],[(14,.arr (ctr+1) 1 (nvS.len levels) (u7.t 14) (fun ix jx=>(.v (.int .i64 (nvS.get 0 l'1 ix))))),(17,.arr (ctr+2) 1 (nvS.len levels) (u7.t 17) (fun ix jx=>(.v (.int .i64 (nvS.get 0 out5 ix)))))],fun _=>Z0 l'1=(Z0 levels)∧Z0 out5=(Z0 levels)⟩) Yr (fun x u7c u7g u7t f ht hu hp h=>?_)
    obtain ⟨most1,least1,v1,l'1,out5⟩:=x
    try dsimp only at hp h
    refine Wx [] 0 [] Wz

theorem order_Cells_ok (levels:(List Int)) (widths:(List Int)) (r:((List Int) × Bool)) (h:Z3o levels widths=some r):Ze Tryz.prog 62 [(.sl 1 (nvS.len levels) false (fun ix jx=>(.v (.int .i64 (nvS.get 0 levels ix))))),(.sl 1 (nvS.len widths) false (fun ix jx=>(.v (.int .i64 (nvS.get 0 widths ix)))))] (.tup 2 (fun j=>match j with | 0=>(.sl 1 (nvS.len r.1) false (fun ix jx=>(.v (.int .i64 (nvS.get 0 r.1 ix))))) | 1=>(.v (.bool r.2)) | _=>.junk)):=by
  unfold Z3o at h
  refine Wfn Tryz.func62 (Zl Tryz.f62) fun ctr hc=>?_
  revert h
  refine Wyp 4 [] 0 [] (Wq ?_)
  intro h
  intros
  refine Zy h (ctr+4) [(4,2),(1,3),(12,21)] [(21,1)] (fun (n,starts) u=>⟨[(7,.v (.int .i64 n))],[(21,.arr (ctr+2) 1 (nvS.len widths) (u.t 21) (fun ix jx=>(.v (.int .i64 (nvS.get 0 starts ix)))))],fun _=>Z0 starts=(Z0 widths)⟩) (fun x uc ug ut ht hu hp h=>?_) (fun f h=>?_)
  · obtain ⟨n,starts⟩:=x
    try dsimp only at hp h
    revert h
    refine Wyp 1 [] 0 [] (Wq ?_)
    intro h
    intros
    refine Zy h (uc+1) [(10,1),(1,2),(31,25)] [(44,1),(1,1)] (fun out u1=>Fa [(10,.vec 44 (u1.g 44) 1 0 (nvS.len out))] [(44,.arr (u1.g 44) 1 (nvS.len out) (u1.t 44) (fun ix jx=>(.v (.int .i64 (nvS.get 0 out ix)))))]) (fun out u1c u1g u1t ht hu hp h=>?_) (fun f h=>?_)
    · refine Wx [] 0 [] Wz
    · refine Wo0 ?_
      refine Wo 46 1 (order_Visual_ok levels) fun v h34=>?_
      revert h
      refine Wjp 1 [] 0 [] (Wq ?_)
      intro h
      intros
      refine Tr.block ?_
      refine Wlp h (uc+2) [(10,1),(1,2),(34,22)] [(44,1)] (fun (v1,Zb) u2=>Fa [(10,.vec 44 (u2.g 44) 1 0 (nvS.len Zb)),(48,.v (.int .i64 v1))] [(44,.arr (u2.g 44) 1 (nvS.len Zb) (u2.t 44) (fun ix jx=>(.v (.int .i64 (nvS.get 0 Zb ix)))))]) Yr (fun x u2c u2g u2t f ht hu hp h=>?_)
      obtain ⟨v1,Zb⟩:=x
      try dsimp only at hp h
      revert h
      refine Wyp 2 [] 0 [] (Wq ?_)
      intro h
      intros
      refine Zy h (u2c+1) [(10,1),(1,2),(36,19)] [(44,1)] (fun out2 u3=>Fa [(10,.vec 44 (u3.g 44) 1 0 (nvS.len out2))] [(44,.arr (u3.g 44) 1 (nvS.len out2) (u3.t 44) (fun ix jx=>(.v (.int .i64 (nvS.get 0 out2 ix)))))]) (fun out2 u3c u3g u3t ht hu hp h=>?_) (fun f h=>?_)
      · refine Wx [] 0 [] Wz
      · refine Tr.block ?_
        revert h
        refine Wyp 2 [] 0 [] (Wq ?_)
        intro h
        intros
        refine Tr.block ?_
        refine Wlp h (u2c+3) [(10,1),(2,1),(42,13)] [(44,1),(22,1)] (fun (v2,out3) u4=>Fa [(10,.vec 44 (u4.g 44) 1 0 (nvS.len out3)),(56,.v (.int .i64 v2))] [(44,.arr (u4.g 44) 1 (nvS.len out3) (u4.t 44) (fun ix jx=>(.v (.int .i64 (nvS.get 0 out3 ix)))))]) Yr (fun x u4c u4g u4t f ht hu hp h=>?_)
        obtain ⟨v2,out3⟩:=x
        try dsimp only at hp h
        refine Wx [66] 0 [] Wz
  · revert h
    refine Wyp 1 [] 0 [] (Wq ?_)
    intro h
    intros
    refine Tr.block ?_
    refine Wlp h (ctr+5) [(4,2),(1,3),(14,19)] [(21,1)] (fun (n1,v3,starts1) u5=>⟨[(7,.v (.int .i64 n1)),(24,.v (.int .i64 v3))],[(21,.arr (ctr+2) 1 (nvS.len widths) (u5.t 21) (fun ix jx=>(.v (.int .i64 (nvS.get 0 starts1 ix)))))],fun _=>Z0 starts1=(Z0 widths)⟩) Yr (fun x u5c u5g u5t f ht hu hp h=>?_)
    obtain ⟨n1,v3,starts1⟩:=x
    try dsimp only at hp h
    refine Wx [] 0 [] Wz

theorem Z6n (l':(List Int)) (r:((List Int) × Bool)) (h:Qy l'=some r):Ze Tryz.prog 61 [(.sl 1 (nvS.len l') false (fun ix jx=>(.v (.int .i64 (nvS.get 0 l' ix)))))] (.tup 2 (fun j=>match j with | 0=>(.sl 1 (nvS.len r.1) false (fun ix jx=>(.v (.int .i64 (nvS.get 0 r.1 ix))))) | 1=>(.v (.bool r.2)) | _=>.junk)):=by
  unfold Qy at h
  refine Wfn Tryz.func61 (Zl Tryz.f61) fun ctr hc=>?_
  revert h
  refine Wyp 2 [] 0 [] (Wq ?_)
  intro h
  intros
  refine Zy h (ctr+2) [(5,1),(5,9)] [(10,1)] (fun out u=>⟨[],[(10,.arr (ctr+1) 1 (nvS.len l') (u.t 10) (fun ix jx=>(.v (.int .i64 (nvS.get 0 out ix)))))],fun _=>Z0 out=(Z0 l')⟩) (fun out uc ug ut ht hu hp h=>?_) (fun f h=>?_)
  · try dsimp only at hp h
    refine Zy h uc [(2,2),(2,2),(12,27)] [(10,1)] (fun Zb u1=>⟨[],[(10,.arr (ctr+1) 1 (nvS.len l') (u1.t 10) (fun ix jx=>(.v (.int .i64 (nvS.get 0 Zb ix)))))],fun _=>Z0 Zb=(Z0 l')⟩) (fun Zb u1c u1g u1t ht hu hp h=>?_) (fun f h=>?_)
    · try dsimp only at hp h
      refine Wx [] 0 [] Wz
    · revert h
      refine Wyp 1 [] 0 [] (Wq ?_)
      intro h
      intros
      refine Tr.block ?_
      refine Wlp h (uc+1) [(2,2),(2,2),(14,25)] [(10,1)] (fun (v,out2) u2=>⟨[(22,.v (.int .i64 v))],[(10,.arr (ctr+1) 1 (nvS.len l') (u2.t 10) (fun ix jx=>(.v (.int .i64 (nvS.get 0 out2 ix)))))],fun _=>Z0 out2=(Z0 l')⟩) Yr (fun x u2c u2g u2t f ht hu hp h=>?_)
      obtain ⟨v,out2⟩:=x
      try dsimp only at hp h
      refine Wx [] 0 [] Wz
  · revert h
    refine Wyp 1 [] 0 [] (Wq ?_)
    intro h
    intros
    refine Tr.block ?_
    refine Wlp h (ctr+3) [(5,1),(7,7)] [(10,1)] (fun (v1,out3) u3=>⟨[(13,.v (.int .i64 v1))],[(10,.arr (ctr+1) 1 (nvS.len l') (u3.t 10) (fun ix jx=>(.v (.int .i64 (nvS.get 0 out3 ix)))))],fun _=>Z0 out3=(Z0 l')⟩) Yr (fun x u3c u3g u3t f ht hu hp h=>?_)
    obtain ⟨v1,out3⟩:=x
    try dsimp only at hp h
    refine Wx [] 0 [] Wz

theorem Z7e (cells:(List Zi)) (levels:(List Int)) (widths:(List Int)) (base:Int) (r:Zj) (h:Z2e cells levels widths base=some r):Ze Tryz.prog 44 [(.sl 7 (nvS.len cells) false (fun ix jx=>(Q7 nvS (nvS.get Z4 cells ix) jx))),(.sl 1 (nvS.len levels) false (fun ix jx=>(.v (.int .i64 (nvS.get 0 levels ix))))),(.sl 1 (nvS.len widths) false (fun ix jx=>(.v (.int .i64 (nvS.get 0 widths ix))))),(.v (.int .i64 base))] ((.agg 4 (fun j=>(Yy nvS r j)))):=by
  unfold Z2e at h
  refine Wfn Tryz.func44 (Zl Tryz.f44) fun ctr hc=>?_
  refine Wo0 ?_
  refine Wo 17 0 (order_Cells_ok levels widths) fun v h1=>?_
  obtain ⟨v_0,v_1⟩:=v
  refine Wo 24 0 (Z6n v_0) fun v1 h2=>?_
  obtain ⟨v1_0,v1_1⟩:=v1
  revert h
  refine Wjp 5 [] 0 [] (Wq ?_)
  intro h
  intros
  refine Zy h (ctr+5) [(10,2),(21,17)] [(31,1)] (fun o u=>⟨[],[(31,.arr (ctr+4) 7 (nvS.len v_0) (u.t 31) (fun ix jx=>(Q7 nvS (nvS.get Z4 o ix) jx)))],fun _=>Z0 o=(Z0 v_0)⟩) (fun o uc ug ut ht hu hp h=>?_) (fun f h=>?_)
  · try dsimp only at hp h
    refine Wx [] 0 [] Wz
  · revert h
    refine Wyp 1 [] 0 [] (Wq ?_)
    intro h
    intros
    refine Tr.block ?_
    refine Wlp h (ctr+6) [(10,2),(24,14)] [(31,1)] (fun (v2,o1) u1=>⟨[(36,.v (.int .i64 v2))],[(31,.arr (ctr+4) 7 (nvS.len v_0) (u1.t 31) (fun ix jx=>(Q7 nvS (nvS.get Z4 o1 ix) jx)))],fun _=>Z0 o1=(Z0 v_0)⟩) Yr (fun x u1c u1g u1t f ht hu hp h=>?_)
    obtain ⟨v2,o1⟩:=x
    try dsimp only at hp h
    refine Wx [] 0 [] Wz

theorem view_fixed_ok (r':Z5) (r:Zj) (h:Z1w r'=some r):Ze Tryz.prog 22 [(.agg 4 (fun j=>(Yq nvS r' j)))] ((.agg 4 (fun j=>(Yy nvS r j)))):=by
  obtain ⟨r_Cells,r_Wrap,r_Dir,r_Explicit⟩:=r'
  unfold Z1w at h
  try dsimp only at h
  refine Wfn Tryz.func22 (Zl Tryz.f22) fun ctr hc=>?_
  refine Wo0 ?_
  refine Wo 9 0 (Z3x (Z5.mk r_Cells r_Wrap r_Dir r_Explicit)) fun v h1=>?_
  obtain ⟨v_0,v_1⟩:=v
  refine Wo 22 0 (Z7e r_Cells (Z0q (Z0 v_0) 0) v_1 0) fun v1 h3=>?_
  obtain ⟨v1_V2L,v1_L2V,v1_Cells,v1_Base⟩:=v1
  revert h
  refine Wjp 4 [] 0 [(4,[.freeze (.slot 5)])] (Wq ?_)
  intro h
  intros
  refine Zy h (ctr+4) [(6,1),(16,9)] [(14,1)] (fun levels u=>⟨[],[(14,.arr (ctr+2) 1 (nvS.len v_0) (u.t 14) (fun ix jx=>(.v (.int .i64 (nvS.get 0 levels ix)))))],fun _=>Z0 levels=(Z0 v_0)⟩) (fun levels uc ug ut ht hu hp h=>?_) (fun f h=>?_)
  · try dsimp only at hp h
    refine Wo0 ?_
    refine Wo 36 0 (Z7e r_Cells levels v_1 1) fun v2 h8=>?_
    obtain ⟨v2_V2L,v2_L2V,v2_Cells,v2_Base⟩:=v2
    refine Wk [] 0 [(10,[.freeze (.slot 5)])] Wz
  · revert h
    refine Wyp 1 [] 0 [] (Wq ?_)
    intro h
    intros
    refine Tr.block ?_
    refine Wlp h (ctr+5) [(6,1),(18,7)] [(14,1)] (fun (v3,levels1) u1=>⟨[(25,.v (.int .i64 v3))],[(14,.arr (ctr+2) 1 (nvS.len v_0) (u1.t 14) (fun ix jx=>(.v (.int .i64 (nvS.get 0 levels1 ix)))))],fun _=>Z0 levels1=(Z0 v_0)⟩) Yr (fun x u1c u1g u1t f ht hu hp h=>?_)
    obtain ⟨v3,levels1⟩:=x
    try dsimp only at hp h
    refine Wx [] 0 [] Wz

theorem Z7f (l':(List Z5)) (r:(List Int)) (h:Z17 l'=some r):Ze Tryz.prog 47 [(.sl 4 (nvS.len l') false (fun ix jx=>(Yq nvS (nvS.get Z3 l' ix) jx)))] (.own 1 (nvS.len r) false (fun ix jx=>(.v (.int .i64 (nvS.get 0 r ix))))):=by
  unfold Z17 at h
  refine Wfn Tryz.func47 (Zl Tryz.f47) fun ctr hc=>?_
  revert h
  refine Wyp 2 [] 0 [] (Wq ?_)
  intro h
  intros
  refine Zy h (ctr+2) [(3,1),(1,18)] [(21,1)] (fun out u=>Fa [(3,.vec 21 (u.g 21) 1 0 (nvS.len out))] [(21,.arr (u.g 21) 1 (nvS.len out) (u.t 21) (fun ix jx=>(.v (.int .i64 (nvS.get 0 out ix)))))]) (fun out uc ug ut ht hu hp h=>?_) (fun f h=>?_)
  · refine Wx [] 0 [] Wz
  · revert h
    refine Wyp 1 [] 0 [] (Wq ?_)
    intro h
    intros
    refine Tr.block ?_
    refine Wlp h (ctr+3) [(3,1),(1,3),(2,13)] [(5,1),(15,1)] (fun (v,Zb) u1=>Fa [(3,.vec 21 (u1.g 21) 1 0 (nvS.len Zb)),(10,.v (.int .i64 v))] [(21,.arr (u1.g 21) 1 (nvS.len Zb) (u1.t 21) (fun ix jx=>(.v (.int .i64 (nvS.get 0 Zb ix)))))]) Yr (fun x u1c u1g u1t f ht hu hp h=>?_)
    obtain ⟨v,Zb⟩:=x
    try dsimp only at hp h
    refine Wo0 ?_
    refine Wo 16 0 (Z3x (Z1 Z3 l' v)) fun v1 h18=>?_
    obtain ⟨v1_0,v1_1⟩:=v1
    refine Wk [] 0 [] Wz

theorem Z7g (d':Za) (r':Int) (r:Int) (h:Z4s d' r'=some r):Ze Tryz.prog 99 [(.agg 6 (fun j=>(Yk nvS d' j))),(.v (.int .i64 r'))] ((.v (.int .i64 r))):=by
  obtain ⟨⟨d_Class_L⟩,⟨d_Wide_L⟩,⟨d_Join_L⟩,d_Mirror,d_Brackets,d_Forms⟩:=d'
  unfold Z4s at h
  try dsimp only at h
  refine Wfn Tryz.func99 (Zl Tryz.f99) fun ctr hc=>?_
  refine Wo0 ?_
  refine Wo 8 0 (Z8g (Z2.mk d_Join_L) r') fun v h1=>?_
  refine Wk [] 0 [] Wz

theorem Z1j (at':Int) (side:Int) (cap0:(List (Int × Int))) (cap1:Za) (cap2:(List Int)) (r:Bool) (h:Qm at' side cap0 cap1 cap2=some r):Ze Tryz.prog 98 [(.v (.int .i64 at')),(.v (.int .i64 side)),.imm 1 1 (fun _ j=>(.mp .i64 .i64 cap0)) 0 0,.imm 6 1 (fun _ j=>(Yk nvS cap1 j)) 0 0,.imm 1 1 (fun _ j=>(.sl 1 (nvS.len cap2) false (fun ix jx=>(.v (.int .i64 (nvS.get 0 cap2 ix)))))) 0 0] ((.v (.bool r))):=by
  obtain ⟨⟨cap1_Class_L⟩,⟨cap1_Wide_L⟩,⟨cap1_Join_L⟩,cap1_Mirror,cap1_Brackets,cap1_Forms⟩:=cap1
  unfold Qm at h
  try dsimp only at h
  refine Wfn Tryz.func98 (Zl Tryz.f98) fun ctr hc=>?_
  refine Wo0 ?_
  refine Wog 17 0 (decide (0≤at')) (Z7g (Za.mk (Z2.mk cap1_Class_L) (Z2.mk cap1_Wide_L) (Z2.mk cap1_Join_L) cap1_Mirror cap1_Brackets cap1_Forms) (Z1 0 cap2 at')) 0 fun v h2=>?_
  refine Wk [] 0 [] Wz

theorem shape_Before_ok (d':Za) (r':(List Int)) (at':Int) (r:Int) (h:Z2i d' r' at'=some r):Ze Tryz.prog 100 [(.agg 6 (fun j=>(Yk nvS d' j))),(.sl 1 (nvS.len r') false (fun ix jx=>(.v (.int .i64 (nvS.get 0 r' ix))))),(.v (.int .i64 at'))] ((.v (.int .i64 r))):=by
  obtain ⟨⟨d_Class_L⟩,⟨d_Wide_L⟩,⟨d_Join_L⟩,d_Mirror,d_Brackets,d_Forms⟩:=d'
  unfold Z2i at h
  try dsimp only at h
  refine Wfn Tryz.func100 (Zl Tryz.f100) fun ctr hc=>?_
  revert h
  refine Wyp 2 [] 0 [] (Wq ?_)
  intro h
  intros
  refine Zy h (ctr+2) [(6,2),(8,14)] [] (fun _ u=>Fa [] []) (fun x uc ug ut ht hu hp h=>?_) (fun f h=>?_)
  · refine Wx [] 0 [] Wz
  · revert h
    refine Wyp 1 [] 0 [] (Wq ?_)
    intro h
    intros
    refine Tr.block ?_
    refine Wlp h (ctr+3) [(6,2),(10,12)] [] (fun i1 u1=>Fa [(7,.v (.int .i64 i1))] []) Yr (fun i1 u1c u1g u1t f ht hu hp h=>?_)
    refine Wo0 ?_
    refine Wo 27 0 (Z7g (Za.mk (Z2.mk d_Class_L) (Z2.mk d_Wide_L) (Z2.mk d_Join_L) d_Mirror d_Brackets d_Forms) (Z1 0 r' i1)) fun v h16=>?_
    refine Wk [] 0 [] Wz

theorem Z7h (d':Za) (r':(List Int)) (at':Int) (r:Int) (h:Z24 d' r' at'=some r):Ze Tryz.prog 72 [(.agg 6 (fun j=>(Yk nvS d' j))),(.sl 1 (nvS.len r') false (fun ix jx=>(.v (.int .i64 (nvS.get 0 r' ix))))),(.v (.int .i64 at'))] ((.v (.int .i64 r))):=by
  obtain ⟨⟨d_Class_L⟩,⟨d_Wide_L⟩,⟨d_Join_L⟩,d_Mirror,d_Brackets,d_Forms⟩:=d'
  unfold Z24 at h
  try dsimp only at h
  refine Wfn Tryz.func72 (Zl Tryz.f72) fun ctr hc=>?_
  revert h
  refine Wyp 2 [] 0 [] (Wq ?_)
  intro h
  intros
  refine Zy h (ctr+2) [(6,2),(8,16)] [] (fun _ u=>Fa [] []) (fun x uc ug ut ht hu hp h=>?_) (fun f h=>?_)
  · refine Wx [] 0 [] Wz
  · revert h
    refine Wyp 1 [] 0 [] (Wq ?_)
    intro h
    intros
    refine Tr.block ?_
    refine Wlp h (ctr+3) [(6,2),(10,14)] [] (fun i1 u1=>Fa [(7,.v (.int .i64 i1))] []) Yr (fun i1 u1c u1g u1t f ht hu hp h=>?_)
    refine Wo0 ?_
    refine Wo 29 0 (Z7g (Za.mk (Z2.mk d_Class_L) (Z2.mk d_Wide_L) (Z2.mk d_Join_L) d_Mirror d_Brackets d_Forms) (Z1 0 r' i1)) fun v h16=>?_
    refine Wk [] 0 [] Wz

theorem shape_Forms_ok (d':Za) (r':(List Int)) (r:(List Int)) (h:Z3p d' r'=some r):Ze Tryz.prog 69 [(.agg 6 (fun j=>(Yk nvS d' j))),(.sl 1 (nvS.len r') false (fun ix jx=>(.v (.int .i64 (nvS.get 0 r' ix)))))] (.own 1 (nvS.len r) false (fun ix jx=>(.v (.int .i64 (nvS.get 0 r ix))))):=by
  obtain ⟨⟨d_Class_L⟩,⟨d_Wide_L⟩,⟨d_Join_L⟩,d_Mirror,d_Brackets,d_Forms⟩:=d'
  unfold Z3p at h
  try dsimp only at h
  refine Wfn Tryz.func69 (Zl Tryz.f69) fun ctr hc=>?_
  refine Wo0 ?_
  refine Wo 11 0 (shape_sides_ok) fun v h1=>?_
  revert h
  refine Wjp 4 [] 0 [] (Wq ?_)
  intro h
  intros
  refine Zy h (ctr+4) [(8,3),(5,49)] [(15,1)] (fun out u=>⟨[],[(15,.arr (ctr+3) 1 (nvS.len r') (u.t 15) (fun ix jx=>(.v (.int .i64 (nvS.get 0 out ix)))))],fun _=>Z0 out=(Z0 r')⟩) (fun out uc ug ut ht hu hp h=>?_) (fun f h=>?_)
  · try dsimp only at hp h
    refine Wx [] 0 [] Wz
  · revert h
    refine Wyp 1 [] 0 [] (Wq ?_)
    intro h
    intros
    refine Tr.block ?_
    refine Wlp h (ctr+5) [(8,3),(7,47)] [(15,1)] (fun (v1,Zb) u1=>⟨[(18,.v (.int .i64 v1))],[(15,.arr (ctr+3) 1 (nvS.len r') (u1.t 15) (fun ix jx=>(.v (.int .i64 (nvS.get 0 Zb ix)))))],fun _=>Z0 Zb=(Z0 r')⟩) Yr (fun x u1c u1g u1t f ht hu hp h=>?_)
    obtain ⟨v1,Zb⟩:=x
    try dsimp only at hp h
    refine Wo0 ?_
    refine Wo 23 4 (Z1j v1 1 v (Za.mk (Z2.mk d_Class_L) (Z2.mk d_Wide_L) (Z2.mk d_Join_L) d_Mirror d_Brackets d_Forms) r') fun v2 h59=>?_
    refine Wog 29 0 v2 (shape_Before_ok (Za.mk (Z2.mk d_Class_L) (Z2.mk d_Wide_L) (Z2.mk d_Join_L) d_Mirror d_Brackets d_Forms) r' v1) 0 fun v3 h60=>?_
    refine Wog 30 4 v2 (Z1j v3 2 v (Za.mk (Z2.mk d_Class_L) (Z2.mk d_Wide_L) (Z2.mk d_Join_L) d_Mirror d_Brackets d_Forms) r') false fun v4 h61=>?_
    refine Wo 34 4 (Z1j v1 2 v (Za.mk (Z2.mk d_Class_L) (Z2.mk d_Wide_L) (Z2.mk d_Join_L) d_Mirror d_Brackets d_Forms) r') fun v5 h62=>?_
    refine Wog 40 0 v5 (Z7h (Za.mk (Z2.mk d_Class_L) (Z2.mk d_Wide_L) (Z2.mk d_Join_L) d_Mirror d_Brackets d_Forms) r' v1) 0 fun v6 h63=>?_
    refine Wog 41 4 v5 (Z1j v6 1 v (Za.mk (Z2.mk d_Class_L) (Z2.mk d_Wide_L) (Z2.mk d_Join_L) d_Mirror d_Brackets d_Forms) r') false fun v7 h64=>?_
    refine Wk [] 0 [] Wz

theorem ucd_Shape_ok (d':Za) (r':Int) (which:Int) (r:Int) (h:Z5m d' r' which=some r):Ze Tryz.prog 70 [(.agg 6 (fun j=>(Yk nvS d' j))),(.v (.int .i64 r')),(.v (.int .i64 which))] ((.v (.int .i64 r))):=by
  obtain ⟨⟨d_Class_L⟩,⟨d_Wide_L⟩,⟨d_Join_L⟩,d_Mirror,d_Brackets,d_Forms⟩:=d'
  unfold Z5m at h
  try dsimp only at h
  refine Wfn Tryz.func70 (Zl Tryz.f70) fun ctr hc=>?_
  revert h
  refine Wyp 2 [] 0 [] (Wq ?_)
  intro h
  intros
  refine Zy h (ctr+2) [(6,1),(1,1),(7,37)] [] (fun _ u=>Fa [] []) (fun x uc ug ut ht hu hp h=>?_) (fun f h=>?_)
  · refine Wx [] 0 [] Wz
  · revert h
    refine Wyp 1 [] 0 [] (Wq ?_)
    intro h
    intros
    refine Tr.block ?_
    refine Wlp h (ctr+3) [(6,1),(1,1),(10,34)] [(8,1)] (fun v u1=>Fa [(19,.v (.int .i64 v))] []) Yr (fun v u1c u1g u1t f ht hu hp h=>?_)
    refine Wx [] 0 [] Wz

theorem ucd_Mirror_ok (d':Za) (r':Int) (r:Int) (h:Z4t d' r'=some r):Ze Tryz.prog 101 [(.agg 6 (fun j=>(Yk nvS d' j))),(.v (.int .i64 r'))] ((.v (.int .i64 r))):=by
  obtain ⟨⟨d_Class_L⟩,⟨d_Wide_L⟩,⟨d_Join_L⟩,d_Mirror,d_Brackets,d_Forms⟩:=d'
  unfold Z4t at h
  try dsimp only at h
  refine Wfn Tryz.func101 (Zl Tryz.f101) fun ctr hc=>?_
  revert h
  refine Wyp 1 [] 0 [] (Wq ?_)
  intro h
  intros
  refine Zy h (ctr+1) [(4,1),(1,22)] [] (fun _ u=>Fa [] []) (fun x uc ug ut ht hu hp h=>?_) (fun f h=>?_)
  · refine Wx [] 0 [] Wz
  · revert h
    refine Wyp 1 [] 0 [] (Wq ?_)
    intro h
    intros
    refine Tr.block ?_
    refine Wlp h (ctr+2) [(4,1),(1,1),(3,18)] [(6,1)] (fun v u1=>Fa [(10,.v (.int .i64 v))] []) Yr (fun v u1c u1g u1t f ht hu hp h=>?_)
    refine Wx [] 0 [] Wz

theorem shape_Mirror_ok (d':Za) (r':Int) (level:Int) (boxes:Bool) (r:Int) (h:Z2j d' r' level boxes=some r):Ze Tryz.prog 71 [(.agg 6 (fun j=>(Yk nvS d' j))),(.v (.int .i64 r')),(.v (.int .i64 level)),(.v (.bool boxes))] ((.v (.int .i64 r))):=by
  obtain ⟨⟨d_Class_L⟩,⟨d_Wide_L⟩,⟨d_Join_L⟩,d_Mirror,d_Brackets,d_Forms⟩:=d'
  unfold Z2j at h
  try dsimp only at h
  refine Wfn Tryz.func71 (Zl Tryz.f71) fun ctr hc=>?_
  refine Wo0 ?_
  refine Wo 27 0 (ucd_Mirror_ok (Za.mk (Z2.mk d_Class_L) (Z2.mk d_Wide_L) (Z2.mk d_Join_L) d_Mirror d_Brackets d_Forms) r') fun v h1=>?_
  refine Wk [] 0 [] Wz

theorem ucd_Ligature_ok (lam:Int) (alef:Int) (final:Bool) (r:(Int × Bool)) (h:Z2k lam alef final=some r):Ze Tryz.prog 73 [(.v (.int .i64 lam)),(.v (.int .i64 alef)),(.v (.bool final))] (.tup 2 (fun j=>match j with | 0=>(.v (.int .i64 r.1)) | 1=>(.v (.bool r.2)) | _=>.junk)):=by
  unfold Z2k at h
  refine Wfn Tryz.func73 (Zl Tryz.f73) fun ctr hc=>?_
  revert h
  refine Wyp 3 [] 0 [] (Wq ?_)
  intro h
  intros
  refine Wx [] 0 [] Wz

theorem shape_Glyphs_ok (d':Za) (r':(List Int)) (levels:(List Int)) (boxes:Bool) (r:(List Int)) (h:Z2l d' r' levels boxes=some r):Ze Tryz.prog 49 [(.agg 6 (fun j=>(Yk nvS d' j))),(.sl 1 (nvS.len r') false (fun ix jx=>(.v (.int .i64 (nvS.get 0 r' ix))))),(.sl 1 (nvS.len levels) false (fun ix jx=>(.v (.int .i64 (nvS.get 0 levels ix))))),(.v (.bool boxes))] (.own 1 (nvS.len r) false (fun ix jx=>(.v (.int .i64 (nvS.get 0 r ix))))):=by
  obtain ⟨⟨d_Class_L⟩,⟨d_Wide_L⟩,⟨d_Join_L⟩,d_Mirror,d_Brackets,d_Forms⟩:=d'
  unfold Z2l at h
  try dsimp only at h
  refine Wfn Tryz.func49 (Zl Tryz.f49) fun ctr hc=>?_
  refine Wo0 ?_
  refine Wo 20 1 (Xd r') fun v h1=>?_
  refine Wo 29 1 (shape_Forms_ok (Za.mk (Z2.mk d_Class_L) (Z2.mk d_Wide_L) (Z2.mk d_Join_L) d_Mirror d_Brackets d_Forms) r') fun v1 h2=>?_
  revert h
  refine Wjp 4 [] 0 [] (Wq ?_)
  intro h
  intros
  refine Zy h (ctr+4) [(11,2),(17,35)] [(20,1)] (fun out u=>⟨[],[(20,.arr (ctr+1) 1 (nvS.len v) (u.t 20) (fun ix jx=>(.v (.int .i64 (nvS.get 0 out ix)))))],fun _=>Z0 out=(Z0 v)⟩) (fun out uc ug ut ht hu hp h=>?_) (fun f h=>?_)
  · try dsimp only at hp h
    refine Zy h uc [(13,6),(46,48)] [(20,1)] (fun Zb u1=>⟨[],[(20,.arr (ctr+1) 1 (nvS.len v) (u1.t 20) (fun ix jx=>(.v (.int .i64 (nvS.get 0 Zb ix)))))],fun _=>Z0 Zb=(Z0 v)⟩) (fun Zb u1c u1g u1t ht hu hp h=>?_) (fun f h=>?_)
    · try dsimp only at hp h
      refine Wx [] 0 [] Wz
    · revert h
      refine Wyp 1 [] 0 [] (Wq ?_)
      intro h
      intros
      refine Tr.block ?_
      refine Wlp h (uc+1) [(13,6),(48,46)] [(20,1)] (fun (v2,out2) u2=>⟨[(67,.v (.int .i64 v2))],[(20,.arr (ctr+1) 1 (nvS.len v) (u2.t 20) (fun ix jx=>(.v (.int .i64 (nvS.get 0 out2 ix)))))],fun _=>Z0 out2=(Z0 v)⟩) Yr (fun x u2c u2g u2t f ht hu hp h=>?_)
      obtain ⟨v2,out2⟩:=x
      try dsimp only at hp h
      refine Wo0 ?_
      refine Wo 75 0 (Z7h (Za.mk (Z2.mk d_Class_L) (Z2.mk d_Wide_L) (Z2.mk d_Join_L) d_Mirror d_Brackets d_Forms) r' v2) fun v3 h66=>?_
      refine Wo 101 0 (ucd_Ligature_ok (Z1 0 r' v2) (Z1 0 r' v3) (if ((Z1 0 v1 (0+v2)) == 1)=true then true else ((Z1 0 v1 (0+v2)) == 3))) fun v4 h71=>?_
      obtain ⟨v4_0,v4_1⟩:=v4
      refine Wk [] 0 [] Wz
  · revert h
    refine Wyp 1 [] 0 [] (Wq ?_)
    intro h
    intros
    refine Tr.block ?_
    refine Wlp h (ctr+5) [(11,2),(19,33)] [(20,1)] (fun (v5,out3) u3=>⟨[(32,.v (.int .i64 v5))],[(20,.arr (ctr+1) 1 (nvS.len v) (u3.t 20) (fun ix jx=>(.v (.int .i64 (nvS.get 0 out3 ix)))))],fun _=>Z0 out3=(Z0 v)⟩) Yr (fun x u3c u3g u3t f ht hu hp h=>?_)
    obtain ⟨v5,out3⟩:=x
    try dsimp only at hp h
    revert h
    refine Wyp 2 [] 0 [] (Wq ?_)
    intro h
    intros
    refine Zy h (u3c+1) [(11,2),(21,30)] [(20,1)] (fun out4 u4=>⟨[],[(20,.arr (ctr+1) 1 (nvS.len v) (u4.t 20) (fun ix jx=>(.v (.int .i64 (nvS.get 0 out4 ix)))))],fun _=>Z0 out4=(Z0 v)⟩) (fun out4 u4c u4g u4t ht hu hp h=>?_) (fun f h=>?_)
    · try dsimp only at hp h
      refine Wx [] 0 [] Wz
    · refine Tr.block ?_
      refine Wo0 ?_
      refine Wo 45 0 (ucd_Shape_ok (Za.mk (Z2.mk d_Class_L) (Z2.mk d_Wide_L) (Z2.mk d_Join_L) d_Mirror d_Brackets d_Forms) (Z1 0 r' v5) (Z1 0 v1 (0+v5))) fun v7 h113=>?_
      refine Wkc 2 [] 0 [] h (u3c+1) [(11,2),(21,13)] [(20,1)] (fun out5 u5=>⟨[(11,.v (.int .i64 v5)),(12,.v (.int .i64 (nvS.get 0 r' v5)))],[(20,.arr (ctr+1) 1 (nvS.len v) (u5.t 20) (fun ix jx=>(.v (.int .i64 (nvS.get 0 out5 ix)))))],fun _=>Z0 out5=(Z0 v)⟩) (fun out5 u5c u5g u5t ht hu hp h=>?_) (fun f h=>Wz)
      try dsimp only at hp h
      refine Wo0 ?_
      refine Wo 62 0 (shape_Mirror_ok (Za.mk (Z2.mk d_Class_L) (Z2.mk d_Wide_L) (Z2.mk d_Join_L) d_Mirror d_Brackets d_Forms) (Z1 0 r' v5) (Z1 0 levels v5) boxes) fun v6 h109=>?_
      refine Wk [] 0 [] Wz

theorem view_read_ok (d':Za) (l':(List Z5)) (from':Int) (to:Int) (boxes:Bool) (r:Yj) (h:Z1i d' l' from' to boxes=some r):Ze Tryz.prog 24 [(.agg 6 (fun j=>(Yk nvS d' j))),(.sl 4 (nvS.len l') false (fun ix jx=>(Yq nvS (nvS.get Z3 l' ix) jx))),(.v (.int .i64 from')),(.v (.int .i64 to)),(.v (.bool boxes))] ((.agg 5 (fun j=>(Z1c nvS r j)))):=by
  obtain ⟨⟨d_Class_L⟩,⟨d_Wide_L⟩,⟨d_Join_L⟩,d_Mirror,d_Brackets,d_Forms⟩:=d'
  unfold Z1i at h
  try dsimp only at h
  refine Wfn Tryz.func24 (Zl Tryz.f24) fun ctr hc=>?_
  refine Wo0 ?_
  refine Wo 18 1 (Z7f (Xx l' from' to)) fun v h2=>?_
  refine Wo 27 0 (weak_Paragraph_ok (Za.mk (Z2.mk d_Class_L) (Z2.mk d_Wide_L) (Z2.mk d_Join_L) d_Mirror d_Brackets d_Forms) v (Z1 Z3 l' from').fDir) fun v1 h4=>?_
  obtain ⟨v1_0,v1_1⟩:=v1
  refine Wo 37 1 (shape_Glyphs_ok (Za.mk (Z2.mk d_Class_L) (Z2.mk d_Wide_L) (Z2.mk d_Join_L) d_Mirror d_Brackets d_Forms) v v1_0 boxes) fun v2 h5=>?_
  refine Wk [] 0 [(2,[.freeze (.slot 11)])] Wz

theorem order_passed_ok (c':Int) (r:Bool) (h:Z2m c'=some r):Ze Tryz.prog 75 [(.v (.int .i64 c'))] ((.v (.bool r))):=by
  unfold Z2m at h
  refine Wfn Tryz.func75 (Zl Tryz.f75) fun ctr hc=>?_
  revert h
  refine Wyp 1 [] 0 [] (Wq ?_)
  intro h
  intros
  refine Zy h (ctr+1) [(2,14)] [] (fun _ u=>Fa [] []) (fun x uc ug ut ht hu hp h=>?_) (fun f h=>?_)
  · refine Wx [] 0 [] Wz
  · revert h
    refine Wyp 1 [] 0 [] (Wq ?_)
    intro h
    intros
    refine Tr.block ?_
    refine Zy h (ctr+2) [(4,12)] [] (fun v u1=>Fa [(4,.v (.bool v))] []) (fun v u1c u1g u1t ht hu hp h=>?_) (fun f h=>?_)
    · refine Wx [] 0 [] Wz
    · revert h
      refine Wyp 1 [] 0 [] (Wq ?_)
      intro h
      intros
      refine Wcond h rfl (fun _ h=>?_) (fun _ h=>?_)
      · refine Wx [] 0 [] Wz
      · revert h
        refine Wyp 1 [] 0 [] (Wq ?_)
        intro h
        intros
        refine Wcond h rfl (fun _ h=>?_) (fun _ h=>?_)
        · refine Wx [] 0 [] Wz
        · refine Wx [] 0 [] Wz

theorem order_Reset_ok (d':Za) (r':(List Int)) (levels:(List Int)) (base:Int) (r:(List Int)) (h:Z3q d' r' levels base=some r):Ze Tryz.prog 50 [(.agg 6 (fun j=>(Yk nvS d' j))),(.sl 1 (nvS.len r') false (fun ix jx=>(.v (.int .i64 (nvS.get 0 r' ix))))),(.sl 1 (nvS.len levels) false (fun ix jx=>(.v (.int .i64 (nvS.get 0 levels ix))))),(.v (.int .i64 base))] (.own 1 (nvS.len r) false (fun ix jx=>(.v (.int .i64 (nvS.get 0 r ix))))):=by
  obtain ⟨⟨d_Class_L⟩,⟨d_Wide_L⟩,⟨d_Join_L⟩,d_Mirror,d_Brackets,d_Forms⟩:=d'
  unfold Z3q at h
  try dsimp only at h
  refine Wfn Tryz.func50 (Zl Tryz.f50) fun ctr hc=>?_
  refine Wo0 ?_
  refine Wo 14 1 (Xd levels) fun v h1=>?_
  revert h
  refine Wjp 4 [] 0 [] (Wq ?_)
  intro h
  intros
  refine Zy h (ctr+4) [(10,3),(8,34)] [(14,1)] (fun out u=>⟨[],[(14,.arr (ctr+1) 1 (nvS.len v) (u.t 14) (fun ix jx=>(.v (.int .i64 (nvS.get 0 out ix)))))],fun _=>Z0 out=(Z0 v)⟩) (fun out uc ug ut ht hu hp h=>?_) (fun f h=>?_)
  · try dsimp only at hp h
    refine Wx [] 0 [] Wz
  · revert h
    refine Wyp 1 [] 0 [] (Wq ?_)
    intro h
    intros
    refine Tr.block ?_
    refine Wlp h (ctr+5) [(10,3),(11,31)] [(14,1)] (fun (end',i1,Zb) u1=>⟨[(10,.v (.bool end')),(11,.v (.int .i64 i1))],[(14,.arr (ctr+1) 1 (nvS.len v) (u1.t 14) (fun ix jx=>(.v (.int .i64 (nvS.get 0 Zb ix)))))],fun _=>Z0 Zb=(Z0 v)⟩) Yr (fun x u1c u1g u1t f ht hu hp h=>?_)
    obtain ⟨end',i1,Zb⟩:=x
    try dsimp only at hp h
    refine Wo0 ?_
    refine Wo 33 0 (ucd_Class_ok (Za.mk (Z2.mk d_Class_L) (Z2.mk d_Wide_L) (Z2.mk d_Join_L) d_Mirror d_Brackets d_Forms) (Z1 0 r' i1)) fun v1 h39=>?_
    refine Wo 47 0 (order_passed_ok v1) fun v2 h42=>?_
    refine Wk [] 0 [] Wz

theorem view_see_ok (d':Za) (l':(List Z5)) (y':Int) (p':Yj) (r:Zj) (h:Z4u d' l' y' p'=some r):Ze Tryz.prog 25 [(.agg 6 (fun j=>(Yk nvS d' j))),(.sl 4 (nvS.len l') false (fun ix jx=>(Yq nvS (nvS.get Z3 l' ix) jx))),(.v (.int .i64 y')),(.agg 5 (fun j=>(Z1c nvS p' j)))] ((.agg 4 (fun j=>(Yy nvS r j)))):=by
  obtain ⟨⟨d_Class_L⟩,⟨d_Wide_L⟩,⟨d_Join_L⟩,d_Mirror,d_Brackets,d_Forms⟩:=d'
  obtain ⟨p_from,p_to,p_levels,p_glyphs,p_base⟩:=p'
  unfold Z4u at h
  try dsimp only at h
  refine Wfn Tryz.func25 (Zl Tryz.f25) fun ctr hc=>?_
  refine Wo0 ?_
  refine Wo 22 1 (Z7f (Xx l' p_from y')) fun v h2=>?_
  refine Wo 29 0 (Z3x (Z1 Z3 l' y')) fun v1 h4=>?_
  obtain ⟨v1_0,v1_1⟩:=v1
  refine Wo 44 1 (order_Reset_ok (Za.mk (Z2.mk d_Class_L) (Z2.mk d_Wide_L) (Z2.mk d_Join_L) d_Mirror d_Brackets d_Forms) v1_0 (Xx p_levels (Z0 v) ((Z0 v)+(Z0 v1_0))) p_base) fun v2 h7=>?_
  revert h
  refine Wjp 6 [] 0 [] (Wq ?_)
  intro h
  intros
  refine Zy h (ctr+6) [(14,3),(36,30)] [(51,1)] (fun cells u=>⟨[],[(51,.arr (ctr+4) 7 (nvS.len (nvS.get Z3 l' y').fCells) (u.t 51) (fun ix jx=>(Q7 nvS (nvS.get Z4 cells ix) jx)))],fun _=>Z0 cells=(Z0 (Z1 Z3 l' y').fCells)⟩) (fun cells uc ug ut ht hu hp h=>?_) (fun f h=>?_)
  · try dsimp only at hp h
    refine Wo0 ?_
    refine Wo 88 0 (Z7e cells v2 v1_1 p_base) fun v3 h31=>?_
    obtain ⟨v3_V2L,v3_L2V,v3_Cells,v3_Base⟩:=v3
    refine Wk [] 0 [(15,[.freeze (.slot 13),.freeze (.slot 12)])] Wz
  · revert h
    refine Wyp 1 [] 0 [] (Wq ?_)
    intro h
    intros
    refine Tr.block ?_
    refine Wlp h (ctr+7) [(14,3),(42,24)] [(16,1),(34,1)] (fun (n,v4,cells1) u1=>⟨[(14,.v (.int .i64 n)),(59,.v (.int .i64 v4))],[(51,.arr (ctr+4) 7 (nvS.len (nvS.get Z3 l' y').fCells) (u1.t 51) (fun ix jx=>(Q7 nvS (nvS.get Z4 cells1 ix) jx)))],fun _=>Z0 cells1=(Z0 (Z1 Z3 l' y').fCells)⟩) Yr (fun x u1c u1g u1t f ht hu hp h=>?_)
    obtain ⟨n,v4,cells1⟩:=x
    try dsimp only at hp h
    refine Wx [] 0 [] Wz

theorem view_All_ok (d':Za) (l':(List Z5)) (boxes:Bool) (r:(List Zj)) (h:Z2n d' l' boxes=some r):Ze Tryz.prog 9 [(.agg 6 (fun j=>(Yk nvS d' j))),(.sl 4 (nvS.len l') false (fun ix jx=>(Yq nvS (nvS.get Z3 l' ix) jx))),(.v (.bool boxes))] (.own 4 (nvS.len r) false (fun ix jx=>(Yy nvS (nvS.get Ya r ix) jx))):=by
  obtain ⟨⟨d_Class_L⟩,⟨d_Wide_L⟩,⟨d_Join_L⟩,d_Mirror,d_Brackets,d_Forms⟩:=d'
  unfold Z2n at h
  try dsimp only at h
  refine Wfn Tryz.func9 (Zl Tryz.f9) fun ctr hc=>?_
  refine Wo0 ?_
  refine Wo 14 0 (view_sane_ok l') fun v h1=>?_
  revert h
  refine Wjp 4 [] 0 [] (Wq ?_)
  intro h
  intros
  refine Zy h (ctr+4) [(9,4),(6,45)] [(8,1),(9,1)] (fun out u=>⟨[],[(18,.arr (ctr+2) 4 (nvS.len l') (u.t 18) (fun ix jx=>(Yy nvS (nvS.get Ya out ix) jx)))],fun _=>Z0 out=(Z0 l')⟩) (fun out uc ug ut ht hu hp h=>?_) (fun f h=>?_)
  · try dsimp only at hp h
    refine Wx [] 0 [] Wz
  · revert h
    refine Wyp 1 [] 0 [] (Wq ?_)
    intro h
    intros
    refine Tr.block ?_
    refine Wlp h (ctr+5) [(9,4),(8,43)] [(8,1),(9,1)] (fun (v1,Zb,b8_0,b8_1,b8_2,b8_3,b8_4) u1=>⟨[(21,.v (.int .i64 v1))],[(8,.box (ctr+3) [.v (.int .i64 b8_0),.v (.int .i64 b8_1),.sl 1 (nvS.len b8_2) false (fun ix jx=>(.v (.int .i64 (nvS.get 0 b8_2 ix)))),.sl 1 (nvS.len b8_3) false (fun ix jx=>(.v (.int .i64 (nvS.get 0 b8_3 ix)))),.v (.int .i64 b8_4)]),(18,.arr (ctr+2) 4 (nvS.len l') (u1.t 18) (fun ix jx=>(Yy nvS (nvS.get Ya Zb ix) jx)))],fun _=>Z0 Zb=(Z0 l')⟩) Yr (fun x u1c u1g u1t f ht hu hp h=>?_)
    obtain ⟨v1,Zb,b8_0,b8_1,b8_2,b8_3,b8_4⟩:=x
    try dsimp only at hp h
    revert h
    refine Wyp 2 [] 0 [] (Wq ?_)
    intro h
    intros
    refine Zy h (u1c+1) [(9,4),(10,40)] [(8,1),(1,1),(7,1)] (fun (out2,b8_01,b8_11,b8_21,b8_31,b8_41) u2=>⟨[],[(8,.box (ctr+3) [.v (.int .i64 b8_01),.v (.int .i64 b8_11),.sl 1 (nvS.len b8_21) false (fun ix jx=>(.v (.int .i64 (nvS.get 0 b8_21 ix)))),.sl 1 (nvS.len b8_31) false (fun ix jx=>(.v (.int .i64 (nvS.get 0 b8_31 ix)))),.v (.int .i64 b8_41)]),(18,.arr (ctr+2) 4 (nvS.len l') (u2.t 18) (fun ix jx=>(Yy nvS (nvS.get Ya out2 ix) jx)))],fun _=>Z0 out2=(Z0 l')⟩) (fun x u2c u2g u2t ht hu hp h=>?_) (fun f h=>?_)
    · obtain ⟨out2,b8_01,b8_11,b8_21,b8_31,b8_41⟩:=x
      try dsimp only at hp h
      refine Wx [] 0 [] Wz
    · refine Tr.block ?_
      refine Wo0 ?_
      refine Wo 31 0 (view_fixed_ok (Z1 Z3 l' v1)) fun v2 h44=>?_
      obtain ⟨v2_V2L,v2_L2V,v2_Cells,v2_Base⟩:=v2
      revert h
      refine Wjp 2 [] 0 [] (Wq ?_)
      intro h
      intros
      refine Zy h (u1c+3) [(11,2),(20,22)] [(8,1)] (fun (b8_02,b8_12,b8_22,b8_32,b8_42) u3=>Fa [] [(8,.box (ctr+3) [.v (.int .i64 b8_02),.v (.int .i64 b8_12),.sl 1 (nvS.len b8_22) false (fun ix jx=>(.v (.int .i64 (nvS.get 0 b8_22 ix)))),.sl 1 (nvS.len b8_32) false (fun ix jx=>(.v (.int .i64 (nvS.get 0 b8_32 ix)))),.v (.int .i64 b8_42)])]) (fun x u3c u3g u3t ht hu hp h=>?_) (fun f h=>?_)
      · obtain ⟨b8_02,b8_12,b8_22,b8_32,b8_42⟩:=x
        try dsimp only at hp h
        refine Wo0 ?_
        refine Wo 61 0 (view_see_ok (Za.mk (Z2.mk d_Class_L) (Z2.mk d_Wide_L) (Z2.mk d_Join_L) d_Mirror d_Brackets d_Forms) l' v1 (Yj.mk b8_02 b8_12 b8_22 b8_32 b8_42)) fun v3 h48=>?_
        obtain ⟨v3_V2L,v3_L2V,v3_Cells,v3_Base⟩:=v3
        refine Wk [] 0 [] Wz
      · refine Wo0 ?_
        refine Wo 36 0 (view_chain_ok l' v1) fun v4 h50=>?_
        obtain ⟨v4_0,v4_1⟩:=v4
        refine Wo 54 0 (view_read_ok (Za.mk (Z2.mk d_Class_L) (Z2.mk d_Wide_L) (Z2.mk d_Join_L) d_Mirror d_Brackets d_Forms) l' v4_0 v4_1 boxes) fun v5 h51=>?_
        obtain ⟨v5_from,v5_to,v5_levels,v5_glyphs,v5_base⟩:=v5
        refine Wk [] 0 [] Wz

theorem Z86 (l':(List Z5)) (r:Bool) (h:Z0a l'=some r):Ze Tryz.prog 8 [(.sl 4 (nvS.len l') false (fun ix jx=>(Yq nvS (nvS.get Z3 l' ix) jx)))] ((.v (.bool r))):=by
  unfold Z0a at h
  refine Wfn Tryz.func8 (Zl Tryz.f8) fun ctr hc=>?_
  revert h
  refine Wyp 2 [] 0 [] (Wq ?_)
  intro h
  intros
  refine Zy h (ctr+2) [(2,2),(3,13)] [] (fun _ u=>Fa [] []) (fun x uc ug ut ht hu hp h=>?_) (fun f h=>?_)
  · refine Wx [] 0 [] Wz
  · revert h
    refine Wyp 1 [] 0 [] (Wq ?_)
    intro h
    intros
    refine Tr.block ?_
    refine Wlp h (ctr+3) [(2,2),(3,13)] [] (fun i u1=>Fa [(3,.v (.int .i64 i))] []) Yr (fun i u1c u1g u1t f ht hu hp h=>?_)
    refine Wx [] 0 [] Wz

end Go.Vx
