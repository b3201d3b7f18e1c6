/- Walks, by program (lift.py). -/
import Derived.Test.YtmbgnnedjgmhmaaGreatDoorKWalk
import Derived.Test.YtmbgnnedjgmhmaaGreatDoorKWalkS
set_option linter.all false
namespace Go.Vx
open Go.Proofs
set_option maxRecDepth 100000
set_option maxHeartbeats 1000000
set_option linter.unusedVariables false
set_option linter.unusedSimpArgs false
attribute [local irreducible] chk Z7 Z8 Zu nilO

theorem Z7b (x':Int) (r:Int) (h:Z0h x'=some r):Ze Tryz.prog 34 [(.v (.int .i64 x'))] ((.v (.int .i64 r))):=by
  unfold Z0h at h
  refine Wfn Tryz.func34 (Zl Tryz.f34) fun ctr hc=>?_
  refine Wx [] 0 [] Wz

theorem copy_fit_ok (x':Zj) (r':Z5) (r:((List Int) × Bool)) (h:Z75 x' r'=some r):Ze Tryz.prog 41 [(.agg 4 (fun j=>(Yy nvS x' j))),(.agg 4 (fun j=>(Yq nvS r' j)))] (.tup 2 (fun j=>match j with | 0=>(.sl 1 (nvS.len r.1) false (fun ix jx=>(.v (.int .i64 (nvS.get 0 r.1 ix))))) | 1=>(.v (.bool r.2)) | _=>.junk)):=by
  obtain ⟨x_V2L,x_L2V,x_Cells,x_Base⟩:=x'
  obtain ⟨r_Cells,r_Wrap,r_Dir,r_Explicit⟩:=r'
  unfold Z75 at h
  try dsimp only at h
  refine Wfn Tryz.func41 (Zl Tryz.f41) fun ctr hc=>?_
  refine Wo0 ?_
  refine Wog 15 0 (!(!((Z0 x_V2L) == (Z0 r_Cells)))) (Z7d (Z5.mk r_Cells r_Wrap r_Dir r_Explicit)) false fun v h1=>?_
  refine Wo 20 0 (Z6n x_V2L) fun v1 h2=>?_
  obtain ⟨v1_0,v1_1⟩:=v1
  refine Wk [] 0 [] Wz

theorem Z8f (x':Zj) (r':Z5) (from':Int) (to:Int) (r:(List Int)) (h:Z3c x' r' from' to=some r):Ze Tryz.prog 19 [(.agg 4 (fun j=>(Yy nvS x' j))),(.agg 4 (fun j=>(Yq nvS r' j))),(.v (.int .i64 from')),(.v (.int .i64 to))] (.own 1 (nvS.len r) false (fun ix jx=>(.v (.int .i64 (nvS.get 0 r ix))))):=by
  obtain ⟨x_V2L,x_L2V,x_Cells,x_Base⟩:=x'
  obtain ⟨r_Cells,r_Wrap,r_Dir,r_Explicit⟩:=r'
  unfold Z3c at h
  try dsimp only at h
  refine Wfn Tryz.func19 (Zl Tryz.f19) fun ctr hc=>?_
  refine Wo0 ?_
  refine Wo 18 0 (copy_fit_ok (Zj.mk x_V2L x_L2V x_Cells x_Base) (Z5.mk r_Cells r_Wrap r_Dir r_Explicit)) fun v h1=>?_
  obtain ⟨v_0,v_1⟩:=v
  revert h
  refine Wjp 4 [] 0 [] (Wq ?_)
  intro h
  intros
  refine Zy h (ctr+4) [(11,4),(8,36)] [(57,1)] (fun out u=>Fa [(11,.vec 57 (u.g 57) 1 0 (nvS.len out))] [(57,.arr (u.g 57) 1 (nvS.len out) (u.t 57) (fun ix jx=>(.v (.int .i64 (nvS.get 0 out ix)))))]) (fun out uc ug ut ht hu hp h=>?_) (fun f h=>?_)
  · refine Wx [] 0 [] Wz
  · revert h
    refine Wyp 1 [] 0 [] (Wq ?_)
    intro h
    intros
    refine Tr.block ?_
    refine Wlp h (ctr+5) [(11,4),(11,33)] [(57,1)] (fun (v1,Zb) u1=>Fa [(11,.vec 57 (u1.g 57) 1 0 (nvS.len Zb)),(26,.v (.int .i64 v1))] [(57,.arr (u1.g 57) 1 (nvS.len Zb) (u1.t 57) (fun ix jx=>(.v (.int .i64 (nvS.get 0 Zb ix)))))]) Yr (fun x u1c u1g u1t f ht hu hp h=>?_)
    obtain ⟨v1,Zb⟩:=x
    try dsimp only at hp h
    revert h
    refine Wyp 2 [] 0 [] (Wq ?_)
    intro h
    intros
    refine Zy h (u1c+1) [(11,4),(13,30)] [(13,1),(43,1)] (fun out2 u2=>Fa [(11,.vec 57 (u2.g 57) 1 0 (nvS.len out2))] [(57,.arr (u2.g 57) 1 (nvS.len out2) (u2.t 57) (fun ix jx=>(.v (.int .i64 (nvS.get 0 out2 ix)))))]) (fun out2 u2c u2g u2t ht hu hp h=>?_) (fun f h=>?_)
    · refine Wx [] 0 [] Wz
    · refine Tr.block ?_
      revert h
      refine Wyp 2 [] 0 [] (Wq ?_)
      intro h
      intros
      refine Tr.block ?_
      refine Wlp h (u1c+3) [(11,1),(2,1),(17,26)] [(57,1)] (fun j u3=>Fa [(11,.vec 57 (u1g 57) 1 0 (nvS.len Zb)),(14,.v (.int .i64 j))] [(57,.arr (u1g 57) 1 (nvS.len Zb) (u3.t 57) (fun ix jx=>(.v (.int .i64 (nvS.get 0 Zb ix)))))]) Yr (fun j u3c u3g u3t f ht hu hp h=>?_)
      refine Wx [56] 0 [] Wz

theorem copy_Text_ok (r':Z5) (l':(List Int)) (r:(List Int)) (h:Z3d r' l'=some r):Ze Tryz.prog 20 [(.agg 4 (fun j=>(Yq nvS r' j))),(.sl 1 (nvS.len l') false (fun ix jx=>(.v (.int .i64 (nvS.get 0 l' ix)))))] (.own 1 (nvS.len r) false (fun ix jx=>(.v (.int .i64 (nvS.get 0 r ix))))):=by
  obtain ⟨r_Cells,r_Wrap,r_Dir,r_Explicit⟩:=r'
  unfold Z3d at h
  try dsimp only at h
  refine Wfn Tryz.func20 (Zl Tryz.f20) fun ctr hc=>?_
  refine Wo0 ?_
  refine Wo 12 0 (Z7d (Z5.mk r_Cells r_Wrap r_Dir r_Explicit)) fun v h1=>?_
  revert h
  refine Wjp 3 [] 0 [] (Wq ?_)
  intro h
  intros
  refine Zy h (ctr+3) [(5,1),(1,2),(1,1),(3,51)] [(51,1)] (fun out u=>Fa [(5,.vec 51 (u.g 51) 1 0 (nvS.len out))] [(51,.arr (u.g 51) 1 (nvS.len out) (u.t 51) (fun ix jx=>(.v (.int .i64 (nvS.get 0 out ix)))))]) (fun out uc ug ut ht hu hp h=>?_) (fun f h=>?_)
  · refine Wx [] 0 [] Wz
  · revert h
    refine Wyp 1 [] 0 [] (Wq ?_)
    intro h
    intros
    refine Tr.block ?_
    refine Wlp h (ctr+4) [(5,1),(1,2),(1,1),(5,49)] [(51,1)] (fun (v1,Zb) u1=>Fa [(5,.vec 51 (u1.g 51) 1 0 (nvS.len Zb)),(16,.v (.int .i64 v1))] [(51,.arr (u1.g 51) 1 (nvS.len Zb) (u1.t 51) (fun ix jx=>(.v (.int .i64 (nvS.get 0 Zb ix)))))]) Yr (fun x u1c u1g u1t f ht hu hp h=>?_)
    obtain ⟨v1,Zb⟩:=x
    try dsimp only at hp h
    revert h
    refine Wyp 2 [] 0 [] (Wq ?_)
    intro h
    intros
    refine Zy h (u1c+1) [(5,1),(1,2),(1,1),(7,46)] [(8,1),(42,1)] (fun out2 u2=>Fa [(5,.vec 51 (u2.g 51) 1 0 (nvS.len out2))] [(51,.arr (u2.g 51) 1 (nvS.len out2) (u2.t 51) (fun ix jx=>(.v (.int .i64 (nvS.get 0 out2 ix)))))]) (fun out2 u2c u2g u2t ht hu hp h=>?_) (fun f h=>?_)
    · refine Wx [] 0 [] Wz
    · refine Tr.block ?_
      revert h
      refine Wyp 3 [] 0 [] (Wq ?_)
      intro h
      intros
      refine Zy h (u1c+4) [(43,4)] [(8,1)] (fun b8_0 u3=>Fa [] [(8,.box (u1c+3) [.v (.int .i64 b8_0),.v (.int .i64 (nvS.get Z4 r_Cells (nvS.get 0 l' v1)).fM.x0),.v (.int .i64 (nvS.get Z4 r_Cells (nvS.get 0 l' v1)).fM.x1),.v (.int .i64 (nvS.get Z4 r_Cells (nvS.get 0 l' v1)).fW),.v (.int .i64 (nvS.get Z4 r_Cells (nvS.get 0 l' v1)).fPen.fFg),.v (.int .i64 (nvS.get Z4 r_Cells (nvS.get 0 l' v1)).fPen.fBg),.v (.int .i64 (nvS.get Z4 r_Cells (nvS.get 0 l' v1)).fPen.fFlags)])]) (fun b8_0 u3c u3g u3t ht hu hp h=>?_) (fun f h=>?_)
      · revert h
        refine Wyp 2 [50] 0 [] (Wq ?_)
        intro h
        intros
        refine Tr.block ?_
        refine Tr.rounds 3 ?_
        refine Wrnd h (u3c+2) [(5,1),(4,1),(43,10)] [(51,1),(10,1)] (fun out3 u4=>Fa [(5,.vec 51 (u4.g 51) 1 0 (nvS.len out3)),(54,.v (.int .i64 1))] [(51,.arr (u4.g 51) 1 (nvS.len out3) (u4.t 51) (fun ix jx=>(.v (.int .i64 (nvS.get 0 out3 ix)))))]) (fun out3 u4c u4g u4t ht hu hp h=>?_) (fun f h=>?_)
        · refine Wrnd h u4c [(5,1),(4,1),(43,10)] [(51,1),(10,1)] (fun out4 u5=>Fa [(5,.vec 51 (u5.g 51) 1 0 (nvS.len out4)),(54,.v (.int .i64 2))] [(51,.arr (u5.g 51) 1 (nvS.len out4) (u5.t 51) (fun ix jx=>(.v (.int .i64 (nvS.get 0 out4 ix)))))]) (fun out4 u5c u5g u5t ht hu hp h=>?_) (fun f h=>?_)
          · refine Wx [] 0 [] Wz
          · refine Wx [61] 0 [] Wz
        · refine Wx [61] 0 [] Wz
      · refine Wx [] 0 [] Wz

theorem copy_trim_ok (l':(List Int)) (r:(List Int)) (h:Z4g l'=some r):Ze Tryz.prog 35 [(.sl 1 (nvS.len l') false (fun ix jx=>(.v (.int .i64 (nvS.get 0 l' ix)))))] ((.sl 1 (nvS.len r) false (fun ix jx=>(.v (.int .i64 (nvS.get 0 r ix)))))):=by
  unfold Z4g at h
  refine Wfn Tryz.func35 (Zl Tryz.f35) fun ctr hc=>?_
  revert h
  refine Wyp 1 [] 0 [] (Wq ?_)
  intro h
  intros
  refine Zy h (ctr+1) [(0,1),(2,17)] [] (fun l'1 u=>Fa [(0,.sl 1 (nvS.len l'1) false (fun ix jx=>(.v (.int .i64 (nvS.get 0 l'1 ix)))))] []) (fun l'1 uc ug ut ht hu hp h=>?_) (fun f h=>?_)
  · refine Wx [] 0 [] Wz
  · refine Tr.block ?_
    refine Wlp h (ctr+1) [(0,1),(2,17)] [] (fun l'2 u1=>Fa [(0,.sl 1 (nvS.len l'2) false (fun ix jx=>(.v (.int .i64 (nvS.get 0 l'2 ix)))))] []) Yr (fun l'2 u1c u1g u1t f ht hu hp h=>?_)
    refine Wx [] 0 [] Wz

theorem Z4c (s:Y4) (l':(List Int)) (r:(Y4)) (h:Z25 s l'=some r)   : X3 Tryz.prog 36 [.bref 0 0 0,(.sl 1 (nvS.len l') false (fun ix jx=>(.v (.int .i64 (nvS.get 0 l' ix)))))] [.box 0 [.vec 1 0 1 0 (nvS.len s.fl),.v (.int .i64 s.fmost)],.arr 0 1 (nvS.len s.fl) false (fun ix jx=>(.v (.int .i64 (nvS.get 0 s.fl ix))))] [.box 0 [.vec 1 1 1 0 (nvS.len r.fl),.v (.int .i64 r.fmost)],.arr 1 1 (nvS.len r.fl) false (fun ix jx=>(.v (.int .i64 (nvS.get 0 r.fl ix))))] (.tup 0 (fun _=>.junk)):=by
  obtain ⟨s_l,s_most⟩:=s
  unfold Z25 at h
  try dsimp only at h
  refine Wfl Tryz.func36 (Zl Tryz.f36) fun ctr hc=>?_
  revert h
  refine Wyp 1 [] 2 [] (Wq ?_)
  intro h
  intros
  refine Tr.block ?_
  refine Wlp h (ctr+1) [(5,1),(2,27)] [(0,2),(31,1)] (fun (v,o) u=>Fa [(8,.v (.int .i64 v))] [(0,.box (0) [.vec 1 (u.g 1) 1 0 (nvS.len o),.v (.int .i64 s_most)]),(1,.arr (u.g 1) 1 (nvS.len o) (u.t 1) (fun ix jx=>(.v (.int .i64 (nvS.get 0 o ix)))))]) Yr (fun x uc ug ut f ht hu hp h=>?_)
  obtain ⟨v,o⟩:=x
  try dsimp only at hp h
  refine Wx [30] 2 [] Wz

theorem copy_Span_1_ok (s:Y4) (cap0:Zg) (cap1:Zg) (cap2:(List Z5)) (cap3:(List Zj)) (r:(Y4)) (h:Z3r s cap0 cap1 cap2 cap3=some r)   : X3 Tryz.prog 33 [.bref 0 0 0,.imm 2 1 (fun _ j=>(Xf nvS cap0 j)) 0 0,.imm 2 1 (fun _ j=>(Xf nvS cap1 j)) 0 0,.imm 1 1 (fun _ j=>(.sl 4 (nvS.len cap2) false (fun ix jx=>(Yq nvS (nvS.get Z3 cap2 ix) jx)))) 0 0,.imm 1 1 (fun _ j=>(.sl 4 (nvS.len cap3) false (fun ix jx=>(Yy nvS (nvS.get Ya cap3 ix) jx)))) 0 0] [.box 0 [.vec 1 0 1 0 (nvS.len s.fl),.v (.int .i64 s.fmost)],.arr 0 1 (nvS.len s.fl) false (fun ix jx=>(.v (.int .i64 (nvS.get 0 s.fl ix))))] [.box 0 [.vec 1 1 1 0 (nvS.len r.fl),.v (.int .i64 r.fmost)],.arr 1 1 (nvS.len r.fl) false (fun ix jx=>(.v (.int .i64 (nvS.get 0 r.fl ix))))] (.tup 0 (fun _=>.junk)):=by
  obtain ⟨s_l,s_most⟩:=s
  obtain ⟨cap0_Y,cap0_X⟩:=cap0
  obtain ⟨cap1_Y,cap1_X⟩:=cap1
  unfold Z3r at h
  try dsimp only at h
  refine Wfl Tryz.func33 (Zl Tryz.f33) fun ctr hc=>?_
  revert h
  refine Wyp 1 [] 2 [] (Wq ?_)
  intro h
  intros
  refine Tr.block ?_
  refine Wlp h (ctr+1) [(6,4),(2,67)] [(0,2)] (fun (y'1,b0_1,o) u=>Fa [(6,.v (.int .i64 y'1))] [(0,.box (0) [.vec 1 (u.g 1) 1 0 (nvS.len o),.v (.int .i64 b0_1)]),(1,.arr (u.g 1) 1 (nvS.len o) (u.t 1) (fun ix jx=>(.v (.int .i64 (nvS.get 0 o ix)))))]) Yr (fun x uc ug ut f ht hu hp h=>?_)
  obtain ⟨y'1,b0_1,o⟩:=x
  try dsimp only at hp h
  revert h
  refine Wyp 1 [] 2 [] (Wq ?_)
  intro h
  intros
  refine Zy h (uc+1) [(7,3),(8,61)] [(0,2)] (fun (b0_11,o1) u1=>Fa [] [(0,.box (0) [.vec 1 (u1.g 1) 1 0 (nvS.len o1),.v (.int .i64 b0_11)]),(1,.arr (u1.g 1) 1 (nvS.len o1) (u1.t 1) (fun ix jx=>(.v (.int .i64 (nvS.get 0 o1 ix)))))]) (fun x u1c u1g u1t ht hu hp h=>?_) (fun f h=>?_)
  · obtain ⟨b0_11,o1⟩:=x
    try dsimp only at hp h
    refine Wx [] 2 [] Wz
  · refine Tr.block ?_
    revert h
    refine Wyp 1 [] 2 [] (Wq ?_)
    intro h
    intros
    refine Zy h (uc+2) [(7,1),(16,6)] [] (fun from' u2=>Fa [(7,.v (.int .i64 from'))] []) (fun from' u2c u2g u2t ht hu hp h=>?_) (fun f h=>?_)
    · refine Zy h u2c [(8,1),(21,7)] [] (fun to1 u3=>Fa [(8,.v (.int .i64 to1))] []) (fun to1 u3c u3g u3t ht hu hp h=>?_) (fun f h=>?_)
      · refine Wo0 ?_
        refine Wo 53 0 (Z8f (Z1 Ya cap3 y'1) (Z1 Z3 cap2 y'1) from' to1) fun v h45=>?_
        refine Wo 54 0 (copy_Text_ok (Z1 Z3 cap2 y'1) v) fun v1 h46=>?_
        revert h
        refine Wjp 1 [] 2 [] (Wq ?_)
        intro h
        intros
        refine Zy h (u3c+1) [(9,1),(43,8)] [] (fun text u4=>Fa [(9,.sl 1 (nvS.len text) false (fun ix jx=>(.v (.int .i64 (nvS.get 0 text ix)))))] []) (fun text u4c u4g u4t ht hu hp h=>?_) (fun f h=>?_)
        · refine Wo0 ?_
          refine Wol 65 (fun r h=>Z4c (Y4.mk o b0_1) text r h) fun v2 h49=>?_
          obtain ⟨v2_l,v2_most⟩:=v2
          refine Wol 80 (fun r h=>Z4c (Y4.mk v2_l v2_most) ([10]:List Int) r h) fun v3 h51=>?_
          obtain ⟨v3_l,v3_most⟩:=v3
          refine Wk [77] 2 [] Wz
        · refine Wo0 ?_
          refine Wo 62 0 (copy_trim_ok v1) fun v4 h53=>?_
          refine Wk [] 2 [] Wz
      · refine Wo0 ?_
        refine Wo 38 0 (Z7b cap1_X) fun v5 h54=>?_
        refine Wk [] 2 [] Wz
    · refine Wx [] 2 [] Wz

theorem copy_Rect_1_ok (s:Y4) (cap0:Int) (cap1:Int) (cap2:(List Z5)) (cap3:(List Zj)) (cap4:Int) (cap5:Int) (r:(Y4)) (h:Z3s s cap0 cap1 cap2 cap3 cap4 cap5=some r)   : X3 Tryz.prog 37 [.bref 0 0 0,.imm 1 1 (fun _ j=>(.v (.int .i64 cap0))) 0 0,.imm 1 1 (fun _ j=>(.v (.int .i64 cap1))) 0 0,.imm 1 1 (fun _ j=>(.sl 4 (nvS.len cap2) false (fun ix jx=>(Yq nvS (nvS.get Z3 cap2 ix) jx)))) 0 0,.imm 1 1 (fun _ j=>(.sl 4 (nvS.len cap3) false (fun ix jx=>(Yy nvS (nvS.get Ya cap3 ix) jx)))) 0 0,.imm 1 1 (fun _ j=>(.v (.int .i64 cap4))) 0 0,.imm 1 1 (fun _ j=>(.v (.int .i64 cap5))) 0 0] [.box 0 [.vec 1 0 1 0 (nvS.len s.fl),.v (.int .i64 s.fmost)],.arr 0 1 (nvS.len s.fl) false (fun ix jx=>(.v (.int .i64 (nvS.get 0 s.fl ix))))] [.box 0 [.vec 1 1 1 0 (nvS.len r.fl),.v (.int .i64 r.fmost)],.arr 1 1 (nvS.len r.fl) false (fun ix jx=>(.v (.int .i64 (nvS.get 0 r.fl ix))))] (.tup 0 (fun _=>.junk)):=by
  obtain ⟨s_l,s_most⟩:=s
  unfold Z3s at h
  try dsimp only at h
  refine Wfl Tryz.func37 (Zl Tryz.f37) fun ctr hc=>?_
  revert h
  refine Wyp 1 [] 2 [] (Wq ?_)
  intro h
  intros
  refine Tr.block ?_
  refine Wlp h (ctr+1) [(8,1),(1,30)] [(0,2)] (fun (y',b0_1,o) u=>Fa [(8,.v (.int .i64 y'))] [(0,.box (0) [.vec 1 (u.g 1) 1 0 (nvS.len o),.v (.int .i64 b0_1)]),(1,.arr (u.g 1) 1 (nvS.len o) (u.t 1) (fun ix jx=>(.v (.int .i64 (nvS.get 0 o ix)))))]) Yr (fun x uc ug ut f ht hu hp h=>?_)
  obtain ⟨y',b0_1,o⟩:=x
  try dsimp only at hp h
  refine Wo0 ?_
  refine Wo 32 0 (Z8f (Z1 Ya cap3 y') (Z1 Z3 cap2 y') cap4 cap5) fun v h24=>?_
  refine Wo 33 0 (copy_Text_ok (Z1 Z3 cap2 y') v) fun v1 h25=>?_
  refine Wo 34 0 (copy_trim_ok v1) fun v2 h26=>?_
  refine Wol 35 (fun r h=>Z4c (Y4.mk o b0_1) v2 r h) fun v3 h27=>?_
  obtain ⟨v3_l,v3_most⟩:=v3
  refine Wol 41 (fun r h=>Z4c (Y4.mk v3_l v3_most) ([10]:List Int) r h) fun v4 h28=>?_
  obtain ⟨v4_l,v4_most⟩:=v4
  refine Wk [38] 2 [] Wz
end Go.Vx
