/- Walks, by program (lift.py). -/
import Derived.Test.YtkaphbmifenkbaaGreatDoorVWalk
import Derived.Test.YtkaphbmifenkbaaGreatDoorVWalkE
import Derived.Test.YtkaphbmifenkbaaGreatDoorVWalkW
import Derived.Test.YtkaphbmifenkbaaGreatDoorVWalkSd
import Derived.Test.YtkaphbmifenkbaaGreatDoorVWalkCh
set_option linter.all false
namespace Go.Vx
open Go.Proofs
set_option maxRecDepth 100000
set_option maxHeartbeats 1000000
set_option linter.unusedVariables false
set_option linter.unusedSimpArgs false
attribute [local irreducible] chk iteO bindO cutO nilO

theorem pen_isColour_ok (c':Int) (r:Bool) (h:pen_isColour c'=some r):PureFn Tryz.prog 113 [(.v (.int .i64 c'))] ((.v (.bool r))):=by
  unfold pen_isColour at h
  refine Wfn Tryz.func113 (bodyOf Tryz.f113) fun ctr hc=>?_
  refine Wx [] 0 [] Wz

theorem pen_Sane_ok (p':T_api_Pen) (r:Bool) (h:pen_Sane p'=some r):PureFn Tryz.prog 65 [(.agg 3 (fun j=>(D_api_Pen nvS p' j)))] ((.v (.bool r))):=by
  obtain ⟨p_Fg,p_Bg,p_Flags⟩:=p'
  unfold pen_Sane at h
  try dsimp only at h
  refine Wfn Tryz.func65 (bodyOf Tryz.f65) fun ctr hc=>?_
  refine Wo0 ?_
  refine Wo 5 0 (pen_isColour_ok p_Fg) fun v h1=>?_
  refine Wog 9 0 v (pen_isColour_ok p_Bg) false fun v1 h2=>?_
  refine Wk [] 0 [] Wz

theorem row_fits_ok (c':T_api_Cell) (r:Bool) (h:row_fits c'=some r):PureFn Tryz.prog 39 [(.agg 7 (fun j=>(D_api_Cell nvS c' j)))] ((.v (.bool r))):=by
  obtain ⟨c_R,⟨c_M_x0,c_M_x1⟩,c_W,⟨c_Pen_Fg,c_Pen_Bg,c_Pen_Flags⟩⟩:=c'
  unfold row_fits at h
  try dsimp only at h
  refine Wfn Tryz.func39 (bodyOf Tryz.f39) fun ctr hc=>?_
  revert h
  refine Wyp 1 [] 0 [] (Wq ?_)
  intro h
  intros
  refine Wcut h (ctr+1) [(2,1),(1,22)] [] (fun _ u=>Fa [] []) (fun x uc ug ut ht hu hp h=>?_) (fun f h=>?_)
  · refine Wo0 ?_
    refine Wog 49 0 (!(if (if (decide (c_R < 0))=true then true else (decide (1114111 < c_R)))=true then true else (if (c_M_x0 == 0)=true then (!(c_M_x1 == 0)) else false))) (pen_Sane_ok (T_api_Pen.mk c_Pen_Fg c_Pen_Bg c_Pen_Flags)) false fun v h3=>?_
    refine Wk [] 0 [] Wz
  · revert h
    refine Wyp 1 [] 0 [] (Wq ?_)
    intro h
    intros
    refine Tr.block ?_
    refine Tr.rounds 3 ?_
    refine Wrnd h (ctr+2) [(2,1),(1,1),(2,19)] [] (fun _ u1=>Fa [(7,.v (.int .i64 1))] []) (fun x u1c u1g u1t ht hu hp h=>?_) (fun f h=>?_)
    · refine Wrnd h u1c [(2,1),(1,1),(2,19)] [] (fun _ u2=>Fa [(7,.v (.int .i64 2))] []) (fun x u2c u2g u2t ht hu hp h=>?_) (fun f h=>?_)
      · refine Wx [] 0 [] Wz
      · refine Wx [] 0 [] Wz
    · refine Wx [] 0 [] Wz

theorem row_lost_ok (l':(List T_api_Cell)) (i:Int) (r:Bool) (h:row_lost l' i=some r):PureFn Tryz.prog 40 [(.sl 7 (nvS.len l') false (fun ix jx=>(D_api_Cell nvS (nvS.get d_api_Cell l' ix) jx))),(.v (.int .i64 i))] ((.v (.bool r))):=by
  unfold row_lost at h
  refine Wfn Tryz.func40 (bodyOf Tryz.f40) fun ctr hc=>?_
  refine Wx [] 0 [] Wz

theorem row_Sane_ok (r':T_api_Row) (r:Bool) (h:row_Sane r'=some r):PureFn Tryz.prog 21 [(.agg 4 (fun j=>(D_api_Row nvS r' j)))] ((.v (.bool r))):=by
  obtain ⟨r_Cells,r_Wrap,r_Dir,r_Explicit⟩:=r'
  unfold row_Sane at h
  try dsimp only at h
  refine Wfn Tryz.func21 (bodyOf Tryz.f21) fun ctr hc=>?_
  revert h
  refine Wyp 2 [] 0 [] (Wq ?_)
  intro h
  intros
  refine Wcut h (ctr+2) [(2,3),(20,18)] [] (fun _ u=>Fa [] []) (fun x uc ug ut ht hu hp h=>?_) (fun f h=>?_)
  · refine Wx [] 0 [] Wz
  · revert h
    refine Wyp 1 [] 0 [] (Wq ?_)
    intro h
    intros
    refine Tr.block ?_
    refine Wlp h (ctr+3) [(2,3),(23,15)] [(4,1)] (fun v u1=>Fa [(28,.v (.int .i64 v))] []) Wlay (fun v u1c u1g u1t f ht hu hp h=>?_)
    refine Wo0 ?_
    refine Wo 34 0 (row_fits_ok (getL d_api_Cell r_Cells v)) fun v1 h18=>?_
    refine Wog 40 0 (!(!v1)) (row_lost_ok r_Cells v) false fun v2 h19=>?_
    refine Wk [] 0 [] Wz

theorem view_sane_ok (l':(List T_api_Row)) (r:Bool) (h:view_sane l'=some r):PureFn Tryz.prog 28 [(.sl 4 (nvS.len l') false (fun ix jx=>(D_api_Row nvS (nvS.get d_api_Row l' ix) jx)))] ((.v (.bool r))):=by
  unfold view_sane at h
  refine Wfn Tryz.func28 (bodyOf Tryz.f28) fun ctr hc=>?_
  revert h
  refine Wyp 1 [] 0 [] (Wq ?_)
  intro h
  intros
  refine Wcut h (ctr+1) [(2,1),(1,11)] [] (fun _ u=>Fa [] []) (fun x uc ug ut ht hu hp h=>?_) (fun f h=>?_)
  · refine Wx [] 0 [] Wz
  · revert h
    refine Wyp 1 [] 0 [] (Wq ?_)
    intro h
    intros
    refine Tr.block ?_
    refine Wlp h (ctr+2) [(2,1),(1,1),(2,8)] [(4,1)] (fun v u1=>Fa [(7,.v (.int .i64 v))] []) Wlay (fun v u1c u1g u1t f ht hu hp h=>?_)
    refine Wo0 ?_
    refine Wo 12 0 (row_Sane_ok (getL d_api_Row l' v)) fun v1 h14=>?_
    refine Wk [] 0 [] Wz

theorem view_letters_ok (r':T_api_Row) (r:((List Int) × (List Int))) (h:view_letters r'=some r):PureFn Tryz.prog 45 [(.agg 4 (fun j=>(D_api_Row nvS r' j)))] (.tup 2 (fun j=>match j with | 0=>(.sl 1 (nvS.len r.1) false (fun ix jx=>(.v (.int .i64 (nvS.get 0 r.1 ix))))) | 1=>(.sl 1 (nvS.len r.2) false (fun ix jx=>(.v (.int .i64 (nvS.get 0 r.2 ix))))) | _=>.junk)):=by
  obtain ⟨r_Cells,r_Wrap,r_Dir,r_Explicit⟩:=r'
  unfold view_letters at h
  try dsimp only at h
  refine Wfn Tryz.func45 (bodyOf Tryz.f45) fun ctr hc=>?_
  revert h
  refine Wyp 2 [] 0 [] (Wq ?_)
  intro h
  intros
  refine Wcut h (ctr+2) [(4,2),(1,26)] [(26,1),(4,1)] (fun (out,widths) u=>Fa [(4,.vec 26 (u.g 26) 1 0 (nvS.len out)),(5,.vec 31 (u.g 31) 1 0 (nvS.len widths))] [(26,.arr (u.g 26) 1 (nvS.len out) (u.t 26) (fun ix jx=>(.v (.int .i64 (nvS.get 0 out ix))))),(31,.arr (u.g 31) 1 (nvS.len widths) (u.t 31) (fun ix jx=>(.v (.int .i64 (nvS.get 0 widths ix)))))]) (fun x uc ug ut ht hu hp h=>?_) (fun f h=>?_)
  · obtain ⟨out,widths⟩:=x
    try dsimp only at hp h
    refine Wx [] 0 [] Wz
  · revert h
    refine Wyp 1 [] 0 [] (Wq ?_)
    intro h
    intros
    refine Tr.block ?_
    refine Wlp h (ctr+3) [(4,2),(1,2),(3,21)] [(7,1),(18,1),(4,1)] (fun (v,out1,widths1) u1=>Fa [(4,.vec 26 (u1.g 26) 1 0 (nvS.len out1)),(5,.vec 31 (u1.g 31) 1 0 (nvS.len widths1)),(12,.v (.int .i64 v))] [(26,.arr (u1.g 26) 1 (nvS.len out1) (u1.t 26) (fun ix jx=>(.v (.int .i64 (nvS.get 0 out1 ix))))),(31,.arr (u1.g 31) 1 (nvS.len widths1) (u1.t 31) (fun ix jx=>(.v (.int .i64 (nvS.get 0 widths1 ix)))))]) Wlay (fun x u1c u1g u1t f ht hu hp h=>?_)
    obtain ⟨v,out1,widths1⟩:=x
    try dsimp only at hp h
    refine Wx [25,30] 0 [] Wz

theorem view_gather_ok (l':(List T_api_Row)) (r:(List Int)) (h:view_gather l'=some r):PureFn Tryz.prog 34 [(.sl 4 (nvS.len l') false (fun ix jx=>(D_api_Row nvS (nvS.get d_api_Row l' ix) jx)))] (.own 1 (nvS.len r) false (fun ix jx=>(.v (.int .i64 (nvS.get 0 r ix))))):=by
  unfold view_gather at h
  refine Wfn Tryz.func34 (bodyOf Tryz.f34) fun ctr hc=>?_
  revert h
  refine Wyp 2 [] 0 [] (Wq ?_)
  intro h
  intros
  refine Wcut h (ctr+2) [(3,1),(1,18)] [(21,1)] (fun out u=>Fa [(3,.vec 21 (u.g 21) 1 0 (nvS.len out))] [(21,.arr (u.g 21) 1 (nvS.len out) (u.t 21) (fun ix jx=>(.v (.int .i64 (nvS.get 0 out ix)))))]) (fun out uc ug ut ht hu hp h=>?_) (fun f h=>?_)
  · refine Wx [] 0 [] Wz
  · revert h
    refine Wyp 1 [] 0 [] (Wq ?_)
    intro h
    intros
    refine Tr.block ?_
    refine Wlp h (ctr+3) [(3,1),(1,3),(2,13)] [(5,1),(15,1)] (fun (v,out1) u1=>Fa [(3,.vec 21 (u1.g 21) 1 0 (nvS.len out1)),(10,.v (.int .i64 v))] [(21,.arr (u1.g 21) 1 (nvS.len out1) (u1.t 21) (fun ix jx=>(.v (.int .i64 (nvS.get 0 out1 ix)))))]) Wlay (fun x u1c u1g u1t f ht hu hp h=>?_)
    obtain ⟨v,out1⟩:=x
    try dsimp only at hp h
    refine Wo0 ?_
    refine Wo 16 0 (view_letters_ok (getL d_api_Row l' v)) fun v1 h18=>?_
    obtain ⟨v1_0,v1_1⟩:=v1
    refine Wk [] 0 [] Wz

theorem view_place_ok (l':(List Int)) (at':Int) (r:Int) (h:view_place l' at'=some r):PureFn Tryz.prog 33 [(.sl 1 (nvS.len l') false (fun ix jx=>(.v (.int .i64 (nvS.get 0 l' ix))))),(.v (.int .i64 at'))] ((.v (.int .i64 r))):=by
  unfold view_place at h
  refine Wfn Tryz.func33 (bodyOf Tryz.f33) fun ctr hc=>?_
  refine Wx [] 0 [] Wz

theorem slices_Reverse___int_int__ok (s:List Int) (s_off:Int) (s_n:Int) (r:(List Int)) (h:slices_Reverse___int_int_ s s_off s_n=some r) (s_N:Int) (hs_N:lenL s=s_N) (tg0:Bool):LentFn Tryz.prog 149 [.vec 0 0 1 s_off s_n] [.arr 0 1 s_N tg0 (fun ix jx=>(.v (.int .i64 (nvS.get 0 s ix))))] [.arr 0 1 s_N tg0 (fun ix jx=>(.v (.int .i64 (nvS.get 0 r ix))))] (.tup 0 (fun _=>.junk)):=by
  unfold slices_Reverse___int_int_ at h
  refine Wfl Tryz.func149 (bodyOf Tryz.f149) fun ctr hc=>?_
  replace h:=chk_some h;obtain ⟨h20,h⟩:=h
  revert h
  refine Wyp 1 [] 1 [] (Wq ?_)
  intro h
  intros
  refine Tr.block ?_
  refine Wlp h (ctr+1) [(2,2),(3,21)] [(0,1)] (fun (i,j1,s1) u=>⟨[(2,.v (.int .i64 i)),(3,.v (.int .i64 j1))],[(0,.arr (0) 1 s_N (tg0) (fun ix jx=>(.v (.int .i64 (nvS.get 0 s1 ix)))))],fun _=>lenL s1=s_N⟩) Wlay (fun x uc ug ut f ht hu hp h=>?_)
  obtain ⟨i,j1,s1⟩:=x
  try dsimp only at hp h
  refine Wx [] 1 [] Wz

theorem order_Visual_ok (levels:(List Int)) (r:(List Int)) (h:order_Visual levels=some r):PureFn Tryz.prog 120 [(.sl 1 (nvS.len levels) false (fun ix jx=>(.v (.int .i64 (nvS.get 0 levels ix)))))] (.own 1 (nvS.len r) false (fun ix jx=>(.v (.int .i64 (nvS.get 0 r ix))))):=by
  unfold order_Visual at h
  refine Wfn Tryz.func120 (bodyOf Tryz.f120) fun ctr hc=>?_
  revert h
  refine Wyp 4 [] 0 [] (Wq ?_)
  intro h
  intros
  refine Wcut h (ctr+4) [(5,4),(9,28)] [(14,1),(2,1)] (fun (most,least,l',out) u=>⟨[(5,.v (.int .i64 most)),(6,.v (.int .i64 least))],[(14,.arr (ctr+1) 1 (nvS.len levels) (u.t 14) (fun ix jx=>(.v (.int .i64 (nvS.get 0 l' ix))))),(17,.arr (ctr+2) 1 (nvS.len levels) (u.t 17) (fun ix jx=>(.v (.int .i64 (nvS.get 0 out ix)))))],fun _=>lenL l'=(lenL levels)∧lenL out=(lenL levels)⟩) (fun x uc ug ut ht hu hp h=>?_) (fun f h=>?_)
  · obtain ⟨most,least,l',out⟩:=x
    try dsimp only at hp h
    refine Wcut h uc [(9,3),(34,32)] [(17,1)] (fun out1 u1=>⟨[],[(17,.arr (ctr+2) 1 (nvS.len levels) (u1.t 17) (fun ix jx=>(.v (.int .i64 (nvS.get 0 out1 ix)))))],fun _=>lenL out1=(lenL levels)⟩) (fun out1 u1c u1g u1t ht hu hp h=>?_) (fun f h=>?_)
    · try dsimp only at hp h
      refine Wx [] 0 [] Wz
    · revert h
      refine Wyp 1 [] 0 [] (Wq ?_)
      intro h
      intros
      refine Tr.block ?_
      refine Wlp h (uc+1) [(9,3),(35,31)] [(17,1)] (fun (level,out2) u2=>⟨[(9,.v (.int .i64 level))],[(17,.arr (ctr+2) 1 (nvS.len levels) (u2.t 17) (fun ix jx=>(.v (.int .i64 (nvS.get 0 out2 ix)))))],fun _=>lenL out2=(lenL levels)⟩) Wlay (fun x u2c u2g u2t f ht hu hp h=>?_)
      obtain ⟨level,out2⟩:=x
      try dsimp only at hp h
      revert h
      refine Wyp 1 [] 0 [] (Wq ?_)
      intro h
      intros
      refine Wcut h (u2c+1) [(10,2),(40,26)] [(17,1)] (fun out3 u3=>⟨[],[(17,.arr (ctr+2) 1 (nvS.len levels) (u3.t 17) (fun ix jx=>(.v (.int .i64 (nvS.get 0 out3 ix)))))],fun _=>lenL out3=(lenL levels)⟩) (fun out3 u3c u3g u3t ht hu hp h=>?_) (fun f h=>?_)
      · try dsimp only at hp h
        refine Wx [] 0 [] Wz
      · refine Tr.block ?_
        revert h
        refine Wyp 1 [] 0 [] (Wq ?_)
        intro h
        intros
        refine Tr.block ?_
        refine Wlp h (u2c+2) [(10,2),(40,26)] [(17,1)] (fun (from',out4) u4=>⟨[(10,.v (.int .i64 from'))],[(17,.arr (ctr+2) 1 (nvS.len levels) (u4.t 17) (fun ix jx=>(.v (.int .i64 (nvS.get 0 out4 ix)))))],fun _=>lenL out4=(lenL levels)⟩) Wlay (fun x u4c u4g u4t f ht hu hp h=>?_)
        obtain ⟨from',out4⟩:=x
        try dsimp only at hp h
        revert h
        refine Wyp 1 [] 0 [] (Wq ?_)
        intro h
        intros
        refine Tr.block ?_
        revert h
        refine Wyp 1 [] 0 [] (Wq ?_)
        intro h
        intros
        refine Wcut h (u4c+2) [(11,1),(45,14)] [] (fun to u5=>Fa [(11,.v (.int .i64 to))] []) (fun to u5c u5g u5t ht hu hp h=>?_) (fun f h=>?_)
        · refine Wo0 ?_
          refine Wol 75 (fun r h=>slices_Reverse___int_int__ok out4 (0+from') (to-from') r h ((nvS.len levels)) Wy (u4t 17)) fun v h121=>?_
          refine Wk [] 0 [] Wz
        · refine Tr.block ?_
          refine Wlp h (u4c+2) [(11,1),(45,14)] [] (fun to1 u6=>Fa [(11,.v (.int .i64 to1))] []) Wlay (fun to1 u6c u6g u6t f ht hu hp h=>?_)
          refine Wx [] 0 [] Wz
  · revert h
    refine Wyp 1 [] 0 [] (Wq ?_)
    intro h
    intros
    refine Tr.block ?_
    refine Wlp h (ctr+5) [(5,4),(11,26)] [(14,1),(2,1)] (fun (most1,least1,v1,l'1,out5) u7=>⟨[(5,.v (.int .i64 most1)),(6,.v (.int .i64 least1)),(20,.v (.int .i64 v1))],[(14,.arr (ctr+1) 1 (nvS.len levels) (u7.t 14) (fun ix jx=>(.v (.int .i64 (nvS.get 0 l'1 ix))))),(17,.arr (ctr+2) 1 (nvS.len levels) (u7.t 17) (fun ix jx=>(.v (.int .i64 (nvS.get 0 out5 ix)))))],fun _=>lenL l'1=(lenL levels)∧lenL out5=(lenL levels)⟩) Wlay (fun x u7c u7g u7t f ht hu hp h=>?_)
    obtain ⟨most1,least1,v1,l'1,out5⟩:=x
    try dsimp only at hp h
    refine Wx [] 0 [] Wz

theorem order_passed_ok (c':Int) (r:Bool) (h:order_passed c'=some r):PureFn Tryz.prog 75 [(.v (.int .i64 c'))] ((.v (.bool r))):=by
  unfold order_passed at h
  refine Wfn Tryz.func75 (bodyOf Tryz.f75) fun ctr hc=>?_
  revert h
  refine Wyp 1 [] 0 [] (Wq ?_)
  intro h
  intros
  refine Wcut h (ctr+1) [(2,14)] [] (fun _ u=>Fa [] []) (fun x uc ug ut ht hu hp h=>?_) (fun f h=>?_)
  · refine Wx [] 0 [] Wz
  · revert h
    refine Wyp 1 [] 0 [] (Wq ?_)
    intro h
    intros
    refine Tr.block ?_
    refine Wcut h (ctr+2) [(4,12)] [] (fun v u1=>Fa [(4,.v (.bool v))] []) (fun v u1c u1g u1t ht hu hp h=>?_) (fun f h=>?_)
    · refine Wx [] 0 [] Wz
    · revert h
      refine Wyp 1 [] 0 [] (Wq ?_)
      intro h
      intros
      refine Wcond h rfl (fun _ h=>?_) (fun _ h=>?_)
      · refine Wx [] 0 [] Wz
      · revert h
        refine Wyp 1 [] 0 [] (Wq ?_)
        intro h
        intros
        refine Wcond h rfl (fun _ h=>?_) (fun _ h=>?_)
        · refine Wx [] 0 [] Wz
        · refine Wx [] 0 [] Wz

theorem order_Cells_ok (levels:(List Int)) (widths:(List Int)) (r:((List Int) × Bool)) (h:order_Cells levels widths=some r):PureFn Tryz.prog 71 [(.sl 1 (nvS.len levels) false (fun ix jx=>(.v (.int .i64 (nvS.get 0 levels ix))))),(.sl 1 (nvS.len widths) false (fun ix jx=>(.v (.int .i64 (nvS.get 0 widths ix)))))] (.tup 2 (fun j=>match j with | 0=>(.sl 1 (nvS.len r.1) false (fun ix jx=>(.v (.int .i64 (nvS.get 0 r.1 ix))))) | 1=>(.v (.bool r.2)) | _=>.junk)):=by
  unfold order_Cells at h
  refine Wfn Tryz.func71 (bodyOf Tryz.f71) fun ctr hc=>?_
  revert h
  refine Wyp 4 [] 0 [] (Wq ?_)
  intro h
  intros
  refine Wcut h (ctr+4) [(4,2),(1,3),(12,21)] [(21,1)] (fun (n,starts) u=>⟨[(7,.v (.int .i64 n))],[(21,.arr (ctr+2) 1 (nvS.len widths) (u.t 21) (fun ix jx=>(.v (.int .i64 (nvS.get 0 starts ix)))))],fun _=>lenL starts=(lenL widths)⟩) (fun x uc ug ut ht hu hp h=>?_) (fun f h=>?_)
  · obtain ⟨n,starts⟩:=x
    try dsimp only at hp h
    revert h
    refine Wyp 1 [] 0 [] (Wq ?_)
    intro h
    intros
    refine Wcut h (uc+1) [(10,1),(1,2),(31,25)] [(44,1),(1,1)] (fun out u1=>Fa [(10,.vec 44 (u1.g 44) 1 0 (nvS.len out))] [(44,.arr (u1.g 44) 1 (nvS.len out) (u1.t 44) (fun ix jx=>(.v (.int .i64 (nvS.get 0 out ix)))))]) (fun out u1c u1g u1t ht hu hp h=>?_) (fun f h=>?_)
    · refine Wx [] 0 [] Wz
    · refine Wo0 ?_
      refine Wo 46 1 (order_Visual_ok levels) fun v h34=>?_
      revert h
      refine Wjp 1 [] 0 [] (Wq ?_)
      intro h
      intros
      refine Tr.block ?_
      refine Wlp h (uc+2) [(10,1),(1,2),(34,22)] [(44,1)] (fun (v1,out1) u2=>Fa [(10,.vec 44 (u2.g 44) 1 0 (nvS.len out1)),(48,.v (.int .i64 v1))] [(44,.arr (u2.g 44) 1 (nvS.len out1) (u2.t 44) (fun ix jx=>(.v (.int .i64 (nvS.get 0 out1 ix)))))]) Wlay (fun x u2c u2g u2t f ht hu hp h=>?_)
      obtain ⟨v1,out1⟩:=x
      try dsimp only at hp h
      revert h
      refine Wyp 2 [] 0 [] (Wq ?_)
      intro h
      intros
      refine Wcut h (u2c+1) [(10,1),(1,2),(36,19)] [(44,1)] (fun out2 u3=>Fa [(10,.vec 44 (u3.g 44) 1 0 (nvS.len out2))] [(44,.arr (u3.g 44) 1 (nvS.len out2) (u3.t 44) (fun ix jx=>(.v (.int .i64 (nvS.get 0 out2 ix)))))]) (fun out2 u3c u3g u3t ht hu hp h=>?_) (fun f h=>?_)
      · refine Wx [] 0 [] Wz
      · refine Tr.block ?_
        revert h
        refine Wyp 2 [] 0 [] (Wq ?_)
        intro h
        intros
        refine Tr.block ?_
        refine Wlp h (u2c+3) [(10,1),(2,1),(42,13)] [(44,1),(22,1)] (fun (v2,out3) u4=>Fa [(10,.vec 44 (u4.g 44) 1 0 (nvS.len out3)),(56,.v (.int .i64 v2))] [(44,.arr (u4.g 44) 1 (nvS.len out3) (u4.t 44) (fun ix jx=>(.v (.int .i64 (nvS.get 0 out3 ix)))))]) Wlay (fun x u4c u4g u4t f ht hu hp h=>?_)
        obtain ⟨v2,out3⟩:=x
        try dsimp only at hp h
        refine Wx [66] 0 [] Wz
  · revert h
    refine Wyp 1 [] 0 [] (Wq ?_)
    intro h
    intros
    refine Tr.block ?_
    refine Wlp h (ctr+5) [(4,2),(1,3),(14,19)] [(21,1)] (fun (n1,v3,starts1) u5=>⟨[(7,.v (.int .i64 n1)),(24,.v (.int .i64 v3))],[(21,.arr (ctr+2) 1 (nvS.len widths) (u5.t 21) (fun ix jx=>(.v (.int .i64 (nvS.get 0 starts1 ix)))))],fun _=>lenL starts1=(lenL widths)⟩) Wlay (fun x u5c u5g u5t f ht hu hp h=>?_)
    obtain ⟨n1,v3,starts1⟩:=x
    try dsimp only at hp h
    refine Wx [] 0 [] Wz

theorem order_Invert_ok (l':(List Int)) (r:((List Int) × Bool)) (h:order_Invert l'=some r):PureFn Tryz.prog 72 [(.sl 1 (nvS.len l') false (fun ix jx=>(.v (.int .i64 (nvS.get 0 l' ix)))))] (.tup 2 (fun j=>match j with | 0=>(.sl 1 (nvS.len r.1) false (fun ix jx=>(.v (.int .i64 (nvS.get 0 r.1 ix))))) | 1=>(.v (.bool r.2)) | _=>.junk)):=by
  unfold order_Invert at h
  refine Wfn Tryz.func72 (bodyOf Tryz.f72) fun ctr hc=>?_
  revert h
  refine Wyp 2 [] 0 [] (Wq ?_)
  intro h
  intros
  refine Wcut h (ctr+2) [(5,1),(5,9)] [(10,1)] (fun out u=>⟨[],[(10,.arr (ctr+1) 1 (nvS.len l') (u.t 10) (fun ix jx=>(.v (.int .i64 (nvS.get 0 out ix)))))],fun _=>lenL out=(lenL l')⟩) (fun out uc ug ut ht hu hp h=>?_) (fun f h=>?_)
  · try dsimp only at hp h
    refine Wcut h uc [(2,2),(2,2),(12,27)] [(10,1)] (fun out1 u1=>⟨[],[(10,.arr (ctr+1) 1 (nvS.len l') (u1.t 10) (fun ix jx=>(.v (.int .i64 (nvS.get 0 out1 ix)))))],fun _=>lenL out1=(lenL l')⟩) (fun out1 u1c u1g u1t ht hu hp h=>?_) (fun f h=>?_)
    · try dsimp only at hp h
      refine Wx [] 0 [] Wz
    · revert h
      refine Wyp 1 [] 0 [] (Wq ?_)
      intro h
      intros
      refine Tr.block ?_
      refine Wlp h (uc+1) [(2,2),(2,2),(14,25)] [(10,1)] (fun (v,out2) u2=>⟨[(22,.v (.int .i64 v))],[(10,.arr (ctr+1) 1 (nvS.len l') (u2.t 10) (fun ix jx=>(.v (.int .i64 (nvS.get 0 out2 ix)))))],fun _=>lenL out2=(lenL l')⟩) Wlay (fun x u2c u2g u2t f ht hu hp h=>?_)
      obtain ⟨v,out2⟩:=x
      try dsimp only at hp h
      refine Wx [] 0 [] Wz
  · revert h
    refine Wyp 1 [] 0 [] (Wq ?_)
    intro h
    intros
    refine Tr.block ?_
    refine Wlp h (ctr+3) [(5,1),(7,7)] [(10,1)] (fun (v1,out3) u3=>⟨[(13,.v (.int .i64 v1))],[(10,.arr (ctr+1) 1 (nvS.len l') (u3.t 10) (fun ix jx=>(.v (.int .i64 (nvS.get 0 out3 ix)))))],fun _=>lenL out3=(lenL l')⟩) Wlay (fun x u3c u3g u3t f ht hu hp h=>?_)
    obtain ⟨v1,out3⟩:=x
    try dsimp only at hp h
    refine Wx [] 0 [] Wz

theorem view_lay_ok (cells:(List T_api_Cell)) (levels:(List Int)) (widths:(List Int)) (base:Int) (r:T_view_Line) (h:view_lay cells levels widths base=some r):PureFn Tryz.prog 46 [(.sl 7 (nvS.len cells) false (fun ix jx=>(D_api_Cell nvS (nvS.get d_api_Cell cells ix) jx))),(.sl 1 (nvS.len levels) false (fun ix jx=>(.v (.int .i64 (nvS.get 0 levels ix))))),(.sl 1 (nvS.len widths) false (fun ix jx=>(.v (.int .i64 (nvS.get 0 widths ix))))),(.v (.int .i64 base))] ((.agg 4 (fun j=>(D_view_Line nvS r j)))):=by
  unfold view_lay at h
  refine Wfn Tryz.func46 (bodyOf Tryz.f46) fun ctr hc=>?_
  refine Wo0 ?_
  refine Wo 17 0 (order_Cells_ok levels widths) fun v h1=>?_
  obtain ⟨v_0,v_1⟩:=v
  refine Wo 24 0 (order_Invert_ok v_0) fun v1 h2=>?_
  obtain ⟨v1_0,v1_1⟩:=v1
  revert h
  refine Wjp 5 [] 0 [] (Wq ?_)
  intro h
  intros
  refine Wcut h (ctr+5) [(10,2),(21,17)] [(31,1)] (fun o u=>⟨[],[(31,.arr (ctr+4) 7 (nvS.len v_0) (u.t 31) (fun ix jx=>(D_api_Cell nvS (nvS.get d_api_Cell o ix) jx)))],fun _=>lenL o=(lenL v_0)⟩) (fun o uc ug ut ht hu hp h=>?_) (fun f h=>?_)
  · try dsimp only at hp h
    refine Wx [] 0 [] Wz
  · revert h
    refine Wyp 1 [] 0 [] (Wq ?_)
    intro h
    intros
    refine Tr.block ?_
    refine Wlp h (ctr+6) [(10,2),(24,14)] [(31,1)] (fun (v2,o1) u1=>⟨[(36,.v (.int .i64 v2))],[(31,.arr (ctr+4) 7 (nvS.len v_0) (u1.t 31) (fun ix jx=>(D_api_Cell nvS (nvS.get d_api_Cell o1 ix) jx)))],fun _=>lenL o1=(lenL v_0)⟩) Wlay (fun x u1c u1g u1t f ht hu hp h=>?_)
    obtain ⟨v2,o1⟩:=x
    try dsimp only at hp h
    refine Wx [] 0 [] Wz

theorem view_fixed_ok (r':T_api_Row) (r:T_view_Line) (h:view_fixed r'=some r):PureFn Tryz.prog 29 [(.agg 4 (fun j=>(D_api_Row nvS r' j)))] ((.agg 4 (fun j=>(D_view_Line nvS r j)))):=by
  obtain ⟨r_Cells,r_Wrap,r_Dir,r_Explicit⟩:=r'
  unfold view_fixed at h
  try dsimp only at h
  refine Wfn Tryz.func29 (bodyOf Tryz.f29) fun ctr hc=>?_
  refine Wo0 ?_
  refine Wo 9 0 (view_letters_ok (T_api_Row.mk r_Cells r_Wrap r_Dir r_Explicit)) fun v h1=>?_
  obtain ⟨v_0,v_1⟩:=v
  refine Wo 22 0 (view_lay_ok r_Cells (repL (lenL v_0) 0) v_1 0) fun v1 h3=>?_
  obtain ⟨v1_V2L,v1_L2V,v1_Cells,v1_Base⟩:=v1
  revert h
  refine Wjp 4 [] 0 [(4,[.freeze (.slot 5)])] (Wq ?_)
  intro h
  intros
  refine Wcut h (ctr+4) [(6,1),(16,9)] [(14,1)] (fun levels u=>⟨[],[(14,.arr (ctr+2) 1 (nvS.len v_0) (u.t 14) (fun ix jx=>(.v (.int .i64 (nvS.get 0 levels ix)))))],fun _=>lenL levels=(lenL v_0)⟩) (fun levels uc ug ut ht hu hp h=>?_) (fun f h=>?_)
  · try dsimp only at hp h
    refine Wo0 ?_
    refine Wo 36 0 (view_lay_ok r_Cells levels v_1 1) fun v2 h8=>?_
    obtain ⟨v2_V2L,v2_L2V,v2_Cells,v2_Base⟩:=v2
    refine Wk [] 0 [(10,[.freeze (.slot 5)])] Wz
  · revert h
    refine Wyp 1 [] 0 [] (Wq ?_)
    intro h
    intros
    refine Tr.block ?_
    refine Wlp h (ctr+5) [(6,1),(18,7)] [(14,1)] (fun (v3,levels1) u1=>⟨[(25,.v (.int .i64 v3))],[(14,.arr (ctr+2) 1 (nvS.len v_0) (u1.t 14) (fun ix jx=>(.v (.int .i64 (nvS.get 0 levels1 ix)))))],fun _=>lenL levels1=(lenL v_0)⟩) Wlay (fun x u1c u1g u1t f ht hu hp h=>?_)
    obtain ⟨v3,levels1⟩:=x
    try dsimp only at hp h
    refine Wx [] 0 [] Wz

theorem order_Reset_ok (d':T_ucd_Data) (r':(List Int)) (levels:(List Int)) (base:Int) (r:(List Int)) (h:order_Reset d' r' levels base=some r):PureFn Tryz.prog 49 [(.agg 6 (fun j=>(D_ucd_Data nvS d' j))),(.sl 1 (nvS.len r') false (fun ix jx=>(.v (.int .i64 (nvS.get 0 r' ix))))),(.sl 1 (nvS.len levels) false (fun ix jx=>(.v (.int .i64 (nvS.get 0 levels ix))))),(.v (.int .i64 base))] (.own 1 (nvS.len r) false (fun ix jx=>(.v (.int .i64 (nvS.get 0 r ix))))):=by
  obtain ⟨⟨d_Class_L⟩,⟨d_Wide_L⟩,⟨d_Join_L⟩,d_Mirror,d_Brackets,d_Forms⟩:=d'
  unfold order_Reset at h
  try dsimp only at h
  refine Wfn Tryz.func49 (bodyOf Tryz.f49) fun ctr hc=>?_
  refine Wo0 ?_
  refine Wo 14 1 (slices_Clone___int_int__ok levels) fun v h1=>?_
  revert h
  refine Wjp 4 [] 0 [] (Wq ?_)
  intro h
  intros
  refine Wcut h (ctr+4) [(10,3),(8,34)] [(14,1)] (fun out u=>⟨[],[(14,.arr (ctr+1) 1 (nvS.len v) (u.t 14) (fun ix jx=>(.v (.int .i64 (nvS.get 0 out ix)))))],fun _=>lenL out=(lenL v)⟩) (fun out uc ug ut ht hu hp h=>?_) (fun f h=>?_)
  · try dsimp only at hp h
    refine Wx [] 0 [] Wz
  · revert h
    refine Wyp 1 [] 0 [] (Wq ?_)
    intro h
    intros
    refine Tr.block ?_
    refine Wlp h (ctr+5) [(10,3),(11,31)] [(14,1)] (fun (end',i1,out1) u1=>⟨[(10,.v (.bool end')),(11,.v (.int .i64 i1))],[(14,.arr (ctr+1) 1 (nvS.len v) (u1.t 14) (fun ix jx=>(.v (.int .i64 (nvS.get 0 out1 ix)))))],fun _=>lenL out1=(lenL v)⟩) Wlay (fun x u1c u1g u1t f ht hu hp h=>?_)
    obtain ⟨end',i1,out1⟩:=x
    try dsimp only at hp h
    refine Wo0 ?_
    refine Wo 33 0 (ucd_Class_ok (T_ucd_Data.mk (T_ranges_Table.mk d_Class_L) (T_ranges_Table.mk d_Wide_L) (T_ranges_Table.mk d_Join_L) d_Mirror d_Brackets d_Forms) (getL 0 r' i1)) fun v1 h39=>?_
    refine Wo 47 0 (order_passed_ok v1) fun v2 h42=>?_
    refine Wk [] 0 [] Wz

theorem ucd_Mirror_ok (d':T_ucd_Data) (r':Int) (r:Int) (h:ucd_Mirror d' r'=some r):PureFn Tryz.prog 125 [(.agg 6 (fun j=>(D_ucd_Data nvS d' j))),(.v (.int .i64 r'))] ((.v (.int .i64 r))):=by
  obtain ⟨⟨d_Class_L⟩,⟨d_Wide_L⟩,⟨d_Join_L⟩,d_Mirror,d_Brackets,d_Forms⟩:=d'
  unfold ucd_Mirror at h
  try dsimp only at h
  refine Wfn Tryz.func125 (bodyOf Tryz.f125) fun ctr hc=>?_
  revert h
  refine Wyp 1 [] 0 [] (Wq ?_)
  intro h
  intros
  refine Wcut h (ctr+1) [(4,1),(1,22)] [] (fun _ u=>Fa [] []) (fun x uc ug ut ht hu hp h=>?_) (fun f h=>?_)
  · refine Wx [] 0 [] Wz
  · revert h
    refine Wyp 1 [] 0 [] (Wq ?_)
    intro h
    intros
    refine Tr.block ?_
    refine Wlp h (ctr+2) [(4,1),(1,1),(3,18)] [(6,1)] (fun v u1=>Fa [(10,.v (.int .i64 v))] []) Wlay (fun v u1c u1g u1t f ht hu hp h=>?_)
    refine Wx [] 0 [] Wz

theorem ucd_Ligature_ok (lam:Int) (alef:Int) (final:Bool) (r:(Int × Bool)) (h:ucd_Ligature lam alef final=some r):PureFn Tryz.prog 80 [(.v (.int .i64 lam)),(.v (.int .i64 alef)),(.v (.bool final))] (.tup 2 (fun j=>match j with | 0=>(.v (.int .i64 r.1)) | 1=>(.v (.bool r.2)) | _=>.junk)):=by
  unfold ucd_Ligature at h
  refine Wfn Tryz.func80 (bodyOf Tryz.f80) fun ctr hc=>?_
  revert h
  refine Wyp 3 [] 0 [] (Wq ?_)
  intro h
  intros
  refine Wx [] 0 [] Wz

theorem ucd_Shape_ok (d':T_ucd_Data) (r':Int) (which:Int) (r:Int) (h:ucd_Shape d' r' which=some r):PureFn Tryz.prog 77 [(.agg 6 (fun j=>(D_ucd_Data nvS d' j))),(.v (.int .i64 r')),(.v (.int .i64 which))] ((.v (.int .i64 r))):=by
  obtain ⟨⟨d_Class_L⟩,⟨d_Wide_L⟩,⟨d_Join_L⟩,d_Mirror,d_Brackets,d_Forms⟩:=d'
  unfold ucd_Shape at h
  try dsimp only at h
  refine Wfn Tryz.func77 (bodyOf Tryz.f77) fun ctr hc=>?_
  revert h
  refine Wyp 2 [] 0 [] (Wq ?_)
  intro h
  intros
  refine Wcut h (ctr+2) [(6,1),(1,1),(7,37)] [] (fun _ u=>Fa [] []) (fun x uc ug ut ht hu hp h=>?_) (fun f h=>?_)
  · refine Wx [] 0 [] Wz
  · revert h
    refine Wyp 1 [] 0 [] (Wq ?_)
    intro h
    intros
    refine Tr.block ?_
    refine Wlp h (ctr+3) [(6,1),(1,1),(10,34)] [(8,1)] (fun v u1=>Fa [(19,.v (.int .i64 v))] []) Wlay (fun v u1c u1g u1t f ht hu hp h=>?_)
    refine Wx [] 0 [] Wz

theorem ucd_Join_ok (d':T_ucd_Data) (r':Int) (r:Int) (h:ucd_Join d' r'=some r):PureFn Tryz.prog 123 [(.agg 6 (fun j=>(D_ucd_Data nvS d' j))),(.v (.int .i64 r'))] ((.v (.int .i64 r))):=by
  obtain ⟨⟨d_Class_L⟩,⟨d_Wide_L⟩,⟨d_Join_L⟩,d_Mirror,d_Brackets,d_Forms⟩:=d'
  unfold ucd_Join at h
  try dsimp only at h
  refine Wfn Tryz.func123 (bodyOf Tryz.f123) fun ctr hc=>?_
  refine Wo0 ?_
  refine Wo 8 0 (ranges_Get_ok (T_ranges_Table.mk d_Join_L) r') fun v h1=>?_
  refine Wk [] 0 [] Wz

theorem shape_Before_ok (d':T_ucd_Data) (r':(List Int)) (at':Int) (r:Int) (h:shape_Before d' r' at'=some r):PureFn Tryz.prog 124 [(.agg 6 (fun j=>(D_ucd_Data nvS d' j))),(.sl 1 (nvS.len r') false (fun ix jx=>(.v (.int .i64 (nvS.get 0 r' ix))))),(.v (.int .i64 at'))] ((.v (.int .i64 r))):=by
  obtain ⟨⟨d_Class_L⟩,⟨d_Wide_L⟩,⟨d_Join_L⟩,d_Mirror,d_Brackets,d_Forms⟩:=d'
  unfold shape_Before at h
  try dsimp only at h
  refine Wfn Tryz.func124 (bodyOf Tryz.f124) fun ctr hc=>?_
  revert h
  refine Wyp 2 [] 0 [] (Wq ?_)
  intro h
  intros
  refine Wcut h (ctr+2) [(6,2),(8,14)] [] (fun _ u=>Fa [] []) (fun x uc ug ut ht hu hp h=>?_) (fun f h=>?_)
  · refine Wx [] 0 [] Wz
  · revert h
    refine Wyp 1 [] 0 [] (Wq ?_)
    intro h
    intros
    refine Tr.block ?_
    refine Wlp h (ctr+3) [(6,2),(10,12)] [] (fun i1 u1=>Fa [(7,.v (.int .i64 i1))] []) Wlay (fun i1 u1c u1g u1t f ht hu hp h=>?_)
    refine Wo0 ?_
    refine Wo 27 0 (ucd_Join_ok (T_ucd_Data.mk (T_ranges_Table.mk d_Class_L) (T_ranges_Table.mk d_Wide_L) (T_ranges_Table.mk d_Join_L) d_Mirror d_Brackets d_Forms) (getL 0 r' i1)) fun v h16=>?_
    refine Wk [] 0 [] Wz

theorem shape_After_ok (d':T_ucd_Data) (r':(List Int)) (at':Int) (r:Int) (h:shape_After d' r' at'=some r):PureFn Tryz.prog 79 [(.agg 6 (fun j=>(D_ucd_Data nvS d' j))),(.sl 1 (nvS.len r') false (fun ix jx=>(.v (.int .i64 (nvS.get 0 r' ix))))),(.v (.int .i64 at'))] ((.v (.int .i64 r))):=by
  obtain ⟨⟨d_Class_L⟩,⟨d_Wide_L⟩,⟨d_Join_L⟩,d_Mirror,d_Brackets,d_Forms⟩:=d'
  unfold shape_After at h
  try dsimp only at h
  refine Wfn Tryz.func79 (bodyOf Tryz.f79) fun ctr hc=>?_
  revert h
  refine Wyp 2 [] 0 [] (Wq ?_)
  intro h
  intros
  refine Wcut h (ctr+2) [(6,2),(8,16)] [] (fun _ u=>Fa [] []) (fun x uc ug ut ht hu hp h=>?_) (fun f h=>?_)
  · refine Wx [] 0 [] Wz
  · revert h
    refine Wyp 1 [] 0 [] (Wq ?_)
    intro h
    intros
    refine Tr.block ?_
    refine Wlp h (ctr+3) [(6,2),(10,14)] [] (fun i1 u1=>Fa [(7,.v (.int .i64 i1))] []) Wlay (fun i1 u1c u1g u1t f ht hu hp h=>?_)
    refine Wo0 ?_
    refine Wo 29 0 (ucd_Join_ok (T_ucd_Data.mk (T_ranges_Table.mk d_Class_L) (T_ranges_Table.mk d_Wide_L) (T_ranges_Table.mk d_Join_L) d_Mirror d_Brackets d_Forms) (getL 0 r' i1)) fun v h16=>?_
    refine Wk [] 0 [] Wz

theorem shape_Mirror_ok (d':T_ucd_Data) (r':Int) (level:Int) (boxes:Bool) (r:Int) (h:shape_Mirror d' r' level boxes=some r):PureFn Tryz.prog 78 [(.agg 6 (fun j=>(D_ucd_Data nvS d' j))),(.v (.int .i64 r')),(.v (.int .i64 level)),(.v (.bool boxes))] ((.v (.int .i64 r))):=by
  obtain ⟨⟨d_Class_L⟩,⟨d_Wide_L⟩,⟨d_Join_L⟩,d_Mirror,d_Brackets,d_Forms⟩:=d'
  unfold shape_Mirror at h
  try dsimp only at h
  refine Wfn Tryz.func78 (bodyOf Tryz.f78) fun ctr hc=>?_
  refine Wo0 ?_
  refine Wo 27 0 (ucd_Mirror_ok (T_ucd_Data.mk (T_ranges_Table.mk d_Class_L) (T_ranges_Table.mk d_Wide_L) (T_ranges_Table.mk d_Join_L) d_Mirror d_Brackets d_Forms) r') fun v h1=>?_
  refine Wk [] 0 [] Wz

theorem shape_Forms_1_ok (at':Int) (side:Int) (cap0:(List (Int × Int))) (cap1:T_ucd_Data) (cap2:(List Int)) (r:Bool) (h:shape_Forms_1 at' side cap0 cap1 cap2=some r):PureFn Tryz.prog 122 [(.v (.int .i64 at')),(.v (.int .i64 side)),.imm 1 1 (fun _ j=>(.mp .i64 .i64 cap0)) 0 0,.imm 6 1 (fun _ j=>(D_ucd_Data nvS cap1 j)) 0 0,.imm 1 1 (fun _ j=>(.sl 1 (nvS.len cap2) false (fun ix jx=>(.v (.int .i64 (nvS.get 0 cap2 ix)))))) 0 0] ((.v (.bool r))):=by
  obtain ⟨⟨cap1_Class_L⟩,⟨cap1_Wide_L⟩,⟨cap1_Join_L⟩,cap1_Mirror,cap1_Brackets,cap1_Forms⟩:=cap1
  unfold shape_Forms_1 at h
  try dsimp only at h
  refine Wfn Tryz.func122 (bodyOf Tryz.f122) fun ctr hc=>?_
  refine Wo0 ?_
  refine Wog 17 0 (decide (0≤at')) (ucd_Join_ok (T_ucd_Data.mk (T_ranges_Table.mk cap1_Class_L) (T_ranges_Table.mk cap1_Wide_L) (T_ranges_Table.mk cap1_Join_L) cap1_Mirror cap1_Brackets cap1_Forms) (getL 0 cap2 at')) 0 fun v h2=>?_
  refine Wk [] 0 [] Wz

theorem shape_Forms_ok (d':T_ucd_Data) (r':(List Int)) (r:(List Int)) (h:shape_Forms d' r'=some r):PureFn Tryz.prog 76 [(.agg 6 (fun j=>(D_ucd_Data nvS d' j))),(.sl 1 (nvS.len r') false (fun ix jx=>(.v (.int .i64 (nvS.get 0 r' ix)))))] (.own 1 (nvS.len r) false (fun ix jx=>(.v (.int .i64 (nvS.get 0 r ix))))):=by
  obtain ⟨⟨d_Class_L⟩,⟨d_Wide_L⟩,⟨d_Join_L⟩,d_Mirror,d_Brackets,d_Forms⟩:=d'
  unfold shape_Forms at h
  try dsimp only at h
  refine Wfn Tryz.func76 (bodyOf Tryz.f76) fun ctr hc=>?_
  refine Wo0 ?_
  refine Wo 11 0 (shape_sides_ok) fun v h1=>?_
  revert h
  refine Wjp 4 [] 0 [] (Wq ?_)
  intro h
  intros
  refine Wcut h (ctr+4) [(8,3),(5,49)] [(15,1)] (fun out u=>⟨[],[(15,.arr (ctr+3) 1 (nvS.len r') (u.t 15) (fun ix jx=>(.v (.int .i64 (nvS.get 0 out ix)))))],fun _=>lenL out=(lenL r')⟩) (fun out uc ug ut ht hu hp h=>?_) (fun f h=>?_)
  · try dsimp only at hp h
    refine Wx [] 0 [] Wz
  · revert h
    refine Wyp 1 [] 0 [] (Wq ?_)
    intro h
    intros
    refine Tr.block ?_
    refine Wlp h (ctr+5) [(8,3),(7,47)] [(15,1)] (fun (v1,out1) u1=>⟨[(18,.v (.int .i64 v1))],[(15,.arr (ctr+3) 1 (nvS.len r') (u1.t 15) (fun ix jx=>(.v (.int .i64 (nvS.get 0 out1 ix)))))],fun _=>lenL out1=(lenL r')⟩) Wlay (fun x u1c u1g u1t f ht hu hp h=>?_)
    obtain ⟨v1,out1⟩:=x
    try dsimp only at hp h
    refine Wo0 ?_
    refine Wo 23 4 (shape_Forms_1_ok v1 1 v (T_ucd_Data.mk (T_ranges_Table.mk d_Class_L) (T_ranges_Table.mk d_Wide_L) (T_ranges_Table.mk d_Join_L) d_Mirror d_Brackets d_Forms) r') fun v2 h59=>?_
    refine Wog 29 0 v2 (shape_Before_ok (T_ucd_Data.mk (T_ranges_Table.mk d_Class_L) (T_ranges_Table.mk d_Wide_L) (T_ranges_Table.mk d_Join_L) d_Mirror d_Brackets d_Forms) r' v1) 0 fun v3 h60=>?_
    refine Wog 30 4 v2 (shape_Forms_1_ok v3 2 v (T_ucd_Data.mk (T_ranges_Table.mk d_Class_L) (T_ranges_Table.mk d_Wide_L) (T_ranges_Table.mk d_Join_L) d_Mirror d_Brackets d_Forms) r') false fun v4 h61=>?_
    refine Wo 34 4 (shape_Forms_1_ok v1 2 v (T_ucd_Data.mk (T_ranges_Table.mk d_Class_L) (T_ranges_Table.mk d_Wide_L) (T_ranges_Table.mk d_Join_L) d_Mirror d_Brackets d_Forms) r') fun v5 h62=>?_
    refine Wog 40 0 v5 (shape_After_ok (T_ucd_Data.mk (T_ranges_Table.mk d_Class_L) (T_ranges_Table.mk d_Wide_L) (T_ranges_Table.mk d_Join_L) d_Mirror d_Brackets d_Forms) r' v1) 0 fun v6 h63=>?_
    refine Wog 41 4 v5 (shape_Forms_1_ok v6 1 v (T_ucd_Data.mk (T_ranges_Table.mk d_Class_L) (T_ranges_Table.mk d_Wide_L) (T_ranges_Table.mk d_Join_L) d_Mirror d_Brackets d_Forms) r') false fun v7 h64=>?_
    refine Wk [] 0 [] Wz

theorem shape_Glyphs_ok (d':T_ucd_Data) (r':(List Int)) (levels:(List Int)) (boxes:Bool) (r:(List Int)) (h:shape_Glyphs d' r' levels boxes=some r):PureFn Tryz.prog 50 [(.agg 6 (fun j=>(D_ucd_Data nvS d' j))),(.sl 1 (nvS.len r') false (fun ix jx=>(.v (.int .i64 (nvS.get 0 r' ix))))),(.sl 1 (nvS.len levels) false (fun ix jx=>(.v (.int .i64 (nvS.get 0 levels ix))))),(.v (.bool boxes))] (.own 1 (nvS.len r) false (fun ix jx=>(.v (.int .i64 (nvS.get 0 r ix))))):=by
  obtain ⟨⟨d_Class_L⟩,⟨d_Wide_L⟩,⟨d_Join_L⟩,d_Mirror,d_Brackets,d_Forms⟩:=d'
  unfold shape_Glyphs at h
  try dsimp only at h
  refine Wfn Tryz.func50 (bodyOf Tryz.f50) fun ctr hc=>?_
  refine Wo0 ?_
  refine Wo 20 1 (slices_Clone___int_int__ok r') fun v h1=>?_
  refine Wo 29 1 (shape_Forms_ok (T_ucd_Data.mk (T_ranges_Table.mk d_Class_L) (T_ranges_Table.mk d_Wide_L) (T_ranges_Table.mk d_Join_L) d_Mirror d_Brackets d_Forms) r') fun v1 h2=>?_
  revert h
  refine Wjp 4 [] 0 [] (Wq ?_)
  intro h
  intros
  refine Wcut h (ctr+4) [(11,2),(17,35)] [(20,1)] (fun out u=>⟨[],[(20,.arr (ctr+1) 1 (nvS.len v) (u.t 20) (fun ix jx=>(.v (.int .i64 (nvS.get 0 out ix)))))],fun _=>lenL out=(lenL v)⟩) (fun out uc ug ut ht hu hp h=>?_) (fun f h=>?_)
  · try dsimp only at hp h
    refine Wcut h uc [(13,6),(46,48)] [(20,1)] (fun out1 u1=>⟨[],[(20,.arr (ctr+1) 1 (nvS.len v) (u1.t 20) (fun ix jx=>(.v (.int .i64 (nvS.get 0 out1 ix)))))],fun _=>lenL out1=(lenL v)⟩) (fun out1 u1c u1g u1t ht hu hp h=>?_) (fun f h=>?_)
    · try dsimp only at hp h
      refine Wx [] 0 [] Wz
    · revert h
      refine Wyp 1 [] 0 [] (Wq ?_)
      intro h
      intros
      refine Tr.block ?_
      refine Wlp h (uc+1) [(13,6),(48,46)] [(20,1)] (fun (v2,out2) u2=>⟨[(67,.v (.int .i64 v2))],[(20,.arr (ctr+1) 1 (nvS.len v) (u2.t 20) (fun ix jx=>(.v (.int .i64 (nvS.get 0 out2 ix)))))],fun _=>lenL out2=(lenL v)⟩) Wlay (fun x u2c u2g u2t f ht hu hp h=>?_)
      obtain ⟨v2,out2⟩:=x
      try dsimp only at hp h
      refine Wo0 ?_
      refine Wo 75 0 (shape_After_ok (T_ucd_Data.mk (T_ranges_Table.mk d_Class_L) (T_ranges_Table.mk d_Wide_L) (T_ranges_Table.mk d_Join_L) d_Mirror d_Brackets d_Forms) r' v2) fun v3 h66=>?_
      refine Wo 101 0 (ucd_Ligature_ok (getL 0 r' v2) (getL 0 r' v3) (if ((getL 0 v1 (0+v2)) == 1)=true then true else ((getL 0 v1 (0+v2)) == 3))) fun v4 h71=>?_
      obtain ⟨v4_0,v4_1⟩:=v4
      refine Wk [] 0 [] Wz
  · revert h
    refine Wyp 1 [] 0 [] (Wq ?_)
    intro h
    intros
    refine Tr.block ?_
    refine Wlp h (ctr+5) [(11,2),(19,33)] [(20,1)] (fun (v5,out3) u3=>⟨[(32,.v (.int .i64 v5))],[(20,.arr (ctr+1) 1 (nvS.len v) (u3.t 20) (fun ix jx=>(.v (.int .i64 (nvS.get 0 out3 ix)))))],fun _=>lenL out3=(lenL v)⟩) Wlay (fun x u3c u3g u3t f ht hu hp h=>?_)
    obtain ⟨v5,out3⟩:=x
    try dsimp only at hp h
    revert h
    refine Wyp 2 [] 0 [] (Wq ?_)
    intro h
    intros
    refine Wcut h (u3c+1) [(11,2),(21,30)] [(20,1)] (fun out4 u4=>⟨[],[(20,.arr (ctr+1) 1 (nvS.len v) (u4.t 20) (fun ix jx=>(.v (.int .i64 (nvS.get 0 out4 ix)))))],fun _=>lenL out4=(lenL v)⟩) (fun out4 u4c u4g u4t ht hu hp h=>?_) (fun f h=>?_)
    · try dsimp only at hp h
      refine Wx [] 0 [] Wz
    · refine Tr.block ?_
      refine Wo0 ?_
      refine Wo 45 0 (ucd_Shape_ok (T_ucd_Data.mk (T_ranges_Table.mk d_Class_L) (T_ranges_Table.mk d_Wide_L) (T_ranges_Table.mk d_Join_L) d_Mirror d_Brackets d_Forms) (getL 0 r' v5) (getL 0 v1 (0+v5))) fun v7 h113=>?_
      refine Wkc 2 [] 0 [] h (u3c+1) [(11,2),(21,13)] [(20,1)] (fun out5 u5=>⟨[(11,.v (.int .i64 v5)),(12,.v (.int .i64 (nvS.get 0 r' v5)))],[(20,.arr (ctr+1) 1 (nvS.len v) (u5.t 20) (fun ix jx=>(.v (.int .i64 (nvS.get 0 out5 ix)))))],fun _=>lenL out5=(lenL v)⟩) (fun out5 u5c u5g u5t ht hu hp h=>?_) (fun f h=>Wz)
      try dsimp only at hp h
      refine Wo0 ?_
      refine Wo 62 0 (shape_Mirror_ok (T_ucd_Data.mk (T_ranges_Table.mk d_Class_L) (T_ranges_Table.mk d_Wide_L) (T_ranges_Table.mk d_Join_L) d_Mirror d_Brackets d_Forms) (getL 0 r' v5) (getL 0 levels v5) boxes) fun v6 h109=>?_
      refine Wk [] 0 [] Wz

theorem view_read_ok (d':T_ucd_Data) (l':(List T_api_Row)) (from':Int) (to:Int) (boxes:Bool) (r:T_view_paragraph) (h:view_read d' l' from' to boxes=some r):PureFn Tryz.prog 32 [(.agg 6 (fun j=>(D_ucd_Data nvS d' j))),(.sl 4 (nvS.len l') false (fun ix jx=>(D_api_Row nvS (nvS.get d_api_Row l' ix) jx))),(.v (.int .i64 from')),(.v (.int .i64 to)),(.v (.bool boxes))] ((.agg 5 (fun j=>(D_view_paragraph nvS r j)))):=by
  obtain ⟨⟨d_Class_L⟩,⟨d_Wide_L⟩,⟨d_Join_L⟩,d_Mirror,d_Brackets,d_Forms⟩:=d'
  unfold view_read at h
  try dsimp only at h
  refine Wfn Tryz.func32 (bodyOf Tryz.f32) fun ctr hc=>?_
  refine Wo0 ?_
  refine Wo 18 1 (view_gather_ok (subL l' from' to)) fun v h2=>?_
  refine Wo 27 0 (weak_Paragraph_ok (T_ucd_Data.mk (T_ranges_Table.mk d_Class_L) (T_ranges_Table.mk d_Wide_L) (T_ranges_Table.mk d_Join_L) d_Mirror d_Brackets d_Forms) v (getL d_api_Row l' from').fDir) fun v1 h4=>?_
  obtain ⟨v1_0,v1_1⟩:=v1
  refine Wo 37 1 (shape_Glyphs_ok (T_ucd_Data.mk (T_ranges_Table.mk d_Class_L) (T_ranges_Table.mk d_Wide_L) (T_ranges_Table.mk d_Join_L) d_Mirror d_Brackets d_Forms) v v1_0 boxes) fun v2 h5=>?_
  refine Wk [] 0 [(2,[.freeze (.slot 11)])] Wz

theorem view_see_ok (d':T_ucd_Data) (l':(List T_api_Row)) (y':Int) (p':T_view_paragraph) (r:T_view_Line) (h:view_see d' l' y' p'=some r):PureFn Tryz.prog 31 [(.agg 6 (fun j=>(D_ucd_Data nvS d' j))),(.sl 4 (nvS.len l') false (fun ix jx=>(D_api_Row nvS (nvS.get d_api_Row l' ix) jx))),(.v (.int .i64 y')),(.agg 5 (fun j=>(D_view_paragraph nvS p' j)))] ((.agg 4 (fun j=>(D_view_Line nvS r j)))):=by
  obtain ⟨⟨d_Class_L⟩,⟨d_Wide_L⟩,⟨d_Join_L⟩,d_Mirror,d_Brackets,d_Forms⟩:=d'
  obtain ⟨p_from,p_to,p_levels,p_glyphs,p_base⟩:=p'
  unfold view_see at h
  try dsimp only at h
  refine Wfn Tryz.func31 (bodyOf Tryz.f31) fun ctr hc=>?_
  refine Wo0 ?_
  refine Wo 22 1 (view_gather_ok (subL l' p_from y')) fun v h2=>?_
  refine Wo 29 0 (view_letters_ok (getL d_api_Row l' y')) fun v1 h4=>?_
  obtain ⟨v1_0,v1_1⟩:=v1
  refine Wo 44 1 (order_Reset_ok (T_ucd_Data.mk (T_ranges_Table.mk d_Class_L) (T_ranges_Table.mk d_Wide_L) (T_ranges_Table.mk d_Join_L) d_Mirror d_Brackets d_Forms) v1_0 (subL p_levels (lenL v) ((lenL v)+(lenL v1_0))) p_base) fun v2 h7=>?_
  revert h
  refine Wjp 6 [] 0 [] (Wq ?_)
  intro h
  intros
  refine Wcut h (ctr+6) [(14,3),(36,30)] [(51,1)] (fun cells u=>⟨[],[(51,.arr (ctr+4) 7 (nvS.len (nvS.get d_api_Row l' y').fCells) (u.t 51) (fun ix jx=>(D_api_Cell nvS (nvS.get d_api_Cell cells ix) jx)))],fun _=>lenL cells=(lenL (getL d_api_Row l' y').fCells)⟩) (fun cells uc ug ut ht hu hp h=>?_) (fun f h=>?_)
  · try dsimp only at hp h
    refine Wo0 ?_
    refine Wo 88 0 (view_lay_ok cells v2 v1_1 p_base) fun v3 h31=>?_
    obtain ⟨v3_V2L,v3_L2V,v3_Cells,v3_Base⟩:=v3
    refine Wk [] 0 [(15,[.freeze (.slot 13),.freeze (.slot 12)])] Wz
  · revert h
    refine Wyp 1 [] 0 [] (Wq ?_)
    intro h
    intros
    refine Tr.block ?_
    refine Wlp h (ctr+7) [(14,3),(42,24)] [(16,1),(34,1)] (fun (n,v4,cells1) u1=>⟨[(14,.v (.int .i64 n)),(59,.v (.int .i64 v4))],[(51,.arr (ctr+4) 7 (nvS.len (nvS.get d_api_Row l' y').fCells) (u1.t 51) (fun ix jx=>(D_api_Cell nvS (nvS.get d_api_Cell cells1 ix) jx)))],fun _=>lenL cells1=(lenL (getL d_api_Row l' y').fCells)⟩) Wlay (fun x u1c u1g u1t f ht hu hp h=>?_)
    obtain ⟨n,v4,cells1⟩:=x
    try dsimp only at hp h
    refine Wx [] 0 [] Wz

theorem view_Chain_ok (l':(List T_api_Row)) (y':Int) (r:(Int × Int × Bool)) (h:view_Chain l' y'=some r):PureFn Tryz.prog 16 [(.sl 4 (nvS.len l') false (fun ix jx=>(D_api_Row nvS (nvS.get d_api_Row l' ix) jx))),(.v (.int .i64 y'))] (.tup 3 (fun j=>match j with | 0=>(.v (.int .i64 r.1)) | 1=>(.v (.int .i64 r.2.1)) | 2=>(.v (.bool r.2.2)) | _=>.junk)):=by
  unfold view_Chain at h
  refine Wfn Tryz.func16 (bodyOf Tryz.f16) fun ctr hc=>?_
  refine Wo0 ?_
  refine Wog 19 0 (!(if (decide (y' < 0))=true then true else (decide ((lenL l')≤y')))) (view_sane_ok l') false fun v h1=>?_
  refine Wo 25 0 (view_chain_ok l' y') fun v1 h2=>?_
  obtain ⟨v1_0,v1_1⟩:=v1
  refine Wk [] 0 [] Wz

theorem view_Paragraph_ok (d':T_ucd_Data) (l':(List T_api_Row)) (y':Int) (r:((List Int) × (List Int) × Int)) (h:view_Paragraph d' l' y'=some r):PureFn Tryz.prog 17 [(.agg 6 (fun j=>(D_ucd_Data nvS d' j))),(.sl 4 (nvS.len l') false (fun ix jx=>(D_api_Row nvS (nvS.get d_api_Row l' ix) jx))),(.v (.int .i64 y'))] (.tup 3 (fun j=>match j with | 0=>(.sl 1 (nvS.len r.1) false (fun ix jx=>(.v (.int .i64 (nvS.get 0 r.1 ix))))) | 1=>(.sl 1 (nvS.len r.2.1) false (fun ix jx=>(.v (.int .i64 (nvS.get 0 r.2.1 ix))))) | 2=>(.v (.int .i64 r.2.2)) | _=>.junk)):=by
  obtain ⟨⟨d_Class_L⟩,⟨d_Wide_L⟩,⟨d_Join_L⟩,d_Mirror,d_Brackets,d_Forms⟩:=d'
  unfold view_Paragraph at h
  try dsimp only at h
  refine Wfn Tryz.func17 (bodyOf Tryz.f17) fun ctr hc=>?_
  refine Wo0 ?_
  refine Wo 18 0 (view_Chain_ok l' y') fun v h1=>?_
  obtain ⟨v_0,v_1,v_2⟩:=v
  refine Wo 28 1 (view_gather_ok (subL l' v_0 v_1)) fun v1 h3=>?_
  refine Wo 37 0 (weak_Paragraph_ok (T_ucd_Data.mk (T_ranges_Table.mk d_Class_L) (T_ranges_Table.mk d_Wide_L) (T_ranges_Table.mk d_Join_L) d_Mirror d_Brackets d_Forms) v1 (getL d_api_Row l' v_0).fDir) fun v2 h5=>?_
  obtain ⟨v2_0,v2_1⟩:=v2
  refine Wk [] 0 [(5,[.freeze (.slot 12)])] Wz

theorem view_Map_ok (d':T_ucd_Data) (l':(List T_api_Row)) (y':Int) (boxes:Bool) (r:(T_view_Line × Bool)) (h:view_Map d' l' y' boxes=some r):PureFn Tryz.prog 11 [(.agg 6 (fun j=>(D_ucd_Data nvS d' j))),(.sl 4 (nvS.len l') false (fun ix jx=>(D_api_Row nvS (nvS.get d_api_Row l' ix) jx))),(.v (.int .i64 y')),(.v (.bool boxes))] (.tup 2 (fun j=>match j with | 0=>(.agg 4 (fun j=>(D_view_Line nvS r.1 j))) | 1=>(.v (.bool r.2)) | _=>.junk)):=by
  obtain ⟨⟨d_Class_L⟩,⟨d_Wide_L⟩,⟨d_Join_L⟩,d_Mirror,d_Brackets,d_Forms⟩:=d'
  unfold view_Map at h
  try dsimp only at h
  refine Wfn Tryz.func11 (bodyOf Tryz.f11) fun ctr hc=>?_
  refine Wo0 ?_
  refine Wog 22 0 (!(if (decide (y' < 0))=true then true else (decide ((lenL l')≤y')))) (view_sane_ok l') false fun v h1=>?_
  refine Wo 35 0 (view_fixed_ok (getL d_api_Row l' y')) fun v1 h4=>?_
  obtain ⟨v1_V2L,v1_L2V,v1_Cells,v1_Base⟩:=v1
  refine Wo 39 0 (view_chain_ok l' y') fun v2 h5=>?_
  obtain ⟨v2_0,v2_1⟩:=v2
  refine Wo 50 0 (view_read_ok (T_ucd_Data.mk (T_ranges_Table.mk d_Class_L) (T_ranges_Table.mk d_Wide_L) (T_ranges_Table.mk d_Join_L) d_Mirror d_Brackets d_Forms) l' v2_0 v2_1 boxes) fun v3 h6=>?_
  obtain ⟨v3_from,v3_to,v3_levels,v3_glyphs,v3_base⟩:=v3
  refine Wo 51 0 (view_see_ok (T_ucd_Data.mk (T_ranges_Table.mk d_Class_L) (T_ranges_Table.mk d_Wide_L) (T_ranges_Table.mk d_Join_L) d_Mirror d_Brackets d_Forms) l' y' (T_view_paragraph.mk v3_from v3_to v3_levels v3_glyphs v3_base)) fun v4 h7=>?_
  obtain ⟨v4_V2L,v4_L2V,v4_Cells,v4_Base⟩:=v4
  refine Wk [] 0 [] Wz

theorem view_All_ok (d':T_ucd_Data) (l':(List T_api_Row)) (boxes:Bool) (r:(List T_view_Line)) (h:view_All d' l' boxes=some r):PureFn Tryz.prog 19 [(.agg 6 (fun j=>(D_ucd_Data nvS d' j))),(.sl 4 (nvS.len l') false (fun ix jx=>(D_api_Row nvS (nvS.get d_api_Row l' ix) jx))),(.v (.bool boxes))] (.own 4 (nvS.len r) false (fun ix jx=>(D_view_Line nvS (nvS.get d_view_Line r ix) jx))):=by
  obtain ⟨⟨d_Class_L⟩,⟨d_Wide_L⟩,⟨d_Join_L⟩,d_Mirror,d_Brackets,d_Forms⟩:=d'
  unfold view_All at h
  try dsimp only at h
  refine Wfn Tryz.func19 (bodyOf Tryz.f19) fun ctr hc=>?_
  refine Wo0 ?_
  refine Wo 14 0 (view_sane_ok l') fun v h1=>?_
  revert h
  refine Wjp 4 [] 0 [] (Wq ?_)
  intro h
  intros
  refine Wcut h (ctr+4) [(9,4),(6,45)] [(8,1),(9,1)] (fun out u=>⟨[],[(18,.arr (ctr+2) 4 (nvS.len l') (u.t 18) (fun ix jx=>(D_view_Line nvS (nvS.get d_view_Line out ix) jx)))],fun _=>lenL out=(lenL l')⟩) (fun out uc ug ut ht hu hp h=>?_) (fun f h=>?_)
  · try dsimp only at hp h
    refine Wx [] 0 [] Wz
  · revert h
    refine Wyp 1 [] 0 [] (Wq ?_)
    intro h
    intros
    refine Tr.block ?_
    refine Wlp h (ctr+5) [(9,4),(8,43)] [(8,1),(9,1)] (fun (v1,out1,b8_0,b8_1,b8_2,b8_3,b8_4) u1=>⟨[(21,.v (.int .i64 v1))],[(8,.box (ctr+3) [.v (.int .i64 b8_0),.v (.int .i64 b8_1),.sl 1 (nvS.len b8_2) false (fun ix jx=>(.v (.int .i64 (nvS.get 0 b8_2 ix)))),.sl 1 (nvS.len b8_3) false (fun ix jx=>(.v (.int .i64 (nvS.get 0 b8_3 ix)))),.v (.int .i64 b8_4)]),(18,.arr (ctr+2) 4 (nvS.len l') (u1.t 18) (fun ix jx=>(D_view_Line nvS (nvS.get d_view_Line out1 ix) jx)))],fun _=>lenL out1=(lenL l')⟩) Wlay (fun x u1c u1g u1t f ht hu hp h=>?_)
    obtain ⟨v1,out1,b8_0,b8_1,b8_2,b8_3,b8_4⟩:=x
    try dsimp only at hp h
    revert h
    refine Wyp 2 [] 0 [] (Wq ?_)
    intro h
    intros
    refine Wcut h (u1c+1) [(9,4),(10,40)] [(8,1),(1,1),(7,1)] (fun (out2,b8_01,b8_11,b8_21,b8_31,b8_41) u2=>⟨[],[(8,.box (ctr+3) [.v (.int .i64 b8_01),.v (.int .i64 b8_11),.sl 1 (nvS.len b8_21) false (fun ix jx=>(.v (.int .i64 (nvS.get 0 b8_21 ix)))),.sl 1 (nvS.len b8_31) false (fun ix jx=>(.v (.int .i64 (nvS.get 0 b8_31 ix)))),.v (.int .i64 b8_41)]),(18,.arr (ctr+2) 4 (nvS.len l') (u2.t 18) (fun ix jx=>(D_view_Line nvS (nvS.get d_view_Line out2 ix) jx)))],fun _=>lenL out2=(lenL l')⟩) (fun x u2c u2g u2t ht hu hp h=>?_) (fun f h=>?_)
    · obtain ⟨out2,b8_01,b8_11,b8_21,b8_31,b8_41⟩:=x
      try dsimp only at hp h
      refine Wx [] 0 [] Wz
    · refine Tr.block ?_
      refine Wo0 ?_
      refine Wo 31 0 (view_fixed_ok (getL d_api_Row l' v1)) fun v2 h44=>?_
      obtain ⟨v2_V2L,v2_L2V,v2_Cells,v2_Base⟩:=v2
      revert h
      refine Wjp 2 [] 0 [] (Wq ?_)
      intro h
      intros
      refine Wcut h (u1c+3) [(11,2),(20,22)] [(8,1)] (fun (b8_02,b8_12,b8_22,b8_32,b8_42) u3=>Fa [] [(8,.box (ctr+3) [.v (.int .i64 b8_02),.v (.int .i64 b8_12),.sl 1 (nvS.len b8_22) false (fun ix jx=>(.v (.int .i64 (nvS.get 0 b8_22 ix)))),.sl 1 (nvS.len b8_32) false (fun ix jx=>(.v (.int .i64 (nvS.get 0 b8_32 ix)))),.v (.int .i64 b8_42)])]) (fun x u3c u3g u3t ht hu hp h=>?_) (fun f h=>?_)
      · obtain ⟨b8_02,b8_12,b8_22,b8_32,b8_42⟩:=x
        try dsimp only at hp h
        refine Wo0 ?_
        refine Wo 61 0 (view_see_ok (T_ucd_Data.mk (T_ranges_Table.mk d_Class_L) (T_ranges_Table.mk d_Wide_L) (T_ranges_Table.mk d_Join_L) d_Mirror d_Brackets d_Forms) l' v1 (T_view_paragraph.mk b8_02 b8_12 b8_22 b8_32 b8_42)) fun v3 h48=>?_
        obtain ⟨v3_V2L,v3_L2V,v3_Cells,v3_Base⟩:=v3
        refine Wk [] 0 [] Wz
      · refine Wo0 ?_
        refine Wo 36 0 (view_chain_ok l' v1) fun v4 h50=>?_
        obtain ⟨v4_0,v4_1⟩:=v4
        refine Wo 54 0 (view_read_ok (T_ucd_Data.mk (T_ranges_Table.mk d_Class_L) (T_ranges_Table.mk d_Wide_L) (T_ranges_Table.mk d_Join_L) d_Mirror d_Brackets d_Forms) l' v4_0 v4_1 boxes) fun v5 h51=>?_
        obtain ⟨v5_from,v5_to,v5_levels,v5_glyphs,v5_base⟩:=v5
        refine Wk [] 0 [] Wz

theorem view_Cursor_ok (x':T_view_Line) (at':Int) (r:Int) (h:view_Cursor x' at'=some r):PureFn Tryz.prog 14 [(.agg 4 (fun j=>(D_view_Line nvS x' j))),(.v (.int .i64 at'))] ((.v (.int .i64 r))):=by
  obtain ⟨x_V2L,x_L2V,x_Cells,x_Base⟩:=x'
  unfold view_Cursor at h
  try dsimp only at h
  refine Wfn Tryz.func14 (bodyOf Tryz.f14) fun ctr hc=>?_
  refine Wo0 ?_
  refine Wo 8 0 (view_place_ok x_L2V at') fun v h1=>?_
  refine Wk [] 0 [] Wz

theorem view_Back_ok (x':T_view_Line) (at':Int) (r:Int) (h:view_Back x' at'=some r):PureFn Tryz.prog 15 [(.agg 4 (fun j=>(D_view_Line nvS x' j))),(.v (.int .i64 at'))] ((.v (.int .i64 r))):=by
  obtain ⟨x_V2L,x_L2V,x_Cells,x_Base⟩:=x'
  unfold view_Back at h
  try dsimp only at h
  refine Wfn Tryz.func15 (bodyOf Tryz.f15) fun ctr hc=>?_
  refine Wo0 ?_
  refine Wo 8 0 (view_place_ok x_V2L at') fun v h1=>?_
  refine Wk [] 0 [] Wz

theorem lapwingref07_Parts_ok (c':Int) (r:(Int × Int × Int × Int)) (h:lapwingref07_Parts c'=some r):PureFn Tryz.prog 137 [(.v (.int .i64 c'))] (.tup 4 (fun j=>match j with | 0=>(.v (.int .i64 r.1)) | 1=>(.v (.int .i64 r.2.1)) | 2=>(.v (.int .i64 r.2.2.1)) | 3=>(.v (.int .i64 r.2.2.2)) | _=>.junk)):=by
  unfold lapwingref07_Parts at h
  refine Wfn Tryz.func137 (bodyOf Tryz.f137) fun ctr hc=>?_
  refine Wx [] 0 [] Wz

theorem lapwingref07_Sane_ok (p':T_api_Pen) (r:Bool) (h:lapwingref07_Sane p'=some r):PureFn Tryz.prog 110 [(.agg 3 (fun j=>(D_api_Pen nvS p' j)))] ((.v (.bool r))):=by
  obtain ⟨p_Fg,p_Bg,p_Flags⟩:=p'
  unfold lapwingref07_Sane at h
  try dsimp only at h
  refine Wfn Tryz.func110 (bodyOf Tryz.f110) fun ctr hc=>?_
  refine Wo0 ?_
  refine Wo 14 0 (lapwingref07_Parts_ok p_Fg) fun v h1=>?_
  obtain ⟨v_0,v_1,v_2,v_3⟩:=v
  refine Wo 22 0 (lapwingref07_Parts_ok p_Bg) fun v1 h2=>?_
  obtain ⟨v1_0,v1_1,v1_2,v1_3⟩:=v1
  refine Wk [] 0 [] Wz

theorem lapwingref08_Blank_ok (p':T_api_Pen) (r:T_api_Cell) (h:lapwingref08_Blank p'=some r):PureFn Tryz.prog 111 [(.agg 3 (fun j=>(D_api_Pen nvS p' j)))] ((.agg 7 (fun j=>(D_api_Cell nvS r j)))):=by
  obtain ⟨p_Fg,p_Bg,p_Flags⟩:=p'
  unfold lapwingref08_Blank at h
  try dsimp only at h
  refine Wfn Tryz.func111 (bodyOf Tryz.f111) fun ctr hc=>?_
  refine Wx [] 0 [] Wz

theorem lapwingref08_letter_ok (r':Int) (r:Bool) (h:lapwingref08_letter r'=some r):PureFn Tryz.prog 109 [(.v (.int .i64 r'))] ((.v (.bool r))):=by
  unfold lapwingref08_letter at h
  refine Wfn Tryz.func109 (bodyOf Tryz.f109) fun ctr hc=>?_
  refine Wx [] 0 [] Wz

theorem lapwingref08_with_ok (r':T_api_Row) (l':(List T_api_Cell)) (r:T_api_Row) (h:lapwingref08_with r' l'=some r):PureFn Tryz.prog 112 [(.agg 4 (fun j=>(D_api_Row nvS r' j))),(.sl 7 (nvS.len l') false (fun ix jx=>(D_api_Cell nvS (nvS.get d_api_Cell l' ix) jx)))] ((.agg 4 (fun j=>(D_api_Row nvS r j)))):=by
  obtain ⟨r_Cells,r_Wrap,r_Dir,r_Explicit⟩:=r'
  unfold lapwingref08_with at h
  try dsimp only at h
  refine Wfn Tryz.func112 (bodyOf Tryz.f112) fun ctr hc=>?_
  refine Wx [] 0 [] Wz

theorem lapwingref08_Cells_ok (a:(List T_api_Cell)) (b:(List T_api_Cell)) (r:Bool) (h:lapwingref08_Cells a b=some r):PureFn Tryz.prog 13 [(.sl 7 (nvS.len a) false (fun ix jx=>(D_api_Cell nvS (nvS.get d_api_Cell a ix) jx))),(.sl 7 (nvS.len b) false (fun ix jx=>(D_api_Cell nvS (nvS.get d_api_Cell b ix) jx)))] ((.v (.bool r))):=by
  unfold lapwingref08_Cells at h
  refine Wfn Tryz.func13 (bodyOf Tryz.f13) fun ctr hc=>?_
  revert h
  refine Wyp 2 [] 0 [] (Wq ?_)
  intro h
  intros
  refine Wcut h (ctr+2) [(4,2),(5,15)] [] (fun _ u=>Fa [] []) (fun x uc ug ut ht hu hp h=>?_) (fun f h=>?_)
  · refine Wx [] 0 [] Wz
  · revert h
    refine Wyp 1 [] 0 [] (Wq ?_)
    intro h
    intros
    refine Tr.block ?_
    refine Wlp h (ctr+3) [(4,2),(5,15)] [] (fun i u1=>Fa [(5,.v (.int .i64 i))] []) Wlay (fun i u1c u1g u1t f ht hu hp h=>?_)
    refine Wx [] 0 [] Wz

theorem lapwingref08_Same_ok (a:T_api_Row) (b:T_api_Row) (r:Bool) (h:lapwingref08_Same a b=some r):PureFn Tryz.prog 63 [(.agg 4 (fun j=>(D_api_Row nvS a j))),(.agg 4 (fun j=>(D_api_Row nvS b j)))] ((.v (.bool r))):=by
  obtain ⟨a_Cells,a_Wrap,a_Dir,a_Explicit⟩:=a
  obtain ⟨b_Cells,b_Wrap,b_Dir,b_Explicit⟩:=b
  unfold lapwingref08_Same at h
  try dsimp only at h
  refine Wfn Tryz.func63 (bodyOf Tryz.f63) fun ctr hc=>?_
  refine Wo0 ?_
  refine Wo 9 0 (lapwingref08_Cells_ok a_Cells b_Cells) fun v h1=>?_
  refine Wk [] 0 [] Wz

theorem lapwingref08_one_ok (c':T_api_Cell) (r:Bool) (h:lapwingref08_one c'=some r):PureFn Tryz.prog 62 [(.agg 7 (fun j=>(D_api_Cell nvS c' j)))] ((.v (.bool r))):=by
  obtain ⟨c_R,⟨c_M_x0,c_M_x1⟩,c_W,⟨c_Pen_Fg,c_Pen_Bg,c_Pen_Flags⟩⟩:=c'
  unfold lapwingref08_one at h
  try dsimp only at h
  refine Wfn Tryz.func62 (bodyOf Tryz.f62) fun ctr hc=>?_
  refine Wo0 ?_
  refine Wog 14 0 (!(if (decide (c_W < 0))=true then true else (decide (2 < c_W)))) (lapwingref08_letter_ok c_R) false fun v h1=>?_
  refine Wog 21 0 (!(if (if (decide (c_W < 0))=true then true else (decide (2 < c_W)))=true then true else (!v))) (lapwingref08_letter_ok c_M_x0) false fun v1 h2=>?_
  refine Wog 28 0 (!(if (if (if (decide (c_W < 0))=true then true else (decide (2 < c_W)))=true then true else (!v))=true then true else (!v1))) (lapwingref08_letter_ok c_M_x1) false fun v2 h3=>?_
  refine Wog 34 0 (!(if (if (if (if (decide (c_W < 0))=true then true else (decide (2 < c_W)))=true then true else (!v))=true then true else (!v1))=true then true else (!v2))) (lapwingref07_Sane_ok (T_api_Pen.mk c_Pen_Fg c_Pen_Bg c_Pen_Flags)) false fun v3 h4=>?_
  refine Wk [] 0 [] Wz

theorem lapwingref08_Mend_ok (r':T_api_Row) (r:T_api_Row) (h:lapwingref08_Mend r'=some r):PureFn Tryz.prog 64 [(.agg 4 (fun j=>(D_api_Row nvS r' j)))] ((.agg 4 (fun j=>(D_api_Row nvS r j)))):=by
  obtain ⟨r_Cells,r_Wrap,r_Dir,r_Explicit⟩:=r'
  unfold lapwingref08_Mend at h
  try dsimp only at h
  refine Wfn Tryz.func64 (bodyOf Tryz.f64) fun ctr hc=>?_
  revert h
  refine Wyp 2 [5,8] 0 [] (Wq ?_)
  intro h
  intros
  refine Wcut h (ctr+2) [(4,1),(4,58)] [(8,1)] (fun l' u=>⟨[],[(8,.arr (ctr+1) 7 (nvS.len r_Cells) (u.t 8) (fun ix jx=>(D_api_Cell nvS (nvS.get d_api_Cell l' ix) jx)))],fun _=>lenL l'=(lenL r_Cells)⟩) (fun l' uc ug ut ht hu hp h=>?_) (fun f h=>?_)
  · try dsimp only at hp h
    refine Wo0 ?_
    refine Wo 69 0 (lapwingref08_with_ok (T_api_Row.mk r_Cells r_Wrap r_Dir r_Explicit) l') fun v h26=>?_
    obtain ⟨v_Cells,v_Wrap,v_Dir,v_Explicit⟩:=v
    refine Wk [] 0 [(7,[.freeze (.slot 3)])] Wz
  · revert h
    refine Wyp 1 [] 0 [] (Wq ?_)
    intro h
    intros
    refine Tr.block ?_
    refine Wlp h (ctr+3) [(4,1),(4,58)] [(8,1)] (fun (i,l'1) u1=>⟨[(4,.v (.int .i64 i))],[(8,.arr (ctr+1) 7 (nvS.len r_Cells) (u1.t 8) (fun ix jx=>(D_api_Cell nvS (nvS.get d_api_Cell l'1 ix) jx)))],fun _=>lenL l'1=(lenL r_Cells)⟩) Wlay (fun x u1c u1g u1t f ht hu hp h=>?_)
    obtain ⟨i,l'1⟩:=x
    try dsimp only at hp h
    refine Wo0 ?_
    refine Wo 65 0 (lapwingref08_Blank_ok (getL d_api_Cell l'1 (0+i)).fPen) fun v1 h59=>?_
    obtain ⟨v1_R,⟨v1_M_x0,v1_M_x1⟩,v1_W,⟨v1_Pen_Fg,v1_Pen_Bg,v1_Pen_Flags⟩⟩:=v1
    refine Wk [] 0 [] Wz

theorem lapwingref08_Sane_ok (r':T_api_Row) (r:Bool) (h:lapwingref08_Sane r'=some r):PureFn Tryz.prog 38 [(.agg 4 (fun j=>(D_api_Row nvS r' j)))] ((.v (.bool r))):=by
  obtain ⟨r_Cells,r_Wrap,r_Dir,r_Explicit⟩:=r'
  unfold lapwingref08_Sane at h
  try dsimp only at h
  refine Wfn Tryz.func38 (bodyOf Tryz.f38) fun ctr hc=>?_
  revert h
  refine Wyp 1 [] 0 [] (Wq ?_)
  intro h
  intros
  refine Wcut h (ctr+1) [(2,16)] [] (fun _ u=>Fa [] []) (fun x uc ug ut ht hu hp h=>?_) (fun f h=>?_)
  · refine Wo0 ?_
    refine Wog 40 0 (if (if (if (decide (1≤(lenL r_Cells)))=true then (decide ((lenL r_Cells)≤4096)) else false)=true then (decide (0≤r_Dir)) else false)=true then (decide (r_Dir≤2)) else false) (lapwingref08_Mend_ok (T_api_Row.mk r_Cells r_Wrap r_Dir r_Explicit)) d_api_Row fun v h7=>?_
    obtain ⟨v_Cells,v_Wrap,v_Dir,v_Explicit⟩:=v
    refine Wog 42 0 (if (if (if (decide (1≤(lenL r_Cells)))=true then (decide ((lenL r_Cells)≤4096)) else false)=true then (decide (0≤r_Dir)) else false)=true then (decide (r_Dir≤2)) else false) (lapwingref08_Same_ok (T_api_Row.mk v_Cells v_Wrap v_Dir v_Explicit) (T_api_Row.mk r_Cells r_Wrap r_Dir r_Explicit)) false fun v1 h8=>?_
    refine Wk [] 0 [] Wz
  · revert h
    refine Wyp 1 [] 0 [] (Wq ?_)
    intro h
    intros
    refine Tr.block ?_
    refine Wlp h (ctr+2) [(2,16)] [] (fun i u1=>Fa [(3,.v (.int .i64 i))] []) Wlay (fun i u1c u1g u1t f ht hu hp h=>?_)
    refine Wo0 ?_
    refine Wo 16 0 (lapwingref08_one_ok (getL d_api_Cell r_Cells i)) fun v2 h16=>?_
    refine Wk [] 0 [] Wz

theorem lapwingref09_Sane_ok (g':T_lapwingref09_Grid) (r:Bool) (h:lapwingref09_Sane g'=some r):PureFn Tryz.prog 20 [(.agg 1 (fun j=>(D_lapwingref09_Grid nvS g' j)))] ((.v (.bool r))):=by
  obtain ⟨g_Rows⟩:=g'
  unfold lapwingref09_Sane at h
  try dsimp only at h
  refine Wfn Tryz.func20 (bodyOf Tryz.f20) fun ctr hc=>?_
  revert h
  refine Wyp 1 [] 0 [] (Wq ?_)
  intro h
  intros
  refine Wcut h (ctr+1) [(2,32)] [] (fun _ u=>Fa [] []) (fun x uc ug ut ht hu hp h=>?_) (fun f h=>?_)
  · refine Wx [] 0 [] Wz
  · revert h
    refine Wyp 1 [] 0 [] (Wq ?_)
    intro h
    intros
    refine Tr.block ?_
    refine Wlp h (ctr+2) [(2,32)] [] (fun i u1=>Fa [(3,.v (.int .i64 i))] []) Wlay (fun i u1c u1g u1t f ht hu hp h=>?_)
    refine Wo0 ?_
    refine Wo 16 0 (lapwingref08_Sane_ok (getL d_api_Row g_Rows i)) fun v h22=>?_
    refine Wk [] 0 [] Wz

theorem lapwingref09_Few_ok (l':(List T_api_Row)) (r:Bool) (h:lapwingref09_Few l'=some r):PureFn Tryz.prog 9 [(.sl 4 (nvS.len l') false (fun ix jx=>(D_api_Row nvS (nvS.get d_api_Row l' ix) jx)))] ((.v (.bool r))):=by
  unfold lapwingref09_Few at h
  refine Wfn Tryz.func9 (bodyOf Tryz.f9) fun ctr hc=>?_
  revert h
  refine Wyp 2 [] 0 [] (Wq ?_)
  intro h
  intros
  refine Wcut h (ctr+2) [(2,2),(3,13)] [] (fun _ u=>Fa [] []) (fun x uc ug ut ht hu hp h=>?_) (fun f h=>?_)
  · refine Wx [] 0 [] Wz
  · revert h
    refine Wyp 1 [] 0 [] (Wq ?_)
    intro h
    intros
    refine Tr.block ?_
    refine Wlp h (ctr+3) [(2,2),(3,13)] [] (fun i u1=>Fa [(3,.v (.int .i64 i))] []) Wlay (fun i u1c u1g u1t f ht hu hp h=>?_)
    refine Wx [] 0 [] Wz

theorem lapwinglaw21_awake_ok  (r:Bool) (h:lapwinglaw21_awake=some r):PureFn Tryz.prog 8 [] ((.v (.bool r))):=by
  unfold lapwinglaw21_awake at h
  refine Wfn Tryz.func8 (bodyOf Tryz.f8) fun ctr hc=>?_
  refine Wo0 ?_
  refine Wo 11 0 (ucd_Load_ok) fun v h1=>?_
  obtain ⟨⟨v_Class_L⟩,⟨v_Wide_L⟩,⟨v_Join_L⟩,v_Mirror,v_Brackets,v_Forms⟩:=v
  refine Wo 14 0 (view_Map_ok (T_ucd_Data.mk (T_ranges_Table.mk v_Class_L) (T_ranges_Table.mk v_Wide_L) (T_ranges_Table.mk v_Join_L) v_Mirror v_Brackets v_Forms) ([(T_api_Row.mk ([(T_api_Cell.mk 97 d_Arr2_i64 1 d_api_Pen),(T_api_Cell.mk 1488 d_Arr2_i64 1 d_api_Pen),(T_api_Cell.mk 1489 d_Arr2_i64 1 d_api_Pen),(T_api_Cell.mk 0 d_Arr2_i64 1 d_api_Pen)]:List T_api_Cell) false 0 false)]:List T_api_Row) 0 false) fun v1 h2=>?_
  obtain ⟨⟨v1_0_V2L,v1_0_L2V,v1_0_Cells,v1_0_Base⟩,v1_1⟩:=v1
  refine Wog 20 0 v1_1 (row_Sane_ok (T_api_Row.mk ([(T_api_Cell.mk 97 d_Arr2_i64 1 d_api_Pen),(T_api_Cell.mk 1488 d_Arr2_i64 1 d_api_Pen),(T_api_Cell.mk 1489 d_Arr2_i64 1 d_api_Pen),(T_api_Cell.mk 0 d_Arr2_i64 1 d_api_Pen)]:List T_api_Cell) false 0 false)) false fun v2 h3=>?_
  refine Wog 26 0 (if v1_1=true then v2 else false) (lapwingref03_Ints_ok v1_0_V2L ([0,2,1,3]:List Int)) false fun v3 h4=>?_
  refine Wog 44 0 (if (if (if (if v1_1=true then v2 else false)=true then v3 else false)=true then ((lenL v1_0_Cells) == 4) else false)=true then ((getL d_api_Cell v1_0_Cells 1).fR == 1489) else false) (view_Cursor_ok (T_view_Line.mk v1_0_V2L v1_0_L2V v1_0_Cells v1_0_Base) 1) 0 fun v4 h6=>?_
  refine Wk [8,13,25] 0 [] Wz
end Go.Vx
