/- Walks, by program (lift5.py): the code does what the lifted functions say. -/
import Derived.Test.YtmkigppfdmghnaaGreatDoorIWalkPr
import Derived.Test.YtmkigppfdmghnaaGreatDoorIWb2
import Derived.Test.YtmkigppfdmghnaaGreatDoorIWb3
import Derived.Test.YtmkigppfdmghnaaGreatDoorIWb4
import Derived.Test.YtmkigppfdmghnaaGreatDoorIWb6
import Derived.Test.YtmkigppfdmghnaaGreatDoorIWb7
import Derived.Test.YtmkigppfdmghnaaGreatDoorIWb8
set_option linter.all false
namespace Go.Vx
open Go.Proofs
set_option maxRecDepth 100000
set_option maxHeartbeats 8000000
set_option linter.unusedVariables false
set_option linter.unusedSimpArgs false
attribute [local irreducible] chk iteO bindO cutO nilO

theorem V_stepV_ok (v:FV) (a0:T_api_Row) (r:T_api_Row) (h:V_stepV v a0=some r):PureFn Tryz.prog (nvS.fF v) ([(.agg 4 (fun j=>(D_api_Row nvS a0 j)))]++cellsOf (nvS.fK v) (nvS.fC v)) ((.agg 4 (fun j=>(D_api_Row nvS r j)))):=by
  unfold V_stepV at h
  split at h
  · exact screen_wraps_1_ok a0 _ r h
  · exact screen_erased_1_ok a0 _ _ _ _ _ r h
  · exact screen_inserted_1_ok a0 _ _ _ _ _ _ r h
  · exact screen_Print_1_ok a0 _ _ _ _ _ _ _ _ _ r h
  · exact screen_Mark_1_ok a0 _ _ r h
  · cases h


theorem screen_onRow_ok (s:T_screen_Screen) (steps:(List FV)) (r:T_screen_Screen) (h:screen_onRow s steps=some r):PureFn Tryz.prog 149 [(.agg 25 (fun j=>(D_screen_Screen nvS s j))),(.sl 1 (nvS.len steps) false (fun ix jx=>(.fn (.func (nvS.fF (nvS.get d_FV steps ix))) (nvS.fK (nvS.get d_FV steps ix)) (nvS.fC (nvS.get d_FV steps ix)))))] ((.agg 25 (fun j=>(D_screen_Screen nvS r j)))):=by
  obtain ⟨⟨q⟩,⟨q1,q2,q3,q4,⟨q5,q6,q7⟩,⟨⟨q8,q9,q10,q11⟩,q12,q13,q14⟩⟩,⟨q15,q16,q17,q18⟩,⟨q19,q20⟩,⟨q21,q22⟩,q23,q24⟩:=s
  unfold screen_onRow at h
  try dsimp only at h
  refine Wfn Tryz.func149 (bodyOf Tryz.f149) fun ctr hc=>?_
  revert h
  refine Wyp 2 [] 0 [] (Wq ?_)
  intro h
  intros
  refine Wcut h (ctr+2) [(7,1),(8,10)] [(5,1)] (fun r' u=>Fa [] [(5,.box (ctr+1) (cellsOf 4 fun j=>(D_api_Row nvS r' j)))]) (fun r' uc ug ut ht hu hp h=>?_) (fun f h=>?_)
  · refine Wo0 ?_
    refine Wo 32 0 (grid_Set_ok ⟨q⟩ q2 r') fun v h8=>?_
    refine Wk [] 0 [] Wz
  · revert h
    refine Wyp 1 [] 0 [] (Wq ?_)
    intro h
    intros
    refine Tr.block ?_
    refine Wlp h (ctr+3) [(7,1),(10,8)] [(5,1)] (fun (v1,r'1) u1=>Fa [(18,.v (.int .i64 v1))] [(5,.box (ctr+1) (cellsOf 4 fun j=>(D_api_Row nvS r'1 j)))]) Wlay (fun x u1c u1g u1t f ht hu hp h=>?_)
    obtain ⟨v1,r'1⟩:=x
    try dsimp only at hp h
    refine Wo0 ?_
    refine Wiv 24 h (sT (sC sB)) (V_stepV_ok _ _) fun v2 h16=>?_
    refine Wk [] 0 [] Wz

theorem screen_Mark_ok (s:T_screen_Screen) (m:Int) (r:T_screen_Screen) (h:screen_Mark s m=some r):PureFn Tryz.prog 66 [(.agg 25 (fun j=>(D_screen_Screen nvS s j))),(.v (.int .i64 m))] ((.agg 25 (fun j=>(D_screen_Screen nvS r j)))):=by
  obtain ⟨⟨q⟩,⟨q1,q2,q3,q4,⟨q5,q6,q7⟩,⟨⟨q8,q9,q10,q11⟩,q12,q13,q14⟩⟩,⟨q15,q16,q17,q18⟩,⟨q19,q20⟩,⟨q21,q22⟩,q23,q24⟩:=s
  unfold screen_Mark at h
  try dsimp only at h
  refine Wfn Tryz.func66 (bodyOf Tryz.f66) fun ctr hc=>?_
  refine Wo0 ?_
  refine Wi 7 0 h sB (screen_Sane_ok _) fun v h1=>?_
  revert h
  refine Wjp 3 [] 0 [] (Wq ?_)
  intro h
  intros
  refine Wcut h (ctr+3) [(13,6)] [(5,1)] (fun b5_0 u=>Fa [] [(5,.box (ctr+2) [.v (.int .i64 b5_0)])]) (fun b5_0 uc ug ut ht hu hp h=>?_) (fun f h=>?_)
  · refine Wcut h uc [(19,3)] [] (fun _ u1=>Fa [] []) (fun x u1c u1g u1t ht hu hp h=>?_) (fun f h=>?_)
    · refine Wo0 ?_
      refine Wi 25 8 h sB (screen_onRow_ok _ _) fun v1 h3=>?_
      refine Wk [24] 0 [] Wz
    · refine Wx [] 0 [] Wz
  · refine Wx [] 0 [] Wz

theorem grid_Up_ok (g':T_grid_Grid) (top:Int) (bottom:Int) (n:Int) (p':T_api_Pen) (r:(T_grid_Grid × (List T_api_Row))) (h:grid_Up g' top bottom n p'=some r):PureFn Tryz.prog 183 [(.agg 1 (fun j=>(D_grid_Grid nvS g' j))),(.v (.int .i64 top)),(.v (.int .i64 bottom)),(.v (.int .i64 n)),(.agg 3 (fun j=>(D_api_Pen nvS p' j)))] (.tup 2 (fun j=>match j with | 0=>(.agg 1 (fun j=>(D_grid_Grid nvS r.1 j))) | 1=>(.sl 4 (nvS.len r.2) false (fun ix jx=>(D_api_Row nvS (nvS.get d_api_Row r.2 ix) jx))) | _=>.junk)):=by
  obtain ⟨q⟩:=g'
  unfold grid_Up at h
  try dsimp only at h
  refine Wfn Tryz.func183 (bodyOf Tryz.f183) fun ctr hc=>?_
  refine Wo0 ?_
  refine Wi 20 0 h sB (grid_moves_ok _ _ _ _) fun v h1=>?_
  refine Wo 30 1 (grid_rows_ok ⟨q⟩) fun v1 h3=>?_
  revert h
  refine Wjp 5 [] 0 [] (Wq ?_)
  intro h
  intros
  refine Wcut h (ctr+5) [(13,2),(16,15)] [(44,1)] (fun gone u=>Fa [(13,.vec 44 (u.g 44) 4 0 (nvS.len gone))] [(44,.arr (u.g 44) 4 (nvS.len gone) (u.t 44) (fun ix jx=>(D_api_Row nvS (nvS.get d_api_Row gone ix) jx)))]) (fun gone uc ug ut ht hu hp h=>?_) (fun f h=>?_)
  · refine Wcut h uc [(15,1),(30,23)] [(30,1)] (fun l' u1=>⟨[],[(30,.arr (ctr+3) 4 (nvS.len v1) (u1.t 30) (fun ix jx=>(D_api_Row nvS (nvS.get d_api_Row l' ix) jx)))],fun _=>lenL l'=(lenL v1)⟩) (fun l' u1c u1g u1t ht hu hp h=>?_) (fun f h=>?_)
    · try dsimp only at hp h
      refine Wo0 ?_
      refine Wol 82 (fun r h=>grid_lay_ok l' (0+(bottom-(imaxI 0 (iminI n (bottom-top))))) (bottom-(bottom-(imaxI 0 (iminI n (bottom-top))))) (lenL (getL d_api_Row q 0).fCells) p' r h ((nvS.len v1)) Wy (u1t 30)) fun v2 h29=>?_
      refine Wk [] 0 [] Wz
    · revert h
      refine Wyp 1 [] 0 [] (Wq ?_)
      intro h
      intros
      refine Tr.block ?_
      refine Wlp h (uc+1) [(15,1),(35,18)] [(30,1)] (fun (v3,l'1) u2=>⟨[(51,.v (.int .i64 v3))],[(30,.arr (ctr+3) 4 (nvS.len v1) (u2.t 30) (fun ix jx=>(D_api_Row nvS (nvS.get d_api_Row l'1 ix) jx)))],fun _=>lenL l'1=(lenL v1)⟩) Wlay (fun x u2c u2g u2t f ht hu hp h=>?_)
      obtain ⟨v3,l'1⟩:=x
      try dsimp only at hp h
      refine Wx [] 0 [] Wz
  · revert h
    refine Wyp 1 [] 0 [] (Wq ?_)
    intro h
    intros
    refine Tr.block ?_
    refine Wlp h (ctr+6) [(13,2),(17,14)] [(44,1)] (fun (v4,gone1) u3=>Fa [(13,.vec 44 (u3.g 44) 4 0 (nvS.len gone1)),(32,.v (.int .i64 v4))] [(44,.arr (u3.g 44) 4 (nvS.len gone1) (u3.t 44) (fun ix jx=>(D_api_Row nvS (nvS.get d_api_Row gone1 ix) jx)))]) Wlay (fun x u3c u3g u3t f ht hu hp h=>?_)
    obtain ⟨v4,gone1⟩:=x
    try dsimp only at hp h
    refine Wx [43] 0 [] Wz

theorem screen_up_ok (s:T_screen_Screen) (n:Int) (r:T_screen_Screen) (h:screen_up s n=some r):PureFn Tryz.prog 188 [(.agg 25 (fun j=>(D_screen_Screen nvS s j))),(.v (.int .i64 n))] ((.agg 25 (fun j=>(D_screen_Screen nvS r j)))):=by
  obtain ⟨⟨q⟩,⟨q1,q2,q3,q4,⟨q5,q6,q7⟩,⟨⟨q8,q9,q10,q11⟩,q12,q13,q14⟩⟩,⟨q15,q16,q17,q18⟩,⟨q19,q20⟩,⟨q21,q22⟩,q23,q24⟩:=s
  unfold screen_up at h
  try dsimp only at h
  refine Wfn Tryz.func188 (bodyOf Tryz.f188) fun ctr hc=>?_
  refine Wo0 ?_
  refine Wi 18 0 h sB (screen_ground_ok _) fun v h1=>?_
  refine Wo 19 0 (grid_Up_ok ⟨q⟩ q17 q18 n v) fun v1 h2=>?_
  obtain ⟨⟨q25⟩,q26⟩:=v1
  refine Wo 31 0 (history_Push_ok ⟨q21,q22⟩ q26) fun v2 h3=>?_
  refine Wk [] 0 [] Wz

theorem screen_down_ok (s:T_screen_Screen) (r:T_screen_Screen) (h:screen_down s=some r):PureFn Tryz.prog 220 [(.agg 25 (fun j=>(D_screen_Screen nvS s j)))] ((.agg 25 (fun j=>(D_screen_Screen nvS r j)))):=by
  obtain ⟨⟨q⟩,⟨q1,q2,q3,q4,⟨q5,q6,q7⟩,⟨⟨q8,q9,q10,q11⟩,q12,q13,q14⟩⟩,⟨q15,q16,q17,q18⟩,⟨q19,q20⟩,⟨q21,q22⟩,q23,q24⟩:=s
  unfold screen_down at h
  try dsimp only at h
  refine Wfn Tryz.func220 (bodyOf Tryz.f220) fun ctr hc=>?_
  refine Wo0 ?_
  refine Wi 14 0 h (sC (sT sB)) (screen_up_ok _ _) fun v h2=>?_
  refine Wk [] 0 [] Wz

theorem screen_next_ok (s:T_screen_Screen) (r:T_screen_Screen) (h:screen_next s=some r):PureFn Tryz.prog 152 [(.agg 25 (fun j=>(D_screen_Screen nvS s j)))] ((.agg 25 (fun j=>(D_screen_Screen nvS r j)))):=by
  unfold screen_next at h
  refine Wfn Tryz.func152 (bodyOf Tryz.f152) fun ctr hc=>?_
  refine Wo0 ?_
  refine Wo 4 0 (screen_wraps_ok true) fun v h1=>?_
  refine Wi 6 0 h (sK v sB) (screen_onRow_ok _ _) fun v1 h2=>?_
  refine Wo 7 0 (screen_down_ok v1) fun v2 h3=>?_
  refine Wk [5] 0 [] Wz

theorem screen_eraseLine_ok (s:T_screen_Screen) (kind:Int) (r:T_screen_Screen) (h:screen_eraseLine s kind=some r):PureFn Tryz.prog 179 [(.agg 25 (fun j=>(D_screen_Screen nvS s j))),(.v (.int .i64 kind))] ((.agg 25 (fun j=>(D_screen_Screen nvS r j)))):=by
  obtain ⟨⟨q⟩,⟨q1,q2,q3,q4,⟨q5,q6,q7⟩,⟨⟨q8,q9,q10,q11⟩,q12,q13,q14⟩⟩,⟨q15,q16,q17,q18⟩,⟨q19,q20⟩,⟨q21,q22⟩,q23,q24⟩:=s
  unfold screen_eraseLine at h
  try dsimp only at h
  refine Wfn Tryz.func179 (bodyOf Tryz.f179) fun ctr hc=>?_
  refine Wo0 ?_
  refine Wi 7 0 h sB (screen_ground_ok _) fun v h1=>?_
  refine Wo 20 0 (screen_erased_ok q1 q16 v) fun v1 h2=>?_
  refine Wo 21 0 (screen_wraps_ok false) fun v2 h3=>?_
  refine Wi 23 0 h (sK v (sT (sK v1 (sK v2 sB)))) (screen_onRow_ok _ _) fun v3 h4=>?_
  refine Wo 32 0 (screen_erased_ok 0 (q1+1) v) fun v4 h6=>?_
  refine Wi 34 0 h (sK v (sF (sT (sC (sK v4 sB))))) (screen_onRow_ok _ _) fun v5 h7=>?_
  refine Wo 42 0 (screen_erased_ok 0 q16 v) fun v6 h8=>?_
  refine Wod 43 0 h3 ?_
  refine Wi 45 0 h (sK v (sF (sF (sT (sK v6 (sK v2 sB)))))) (screen_onRow_ok _ _) fun v7 h9=>?_
  refine Wk [22,33,44] 0 [] Wz

theorem screen_Erase_ok (s:T_screen_Screen) (kind:Int) (r:T_screen_Screen) (h:screen_Erase s kind=some r):PureFn Tryz.prog 99 [(.agg 25 (fun j=>(D_screen_Screen nvS s j))),(.v (.int .i64 kind))] ((.agg 25 (fun j=>(D_screen_Screen nvS r j)))):=by
  unfold screen_Erase at h
  refine Wfn Tryz.func99 (bodyOf Tryz.f99) fun ctr hc=>?_
  refine Wo0 ?_
  refine Wo 7 0 (screen_Sane_ok s) fun v h1=>?_
  refine Wo 11 0 (screen_ground_ok s) fun v1 h2=>?_
  refine Wo 17 0 (screen_eraseLine_ok s 0) fun v2 h3=>?_
  obtain ⟨⟨q⟩,⟨q1,q2,q3,q4,⟨q5,q6,q7⟩,⟨⟨q8,q9,q10,q11⟩,q12,q13,q14⟩⟩,⟨q15,q16,q17,q18⟩,⟨q19,q20⟩,⟨q21,q22⟩,q23,q24⟩:=v2
  refine Wo 28 0 (grid_Clear_ok ⟨q⟩ (q2+1) q15 v1) fun v3 h5=>?_
  refine Wo 33 0 (screen_eraseLine_ok s 1) fun v4 h6=>?_
  refine Wo 40 0 (grid_Clear_ok v4.fG 0 v4.fC.fY v1) fun v5 h7=>?_
  refine Wo 50 0 (grid_Clear_ok s.fG 0 s.fR.fH v1) fun v6 h8=>?_
  refine Wo 57 0 (history_New_ok s.fK.fCap) fun v7 h9=>?_
  refine Wk [] 0 [] Wz

theorem screen_EraseLine_ok (s:T_screen_Screen) (kind:Int) (r:T_screen_Screen) (h:screen_EraseLine s kind=some r):PureFn Tryz.prog 100 [(.agg 25 (fun j=>(D_screen_Screen nvS s j))),(.v (.int .i64 kind))] ((.agg 25 (fun j=>(D_screen_Screen nvS r j)))):=by
  unfold screen_EraseLine at h
  refine Wfn Tryz.func100 (bodyOf Tryz.f100) fun ctr hc=>?_
  refine Wo0 ?_
  refine Wo 6 0 (screen_Sane_ok s) fun v h1=>?_
  refine Wo 11 0 (screen_eraseLine_ok s kind) fun v1 h2=>?_
  refine Wk [] 0 [] Wz

theorem screen_DeleteRows_ok (s:T_screen_Screen) (n:Int) (r:T_screen_Screen) (h:screen_DeleteRows s n=some r):PureFn Tryz.prog 102 [(.agg 25 (fun j=>(D_screen_Screen nvS s j))),(.v (.int .i64 n))] ((.agg 25 (fun j=>(D_screen_Screen nvS r j)))):=by
  obtain ⟨⟨q⟩,⟨q1,q2,q3,q4,⟨q5,q6,q7⟩,⟨⟨q8,q9,q10,q11⟩,q12,q13,q14⟩⟩,⟨q15,q16,q17,q18⟩,⟨q19,q20⟩,⟨q21,q22⟩,q23,q24⟩:=s
  unfold screen_DeleteRows at h
  try dsimp only at h
  refine Wfn Tryz.func102 (bodyOf Tryz.f102) fun ctr hc=>?_
  refine Wo0 ?_
  refine Wi 6 0 h sB (screen_Sane_ok _) fun v h1=>?_
  refine Wig 13 0 h (sK v sB) (cursor_In_ok _ _) fun v1 h2=>?_
  refine Wi 29 0 h (sK v (sK v1 (sF sB))) (screen_ground_ok _) fun v2 h3=>?_
  refine Wo 30 0 (grid_Up_ok ⟨q⟩ q2 q18 (imaxI n 1) v2) fun v3 h4=>?_
  obtain ⟨⟨q25⟩,q26⟩:=v3
  refine Wk [] 0 [] Wz

end Go.Vx
