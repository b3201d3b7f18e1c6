/- Walks, by program (lift5.py): the code does what the lifted functions say. -/
import Derived.Test.YtmkigppfdmghnaaGreatDoorIWalkPr
import Derived.Test.YtmkigppfdmghnaaGreatDoorIWb2
import Derived.Test.YtmkigppfdmghnaaGreatDoorIWb3
import Derived.Test.YtmkigppfdmghnaaGreatDoorIWb4
set_option linter.all false
namespace Go.Vx
open Go.Proofs
set_option maxRecDepth 100000
set_option maxHeartbeats 8000000
set_option linter.unusedVariables false
set_option linter.unusedSimpArgs false
attribute [local irreducible] chk iteO bindO cutO nilO

theorem grid_Sane_ok (g':T_grid_Grid) (r:Bool) (h:grid_Sane g'=some r):PureFn Tryz.prog 209 [(.agg 1 (fun j=>(D_grid_Grid nvS g' j)))] ((.v (.bool r))):=by
  obtain ⟨q⟩:=g'
  unfold grid_Sane at h
  try dsimp only at h
  refine Wfn Tryz.func209 (bodyOf Tryz.f209) fun ctr hc=>?_
  revert h
  refine Wyp 2 [] 0 [] (Wq ?_)
  intro h
  intros
  refine Wcut h (ctr+2) [(2,1),(1,1),(10,23)] [] (fun _ u=>Fa [] []) (fun x uc ug ut ht hu hp h=>?_) (fun f h=>?_)
  · refine Wx [] 0 [] Wz
  · revert h
    refine Wyp 1 [] 0 [] (Wq ?_)
    intro h
    intros
    refine Tr.block ?_
    refine Wlp h (ctr+3) [(2,1),(1,1),(13,20)] [(4,1)] (fun v u1=>Fa [(18,.v (.int .i64 v))] []) Wlay (fun v u1c u1g u1t f ht hu hp h=>?_)
    refine Wo0 ?_
    refine Wig 34 0 h (sT (sC (sC sB))) (row_Sane_ok _) fun v1 h19=>?_
    refine Wk [] 0 [] Wz

theorem grid_Size_ok (g':T_grid_Grid) (r:(Int × Int)) (h:grid_Size g'=some r):PureFn Tryz.prog 129 [(.agg 1 (fun j=>(D_grid_Grid nvS g' j)))] (.tup 2 (fun j=>match j with | 0=>(.v (.int .i64 r.1)) | 1=>(.v (.int .i64 r.2)) | _=>.junk)):=by
  obtain ⟨q⟩:=g'
  unfold grid_Size at h
  try dsimp only at h
  refine Wfn Tryz.func129 (bodyOf Tryz.f129) fun ctr hc=>?_
  refine Wo0 ?_
  refine Wo 5 0 (grid_Sane_ok ⟨q⟩) fun v h1=>?_
  refine Wk [] 0 [] Wz

theorem history_Sane_ok (k':T_history_Kept) (r:Bool) (h:history_Sane k'=some r):PureFn Tryz.prog 130 [(.agg 2 (fun j=>(D_history_Kept nvS k' j)))] ((.v (.bool r))):=by
  obtain ⟨q,q1⟩:=k'
  unfold history_Sane at h
  try dsimp only at h
  refine Wfn Tryz.func130 (bodyOf Tryz.f130) fun ctr hc=>?_
  revert h
  refine Wyp 2 [] 0 [] (Wq ?_)
  intro h
  intros
  refine Wcut h (ctr+2) [(2,1),(1,1),(16,11)] [] (fun _ u=>Fa [] []) (fun x uc ug ut ht hu hp h=>?_) (fun f h=>?_)
  · refine Wx [] 0 [] Wz
  · revert h
    refine Wyp 1 [] 0 [] (Wq ?_)
    intro h
    intros
    refine Tr.block ?_
    refine Wlp h (ctr+3) [(2,1),(1,1),(19,8)] [(4,1)] (fun v u1=>Fa [(24,.v (.int .i64 v))] []) Wlay (fun v u1c u1g u1t f ht hu hp h=>?_)
    refine Wo0 ?_
    refine Wi 29 0 h (sT (sC sB)) (row_Sane_ok _) fun v1 h14=>?_
    refine Wk [] 0 [] Wz

theorem screen_Sane_ok (s:T_screen_Screen) (r:Bool) (h:screen_Sane s=some r):PureFn Tryz.prog 46 [(.agg 25 (fun j=>(D_screen_Screen nvS s j)))] ((.v (.bool r))):=by
  obtain ⟨⟨q⟩,⟨q1,q2,q3,q4,⟨q5,q6,q7⟩,⟨⟨q8,q9,q10,q11⟩,q12,q13,q14⟩⟩,⟨q15,q16,q17,q18⟩,⟨q19,q20⟩,⟨q21,q22⟩,q23,q24⟩:=s
  unfold screen_Sane at h
  try dsimp only at h
  refine Wfn Tryz.func46 (bodyOf Tryz.f46) fun ctr hc=>?_
  refine Wo0 ?_
  refine Wi 17 0 h (sF sB) (cursor_Sane_ok _ _) fun v h1=>?_
  refine Wig 22 0 h (sF (sK v sB)) (tabs_Sane_ok _) fun v1 h2=>?_
  refine Wo 37 0 (grid_Size_ok ⟨q⟩) fun v2 h3=>?_
  obtain ⟨q25,q26⟩:=v2
  refine Wo 54 0 (history_Sane_ok ⟨q21,q22⟩) fun v3 h4=>?_
  refine Wk [] 0 [] Wz

theorem grid_Set_ok (g':T_grid_Grid) (y':Int) (r':T_api_Row) (r:T_grid_Grid) (h:grid_Set g' y' r'=some r):PureFn Tryz.prog 218 [(.agg 1 (fun j=>(D_grid_Grid nvS g' j))),(.v (.int .i64 y')),(.agg 4 (fun j=>(D_api_Row nvS r' j)))] ((.agg 1 (fun j=>(D_grid_Grid nvS r j)))):=by
  obtain ⟨q⟩:=g'
  obtain ⟨q1,q2,q3,q4⟩:=r'
  unfold grid_Set at h
  try dsimp only at h
  refine Wfn Tryz.func218 (bodyOf Tryz.f218) fun ctr hc=>?_
  refine Wo0 ?_
  refine Wo 9 0 (grid_Sane_ok ⟨q⟩) fun v h6=>?_
  refine Wig 36 0 h (sA (sK v (sC sB))) (row_Sane_ok _) fun v1 h8=>?_
  refine Wo 41 1 (grid_rows_ok ⟨q⟩) fun v2 h9=>?_
  refine Wkc 4 [] 0 [] h ctr [(3,1),(1,41)] [(3,1),(1,2),(34,1)] (fun l' u=>Fa [(6,.bref 6 (u.g 6) 0),(7,.vec 41 (u.g 41) 4 0 (nvS.len l'))] [(6,.box (u.g 6) [.nilsl]),(41,.arr (u.g 41) 4 (nvS.len l') (u.t 41) (fun ix jx=>(D_api_Row nvS (nvS.get d_api_Row l' ix) jx)))]) (fun l' uc ug ut ht hu hp h=>?_) (fun f h=>Wz)
  refine Wx [] 0 [] Wz

theorem row_Erase_ok (r':T_api_Row) (from':Int) (to:Int) (p':T_api_Pen) (r:T_api_Row) (h:row_Erase r' from' to p'=some r):PureFn Tryz.prog 238 [(.agg 4 (fun j=>(D_api_Row nvS r' j))),(.v (.int .i64 from')),(.v (.int .i64 to)),(.agg 3 (fun j=>(D_api_Pen nvS p' j)))] ((.agg 4 (fun j=>(D_api_Row nvS r j)))):=by
  unfold row_Erase at h
  refine Wfn Tryz.func238 (bodyOf Tryz.f238) fun ctr hc=>?_
  refine Wo0 ?_
  refine Wo 11 0 (row_Sane_ok r') fun v1 h9=>?_
  refine Wog 15 0 (!(!v1)) (pen_Sane_ok p') false fun v2 h10=>?_
  refine Wo 23 0 (row_between_ok r' from' to) fun v3 h11=>?_
  obtain ⟨q,q1⟩:=v3
  refine Wo 27 1 (row_cells_ok r') fun v4 h12=>?_
  refine Wol 33 (fun r h=>row_lay_ok v4 (0+q) (q1-q) p' r h ((nvS.len v4)) Wy (false)) fun v5 h14=>?_
  refine Wkc 5 [] 0 [] h ctr [(1,2),(1,1),(2,27)] [(4,1),(2,2),(18,1)] (fun l' u=>Fa [(4,.bref 4 (u.g 4) 0),(8,.bref 8 (u.g 8) 0),(9,.vec 27 (u.g 27) 7 0 (nvS.len l'))] [(4,.box (u.g 4) [.sl 7 (nvS.len r'.fCells) false (fun ix jx=>(D_api_Cell nvS (nvS.get d_api_Cell r'.fCells ix) jx)),.v (.bool r'.fWrap),.v (.int .i64 r'.fDir),.v (.bool r'.fExplicit)]),(8,.box (u.g 8) [.nilsl,.v (.bool false),.v (.int .i64 0),.v (.bool false)]),(27,.arr (u.g 27) 7 (nvS.len l') (u.t 27) (fun ix jx=>(D_api_Cell nvS (nvS.get d_api_Cell l' ix) jx)))]) (fun l' uc ug ut ht hu hp h=>?_) (fun f h=>Wz)
  refine Wo0 ?_
  refine Wol 36 (fun r h=>row_mended_ok r' l' 0 (lenL l') r h ((nvS.len l')) Wy (ut 27)) fun v h8=>?_
  refine Wk [] 0 [] Wz

theorem screen_erased_1_ok (r':T_api_Row) (cap0:Int) (cap1:Int) (cap2_Fg:Int) (cap2_Bg:Int) (cap2_Flags:Int) (r:T_api_Row) (h:screen_erased_1 r' cap0 cap1 cap2_Fg cap2_Bg cap2_Flags=some r):PureFn Tryz.prog 237 [(.agg 4 (fun j=>(D_api_Row nvS r' j))),.imm 1 1 (fun _ j=>(.v (.int .i64 cap0))) 0 0,.imm 1 1 (fun _ j=>(.v (.int .i64 cap1))) 0 0,.imm 3 1 (fun _ j=>cvL [(0,.int .i64 cap2_Fg),(1,.int .i64 cap2_Bg),(2,.int .i64 cap2_Flags)] j) 0 0] ((.agg 4 (fun j=>(D_api_Row nvS r j)))):=by
  unfold screen_erased_1 at h
  refine Wfn Tryz.func237 (bodyOf Tryz.f237) fun ctr hc=>?_
  refine Wo0 ?_
  refine Wi 10 0 h sB (row_Erase_ok _ _ _ _) fun v h1=>?_
  refine Wk [] 0 [] Wz

theorem grid_usable_ok (g':T_grid_Grid) (p':T_api_Pen) (r:Bool) (h:grid_usable g' p'=some r):PureFn Tryz.prog 231 [(.agg 1 (fun j=>(D_grid_Grid nvS g' j))),(.agg 3 (fun j=>(D_api_Pen nvS p' j)))] ((.v (.bool r))):=by
  unfold grid_usable at h
  refine Wfn Tryz.func231 (bodyOf Tryz.f231) fun ctr hc=>?_
  refine Wo0 ?_
  refine Wo 6 0 (grid_Sane_ok g') fun v h1=>?_
  refine Wog 9 0 v (row_New_ok 1 p') d_api_Row fun v1 h2=>?_
  refine Wog 10 0 v (row_Sane_ok v1) false fun v2 h3=>?_
  refine Wk [] 0 [] Wz

theorem grid_moves_ok (g':T_grid_Grid) (top:Int) (bottom:Int) (p':T_api_Pen) (r:Bool) (h:grid_moves g' top bottom p'=some r):PureFn Tryz.prog 233 [(.agg 1 (fun j=>(D_grid_Grid nvS g' j))),(.v (.int .i64 top)),(.v (.int .i64 bottom)),(.agg 3 (fun j=>(D_api_Pen nvS p' j)))] ((.v (.bool r))):=by
  obtain ⟨q⟩:=g'
  unfold grid_moves at h
  try dsimp only at h
  refine Wfn Tryz.func233 (bodyOf Tryz.f233) fun ctr hc=>?_
  refine Wo0 ?_
  refine Wo 11 0 (grid_usable_ok ⟨q⟩ p') fun v h1=>?_
  refine Wk [] 0 [] Wz

theorem history_Push_ok (k':T_history_Kept) (l':(List T_api_Row)) (r:T_history_Kept) (h:history_Push k' l'=some r):PureFn Tryz.prog 239 [(.agg 2 (fun j=>(D_history_Kept nvS k' j))),(.sl 4 (nvS.len l') false (fun ix jx=>(D_api_Row nvS (nvS.get d_api_Row l' ix) jx)))] ((.agg 2 (fun j=>(D_history_Kept nvS r j)))):=by
  obtain ⟨q,q1⟩:=k'
  unfold history_Push at h
  try dsimp only at h
  refine Wfn Tryz.func239 (bodyOf Tryz.f239) fun ctr hc=>?_
  refine Wo0 ?_
  refine Wo 10 0 (history_Sane_ok ⟨q,q1⟩) fun v h1=>?_
  revert h
  refine Wjp 3 [] 0 [] (Wq ?_)
  intro h
  intros
  refine Wcut h (ctr+3) [(5,1),(1,1),(8,13)] [(15,1)] (fun all u=>Fa [(5,.vec 15 (u.g 15) 4 0 (nvS.len all))] [(15,.arr (u.g 15) 4 (nvS.len all) (u.t 15) (fun ix jx=>(D_api_Row nvS (nvS.get d_api_Row all ix) jx)))]) (fun all uc ug ut ht hu hp h=>?_) (fun f h=>?_)
  · refine Wx [] 0 [] Wz
  · revert h
    refine Wyp 1 [] 0 [] (Wq ?_)
    intro h
    intros
    refine Tr.block ?_
    refine Wlp h (ctr+4) [(5,1),(1,1),(10,11)] [(7,1),(7,1),(11,1)] (fun (v1,all1) u1=>Fa [(5,.vec 15 (u1.g 15) 4 0 (nvS.len all1)),(18,.v (.int .i64 v1))] [(15,.arr (u1.g 15) 4 (nvS.len all1) (u1.t 15) (fun ix jx=>(D_api_Row nvS (nvS.get d_api_Row all1 ix) jx)))]) Wlay (fun x u1c u1g u1t f ht hu hp h=>?_)
    obtain ⟨v1,all1⟩:=x
    try dsimp only at hp h
    refine Wo0 ?_
    refine Wi 23 0 h (sT (sC sB)) (row_Sane_ok _) fun v2 h27=>?_
    refine Wk [26] 0 [] Wz

theorem grid_Clear_ok (g':T_grid_Grid) (from':Int) (to:Int) (p':T_api_Pen) (r:T_grid_Grid) (h:grid_Clear g' from' to p'=some r):PureFn Tryz.prog 180 [(.agg 1 (fun j=>(D_grid_Grid nvS g' j))),(.v (.int .i64 from')),(.v (.int .i64 to)),(.agg 3 (fun j=>(D_api_Pen nvS p' j)))] ((.agg 1 (fun j=>(D_grid_Grid nvS r j)))):=by
  obtain ⟨q⟩:=g'
  unfold grid_Clear at h
  try dsimp only at h
  refine Wfn Tryz.func180 (bodyOf Tryz.f180) fun ctr hc=>?_
  refine Wo0 ?_
  refine Wo 13 0 (grid_usable_ok ⟨q⟩ p') fun v h1=>?_
  refine Wo 28 1 (grid_rows_ok ⟨q⟩) fun v1 h2=>?_
  refine Wol 42 (fun r h=>grid_lay_ok v1 (0+(imaxI 0 (iminI from' (lenL q)))) ((imaxI (imaxI 0 (iminI from' (lenL q))) (imaxI 0 (iminI to (lenL q))))-(imaxI 0 (iminI from' (lenL q)))) (lenL (getL d_api_Row q 0).fCells) p' r h ((nvS.len v1)) Wy (false)) fun v2 h5=>?_
  refine Wk [] 0 [] Wz

end Go.Vx
