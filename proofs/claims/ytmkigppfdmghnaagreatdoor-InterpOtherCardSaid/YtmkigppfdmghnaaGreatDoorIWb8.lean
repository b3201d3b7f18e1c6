/- Walks, by program (lift5.py): the code does what the lifted functions say. -/
import Derived.Test.YtmkigppfdmghnaaGreatDoorIWalkPr
import Derived.Test.YtmkigppfdmghnaaGreatDoorIWb1
import Derived.Test.YtmkigppfdmghnaaGreatDoorIWb2
import Derived.Test.YtmkigppfdmghnaaGreatDoorIWb3
import Derived.Test.YtmkigppfdmghnaaGreatDoorIWb4
set_option linter.all false
namespace Go.Vx
open Go.Proofs
set_option maxRecDepth 100000
set_option maxHeartbeats 8000000
set_option linter.unusedVariables false
set_option linter.unusedSimpArgs false
attribute [local irreducible] chk iteO bindO cutO nilO

theorem grid_New_ok (h':Int) (w:Int) (p':T_api_Pen) (r:T_grid_Grid) (h:grid_New h' w p'=some r):PureFn Tryz.prog 137 [(.v (.int .i64 h')),(.v (.int .i64 w)),(.agg 3 (fun j=>(D_api_Pen nvS p' j)))] ((.agg 1 (fun j=>(D_grid_Grid nvS r j)))):=by
  unfold grid_New at h
  refine Wfn Tryz.func137 (bodyOf Tryz.f137) fun ctr hc=>?_
  refine Wxc 2 [] 0 [] h ctr [(5,7)] [(5,2),(4,1)] (fun _ u=>Fa [(5,.bref 5 (u.g 5) 0),(6,.bref 6 (u.g 6) 0),(7,.vec 11 (u.g 11) 4 0 ((std Tryz.prog).imax 1 ((std Tryz.prog).imin h' 1000)))] [(5,.box (u.g 5) [.v (.int .i64 p'.fFg),.v (.int .i64 p'.fBg),.v (.int .i64 p'.fFlags)]),(6,.box (u.g 6) [.nilsl]),(11,.arr (u.g 11) 4 ((std Tryz.prog).imax 1 ((std Tryz.prog).imin h' 1000)) (u.t 11) (fun ix jx=>(D_api_Row nvS (nvS.get d_api_Row (nvS.rep ((std Tryz.prog).imax 1 ((std Tryz.prog).imin h' 1000)) d_api_Row) ix) jx)))]) (fun x uc ug ut ht hu hp h=>?_) (fun f h=>Wz)
  refine Wo0 ?_
  refine Wol 15 (fun r h=>grid_lay_ok (repL (imaxI 1 (iminI h' 1000)) d_api_Row) 0 (imaxI 1 (iminI h' 1000)) w p' r h (((std Tryz.prog).imax 1 ((std Tryz.prog).imin h' 1000))) Wy (ut 11)) fun v h2=>?_
  refine Wk [] 0 [] Wz

theorem screen_New_ok (h':Int) (w:Int) (kept:Int) (r:T_screen_Screen) (h:screen_New h' w kept=some r):PureFn Tryz.prog 52 [(.v (.int .i64 h')),(.v (.int .i64 w)),(.v (.int .i64 kept))] ((.agg 25 (fun j=>(D_screen_Screen nvS r j)))):=by
  unfold screen_New at h
  refine Wfn Tryz.func52 (bodyOf Tryz.f52) fun ctr hc=>?_
  refine Wo0 ?_
  refine Wo 12 0 (cursor_New_ok h' w) fun v h1=>?_
  obtain ⟨⟨q,q1,q2,q3,⟨q4,q5,q6⟩,⟨⟨q7,q8,q9,q10⟩,q11,q12,q13⟩⟩,⟨q14,q15,q16,q17⟩⟩:=v
  refine Wo 18 0 (grid_New_ok h' w d_api_Pen) fun v1 h2=>?_
  refine Wo 22 0 (tabs_New_ok w) fun v2 h3=>?_
  refine Wo 24 0 (history_New_ok kept) fun v3 h4=>?_
  refine Wk [] 0 [] Wz

theorem interp_New_ok (h':Int) (w:Int) (kept:Int) (r:T_interp_State) (h:interp_New h' w kept=some r):PureFn Tryz.prog 16 [(.v (.int .i64 h')),(.v (.int .i64 w)),(.v (.int .i64 kept))] ((.agg 83 (fun j=>(D_interp_State nvS r j)))):=by
  unfold interp_New at h
  refine Wfn Tryz.func16 (bodyOf Tryz.f16) fun ctr hc=>?_
  refine Wo0 ?_
  refine Wo 12 0 (cursor_New_ok h' w) fun v h1=>?_
  obtain ⟨⟨q,q1,q2,q3,⟨q4,q5,q6⟩,⟨⟨q7,q8,q9,q10⟩,q11,q12,q13⟩⟩,⟨q14,q15,q16,q17⟩⟩:=v
  refine Wo 18 0 (screen_New_ok h' w kept) fun v1 h2=>?_
  refine Wo 21 0 (screen_New_ok h' w 0) fun v2 h3=>?_
  refine Wo 22 0 (modes_New_ok) fun v3 h4=>?_
  refine Wo 27 0 (interp_explicit_ok ⟨v1,v2,false,v3,⟨⟨q,q1,q2,q3,⟨q4,q5,q6⟩,⟨⟨q7,q8,q9,q10⟩,q11,q12,q13⟩⟩,⟨q,q1,q2,q3,⟨q4,q5,q6⟩,⟨⟨q7,q8,q9,q10⟩,q11,q12,q13⟩⟩⟩,([]:List Int),ByteArray.empty,0⟩) fun v4 h5=>?_
  refine Wk [] 0 [] Wz

theorem row_moves_ok (r':T_api_Row) (at':Int) (right:Int) (p':T_api_Pen) (r:Bool) (h:row_moves r' at' right p'=some r):PureFn Tryz.prog 234 [(.agg 4 (fun j=>(D_api_Row nvS r' j))),(.v (.int .i64 at')),(.v (.int .i64 right)),(.agg 3 (fun j=>(D_api_Pen nvS p' j)))] ((.v (.bool r))):=by
  obtain ⟨q,q1,q2,q3⟩:=r'
  unfold row_moves at h
  try dsimp only at h
  refine Wfn Tryz.func234 (bodyOf Tryz.f234) fun ctr hc=>?_
  refine Wo0 ?_
  refine Wi 10 0 h sB (row_Sane_ok _) fun v h1=>?_
  refine Wog 13 0 v (pen_Sane_ok p') false fun v1 h2=>?_
  refine Wk [] 0 [] Wz

theorem row_Insert_ok (r':T_api_Row) (at':Int) (n:Int) (right:Int) (p':T_api_Pen) (r:T_api_Row) (h:row_Insert r' at' n right p'=some r):PureFn Tryz.prog 222 [(.agg 4 (fun j=>(D_api_Row nvS r' j))),(.v (.int .i64 at')),(.v (.int .i64 n)),(.v (.int .i64 right)),(.agg 3 (fun j=>(D_api_Pen nvS p' j)))] ((.agg 4 (fun j=>(D_api_Row nvS r j)))):=by
  obtain ⟨q,q1,q2,q3⟩:=r'
  unfold row_Insert at h
  try dsimp only at h
  refine Wfn Tryz.func222 (bodyOf Tryz.f222) fun ctr hc=>?_
  refine Wo0 ?_
  refine Wi 16 0 h (sA sB) (row_moves_ok _ _ _ _) fun v2 h17=>?_
  refine Wo 26 1 (row_cells_ok ⟨q,q1,q2,q3⟩) fun v3 h19=>?_
  refine Wkc 5 [] 0 [] h ctr [(2,1),(2,1),(3,32)] [(5,1),(3,2),(15,1)] (fun l' u=>Fa [(2,.v (.int .i64 ((std Tryz.prog).imax 0 ((std Tryz.prog).imin n ((std Tryz.prog).sub right at'))))),(5,.bref 5 (u.g 5) 0),(9,.bref 9 (u.g 9) 0),(10,.bref 10 (u.g 10) 0),(11,.vec 26 (u.g 26) 7 0 (nvS.len l'))] [(5,.box (u.g 5) [.sl 7 (nvS.len q) false (fun ix jx=>(D_api_Cell nvS (nvS.get d_api_Cell q ix) jx)),.v (.bool q1),.v (.int .i64 q2),.v (.bool q3)]),(9,.box (u.g 9) [.v (.int .i64 p'.fFg),.v (.int .i64 p'.fBg),.v (.int .i64 p'.fFlags)]),(10,.box (u.g 10) [.nilsl,.v (.bool false),.v (.int .i64 0),.v (.bool false)]),(26,.arr (u.g 26) 7 (nvS.len l') (u.t 26) (fun ix jx=>(D_api_Cell nvS (nvS.get d_api_Cell l' ix) jx)))]) (fun l' uc ug ut ht hu hp h=>?_) (fun f h=>Wz)
  refine Wcut h uc [(41,8)] [(26,1)] (fun l'1 u1=>⟨[],[(26,.arr (ug 26) 7 (nvS.len l') (u1.t 26) (fun ix jx=>(D_api_Cell nvS (nvS.get d_api_Cell l'1 ix) jx)))],fun _=>lenL l'1=(lenL l')⟩) (fun l'1 u1c u1g u1t ht hu hp h=>?_) (fun f h=>?_)
  · try dsimp only at hp h
    refine Wo0 ?_
    refine Wol 51 (fun r h=>row_mended_ok ⟨q,q1,q2,q3⟩ l'1 0 (lenL l') r h ((nvS.len l')) Wy (u1t 26)) fun v h12=>?_
    refine Wk [] 0 [] Wz
  · refine Wo0 ?_
    refine Wol 48 (fun r h=>row_lay_ok l' (0+at') ((at'+(imaxI 0 (iminI n (right-at'))))-at') p' r h ((nvS.len l')) Wy (ut 26)) fun v1 h15=>?_
    refine Wk [] 0 [] Wz

theorem screen_inserted_1_ok (r':T_api_Row) (cap0:Int) (cap1:Int) (cap2:Int) (cap3_Fg:Int) (cap3_Bg:Int) (cap3_Flags:Int) (r:T_api_Row) (h:screen_inserted_1 r' cap0 cap1 cap2 cap3_Fg cap3_Bg cap3_Flags=some r):PureFn Tryz.prog 221 [(.agg 4 (fun j=>(D_api_Row nvS r' j))),.imm 1 1 (fun _ j=>(.v (.int .i64 cap0))) 0 0,.imm 1 1 (fun _ j=>(.v (.int .i64 cap1))) 0 0,.imm 1 1 (fun _ j=>(.v (.int .i64 cap2))) 0 0,.imm 3 1 (fun _ j=>cvL [(0,.int .i64 cap3_Fg),(1,.int .i64 cap3_Bg),(2,.int .i64 cap3_Flags)] j) 0 0] ((.agg 4 (fun j=>(D_api_Row nvS r j)))):=by
  unfold screen_inserted_1 at h
  refine Wfn Tryz.func221 (bodyOf Tryz.f221) fun ctr hc=>?_
  refine Wo0 ?_
  refine Wi 12 0 h sB (row_Insert_ok _ _ _ _ _) fun v h1=>?_
  refine Wk [] 0 [] Wz

theorem row_Put_ok (r':T_api_Row) (at':Int) (c':T_api_Cell) (r:T_api_Row) (h:row_Put r' at' c'=some r):PureFn Tryz.prog 156 [(.agg 4 (fun j=>(D_api_Row nvS r' j))),(.v (.int .i64 at')),(.agg 7 (fun j=>(D_api_Cell nvS c' j)))] ((.agg 4 (fun j=>(D_api_Row nvS r j)))):=by
  obtain ⟨q,q1,q2,q3⟩:=r'
  obtain ⟨q4,⟨q5,q6⟩,q7,⟨q8,q9,q10⟩⟩:=c'
  unfold row_Put at h
  try dsimp only at h
  refine Wfn Tryz.func156 (bodyOf Tryz.f156) fun ctr hc=>?_
  refine Wo0 ?_
  refine Wi 9 0 h sB (row_Sane_ok _) fun v h1=>?_
  refine Wig 13 0 h (sK v sB) (row_fits_ok _) fun v1 h2=>?_
  refine Wo 37 1 (row_cells_ok ⟨q,q1,q2,q3⟩) fun v2 h4=>?_
  revert h
  refine Wjp 4 [] 0 [] (Wq ?_)
  intro h
  intros
  refine Wcut h (ctr+4) [(42,10)] [(37,1)] (fun l' u=>⟨[],[(37,.arr (ctr+2) 7 (nvS.len v2) (u.t 37) (fun ix jx=>(D_api_Cell nvS (nvS.get d_api_Cell l' ix) jx)))],fun _=>lenL l'=(lenL v2)⟩) (fun l' uc ug ut ht hu hp h=>?_) (fun f h=>?_)
  · try dsimp only at hp h
    refine Wo0 ?_
    refine Wol 54 (fun r h=>row_mended_ok ⟨q,q1,q2,q3⟩ l' 0 (lenL v2) r h ((nvS.len v2)) Wy (ut 37)) fun v3 h8=>?_
    refine Wk [] 0 [] Wz
  · refine Wx [] 0 [] Wz

theorem screen_Print_1_ok (x':T_api_Row) (cap0:Int) (cap1:Int) (cap2:Int) (cap3_C_Pen_Fg:Int) (cap3_C_Pen_Bg:Int) (cap3_C_Pen_Flags:Int) (cap3_Dir:Int) (cap3_Explicit:Bool) (cap4:Bool) (r:T_api_Row) (h:screen_Print_1 x' cap0 cap1 cap2 cap3_C_Pen_Fg cap3_C_Pen_Bg cap3_C_Pen_Flags cap3_Dir cap3_Explicit cap4=some r):PureFn Tryz.prog 155 [(.agg 4 (fun j=>(D_api_Row nvS x' j))),.imm 1 1 (fun _ j=>(.v (.int .i64 cap0))) 0 0,.imm 1 1 (fun _ j=>(.v (.int .i64 cap1))) 0 0,.imm 1 1 (fun _ j=>(.v (.int .i64 cap2))) 0 0,.imm 25 1 (fun _ j=>cvL [(5,.int .i64 cap3_C_Pen_Fg),(6,.int .i64 cap3_C_Pen_Bg),(7,.int .i64 cap3_C_Pen_Flags),(23,.int .i64 cap3_Dir),(24,.bool cap3_Explicit)] j) 0 0,.imm 1 1 (fun _ j=>(.v (.bool cap4))) 0 0] ((.agg 4 (fun j=>(D_api_Row nvS r j)))):=by
  unfold screen_Print_1 at h
  refine Wfn Tryz.func155 (bodyOf Tryz.f155) fun ctr hc=>?_
  refine Wo0 ?_
  refine Wi 16 0 h sB (row_Put_ok _ _ _) fun v h1=>?_
  refine Wk [999] 0 [] Wz

theorem interp_place_ok (s:T_interp_State) (u:T_ucd_Data) (a:T_api_Action) (r:T_interp_State) (h:interp_place s u a=some r):PureFn Tryz.prog 96 [(.agg 83 (fun j=>(D_interp_State nvS s j))),(.agg 6 (fun j=>(D_ucd_Data nvS u j))),(.agg 6 (fun j=>(D_api_Action nvS a j)))] ((.agg 83 (fun j=>(D_interp_State nvS r j)))):=by
  unfold interp_place at h
  refine Wfn Tryz.func96 (bodyOf Tryz.f96) fun ctr hc=>?_
  refine Wo0 ?_
  refine Wo 10 0 (interp_Active_ok s) fun v h1=>?_
  refine Wo 13 0 (params_Count_ok a.fParams 1 1 1 5000) fun v1 h2=>?_
  refine Wo 19 0 (interp_first_ok a) fun v2 h3=>?_
  refine Wo 23 0 (cursor_To_ok v.fC v.fR (v2-1) (v1-1)) fun v3 h6=>?_
  refine Wi 27 0 h (sK v (sK v1 (sK v2 (sC (sC (sK v3 sB)))))) (interp_with_ok _ _) fun v4 h7=>?_
  refine Wk [] 0 [] Wz

end Go.Vx
