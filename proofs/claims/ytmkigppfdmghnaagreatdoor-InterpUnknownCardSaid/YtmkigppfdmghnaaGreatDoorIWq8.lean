/- Walks, by program: each of what it calls. -/
import Derived.Test.YtmkigppfdmghnaaGreatDoorIHead
set_option linter.all false
namespace Go.Vx
open Go.Proofs
set_option maxRecDepth 100000
set_option maxHeartbeats 8000000
set_option linter.unusedVariables false
set_option linter.unusedSimpArgs false
attribute [local irreducible] chk iteO bindO cutO nilO
theorem interp_find_ok0  (l':(List T_interp_line)) (inter:ByteArray) (final:Int) (r:FV) (h:interp_find l' inter final=some r):PureFn Tryz.prog 30 [(.sl 3 (nvS.len l') false (fun ix jx=>(D_interp_line nvS (nvS.get d_interp_line l' ix) jx))),(.v (.string inter)),(.v (.int .u8 final))] ((.fn (.func (nvS.fF r)) (nvS.fK r) (nvS.fC r))):=by
  unfold interp_find at h
  refine Wfn Tryz.func30 (bodyOf Tryz.f30) fun ctr hc=>?_
  revert h
  refine Wyp 1 [] 0 [] (Wq ?_)
  intro h
  intros
  refine Wcut h (ctr+1) [(6,1),(1,20)] [] (fun _ u=>Fa [] []) (fun x uc ug ut ht hu hp h=>?_) (fun f h=>?_)
  · refine Wx [] 0 [] Wz
  · revert h
    refine Wyp 1 [] 0 [] (Wq ?_)
    intro h
    intros
    refine Tr.block ?_
    refine Wlp h (ctr+2) [(6,1),(1,1),(2,17)] [(8,1)] (fun v u1=>Fa [(11,.v (.int .i64 v))] []) Wlay (fun v u1c u1g u1t f ht hu hp h=>?_)
    refine Wx [] 0 [] Wz

theorem interp_doing_ok0  (f':FV) (r:FV) (h:interp_doing f'=some r):PureFn Tryz.prog 70 [(.fn (.func (nvS.fF f')) (nvS.fK f') (nvS.fC f'))] ((.fn (.func (nvS.fF r)) (nvS.fK r) (nvS.fC r))):=by
  unfold interp_doing at h
  refine Wfn Tryz.func70 (bodyOf Tryz.f70) fun ctr hc=>?_
  refine Wx [] 0 [] Wz

theorem interp_moving_ok0 (interp_doing_ok:Kp (∀ (f':FV) (r:FV) (h:interp_doing f'=some r),PureFn Tryz.prog 70 [(.fn (.func (nvS.fF f')) (nvS.fK f') (nvS.fC f'))] ((.fn (.func (nvS.fF r)) (nvS.fK r) (nvS.fC r))))) (f':FV) (r:FV) (h:interp_moving f'=some r):PureFn Tryz.prog 90 [(.fn (.func (nvS.fF f')) (nvS.fK f') (nvS.fC f'))] ((.fn (.func (nvS.fF r)) (nvS.fK r) (nvS.fC r))):=by
  unfold interp_moving at h
  refine Wfn Tryz.func90 (bodyOf Tryz.f90) fun ctr hc=>?_
  refine Wo0 ?_
  refine Wo 4 6 (interp_doing_ok.get (FV.fn (FV.nil 174) f')) fun v h1=>?_
  refine Wk [] 0 [] Wz

theorem interp_going_ok0 (interp_moving_ok:Kp (∀ (f':FV) (r:FV) (h:interp_moving f'=some r),PureFn Tryz.prog 90 [(.fn (.func (nvS.fF f')) (nvS.fK f') (nvS.fC f'))] ((.fn (.func (nvS.fF r)) (nvS.fK r) (nvS.fC r))))) (dy:Int) (dx:Int) (begin:Bool) (r:FV) (h:interp_going dy dx begin=some r):PureFn Tryz.prog 93 [(.v (.int .i64 dy)),(.v (.int .i64 dx)),(.v (.bool begin))] ((.fn (.func (nvS.fF r)) (nvS.fK r) (nvS.fC r))):=by
  unfold interp_going at h
  refine Wfn Tryz.func93 (bodyOf Tryz.f93) fun ctr hc=>?_
  refine Wo0 ?_
  refine Wo 8 6 (interp_moving_ok.get (FV.bool (FV.int (FV.int (FV.nil 175) .i64 dy) .i64 dx) begin)) fun v h1=>?_
  refine Wk [] 0 [] Wz

theorem ucd_pairs_ok0 (strings_Split_ok:Kp (∀ (s:ByteArray) (sep:ByteArray) (r:(List ByteArray)) (h:strings_Split s sep=some r),PureFn Tryz.prog 124 [(.v (.string s)),(.v (.string sep))] (.own 1 (nvS.len r) false (fun ix jx=>(.v (.string (nvS.get ByteArray.empty r ix))))))) (ucd_words_ok:Kp (∀ (e:ByteArray) (r:(List ByteArray)) (h:ucd_words e=some r),PureFn Tryz.prog 125 [(.v (.string e))] (.own 1 (nvS.len r) false (fun ix jx=>(.v (.string (nvS.get ByteArray.empty r ix))))))) (ucd_hex_ok:Kp (∀ (s:ByteArray) (r:Int) (h:ucd_hex s=some r),PureFn Tryz.prog 126 [(.v (.string s))] ((.v (.int .i64 r))))) (text:ByteArray) (r:(List T_ucd_Pair)) (h:ucd_pairs text=some r):PureFn Tryz.prog 44 [(.v (.string text))] (.own 2 (nvS.len r) false (fun ix jx=>(D_ucd_Pair nvS (nvS.get d_ucd_Pair r ix) jx))):=by
  unfold ucd_pairs at h
  refine Wfn Tryz.func44 (bodyOf Tryz.f44) fun ctr hc=>?_
  revert h
  refine Wyp 2 [] 0 [] (Wq ?_)
  intro h
  intros
  refine Wcut h (ctr+2) [(3,1),(1,27)] [(8,1),(21,1)] (fun l' u=>Fa [(3,.vec 30 (u.g 30) 2 0 (nvS.len l'))] [(30,.arr (u.g 30) 2 (nvS.len l') (u.t 30) (fun ix jx=>(D_ucd_Pair nvS (nvS.get d_ucd_Pair l' ix) jx)))]) (fun l' uc ug ut ht hu hp h=>?_) (fun f h=>?_)
  · refine Wx [] 0 [] Wz
  · refine Wo0 ?_
    refine Wo 8 1 (strings_Split_ok.get text (⟨#[44]⟩:ByteArray)) fun v h20=>?_
    revert h
    refine Wjp 1 [] 0 [] (Wq ?_)
    intro h
    intros
    refine Tr.block ?_
    refine Wlp h (ctr+3) [(3,1),(1,2),(3,22)] [(15,1),(14,1)] (fun (v1,l'1) u1=>Fa [(3,.vec 30 (u1.g 30) 2 0 (nvS.len l'1)),(10,.v (.int .i64 v1))] [(30,.arr (u1.g 30) 2 (nvS.len l'1) (u1.t 30) (fun ix jx=>(D_ucd_Pair nvS (nvS.get d_ucd_Pair l'1 ix) jx)))]) Wlay (fun x u1c u1g u1t f ht hu hp h=>?_)
    obtain ⟨v1,l'1⟩:=x
    try dsimp only at hp h
    refine Wo0 ?_
    refine Wo 15 1 (ucd_words_ok.get (getL ByteArray.empty v (0+v1))) fun v2 h40=>?_
    refine Wo 23 0 (ucd_hex_ok.get (getL ByteArray.empty v2 (0+0))) fun v3 h42=>?_
    refine Wo 27 0 (ucd_hex_ok.get (getL ByteArray.empty v2 (0+1))) fun v4 h44=>?_
    refine Wk [29] 0 [] Wz

theorem grid_New_ok0 (grid_lay_ok:Kp (∀ (l':List T_api_Row) (l'_off:Int) (l'_n:Int) (w:Int) (p':T_api_Pen) (r:(List T_api_Row)) (h:grid_lay l' l'_off l'_n w p'=some r) (l'_N:Int) (hl'_N:lenL l'=l'_N) (tg0:Bool),LentFn Tryz.prog 212 [.vec 0 0 4 l'_off l'_n,(.v (.int .i64 w)),(.agg 3 (fun j=>(D_api_Pen nvS p' j)))] [.arr 0 4 l'_N tg0 (fun ix jx=>(D_api_Row nvS (nvS.get d_api_Row l' ix) jx))] [.arr 0 4 l'_N tg0 (fun ix jx=>(D_api_Row nvS (nvS.get d_api_Row r ix) jx))] (.tup 0 (fun _=>.junk)))) (h':Int) (w:Int) (p':T_api_Pen) (r:T_grid_Grid) (h:grid_New h' w p'=some r):PureFn Tryz.prog 137 [(.v (.int .i64 h')),(.v (.int .i64 w)),(.agg 3 (fun j=>(D_api_Pen nvS p' j)))] ((.agg 1 (fun j=>(D_grid_Grid nvS r j)))):=by
  obtain ⟨p_Fg,p_Bg,p_Flags⟩:=p'
  unfold grid_New at h
  try dsimp only at h
  refine Wfn Tryz.func137 (bodyOf Tryz.f137) fun ctr hc=>?_
  refine Wxc 2 [] 0 [] h ctr [(5,7)] [(5,2),(4,1)] (fun _ u=>Fa [(5,.bref 5 (u.g 5) 0),(6,.bref 6 (u.g 6) 0),(7,.vec 11 (u.g 11) 4 0 ((std Tryz.prog).imax 1 ((std Tryz.prog).imin h' 1000)))] [(5,.box (u.g 5) [.v (.int .i64 p_Fg),.v (.int .i64 p_Bg),.v (.int .i64 p_Flags)]),(6,.box (u.g 6) [.nilsl]),(11,.arr (u.g 11) 4 ((std Tryz.prog).imax 1 ((std Tryz.prog).imin h' 1000)) (u.t 11) (fun ix jx=>(D_api_Row nvS (nvS.get d_api_Row (nvS.rep ((std Tryz.prog).imax 1 ((std Tryz.prog).imin h' 1000)) d_api_Row) ix) jx)))]) (fun x uc ug ut ht hu hp h=>?_) (fun f h=>Wz)
  refine Wo0 ?_
  refine Wol 15 (fun r h=>grid_lay_ok.get (repL (imaxI 1 (iminI h' 1000)) d_api_Row) 0 (imaxI 1 (iminI h' 1000)) w (T_api_Pen.mk p_Fg p_Bg p_Flags) r h (((std Tryz.prog).imax 1 ((std Tryz.prog).imin h' 1000))) Wy (ut 11)) fun v h2=>?_
  refine Wk [] 0 [] Wz

theorem grid_Sane_ok0 (row_Sane_ok:Kp (∀ (r':T_api_Row) (r:Bool) (h:row_Sane r'=some r),PureFn Tryz.prog 210 [(.agg 4 (fun j=>(D_api_Row nvS r' j)))] ((.v (.bool r))))) (g':T_grid_Grid) (r:Bool) (h:grid_Sane g'=some r):PureFn Tryz.prog 209 [(.agg 1 (fun j=>(D_grid_Grid nvS g' j)))] ((.v (.bool r))):=by
  obtain ⟨g_Rows⟩:=g'
  unfold grid_Sane at h
  try dsimp only at h
  refine Wfn Tryz.func209 (bodyOf Tryz.f209) fun ctr hc=>?_
  revert h
  refine Wyp 2 [] 0 [] (Wq ?_)
  intro h
  intros
  refine Wcut h (ctr+2) [(2,1),(1,1),(10,23)] [] (fun _ u=>Fa [] []) (fun x uc ug ut ht hu hp h=>?_) (fun f h=>?_)
  · refine Wx [] 0 [] Wz
  · revert h
    refine Wyp 1 [] 0 [] (Wq ?_)
    intro h
    intros
    refine Tr.block ?_
    refine Wlp h (ctr+3) [(2,1),(1,1),(13,20)] [(4,1)] (fun v u1=>Fa [(18,.v (.int .i64 v))] []) Wlay (fun v u1c u1g u1t f ht hu hp h=>?_)
    refine Wo0 ?_
    refine Wog 34 0 (!(!((lenL (getL d_api_Row g_Rows v).fCells) == (lenL (getL d_api_Row g_Rows 0).fCells)))) (row_Sane_ok.get (getL d_api_Row g_Rows v)) false fun v1 h19=>?_
    refine Wk [] 0 [] Wz

theorem ucd_Load_ok0 (ucd_table_class_ok:Kp (∀ (text:ByteArray) (r:T_ranges_Table) (h:ucd_table_class text=some r),PureFn Tryz.prog 40 [(.v (.string text)),.fn (.func 41) 0 (fun _=>.junk)] ((.agg 1 (fun j=>(D_ranges_Table nvS r j)))))) (ucd_table_wide_ok:Kp (∀ (text:ByteArray) (r:T_ranges_Table) (h:ucd_table_wide text=some r),PureFn Tryz.prog 40 [(.v (.string text)),.fn (.func 42) 0 (fun _=>.junk)] ((.agg 1 (fun j=>(D_ranges_Table nvS r j)))))) (ucd_table_join_ok:Kp (∀ (text:ByteArray) (r:T_ranges_Table) (h:ucd_table_join text=some r),PureFn Tryz.prog 40 [(.v (.string text)),.fn (.func 43) 0 (fun _=>.junk)] ((.agg 1 (fun j=>(D_ranges_Table nvS r j)))))) (ucd_pairs_ok:Kp (∀ (text:ByteArray) (r:(List T_ucd_Pair)) (h:ucd_pairs text=some r),PureFn Tryz.prog 44 [(.v (.string text))] (.own 2 (nvS.len r) false (fun ix jx=>(D_ucd_Pair nvS (nvS.get d_ucd_Pair r ix) jx))))) (ucd_forms_ok:Kp (∀ (text:ByteArray) (r:(List T_ucd_Form)) (h:ucd_forms text=some r),PureFn Tryz.prog 45 [(.v (.string text))] (.own 3 (nvS.len r) false (fun ix jx=>(D_ucd_Form nvS (nvS.get d_ucd_Form r ix) jx)))))  (r:T_ucd_Data) (h:ucd_Load=some r):PureFn Tryz.prog 14 [] ((.agg 6 (fun j=>(D_ucd_Data nvS r j)))):=by
  unfold ucd_Load at h
  refine Wfn Tryz.func14 (bodyOf Tryz.f14) fun ctr hc=>?_
  refine Wo0 ?_
  refine Wo 1 0 (ucd_table_class_ok.get kS1) fun v h1=>?_
  obtain ⟨v_L⟩:=v
  refine Wo 2 0 (ucd_table_wide_ok.get kS2) fun v1 h2=>?_
  obtain ⟨v1_L⟩:=v1
  refine Wo 3 0 (ucd_table_join_ok.get kS3) fun v2 h3=>?_
  obtain ⟨v2_L⟩:=v2
  refine Wo 4 1 (ucd_pairs_ok.get kS4) fun v3 h4=>?_
  refine Wo 5 1 (ucd_pairs_ok.get kS5) fun v4 h5=>?_
  refine Wo 6 1 (ucd_forms_ok.get kS6) fun v5 h6=>?_
  refine Wk [] 0 [] Wz

theorem cursor_Report_ok0 (cursor_Sane_ok:Kp (∀ (c':T_cursor_Cursor) (r':T_cursor_Region) (r:Bool) (h:cursor_Sane c' r'=some r),PureFn Tryz.prog 49 [(.agg 14 (fun j=>(D_cursor_Cursor nvS c' j))),(.agg 4 (fun j=>(D_cursor_Region nvS r' j)))] ((.v (.bool r))))) (c':T_cursor_Cursor) (r':T_cursor_Region) (r:(Int × Int)) (h:cursor_Report c' r'=some r):PureFn Tryz.prog 200 [(.agg 14 (fun j=>(D_cursor_Cursor nvS c' j))),(.agg 4 (fun j=>(D_cursor_Region nvS r' j)))] (.tup 2 (fun j=>match j with | 0=>(.v (.int .i64 r.1)) | 1=>(.v (.int .i64 r.2)) | _=>.junk)):=by
  obtain ⟨c_X,c_Y,c_Wrap,c_Origin,⟨c_Pen_Fg,c_Pen_Bg,c_Pen_Flags⟩,⟨⟨c_Set_G_x0,c_Set_G_x1,c_Set_G_x2,c_Set_G_x3⟩,c_Set_GL,c_Set_GR,c_Set_Once⟩⟩:=c'
  obtain ⟨r_H,r_W,r_Top,r_Bottom⟩:=r'
  unfold cursor_Report at h
  try dsimp only at h
  refine Wfn Tryz.func200 (bodyOf Tryz.f200) fun ctr hc=>?_
  refine Wo0 ?_
  refine Wo 9 0 (cursor_Sane_ok.get (T_cursor_Cursor.mk c_X c_Y c_Wrap c_Origin (T_api_Pen.mk c_Pen_Fg c_Pen_Bg c_Pen_Flags) (T_charset_State.mk (T_Arr4_u8.mk c_Set_G_x0 c_Set_G_x1 c_Set_G_x2 c_Set_G_x3) c_Set_GL c_Set_GR c_Set_Once)) (T_cursor_Region.mk r_H r_W r_Top r_Bottom)) fun v h1=>?_
  refine Wk [] 0 [] Wz

theorem lapwinglaw16_few_ok0 (lapwingref05_Few_ok:Kp (∀ (l':(List (List Int))) (r:Bool) (h:lapwingref05_Few l'=some r),PureFn Tryz.prog 24 [(.sl 1 (nvS.len l') false (fun ix jx=>(.sl 1 (nvS.len (nvS.get [] l' ix)) false (fun ix1 jx1=>(.v (.int .i64 (nvS.get 0 (nvS.get [] l' ix) ix1)))))))] ((.v (.bool r))))) (l':(List T_api_Action)) (r:Bool) (h:lapwinglaw16_few l'=some r):PureFn Tryz.prog 9 [(.sl 6 (nvS.len l') false (fun ix jx=>(D_api_Action nvS (nvS.get d_api_Action l' ix) jx)))] ((.v (.bool r))):=by
  unfold lapwinglaw16_few at h
  refine Wfn Tryz.func9 (bodyOf Tryz.f9) fun ctr hc=>?_
  revert h
  refine Wyp 2 [] 0 [] (Wq ?_)
  intro h
  intros
  refine Wcut h (ctr+2) [(2,2),(3,31)] [] (fun _ u=>Fa [] []) (fun x uc ug ut ht hu hp h=>?_) (fun f h=>?_)
  · refine Wx [] 0 [] Wz
  · revert h
    refine Wyp 1 [] 0 [] (Wq ?_)
    intro h
    intros
    refine Tr.block ?_
    refine Wlp h (ctr+3) [(2,2),(3,31)] [] (fun i u1=>Fa [(3,.v (.int .i64 i))] []) Wlay (fun i u1c u1g u1t f ht hu hp h=>?_)
    refine Wo0 ?_
    refine Wo 18 0 (lapwingref05_Few_ok.get (getL d_api_Action l' i).fParams) fun v h22=>?_
    refine Wk [] 0 [] Wz

theorem history_Sane_ok0 (row_Sane_ok:Kp (∀ (r':T_api_Row) (r:Bool) (h:row_Sane r'=some r),PureFn Tryz.prog 210 [(.agg 4 (fun j=>(D_api_Row nvS r' j)))] ((.v (.bool r))))) (k':T_history_Kept) (r:Bool) (h:history_Sane k'=some r):PureFn Tryz.prog 130 [(.agg 2 (fun j=>(D_history_Kept nvS k' j)))] ((.v (.bool r))):=by
  obtain ⟨k_Rows,k_Cap⟩:=k'
  unfold history_Sane at h
  try dsimp only at h
  refine Wfn Tryz.func130 (bodyOf Tryz.f130) fun ctr hc=>?_
  revert h
  refine Wyp 2 [] 0 [] (Wq ?_)
  intro h
  intros
  refine Wcut h (ctr+2) [(2,1),(1,1),(16,11)] [] (fun _ u=>Fa [] []) (fun x uc ug ut ht hu hp h=>?_) (fun f h=>?_)
  · refine Wx [] 0 [] Wz
  · revert h
    refine Wyp 1 [] 0 [] (Wq ?_)
    intro h
    intros
    refine Tr.block ?_
    refine Wlp h (ctr+3) [(2,1),(1,1),(19,8)] [(4,1)] (fun v u1=>Fa [(24,.v (.int .i64 v))] []) Wlay (fun v u1c u1g u1t f ht hu hp h=>?_)
    refine Wo0 ?_
    refine Wo 29 0 (row_Sane_ok.get (getL d_api_Row k_Rows v)) fun v1 h14=>?_
    refine Wk [] 0 [] Wz

theorem cursor_New_ok0 (cursor_between_ok:Kp (∀ (v:Int) (least:Int) (most:Int) (r:Int) (h:cursor_between v least most=some r),PureFn Tryz.prog 136 [(.v (.int .i64 v)),(.v (.int .i64 least)),(.v (.int .i64 most))] ((.v (.int .i64 r))))) (cursor_full_ok:Kp (∀ (h':Int) (w:Int) (r:T_cursor_Region) (h:cursor_full h' w=some r),PureFn Tryz.prog 135 [(.v (.int .i64 h')),(.v (.int .i64 w))] ((.agg 4 (fun j=>(D_cursor_Region nvS r j)))))) (charset_New_ok:Kp (∀  (r:T_charset_State) (h:charset_New=some r),PureFn Tryz.prog 63 [] ((.agg 7 (fun j=>(D_charset_State nvS r j)))))) (h':Int) (w:Int) (r:(T_cursor_Cursor × T_cursor_Region)) (h:cursor_New h' w=some r):PureFn Tryz.prog 50 [(.v (.int .i64 h')),(.v (.int .i64 w))] (.tup 2 (fun j=>match j with | 0=>(.agg 14 (fun j=>(D_cursor_Cursor nvS r.1 j))) | 1=>(.agg 4 (fun j=>(D_cursor_Region nvS r.2 j))) | _=>.junk)):=by
  unfold cursor_New at h
  refine Wfn Tryz.func50 (bodyOf Tryz.f50) fun ctr hc=>?_
  refine Wo0 ?_
  refine Wo 8 0 (cursor_between_ok.get h' 1 1000) fun v h1=>?_
  refine Wo 10 0 (cursor_between_ok.get w 1 4096) fun v1 h2=>?_
  refine Wo 11 0 (cursor_full_ok.get v v1) fun v2 h3=>?_
  obtain ⟨v2_H,v2_W,v2_Top,v2_Bottom⟩:=v2
  refine Wo 12 0 (charset_New_ok.get) fun v3 h4=>?_
  obtain ⟨⟨v3_G_x0,v3_G_x1,v3_G_x2,v3_G_x3⟩,v3_GL,v3_GR,v3_Once⟩:=v3
  refine Wk [999] 0 [] Wz

theorem tabs_New_ok0 (tabs_width_ok:Kp (∀ (w:Int) (r:Int) (h:tabs_width w=some r),PureFn Tryz.prog 213 [(.v (.int .i64 w))] ((.v (.int .i64 r))))) (w:Int) (r:T_tabs_Stops) (h:tabs_New w=some r):PureFn Tryz.prog 138 [(.v (.int .i64 w))] ((.agg 2 (fun j=>(D_tabs_Stops nvS r j)))):=by
  unfold tabs_New at h
  refine Wfn Tryz.func138 (bodyOf Tryz.f138) fun ctr hc=>?_
  refine Wo0 ?_
  refine Wo 6 0 (tabs_width_ok.get w) fun v h1=>?_
  revert h
  refine Wjp 2 [] 0 [] (Wq ?_)
  intro h
  intros
  refine Wcut h (ctr+2) [(4,1),(3,12)] [(3,1),(14,1)] (fun o u=>Fa [] [(3,.box (ctr+1) [.vec 18 (u.g 18) 1 0 (nvS.len o),.v (.int .i64 v)]),(18,.arr (u.g 18) 1 (nvS.len o) (u.t 18) (fun ix jx=>(.v (.int .i64 (nvS.get 0 o ix)))))]) (fun o uc ug ut ht hu hp h=>?_) (fun f h=>?_)
  · refine Wx [] 0 [] Wz
  · revert h
    refine Wyp 1 [] 0 [] (Wq ?_)
    intro h
    intros
    refine Tr.block ?_
    refine Wlp h (ctr+3) [(4,1),(3,12)] [(3,1),(14,1)] (fun (at',o1) u1=>Fa [(4,.v (.int .i64 at'))] [(3,.box (ctr+1) [.vec 18 (u1.g 18) 1 0 (nvS.len o1),.v (.int .i64 v)]),(18,.arr (u1.g 18) 1 (nvS.len o1) (u1.t 18) (fun ix jx=>(.v (.int .i64 (nvS.get 0 o1 ix)))))]) Wlay (fun x u1c u1g u1t f ht hu hp h=>?_)
    obtain ⟨at',o1⟩:=x
    try dsimp only at hp h
    refine Wx [17] 0 [] Wz

theorem row_New_ok0 (row_width_ok:Kp (∀ (w:Int) (r:Int) (h:row_width w=some r),PureFn Tryz.prog 272 [(.v (.int .i64 w))] ((.v (.int .i64 r))))) (row_lay_ok:Kp (∀ (l':List T_api_Cell) (l'_off:Int) (l'_n:Int) (p':T_api_Pen) (r:(List T_api_Cell)) (h:row_lay l' l'_off l'_n p'=some r) (l'_N:Int) (hl'_N:lenL l'=l'_N) (tg0:Bool),LentFn Tryz.prog 235 [.vec 0 0 7 l'_off l'_n,(.agg 3 (fun j=>(D_api_Pen nvS p' j)))] [.arr 0 7 l'_N tg0 (fun ix jx=>(D_api_Cell nvS (nvS.get d_api_Cell l' ix) jx))] [.arr 0 7 l'_N tg0 (fun ix jx=>(D_api_Cell nvS (nvS.get d_api_Cell r ix) jx))] (.tup 0 (fun _=>.junk)))) (w:Int) (p':T_api_Pen) (r:T_api_Row) (h:row_New w p'=some r):PureFn Tryz.prog 252 [(.v (.int .i64 w)),(.agg 3 (fun j=>(D_api_Pen nvS p' j)))] ((.agg 4 (fun j=>(D_api_Row nvS r j)))):=by
  obtain ⟨p_Fg,p_Bg,p_Flags⟩:=p'
  unfold row_New at h
  try dsimp only at h
  refine Wfn Tryz.func252 (bodyOf Tryz.f252) fun ctr hc=>?_
  refine Wo0 ?_
  refine Wo 7 0 (row_width_ok.get w) fun v1 h5=>?_
  refine Wkc 2 [] 0 [] h ctr [(3,6)] [(3,2),(3,1)] (fun l' u=>Fa [(3,.bref 3 (u.g 3) 0),(4,.bref 4 (u.g 4) 0),(5,.vec 8 (u.g 8) 7 0 (nvS.len l'))] [(3,.box (u.g 3) [.v (.int .i64 p_Fg),.v (.int .i64 p_Bg),.v (.int .i64 p_Flags)]),(4,.box (u.g 4) [.nilsl,.v (.bool false),.v (.int .i64 0),.v (.bool false)]),(8,.arr (u.g 8) 7 (nvS.len l') (u.t 8) (fun ix jx=>(D_api_Cell nvS (nvS.get d_api_Cell l' ix) jx)))]) (fun l' uc ug ut ht hu hp h=>?_) (fun f h=>Wz)
  refine Wo0 ?_
  refine Wol 11 (fun r h=>row_lay_ok.get l' 0 (lenL l') (T_api_Pen.mk p_Fg p_Bg p_Flags) r h ((nvS.len l')) Wy (ut 8)) fun v h3=>?_
  refine Wk [] 0 [] Wz

theorem grid_lay_ok0 (row_New_ok:Kp (∀ (w:Int) (p':T_api_Pen) (r:T_api_Row) (h:row_New w p'=some r),PureFn Tryz.prog 252 [(.v (.int .i64 w)),(.agg 3 (fun j=>(D_api_Pen nvS p' j)))] ((.agg 4 (fun j=>(D_api_Row nvS r j)))))) (l':List T_api_Row) (l'_off:Int) (l'_n:Int) (w:Int) (p':T_api_Pen) (r:(List T_api_Row)) (h:grid_lay l' l'_off l'_n w p'=some r) (l'_N:Int) (hl'_N:lenL l'=l'_N) (tg0:Bool):LentFn Tryz.prog 212 [.vec 0 0 4 l'_off l'_n,(.v (.int .i64 w)),(.agg 3 (fun j=>(D_api_Pen nvS p' j)))] [.arr 0 4 l'_N tg0 (fun ix jx=>(D_api_Row nvS (nvS.get d_api_Row l' ix) jx))] [.arr 0 4 l'_N tg0 (fun ix jx=>(D_api_Row nvS (nvS.get d_api_Row r ix) jx))] (.tup 0 (fun _=>.junk)):=by
  obtain ⟨p_Fg,p_Bg,p_Flags⟩:=p'
  unfold grid_lay at h
  try dsimp only at h
  refine Wfl Tryz.func212 (bodyOf Tryz.f212) fun ctr hc=>?_
  replace h:=chk_some h;obtain ⟨h10,h⟩:=h
  revert h
  refine Wyp 2 [] 1 [] (Wq ?_)
  intro h
  intros
  refine Tr.block ?_
  refine Wlp h (ctr+2) [(6,1),(2,10)] [(0,1)] (fun (v,l'1) u=>⟨[(9,.v (.int .i64 v))],[(0,.arr (0) 4 l'_N (tg0) (fun ix jx=>(D_api_Row nvS (nvS.get d_api_Row l'1 ix) jx)))],fun _=>lenL l'1=l'_N⟩) Wlay (fun x uc ug ut f ht hu hp h=>?_)
  obtain ⟨v,l'1⟩:=x
  try dsimp only at hp h
  refine Wo0 ?_
  refine Wo 17 0 (row_New_ok.get w (T_api_Pen.mk p_Fg p_Bg p_Flags)) fun v1 h7=>?_
  obtain ⟨v1_Cells,v1_Wrap,v1_Dir,v1_Explicit⟩:=v1
  refine Wk [] 1 [] Wz

theorem params_Get_ok0  (l':(List (List Int))) (k':Int) (usual:Int) (r:Int) (h:params_Get l' k' usual=some r):PureFn Tryz.prog 195 [(.sl 1 (nvS.len l') false (fun ix jx=>(.sl 1 (nvS.len (nvS.get [] l' ix)) false (fun ix1 jx1=>(.v (.int .i64 (nvS.get 0 (nvS.get [] l' ix) ix1))))))),(.v (.int .i64 k')),(.v (.int .i64 usual))] ((.v (.int .i64 r))):=by
  unfold params_Get at h
  refine Wfn Tryz.func195 (bodyOf Tryz.f195) fun ctr hc=>?_
  refine Wx [] 0 [] Wz

theorem modes_Has_ok0 (modes_Place_ok:Kp (∀ (private':Bool) (n:Int) (r:Int) (h:modes_Place private' n=some r),PureFn Tryz.prog 157 [(.v (.bool private')),(.v (.int .i64 n))] ((.v (.int .i64 r))))) (modes_Sane_ok:Kp (∀ (m:T_modes_Modes) (r:Bool) (h:modes_Sane m=some r),PureFn Tryz.prog 47 [(.agg 1 (fun j=>(D_modes_Modes nvS m j)))] ((.v (.bool r))))) (m:T_modes_Modes) (private':Bool) (n:Int) (r:Bool) (h:modes_Has m private' n=some r):PureFn Tryz.prog 68 [(.agg 1 (fun j=>(D_modes_Modes nvS m j))),(.v (.bool private')),(.v (.int .i64 n))] ((.v (.bool r))):=by
  obtain ⟨m_Bits⟩:=m
  unfold modes_Has at h
  try dsimp only at h
  refine Wfn Tryz.func68 (bodyOf Tryz.f68) fun ctr hc=>?_
  refine Wo0 ?_
  refine Wo 10 0 (modes_Place_ok.get private' n) fun v h1=>?_
  refine Wo 12 0 (modes_Sane_ok.get (T_modes_Modes.mk m_Bits)) fun v1 h2=>?_
  refine Wk [] 0 [] Wz

theorem cursor_region_ok0  (r':T_cursor_Region) (r:Bool) (h:cursor_region r'=some r):PureFn Tryz.prog 132 [(.agg 4 (fun j=>(D_cursor_Region nvS r' j)))] ((.v (.bool r))):=by
  obtain ⟨r_H,r_W,r_Top,r_Bottom⟩:=r'
  unfold cursor_region at h
  try dsimp only at h
  refine Wfn Tryz.func132 (bodyOf Tryz.f132) fun ctr hc=>?_
  refine Wx [] 0 [] Wz

theorem lapwingref12_Same_ok0  (a:T_lapwingref12_Stops) (b:T_lapwingref12_Stops) (r:Bool) (h:lapwingref12_Same a b=some r):PureFn Tryz.prog 60 [(.agg 2 (fun j=>(D_lapwingref12_Stops nvS a j))),(.agg 2 (fun j=>(D_lapwingref12_Stops nvS b j)))] ((.v (.bool r))):=by
  obtain ⟨a_L,a_W⟩:=a
  obtain ⟨b_L,b_W⟩:=b
  unfold lapwingref12_Same at h
  try dsimp only at h
  refine Wfn Tryz.func60 (bodyOf Tryz.f60) fun ctr hc=>?_
  revert h
  refine Wyp 2 [] 0 [] (Wq ?_)
  intro h
  intros
  refine Wcut h (ctr+2) [(4,2),(14,18)] [] (fun _ u=>Fa [] []) (fun x uc ug ut ht hu hp h=>?_) (fun f h=>?_)
  · refine Wx [] 0 [] Wz
  · revert h
    refine Wyp 1 [] 0 [] (Wq ?_)
    intro h
    intros
    refine Tr.block ?_
    refine Wlp h (ctr+3) [(4,2),(14,18)] [] (fun i u1=>Fa [(5,.v (.int .i64 i))] []) Wlay (fun i u1c u1g u1t f ht hu hp h=>?_)
    refine Wx [] 0 [] Wz

theorem lapwingref08_Same_ok0 (lapwingref08_Cells_ok:Kp (∀ (a:(List T_api_Cell)) (b:(List T_api_Cell)) (r:Bool) (h:lapwingref08_Cells a b=some r),PureFn Tryz.prog 217 [(.sl 7 (nvS.len a) false (fun ix jx=>(D_api_Cell nvS (nvS.get d_api_Cell a ix) jx))),(.sl 7 (nvS.len b) false (fun ix jx=>(D_api_Cell nvS (nvS.get d_api_Cell b ix) jx)))] ((.v (.bool r))))) (a:T_api_Row) (b:T_api_Row) (r:Bool) (h:lapwingref08_Same a b=some r):PureFn Tryz.prog 142 [(.agg 4 (fun j=>(D_api_Row nvS a j))),(.agg 4 (fun j=>(D_api_Row nvS b j)))] ((.v (.bool r))):=by
  obtain ⟨a_Cells,a_Wrap,a_Dir,a_Explicit⟩:=a
  obtain ⟨b_Cells,b_Wrap,b_Dir,b_Explicit⟩:=b
  unfold lapwingref08_Same at h
  try dsimp only at h
  refine Wfn Tryz.func142 (bodyOf Tryz.f142) fun ctr hc=>?_
  refine Wo0 ?_
  refine Wo 9 0 (lapwingref08_Cells_ok.get a_Cells b_Cells) fun v h1=>?_
  refine Wk [] 0 [] Wz

theorem strings_Count_ok0 (strings_Index_ok:Kp (∀ (s:ByteArray) (substr:ByteArray) (r:Int) (h:strings_Index s substr=some r),PureFn Tryz.prog 247 [(.v (.string s)),(.v (.string substr))] ((.v (.int .i64 r))))) (s:ByteArray) (substr:ByteArray) (r:Int) (h:strings_Count s substr=some r):PureFn Tryz.prog 246 [(.v (.string s)),(.v (.string substr))] ((.v (.int .i64 r))):=by
  unfold strings_Count at h
  refine Wfn Tryz.func246 (bodyOf Tryz.f246) fun ctr hc=>?_
  refine Wo0 ?_
  refine Woe 19 0 (bytealg_CountString_ok s (sidxS substr 0)) fun v h2=>?_
  revert h
  refine Wjp 4 [] 0 [] (Wq ?_)
  intro h
  intros
  refine Tr.block ?_
  refine Wlp h (ctr+4) [(0,1),(3,3),(13,14)] [] (fun (s1,n) u=>Fa [(0,.v (.string s1)),(5,.v (.int .i64 n))] []) Wlay (fun x uc ug ut f ht hu hp h=>?_)
  obtain ⟨s1,n⟩:=x
  try dsimp only at hp h
  refine Wo0 ?_
  refine Wo 22 0 (strings_Index_ok.get s1 substr) fun v1 h11=>?_
  refine Wk [] 0 [] Wz

theorem row_lay_ok0 (row_Blank_ok:Kp (∀ (p':T_api_Pen) (r:T_api_Cell) (h:row_Blank p'=some r),PureFn Tryz.prog 257 [(.agg 3 (fun j=>(D_api_Pen nvS p' j)))] ((.agg 7 (fun j=>(D_api_Cell nvS r j)))))) (l':List T_api_Cell) (l'_off:Int) (l'_n:Int) (p':T_api_Pen) (r:(List T_api_Cell)) (h:row_lay l' l'_off l'_n p'=some r) (l'_N:Int) (hl'_N:lenL l'=l'_N) (tg0:Bool):LentFn Tryz.prog 235 [.vec 0 0 7 l'_off l'_n,(.agg 3 (fun j=>(D_api_Pen nvS p' j)))] [.arr 0 7 l'_N tg0 (fun ix jx=>(D_api_Cell nvS (nvS.get d_api_Cell l' ix) jx))] [.arr 0 7 l'_N tg0 (fun ix jx=>(D_api_Cell nvS (nvS.get d_api_Cell r ix) jx))] (.tup 0 (fun _=>.junk)):=by
  obtain ⟨p_Fg,p_Bg,p_Flags⟩:=p'
  unfold row_lay at h
  try dsimp only at h
  refine Wfl Tryz.func235 (bodyOf Tryz.f235) fun ctr hc=>?_
  replace h:=chk_some h;obtain ⟨h10,h⟩:=h
  revert h
  refine Wyp 2 [] 1 [] (Wq ?_)
  intro h
  intros
  refine Tr.block ?_
  refine Wlp h (ctr+2) [(4,1),(2,9)] [(0,1)] (fun (v,l'1) u=>⟨[(7,.v (.int .i64 v))],[(0,.arr (0) 7 l'_N (tg0) (fun ix jx=>(D_api_Cell nvS (nvS.get d_api_Cell l'1 ix) jx)))],fun _=>lenL l'1=l'_N⟩) Wlay (fun x uc ug ut f ht hu hp h=>?_)
  obtain ⟨v,l'1⟩:=x
  try dsimp only at hp h
  refine Wo0 ?_
  refine Wo 14 0 (row_Blank_ok.get (T_api_Pen.mk p_Fg p_Bg p_Flags)) fun v1 h7=>?_
  obtain ⟨v1_R,⟨v1_M_x0,v1_M_x1⟩,v1_W,⟨v1_Pen_Fg,v1_Pen_Bg,v1_Pen_Flags⟩⟩:=v1
  refine Wk [] 1 [] Wz

theorem tabs_Sane_ok0  (s:T_tabs_Stops) (r:Bool) (h:tabs_Sane s=some r):PureFn Tryz.prog 128 [(.agg 2 (fun j=>(D_tabs_Stops nvS s j)))] ((.v (.bool r))):=by
  obtain ⟨s_L,s_W⟩:=s
  unfold tabs_Sane at h
  try dsimp only at h
  refine Wfn Tryz.func128 (bodyOf Tryz.f128) fun ctr hc=>?_
  revert h
  refine Wyp 3 [] 0 [] (Wq ?_)
  intro h
  intros
  refine Wcut h (ctr+3) [(2,2),(1,1),(8,18)] [] (fun _ u=>Fa [] []) (fun x uc ug ut ht hu hp h=>?_) (fun f h=>?_)
  · refine Wx [] 0 [] Wz
  · revert h
    refine Wyp 1 [] 0 [] (Wq ?_)
    intro h
    intros
    refine Tr.block ?_
    refine Wlp h (ctr+4) [(2,2),(1,1),(11,15)] [] (fun (ahead,v) u1=>Fa [(3,.v (.int .i64 ahead)),(17,.v (.int .i64 v))] []) Wlay (fun x u1c u1g u1t f ht hu hp h=>?_)
    obtain ⟨ahead,v⟩:=x
    try dsimp only at hp h
    refine Wx [] 0 [] Wz

theorem row_lost_ok0  (l':(List T_api_Cell)) (i:Int) (r:Bool) (h:row_lost l' i=some r):PureFn Tryz.prog 251 [(.sl 7 (nvS.len l') false (fun ix jx=>(D_api_Cell nvS (nvS.get d_api_Cell l' ix) jx))),(.v (.int .i64 i))] ((.v (.bool r))):=by
  unfold row_lost at h
  refine Wfn Tryz.func251 (bodyOf Tryz.f251) fun ctr hc=>?_
  refine Wx [] 0 [] Wz

theorem istrconv_FormatInt_ok0 (istrconv_small_ok:Kp (∀ (i:Int) (r:ByteArray) (h:istrconv_small i=some r),PureFn Tryz.prog 253 [(.v (.int .i64 i))] ((.v (.string r))))) (i:Int) (base:Int) (r:ByteArray) (h:istrconv_FormatInt i base=some r):PureFn Tryz.prog 216 [(.v (.int .i64 i)),(.v (.int .i64 base))] ((.v (.string r))):=by
  unfold istrconv_FormatInt at h
  refine Wfn Tryz.func216 (bodyOf Tryz.f216) fun ctr hc=>?_
  revert h
  refine Wyp 1 [] 0 [] (Wq ?_)
  intro h
  intros
  refine Wcut h (ctr+1) [(4,4),(2,34)] [] (fun _ u=>Fa [] []) (fun x uc ug ut ht hu hp h=>?_) (fun f h=>?_)
  · refine Wx [] 0 [] Wz
  · revert h
    refine Wyp 1 [] 0 [] (Wq ?_)
    intro h
    intros
    refine Wcond h rfl (fun _ h=>?_) (fun _ h=>?_)
    · refine Wo0 ?_
      refine Wo 19 0 (istrconv_small_ok.get i) fun v h3=>?_
      revert h
      refine Wjp 3 [] 0 [] (Wq ?_)
      intro h
      intros
      refine Wcut h (ctr+5) [(6,1),(15,4)] [] (fun u2 u3=>Fa [(6,.v (.int .u64 u2))] []) (fun u2 u3c u3g u3t ht hu hp h=>?_) (fun f h=>?_)
      · refine Wx [] 0 [] Wz
      · refine Wx [] 0 [] Wz
    · refine Wx [] 0 [] Wz

theorem modes_Sane_ok0 (modes_single_ok:Kp (∀ (bits:Int) (r:Bool) (h:modes_single bits=some r),PureFn Tryz.prog 131 [(.v (.int .i64 bits))] ((.v (.bool r))))) (m:T_modes_Modes) (r:Bool) (h:modes_Sane m=some r):PureFn Tryz.prog 47 [(.agg 1 (fun j=>(D_modes_Modes nvS m j)))] ((.v (.bool r))):=by
  obtain ⟨m_Bits⟩:=m
  unfold modes_Sane at h
  try dsimp only at h
  refine Wfn Tryz.func47 (bodyOf Tryz.f47) fun ctr hc=>?_
  refine Wo0 ?_
  refine Wo 14 0 (modes_single_ok.get (bndI .i64 m_Bits 28800)) fun v h1=>?_
  refine Wog 19 0 v (modes_single_ok.get (bndI .i64 m_Bits 196608)) false fun v1 h2=>?_
  refine Wk [] 0 [] Wz

theorem lapwinglaw16_cur_ok0  (c':T_lapwingref14_Cursor) (r:T_cursor_Cursor) (h:lapwinglaw16_cur c'=some r):PureFn Tryz.prog 39 [(.agg 14 (fun j=>(D_lapwingref14_Cursor nvS c' j)))] ((.agg 14 (fun j=>(D_cursor_Cursor nvS r j)))):=by
  obtain ⟨c_X,c_Y,c_Wrap,c_Origin,⟨c_Pen_Fg,c_Pen_Bg,c_Pen_Flags⟩,⟨⟨c_Set_G_x0,c_Set_G_x1,c_Set_G_x2,c_Set_G_x3⟩,c_Set_GL,c_Set_GR,c_Set_Once⟩⟩:=c'
  unfold lapwinglaw16_cur at h
  try dsimp only at h
  refine Wfn Tryz.func39 (bodyOf Tryz.f39) fun ctr hc=>?_
  refine Wx [] 0 [] Wz

theorem lapwingref15_Few_ok0 (lapwingref09_Few_ok:Kp (∀ (l':(List T_api_Row)) (r:Bool) (h:lapwingref09_Few l'=some r),PureFn Tryz.prog 58 [(.sl 4 (nvS.len l') false (fun ix jx=>(D_api_Row nvS (nvS.get d_api_Row l' ix) jx)))] ((.v (.bool r))))) (s:T_lapwingref15_Screen) (r:Bool) (h:lapwingref15_Few s=some r):PureFn Tryz.prog 23 [(.agg 25 (fun j=>(D_lapwingref15_Screen nvS s j)))] ((.v (.bool r))):=by
  obtain ⟨⟨s_G_Rows⟩,⟨s_C_X,s_C_Y,s_C_Wrap,s_C_Origin,⟨s_C_Pen_Fg,s_C_Pen_Bg,s_C_Pen_Flags⟩,⟨⟨s_C_Set_G_x0,s_C_Set_G_x1,s_C_Set_G_x2,s_C_Set_G_x3⟩,s_C_Set_GL,s_C_Set_GR,s_C_Set_Once⟩⟩,⟨s_R_H,s_R_W,s_R_Top,s_R_Bottom⟩,⟨s_T_L,s_T_W⟩,⟨s_K_Rows,s_K_Cap⟩,s_Dir,s_Explicit⟩:=s
  unfold lapwingref15_Few at h
  try dsimp only at h
  refine Wfn Tryz.func23 (bodyOf Tryz.f23) fun ctr hc=>?_
  refine Wo0 ?_
  refine Wo 6 0 (lapwingref09_Few_ok.get s_G_Rows) fun v h1=>?_
  refine Wog 11 0 v (lapwingref09_Few_ok.get s_K_Rows) false fun v1 h2=>?_
  refine Wk [] 0 [] Wz

theorem lapwinglaw16_plain_ok0  (c':T_cursor_Cursor) (r:T_lapwingref14_Cursor) (h:lapwinglaw16_plain c'=some r):PureFn Tryz.prog 18 [(.agg 14 (fun j=>(D_cursor_Cursor nvS c' j)))] ((.agg 14 (fun j=>(D_lapwingref14_Cursor nvS r j)))):=by
  obtain ⟨c_X,c_Y,c_Wrap,c_Origin,⟨c_Pen_Fg,c_Pen_Bg,c_Pen_Flags⟩,⟨⟨c_Set_G_x0,c_Set_G_x1,c_Set_G_x2,c_Set_G_x3⟩,c_Set_GL,c_Set_GR,c_Set_Once⟩⟩:=c'
  unfold lapwinglaw16_plain at h
  try dsimp only at h
  refine Wfn Tryz.func18 (bodyOf Tryz.f18) fun ctr hc=>?_
  refine Wx [] 0 [] Wz

theorem pen_Sane_ok0 (pen_isColour_ok:Kp (∀ (c':Int) (r:Bool) (h:pen_isColour c'=some r),PureFn Tryz.prog 211 [(.v (.int .i64 c'))] ((.v (.bool r))))) (p':T_api_Pen) (r:Bool) (h:pen_Sane p'=some r):PureFn Tryz.prog 134 [(.agg 3 (fun j=>(D_api_Pen nvS p' j)))] ((.v (.bool r))):=by
  obtain ⟨p_Fg,p_Bg,p_Flags⟩:=p'
  unfold pen_Sane at h
  try dsimp only at h
  refine Wfn Tryz.func134 (bodyOf Tryz.f134) fun ctr hc=>?_
  refine Wo0 ?_
  refine Wo 5 0 (pen_isColour_ok.get p_Fg) fun v h1=>?_
  refine Wog 9 0 v (pen_isColour_ok.get p_Bg) false fun v1 h2=>?_
  refine Wk [] 0 [] Wz

theorem interp_locking_ok0 (interp_setting_ok:Kp (∀ (f':FV) (r:FV) (h:interp_setting f'=some r),PureFn Tryz.prog 164 [(.fn (.func (nvS.fF f')) (nvS.fK f') (nvS.fC f'))] ((.fn (.func (nvS.fF r)) (nvS.fK r) (nvS.fC r))))) (at':Int) (right:Bool) (r:FV) (h:interp_locking at' right=some r):PureFn Tryz.prog 78 [(.v (.int .i64 at')),(.v (.bool right))] ((.fn (.func (nvS.fF r)) (nvS.fK r) (nvS.fC r))):=by
  unfold interp_locking at h
  refine Wfn Tryz.func78 (bodyOf Tryz.f78) fun ctr hc=>?_
  refine Wo0 ?_
  refine Wo 6 6 (interp_setting_ok.get (FV.bool (FV.int (FV.nil 165) .i64 at') right)) fun v h1=>?_
  refine Wk [] 0 [] Wz

theorem stringslite_Index_ok0 (stringslite_IndexByte_ok:Kp (∀ (s:ByteArray) (c':Int) (r:Int) (h:stringslite_IndexByte s c'=some r),PureFn Tryz.prog 84 [(.v (.string s)),(.v (.int .u8 c'))] ((.v (.int .i64 r))))) (s:ByteArray) (substr:ByteArray) (r:Int) (h:stringslite_Index s substr=some r):PureFn Tryz.prog 264 [(.v (.string s)),(.v (.string substr))] ((.v (.int .i64 r))):=by
  unfold stringslite_Index at h
  refine Wfn Tryz.func264 (bodyOf Tryz.f264) fun ctr hc=>?_
  refine Wo0 ?_
  refine Wo 30 0 (stringslite_IndexByte_ok.get s (sidxS substr 0)) fun v h2=>?_
  refine Wkp 8 [] 0 [] Wz

theorem lapwingref08_Cells_ok0  (a:(List T_api_Cell)) (b:(List T_api_Cell)) (r:Bool) (h:lapwingref08_Cells a b=some r):PureFn Tryz.prog 217 [(.sl 7 (nvS.len a) false (fun ix jx=>(D_api_Cell nvS (nvS.get d_api_Cell a ix) jx))),(.sl 7 (nvS.len b) false (fun ix jx=>(D_api_Cell nvS (nvS.get d_api_Cell b ix) jx)))] ((.v (.bool r))):=by
  unfold lapwingref08_Cells at h
  refine Wfn Tryz.func217 (bodyOf Tryz.f217) fun ctr hc=>?_
  revert h
  refine Wyp 2 [] 0 [] (Wq ?_)
  intro h
  intros
  refine Wcut h (ctr+2) [(4,2),(5,15)] [] (fun _ u=>Fa [] []) (fun x uc ug ut ht hu hp h=>?_) (fun f h=>?_)
  · refine Wx [] 0 [] Wz
  · revert h
    refine Wyp 1 [] 0 [] (Wq ?_)
    intro h
    intros
    refine Tr.block ?_
    refine Wlp h (ctr+3) [(4,2),(5,15)] [] (fun i u1=>Fa [(5,.v (.int .i64 i))] []) Wlay (fun i u1c u1g u1t f ht hu hp h=>?_)
    refine Wx [] 0 [] Wz

theorem lapwingref10_Same_ok0 (lapwingref09_Same_ok:Kp (∀ (a:(List T_api_Row)) (b:(List T_api_Row)) (r:Bool) (h:lapwingref09_Same a b=some r),PureFn Tryz.prog 59 [(.sl 4 (nvS.len a) false (fun ix jx=>(D_api_Row nvS (nvS.get d_api_Row a ix) jx))),(.sl 4 (nvS.len b) false (fun ix jx=>(D_api_Row nvS (nvS.get d_api_Row b ix) jx)))] ((.v (.bool r))))) (a:T_lapwingref10_Kept) (b:T_lapwingref10_Kept) (r:Bool) (h:lapwingref10_Same a b=some r):PureFn Tryz.prog 61 [(.agg 2 (fun j=>(D_lapwingref10_Kept nvS a j))),(.agg 2 (fun j=>(D_lapwingref10_Kept nvS b j)))] ((.v (.bool r))):=by
  obtain ⟨a_Rows,a_Cap⟩:=a
  obtain ⟨b_Rows,b_Cap⟩:=b
  unfold lapwingref10_Same at h
  try dsimp only at h
  refine Wfn Tryz.func61 (bodyOf Tryz.f61) fun ctr hc=>?_
  refine Wo0 ?_
  refine Wog 15 0 (a_Cap == b_Cap) (lapwingref09_Same_ok.get a_Rows b_Rows) false fun v h1=>?_
  refine Wk [] 0 [] Wz

theorem strconv_ParseInt_ok0 (istrconv_ParseInt_ok:Kp (∀ (s:ByteArray) (base:Int) (bitSize:Int) (r:(Int × Unit)) (h:istrconv_ParseInt s base bitSize=some r),PureFn Tryz.prog 248 [(.v (.string s)),(.v (.int .i64 base)),(.v (.int .i64 bitSize))] (.tup 2 (fun j=>match j with | 0=>(.v (.int .i64 r.1)) | 1=>(.v .nilIface) | _=>.junk)))) (s:ByteArray) (base:Int) (bitSize:Int) (r:(Int × Unit)) (h:strconv_ParseInt s base bitSize=some r):PureFn Tryz.prog 207 [(.v (.string s)),(.v (.int .i64 base)),(.v (.int .i64 bitSize))] (.tup 2 (fun j=>match j with | 0=>(.v (.int .i64 r.1)) | 1=>(.v .nilIface) | _=>.junk)):=by
  unfold strconv_ParseInt at h
  refine Wfn Tryz.func207 (bodyOf Tryz.f207) fun ctr hc=>?_
  refine Wo0 ?_
  refine Wo 13 0 (istrconv_ParseInt_ok.get s base bitSize) fun v h1=>?_
  obtain ⟨v_0,v_1⟩:=v
  refine Wk [] 0 [] Wz

theorem lapwingref09_Few_ok0  (l':(List T_api_Row)) (r:Bool) (h:lapwingref09_Few l'=some r):PureFn Tryz.prog 58 [(.sl 4 (nvS.len l') false (fun ix jx=>(D_api_Row nvS (nvS.get d_api_Row l' ix) jx)))] ((.v (.bool r))):=by
  unfold lapwingref09_Few at h
  refine Wfn Tryz.func58 (bodyOf Tryz.f58) fun ctr hc=>?_
  revert h
  refine Wyp 2 [] 0 [] (Wq ?_)
  intro h
  intros
  refine Wcut h (ctr+2) [(2,2),(3,13)] [] (fun _ u=>Fa [] []) (fun x uc ug ut ht hu hp h=>?_) (fun f h=>?_)
  · refine Wx [] 0 [] Wz
  · revert h
    refine Wyp 1 [] 0 [] (Wq ?_)
    intro h
    intros
    refine Tr.block ?_
    refine Wlp h (ctr+3) [(2,2),(3,13)] [] (fun i u1=>Fa [(3,.v (.int .i64 i))] []) Wlay (fun i u1c u1g u1t f ht hu hp h=>?_)
    refine Wx [] 0 [] Wz

theorem ucd_hex_ok0 (strconv_ParseInt_ok:Kp (∀ (s:ByteArray) (base:Int) (bitSize:Int) (r:(Int × Unit)) (h:strconv_ParseInt s base bitSize=some r),PureFn Tryz.prog 207 [(.v (.string s)),(.v (.int .i64 base)),(.v (.int .i64 bitSize))] (.tup 2 (fun j=>match j with | 0=>(.v (.int .i64 r.1)) | 1=>(.v .nilIface) | _=>.junk)))) (s:ByteArray) (r:Int) (h:ucd_hex s=some r):PureFn Tryz.prog 126 [(.v (.string s))] ((.v (.int .i64 r))):=by
  unfold ucd_hex at h
  refine Wfn Tryz.func126 (bodyOf Tryz.f126) fun ctr hc=>?_
  refine Wo0 ?_
  refine Wo 7 0 (strconv_ParseInt_ok.get s 16 32) fun v h1=>?_
  obtain ⟨v_0,v_1⟩:=v
  refine Wk [] 0 [] Wz

theorem lapwingref16_short_ok0  (l':(List T_api_Row)) (r:Bool) (h:lapwingref16_short l'=some r):PureFn Tryz.prog 22 [(.sl 4 (nvS.len l') false (fun ix jx=>(D_api_Row nvS (nvS.get d_api_Row l' ix) jx)))] ((.v (.bool r))):=by
  unfold lapwingref16_short at h
  refine Wfn Tryz.func22 (bodyOf Tryz.f22) fun ctr hc=>?_
  revert h
  refine Wyp 2 [] 0 [] (Wq ?_)
  intro h
  intros
  refine Wcut h (ctr+2) [(2,2),(3,13)] [] (fun _ u=>Fa [] []) (fun x uc ug ut ht hu hp h=>?_) (fun f h=>?_)
  · refine Wx [] 0 [] Wz
  · revert h
    refine Wyp 1 [] 0 [] (Wq ?_)
    intro h
    intros
    refine Tr.block ?_
    refine Wlp h (ctr+3) [(2,2),(3,13)] [] (fun i u1=>Fa [(3,.v (.int .i64 i))] []) Wlay (fun i u1c u1g u1t f ht hu hp h=>?_)
    refine Wx [] 0 [] Wz

theorem interp_shifting_ok0 (interp_setting_ok:Kp (∀ (f':FV) (r:FV) (h:interp_setting f'=some r),PureFn Tryz.prog 164 [(.fn (.func (nvS.fF f')) (nvS.fK f') (nvS.fC f'))] ((.fn (.func (nvS.fF r)) (nvS.fK r) (nvS.fC r))))) (at':Int) (r:FV) (h:interp_shifting at'=some r):PureFn Tryz.prog 83 [(.v (.int .i64 at'))] ((.fn (.func (nvS.fF r)) (nvS.fK r) (nvS.fC r))):=by
  unfold interp_shifting at h
  refine Wfn Tryz.func83 (bodyOf Tryz.f83) fun ctr hc=>?_
  refine Wo0 ?_
  refine Wo 4 6 (interp_setting_ok.get (FV.int (FV.nil 169) .i64 at')) fun v h1=>?_
  refine Wk [] 0 [] Wz

theorem strings_Split_ok0 (strings_genSplit_ok:Kp (∀ (s:ByteArray) (sep:ByteArray) (sepSave:Int) (n:Int) (r:(List ByteArray)) (h:strings_genSplit s sep sepSave n=some r),PureFn Tryz.prog 204 [(.v (.string s)),(.v (.string sep)),(.v (.int .i64 sepSave)),(.v (.int .i64 n))] (.own 1 (nvS.len r) false (fun ix jx=>(.v (.string (nvS.get ByteArray.empty r ix))))))) (s:ByteArray) (sep:ByteArray) (r:(List ByteArray)) (h:strings_Split s sep=some r):PureFn Tryz.prog 124 [(.v (.string s)),(.v (.string sep))] (.own 1 (nvS.len r) false (fun ix jx=>(.v (.string (nvS.get ByteArray.empty r ix))))):=by
  unfold strings_Split at h
  refine Wfn Tryz.func124 (bodyOf Tryz.f124) fun ctr hc=>?_
  refine Wo0 ?_
  refine Wo 7 1 (strings_genSplit_ok.get s sep 0 (-1)) fun v h1=>?_
  refine Wk [] 0 [] Wz

theorem lapwingref05_Few_ok0  (l':(List (List Int))) (r:Bool) (h:lapwingref05_Few l'=some r):PureFn Tryz.prog 24 [(.sl 1 (nvS.len l') false (fun ix jx=>(.sl 1 (nvS.len (nvS.get [] l' ix)) false (fun ix1 jx1=>(.v (.int .i64 (nvS.get 0 (nvS.get [] l' ix) ix1)))))))] ((.v (.bool r))):=by
  unfold lapwingref05_Few at h
  refine Wfn Tryz.func24 (bodyOf Tryz.f24) fun ctr hc=>?_
  revert h
  refine Wyp 2 [] 0 [] (Wq ?_)
  intro h
  intros
  refine Wcut h (ctr+2) [(2,2),(3,12)] [] (fun _ u=>Fa [] []) (fun x uc ug ut ht hu hp h=>?_) (fun f h=>?_)
  · refine Wx [] 0 [] Wz
  · revert h
    refine Wyp 1 [] 0 [] (Wq ?_)
    intro h
    intros
    refine Tr.block ?_
    refine Wlp h (ctr+3) [(2,2),(3,12)] [] (fun i u1=>Fa [(3,.v (.int .i64 i))] []) Wlay (fun i u1c u1g u1t f ht hu hp h=>?_)
    refine Wx [] 0 [] Wz

theorem interp_kind_ok0 (params_Get_ok:Kp (∀ (l':(List (List Int))) (k':Int) (usual:Int) (r:Int) (h:params_Get l' k' usual=some r),PureFn Tryz.prog 195 [(.sl 1 (nvS.len l') false (fun ix jx=>(.sl 1 (nvS.len (nvS.get [] l' ix)) false (fun ix1 jx1=>(.v (.int .i64 (nvS.get 0 (nvS.get [] l' ix) ix1))))))),(.v (.int .i64 k')),(.v (.int .i64 usual))] ((.v (.int .i64 r))))) (a:T_api_Action) (r:Int) (h:interp_kind a=some r):PureFn Tryz.prog 178 [(.agg 6 (fun j=>(D_api_Action nvS a j)))] ((.v (.int .i64 r))):=by
  obtain ⟨a_What,a_R,a_Final,a_Inter,a_Params,a_Text⟩:=a
  unfold interp_kind at h
  try dsimp only at h
  refine Wfn Tryz.func178 (bodyOf Tryz.f178) fun ctr hc=>?_
  refine Wo0 ?_
  refine Wo 5 0 (params_Get_ok.get a_Params 0 0) fun v h1=>?_
  refine Wk [] 0 [] Wz

theorem history_New_ok0 (history_bounded_ok:Kp (∀ (n:Int) (most:Int) (r:Int) (h:history_bounded n most=some r),PureFn Tryz.prog 214 [(.v (.int .i64 n)),(.v (.int .i64 most))] ((.v (.int .i64 r))))) (c':Int) (r:T_history_Kept) (h:history_New c'=some r):PureFn Tryz.prog 139 [(.v (.int .i64 c'))] ((.agg 2 (fun j=>(D_history_Kept nvS r j)))):=by
  unfold history_New at h
  refine Wfn Tryz.func139 (bodyOf Tryz.f139) fun ctr hc=>?_
  refine Wo0 ?_
  refine Wo 4 0 (history_bounded_ok.get c' 200) fun v h1=>?_
  refine Wk [] 0 [] Wz

theorem cursor_inside_ok0  (c':T_cursor_Cursor) (r':T_cursor_Region) (r:Bool) (h:cursor_inside c' r'=some r):PureFn Tryz.prog 133 [(.agg 14 (fun j=>(D_cursor_Cursor nvS c' j))),(.agg 4 (fun j=>(D_cursor_Region nvS r' j)))] ((.v (.bool r))):=by
  obtain ⟨c_X,c_Y,c_Wrap,c_Origin,⟨c_Pen_Fg,c_Pen_Bg,c_Pen_Flags⟩,⟨⟨c_Set_G_x0,c_Set_G_x1,c_Set_G_x2,c_Set_G_x3⟩,c_Set_GL,c_Set_GR,c_Set_Once⟩⟩:=c'
  obtain ⟨r_H,r_W,r_Top,r_Bottom⟩:=r'
  unfold cursor_inside at h
  try dsimp only at h
  refine Wfn Tryz.func133 (bodyOf Tryz.f133) fun ctr hc=>?_
  refine Wx [] 0 [] Wz

theorem stringslite_IndexByte_ok0  (s:ByteArray) (c':Int) (r:Int) (h:stringslite_IndexByte s c'=some r):PureFn Tryz.prog 84 [(.v (.string s)),(.v (.int .u8 c'))] ((.v (.int .i64 r))):=by
  unfold stringslite_IndexByte at h
  refine Wfn Tryz.func84 (bodyOf Tryz.f84) fun ctr hc=>?_
  refine Wo0 ?_
  refine Woe 7 0 (bytealg_IndexByteString_ok s c') fun v h1=>?_
  refine Wk [] 0 [] Wz

theorem strings_Index_ok0 (stringslite_Index_ok:Kp (∀ (s:ByteArray) (substr:ByteArray) (r:Int) (h:stringslite_Index s substr=some r),PureFn Tryz.prog 264 [(.v (.string s)),(.v (.string substr))] ((.v (.int .i64 r))))) (s:ByteArray) (substr:ByteArray) (r:Int) (h:strings_Index s substr=some r):PureFn Tryz.prog 247 [(.v (.string s)),(.v (.string substr))] ((.v (.int .i64 r))):=by
  unfold strings_Index at h
  refine Wfn Tryz.func247 (bodyOf Tryz.f247) fun ctr hc=>?_
  refine Wo0 ?_
  refine Wo 7 0 (stringslite_Index_ok.get s substr) fun v h1=>?_
  refine Wk [] 0 [] Wz

theorem pen_isColour_ok0  (c':Int) (r:Bool) (h:pen_isColour c'=some r):PureFn Tryz.prog 211 [(.v (.int .i64 c'))] ((.v (.bool r))):=by
  unfold pen_isColour at h
  refine Wfn Tryz.func211 (bodyOf Tryz.f211) fun ctr hc=>?_
  refine Wx [] 0 [] Wz

theorem row_Blank_ok0  (p':T_api_Pen) (r:T_api_Cell) (h:row_Blank p'=some r):PureFn Tryz.prog 257 [(.agg 3 (fun j=>(D_api_Pen nvS p' j)))] ((.agg 7 (fun j=>(D_api_Cell nvS r j)))):=by
  obtain ⟨p_Fg,p_Bg,p_Flags⟩:=p'
  unfold row_Blank at h
  try dsimp only at h
  refine Wfn Tryz.func257 (bodyOf Tryz.f257) fun ctr hc=>?_
  refine Wx [] 0 [] Wz

theorem ucd_words_ok0 (strings_FieldsFunc_52_ok:Kp (∀ (s:ByteArray) (r:(List ByteArray)) (h:strings_FieldsFunc_52 s=some r),PureFn Tryz.prog 205 [(.v (.string s)),.fn (.func 206) 0 (fun _=>.junk)] (.own 1 (nvS.len r) false (fun ix jx=>(.v (.string (nvS.get ByteArray.empty r ix))))))) (e:ByteArray) (r:(List ByteArray)) (h:ucd_words e=some r):PureFn Tryz.prog 125 [(.v (.string e))] (.own 1 (nvS.len r) false (fun ix jx=>(.v (.string (nvS.get ByteArray.empty r ix))))):=by
  unfold ucd_words at h
  refine Wfn Tryz.func125 (bodyOf Tryz.f125) fun ctr hc=>?_
  refine Wo0 ?_
  refine Wo 4 1 (strings_FieldsFunc_52_ok.get e) fun v h1=>?_
  refine Wk [] 0 [] Wz
end Go.Vx
