/- Walks, by program: each of what it calls. -/
import Derived.Test.YtmkigppfdmghnaaGreatDoorIHead
set_option linter.all false
namespace Go.Vx
open Go.Proofs
set_option maxRecDepth 100000
set_option maxHeartbeats 8000000
set_option linter.unusedVariables false
set_option linter.unusedSimpArgs false
attribute [local irreducible] chk iteO bindO cutO nilO
theorem interp_escapes_ok0 (interp_doing_ok:Kp (∀ (f':FV) (r:FV) (h:interp_doing f'=some r),PureFn Tryz.prog 70 [(.fn (.func (nvS.fF f')) (nvS.fK f') (nvS.fC f'))] ((.fn (.func (nvS.fF r)) (nvS.fK r) (nvS.fC r))))) (interp_locking_ok:Kp (∀ (at':Int) (right:Bool) (r:FV) (h:interp_locking at' right=some r),PureFn Tryz.prog 78 [(.v (.int .i64 at')),(.v (.bool right))] ((.fn (.func (nvS.fF r)) (nvS.fK r) (nvS.fC r))))) (interp_shifting_ok:Kp (∀ (at':Int) (r:FV) (h:interp_shifting at'=some r),PureFn Tryz.prog 83 [(.v (.int .i64 at'))] ((.fn (.func (nvS.fF r)) (nvS.fK r) (nvS.fC r)))))  (r:(List T_interp_line)) (h:interp_escapes=some r):PureFn Tryz.prog 34 [] ((.sl 3 (nvS.len r) false (fun ix jx=>(D_interp_line nvS (nvS.get d_interp_line r ix) jx)))):=by
  unfold interp_escapes at h
  refine Wfn Tryz.func34 (bodyOf Tryz.f34) fun ctr hc=>?_
  refine Wo0 ?_
  refine Wo 3 6 (interp_doing_ok.get (FV.nil 79)) fun v h1=>?_
  refine Wo 5 6 (interp_doing_ok.get (FV.nil 80)) fun v1 h2=>?_
  refine Wo 7 6 (interp_doing_ok.get (FV.nil 82)) fun v2 h3=>?_
  refine Wo 11 0 (interp_locking_ok.get 2 false) fun v3 h4=>?_
  refine Wo 13 0 (interp_locking_ok.get 3 false) fun v4 h5=>?_
  refine Wo 15 0 (interp_locking_ok.get 1 true) fun v5 h6=>?_
  refine Wo 17 0 (interp_locking_ok.get 2 true) fun v6 h7=>?_
  refine Wo 19 0 (interp_locking_ok.get 3 true) fun v7 h8=>?_
  refine Wo 21 0 (interp_shifting_ok.get 2) fun v8 h9=>?_
  refine Wo 23 0 (interp_shifting_ok.get 3) fun v9 h10=>?_
  refine Wk [26] 0 [] Wz

theorem row_fits_ok0 (pen_Sane_ok:Kp (∀ (p':T_api_Pen) (r:Bool) (h:pen_Sane p'=some r),PureFn Tryz.prog 134 [(.agg 3 (fun j=>(D_api_Pen nvS p' j)))] ((.v (.bool r))))) (c':T_api_Cell) (r:Bool) (h:row_fits c'=some r):PureFn Tryz.prog 223 [(.agg 7 (fun j=>(D_api_Cell nvS c' j)))] ((.v (.bool r))):=by
  obtain ⟨c_R,⟨c_M_x0,c_M_x1⟩,c_W,⟨c_Pen_Fg,c_Pen_Bg,c_Pen_Flags⟩⟩:=c'
  unfold row_fits at h
  try dsimp only at h
  refine Wfn Tryz.func223 (bodyOf Tryz.f223) fun ctr hc=>?_
  revert h
  refine Wyp 1 [] 0 [] (Wq ?_)
  intro h
  intros
  refine Wcut h (ctr+1) [(2,1),(1,22)] [] (fun _ u=>Fa [] []) (fun x uc ug ut ht hu hp h=>?_) (fun f h=>?_)
  · refine Wo0 ?_
    refine Wog 49 0 (!(if (if (decide (c_R < 0))=true then true else (decide (1114111 < c_R)))=true then true else (if (c_M_x0 == 0)=true then (!(c_M_x1 == 0)) else false))) (pen_Sane_ok.get (T_api_Pen.mk c_Pen_Fg c_Pen_Bg c_Pen_Flags)) false fun v h3=>?_
    refine Wk [] 0 [] Wz
  · revert h
    refine Wyp 1 [] 0 [] (Wq ?_)
    intro h
    intros
    refine Tr.block ?_
    refine Tr.rounds 3 ?_
    refine Wrnd h (ctr+2) [(2,1),(1,1),(2,19)] [] (fun _ u1=>Fa [(7,.v (.int .i64 1))] []) (fun x u1c u1g u1t ht hu hp h=>?_) (fun f h=>?_)
    · refine Wrnd h u1c [(2,1),(1,1),(2,19)] [] (fun _ u2=>Fa [(7,.v (.int .i64 2))] []) (fun x u2c u2g u2t ht hu hp h=>?_) (fun f h=>?_)
      · refine Wx [] 0 [] Wz
      · refine Wx [] 0 [] Wz
    · refine Wx [] 0 [] Wz

theorem interp_find_1_ok0  (s:T_interp_State) (u:T_ucd_Data) (u1:T_api_Action) (r:T_interp_State) (h:interp_find_1 s u u1=some r):PureFn Tryz.prog 69 [(.agg 83 (fun j=>(D_interp_State nvS s j))),(.agg 6 (fun j=>(D_ucd_Data nvS u j))),(.agg 6 (fun j=>(D_api_Action nvS u1 j)))] ((.agg 83 (fun j=>(D_interp_State nvS r j)))):=by
  obtain ⟨⟨⟨s_Main_G_Rows⟩,⟨s_Main_C_X,s_Main_C_Y,s_Main_C_Wrap,s_Main_C_Origin,⟨s_Main_C_Pen_Fg,s_Main_C_Pen_Bg,s_Main_C_Pen_Flags⟩,⟨⟨s_Main_C_Set_G_x0,s_Main_C_Set_G_x1,s_Main_C_Set_G_x2,s_Main_C_Set_G_x3⟩,s_Main_C_Set_GL,s_Main_C_Set_GR,s_Main_C_Set_Once⟩⟩,⟨s_Main_R_H,s_Main_R_W,s_Main_R_Top,s_Main_R_Bottom⟩,⟨s_Main_T_L,s_Main_T_W⟩,⟨s_Main_K_Rows,s_Main_K_Cap⟩,s_Main_Dir,s_Main_Explicit⟩,⟨⟨s_Other_G_Rows⟩,⟨s_Other_C_X,s_Other_C_Y,s_Other_C_Wrap,s_Other_C_Origin,⟨s_Other_C_Pen_Fg,s_Other_C_Pen_Bg,s_Other_C_Pen_Flags⟩,⟨⟨s_Other_C_Set_G_x0,s_Other_C_Set_G_x1,s_Other_C_Set_G_x2,s_Other_C_Set_G_x3⟩,s_Other_C_Set_GL,s_Other_C_Set_GR,s_Other_C_Set_Once⟩⟩,⟨s_Other_R_H,s_Other_R_W,s_Other_R_Top,s_Other_R_Bottom⟩,⟨s_Other_T_L,s_Other_T_W⟩,⟨s_Other_K_Rows,s_Other_K_Cap⟩,s_Other_Dir,s_Other_Explicit⟩,s_On,⟨s_M_Bits⟩,⟨⟨s_Saved_x0_X,s_Saved_x0_Y,s_Saved_x0_Wrap,s_Saved_x0_Origin,⟨s_Saved_x0_Pen_Fg,s_Saved_x0_Pen_Bg,s_Saved_x0_Pen_Flags⟩,⟨⟨s_Saved_x0_Set_G_x0,s_Saved_x0_Set_G_x1,s_Saved_x0_Set_G_x2,s_Saved_x0_Set_G_x3⟩,s_Saved_x0_Set_GL,s_Saved_x0_Set_GR,s_Saved_x0_Set_Once⟩⟩,⟨s_Saved_x1_X,s_Saved_x1_Y,s_Saved_x1_Wrap,s_Saved_x1_Origin,⟨s_Saved_x1_Pen_Fg,s_Saved_x1_Pen_Bg,s_Saved_x1_Pen_Flags⟩,⟨⟨s_Saved_x1_Set_G_x0,s_Saved_x1_Set_G_x1,s_Saved_x1_Set_G_x2,s_Saved_x1_Set_G_x3⟩,s_Saved_x1_Set_GL,s_Saved_x1_Set_GR,s_Saved_x1_Set_Once⟩⟩⟩,s_Out,s_Title,s_Last⟩:=s
  obtain ⟨⟨u_Class_L⟩,⟨u_Wide_L⟩,⟨u_Join_L⟩,u_Mirror,u_Brackets,u_Forms⟩:=u
  obtain ⟨u1_What,u1_R,u1_Final,u1_Inter,u1_Params,u1_Text⟩:=u1
  unfold interp_find_1 at h
  try dsimp only at h
  refine Wfn Tryz.func69 (bodyOf Tryz.f69) fun ctr hc=>?_
  refine Wx [] 0 [] Wz

theorem strings_FieldsFunc_52_ok0 (ucd_words_1_ok:Kp (∀ (c':Int) (r:Bool) (h:ucd_words_1 c'=some r),PureFn Tryz.prog 206 [(.v (.int .i32 c'))] ((.v (.bool r))))) (s:ByteArray) (r:(List ByteArray)) (h:strings_FieldsFunc_52 s=some r):PureFn Tryz.prog 205 [(.v (.string s)),.fn (.func 206) 0 (fun _=>.junk)] (.own 1 (nvS.len r) false (fun ix jx=>(.v (.string (nvS.get ByteArray.empty r ix))))):=by
  unfold strings_FieldsFunc_52 at h
  refine Wfn Tryz.func205 (bodyOf Tryz.f205) fun ctr hc=>?_
  revert h
  refine Wyp 3 [] 0 [] (Wq ?_)
  intro h
  intros
  refine Wcut h (ctr+3) [(5,4),(4,22)] [(12,1),(1,1)] (fun (start,spans) u=>Fa [(5,.vec 12 (u.g 12) 2 0 (nvS.len spans)),(6,.v (.int .i64 start))] [(12,.arr (u.g 12) 2 (nvS.len spans) (u.t 12) (fun ix jx=>(D_strings_span nvS (nvS.get d_strings_span spans ix) jx)))]) (fun x uc ug ut ht hu hp h=>?_) (fun f h=>?_)
  · obtain ⟨start,spans⟩:=x
    try dsimp only at hp h
    refine Wcut h uc [(5,1),(29,9)] [(12,1),(30,1)] (fun spans1 u1=>Fa [(5,.vec 12 (u1.g 12) 2 0 (nvS.len spans1))] [(12,.arr (u1.g 12) 2 (nvS.len spans1) (u1.t 12) (fun ix jx=>(D_strings_span nvS (nvS.get d_strings_span spans1 ix) jx)))]) (fun spans1 u1c u1g u1t ht hu hp h=>?_) (fun f h=>?_)
    · revert h
      refine Wyp 1 [] 0 [] (Wq ?_)
      intro h
      intros
      refine Wcut h (u1c+1) [(10,2),(35,17)] [(46,1)] (fun a u2=>⟨[],[(46,.arr (u1c+0) 1 (nvS.len spans1) (u2.t 46) (fun ix jx=>(.v (.string (nvS.get ByteArray.empty a ix)))))],fun _=>lenL a=(lenL spans1)⟩) (fun a u2c u2g u2t ht hu hp h=>?_) (fun f h=>?_)
      · try dsimp only at hp h
        refine Wx [] 0 [] Wz
      · revert h
        refine Wyp 1 [] 0 [] (Wq ?_)
        intro h
        intros
        refine Tr.block ?_
        refine Wlp h (u1c+2) [(10,2),(37,15)] [(11,1),(34,1)] (fun (v,a1) u3=>⟨[(49,.v (.int .i64 v))],[(46,.arr (u1c+0) 1 (nvS.len spans1) (u3.t 46) (fun ix jx=>(.v (.string (nvS.get ByteArray.empty a1 ix)))))],fun _=>lenL a1=(lenL spans1)⟩) Wlay (fun x u3c u3g u3t f ht hu hp h=>?_)
        obtain ⟨v,a1⟩:=x
        try dsimp only at hp h
        refine Wx [] 0 [] Wz
    · refine Wx [42] 0 [] Wz
  · revert h
    refine Wyp 1 [] 0 [] (Wq ?_)
    intro h
    intros
    refine Tr.block ?_
    refine Wlp h (ctr+4) [(5,4),(6,20)] [(12,1),(1,1),(14,1)] (fun (start1,spans2,pos) u4=>Fa [(5,.vec 12 (u4.g 12) 2 0 (nvS.len spans2)),(6,.v (.int .i64 start1))] [(12,.arr (u4.g 12) 2 (nvS.len spans2) (u4.t 12) (fun ix jx=>(D_strings_span nvS (nvS.get d_strings_span spans2 ix) jx))),(14,.iter (ctr+3) s pos)]) Wlay (fun x u4c u4g u4t f ht hu hp h=>?_)
    obtain ⟨start1,spans2,pos⟩:=x
    try dsimp only at hp h
    refine Wo0 ?_
    refine Wo 21 0 (ucd_words_1_ok.get (rdecS s pos)) fun v1 h33=>?_
    refine Wk [28] 0 [] Wz

theorem lapwinglaw16_ours_ok0 (lapwinglaw16_cur_ok:Kp (∀ (c':T_lapwingref14_Cursor) (r:T_cursor_Cursor) (h:lapwinglaw16_cur c'=some r),PureFn Tryz.prog 39 [(.agg 14 (fun j=>(D_lapwingref14_Cursor nvS c' j)))] ((.agg 14 (fun j=>(D_cursor_Cursor nvS r j)))))) (s:T_lapwingref15_Screen) (r:T_screen_Screen) (h:lapwinglaw16_ours s=some r):PureFn Tryz.prog 38 [(.agg 25 (fun j=>(D_lapwingref15_Screen nvS s j)))] ((.agg 25 (fun j=>(D_screen_Screen nvS r j)))):=by
  obtain ⟨⟨s_G_Rows⟩,⟨s_C_X,s_C_Y,s_C_Wrap,s_C_Origin,⟨s_C_Pen_Fg,s_C_Pen_Bg,s_C_Pen_Flags⟩,⟨⟨s_C_Set_G_x0,s_C_Set_G_x1,s_C_Set_G_x2,s_C_Set_G_x3⟩,s_C_Set_GL,s_C_Set_GR,s_C_Set_Once⟩⟩,⟨s_R_H,s_R_W,s_R_Top,s_R_Bottom⟩,⟨s_T_L,s_T_W⟩,⟨s_K_Rows,s_K_Cap⟩,s_Dir,s_Explicit⟩:=s
  unfold lapwinglaw16_ours at h
  try dsimp only at h
  refine Wfn Tryz.func38 (bodyOf Tryz.f38) fun ctr hc=>?_
  refine Wo0 ?_
  refine Wo 12 0 (lapwinglaw16_cur_ok.get (T_lapwingref14_Cursor.mk s_C_X s_C_Y s_C_Wrap s_C_Origin (T_api_Pen.mk s_C_Pen_Fg s_C_Pen_Bg s_C_Pen_Flags) (T_lapwingref04_State.mk (T_Arr4_u8.mk s_C_Set_G_x0 s_C_Set_G_x1 s_C_Set_G_x2 s_C_Set_G_x3) s_C_Set_GL s_C_Set_GR s_C_Set_Once))) fun v h1=>?_
  obtain ⟨v_X,v_Y,v_Wrap,v_Origin,⟨v_Pen_Fg,v_Pen_Bg,v_Pen_Flags⟩,⟨⟨v_Set_G_x0,v_Set_G_x1,v_Set_G_x2,v_Set_G_x3⟩,v_Set_GL,v_Set_GR,v_Set_Once⟩⟩:=v
  refine Wk [] 0 [] Wz

theorem ucd_table_class_ok0 (strings_Split_ok:Kp (∀ (s:ByteArray) (sep:ByteArray) (r:(List ByteArray)) (h:strings_Split s sep=some r),PureFn Tryz.prog 124 [(.v (.string s)),(.v (.string sep))] (.own 1 (nvS.len r) false (fun ix jx=>(.v (.string (nvS.get ByteArray.empty r ix))))))) (ucd_words_ok:Kp (∀ (e:ByteArray) (r:(List ByteArray)) (h:ucd_words e=some r),PureFn Tryz.prog 125 [(.v (.string e))] (.own 1 (nvS.len r) false (fun ix jx=>(.v (.string (nvS.get ByteArray.empty r ix))))))) (ucd_hex_ok:Kp (∀ (s:ByteArray) (r:Int) (h:ucd_hex s=some r),PureFn Tryz.prog 126 [(.v (.string s))] ((.v (.int .i64 r))))) (ucd_className_ok:Kp (∀ (s:ByteArray) (r:Int) (h:ucd_className s=some r),PureFn Tryz.prog 41 [(.v (.string s))] ((.v (.int .i64 r))))) (text:ByteArray) (r:T_ranges_Table) (h:ucd_table_class text=some r):PureFn Tryz.prog 40 [(.v (.string text)),.fn (.func 41) 0 (fun _=>.junk)] ((.agg 1 (fun j=>(D_ranges_Table nvS r j)))):=by
  unfold ucd_table_class at h
  refine Wfn Tryz.func40 (bodyOf Tryz.f40) fun ctr hc=>?_
  revert h
  refine Wyp 2 [] 0 [] (Wq ?_)
  intro h
  intros
  refine Wcut h (ctr+2) [(7,50)] [(5,1),(5,1),(42,1)] (fun o u=>Fa [] [(5,.box (ctr+1) [.vec 54 (u.g 54) 3 0 (nvS.len o)]),(54,.arr (u.g 54) 3 (nvS.len o) (u.t 54) (fun ix jx=>(D_ranges_Row nvS (nvS.get d_ranges_Row o ix) jx)))]) (fun o uc ug ut ht hu hp h=>?_) (fun f h=>?_)
  · refine Wx [] 0 [] Wz
  · refine Wo0 ?_
    refine Wo 11 1 (strings_Split_ok.get text (⟨#[44]⟩:ByteArray)) fun v h24=>?_
    revert h
    refine Wjp 1 [] 0 [] (Wq ?_)
    intro h
    intros
    refine Tr.block ?_
    refine Wlp h (ctr+3) [(7,3),(3,44)] [(5,1),(48,1)] (fun (v1,o1) u1=>Fa [(13,.v (.int .i64 v1))] [(5,.box (ctr+1) [.vec 54 (u1.g 54) 3 0 (nvS.len o1)]),(54,.arr (u1.g 54) 3 (nvS.len o1) (u1.t 54) (fun ix jx=>(D_ranges_Row nvS (nvS.get d_ranges_Row o1 ix) jx)))]) Wlay (fun x u1c u1g u1t f ht hu hp h=>?_)
    obtain ⟨v1,o1⟩:=x
    try dsimp only at hp h
    revert h
    refine Wyp 2 [] 0 [] (Wq ?_)
    intro h
    intros
    refine Wcut h (u1c+1) [(7,3),(5,41)] [(5,1),(3,1),(8,1),(35,1)] (fun o2 u2=>⟨[],[(5,.box (ctr+1) [.vec 54 (u2.g 54) 3 0 ((std Tryz.prog).add (nvS.len o1) 1)]),(54,.arr (u2.g 54) 3 ((std Tryz.prog).add (nvS.len o1) 1) (u2.t 54) (fun ix jx=>(D_ranges_Row nvS (nvS.get d_ranges_Row o2 ix) jx)))],fun _=>lenL o2=((lenL o1)+1)⟩) (fun o2 u2c u2g u2t ht hu hp h=>?_) (fun f h=>?_)
    · try dsimp only at hp h
      refine Wx [] 0 [] Wz
    · refine Tr.block ?_
      refine Wo0 ?_
      refine Wo 18 1 (ucd_words_ok.get (getL ByteArray.empty v (0+v1))) fun v2 h59=>?_
      revert h
      refine Wjp 3 [] 0 [] (Wq ?_)
      intro h
      intros
      refine Wcut h (u1c+4) [(19,25)] [(9,1)] (fun (b9_0,b9_1,b9_2) u3=>Fa [] [(9,.box (u1c+3) [.v (.int .i64 b9_0),.v (.int .i64 b9_1),.v (.int .i64 b9_2)])]) (fun x u3c u3g u3t ht hu hp h=>?_) (fun f h=>?_)
      · obtain ⟨b9_0,b9_1,b9_2⟩:=x
        try dsimp only at hp h
        refine Wx [53] 0 [] Wz
      · revert h
        refine Wyp 1 [] 0 [] (Wq ?_)
        intro h
        intros
        refine Tr.block ?_
        refine Wcut h (u1c+5) [(21,9)] [(9,1)] (fun b9_11 u4=>Fa [] [(9,.box (u1c+3) [.v (.int .i64 0),.v (.int .i64 b9_11),.v (.int .i64 0)])]) (fun b9_11 u4c u4g u4t ht hu hp h=>?_) (fun f h=>?_)
        · refine Wo0 ?_
          refine Wo 33 0 (ucd_hex_ok.get (getL ByteArray.empty v2 (0+0))) fun v3 h71=>?_
          refine Wo 41 0 (ucd_className_ok.get (getL ByteArray.empty v2 (0+((lenL v2)-1)))) fun v4 h74=>?_
          refine Wk [] 0 [] Wz
        · refine Wo0 ?_
          refine Wo 28 0 (ucd_hex_ok.get (getL ByteArray.empty v2 (0+1))) fun v5 h76=>?_
          refine Wk [] 0 [] Wz

theorem ucd_table_wide_ok0 (strings_Split_ok:Kp (∀ (s:ByteArray) (sep:ByteArray) (r:(List ByteArray)) (h:strings_Split s sep=some r),PureFn Tryz.prog 124 [(.v (.string s)),(.v (.string sep))] (.own 1 (nvS.len r) false (fun ix jx=>(.v (.string (nvS.get ByteArray.empty r ix))))))) (ucd_words_ok:Kp (∀ (e:ByteArray) (r:(List ByteArray)) (h:ucd_words e=some r),PureFn Tryz.prog 125 [(.v (.string e))] (.own 1 (nvS.len r) false (fun ix jx=>(.v (.string (nvS.get ByteArray.empty r ix))))))) (ucd_hex_ok:Kp (∀ (s:ByteArray) (r:Int) (h:ucd_hex s=some r),PureFn Tryz.prog 126 [(.v (.string s))] ((.v (.int .i64 r))))) (ucd_wideName_ok:Kp (∀ (s:ByteArray) (r:Int) (h:ucd_wideName s=some r),PureFn Tryz.prog 42 [(.v (.string s))] ((.v (.int .i64 r))))) (text:ByteArray) (r:T_ranges_Table) (h:ucd_table_wide text=some r):PureFn Tryz.prog 40 [(.v (.string text)),.fn (.func 42) 0 (fun _=>.junk)] ((.agg 1 (fun j=>(D_ranges_Table nvS r j)))):=by
  unfold ucd_table_wide at h
  refine Wfn Tryz.func40 (bodyOf Tryz.f40) fun ctr hc=>?_
  revert h
  refine Wyp 2 [] 0 [] (Wq ?_)
  intro h
  intros
  refine Wcut h (ctr+2) [(7,50)] [(5,1),(5,1),(42,1)] (fun o u=>Fa [] [(5,.box (ctr+1) [.vec 54 (u.g 54) 3 0 (nvS.len o)]),(54,.arr (u.g 54) 3 (nvS.len o) (u.t 54) (fun ix jx=>(D_ranges_Row nvS (nvS.get d_ranges_Row o ix) jx)))]) (fun o uc ug ut ht hu hp h=>?_) (fun f h=>?_)
  · refine Wx [] 0 [] Wz
  · refine Wo0 ?_
    refine Wo 11 1 (strings_Split_ok.get text (⟨#[44]⟩:ByteArray)) fun v h24=>?_
    revert h
    refine Wjp 1 [] 0 [] (Wq ?_)
    intro h
    intros
    refine Tr.block ?_
    refine Wlp h (ctr+3) [(7,3),(3,44)] [(5,1),(48,1)] (fun (v1,o1) u1=>Fa [(13,.v (.int .i64 v1))] [(5,.box (ctr+1) [.vec 54 (u1.g 54) 3 0 (nvS.len o1)]),(54,.arr (u1.g 54) 3 (nvS.len o1) (u1.t 54) (fun ix jx=>(D_ranges_Row nvS (nvS.get d_ranges_Row o1 ix) jx)))]) Wlay (fun x u1c u1g u1t f ht hu hp h=>?_)
    obtain ⟨v1,o1⟩:=x
    try dsimp only at hp h
    revert h
    refine Wyp 2 [] 0 [] (Wq ?_)
    intro h
    intros
    refine Wcut h (u1c+1) [(7,3),(5,41)] [(5,1),(3,1),(8,1),(35,1)] (fun o2 u2=>⟨[],[(5,.box (ctr+1) [.vec 54 (u2.g 54) 3 0 ((std Tryz.prog).add (nvS.len o1) 1)]),(54,.arr (u2.g 54) 3 ((std Tryz.prog).add (nvS.len o1) 1) (u2.t 54) (fun ix jx=>(D_ranges_Row nvS (nvS.get d_ranges_Row o2 ix) jx)))],fun _=>lenL o2=((lenL o1)+1)⟩) (fun o2 u2c u2g u2t ht hu hp h=>?_) (fun f h=>?_)
    · try dsimp only at hp h
      refine Wx [] 0 [] Wz
    · refine Tr.block ?_
      refine Wo0 ?_
      refine Wo 18 1 (ucd_words_ok.get (getL ByteArray.empty v (0+v1))) fun v2 h59=>?_
      revert h
      refine Wjp 3 [] 0 [] (Wq ?_)
      intro h
      intros
      refine Wcut h (u1c+4) [(19,25)] [(9,1)] (fun (b9_0,b9_1,b9_2) u3=>Fa [] [(9,.box (u1c+3) [.v (.int .i64 b9_0),.v (.int .i64 b9_1),.v (.int .i64 b9_2)])]) (fun x u3c u3g u3t ht hu hp h=>?_) (fun f h=>?_)
      · obtain ⟨b9_0,b9_1,b9_2⟩:=x
        try dsimp only at hp h
        refine Wx [53] 0 [] Wz
      · revert h
        refine Wyp 1 [] 0 [] (Wq ?_)
        intro h
        intros
        refine Tr.block ?_
        refine Wcut h (u1c+5) [(21,9)] [(9,1)] (fun b9_11 u4=>Fa [] [(9,.box (u1c+3) [.v (.int .i64 0),.v (.int .i64 b9_11),.v (.int .i64 0)])]) (fun b9_11 u4c u4g u4t ht hu hp h=>?_) (fun f h=>?_)
        · refine Wo0 ?_
          refine Wo 33 0 (ucd_hex_ok.get (getL ByteArray.empty v2 (0+0))) fun v3 h71=>?_
          refine Wo 41 0 (ucd_wideName_ok.get (getL ByteArray.empty v2 (0+((lenL v2)-1)))) fun v4 h74=>?_
          refine Wk [] 0 [] Wz
        · refine Wo0 ?_
          refine Wo 28 0 (ucd_hex_ok.get (getL ByteArray.empty v2 (0+1))) fun v5 h76=>?_
          refine Wk [] 0 [] Wz

theorem interp_others_ok0 (interp_privately_ok:Kp (∀ (on:Bool) (r:FV) (h:interp_privately on=some r),PureFn Tryz.prog 116 [(.v (.bool on))] ((.fn (.func (nvS.fF r)) (nvS.fK r) (nvS.fC r))))) (interp_choosing_ok:Kp (∀ (f':FV) (r:FV) (h:interp_choosing f'=some r),PureFn Tryz.prog 98 [(.fn (.func (nvS.fF f')) (nvS.fK f') (nvS.fC f'))] ((.fn (.func (nvS.fF r)) (nvS.fK r) (nvS.fC r))))) (interp_saying_ok:Kp (∀ (k':Int) (text:FV) (r:FV) (h:interp_saying k' text=some r),PureFn Tryz.prog 114 [(.v (.int .i64 k')),(.fn (.func (nvS.fF text)) (nvS.fK text) (nvS.fC text))] ((.fn (.func (nvS.fF r)) (nvS.fK r) (nvS.fC r))))) (interp_reporting_ok:Kp (∀ (private':Bool) (mark:ByteArray) (r:FV) (h:interp_reporting private' mark=some r),PureFn Tryz.prog 119 [(.v (.bool private')),(.v (.string mark))] ((.fn (.func (nvS.fF r)) (nvS.fK r) (nvS.fC r)))))  (r:(List T_interp_line)) (h:interp_others=some r):PureFn Tryz.prog 36 [] ((.sl 3 (nvS.len r) false (fun ix jx=>(D_interp_line nvS (nvS.get d_interp_line r ix) jx)))):=by
  unfold interp_others at h
  refine Wfn Tryz.func36 (bodyOf Tryz.f36) fun ctr hc=>?_
  refine Wo0 ?_
  refine Wo 1 0 (interp_privately_ok.get true) fun v h1=>?_
  refine Wo 3 0 (interp_privately_ok.get false) fun v1 h2=>?_
  refine Wo 5 6 (interp_choosing_ok.get (FV.nil 99)) fun v2 h3=>?_
  refine Wo 7 6 (interp_choosing_ok.get (FV.nil 100)) fun v3 h4=>?_
  refine Wo 9 6 (interp_saying_ok.get 6 (FV.nil 117)) fun v4 h5=>?_
  refine Wo 11 0 (interp_reporting_ok.get true (⟨#[63]⟩:ByteArray)) fun v5 h6=>?_
  refine Wo 13 0 (interp_reporting_ok.get false (⟨#[]⟩:ByteArray)) fun v6 h7=>?_
  refine Wo 15 6 (interp_saying_ok.get 0 (FV.nil 120)) fun v7 h8=>?_
  refine Wk [19] 0 [] Wz

theorem lapwinglaw16_theirs_ok0 (lapwinglaw16_plain_ok:Kp (∀ (c':T_cursor_Cursor) (r:T_lapwingref14_Cursor) (h:lapwinglaw16_plain c'=some r),PureFn Tryz.prog 18 [(.agg 14 (fun j=>(D_cursor_Cursor nvS c' j)))] ((.agg 14 (fun j=>(D_lapwingref14_Cursor nvS r j)))))) (s:T_screen_Screen) (r:T_lapwingref15_Screen) (h:lapwinglaw16_theirs s=some r):PureFn Tryz.prog 26 [(.agg 25 (fun j=>(D_screen_Screen nvS s j)))] ((.agg 25 (fun j=>(D_lapwingref15_Screen nvS r j)))):=by
  obtain ⟨⟨s_G_Rows⟩,⟨s_C_X,s_C_Y,s_C_Wrap,s_C_Origin,⟨s_C_Pen_Fg,s_C_Pen_Bg,s_C_Pen_Flags⟩,⟨⟨s_C_Set_G_x0,s_C_Set_G_x1,s_C_Set_G_x2,s_C_Set_G_x3⟩,s_C_Set_GL,s_C_Set_GR,s_C_Set_Once⟩⟩,⟨s_R_H,s_R_W,s_R_Top,s_R_Bottom⟩,⟨s_T_L,s_T_W⟩,⟨s_K_Rows,s_K_Cap⟩,s_Dir,s_Explicit⟩:=s
  unfold lapwinglaw16_theirs at h
  try dsimp only at h
  refine Wfn Tryz.func26 (bodyOf Tryz.f26) fun ctr hc=>?_
  refine Wo0 ?_
  refine Wo 12 0 (lapwinglaw16_plain_ok.get (T_cursor_Cursor.mk s_C_X s_C_Y s_C_Wrap s_C_Origin (T_api_Pen.mk s_C_Pen_Fg s_C_Pen_Bg s_C_Pen_Flags) (T_charset_State.mk (T_Arr4_u8.mk s_C_Set_G_x0 s_C_Set_G_x1 s_C_Set_G_x2 s_C_Set_G_x3) s_C_Set_GL s_C_Set_GR s_C_Set_Once))) fun v h1=>?_
  obtain ⟨v_X,v_Y,v_Wrap,v_Origin,⟨v_Pen_Fg,v_Pen_Bg,v_Pen_Flags⟩,⟨⟨v_Set_G_x0,v_Set_G_x1,v_Set_G_x2,v_Set_G_x3⟩,v_Set_GL,v_Set_GR,v_Set_Once⟩⟩:=v
  refine Wk [] 0 [] Wz

theorem ucd_table_join_ok0 (strings_Split_ok:Kp (∀ (s:ByteArray) (sep:ByteArray) (r:(List ByteArray)) (h:strings_Split s sep=some r),PureFn Tryz.prog 124 [(.v (.string s)),(.v (.string sep))] (.own 1 (nvS.len r) false (fun ix jx=>(.v (.string (nvS.get ByteArray.empty r ix))))))) (ucd_words_ok:Kp (∀ (e:ByteArray) (r:(List ByteArray)) (h:ucd_words e=some r),PureFn Tryz.prog 125 [(.v (.string e))] (.own 1 (nvS.len r) false (fun ix jx=>(.v (.string (nvS.get ByteArray.empty r ix))))))) (ucd_hex_ok:Kp (∀ (s:ByteArray) (r:Int) (h:ucd_hex s=some r),PureFn Tryz.prog 126 [(.v (.string s))] ((.v (.int .i64 r))))) (ucd_joinName_ok:Kp (∀ (s:ByteArray) (r:Int) (h:ucd_joinName s=some r),PureFn Tryz.prog 43 [(.v (.string s))] ((.v (.int .i64 r))))) (text:ByteArray) (r:T_ranges_Table) (h:ucd_table_join text=some r):PureFn Tryz.prog 40 [(.v (.string text)),.fn (.func 43) 0 (fun _=>.junk)] ((.agg 1 (fun j=>(D_ranges_Table nvS r j)))):=by
  unfold ucd_table_join at h
  refine Wfn Tryz.func40 (bodyOf Tryz.f40) fun ctr hc=>?_
  revert h
  refine Wyp 2 [] 0 [] (Wq ?_)
  intro h
  intros
  refine Wcut h (ctr+2) [(7,50)] [(5,1),(5,1),(42,1)] (fun o u=>Fa [] [(5,.box (ctr+1) [.vec 54 (u.g 54) 3 0 (nvS.len o)]),(54,.arr (u.g 54) 3 (nvS.len o) (u.t 54) (fun ix jx=>(D_ranges_Row nvS (nvS.get d_ranges_Row o ix) jx)))]) (fun o uc ug ut ht hu hp h=>?_) (fun f h=>?_)
  · refine Wx [] 0 [] Wz
  · refine Wo0 ?_
    refine Wo 11 1 (strings_Split_ok.get text (⟨#[44]⟩:ByteArray)) fun v h24=>?_
    revert h
    refine Wjp 1 [] 0 [] (Wq ?_)
    intro h
    intros
    refine Tr.block ?_
    refine Wlp h (ctr+3) [(7,3),(3,44)] [(5,1),(48,1)] (fun (v1,o1) u1=>Fa [(13,.v (.int .i64 v1))] [(5,.box (ctr+1) [.vec 54 (u1.g 54) 3 0 (nvS.len o1)]),(54,.arr (u1.g 54) 3 (nvS.len o1) (u1.t 54) (fun ix jx=>(D_ranges_Row nvS (nvS.get d_ranges_Row o1 ix) jx)))]) Wlay (fun x u1c u1g u1t f ht hu hp h=>?_)
    obtain ⟨v1,o1⟩:=x
    try dsimp only at hp h
    revert h
    refine Wyp 2 [] 0 [] (Wq ?_)
    intro h
    intros
    refine Wcut h (u1c+1) [(7,3),(5,41)] [(5,1),(3,1),(8,1),(35,1)] (fun o2 u2=>⟨[],[(5,.box (ctr+1) [.vec 54 (u2.g 54) 3 0 ((std Tryz.prog).add (nvS.len o1) 1)]),(54,.arr (u2.g 54) 3 ((std Tryz.prog).add (nvS.len o1) 1) (u2.t 54) (fun ix jx=>(D_ranges_Row nvS (nvS.get d_ranges_Row o2 ix) jx)))],fun _=>lenL o2=((lenL o1)+1)⟩) (fun o2 u2c u2g u2t ht hu hp h=>?_) (fun f h=>?_)
    · try dsimp only at hp h
      refine Wx [] 0 [] Wz
    · refine Tr.block ?_
      refine Wo0 ?_
      refine Wo 18 1 (ucd_words_ok.get (getL ByteArray.empty v (0+v1))) fun v2 h59=>?_
      revert h
      refine Wjp 3 [] 0 [] (Wq ?_)
      intro h
      intros
      refine Wcut h (u1c+4) [(19,25)] [(9,1)] (fun (b9_0,b9_1,b9_2) u3=>Fa [] [(9,.box (u1c+3) [.v (.int .i64 b9_0),.v (.int .i64 b9_1),.v (.int .i64 b9_2)])]) (fun x u3c u3g u3t ht hu hp h=>?_) (fun f h=>?_)
      · obtain ⟨b9_0,b9_1,b9_2⟩:=x
        try dsimp only at hp h
        refine Wx [53] 0 [] Wz
      · revert h
        refine Wyp 1 [] 0 [] (Wq ?_)
        intro h
        intros
        refine Tr.block ?_
        refine Wcut h (u1c+5) [(21,9)] [(9,1)] (fun b9_11 u4=>Fa [] [(9,.box (u1c+3) [.v (.int .i64 0),.v (.int .i64 b9_11),.v (.int .i64 0)])]) (fun b9_11 u4c u4g u4t ht hu hp h=>?_) (fun f h=>?_)
        · refine Wo0 ?_
          refine Wo 33 0 (ucd_hex_ok.get (getL ByteArray.empty v2 (0+0))) fun v3 h71=>?_
          refine Wo 41 0 (ucd_joinName_ok.get (getL ByteArray.empty v2 (0+((lenL v2)-1)))) fun v4 h74=>?_
          refine Wk [] 0 [] Wz
        · refine Wo0 ?_
          refine Wo 28 0 (ucd_hex_ok.get (getL ByteArray.empty v2 (0+1))) fun v5 h76=>?_
          refine Wk [] 0 [] Wz

theorem screen_Sane_ok0 (cursor_Sane_ok:Kp (∀ (c':T_cursor_Cursor) (r':T_cursor_Region) (r:Bool) (h:cursor_Sane c' r'=some r),PureFn Tryz.prog 49 [(.agg 14 (fun j=>(D_cursor_Cursor nvS c' j))),(.agg 4 (fun j=>(D_cursor_Region nvS r' j)))] ((.v (.bool r))))) (tabs_Sane_ok:Kp (∀ (s:T_tabs_Stops) (r:Bool) (h:tabs_Sane s=some r),PureFn Tryz.prog 128 [(.agg 2 (fun j=>(D_tabs_Stops nvS s j)))] ((.v (.bool r))))) (grid_Size_ok:Kp (∀ (g':T_grid_Grid) (r:(Int × Int)) (h:grid_Size g'=some r),PureFn Tryz.prog 129 [(.agg 1 (fun j=>(D_grid_Grid nvS g' j)))] (.tup 2 (fun j=>match j with | 0=>(.v (.int .i64 r.1)) | 1=>(.v (.int .i64 r.2)) | _=>.junk)))) (history_Sane_ok:Kp (∀ (k':T_history_Kept) (r:Bool) (h:history_Sane k'=some r),PureFn Tryz.prog 130 [(.agg 2 (fun j=>(D_history_Kept nvS k' j)))] ((.v (.bool r))))) (s:T_screen_Screen) (r:Bool) (h:screen_Sane s=some r):PureFn Tryz.prog 46 [(.agg 25 (fun j=>(D_screen_Screen nvS s j)))] ((.v (.bool r))):=by
  obtain ⟨⟨s_G_Rows⟩,⟨s_C_X,s_C_Y,s_C_Wrap,s_C_Origin,⟨s_C_Pen_Fg,s_C_Pen_Bg,s_C_Pen_Flags⟩,⟨⟨s_C_Set_G_x0,s_C_Set_G_x1,s_C_Set_G_x2,s_C_Set_G_x3⟩,s_C_Set_GL,s_C_Set_GR,s_C_Set_Once⟩⟩,⟨s_R_H,s_R_W,s_R_Top,s_R_Bottom⟩,⟨s_T_L,s_T_W⟩,⟨s_K_Rows,s_K_Cap⟩,s_Dir,s_Explicit⟩:=s
  unfold screen_Sane at h
  try dsimp only at h
  refine Wfn Tryz.func46 (bodyOf Tryz.f46) fun ctr hc=>?_
  refine Wo0 ?_
  refine Wo 17 0 (cursor_Sane_ok.get (T_cursor_Cursor.mk s_C_X s_C_Y s_C_Wrap s_C_Origin (T_api_Pen.mk s_C_Pen_Fg s_C_Pen_Bg s_C_Pen_Flags) (T_charset_State.mk (T_Arr4_u8.mk s_C_Set_G_x0 s_C_Set_G_x1 s_C_Set_G_x2 s_C_Set_G_x3) s_C_Set_GL s_C_Set_GR s_C_Set_Once)) (T_cursor_Region.mk s_R_H s_R_W s_R_Top s_R_Bottom)) fun v h1=>?_
  refine Wog 22 0 (!(!v)) (tabs_Sane_ok.get (T_tabs_Stops.mk s_T_L s_T_W)) false fun v1 h2=>?_
  refine Wo 37 0 (grid_Size_ok.get (T_grid_Grid.mk s_G_Rows)) fun v2 h3=>?_
  obtain ⟨v2_0,v2_1⟩:=v2
  refine Wo 54 0 (history_Sane_ok.get (T_history_Kept.mk s_K_Rows s_K_Cap)) fun v3 h4=>?_
  refine Wk [] 0 [] Wz

theorem strings_genSplit_ok0 (strings_Index_ok:Kp (∀ (s:ByteArray) (substr:ByteArray) (r:Int) (h:strings_Index s substr=some r),PureFn Tryz.prog 247 [(.v (.string s)),(.v (.string substr))] ((.v (.int .i64 r))))) (strings_Count_ok:Kp (∀ (s:ByteArray) (substr:ByteArray) (r:Int) (h:strings_Count s substr=some r),PureFn Tryz.prog 246 [(.v (.string s)),(.v (.string substr))] ((.v (.int .i64 r))))) (s:ByteArray) (sep:ByteArray) (sepSave:Int) (n:Int) (r:(List ByteArray)) (h:strings_genSplit s sep sepSave n=some r):PureFn Tryz.prog 204 [(.v (.string s)),(.v (.string sep)),(.v (.int .i64 sepSave)),(.v (.int .i64 n))] (.own 1 (nvS.len r) false (fun ix jx=>(.v (.string (nvS.get ByteArray.empty r ix))))):=by
  unfold strings_genSplit at h
  refine Wfn Tryz.func204 (bodyOf Tryz.f204) fun ctr hc=>?_
  revert h
  refine Wyp 3 [] 0 [] (Wq ?_)
  intro h
  intros
  refine Wcut h (ctr+3) [(3,1),(15,6)] [] (fun n1 u=>Fa [(3,.v (.int .i64 n1))] []) (fun n1 uc ug ut ht hu hp h=>?_) (fun f h=>?_)
  · revert h
    refine Wyp 4 [] 0 [] (Wq ?_)
    intro h
    intros
    refine Wcut h (uc+4) [(0,1),(9,2),(22,24)] [(31,1)] (fun (s1,i,a) u1=>⟨[(0,.v (.string s1)),(10,.v (.int .i64 i))],[(31,.arr (uc+1) 1 ((std Tryz.prog).imin n1 ((std Tryz.prog).add ((std Tryz.prog).slen s) 1)) (u1.t 31) (fun ix jx=>(.v (.string (nvS.get ByteArray.empty a ix)))))],fun _=>lenL a=(iminI n1 ((slenS s)+1))⟩) (fun x u1c u1g u1t ht hu hp h=>?_) (fun f h=>?_)
    · obtain ⟨s1,i,a⟩:=x
      try dsimp only at hp h
      refine Wx [] 0 [] Wz
    · refine Tr.block ?_
      refine Wlp h (uc+4) [(0,1),(9,2),(22,24)] [(31,1)] (fun (s2,i1,a1) u2=>⟨[(0,.v (.string s2)),(10,.v (.int .i64 i1))],[(31,.arr (uc+1) 1 ((std Tryz.prog).imin n1 ((std Tryz.prog).add ((std Tryz.prog).slen s) 1)) (u2.t 31) (fun ix jx=>(.v (.string (nvS.get ByteArray.empty a1 ix)))))],fun _=>lenL a1=(iminI n1 ((slenS s)+1))⟩) Wlay (fun x u2c u2g u2t f ht hu hp h=>?_)
      obtain ⟨s2,i1,a1⟩:=x
      try dsimp only at hp h
      refine Wo0 ?_
      refine Wo 39 0 (strings_Index_ok.get s2 sep) fun v h37=>?_
      refine Wk [] 0 [] Wz
  · refine Wo0 ?_
    refine Wo 23 0 (strings_Count_ok.get s sep) fun v1 h44=>?_
    refine Wk [] 0 [] Wz

theorem row_Sane_ok0 (row_fits_ok:Kp (∀ (c':T_api_Cell) (r:Bool) (h:row_fits c'=some r),PureFn Tryz.prog 223 [(.agg 7 (fun j=>(D_api_Cell nvS c' j)))] ((.v (.bool r))))) (row_lost_ok:Kp (∀ (l':(List T_api_Cell)) (i:Int) (r:Bool) (h:row_lost l' i=some r),PureFn Tryz.prog 251 [(.sl 7 (nvS.len l') false (fun ix jx=>(D_api_Cell nvS (nvS.get d_api_Cell l' ix) jx))),(.v (.int .i64 i))] ((.v (.bool r))))) (r':T_api_Row) (r:Bool) (h:row_Sane r'=some r):PureFn Tryz.prog 210 [(.agg 4 (fun j=>(D_api_Row nvS r' j)))] ((.v (.bool r))):=by
  obtain ⟨r_Cells,r_Wrap,r_Dir,r_Explicit⟩:=r'
  unfold row_Sane at h
  try dsimp only at h
  refine Wfn Tryz.func210 (bodyOf Tryz.f210) fun ctr hc=>?_
  revert h
  refine Wyp 2 [] 0 [] (Wq ?_)
  intro h
  intros
  refine Wcut h (ctr+2) [(2,3),(20,18)] [] (fun _ u=>Fa [] []) (fun x uc ug ut ht hu hp h=>?_) (fun f h=>?_)
  · refine Wx [] 0 [] Wz
  · revert h
    refine Wyp 1 [] 0 [] (Wq ?_)
    intro h
    intros
    refine Tr.block ?_
    refine Wlp h (ctr+3) [(2,3),(23,15)] [(4,1)] (fun v u1=>Fa [(28,.v (.int .i64 v))] []) Wlay (fun v u1c u1g u1t f ht hu hp h=>?_)
    refine Wo0 ?_
    refine Wo 34 0 (row_fits_ok.get (getL d_api_Cell r_Cells v)) fun v1 h18=>?_
    refine Wog 40 0 (!(!v1)) (row_lost_ok.get r_Cells v) false fun v2 h19=>?_
    refine Wk [] 0 [] Wz

theorem ucd_forms_ok0 (strings_Split_ok:Kp (∀ (s:ByteArray) (sep:ByteArray) (r:(List ByteArray)) (h:strings_Split s sep=some r),PureFn Tryz.prog 124 [(.v (.string s)),(.v (.string sep))] (.own 1 (nvS.len r) false (fun ix jx=>(.v (.string (nvS.get ByteArray.empty r ix))))))) (ucd_words_ok:Kp (∀ (e:ByteArray) (r:(List ByteArray)) (h:ucd_words e=some r),PureFn Tryz.prog 125 [(.v (.string e))] (.own 1 (nvS.len r) false (fun ix jx=>(.v (.string (nvS.get ByteArray.empty r ix))))))) (ucd_hex_ok:Kp (∀ (s:ByteArray) (r:Int) (h:ucd_hex s=some r),PureFn Tryz.prog 126 [(.v (.string s))] ((.v (.int .i64 r))))) (text:ByteArray) (r:(List T_ucd_Form)) (h:ucd_forms text=some r):PureFn Tryz.prog 45 [(.v (.string text))] (.own 3 (nvS.len r) false (fun ix jx=>(D_ucd_Form nvS (nvS.get d_ucd_Form r ix) jx))):=by
  unfold ucd_forms at h
  refine Wfn Tryz.func45 (bodyOf Tryz.f45) fun ctr hc=>?_
  revert h
  refine Wyp 2 [] 0 [] (Wq ?_)
  intro h
  intros
  refine Wcut h (ctr+2) [(3,1),(1,31)] [(8,1),(25,1)] (fun l' u=>Fa [(3,.vec 34 (u.g 34) 3 0 (nvS.len l'))] [(34,.arr (u.g 34) 3 (nvS.len l') (u.t 34) (fun ix jx=>(D_ucd_Form nvS (nvS.get d_ucd_Form l' ix) jx)))]) (fun l' uc ug ut ht hu hp h=>?_) (fun f h=>?_)
  · refine Wx [] 0 [] Wz
  · refine Wo0 ?_
    refine Wo 8 1 (strings_Split_ok.get text (⟨#[44]⟩:ByteArray)) fun v h24=>?_
    revert h
    refine Wjp 1 [] 0 [] (Wq ?_)
    intro h
    intros
    refine Tr.block ?_
    refine Wlp h (ctr+3) [(3,1),(1,2),(3,26)] [(15,1),(18,1)] (fun (v1,l'1) u1=>Fa [(3,.vec 34 (u1.g 34) 3 0 (nvS.len l'1)),(10,.v (.int .i64 v1))] [(34,.arr (u1.g 34) 3 (nvS.len l'1) (u1.t 34) (fun ix jx=>(D_ucd_Form nvS (nvS.get d_ucd_Form l'1 ix) jx)))]) Wlay (fun x u1c u1g u1t f ht hu hp h=>?_)
    obtain ⟨v1,l'1⟩:=x
    try dsimp only at hp h
    refine Wo0 ?_
    refine Wo 15 1 (ucd_words_ok.get (getL ByteArray.empty v (0+v1))) fun v2 h48=>?_
    refine Wo 23 0 (ucd_hex_ok.get (getL ByteArray.empty v2 (0+0))) fun v3 h50=>?_
    refine Wo 27 0 (ucd_hex_ok.get (getL ByteArray.empty v2 (0+1))) fun v4 h52=>?_
    refine Wo 31 0 (ucd_hex_ok.get (getL ByteArray.empty v2 (0+2))) fun v5 h54=>?_
    refine Wk [33] 0 [] Wz

theorem screen_New_ok0 (cursor_New_ok:Kp (∀ (h':Int) (w:Int) (r:(T_cursor_Cursor × T_cursor_Region)) (h:cursor_New h' w=some r),PureFn Tryz.prog 50 [(.v (.int .i64 h')),(.v (.int .i64 w))] (.tup 2 (fun j=>match j with | 0=>(.agg 14 (fun j=>(D_cursor_Cursor nvS r.1 j))) | 1=>(.agg 4 (fun j=>(D_cursor_Region nvS r.2 j))) | _=>.junk)))) (grid_New_ok:Kp (∀ (h':Int) (w:Int) (p':T_api_Pen) (r:T_grid_Grid) (h:grid_New h' w p'=some r),PureFn Tryz.prog 137 [(.v (.int .i64 h')),(.v (.int .i64 w)),(.agg 3 (fun j=>(D_api_Pen nvS p' j)))] ((.agg 1 (fun j=>(D_grid_Grid nvS r j)))))) (tabs_New_ok:Kp (∀ (w:Int) (r:T_tabs_Stops) (h:tabs_New w=some r),PureFn Tryz.prog 138 [(.v (.int .i64 w))] ((.agg 2 (fun j=>(D_tabs_Stops nvS r j)))))) (history_New_ok:Kp (∀ (c':Int) (r:T_history_Kept) (h:history_New c'=some r),PureFn Tryz.prog 139 [(.v (.int .i64 c'))] ((.agg 2 (fun j=>(D_history_Kept nvS r j)))))) (h':Int) (w:Int) (kept:Int) (r:T_screen_Screen) (h:screen_New h' w kept=some r):PureFn Tryz.prog 52 [(.v (.int .i64 h')),(.v (.int .i64 w)),(.v (.int .i64 kept))] ((.agg 25 (fun j=>(D_screen_Screen nvS r j)))):=by
  unfold screen_New at h
  refine Wfn Tryz.func52 (bodyOf Tryz.f52) fun ctr hc=>?_
  refine Wo0 ?_
  refine Wo 12 0 (cursor_New_ok.get h' w) fun v h1=>?_
  obtain ⟨⟨v_0_X,v_0_Y,v_0_Wrap,v_0_Origin,⟨v_0_Pen_Fg,v_0_Pen_Bg,v_0_Pen_Flags⟩,⟨⟨v_0_Set_G_x0,v_0_Set_G_x1,v_0_Set_G_x2,v_0_Set_G_x3⟩,v_0_Set_GL,v_0_Set_GR,v_0_Set_Once⟩⟩,⟨v_1_H,v_1_W,v_1_Top,v_1_Bottom⟩⟩:=v
  refine Wo 18 0 (grid_New_ok.get h' w d_api_Pen) fun v1 h2=>?_
  obtain ⟨v1_Rows⟩:=v1
  refine Wo 22 0 (tabs_New_ok.get w) fun v2 h3=>?_
  obtain ⟨v2_L,v2_W⟩:=v2
  refine Wo 24 0 (history_New_ok.get kept) fun v3 h4=>?_
  obtain ⟨v3_Rows,v3_Cap⟩:=v3
  refine Wk [] 0 [] Wz

theorem interp_Sane_ok0 (screen_Sane_ok:Kp (∀ (s:T_screen_Screen) (r:Bool) (h:screen_Sane s=some r),PureFn Tryz.prog 46 [(.agg 25 (fun j=>(D_screen_Screen nvS s j)))] ((.v (.bool r))))) (modes_Sane_ok:Kp (∀ (m:T_modes_Modes) (r:Bool) (h:modes_Sane m=some r),PureFn Tryz.prog 47 [(.agg 1 (fun j=>(D_modes_Modes nvS m j)))] ((.v (.bool r))))) (interp_whole_ok:Kp (∀ (r':T_cursor_Region) (r:T_cursor_Region) (h:interp_whole r'=some r),PureFn Tryz.prog 48 [(.agg 4 (fun j=>(D_cursor_Region nvS r' j)))] ((.agg 4 (fun j=>(D_cursor_Region nvS r j)))))) (cursor_Sane_ok:Kp (∀ (c':T_cursor_Cursor) (r':T_cursor_Region) (r:Bool) (h:cursor_Sane c' r'=some r),PureFn Tryz.prog 49 [(.agg 14 (fun j=>(D_cursor_Cursor nvS c' j))),(.agg 4 (fun j=>(D_cursor_Region nvS r' j)))] ((.v (.bool r))))) (s:T_interp_State) (r:Bool) (h:interp_Sane s=some r):PureFn Tryz.prog 15 [(.agg 83 (fun j=>(D_interp_State nvS s j)))] ((.v (.bool r))):=by
  obtain ⟨⟨⟨s_Main_G_Rows⟩,⟨s_Main_C_X,s_Main_C_Y,s_Main_C_Wrap,s_Main_C_Origin,⟨s_Main_C_Pen_Fg,s_Main_C_Pen_Bg,s_Main_C_Pen_Flags⟩,⟨⟨s_Main_C_Set_G_x0,s_Main_C_Set_G_x1,s_Main_C_Set_G_x2,s_Main_C_Set_G_x3⟩,s_Main_C_Set_GL,s_Main_C_Set_GR,s_Main_C_Set_Once⟩⟩,⟨s_Main_R_H,s_Main_R_W,s_Main_R_Top,s_Main_R_Bottom⟩,⟨s_Main_T_L,s_Main_T_W⟩,⟨s_Main_K_Rows,s_Main_K_Cap⟩,s_Main_Dir,s_Main_Explicit⟩,⟨⟨s_Other_G_Rows⟩,⟨s_Other_C_X,s_Other_C_Y,s_Other_C_Wrap,s_Other_C_Origin,⟨s_Other_C_Pen_Fg,s_Other_C_Pen_Bg,s_Other_C_Pen_Flags⟩,⟨⟨s_Other_C_Set_G_x0,s_Other_C_Set_G_x1,s_Other_C_Set_G_x2,s_Other_C_Set_G_x3⟩,s_Other_C_Set_GL,s_Other_C_Set_GR,s_Other_C_Set_Once⟩⟩,⟨s_Other_R_H,s_Other_R_W,s_Other_R_Top,s_Other_R_Bottom⟩,⟨s_Other_T_L,s_Other_T_W⟩,⟨s_Other_K_Rows,s_Other_K_Cap⟩,s_Other_Dir,s_Other_Explicit⟩,s_On,⟨s_M_Bits⟩,⟨⟨s_Saved_x0_X,s_Saved_x0_Y,s_Saved_x0_Wrap,s_Saved_x0_Origin,⟨s_Saved_x0_Pen_Fg,s_Saved_x0_Pen_Bg,s_Saved_x0_Pen_Flags⟩,⟨⟨s_Saved_x0_Set_G_x0,s_Saved_x0_Set_G_x1,s_Saved_x0_Set_G_x2,s_Saved_x0_Set_G_x3⟩,s_Saved_x0_Set_GL,s_Saved_x0_Set_GR,s_Saved_x0_Set_Once⟩⟩,⟨s_Saved_x1_X,s_Saved_x1_Y,s_Saved_x1_Wrap,s_Saved_x1_Origin,⟨s_Saved_x1_Pen_Fg,s_Saved_x1_Pen_Bg,s_Saved_x1_Pen_Flags⟩,⟨⟨s_Saved_x1_Set_G_x0,s_Saved_x1_Set_G_x1,s_Saved_x1_Set_G_x2,s_Saved_x1_Set_G_x3⟩,s_Saved_x1_Set_GL,s_Saved_x1_Set_GR,s_Saved_x1_Set_Once⟩⟩⟩,s_Out,s_Title,s_Last⟩:=s
  unfold interp_Sane at h
  try dsimp only at h
  refine Wfn Tryz.func15 (bodyOf Tryz.f15) fun ctr hc=>?_
  refine Wo0 ?_
  refine Wo 8 0 (screen_Sane_ok.get (T_screen_Screen.mk (T_grid_Grid.mk s_Main_G_Rows) (T_cursor_Cursor.mk s_Main_C_X s_Main_C_Y s_Main_C_Wrap s_Main_C_Origin (T_api_Pen.mk s_Main_C_Pen_Fg s_Main_C_Pen_Bg s_Main_C_Pen_Flags) (T_charset_State.mk (T_Arr4_u8.mk s_Main_C_Set_G_x0 s_Main_C_Set_G_x1 s_Main_C_Set_G_x2 s_Main_C_Set_G_x3) s_Main_C_Set_GL s_Main_C_Set_GR s_Main_C_Set_Once)) (T_cursor_Region.mk s_Main_R_H s_Main_R_W s_Main_R_Top s_Main_R_Bottom) (T_tabs_Stops.mk s_Main_T_L s_Main_T_W) (T_history_Kept.mk s_Main_K_Rows s_Main_K_Cap) s_Main_Dir s_Main_Explicit)) fun v h1=>?_
  refine Wog 13 0 (!(!v)) (screen_Sane_ok.get (T_screen_Screen.mk (T_grid_Grid.mk s_Other_G_Rows) (T_cursor_Cursor.mk s_Other_C_X s_Other_C_Y s_Other_C_Wrap s_Other_C_Origin (T_api_Pen.mk s_Other_C_Pen_Fg s_Other_C_Pen_Bg s_Other_C_Pen_Flags) (T_charset_State.mk (T_Arr4_u8.mk s_Other_C_Set_G_x0 s_Other_C_Set_G_x1 s_Other_C_Set_G_x2 s_Other_C_Set_G_x3) s_Other_C_Set_GL s_Other_C_Set_GR s_Other_C_Set_Once)) (T_cursor_Region.mk s_Other_R_H s_Other_R_W s_Other_R_Top s_Other_R_Bottom) (T_tabs_Stops.mk s_Other_T_L s_Other_T_W) (T_history_Kept.mk s_Other_K_Rows s_Other_K_Cap) s_Other_Dir s_Other_Explicit)) false fun v1 h2=>?_
  refine Wog 19 0 (!(if (!v)=true then true else (!v1))) (modes_Sane_ok.get (T_modes_Modes.mk s_M_Bits)) false fun v2 h3=>?_
  refine Wo 25 0 (interp_whole_ok.get (T_cursor_Region.mk s_Main_R_H s_Main_R_W s_Main_R_Top s_Main_R_Bottom)) fun v3 h4=>?_
  obtain ⟨v3_H,v3_W,v3_Top,v3_Bottom⟩:=v3
  refine Wo 30 0 (interp_whole_ok.get (T_cursor_Region.mk s_Other_R_H s_Other_R_W s_Other_R_Top s_Other_R_Bottom)) fun v4 h5=>?_
  obtain ⟨v4_H,v4_W,v4_Top,v4_Bottom⟩:=v4
  revert h
  refine Wjp 4 [] 0 [] (Wq ?_)
  intro h
  intros
  refine Wcut h (ctr+4) [(2,1),(2,1),(26,10)] [] (fun _ u=>Fa [] []) (fun x uc ug ut ht hu hp h=>?_) (fun f h=>?_)
  · refine Wx [] 0 [] Wz
  · revert h
    refine Wyp 1 [] 0 [] (Wq ?_)
    intro h
    intros
    refine Tr.block ?_
    refine Tr.rounds 3 ?_
    refine Wrnd h (ctr+5) [(2,1),(2,1),(28,8)] [(5,1)] (fun _ u1=>Fa [(34,.v (.int .i64 1))] []) (fun x u1c u1g u1t ht hu hp h=>?_) (fun f h=>?_)
    · refine Wrnd h u1c [(2,1),(2,1),(28,8)] [(5,1)] (fun _ u2=>Fa [(34,.v (.int .i64 2))] []) (fun x u2c u2g u2t ht hu hp h=>?_) (fun f h=>?_)
      · refine Wx [] 0 [] Wz
      · refine Wo0 ?_
        refine Wo 39 0 (cursor_Sane_ok.get (T_cursor_Cursor.mk s_Saved_x1_X s_Saved_x1_Y s_Saved_x1_Wrap s_Saved_x1_Origin (T_api_Pen.mk s_Saved_x1_Pen_Fg s_Saved_x1_Pen_Bg s_Saved_x1_Pen_Flags) (T_charset_State.mk (T_Arr4_u8.mk s_Saved_x1_Set_G_x0 s_Saved_x1_Set_G_x1 s_Saved_x1_Set_G_x2 s_Saved_x1_Set_G_x3) s_Saved_x1_Set_GL s_Saved_x1_Set_GR s_Saved_x1_Set_Once)) (T_cursor_Region.mk v3_H v3_W v3_Top v3_Bottom)) fun v5 h14=>?_
        refine Wk [] 0 [] Wz
    · refine Wo0 ?_
      refine Wo 39 0 (cursor_Sane_ok.get (T_cursor_Cursor.mk s_Saved_x0_X s_Saved_x0_Y s_Saved_x0_Wrap s_Saved_x0_Origin (T_api_Pen.mk s_Saved_x0_Pen_Fg s_Saved_x0_Pen_Bg s_Saved_x0_Pen_Flags) (T_charset_State.mk (T_Arr4_u8.mk s_Saved_x0_Set_G_x0 s_Saved_x0_Set_G_x1 s_Saved_x0_Set_G_x2 s_Saved_x0_Set_G_x3) s_Saved_x0_Set_GL s_Saved_x0_Set_GR s_Saved_x0_Set_Once)) (T_cursor_Region.mk v3_H v3_W v3_Top v3_Bottom)) fun v6 h16=>?_
      refine Wk [] 0 [] Wz

theorem lapwingref09_Same_ok0 (lapwingref08_Same_ok:Kp (∀ (a:T_api_Row) (b:T_api_Row) (r:Bool) (h:lapwingref08_Same a b=some r),PureFn Tryz.prog 142 [(.agg 4 (fun j=>(D_api_Row nvS a j))),(.agg 4 (fun j=>(D_api_Row nvS b j)))] ((.v (.bool r))))) (a:(List T_api_Row)) (b:(List T_api_Row)) (r:Bool) (h:lapwingref09_Same a b=some r):PureFn Tryz.prog 59 [(.sl 4 (nvS.len a) false (fun ix jx=>(D_api_Row nvS (nvS.get d_api_Row a ix) jx))),(.sl 4 (nvS.len b) false (fun ix jx=>(D_api_Row nvS (nvS.get d_api_Row b ix) jx)))] ((.v (.bool r))):=by
  unfold lapwingref09_Same at h
  refine Wfn Tryz.func59 (bodyOf Tryz.f59) fun ctr hc=>?_
  revert h
  refine Wyp 2 [] 0 [] (Wq ?_)
  intro h
  intros
  refine Wcut h (ctr+2) [(4,2),(5,16)] [] (fun _ u=>Fa [] []) (fun x uc ug ut ht hu hp h=>?_) (fun f h=>?_)
  · refine Wx [] 0 [] Wz
  · revert h
    refine Wyp 1 [] 0 [] (Wq ?_)
    intro h
    intros
    refine Tr.block ?_
    refine Wlp h (ctr+3) [(4,2),(5,16)] [] (fun i u1=>Fa [(5,.v (.int .i64 i))] []) Wlay (fun i u1c u1g u1t f ht hu hp h=>?_)
    refine Wo0 ?_
    refine Wo 25 0 (lapwingref08_Same_ok.get (getL d_api_Row a i) (getL d_api_Row b i)) fun v h19=>?_
    refine Wk [] 0 [] Wz
end Go.Vx
