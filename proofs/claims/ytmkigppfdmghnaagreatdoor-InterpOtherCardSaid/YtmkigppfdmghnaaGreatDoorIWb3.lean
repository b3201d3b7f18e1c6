/- Walks, by program (lift5.py): the code does what the lifted functions say. -/
import Derived.Test.YtmkigppfdmghnaaGreatDoorIWalkPr
set_option linter.all false
namespace Go.Vx
open Go.Proofs
set_option maxRecDepth 100000
set_option maxHeartbeats 8000000
set_option linter.unusedVariables false
set_option linter.unusedSimpArgs false
attribute [local irreducible] chk iteO bindO cutO nilO

theorem history_bounded_ok (n:Int) (most:Int) (r:Int) (h:history_bounded n most=some r):PureFn Tryz.prog 214 [(.v (.int .i64 n)),(.v (.int .i64 most))] ((.v (.int .i64 r))):=by
  unfold history_bounded at h
  refine Wfn Tryz.func214 (bodyOf Tryz.f214) fun ctr hc=>?_
  refine Wx [] 0 [] Wz

theorem history_New_ok (c':Int) (r:T_history_Kept) (h:history_New c'=some r):PureFn Tryz.prog 139 [(.v (.int .i64 c'))] ((.agg 2 (fun j=>(D_history_Kept nvS r j)))):=by
  unfold history_New at h
  refine Wfn Tryz.func139 (bodyOf Tryz.f139) fun ctr hc=>?_
  refine Wo0 ?_
  refine Wo 4 0 (history_bounded_ok c' 200) fun v h1=>?_
  refine Wk [] 0 [] Wz

theorem ucd_words_1_ok (c':Int) (r:Bool) (h:ucd_words_1 c'=some r):PureFn Tryz.prog 206 [(.v (.int .i32 c'))] ((.v (.bool r))):=by
  unfold ucd_words_1 at h
  refine Wfn Tryz.func206 (bodyOf Tryz.f206) fun ctr hc=>?_
  refine Wx [] 0 [] Wz

theorem strings_FieldsFunc_52_ok (s:ByteArray) (r:(List ByteArray)) (h:strings_FieldsFunc_52 s=some r):PureFn Tryz.prog 205 [(.v (.string s)),.fn (.func 206) 0 (fun _=>.junk)] (.own 1 (nvS.len r) false (fun ix jx=>(.v (.string (nvS.get ByteArray.empty r ix))))):=by
  unfold strings_FieldsFunc_52 at h
  refine Wfn Tryz.func205 (bodyOf Tryz.f205) fun ctr hc=>?_
  revert h
  refine Wyp 3 [] 0 [] (Wq ?_)
  intro h
  intros
  refine Wcut h (ctr+3) [(5,4),(4,22)] [(12,1),(1,1)] (fun (start,spans) u=>Fa [(5,.vec 12 (u.g 12) 2 0 (nvS.len spans)),(6,.v (.int .i64 start))] [(12,.arr (u.g 12) 2 (nvS.len spans) (u.t 12) (fun ix jx=>(D_strings_span nvS (nvS.get d_strings_span spans ix) jx)))]) (fun x uc ug ut ht hu hp h=>?_) (fun f h=>?_)
  · obtain ⟨start,spans⟩:=x
    try dsimp only at hp h
    refine Wcut h uc [(5,1),(29,9)] [(12,1),(30,1)] (fun spans1 u1=>Fa [(5,.vec 12 (u1.g 12) 2 0 (nvS.len spans1))] [(12,.arr (u1.g 12) 2 (nvS.len spans1) (u1.t 12) (fun ix jx=>(D_strings_span nvS (nvS.get d_strings_span spans1 ix) jx)))]) (fun spans1 u1c u1g u1t ht hu hp h=>?_) (fun f h=>?_)
    · revert h
      refine Wyp 1 [] 0 [] (Wq ?_)
      intro h
      intros
      refine Wcut h (u1c+1) [(10,2),(35,17)] [(46,1)] (fun a u2=>⟨[],[(46,.arr (u1c+0) 1 (nvS.len spans1) (u2.t 46) (fun ix jx=>(.v (.string (nvS.get ByteArray.empty a ix)))))],fun _=>lenL a=(lenL spans1)⟩) (fun a u2c u2g u2t ht hu hp h=>?_) (fun f h=>?_)
      · try dsimp only at hp h
        refine Wx [] 0 [] Wz
      · revert h
        refine Wyp 1 [] 0 [] (Wq ?_)
        intro h
        intros
        refine Tr.block ?_
        refine Wlp h (u1c+2) [(10,2),(37,15)] [(11,1),(34,1)] (fun (v,a1) u3=>⟨[(49,.v (.int .i64 v))],[(46,.arr (u1c+0) 1 (nvS.len spans1) (u3.t 46) (fun ix jx=>(.v (.string (nvS.get ByteArray.empty a1 ix)))))],fun _=>lenL a1=(lenL spans1)⟩) Wlay (fun x u3c u3g u3t f ht hu hp h=>?_)
        obtain ⟨v,a1⟩:=x
        try dsimp only at hp h
        refine Wx [] 0 [] Wz
    · refine Wx [42] 0 [] Wz
  · revert h
    refine Wyp 1 [] 0 [] (Wq ?_)
    intro h
    intros
    refine Tr.block ?_
    refine Wlp h (ctr+4) [(5,4),(6,20)] [(12,1),(1,1),(14,1)] (fun (start1,spans2,pos) u4=>Fa [(5,.vec 12 (u4.g 12) 2 0 (nvS.len spans2)),(6,.v (.int .i64 start1))] [(12,.arr (u4.g 12) 2 (nvS.len spans2) (u4.t 12) (fun ix jx=>(D_strings_span nvS (nvS.get d_strings_span spans2 ix) jx))),(14,.iter (ctr+3) s pos)]) Wlay (fun x u4c u4g u4t f ht hu hp h=>?_)
    obtain ⟨start1,spans2,pos⟩:=x
    try dsimp only at hp h
    refine Wo0 ?_
    refine Wi 21 0 h (sT sB) (ucd_words_1_ok _) fun v1 h33=>?_
    refine Wk [28] 0 [] Wz

theorem ucd_words_ok (e:ByteArray) (r:(List ByteArray)) (h:ucd_words e=some r):PureFn Tryz.prog 125 [(.v (.string e))] (.own 1 (nvS.len r) false (fun ix jx=>(.v (.string (nvS.get ByteArray.empty r ix))))):=by
  unfold ucd_words at h
  refine Wfn Tryz.func125 (bodyOf Tryz.f125) fun ctr hc=>?_
  refine Wo0 ?_
  refine Wo 4 1 (strings_FieldsFunc_52_ok e) fun v h1=>?_
  refine Wk [] 0 [] Wz

theorem strings_Fields_ok (s:ByteArray) (r:(List ByteArray)) (h:strings_Fields s=some r):PureFn Tryz.prog 127 [(.v (.string s))] (.own 1 (nvS.len r) false (fun ix jx=>(.v (.string (nvS.get ByteArray.empty r ix))))):=by
  unfold strings_Fields at h
  refine Wfn Tryz.func127 (bodyOf Tryz.f127) fun ctr hc=>?_
  revert h
  refine Wyp 4 [] 0 [] (Wq ?_)
  intro h
  intros
  refine Wcut h (ctr+4) [(3,6),(4,23)] [] (fun (n,setBits) u=>Fa [(3,.v (.int .i64 n)),(5,.v (.int .u8 setBits))] []) (fun x uc ug ut ht hu hp h=>?_) (fun f h=>?_)
  · obtain ⟨n,setBits⟩:=x
    try dsimp only at hp h
    revert h
    refine Wyp 5 [] 0 [] (Wq ?_)
    intro h
    intros
    refine Wcut h (uc+5) [(12,1),(29,14)] [(41,1)] (fun i u1=>Fa [(12,.v (.int .i64 i))] [(41,.arr (uc+1) 1 n (u1.t 41) (fun ix jx=>(.v (.string (nvS.get ByteArray.empty (nvS.rep n ByteArray.empty) ix)))))]) (fun i u1c u1g u1t ht hu hp h=>?_) (fun f h=>?_)
    · revert h
      refine Wyp 1 [] 0 [] (Wq ?_)
      intro h
      intros
      refine Wcut h (u1c+1) [(10,3),(44,38)] [(41,1)] (fun (na,fieldStart,a) u2=>⟨[(10,.v (.int .i64 na)),(11,.v (.int .i64 fieldStart))],[(41,.arr (uc+1) 1 n (u2.t 41) (fun ix jx=>(.v (.string (nvS.get ByteArray.empty a ix)))))],fun _=>lenL a=n⟩) (fun x u2c u2g u2t ht hu hp h=>?_) (fun f h=>?_)
      · obtain ⟨na,fieldStart,a⟩:=x
        try dsimp only at hp h
        refine Wx [] 0 [] Wz
      · refine Tr.block ?_
        refine Wlp h (u1c+1) [(10,3),(44,38)] [(41,1)] (fun (na1,fieldStart1,i1,a1) u3=>⟨[(10,.v (.int .i64 na1)),(11,.v (.int .i64 fieldStart1)),(12,.v (.int .i64 i1))],[(41,.arr (uc+1) 1 n (u3.t 41) (fun ix jx=>(.v (.string (nvS.get ByteArray.empty a1 ix)))))],fun _=>lenL a1=n⟩) Wlay (fun x u3c u3g u3t f ht hu hp h=>?_)
        obtain ⟨na1,fieldStart1,i1,a1⟩:=x
        try dsimp only at hp h
        revert h
        refine Wyp 1 [] 0 [] (Wq ?_)
        intro h
        intros
        refine Tr.block ?_
        revert h
        refine Wyp 4 [] 0 [] (Wq ?_)
        intro h
        intros
        refine Wcut h (u3c+5) [(12,1),(67,14)] [(41,1)] (fun i4 u4=>Fa [(12,.v (.int .i64 i4))] [(41,.arr (uc+1) 1 n (u4.t 41) (fun ix jx=>(.v (.string (nvS.get ByteArray.empty (nvS.set a1 na1 ((std Tryz.prog).ssub s fieldStart1 i1)) ix)))))]) (fun i4 u4c u4g u4t ht hu hp h=>?_) (fun f h=>?_)
        · refine Wx [] 0 [] Wz
        · refine Tr.block ?_
          refine Wlp h (u3c+5) [(12,1),(67,14)] [(41,1)] (fun i5 u5=>Fa [(12,.v (.int .i64 i5))] [(41,.arr (uc+1) 1 n (u5.t 41) (fun ix jx=>(.v (.string (nvS.get ByteArray.empty (nvS.set a1 na1 ((std Tryz.prog).ssub s fieldStart1 i1)) ix)))))]) Wlay (fun i5 u5c u5g u5t f ht hu hp h=>?_)
          refine Wx [] 0 [] Wz
    · refine Tr.block ?_
      refine Wlp h (uc+5) [(12,1),(29,14)] [(41,1)] (fun i7 u6=>Fa [(12,.v (.int .i64 i7))] [(41,.arr (uc+1) 1 n (u6.t 41) (fun ix jx=>(.v (.string (nvS.get ByteArray.empty (nvS.rep n ByteArray.empty) ix)))))]) Wlay (fun i7 u6c u6g u6t f ht hu hp h=>?_)
      refine Wx [] 0 [] Wz
  · revert h
    refine Wyp 1 [] 0 [] (Wq ?_)
    intro h
    intros
    refine Tr.block ?_
    refine Wlp h (ctr+5) [(3,6),(4,23)] [] (fun (n1,wasSpace,setBits1,i9) u7=>Fa [(3,.v (.int .i64 n1)),(4,.v (.int .i64 wasSpace)),(5,.v (.int .u8 setBits1)),(6,.v (.int .i64 i9))] []) Wlay (fun x u7c u7g u7t f ht hu hp h=>?_)
    obtain ⟨n1,wasSpace,setBits1,i9⟩:=x
    try dsimp only at hp h
    refine Wx [] 0 [] Wz

theorem ucd_className_ok (s:ByteArray) (r:Int) (h:ucd_className s=some r):PureFn Tryz.prog 41 [(.v (.string s))] ((.v (.int .i64 r))):=by
  unfold ucd_className at h
  refine Wfn Tryz.func41 (bodyOf Tryz.f41) fun ctr hc=>?_
  revert h
  refine Wyp 1 [] 0 [] (Wq ?_)
  intro h
  intros
  refine Wcut h (ctr+1) [(2,16)] [(5,1)] (fun _ u=>Fa [] []) (fun x uc ug ut ht hu hp h=>?_) (fun f h=>?_)
  · refine Wx [] 0 [] Wz
  · refine Wo0 ?_
    refine Wo 5 1 (strings_Fields_ok kS0) fun v h8=>?_
    revert h
    refine Wjp 1 [] 0 [] (Wq ?_)
    intro h
    intros
    refine Tr.block ?_
    refine Wlp h (ctr+2) [(2,3),(2,11)] [] (fun v1 u1=>Fa [(7,.v (.int .i64 v1))] []) Wlay (fun v1 u1c u1g u1t f ht hu hp h=>?_)
    refine Wx [] 0 [] Wz

theorem ucd_joinName_ok (s:ByteArray) (r:Int) (h:ucd_joinName s=some r):PureFn Tryz.prog 43 [(.v (.string s))] ((.v (.int .i64 r))):=by
  unfold ucd_joinName at h
  refine Wfn Tryz.func43 (bodyOf Tryz.f43) fun ctr hc=>?_
  refine Wx [] 0 [] Wz

theorem interp_whole_ok (r':T_cursor_Region) (r:T_cursor_Region) (h:interp_whole r'=some r):PureFn Tryz.prog 48 [(.agg 4 (fun j=>(D_cursor_Region nvS r' j)))] ((.agg 4 (fun j=>(D_cursor_Region nvS r j)))):=by
  unfold interp_whole at h
  refine Wfn Tryz.func48 (bodyOf Tryz.f48) fun ctr hc=>?_
  refine Wx [] 0 [] Wz

theorem ranges_Get_ok (t':T_ranges_Table) (r':Int) (r:Int) (h:ranges_Get t' r'=some r):PureFn Tryz.prog 148 [(.agg 1 (fun j=>(D_ranges_Table nvS t' j))),(.v (.int .i64 r'))] ((.v (.int .i64 r))):=by
  obtain ⟨q⟩:=t'
  unfold ranges_Get at h
  try dsimp only at h
  refine Wfn Tryz.func148 (bodyOf Tryz.f148) fun ctr hc=>?_
  revert h
  refine Wyp 1 [] 0 [] (Wq ?_)
  intro h
  intros
  refine Wcut h (ctr+1) [(4,1),(1,21)] [] (fun _ u=>Fa [] []) (fun x uc ug ut ht hu hp h=>?_) (fun f h=>?_)
  · refine Wx [] 0 [] Wz
  · revert h
    refine Wyp 1 [] 0 [] (Wq ?_)
    intro h
    intros
    refine Tr.block ?_
    refine Wlp h (ctr+2) [(4,1),(1,1),(3,17)] [(6,1)] (fun v u1=>Fa [(10,.v (.int .i64 v))] []) Wlay (fun v u1c u1g u1t f ht hu hp h=>?_)
    refine Wx [] 0 [] Wz

theorem ucd_Width_ok (d':T_ucd_Data) (r':Int) (r:Int) (h:ucd_Width d' r'=some r):PureFn Tryz.prog 65 [(.agg 6 (fun j=>(D_ucd_Data nvS d' j))),(.v (.int .i64 r'))] ((.v (.int .i64 r))):=by
  unfold ucd_Width at h
  refine Wfn Tryz.func65 (bodyOf Tryz.f65) fun ctr hc=>?_
  refine Wo0 ?_
  refine Wi 9 0 h sB (ranges_Get_ok _ _) fun v h1=>?_
  refine Wk [] 0 [] Wz

theorem grid_rows_ok (g':T_grid_Grid) (r:(List T_api_Row)) (h:grid_rows g'=some r):PureFn Tryz.prog 232 [(.agg 1 (fun j=>(D_grid_Grid nvS g' j)))] (.own 4 (nvS.len r) false (fun ix jx=>(D_api_Row nvS (nvS.get d_api_Row r ix) jx))):=by
  obtain ⟨q⟩:=g'
  unfold grid_rows at h
  try dsimp only at h
  refine Wfn Tryz.func232 (bodyOf Tryz.f232) fun ctr hc=>?_
  refine Wx [] 0 [] Wz

theorem screen_wraps_ok (on:Bool) (r:FV) (h:screen_wraps on=some r):PureFn Tryz.prog 186 [(.v (.bool on))] ((.fn (.func (nvS.fF r)) (nvS.fK r) (nvS.fC r))):=by
  unfold screen_wraps at h
  refine Wfn Tryz.func186 (bodyOf Tryz.f186) fun ctr hc=>?_
  refine Wx [] 0 [] Wz

theorem screen_ground_ok (s:T_screen_Screen) (r:T_api_Pen) (h:screen_ground s=some r):PureFn Tryz.prog 154 [(.agg 25 (fun j=>(D_screen_Screen nvS s j)))] ((.agg 3 (fun j=>(D_api_Pen nvS r j)))):=by
  unfold screen_ground at h
  refine Wfn Tryz.func154 (bodyOf Tryz.f154) fun ctr hc=>?_
  refine Wx [] 0 [] Wz

theorem params_Get_ok (l':(List (List Int))) (k':Int) (usual:Int) (r:Int) (h:params_Get l' k' usual=some r):PureFn Tryz.prog 195 [(.sl 1 (nvS.len l') false (fun ix jx=>(.sl 1 (nvS.len (nvS.get [] l' ix)) false (fun ix1 jx1=>(.v (.int .i64 (nvS.get 0 (nvS.get [] l' ix) ix1))))))),(.v (.int .i64 k')),(.v (.int .i64 usual))] ((.v (.int .i64 r))):=by
  unfold params_Get at h
  refine Wfn Tryz.func195 (bodyOf Tryz.f195) fun ctr hc=>?_
  refine Wx [] 0 [] Wz

theorem params_Count_ok (l':(List (List Int))) (k':Int) (usual:Int) (least:Int) (most:Int) (r:Int) (h:params_Count l' k' usual least most=some r):PureFn Tryz.prog 176 [(.sl 1 (nvS.len l') false (fun ix jx=>(.sl 1 (nvS.len (nvS.get [] l' ix)) false (fun ix1 jx1=>(.v (.int .i64 (nvS.get 0 (nvS.get [] l' ix) ix1))))))),(.v (.int .i64 k')),(.v (.int .i64 usual)),(.v (.int .i64 least)),(.v (.int .i64 most))] ((.v (.int .i64 r))):=by
  unfold params_Count at h
  refine Wfn Tryz.func176 (bodyOf Tryz.f176) fun ctr hc=>?_
  refine Wo0 ?_
  refine Wo 15 0 (params_Get_ok l' k' usual) fun v h1=>?_
  refine Wk [] 0 [] Wz

theorem interp_first_ok (a:T_api_Action) (r:Int) (h:interp_first a=some r):PureFn Tryz.prog 159 [(.agg 6 (fun j=>(D_api_Action nvS a j)))] ((.v (.int .i64 r))):=by
  unfold interp_first at h
  refine Wfn Tryz.func159 (bodyOf Tryz.f159) fun ctr hc=>?_
  refine Wo0 ?_
  refine Wi 5 0 h sB (params_Count_ok _ _ _ _ _) fun v h1=>?_
  refine Wk [] 0 [] Wz

theorem screen_erased_ok (from':Int) (to:Int) (p':T_api_Pen) (r:FV) (h:screen_erased from' to p'=some r):PureFn Tryz.prog 187 [(.v (.int .i64 from')),(.v (.int .i64 to)),(.agg 3 (fun j=>(D_api_Pen nvS p' j)))] ((.fn (.func (nvS.fF r)) (nvS.fK r) (nvS.fC r))):=by
  obtain ⟨q,q1,q2⟩:=p'
  unfold screen_erased at h
  try dsimp only at h
  refine Wfn Tryz.func187 (bodyOf Tryz.f187) fun ctr hc=>?_
  refine Wx [] 0 [] Wz

theorem interp_doing_ok (f':FV) (r:FV) (h:interp_doing f'=some r):PureFn Tryz.prog 70 [(.fn (.func (nvS.fF f')) (nvS.fK f') (nvS.fC f'))] ((.fn (.func (nvS.fF r)) (nvS.fK r) (nvS.fC r))):=by
  unfold interp_doing at h
  refine Wfn Tryz.func70 (bodyOf Tryz.f70) fun ctr hc=>?_
  refine Wx [] 0 [] Wz

theorem interp_setting_ok (f':FV) (r:FV) (h:interp_setting f'=some r):PureFn Tryz.prog 164 [(.fn (.func (nvS.fF f')) (nvS.fK f') (nvS.fC f'))] ((.fn (.func (nvS.fF r)) (nvS.fK r) (nvS.fC r))):=by
  unfold interp_setting at h
  refine Wfn Tryz.func164 (bodyOf Tryz.f164) fun ctr hc=>?_
  refine Wx [] 0 [] Wz

theorem interp_locking_ok (at':Int) (right:Bool) (r:FV) (h:interp_locking at' right=some r):PureFn Tryz.prog 78 [(.v (.int .i64 at')),(.v (.bool right))] ((.fn (.func (nvS.fF r)) (nvS.fK r) (nvS.fC r))):=by
  unfold interp_locking at h
  refine Wfn Tryz.func78 (bodyOf Tryz.f78) fun ctr hc=>?_
  refine Wo0 ?_
  refine Wi 6 6 h sB (interp_setting_ok _) fun v h1=>?_
  refine Wk [] 0 [] Wz

theorem interp_shifting_ok (at':Int) (r:FV) (h:interp_shifting at'=some r):PureFn Tryz.prog 83 [(.v (.int .i64 at'))] ((.fn (.func (nvS.fF r)) (nvS.fK r) (nvS.fC r))):=by
  unfold interp_shifting at h
  refine Wfn Tryz.func83 (bodyOf Tryz.f83) fun ctr hc=>?_
  refine Wo0 ?_
  refine Wi 4 6 h sB (interp_setting_ok _) fun v h1=>?_
  refine Wk [] 0 [] Wz

theorem interp_controls_ok  (r:(List T_interp_line)) (h:interp_controls=some r):PureFn Tryz.prog 31 [] ((.sl 3 (nvS.len r) false (fun ix jx=>(D_interp_line nvS (nvS.get d_interp_line r ix) jx)))):=by
  unfold interp_controls at h
  refine Wfn Tryz.func31 (bodyOf Tryz.f31) fun ctr hc=>?_
  refine Wo0 ?_
  refine Wi 1 6 h sB (interp_doing_ok _) fun v h1=>?_
  refine Wo 3 6 (interp_doing_ok (FV.nil 73)) fun v1 h2=>?_
  refine Wo 8 6 (interp_doing_ok (FV.nil 76)) fun v2 h3=>?_
  refine Wo 10 0 (interp_locking_ok 1 false) fun v3 h4=>?_
  refine Wo 12 0 (interp_locking_ok 0 false) fun v4 h5=>?_
  refine Wo 14 6 (interp_doing_ok (FV.nil 79)) fun v5 h6=>?_
  refine Wo 16 6 (interp_doing_ok (FV.nil 80)) fun v6 h7=>?_
  refine Wo 19 6 (interp_doing_ok (FV.nil 82)) fun v7 h8=>?_
  refine Wo 21 0 (interp_shifting_ok 2) fun v8 h9=>?_
  refine Wo 23 0 (interp_shifting_ok 3) fun v9 h10=>?_
  refine Wk [25] 0 [] Wz

theorem interp_find_ok (l':(List T_interp_line)) (inter:ByteArray) (final:Int) (r:FV) (h:interp_find l' inter final=some r):PureFn Tryz.prog 30 [(.sl 3 (nvS.len l') false (fun ix jx=>(D_interp_line nvS (nvS.get d_interp_line l' ix) jx))),(.v (.string inter)),(.v (.int .u8 final))] ((.fn (.func (nvS.fF r)) (nvS.fK r) (nvS.fC r))):=by
  unfold interp_find at h
  refine Wfn Tryz.func30 (bodyOf Tryz.f30) fun ctr hc=>?_
  revert h
  refine Wyp 1 [] 0 [] (Wq ?_)
  intro h
  intros
  refine Wcut h (ctr+1) [(6,1),(1,20)] [] (fun _ u=>Fa [] []) (fun x uc ug ut ht hu hp h=>?_) (fun f h=>?_)
  · refine Wx [] 0 [] Wz
  · revert h
    refine Wyp 1 [] 0 [] (Wq ?_)
    intro h
    intros
    refine Tr.block ?_
    refine Wlp h (ctr+2) [(6,1),(1,1),(2,17)] [(8,1)] (fun v u1=>Fa [(11,.v (.int .i64 v))] []) Wlay (fun v u1c u1g u1t f ht hu hp h=>?_)
    refine Wx [] 0 [] Wz

theorem interp_escapes_ok  (r:(List T_interp_line)) (h:interp_escapes=some r):PureFn Tryz.prog 34 [] ((.sl 3 (nvS.len r) false (fun ix jx=>(D_interp_line nvS (nvS.get d_interp_line r ix) jx)))):=by
  unfold interp_escapes at h
  refine Wfn Tryz.func34 (bodyOf Tryz.f34) fun ctr hc=>?_
  refine Wo0 ?_
  refine Wi 3 6 h sB (interp_doing_ok _) fun v h1=>?_
  refine Wo 5 6 (interp_doing_ok (FV.nil 80)) fun v1 h2=>?_
  refine Wo 7 6 (interp_doing_ok (FV.nil 82)) fun v2 h3=>?_
  refine Wo 11 0 (interp_locking_ok 2 false) fun v3 h4=>?_
  refine Wo 13 0 (interp_locking_ok 3 false) fun v4 h5=>?_
  refine Wo 15 0 (interp_locking_ok 1 true) fun v5 h6=>?_
  refine Wo 17 0 (interp_locking_ok 2 true) fun v6 h7=>?_
  refine Wo 19 0 (interp_locking_ok 3 true) fun v7 h8=>?_
  refine Wo 21 0 (interp_shifting_ok 2) fun v8 h9=>?_
  refine Wo 23 0 (interp_shifting_ok 3) fun v9 h10=>?_
  refine Wk [26] 0 [] Wz

theorem interp_moving_ok (f':FV) (r:FV) (h:interp_moving f'=some r):PureFn Tryz.prog 90 [(.fn (.func (nvS.fF f')) (nvS.fK f') (nvS.fC f'))] ((.fn (.func (nvS.fF r)) (nvS.fK r) (nvS.fC r))):=by
  unfold interp_moving at h
  refine Wfn Tryz.func90 (bodyOf Tryz.f90) fun ctr hc=>?_
  refine Wo0 ?_
  refine Wi 4 6 h sB (interp_doing_ok _) fun v h1=>?_
  refine Wk [] 0 [] Wz

theorem interp_going_ok (dy:Int) (dx:Int) (begin:Bool) (r:FV) (h:interp_going dy dx begin=some r):PureFn Tryz.prog 93 [(.v (.int .i64 dy)),(.v (.int .i64 dx)),(.v (.bool begin))] ((.fn (.func (nvS.fF r)) (nvS.fK r) (nvS.fC r))):=by
  unfold interp_going at h
  refine Wfn Tryz.func93 (bodyOf Tryz.f93) fun ctr hc=>?_
  refine Wo0 ?_
  refine Wi 8 6 h sB (interp_moving_ok _) fun v h1=>?_
  refine Wk [] 0 [] Wz

theorem interp_kind_ok (a:T_api_Action) (r:Int) (h:interp_kind a=some r):PureFn Tryz.prog 178 [(.agg 6 (fun j=>(D_api_Action nvS a j)))] ((.v (.int .i64 r))):=by
  unfold interp_kind at h
  refine Wfn Tryz.func178 (bodyOf Tryz.f178) fun ctr hc=>?_
  refine Wo0 ?_
  refine Wi 5 0 h sB (params_Get_ok _ _ _) fun v h1=>?_
  refine Wk [] 0 [] Wz

theorem interp_choosing_ok (f':FV) (r:FV) (h:interp_choosing f'=some r):PureFn Tryz.prog 98 [(.fn (.func (nvS.fF f')) (nvS.fK f') (nvS.fC f'))] ((.fn (.func (nvS.fF r)) (nvS.fK r) (nvS.fC r))):=by
  unfold interp_choosing at h
  refine Wfn Tryz.func98 (bodyOf Tryz.f98) fun ctr hc=>?_
  refine Wx [] 0 [] Wz

theorem interp_switching_ok (on:Bool) (r:FV) (h:interp_switching on=some r):PureFn Tryz.prog 112 [(.v (.bool on))] ((.fn (.func (nvS.fF r)) (nvS.fK r) (nvS.fC r))):=by
  unfold interp_switching at h
  refine Wfn Tryz.func112 (bodyOf Tryz.f112) fun ctr hc=>?_
  refine Wx [] 0 [] Wz

theorem interp_saying_ok (k':Int) (text:FV) (r:FV) (h:interp_saying k' text=some r):PureFn Tryz.prog 114 [(.v (.int .i64 k')),(.fn (.func (nvS.fF text)) (nvS.fK text) (nvS.fC text))] ((.fn (.func (nvS.fF r)) (nvS.fK r) (nvS.fC r))):=by
  unfold interp_saying at h
  refine Wfn Tryz.func114 (bodyOf Tryz.f114) fun ctr hc=>?_
  refine Wx [] 0 [] Wz

theorem interp_sequences_ok  (r:(List T_interp_line)) (h:interp_sequences=some r):PureFn Tryz.prog 35 [] ((.sl 3 (nvS.len r) false (fun ix jx=>(D_interp_line nvS (nvS.get d_interp_line r ix) jx)))):=by
  unfold interp_sequences at h
  refine Wfn Tryz.func35 (bodyOf Tryz.f35) fun ctr hc=>?_
  refine Wo0 ?_
  refine Wi 2 6 h sB (interp_moving_ok _) fun v h1=>?_
  refine Wo 3 0 (interp_going_ok (-1) 0 false) fun v1 h2=>?_
  refine Wo 5 0 (interp_going_ok 1 0 false) fun v2 h3=>?_
  refine Wo 7 0 (interp_going_ok 0 1 false) fun v3 h4=>?_
  refine Wo 9 0 (interp_going_ok 0 (-1) false) fun v4 h5=>?_
  refine Wod 11 0 h4 ?_
  refine Wod 13 0 h3 ?_
  refine Wo 15 0 (interp_going_ok 1 0 true) fun v5 h6=>?_
  refine Wo 17 0 (interp_going_ok (-1) 0 true) fun v6 h7=>?_
  refine Wo 23 6 (interp_moving_ok (FV.nil 94)) fun v7 h8=>?_
  refine Wo 27 6 (interp_doing_ok (FV.nil 74)) fun v8 h9=>?_
  refine Wo 29 6 (interp_doing_ok (FV.nil 97)) fun v9 h10=>?_
  refine Wo 31 6 (interp_choosing_ok (FV.nil 99)) fun v10 h11=>?_
  refine Wo 33 6 (interp_choosing_ok (FV.nil 100)) fun v11 h12=>?_
  refine Wo 35 6 (interp_doing_ok (FV.nil 101)) fun v12 h13=>?_
  refine Wo 37 6 (interp_doing_ok (FV.nil 102)) fun v13 h14=>?_
  refine Wo 39 6 (interp_doing_ok (FV.nil 103)) fun v14 h15=>?_
  refine Wo 41 6 (interp_doing_ok (FV.nil 104)) fun v15 h16=>?_
  refine Wo 43 6 (interp_doing_ok (FV.nil 105)) fun v16 h17=>?_
  refine Wo 45 6 (interp_doing_ok (FV.nil 106)) fun v17 h18=>?_
  refine Wo 47 6 (interp_doing_ok (FV.nil 107)) fun v18 h19=>?_
  refine Wo 50 6 (interp_choosing_ok (FV.nil 109)) fun v19 h20=>?_
  refine Wo 56 0 (interp_switching_ok true) fun v20 h21=>?_
  refine Wo 58 0 (interp_switching_ok false) fun v21 h22=>?_
  refine Wo 61 6 (interp_saying_ok 0 (FV.nil 115)) fun v22 h23=>?_
  refine Wk [63] 0 [] Wz

theorem interp_privately_ok (on:Bool) (r:FV) (h:interp_privately on=some r):PureFn Tryz.prog 116 [(.v (.bool on))] ((.fn (.func (nvS.fF r)) (nvS.fK r) (nvS.fC r))):=by
  unfold interp_privately at h
  refine Wfn Tryz.func116 (bodyOf Tryz.f116) fun ctr hc=>?_
  refine Wx [] 0 [] Wz

theorem interp_reporting_ok (private':Bool) (mark:ByteArray) (r:FV) (h:interp_reporting private' mark=some r):PureFn Tryz.prog 119 [(.v (.bool private')),(.v (.string mark))] ((.fn (.func (nvS.fF r)) (nvS.fK r) (nvS.fC r))):=by
  unfold interp_reporting at h
  refine Wfn Tryz.func119 (bodyOf Tryz.f119) fun ctr hc=>?_
  refine Wx [] 0 [] Wz

theorem interp_others_ok  (r:(List T_interp_line)) (h:interp_others=some r):PureFn Tryz.prog 36 [] ((.sl 3 (nvS.len r) false (fun ix jx=>(D_interp_line nvS (nvS.get d_interp_line r ix) jx)))):=by
  unfold interp_others at h
  refine Wfn Tryz.func36 (bodyOf Tryz.f36) fun ctr hc=>?_
  refine Wo0 ?_
  refine Wo 1 0 (interp_privately_ok true) fun v h1=>?_
  refine Wo 3 0 (interp_privately_ok false) fun v1 h2=>?_
  refine Wo 5 6 (interp_choosing_ok (FV.nil 99)) fun v2 h3=>?_
  refine Wo 7 6 (interp_choosing_ok (FV.nil 100)) fun v3 h4=>?_
  refine Wo 9 6 (interp_saying_ok 6 (FV.nil 117)) fun v4 h5=>?_
  refine Wo 11 0 (interp_reporting_ok true (⟨#[63]⟩:ByteArray)) fun v5 h6=>?_
  refine Wo 13 0 (interp_reporting_ok false (⟨#[]⟩:ByteArray)) fun v6 h7=>?_
  refine Wo 15 6 (interp_saying_ok 0 (FV.nil 120)) fun v7 h8=>?_
  refine Wk [19] 0 [] Wz

theorem lapwingref16_short_ok (l':(List T_api_Row)) (r:Bool) (h:lapwingref16_short l'=some r):PureFn Tryz.prog 22 [(.sl 4 (nvS.len l') false (fun ix jx=>(D_api_Row nvS (nvS.get d_api_Row l' ix) jx)))] ((.v (.bool r))):=by
  unfold lapwingref16_short at h
  refine Wfn Tryz.func22 (bodyOf Tryz.f22) fun ctr hc=>?_
  revert h
  refine Wyp 2 [] 0 [] (Wq ?_)
  intro h
  intros
  refine Wcut h (ctr+2) [(2,2),(3,13)] [] (fun _ u=>Fa [] []) (fun x uc ug ut ht hu hp h=>?_) (fun f h=>?_)
  · refine Wx [] 0 [] Wz
  · revert h
    refine Wyp 1 [] 0 [] (Wq ?_)
    intro h
    intros
    refine Tr.block ?_
    refine Wlp h (ctr+3) [(2,2),(3,13)] [] (fun i u1=>Fa [(3,.v (.int .i64 i))] []) Wlay (fun i u1c u1g u1t f ht hu hp h=>?_)
    refine Wx [] 0 [] Wz

theorem lapwingref09_Few_ok (l':(List T_api_Row)) (r:Bool) (h:lapwingref09_Few l'=some r):PureFn Tryz.prog 58 [(.sl 4 (nvS.len l') false (fun ix jx=>(D_api_Row nvS (nvS.get d_api_Row l' ix) jx)))] ((.v (.bool r))):=by
  unfold lapwingref09_Few at h
  refine Wfn Tryz.func58 (bodyOf Tryz.f58) fun ctr hc=>?_
  revert h
  refine Wyp 2 [] 0 [] (Wq ?_)
  intro h
  intros
  refine Wcut h (ctr+2) [(2,2),(3,13)] [] (fun _ u=>Fa [] []) (fun x uc ug ut ht hu hp h=>?_) (fun f h=>?_)
  · refine Wx [] 0 [] Wz
  · revert h
    refine Wyp 1 [] 0 [] (Wq ?_)
    intro h
    intros
    refine Tr.block ?_
    refine Wlp h (ctr+3) [(2,2),(3,13)] [] (fun i u1=>Fa [(3,.v (.int .i64 i))] []) Wlay (fun i u1c u1g u1t f ht hu hp h=>?_)
    refine Wx [] 0 [] Wz

theorem lapwingref15_Few_ok (s:T_lapwingref15_Screen) (r:Bool) (h:lapwingref15_Few s=some r):PureFn Tryz.prog 23 [(.agg 25 (fun j=>(D_lapwingref15_Screen nvS s j)))] ((.v (.bool r))):=by
  obtain ⟨⟨q⟩,⟨q1,q2,q3,q4,⟨q5,q6,q7⟩,⟨⟨q8,q9,q10,q11⟩,q12,q13,q14⟩⟩,⟨q15,q16,q17,q18⟩,⟨q19,q20⟩,⟨q21,q22⟩,q23,q24⟩:=s
  unfold lapwingref15_Few at h
  try dsimp only at h
  refine Wfn Tryz.func23 (bodyOf Tryz.f23) fun ctr hc=>?_
  refine Wo0 ?_
  refine Wo 6 0 (lapwingref09_Few_ok q) fun v h1=>?_
  refine Wog 11 0 v (lapwingref09_Few_ok q21) false fun v1 h2=>?_
  refine Wk [] 0 [] Wz

theorem lapwingref16_Few_ok (s:T_lapwingref16_State) (r:Bool) (h:lapwingref16_Few s=some r):PureFn Tryz.prog 8 [(.agg 83 (fun j=>(D_lapwingref16_State nvS s j)))] ((.v (.bool r))):=by
  obtain ⟨⟨⟨q⟩,⟨q1,q2,q3,q4,⟨q5,q6,q7⟩,⟨⟨q8,q9,q10,q11⟩,q12,q13,q14⟩⟩,⟨q15,q16,q17,q18⟩,⟨q19,q20⟩,⟨q21,q22⟩,q23,q24⟩,⟨⟨q25⟩,⟨q26,q27,q28,q29,⟨q30,q31,q32⟩,⟨⟨q33,q34,q35,q36⟩,q37,q38,q39⟩⟩,⟨q40,q41,q42,q43⟩,⟨q44,q45⟩,⟨q46,q47⟩,q48,q49⟩,q50,⟨q51⟩,⟨⟨q52,q53,q54,q55,⟨q56,q57,q58⟩,⟨⟨q59,q60,q61,q62⟩,q63,q64,q65⟩⟩,⟨q66,q67,q68,q69,⟨q70,q71,q72⟩,⟨⟨q73,q74,q75,q76⟩,q77,q78,q79⟩⟩⟩,q80,q81,q82⟩:=s
  unfold lapwingref16_Few at h
  try dsimp only at h
  refine Wfn Tryz.func8 (bodyOf Tryz.f8) fun ctr hc=>?_
  refine Wo0 ?_
  refine Wo 7 0 (lapwingref16_short_ok q) fun v h1=>?_
  refine Wog 13 0 v (lapwingref16_short_ok q25) false fun v1 h2=>?_
  refine Wig 18 0 h (sK v (sK v1 sB)) (lapwingref15_Few_ok _) fun v2 h3=>?_
  refine Wig 23 0 h (sK v (sK v1 (sK v2 sB))) (lapwingref15_Few_ok _) fun v3 h4=>?_
  refine Wk [] 0 [] Wz

theorem lapwingref05_Few_ok (l':(List (List Int))) (r:Bool) (h:lapwingref05_Few l'=some r):PureFn Tryz.prog 24 [(.sl 1 (nvS.len l') false (fun ix jx=>(.sl 1 (nvS.len (nvS.get [] l' ix)) false (fun ix1 jx1=>(.v (.int .i64 (nvS.get 0 (nvS.get [] l' ix) ix1)))))))] ((.v (.bool r))):=by
  unfold lapwingref05_Few at h
  refine Wfn Tryz.func24 (bodyOf Tryz.f24) fun ctr hc=>?_
  revert h
  refine Wyp 2 [] 0 [] (Wq ?_)
  intro h
  intros
  refine Wcut h (ctr+2) [(2,2),(3,12)] [] (fun _ u=>Fa [] []) (fun x uc ug ut ht hu hp h=>?_) (fun f h=>?_)
  · refine Wx [] 0 [] Wz
  · revert h
    refine Wyp 1 [] 0 [] (Wq ?_)
    intro h
    intros
    refine Tr.block ?_
    refine Wlp h (ctr+3) [(2,2),(3,12)] [] (fun i u1=>Fa [(3,.v (.int .i64 i))] []) Wlay (fun i u1c u1g u1t f ht hu hp h=>?_)
    refine Wx [] 0 [] Wz

theorem lapwinglaw16_few_ok (l':(List T_api_Action)) (r:Bool) (h:lapwinglaw16_few l'=some r):PureFn Tryz.prog 9 [(.sl 6 (nvS.len l') false (fun ix jx=>(D_api_Action nvS (nvS.get d_api_Action l' ix) jx)))] ((.v (.bool r))):=by
  unfold lapwinglaw16_few at h
  refine Wfn Tryz.func9 (bodyOf Tryz.f9) fun ctr hc=>?_
  revert h
  refine Wyp 2 [] 0 [] (Wq ?_)
  intro h
  intros
  refine Wcut h (ctr+2) [(2,2),(3,31)] [] (fun _ u=>Fa [] []) (fun x uc ug ut ht hu hp h=>?_) (fun f h=>?_)
  · refine Wx [] 0 [] Wz
  · revert h
    refine Wyp 1 [] 0 [] (Wq ?_)
    intro h
    intros
    refine Tr.block ?_
    refine Wlp h (ctr+3) [(2,2),(3,31)] [] (fun i u1=>Fa [(3,.v (.int .i64 i))] []) Wlay (fun i u1c u1g u1t f ht hu hp h=>?_)
    refine Wo0 ?_
    refine Wi 18 0 h (sT (sC sB)) (lapwingref05_Few_ok _) fun v h22=>?_
    refine Wk [] 0 [] Wz

theorem lapwinglaw16_cur_ok (c':T_lapwingref14_Cursor) (r:T_cursor_Cursor) (h:lapwinglaw16_cur c'=some r):PureFn Tryz.prog 39 [(.agg 14 (fun j=>(D_lapwingref14_Cursor nvS c' j)))] ((.agg 14 (fun j=>(D_cursor_Cursor nvS r j)))):=by
  unfold lapwinglaw16_cur at h
  refine Wfn Tryz.func39 (bodyOf Tryz.f39) fun ctr hc=>?_
  refine Wx [] 0 [] Wz

theorem lapwinglaw16_ours_ok (s:T_lapwingref15_Screen) (r:T_screen_Screen) (h:lapwinglaw16_ours s=some r):PureFn Tryz.prog 38 [(.agg 25 (fun j=>(D_lapwingref15_Screen nvS s j)))] ((.agg 25 (fun j=>(D_screen_Screen nvS r j)))):=by
  unfold lapwinglaw16_ours at h
  refine Wfn Tryz.func38 (bodyOf Tryz.f38) fun ctr hc=>?_
  refine Wo0 ?_
  refine Wo 12 0 (lapwinglaw16_cur_ok s.fC) fun v h1=>?_
  refine Wk [] 0 [] Wz

theorem lapwinglaw16_state_ok (s:T_lapwingref16_State) (r:T_interp_State) (h:lapwinglaw16_state s=some r):PureFn Tryz.prog 13 [(.agg 83 (fun j=>(D_lapwingref16_State nvS s j)))] ((.agg 83 (fun j=>(D_interp_State nvS r j)))):=by
  unfold lapwinglaw16_state at h
  refine Wfn Tryz.func13 (bodyOf Tryz.f13) fun ctr hc=>?_
  refine Wo0 ?_
  refine Wo 5 0 (lapwinglaw16_ours_ok s.fMain) fun v h1=>?_
  refine Wo 8 0 (lapwinglaw16_ours_ok s.fOther) fun v1 h2=>?_
  refine Wo 18 0 (lapwinglaw16_cur_ok s.fSaved.x0) fun v2 h3=>?_
  refine Wo 22 0 (lapwinglaw16_cur_ok s.fSaved.x1) fun v3 h4=>?_
  refine Wk [] 0 [] Wz

theorem lapwingref12_Same_ok (a:T_lapwingref12_Stops) (b:T_lapwingref12_Stops) (r:Bool) (h:lapwingref12_Same a b=some r):PureFn Tryz.prog 60 [(.agg 2 (fun j=>(D_lapwingref12_Stops nvS a j))),(.agg 2 (fun j=>(D_lapwingref12_Stops nvS b j)))] ((.v (.bool r))):=by
  obtain ⟨q,q1⟩:=a
  obtain ⟨q2,q3⟩:=b
  unfold lapwingref12_Same at h
  try dsimp only at h
  refine Wfn Tryz.func60 (bodyOf Tryz.f60) fun ctr hc=>?_
  revert h
  refine Wyp 2 [] 0 [] (Wq ?_)
  intro h
  intros
  refine Wcut h (ctr+2) [(4,2),(14,18)] [] (fun _ u=>Fa [] []) (fun x uc ug ut ht hu hp h=>?_) (fun f h=>?_)
  · refine Wx [] 0 [] Wz
  · revert h
    refine Wyp 1 [] 0 [] (Wq ?_)
    intro h
    intros
    refine Tr.block ?_
    refine Wlp h (ctr+3) [(4,2),(14,18)] [] (fun i u1=>Fa [(5,.v (.int .i64 i))] []) Wlay (fun i u1c u1g u1t f ht hu hp h=>?_)
    refine Wx [] 0 [] Wz

end Go.Vx
