/- Walks, by program (lift5.py): the code does what the lifted functions say. -/
import Derived.Test.YtmkigppfdmghnaaGreatDoorIWalkPr
import Derived.Test.YtmkigppfdmghnaaGreatDoorIWb2
import Derived.Test.YtmkigppfdmghnaaGreatDoorIWb3
import Derived.Test.YtmkigppfdmghnaaGreatDoorIWb4
set_option linter.all false
namespace Go.Vx
open Go.Proofs
set_option maxRecDepth 100000
set_option maxHeartbeats 8000000
set_option linter.unusedVariables false
set_option linter.unusedSimpArgs false
attribute [local irreducible] chk iteO bindO cutO nilO

theorem row_Mark_ok (r':T_api_Row) (at':Int) (m:Int) (r:T_api_Row) (h:row_Mark r' at' m=some r):PureFn Tryz.prog 151 [(.agg 4 (fun j=>(D_api_Row nvS r' j))),(.v (.int .i64 at')),(.v (.int .i64 m))] ((.agg 4 (fun j=>(D_api_Row nvS r j)))):=by
  obtain ⟨q,q1,q2,q3⟩:=r'
  unfold row_Mark at h
  try dsimp only at h
  refine Wfn Tryz.func151 (bodyOf Tryz.f151) fun ctr hc=>?_
  refine Wo0 ?_
  refine Wi 11 0 h sB (row_Sane_ok _) fun v h1=>?_
  revert h
  refine Wjp 2 [] 0 [] (Wq ?_)
  intro h
  intros
  refine Wcut h (ctr+2) [(1,1),(31,9)] [] (fun at'1 u=>Fa [(1,.v (.int .i64 at'1))] []) (fun at'1 uc ug ut ht hu hp h=>?_) (fun f h=>?_)
  · revert h
    refine Wyp 1 [] 0 [] (Wq ?_)
    intro h
    intros
    refine Wcut h (uc+1) [(7,3),(40,25)] [] (fun _ u1=>Fa [] []) (fun x u1c u1g u1t ht hu hp h=>?_) (fun f h=>?_)
    · refine Wx [] 0 [] Wz
    · revert h
      refine Wyp 1 [] 0 [] (Wq ?_)
      intro h
      intros
      refine Tr.block ?_
      refine Tr.rounds 3 ?_
      refine Wrnd h (uc+2) [(7,3),(46,19)] [] (fun _ u2=>Fa [(56,.v (.int .i64 1))] []) (fun x u2c u2g u2t ht hu hp h=>?_) (fun f h=>?_)
      · refine Wrnd h u2c [(7,3),(46,19)] [] (fun _ u3=>Fa [(56,.v (.int .i64 2))] []) (fun x u3c u3g u3t ht hu hp h=>?_) (fun f h=>?_)
        · refine Wx [] 0 [] Wz
        · refine Wo0 ?_
          refine Wi 63 1 h (sT sB) (row_cells_ok _) fun v1 h19=>?_
          refine Wk [] 0 [] Wz
      · refine Wo0 ?_
        refine Wi 63 1 h (sT sB) (row_cells_ok _) fun v2 h22=>?_
        refine Wk [] 0 [] Wz
  · refine Wx [] 0 [] Wz

theorem screen_Mark_1_ok (r':T_api_Row) (cap0:Int) (cap1:Int) (r:T_api_Row) (h:screen_Mark_1 r' cap0 cap1=some r):PureFn Tryz.prog 150 [(.agg 4 (fun j=>(D_api_Row nvS r' j))),.imm 1 1 (fun _ j=>(.v (.int .i64 cap0))) 0 0,.imm 1 1 (fun _ j=>(.v (.int .i64 cap1))) 0 0] ((.agg 4 (fun j=>(D_api_Row nvS r j)))):=by
  unfold screen_Mark_1 at h
  refine Wfn Tryz.func150 (bodyOf Tryz.f150) fun ctr hc=>?_
  refine Wo0 ?_
  refine Wi 8 0 h sB (row_Mark_ok _ _ _) fun v h1=>?_
  refine Wk [] 0 [] Wz

theorem interp_going_1_ok (c':T_cursor_Cursor) (r':T_cursor_Region) (n:Int) (cap0:Int) (cap1:Int) (cap2:Bool) (r:T_cursor_Cursor) (h:interp_going_1 c' r' n cap0 cap1 cap2=some r):PureFn Tryz.prog 175 [(.agg 14 (fun j=>(D_cursor_Cursor nvS c' j))),(.agg 4 (fun j=>(D_cursor_Region nvS r' j))),(.v (.int .i64 n)),.imm 1 1 (fun _ j=>(.v (.int .i64 cap0))) 0 0,.imm 1 1 (fun _ j=>(.v (.int .i64 cap1))) 0 0,.imm 1 1 (fun _ j=>(.v (.bool cap2))) 0 0] ((.agg 14 (fun j=>(D_cursor_Cursor nvS r j)))):=by
  unfold interp_going_1 at h
  refine Wfn Tryz.func175 (bodyOf Tryz.f175) fun ctr hc=>?_
  refine Wo0 ?_
  refine Wi 18 0 h (sC (sC sB)) (cursor_Move_ok _ _ _ _) fun v h3=>?_
  refine Wo 22 0 (cursor_Column_ok v r' 0) fun v1 h4=>?_
  refine Wk [] 0 [] Wz

theorem interp_sequences_1_ok (c':T_cursor_Cursor) (r':T_cursor_Region) (n:Int) (r:T_cursor_Cursor) (h:interp_sequences_1 c' r' n=some r):PureFn Tryz.prog 91 [(.agg 14 (fun j=>(D_cursor_Cursor nvS c' j))),(.agg 4 (fun j=>(D_cursor_Region nvS r' j))),(.v (.int .i64 n))] ((.agg 14 (fun j=>(D_cursor_Cursor nvS r j)))):=by
  unfold interp_sequences_1 at h
  refine Wfn Tryz.func91 (bodyOf Tryz.f91) fun ctr hc=>?_
  refine Wo0 ?_
  refine Wo 11 0 (cursor_Column_ok c' r' (n-1)) fun v h2=>?_
  refine Wk [] 0 [] Wz

theorem V_curV_ok (v:FV) (a0:T_cursor_Cursor) (a1:T_cursor_Region) (a2:Int) (r:T_cursor_Cursor) (h:V_curV v a0 a1 a2=some r):PureFn Tryz.prog (nvS.fF v) ([(.agg 14 (fun j=>(D_cursor_Cursor nvS a0 j))),(.agg 4 (fun j=>(D_cursor_Region nvS a1 j))),(.v (.int .i64 a2))]++cellsOf (nvS.fK v) (nvS.fC v)) ((.agg 14 (fun j=>(D_cursor_Cursor nvS r j)))):=by
  unfold V_curV at h
  split at h
  · exact interp_going_1_ok a0 a1 a2 _ _ _ r h
  · exact interp_sequences_1_ok a0 a1 a2 r h
  · cases h


theorem interp_moving_1_ok (x':T_screen_Screen) (n:Int) (cap0:FV) (r:T_screen_Screen) (h:interp_moving_1 x' n cap0=some r):PureFn Tryz.prog 174 [(.agg 25 (fun j=>(D_screen_Screen nvS x' j))),(.v (.int .i64 n)),.imm 1 1 (fun _ j=>(.fn (.func (nvS.fF cap0)) (nvS.fK cap0) (nvS.fC cap0))) 0 0] ((.agg 25 (fun j=>(D_screen_Screen nvS r j)))):=by
  obtain ⟨⟨q⟩,⟨q1,q2,q3,q4,⟨q5,q6,q7⟩,⟨⟨q8,q9,q10,q11⟩,q12,q13,q14⟩⟩,⟨q15,q16,q17,q18⟩,⟨q19,q20⟩,⟨q21,q22⟩,q23,q24⟩:=x'
  unfold interp_moving_1 at h
  try dsimp only at h
  refine Wfn Tryz.func174 (bodyOf Tryz.f174) fun ctr hc=>?_
  refine Wo0 ?_
  refine Wiv 12 h sB (V_curV_ok _ _ _ _) fun v h1=>?_
  refine Wk [] 0 [] Wz

theorem lapwingref15_Same_ok (a:T_lapwingref15_Screen) (b:T_lapwingref15_Screen) (r:Bool) (h:lapwingref15_Same a b=some r):PureFn Tryz.prog 25 [(.agg 25 (fun j=>(D_lapwingref15_Screen nvS a j))),(.agg 25 (fun j=>(D_lapwingref15_Screen nvS b j)))] ((.v (.bool r))):=by
  obtain ⟨⟨q⟩,⟨q1,q2,q3,q4,⟨q5,q6,q7⟩,⟨⟨q8,q9,q10,q11⟩,q12,q13,q14⟩⟩,⟨q15,q16,q17,q18⟩,⟨q19,q20⟩,⟨q21,q22⟩,q23,q24⟩:=a
  obtain ⟨⟨q25⟩,⟨q26,q27,q28,q29,⟨q30,q31,q32⟩,⟨⟨q33,q34,q35,q36⟩,q37,q38,q39⟩⟩,⟨q40,q41,q42,q43⟩,⟨q44,q45⟩,⟨q46,q47⟩,q48,q49⟩:=b
  unfold lapwingref15_Same at h
  try dsimp only at h
  refine Wfn Tryz.func25 (bodyOf Tryz.f25) fun ctr hc=>?_
  refine Wo0 ?_
  refine Wo 11 0 (lapwingref09_Same_ok q q25) fun v h1=>?_
  refine Wig 31 0 h (sK v sB) (lapwingref12_Same_ok _ _) fun v1 h2=>?_
  refine Wig 38 0 h (sK v (sK v1 sB)) (lapwingref10_Same_ok _ _) fun v2 h3=>?_
  refine Wk [] 0 [] Wz

theorem lapwingref16_Same_ok (a:T_lapwingref16_State) (b:T_lapwingref16_State) (r:Bool) (h:lapwingref16_Same a b=some r):PureFn Tryz.prog 10 [(.agg 83 (fun j=>(D_lapwingref16_State nvS a j))),(.agg 83 (fun j=>(D_lapwingref16_State nvS b j)))] ((.v (.bool r))):=by
  obtain ⟨⟨⟨q⟩,⟨q1,q2,q3,q4,⟨q5,q6,q7⟩,⟨⟨q8,q9,q10,q11⟩,q12,q13,q14⟩⟩,⟨q15,q16,q17,q18⟩,⟨q19,q20⟩,⟨q21,q22⟩,q23,q24⟩,⟨⟨q25⟩,⟨q26,q27,q28,q29,⟨q30,q31,q32⟩,⟨⟨q33,q34,q35,q36⟩,q37,q38,q39⟩⟩,⟨q40,q41,q42,q43⟩,⟨q44,q45⟩,⟨q46,q47⟩,q48,q49⟩,q50,⟨q51⟩,⟨⟨q52,q53,q54,q55,⟨q56,q57,q58⟩,⟨⟨q59,q60,q61,q62⟩,q63,q64,q65⟩⟩,⟨q66,q67,q68,q69,⟨q70,q71,q72⟩,⟨⟨q73,q74,q75,q76⟩,q77,q78,q79⟩⟩⟩,q80,q81,q82⟩:=a
  obtain ⟨⟨⟨q83⟩,⟨q84,q85,q86,q87,⟨q88,q89,q90⟩,⟨⟨q91,q92,q93,q94⟩,q95,q96,q97⟩⟩,⟨q98,q99,q100,q101⟩,⟨q102,q103⟩,⟨q104,q105⟩,q106,q107⟩,⟨⟨q108⟩,⟨q109,q110,q111,q112,⟨q113,q114,q115⟩,⟨⟨q116,q117,q118,q119⟩,q120,q121,q122⟩⟩,⟨q123,q124,q125,q126⟩,⟨q127,q128⟩,⟨q129,q130⟩,q131,q132⟩,q133,⟨q134⟩,⟨⟨q135,q136,q137,q138,⟨q139,q140,q141⟩,⟨⟨q142,q143,q144,q145⟩,q146,q147,q148⟩⟩,⟨q149,q150,q151,q152,⟨q153,q154,q155⟩,⟨⟨q156,q157,q158,q159⟩,q160,q161,q162⟩⟩⟩,q163,q164,q165⟩:=b
  unfold lapwingref16_Same at h
  try dsimp only at h
  refine Wfn Tryz.func10 (bodyOf Tryz.f10) fun ctr hc=>?_
  refine Wo0 ?_
  refine Wi 9 0 h sB (lapwingref15_Same_ok _ _) fun v h1=>?_
  refine Wig 15 0 h (sK v sB) (lapwingref15_Same_ok _ _) fun v1 h2=>?_
  refine Wk [] 0 [] Wz

end Go.Vx
