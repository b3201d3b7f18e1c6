/- Walks, by program (lift5.py): the code does what the lifted functions say. -/
import Derived.Test.YtmkigppfdmghnaaGreatDoorIWalkPr
import Derived.Test.YtmkigppfdmghnaaGreatDoorIWb1
import Derived.Test.YtmkigppfdmghnaaGreatDoorIWb2
import Derived.Test.YtmkigppfdmghnaaGreatDoorIWb3
import Derived.Test.YtmkigppfdmghnaaGreatDoorIWb4
import Derived.Test.YtmkigppfdmghnaaGreatDoorIWb5
import Derived.Test.YtmkigppfdmghnaaGreatDoorIWb6
import Derived.Test.YtmkigppfdmghnaaGreatDoorIWb7
import Derived.Test.YtmkigppfdmghnaaGreatDoorIWb8
import Derived.Test.YtmkigppfdmghnaaGreatDoorIWb9
import Derived.Test.YtmkigppfdmghnaaGreatDoorIWb10
import Derived.Test.YtmkigppfdmghnaaGreatDoorIWb11
import Derived.Test.YtmkigppfdmghnaaGreatDoorIWb12
set_option linter.all false
namespace Go.Vx
open Go.Proofs
set_option maxRecDepth 100000
set_option maxHeartbeats 8000000
set_option linter.unusedVariables false
set_option linter.unusedSimpArgs false
attribute [local irreducible] chk iteO bindO cutO nilO

theorem screen_Print_ok (s:T_screen_Screen) (r':Int) (w:Int) (insert:Bool) (auto:Bool) (r:T_screen_Screen) (h:screen_Print s r' w insert auto=some r):PureFn Tryz.prog 67 [(.agg 25 (fun j=>(D_screen_Screen nvS s j))),(.v (.int .i64 r')),(.v (.int .i64 w)),(.v (.bool insert)),(.v (.bool auto))] ((.agg 25 (fun j=>(D_screen_Screen nvS r j)))):=by
  obtain ⟨⟨q⟩,⟨q1,q2,q3,q4,⟨q5,q6,q7⟩,⟨⟨q8,q9,q10,q11⟩,q12,q13,q14⟩⟩,⟨q15,q16,q17,q18⟩,⟨q19,q20⟩,⟨q21,q22⟩,q23,q24⟩:=s
  unfold screen_Print at h
  try dsimp only at h
  refine Wfn Tryz.func67 (bodyOf Tryz.f67) fun ctr hc=>?_
  refine Wo0 ?_
  refine Wi 16 0 h sB (screen_Sane_ok _) fun v h1=>?_
  revert h
  refine Wjp 3 [999] 0 [] (Wq ?_)
  intro h
  intros
  refine Wcut h (ctr+3) [(46,8)] [(5,1)] (fun s1 u=>Fa [] [(5,.box (ctr+0) (cellsOf 25 fun j=>(D_screen_Screen nvS s1 j)))]) (fun x uc ug ut ht hu hp h=>?_) (fun f h=>?_)
  · obtain ⟨⟨q25⟩,⟨q26,q27,q28,q29,⟨q30,q31,q32⟩,⟨⟨q33,q34,q35,q36⟩,q37,q38,q39⟩⟩,⟨q40,q41,q42,q43⟩,⟨q44,q45⟩,⟨q46,q47⟩,q48,q49⟩:=x
    try dsimp only at hp h
    refine Wcut h uc [(54,18)] [(5,1)] (fun s2 u1=>Fa [] [(5,.box (ctr+0) (cellsOf 25 fun j=>(D_screen_Screen nvS s2 j)))]) (fun x u1c u1g u1t ht hu hp h=>?_) (fun f h=>?_)
    · obtain ⟨⟨q50⟩,⟨q51,q52,q53,q54,⟨q55,q56,q57⟩,⟨⟨q58,q59,q60,q61⟩,q62,q63,q64⟩⟩,⟨q65,q66,q67,q68⟩,⟨q69,q70⟩,⟨q71,q72⟩,q73,q74⟩:=x
      try dsimp only at hp h
      revert h
      refine Wyp 2 [999] 0 [] (Wq ?_)
      intro h
      intros
      refine Wcut h (u1c+2) [(14,1),(67,12)] [(93,1)] (fun steps u2=>Fa [(14,.vec 93 (u2.g 93) 1 0 (nvS.len steps))] [(93,.arr (u2.g 93) 1 (nvS.len steps) (u2.t 93) (fun ix jx=>(.fn (.func (nvS.fF (nvS.get d_FV steps ix))) (nvS.fK (nvS.get d_FV steps ix)) (nvS.fC (nvS.get d_FV steps ix)))))]) (fun steps u2c u2g u2t ht hu hp h=>?_) (fun f h=>?_)
      · refine Wo0 ?_
        refine Wi 100 8 h (sC sB) (screen_onRow_ok _ _) fun v1 h11=>?_
        refine Wk [96,999] 0 [(15,[.freeze (.slot 14)])] Wz
      · refine Wo0 ?_
        refine Wi 90 0 h (sT sB) (screen_ground_ok _) fun v2 h13=>?_
        refine Wo 91 0 (screen_inserted_ok q51 w q66 v2) fun v3 h14=>?_
        refine Wk [92,999] 0 [] Wz
    · refine Wo0 ?_
      refine Wi 65 0 h (sT (sT sB)) (screen_next_ok _) fun v4 h16=>?_
      refine Wk [999] 0 [] Wz
  · refine Wo0 ?_
    refine Wi 53 0 h (sT sB) (screen_next_ok _) fun v5 h18=>?_
    refine Wk [999] 0 [] Wz

theorem interp_letter_ok (s:T_interp_State) (d':T_ucd_Data) (r':Int) (r:T_interp_State) (h:interp_letter s d' r'=some r):PureFn Tryz.prog 28 [(.agg 83 (fun j=>(D_interp_State nvS s j))),(.agg 6 (fun j=>(D_ucd_Data nvS d' j))),(.v (.int .i64 r'))] ((.agg 83 (fun j=>(D_interp_State nvS r j)))):=by
  unfold interp_letter at h
  refine Wfn Tryz.func28 (bodyOf Tryz.f28) fun ctr hc=>?_
  refine Wo0 ?_
  refine Wo 10 0 (interp_Active_ok s) fun v h1=>?_
  refine Wo 13 0 (ucd_Width_ok d' r') fun v1 h2=>?_
  refine Wo 19 0 (screen_Mark_ok v r') fun v2 h3=>?_
  refine Wo 20 0 (interp_with_ok s v2) fun v3 h4=>?_
  refine Wo 27 0 (modes_Has_ok s.fM false 4) fun v4 h5=>?_
  refine Wo 30 0 (modes_Has_ok s.fM true 7) fun v5 h6=>?_
  refine Wo 31 0 (screen_Print_ok v r' v1 v4 v5) fun v6 h7=>?_
  refine Wo 32 0 (interp_with_ok s v6) fun v7 h8=>?_
  refine Wk [] 0 [] Wz

theorem V_scrV_ok (v:FV) (a0:T_screen_Screen) (a1:Int) (r:T_screen_Screen) (h:V_scrV v a0 a1=some r):PureFn Tryz.prog (nvS.fF v) ([(.agg 25 (fun j=>(D_screen_Screen nvS a0 j))),(.v (.int .i64 a1))]++cellsOf (nvS.fK v) (nvS.fC v)) ((.agg 25 (fun j=>(D_screen_Screen nvS r j)))):=by
  unfold V_scrV at h
  split at h
  · exact interp_moving_1_ok a0 a1 _ r h
  · exact screen_Tab_ok a0 a1 r h
  · exact screen_Erase_ok a0 a1 r h
  · exact screen_EraseLine_ok a0 a1 r h
  · exact screen_InsertRows_ok a0 a1 r h
  · exact screen_DeleteRows_ok a0 a1 r h
  · cases h


theorem interp_doing_1_ok (s:T_interp_State) (u:T_ucd_Data) (a:T_api_Action) (cap0:FV) (r:T_interp_State) (h:interp_doing_1 s u a cap0=some r):PureFn Tryz.prog 158 [(.agg 83 (fun j=>(D_interp_State nvS s j))),(.agg 6 (fun j=>(D_ucd_Data nvS u j))),(.agg 6 (fun j=>(D_api_Action nvS a j))),.imm 1 1 (fun _ j=>(.fn (.func (nvS.fF cap0)) (nvS.fK cap0) (nvS.fC cap0))) 0 0] ((.agg 83 (fun j=>(D_interp_State nvS r j)))):=by
  unfold interp_doing_1 at h
  refine Wfn Tryz.func158 (bodyOf Tryz.f158) fun ctr hc=>?_
  refine Wo0 ?_
  refine Wo 11 0 (interp_Active_ok s) fun v h1=>?_
  refine Wo 13 0 (interp_first_ok a) fun v1 h2=>?_
  refine Wov 14 (V_scrV_ok cap0 v v1) fun v2 h3=>?_
  refine Wo 15 0 (interp_with_ok s v2) fun v3 h4=>?_
  refine Wk [999] 0 [] Wz

theorem interp_choosing_1_ok (s:T_interp_State) (u:T_ucd_Data) (a:T_api_Action) (cap0:FV) (r:T_interp_State) (h:interp_choosing_1 s u a cap0=some r):PureFn Tryz.prog 177 [(.agg 83 (fun j=>(D_interp_State nvS s j))),(.agg 6 (fun j=>(D_ucd_Data nvS u j))),(.agg 6 (fun j=>(D_api_Action nvS a j))),.imm 1 1 (fun _ j=>(.fn (.func (nvS.fF cap0)) (nvS.fK cap0) (nvS.fC cap0))) 0 0] ((.agg 83 (fun j=>(D_interp_State nvS r j)))):=by
  unfold interp_choosing_1 at h
  refine Wfn Tryz.func177 (bodyOf Tryz.f177) fun ctr hc=>?_
  refine Wo0 ?_
  refine Wo 11 0 (interp_Active_ok s) fun v h1=>?_
  refine Wo 13 0 (interp_kind_ok a) fun v1 h2=>?_
  refine Wov 14 (V_scrV_ok cap0 v v1) fun v2 h3=>?_
  refine Wo 15 0 (interp_with_ok s v2) fun v3 h4=>?_
  refine Wk [999] 0 [] Wz

theorem interp_besides_ok (s:T_interp_State) (d':T_ucd_Data) (a:T_api_Action) (n:Int) (on:Bool) (r:T_interp_State) (h:interp_besides s d' a n on=some r):PureFn Tryz.prog 199 [(.agg 83 (fun j=>(D_interp_State nvS s j))),(.agg 6 (fun j=>(D_ucd_Data nvS d' j))),(.agg 6 (fun j=>(D_api_Action nvS a j))),(.v (.int .i64 n)),(.v (.bool on))] ((.agg 83 (fun j=>(D_interp_State nvS r j)))):=by
  obtain ⟨⟨⟨q⟩,⟨q1,q2,q3,q4,⟨q5,q6,q7⟩,⟨⟨q8,q9,q10,q11⟩,q12,q13,q14⟩⟩,⟨q15,q16,q17,q18⟩,⟨q19,q20⟩,⟨q21,q22⟩,q23,q24⟩,⟨⟨q25⟩,⟨q26,q27,q28,q29,⟨q30,q31,q32⟩,⟨⟨q33,q34,q35,q36⟩,q37,q38,q39⟩⟩,⟨q40,q41,q42,q43⟩,⟨q44,q45⟩,⟨q46,q47⟩,q48,q49⟩,q50,⟨q51⟩,⟨⟨q52,q53,q54,q55,⟨q56,q57,q58⟩,⟨⟨q59,q60,q61,q62⟩,q63,q64,q65⟩⟩,⟨q66,q67,q68,q69,⟨q70,q71,q72⟩,⟨⟨q73,q74,q75,q76⟩,q77,q78,q79⟩⟩⟩,q80,q81,q82⟩:=s
  unfold interp_besides at h
  try dsimp only at h
  refine Wfn Tryz.func199 (bodyOf Tryz.f199) fun ctr hc=>?_
  refine Wo0 ?_
  refine Wi 16 0 h (sT sB) (interp_Active_ok _) fun v h1=>?_
  refine Wi 22 0 h (sT (sK v sB)) (interp_home_ok _) fun v1 h2=>?_
  refine Wi 23 0 h (sT (sK v (sK v1 sB))) (interp_with_ok _ _) fun v2 h3=>?_
  refine Wi 38 0 h (sF (sF (sT (sT sB)))) (screen_Erase_ok _ _) fun v3 h4=>?_
  refine Wi 48 0 h (sF (sF (sF (sT (sT sB))))) (interp_save_ok _ _ _) fun v4 h5=>?_
  refine Wi 52 0 h (sF (sF (sF (sT (sF sB))))) (interp_restore_ok _ _ _) fun v5 h6=>?_
  refine Wi 61 0 h (sF (sF (sF (sF (sT (sT sB)))))) (interp_restore_ok _ _ _) fun v6 h7=>?_
  refine Wod 65 0 h5 ?_
  refine Wo 69 0 (screen_Erase_ok v4.fOther 2) fun v7 h8=>?_
  refine Wk [] 0 [] Wz

theorem interp_privately_1_ok (s:T_interp_State) (d':T_ucd_Data) (a:T_api_Action) (cap0:Bool) (r:T_interp_State) (h:interp_privately_1 s d' a cap0=some r):PureFn Tryz.prog 198 [(.agg 83 (fun j=>(D_interp_State nvS s j))),(.agg 6 (fun j=>(D_ucd_Data nvS d' j))),(.agg 6 (fun j=>(D_api_Action nvS a j))),.imm 1 1 (fun _ j=>(.v (.bool cap0))) 0 0] ((.agg 83 (fun j=>(D_interp_State nvS r j)))):=by
  obtain ⟨q,q1,q2,q3,q4,q5⟩:=a
  unfold interp_privately_1 at h
  try dsimp only at h
  refine Wfn Tryz.func198 (bodyOf Tryz.f198) fun ctr hc=>?_
  revert h
  refine Wyp 1 [] 0 [] (Wq ?_)
  intro h
  intros
  refine Wcut h (ctr+1) [(8,25)] [(4,1)] (fun s1 u=>Fa [] [(4,.box (ctr+0) (cellsOf 83 fun j=>(D_interp_State nvS s1 j)))]) (fun s1 uc ug ut ht hu hp h=>?_) (fun f h=>?_)
  · refine Wo0 ?_
    refine Wo 34 0 (interp_explicit_ok s1) fun v h9=>?_
    refine Wk [] 0 [] Wz
  · revert h
    refine Wyp 1 [] 0 [] (Wq ?_)
    intro h
    intros
    refine Tr.block ?_
    refine Wlp h (ctr+2) [(8,2),(3,20)] [(4,1)] (fun (v1,s2) u1=>Fa [(13,.v (.int .i64 v1))] [(4,.box (ctr+0) (cellsOf 83 fun j=>(D_interp_State nvS s2 j)))]) Wlay (fun x u1c u1g u1t f ht hu hp h=>?_)
    obtain ⟨v1,s2⟩:=x
    try dsimp only at hp h
    refine Wo0 ?_
    refine Wo 19 0 (params_Get_ok q4 v1 0) fun v2 h18=>?_
    refine Wo 24 0 (modes_Set_ok s2.fM true v2 cap0) fun v3 h19=>?_
    refine Wi 31 0 h (sT (sK v2 (sK v3 sB))) (interp_besides_ok _ _ _ _ _) fun v4 h20=>?_
    refine Wk [] 0 [] Wz

theorem V_deedV_ok (v:FV) (a0:T_interp_State) (a1:T_ucd_Data) (a2:T_api_Action) (r:T_interp_State) (h:V_deedV v a0 a1 a2=some r):PureFn Tryz.prog (nvS.fF v) ([(.agg 83 (fun j=>(D_interp_State nvS a0 j))),(.agg 6 (fun j=>(D_ucd_Data nvS a1 j))),(.agg 6 (fun j=>(D_api_Action nvS a2 j)))]++cellsOf (nvS.fK v) (nvS.fC v)) ((.agg 83 (fun j=>(D_interp_State nvS r j)))):=by
  unfold V_deedV at h
  split at h
  · exact interp_find_1_ok a0 a1 a2 r h
  · exact interp_doing_1_ok a0 a1 a2 _ r h
  · exact interp_choosing_1_ok a0 a1 a2 _ r h
  · exact interp_privately_1_ok a0 a1 a2 _ r h
  · exact interp_save_ok a0 a1 a2 r h
  · exact interp_restore_ok a0 a1 a2 r h
  · exact interp_place_ok a0 a1 a2 r h
  · exact interp_status_ok a0 a1 a2 r h
  · cases h


theorem interp_Do_ok (s:T_interp_State) (d':T_ucd_Data) (a:T_api_Action) (r:T_interp_State) (h:interp_Do s d' a=some r):PureFn Tryz.prog 12 [(.agg 83 (fun j=>(D_interp_State nvS s j))),(.agg 6 (fun j=>(D_ucd_Data nvS d' j))),(.agg 6 (fun j=>(D_api_Action nvS a j)))] ((.agg 83 (fun j=>(D_interp_State nvS r j)))):=by
  obtain ⟨q,q1,q2,q3,q4,q5⟩:=a
  unfold interp_Do at h
  try dsimp only at h
  refine Wfn Tryz.func12 (bodyOf Tryz.f12) fun ctr hc=>?_
  revert h
  refine Wyp 1 [] 0 [] (Wq ?_)
  intro h
  intros
  refine Wcut h (ctr+1) [(11,4)] [] (fun _ u=>Fa [] []) (fun x uc ug ut ht hu hp h=>?_) (fun f h=>?_)
  · refine Wcut h uc [(7,4),(4,90)] [] (fun _ u1=>Fa [] []) (fun x u1c u1g u1t ht hu hp h=>?_) (fun f h=>?_)
    · refine Wx [] 0 [] Wz
    · revert h
      refine Wyp 1 [] 0 [] (Wq ?_)
      intro h
      intros
      refine Tr.block ?_
      revert h
      refine Wyp 1 [] 0 [] (Wq ?_)
      intro h
      intros
      refine Wcond h rfl (fun _ h=>?_) (fun _ h=>?_)
      · refine Wo0 ?_
        refine Wo 20 0 (interp_Active_ok s) fun v h22=>?_
        refine Wo 27 0 (charset_Map_ok v.fC.fSet q1) fun v1 h23=>?_
        obtain ⟨⟨⟨q6,q7,q8,q9⟩,q10,q11,q12⟩,q13⟩:=v1
        refine Wo 35 0 (interp_with_ok s ⟨v.fG,⟨v.fC.fX,v.fC.fY,v.fC.fWrap,v.fC.fOrigin,v.fC.fPen,⟨⟨q6,q7,q8,q9⟩,q10,q11,q12⟩⟩,v.fR,v.fT,v.fK,v.fDir,v.fExplicit⟩) fun v2 h24=>?_
        refine Wo 38 0 (interp_letter_ok v2 d' q13) fun v3 h25=>?_
        refine Wk [] 0 [] Wz
      · revert h
        refine Wyp 1 [] 0 [] (Wq ?_)
        intro h
        intros
        refine Wcond h rfl (fun _ h=>?_) (fun _ h=>?_)
        · refine Wo0 ?_
          refine Wo 41 0 (interp_controls_ok) fun v4 h26=>?_
          refine Wi 44 0 h (sK v4 sB) (interp_find_ok _ _ _) fun v5 h27=>?_
          refine Wiv 48 h (sK v4 (sK v5 sB)) (V_deedV_ok _ _ _ _) fun v6 h28=>?_
          refine Wk [] 0 [] Wz
        · revert h
          refine Wyp 1 [] 0 [] (Wq ?_)
          intro h
          intros
          refine Wcond h rfl (fun _ h=>?_) (fun _ h=>?_)
          · refine Wcut h (uc+4) [(10,1),(40,15)] [] (fun _ u2=>Fa [] []) (fun x u2c u2g u2t ht hu hp h=>?_) (fun f h=>?_)
            · refine Wo0 ?_
              refine Wo 66 0 (interp_escapes_ok) fun v7 h32=>?_
              refine Wo 71 0 (interp_find_ok v7 q3 q2) fun v8 h33=>?_
              refine Wiv 75 h (sK v7 (sK v8 sB)) (V_deedV_ok _ _ _ _) fun v9 h34=>?_
              refine Wk [] 0 [] Wz
            · revert h
              refine Wyp 1 [] 0 [] (Wq ?_)
              intro h
              intros
              refine Wcond h rfl (fun _ h=>?_) (fun _ h=>?_)
              · refine Wo0 ?_
                refine Wi 58 0 h (sC sB) (strings_IndexByte_ok _ _) fun v10 h36=>?_
                revert h
                refine Wjp 2 [] 0 [] (Wq ?_)
                intro h
                intros
                refine Wcond h rfl (fun _ h=>?_) (fun _ h=>?_)
                · refine Wo0 ?_
                  refine Wo 65 0 (interp_designate_ok s v10 q2) fun v11 h37=>?_
                  refine Wk [] 0 [] Wz
                · refine Wx [] 0 [] Wz
              · refine Wx [] 0 [] Wz
          · revert h
            refine Wyp 1 [] 0 [] (Wq ?_)
            intro h
            intros
            refine Wcond h rfl (fun _ h=>?_) (fun _ h=>?_)
            · refine Wcut h (uc+5) [(78,11)] [] (fun _ u3=>Fa [] []) (fun x u3c u3g u3t ht hu hp h=>?_) (fun f h=>?_)
              · refine Wo0 ?_
                refine Wo 89 0 (interp_others_ok) fun v12 h41=>?_
                refine Wo 94 0 (interp_find_ok v12 q3 q2) fun v13 h42=>?_
                refine Wiv 98 h (sK v12 (sK v13 sB)) (V_deedV_ok _ _ _ _) fun v14 h43=>?_
                refine Wk [] 0 [] Wz
              · revert h
                refine Wyp 1 [] 0 [] (Wq ?_)
                intro h
                intros
                refine Wcond h rfl (fun _ h=>?_) (fun _ h=>?_)
                · refine Wo0 ?_
                  refine Wo 81 0 (interp_sequences_ok) fun v15 h44=>?_
                  refine Wi 84 0 h (sK v15 sB) (interp_find_ok _ _ _) fun v16 h45=>?_
                  refine Wiv 88 h (sK v15 (sK v16 sB)) (V_deedV_ok _ _ _ _) fun v17 h46=>?_
                  refine Wk [] 0 [] Wz
                · refine Wx [] 0 [] Wz
            · revert h
              refine Wyp 1 [] 0 [] (Wq ?_)
              intro h
              intros
              refine Wcond h rfl (fun _ h=>?_) (fun _ h=>?_)
              · refine Wo0 ?_
                refine Wo 104 0 (interp_title_ok s q5) fun v18 h47=>?_
                refine Wk [] 0 [] Wz
              · refine Wx [] 0 [] Wz
  · refine Wo0 ?_
    refine Wo 12 0 (interp_Sane_ok s) fun v19 h48=>?_
    revert h
    refine Wjp 1 [] 0 [] (Wq ?_)
    intro h
    intros
    refine Wcond h rfl (fun _ h=>?_) (fun _ h=>?_)
    · refine Wx [] 0 [] Wz
    · refine Wx [] 0 [] Wz

theorem lapwinglaw16_awake_ok  (r:Bool) (h:lapwinglaw16_awake=some r):PureFn Tryz.prog 7 [] ((.v (.bool r))):=by
  unfold lapwinglaw16_awake at h
  refine Wfn Tryz.func7 (bodyOf Tryz.f7) fun ctr hc=>?_
  refine Wo0 ?_
  refine Wo 4 0 (interp_New_ok 3 9 5) fun v h1=>?_
  refine Wo 5 0 (ucd_Load_ok) fun v1 h2=>?_
  refine Wi 8 0 h (sK v (sK v1 sB)) (lapwinglaw16_ask_ok _ _ _) fun v2 h3=>?_
  refine Wo 9 0 (interp_Do_ok v v1 v2) fun v3 h4=>?_
  refine Wo 12 0 (interp_Drain_ok v3) fun v4 h5=>?_
  obtain ⟨⟨⟨⟨q⟩,⟨q1,q2,q3,q4,⟨q5,q6,q7⟩,⟨⟨q8,q9,q10,q11⟩,q12,q13,q14⟩⟩,⟨q15,q16,q17,q18⟩,⟨q19,q20⟩,⟨q21,q22⟩,q23,q24⟩,⟨⟨q25⟩,⟨q26,q27,q28,q29,⟨q30,q31,q32⟩,⟨⟨q33,q34,q35,q36⟩,q37,q38,q39⟩⟩,⟨q40,q41,q42,q43⟩,⟨q44,q45⟩,⟨q46,q47⟩,q48,q49⟩,q50,⟨q51⟩,⟨⟨q52,q53,q54,q55,⟨q56,q57,q58⟩,⟨⟨q59,q60,q61,q62⟩,q63,q64,q65⟩⟩,⟨q66,q67,q68,q69,⟨q70,q71,q72⟩,⟨⟨q73,q74,q75,q76⟩,q77,q78,q79⟩⟩⟩,q80,q81,q82⟩,q83⟩:=v4
  refine Wog 26 0 (if (seqS (strL q83) (⟨#[27,91,49,59,49,82]⟩:ByteArray))=true then ((lenL q80) == 0) else false) (interp_Sane_ok ⟨⟨⟨q⟩,⟨q1,q2,q3,q4,⟨q5,q6,q7⟩,⟨⟨q8,q9,q10,q11⟩,q12,q13,q14⟩⟩,⟨q15,q16,q17,q18⟩,⟨q19,q20⟩,⟨q21,q22⟩,q23,q24⟩,⟨⟨q25⟩,⟨q26,q27,q28,q29,⟨q30,q31,q32⟩,⟨⟨q33,q34,q35,q36⟩,q37,q38,q39⟩⟩,⟨q40,q41,q42,q43⟩,⟨q44,q45⟩,⟨q46,q47⟩,q48,q49⟩,q50,⟨q51⟩,⟨⟨q52,q53,q54,q55,⟨q56,q57,q58⟩,⟨⟨q59,q60,q61,q62⟩,q63,q64,q65⟩⟩,⟨q66,q67,q68,q69,⟨q70,q71,q72⟩,⟨⟨q73,q74,q75,q76⟩,q77,q78,q79⟩⟩⟩,q80,q81,q82⟩) false fun v5 h6=>?_
  refine Wog 29 0 (if (if (seqS (strL q83) (⟨#[27,91,49,59,49,82]⟩:ByteArray))=true then ((lenL q80) == 0) else false)=true then v5 else false) (params_Print_ok ([]:List (List Int))) ByteArray.empty fun v6 h7=>?_
  refine Wk [6,7] 0 [] Wz

theorem lapwinglaw16_InterpSaves_ok (s:T_lapwingref16_State) (l':(List T_api_Action)) (r:Bool) (h:lapwinglaw16_InterpSaves s l'=some r):PureFn Tryz.prog 5 [(.agg 83 (fun j=>(D_lapwingref16_State nvS s j))),(.sl 6 (nvS.len l') false (fun ix jx=>(D_api_Action nvS (nvS.get d_api_Action l' ix) jx)))] ((.v (.bool r))):=by
  unfold lapwinglaw16_InterpSaves at h
  refine Wfn Tryz.func5 (bodyOf Tryz.f5) fun ctr hc=>?_
  refine Wo0 ?_
  refine Wo 12 0 (lapwinglaw16_awake_ok) fun v h1=>?_
  refine Wo 14 0 (lapwingref16_Few_ok s) fun v1 h2=>?_
  refine Wog 18 0 (!(!v1)) (lapwinglaw16_few_ok l') false fun v2 h3=>?_
  refine Wig 23 0 h (sK v (sK v1 (sK v2 sB))) (lapwinglaw16_state_ok _) fun v3 h4=>?_
  refine Wig 24 0 h (sK v (sK v1 (sK v2 (sK v3 sB)))) (interp_Sane_ok _) fun v4 h5=>?_
  refine Wo 28 0 (ucd_Load_ok) fun v5 h6=>?_
  refine Wo 30 0 (lapwinglaw16_state_ok s) fun v6 h7=>?_
  refine Wi 33 0 h (sK v (sK v1 (sK v2 (sK v3 (sK v4 (sF (sK v5 (sK v6 sB)))))))) (interp_Do_ok _ _ _) fun v7 h8=>?_
  refine Wo 35 0 (interp_Active_ok v7) fun v8 h9=>?_
  obtain ⟨⟨q⟩,⟨q1,q2,q3,q4,⟨q5,q6,q7⟩,⟨⟨q8,q9,q10,q11⟩,q12,q13,q14⟩⟩,⟨q15,q16,q17,q18⟩,⟨q19,q20⟩,⟨q21,q22⟩,q23,q24⟩:=v8
  revert h
  refine Wjp 6 [] 0 [] (Wq ?_)
  intro h
  intros
  refine Wcut h (ctr+6) [(9,2),(26,52)] [(7,1)] (fun a u=>Fa [] [(7,.box (ctr+4) (cellsOf 83 fun j=>(D_interp_State nvS a j)))]) (fun a uc ug ut ht hu hp h=>?_) (fun f h=>?_)
  · refine Wo0 ?_
    refine Wi 92 0 h sB (interp_Do_ok _ _ _) fun v9 h28=>?_
    refine Wig 96 0 h (sK v9 sB) (interp_Active_ok _) fun v10 h29=>?_
    obtain ⟨⟨q25⟩,⟨q26,q27,q28,q29,⟨q30,q31,q32⟩,⟨⟨q33,q34,q35,q36⟩,q37,q38,q39⟩⟩,⟨q40,q41,q42,q43⟩,⟨q44,q45⟩,⟨q46,q47⟩,q48,q49⟩:=v10
    refine Wog 98 0 v (lapwinglaw16_plain_ok ⟨q26,q27,q28,q29,⟨q30,q31,q32⟩,⟨⟨q33,q34,q35,q36⟩,q37,q38,q39⟩⟩) d_lapwingref14_Cursor fun v11 h30=>?_
    obtain ⟨q50,q51,q52,q53,⟨q54,q55,q56⟩,⟨⟨q57,q58,q59,q60⟩,q61,q62,q63⟩⟩:=v11
    refine Wog 100 0 v (lapwinglaw16_plain_ok ⟨q1,q2,q3,q4,⟨q5,q6,q7⟩,⟨⟨q8,q9,q10,q11⟩,q12,q13,q14⟩⟩) d_lapwingref14_Cursor fun v12 h31=>?_
    obtain ⟨q64,q65,q66,q67,⟨q68,q69,q70⟩,⟨⟨q71,q72,q73,q74⟩,q75,q76,q77⟩⟩:=v12
    refine Wog 105 0 (if v=true then ((q50 == q64) && ((q51 == q65) && ((q52 == q66) && ((q53 == q67) && ((q54 == q68) && ((q55 == q69) && ((q56 == q70) && ((q57 == q71) && ((q58 == q72) && ((q59 == q73) && ((q60 == q74) && ((q61 == q75) && ((q62 == q76) && ((q63 == q77) && true)))))))))))))) else false) (interp_Sane_ok v9) false fun v13 h32=>?_
    refine Wk [] 0 [] Wz
  · revert h
    refine Wyp 1 [] 0 [] (Wq ?_)
    intro h
    intros
    refine Tr.block ?_
    refine Wlp h (ctr+7) [(9,2),(26,52)] [(7,1)] (fun (i,a1) u1=>Fa [(9,.v (.int .i64 i))] [(7,.box (ctr+4) (cellsOf 83 fun j=>(D_interp_State nvS a1 j)))]) Wlay (fun x u1c u1g u1t f ht hu hp h=>?_)
    obtain ⟨i,a1⟩:=x
    try dsimp only at hp h
    refine Wo0 ?_
    refine Wo 88 0 (interp_Do_ok a1 v5 (getL d_api_Action l' i)) fun v14 h57=>?_
    refine Wk [] 0 [] Wz

theorem lapwinglaw16_InterpOther_ok (s:T_lapwingref16_State) (l':(List Int)) (r:Bool) (h:lapwinglaw16_InterpOther s l'=some r):PureFn Tryz.prog 6 [(.agg 83 (fun j=>(D_lapwingref16_State nvS s j))),(.sl 1 (nvS.len l') false (fun ix jx=>(.v (.int .i64 (nvS.get 0 l' ix)))))] ((.v (.bool r))):=by
  obtain ⟨⟨⟨q⟩,⟨q1,q2,q3,q4,⟨q5,q6,q7⟩,⟨⟨q8,q9,q10,q11⟩,q12,q13,q14⟩⟩,⟨q15,q16,q17,q18⟩,⟨q19,q20⟩,⟨q21,q22⟩,q23,q24⟩,⟨⟨q25⟩,⟨q26,q27,q28,q29,⟨q30,q31,q32⟩,⟨⟨q33,q34,q35,q36⟩,q37,q38,q39⟩⟩,⟨q40,q41,q42,q43⟩,⟨q44,q45⟩,⟨q46,q47⟩,q48,q49⟩,q50,⟨q51⟩,⟨⟨q52,q53,q54,q55,⟨q56,q57,q58⟩,⟨⟨q59,q60,q61,q62⟩,q63,q64,q65⟩⟩,⟨q66,q67,q68,q69,⟨q70,q71,q72⟩,⟨⟨q73,q74,q75,q76⟩,q77,q78,q79⟩⟩⟩,q80,q81,q82⟩:=s
  unfold lapwinglaw16_InterpOther at h
  try dsimp only at h
  refine Wfn Tryz.func6 (bodyOf Tryz.f6) fun ctr hc=>?_
  refine Wo0 ?_
  refine Wo 13 0 (lapwinglaw16_awake_ok) fun v h1=>?_
  refine Wi 15 0 h (sK v sB) (lapwingref16_Few_ok _) fun v1 h2=>?_
  refine Wig 24 0 h (sK v (sK v1 sB)) (lapwinglaw16_state_ok _) fun v2 h3=>?_
  refine Wig 25 0 h (sK v (sK v1 (sK v2 sB))) (interp_Sane_ok _) fun v3 h4=>?_
  refine Wo 33 0 (ucd_Load_ok) fun v4 h5=>?_
  refine Wi 35 0 h (sK v (sK v1 (sK v2 (sK v3 (sF (sK v4 sB)))))) (lapwinglaw16_state_ok _) fun v5 h6=>?_
  refine Wi 39 0 h (sK v (sK v1 (sK v2 (sK v3 (sF (sK v4 (sK v5 sB))))))) (lapwinglaw16_ask_ok _ _ _) fun v6 h7=>?_
  refine Wo 40 0 (interp_Do_ok v5 v4 v6) fun v7 h8=>?_
  revert h
  refine Wjp 5 [37,38] 0 [] (Wq ?_)
  intro h
  intros
  refine Wcut h (ctr+5) [(8,1),(32,14)] [(7,1)] (fun a u=>Fa [] [(7,.box (ctr+4) (cellsOf 83 fun j=>(D_interp_State nvS a j)))]) (fun x uc ug ut ht hu hp h=>?_) (fun f h=>?_)
  · obtain ⟨⟨⟨q83⟩,⟨q84,q85,q86,q87,⟨q88,q89,q90⟩,⟨⟨q91,q92,q93,q94⟩,q95,q96,q97⟩⟩,⟨q98,q99,q100,q101⟩,⟨q102,q103⟩,⟨q104,q105⟩,q106,q107⟩,⟨⟨q108⟩,⟨q109,q110,q111,q112,⟨q113,q114,q115⟩,⟨⟨q116,q117,q118,q119⟩,q120,q121,q122⟩⟩,⟨q123,q124,q125,q126⟩,⟨q127,q128⟩,⟨q129,q130⟩,q131,q132⟩,q133,⟨q134⟩,⟨⟨q135,q136,q137,q138,⟨q139,q140,q141⟩,⟨⟨q142,q143,q144,q145⟩,q146,q147,q148⟩⟩,⟨q149,q150,q151,q152,⟨q153,q154,q155⟩,⟨⟨q156,q157,q158,q159⟩,q160,q161,q162⟩⟩⟩,q163,q164,q165⟩:=x
    try dsimp only at hp h
    refine Wo0 ?_
    refine Wi 61 0 h sB (lapwinglaw16_ask_ok _ _ _) fun v8 h15=>?_
    refine Wi 62 0 h (sK v8 sB) (interp_Do_ok _ _ _) fun v9 h16=>?_
    obtain ⟨⟨⟨q166⟩,⟨q167,q168,q169,q170,⟨q171,q172,q173⟩,⟨⟨q174,q175,q176,q177⟩,q178,q179,q180⟩⟩,⟨q181,q182,q183,q184⟩,⟨q185,q186⟩,⟨q187,q188⟩,q189,q190⟩,⟨⟨q191⟩,⟨q192,q193,q194,q195,⟨q196,q197,q198⟩,⟨⟨q199,q200,q201,q202⟩,q203,q204,q205⟩⟩,⟨q206,q207,q208,q209⟩,⟨q210,q211⟩,⟨q212,q213⟩,q214,q215⟩,q216,⟨q217⟩,⟨⟨q218,q219,q220,q221,⟨q222,q223,q224⟩,⟨⟨q225,q226,q227,q228⟩,q229,q230,q231⟩⟩,⟨q232,q233,q234,q235,⟨q236,q237,q238⟩,⟨⟨q239,q240,q241,q242⟩,q243,q244,q245⟩⟩⟩,q246,q247,q248⟩:=v9
    refine Wo 66 0 (lapwinglaw16_plainly_ok ⟨⟨⟨q166⟩,⟨q167,q168,q169,q170,⟨q171,q172,q173⟩,⟨⟨q174,q175,q176,q177⟩,q178,q179,q180⟩⟩,⟨q181,q182,q183,q184⟩,⟨q185,q186⟩,⟨q187,q188⟩,q189,q190⟩,⟨⟨q191⟩,⟨q192,q193,q194,q195,⟨q196,q197,q198⟩,⟨⟨q199,q200,q201,q202⟩,q203,q204,q205⟩⟩,⟨q206,q207,q208,q209⟩,⟨q210,q211⟩,⟨q212,q213⟩,q214,q215⟩,q216,⟨q217⟩,⟨⟨q218,q219,q220,q221,⟨q222,q223,q224⟩,⟨⟨q225,q226,q227,q228⟩,q229,q230,q231⟩⟩,⟨q232,q233,q234,q235,⟨q236,q237,q238⟩,⟨⟨q239,q240,q241,q242⟩,q243,q244,q245⟩⟩⟩,q246,q247,q248⟩) fun v10 h17=>?_
    refine Wog 88 0 (if (if v=true then q133 else false)=true then (!q216) else false) (lapwingref16_Same_ok ⟨v10.fMain,d_lapwingref15_Screen,false,d_lapwingref13_Modes,d_Arr2_lapwingref14_Cursor,([]:List Int),ByteArray.empty,0⟩ ⟨⟨⟨q⟩,v10.fMain.fC,⟨q15,q16,q17,q18⟩,⟨q19,q20⟩,⟨q21,q22⟩,q23,v10.fMain.fExplicit⟩,d_lapwingref15_Screen,false,d_lapwingref13_Modes,d_Arr2_lapwingref14_Cursor,([]:List Int),ByteArray.empty,0⟩) false fun v11 h18=>?_
    refine Wk [59,60] 0 [] Wz
  · revert h
    refine Wyp 1 [] 0 [] (Wq ?_)
    intro h
    intros
    refine Tr.block ?_
    refine Wlp h (ctr+6) [(8,1),(32,14)] [(7,1)] (fun (i,a1) u1=>Fa [(8,.v (.int .i64 i))] [(7,.box (ctr+4) (cellsOf 83 fun j=>(D_interp_State nvS a1 j)))]) Wlay (fun x u1c u1g u1t f ht hu hp h=>?_)
    obtain ⟨i,a1⟩:=x
    try dsimp only at hp h
    refine Wo0 ?_
    refine Wi 54 0 h (sT (sC sB)) (interp_Do_ok _ _ _) fun v12 h26=>?_
    refine Wk [] 0 [] Wz

end Go.Vx
