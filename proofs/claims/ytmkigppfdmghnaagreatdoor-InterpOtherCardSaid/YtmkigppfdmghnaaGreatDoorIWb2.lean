/- Walks, by program (lift5.py): the code does what the lifted functions say. -/
import Derived.Test.YtmkigppfdmghnaaGreatDoorIWalkPr
set_option linter.all false
namespace Go.Vx
open Go.Proofs
set_option maxRecDepth 100000
set_option maxHeartbeats 8000000
set_option linter.unusedVariables false
set_option linter.unusedSimpArgs false
attribute [local irreducible] chk iteO bindO cutO nilO

theorem cursor_between_ok (v:Int) (least:Int) (most:Int) (r:Int) (h:cursor_between v least most=some r):PureFn Tryz.prog 136 [(.v (.int .i64 v)),(.v (.int .i64 least)),(.v (.int .i64 most))] ((.v (.int .i64 r))):=by
  unfold cursor_between at h
  refine Wfn Tryz.func136 (bodyOf Tryz.f136) fun ctr hc=>?_
  refine Wx [] 0 [] Wz

theorem cursor_full_ok (h':Int) (w:Int) (r:T_cursor_Region) (h:cursor_full h' w=some r):PureFn Tryz.prog 135 [(.v (.int .i64 h')),(.v (.int .i64 w))] ((.agg 4 (fun j=>(D_cursor_Region nvS r j)))):=by
  unfold cursor_full at h
  refine Wfn Tryz.func135 (bodyOf Tryz.f135) fun ctr hc=>?_
  refine Wx [] 0 [] Wz

theorem charset_New_ok  (r:T_charset_State) (h:charset_New=some r):PureFn Tryz.prog 63 [] ((.agg 7 (fun j=>(D_charset_State nvS r j)))):=by
  unfold charset_New at h
  refine Wfn Tryz.func63 (bodyOf Tryz.f63) fun ctr hc=>?_
  refine Wx [] 0 [] Wz

theorem cursor_New_ok (h':Int) (w:Int) (r:(T_cursor_Cursor × T_cursor_Region)) (h:cursor_New h' w=some r):PureFn Tryz.prog 50 [(.v (.int .i64 h')),(.v (.int .i64 w))] (.tup 2 (fun j=>match j with | 0=>(.agg 14 (fun j=>(D_cursor_Cursor nvS r.1 j))) | 1=>(.agg 4 (fun j=>(D_cursor_Region nvS r.2 j))) | _=>.junk)):=by
  unfold cursor_New at h
  refine Wfn Tryz.func50 (bodyOf Tryz.f50) fun ctr hc=>?_
  refine Wo0 ?_
  refine Wo 8 0 (cursor_between_ok h' 1 1000) fun v h1=>?_
  refine Wo 10 0 (cursor_between_ok w 1 4096) fun v1 h2=>?_
  refine Wo 11 0 (cursor_full_ok v v1) fun v2 h3=>?_
  refine Wo 12 0 (charset_New_ok) fun v3 h4=>?_
  refine Wk [999] 0 [] Wz

theorem row_width_ok (w:Int) (r:Int) (h:row_width w=some r):PureFn Tryz.prog 272 [(.v (.int .i64 w))] ((.v (.int .i64 r))):=by
  unfold row_width at h
  refine Wfn Tryz.func272 (bodyOf Tryz.f272) fun ctr hc=>?_
  refine Wx [] 0 [] Wz

theorem row_Blank_ok (p':T_api_Pen) (r:T_api_Cell) (h:row_Blank p'=some r):PureFn Tryz.prog 257 [(.agg 3 (fun j=>(D_api_Pen nvS p' j)))] ((.agg 7 (fun j=>(D_api_Cell nvS r j)))):=by
  unfold row_Blank at h
  refine Wfn Tryz.func257 (bodyOf Tryz.f257) fun ctr hc=>?_
  refine Wx [] 0 [] Wz

theorem row_lay_ok (l':List T_api_Cell) (l'_off:Int) (l'_n:Int) (p':T_api_Pen) (r:(List T_api_Cell)) (h:row_lay l' l'_off l'_n p'=some r) (l'_N:Int) (hl'_N:lenL l'=l'_N) (tg0:Bool):LentFn Tryz.prog 235 [.vec 0 0 7 l'_off l'_n,(.agg 3 (fun j=>(D_api_Pen nvS p' j)))] [.arr 0 7 l'_N tg0 (fun ix jx=>(D_api_Cell nvS (nvS.get d_api_Cell l' ix) jx))] [.arr 0 7 l'_N tg0 (fun ix jx=>(D_api_Cell nvS (nvS.get d_api_Cell r ix) jx))] (.tup 0 (fun _=>.junk)):=by
  unfold row_lay at h
  refine Wfl Tryz.func235 (bodyOf Tryz.f235) fun ctr hc=>?_
  replace h:=chk_some h;obtain ⟨h10,h⟩:=h
  revert h
  refine Wyp 2 [] 1 [] (Wq ?_)
  intro h
  intros
  refine Tr.block ?_
  refine Wlp h (ctr+2) [(4,1),(2,9)] [(0,1)] (fun (v,l'1) u=>⟨[(7,.v (.int .i64 v))],[(0,.arr (0) 7 l'_N (tg0) (fun ix jx=>(D_api_Cell nvS (nvS.get d_api_Cell l'1 ix) jx)))],fun _=>lenL l'1=l'_N⟩) Wlay (fun x uc ug ut f ht hu hp h=>?_)
  obtain ⟨v,l'1⟩:=x
  try dsimp only at hp h
  refine Wo0 ?_
  refine Wo 14 0 (row_Blank_ok p') fun v1 h7=>?_
  refine Wk [] 1 [] Wz

theorem row_New_ok (w:Int) (p':T_api_Pen) (r:T_api_Row) (h:row_New w p'=some r):PureFn Tryz.prog 252 [(.v (.int .i64 w)),(.agg 3 (fun j=>(D_api_Pen nvS p' j)))] ((.agg 4 (fun j=>(D_api_Row nvS r j)))):=by
  unfold row_New at h
  refine Wfn Tryz.func252 (bodyOf Tryz.f252) fun ctr hc=>?_
  refine Wo0 ?_
  refine Wo 7 0 (row_width_ok w) fun v1 h5=>?_
  refine Wkc 2 [] 0 [] h ctr [(3,6)] [(3,2),(3,1)] (fun l' u=>Fa [(3,.bref 3 (u.g 3) 0),(4,.bref 4 (u.g 4) 0),(5,.vec 8 (u.g 8) 7 0 (nvS.len l'))] [(3,.box (u.g 3) [.v (.int .i64 p'.fFg),.v (.int .i64 p'.fBg),.v (.int .i64 p'.fFlags)]),(4,.box (u.g 4) [.nilsl,.v (.bool false),.v (.int .i64 0),.v (.bool false)]),(8,.arr (u.g 8) 7 (nvS.len l') (u.t 8) (fun ix jx=>(D_api_Cell nvS (nvS.get d_api_Cell l' ix) jx)))]) (fun l' uc ug ut ht hu hp h=>?_) (fun f h=>Wz)
  refine Wo0 ?_
  refine Wol 11 (fun r h=>row_lay_ok l' 0 (lenL l') p' r h ((nvS.len l')) Wy (ut 8)) fun v h3=>?_
  refine Wk [] 0 [] Wz

theorem grid_lay_ok (l':List T_api_Row) (l'_off:Int) (l'_n:Int) (w:Int) (p':T_api_Pen) (r:(List T_api_Row)) (h:grid_lay l' l'_off l'_n w p'=some r) (l'_N:Int) (hl'_N:lenL l'=l'_N) (tg0:Bool):LentFn Tryz.prog 212 [.vec 0 0 4 l'_off l'_n,(.v (.int .i64 w)),(.agg 3 (fun j=>(D_api_Pen nvS p' j)))] [.arr 0 4 l'_N tg0 (fun ix jx=>(D_api_Row nvS (nvS.get d_api_Row l' ix) jx))] [.arr 0 4 l'_N tg0 (fun ix jx=>(D_api_Row nvS (nvS.get d_api_Row r ix) jx))] (.tup 0 (fun _=>.junk)):=by
  unfold grid_lay at h
  refine Wfl Tryz.func212 (bodyOf Tryz.f212) fun ctr hc=>?_
  replace h:=chk_some h;obtain ⟨h10,h⟩:=h
  revert h
  refine Wyp 2 [] 1 [] (Wq ?_)
  intro h
  intros
  refine Tr.block ?_
  refine Wlp h (ctr+2) [(6,1),(2,10)] [(0,1)] (fun (v,l'1) u=>⟨[(9,.v (.int .i64 v))],[(0,.arr (0) 4 l'_N (tg0) (fun ix jx=>(D_api_Row nvS (nvS.get d_api_Row l'1 ix) jx)))],fun _=>lenL l'1=l'_N⟩) Wlay (fun x uc ug ut f ht hu hp h=>?_)
  obtain ⟨v,l'1⟩:=x
  try dsimp only at hp h
  refine Wo0 ?_
  refine Wo 17 0 (row_New_ok w p') fun v1 h7=>?_
  refine Wk [] 1 [] Wz

theorem cursor_region_ok (r':T_cursor_Region) (r:Bool) (h:cursor_region r'=some r):PureFn Tryz.prog 132 [(.agg 4 (fun j=>(D_cursor_Region nvS r' j)))] ((.v (.bool r))):=by
  obtain ⟨q,q1,q2,q3⟩:=r'
  unfold cursor_region at h
  try dsimp only at h
  refine Wfn Tryz.func132 (bodyOf Tryz.f132) fun ctr hc=>?_
  refine Wx [] 0 [] Wz

theorem cursor_inside_ok (c':T_cursor_Cursor) (r':T_cursor_Region) (r:Bool) (h:cursor_inside c' r'=some r):PureFn Tryz.prog 133 [(.agg 14 (fun j=>(D_cursor_Cursor nvS c' j))),(.agg 4 (fun j=>(D_cursor_Region nvS r' j)))] ((.v (.bool r))):=by
  obtain ⟨q,q1,q2,q3,⟨q4,q5,q6⟩,⟨⟨q7,q8,q9,q10⟩,q11,q12,q13⟩⟩:=c'
  obtain ⟨q14,q15,q16,q17⟩:=r'
  unfold cursor_inside at h
  try dsimp only at h
  refine Wfn Tryz.func133 (bodyOf Tryz.f133) fun ctr hc=>?_
  refine Wx [] 0 [] Wz

theorem pen_isColour_ok (c':Int) (r:Bool) (h:pen_isColour c'=some r):PureFn Tryz.prog 211 [(.v (.int .i64 c'))] ((.v (.bool r))):=by
  unfold pen_isColour at h
  refine Wfn Tryz.func211 (bodyOf Tryz.f211) fun ctr hc=>?_
  refine Wx [] 0 [] Wz

theorem pen_Sane_ok (p':T_api_Pen) (r:Bool) (h:pen_Sane p'=some r):PureFn Tryz.prog 134 [(.agg 3 (fun j=>(D_api_Pen nvS p' j)))] ((.v (.bool r))):=by
  obtain ⟨q,q1,q2⟩:=p'
  unfold pen_Sane at h
  try dsimp only at h
  refine Wfn Tryz.func134 (bodyOf Tryz.f134) fun ctr hc=>?_
  refine Wo0 ?_
  refine Wo 5 0 (pen_isColour_ok q) fun v h1=>?_
  refine Wog 9 0 v (pen_isColour_ok q1) false fun v1 h2=>?_
  refine Wk [] 0 [] Wz

theorem charset_isSet_ok (final:Int) (r:Bool) (h:charset_isSet final=some r):PureFn Tryz.prog 143 [(.v (.int .u8 final))] ((.v (.bool r))):=by
  unfold charset_isSet at h
  refine Wfn Tryz.func143 (bodyOf Tryz.f143) fun ctr hc=>?_
  refine Wx [] 0 [] Wz

theorem charset_isPlace_ok (which:Int) (r:Bool) (h:charset_isPlace which=some r):PureFn Tryz.prog 144 [(.v (.int .i64 which))] ((.v (.bool r))):=by
  unfold charset_isPlace at h
  refine Wfn Tryz.func144 (bodyOf Tryz.f144) fun ctr hc=>?_
  refine Wx [] 0 [] Wz

theorem charset_isShift_ok (which:Int) (r:Bool) (h:charset_isShift which=some r):PureFn Tryz.prog 145 [(.v (.int .i64 which))] ((.v (.bool r))):=by
  unfold charset_isShift at h
  refine Wfn Tryz.func145 (bodyOf Tryz.f145) fun ctr hc=>?_
  refine Wx [] 0 [] Wz

theorem charset_Sane_ok (s:T_charset_State) (r:Bool) (h:charset_Sane s=some r):PureFn Tryz.prog 62 [(.agg 7 (fun j=>(D_charset_State nvS s j)))] ((.v (.bool r))):=by
  obtain ⟨⟨q,q1,q2,q3⟩,q4,q5,q6⟩:=s
  unfold charset_Sane at h
  try dsimp only at h
  refine Wfn Tryz.func62 (bodyOf Tryz.f62) fun ctr hc=>?_
  revert h
  refine Wyp 1 [] 0 [] (Wq ?_)
  intro h
  intros
  refine Wcut h (ctr+1) [(2,1),(1,10)] [] (fun _ u=>Fa [] []) (fun x uc ug ut ht hu hp h=>?_) (fun f h=>?_)
  · refine Wo0 ?_
    refine Wo 16 0 (charset_isPlace_ok q4) fun v h9=>?_
    refine Wog 20 0 v (charset_isPlace_ok q5) false fun v1 h10=>?_
    refine Wig 29 0 h (sK v (sK v1 sB)) (charset_isShift_ok _) fun v2 h11=>?_
    refine Wk [] 0 [] Wz
  · revert h
    refine Wyp 1 [] 0 [] (Wq ?_)
    intro h
    intros
    refine Tr.block ?_
    refine Tr.rounds 5 ?_
    refine Wrnd h (ctr+2) [(2,1),(1,1),(2,7)] [] (fun _ u1=>Fa [(7,.v (.int .i64 1))] []) (fun x u1c u1g u1t ht hu hp h=>?_) (fun f h=>?_)
    · refine Wrnd h u1c [(2,1),(1,1),(2,7)] [] (fun _ u2=>Fa [(7,.v (.int .i64 2))] []) (fun x u2c u2g u2t ht hu hp h=>?_) (fun f h=>?_)
      · refine Wrnd h u2c [(2,1),(1,1),(2,7)] [] (fun _ u3=>Fa [(7,.v (.int .i64 3))] []) (fun x u3c u3g u3t ht hu hp h=>?_) (fun f h=>?_)
        · refine Wrnd h u3c [(2,1),(1,1),(2,7)] [] (fun _ u4=>Fa [(7,.v (.int .i64 4))] []) (fun x u4c u4g u4t ht hu hp h=>?_) (fun f h=>?_)
          · refine Wx [] 0 [] Wz
          · refine Wo0 ?_
            refine Wo 11 0 (charset_isSet_ok q3) fun v3 h20=>?_
            refine Wk [] 0 [] Wz
        · refine Wo0 ?_
          refine Wo 11 0 (charset_isSet_ok q2) fun v4 h22=>?_
          refine Wk [] 0 [] Wz
      · refine Wo0 ?_
        refine Wo 11 0 (charset_isSet_ok q1) fun v5 h24=>?_
        refine Wk [] 0 [] Wz
    · refine Wo0 ?_
      refine Wo 11 0 (charset_isSet_ok q) fun v6 h26=>?_
      refine Wk [] 0 [] Wz

theorem cursor_Sane_ok (c':T_cursor_Cursor) (r':T_cursor_Region) (r:Bool) (h:cursor_Sane c' r'=some r):PureFn Tryz.prog 49 [(.agg 14 (fun j=>(D_cursor_Cursor nvS c' j))),(.agg 4 (fun j=>(D_cursor_Region nvS r' j)))] ((.v (.bool r))):=by
  obtain ⟨q,q1,q2,q3,⟨q4,q5,q6⟩,⟨⟨q7,q8,q9,q10⟩,q11,q12,q13⟩⟩:=c'
  obtain ⟨q14,q15,q16,q17⟩:=r'
  unfold cursor_Sane at h
  try dsimp only at h
  refine Wfn Tryz.func49 (bodyOf Tryz.f49) fun ctr hc=>?_
  refine Wo0 ?_
  refine Wi 6 0 h sB (cursor_region_ok _) fun v h1=>?_
  refine Wig 48 0 h (sK v (sF (sC sB))) (cursor_inside_ok _ _) fun v1 h3=>?_
  refine Wo 54 0 (pen_Sane_ok ⟨q4,q5,q6⟩) fun v2 h4=>?_
  refine Wog 58 0 v2 (charset_Sane_ok ⟨⟨q7,q8,q9,q10⟩,q11,q12,q13⟩) false fun v3 h5=>?_
  refine Wk [] 0 [] Wz

theorem row_fits_ok (c':T_api_Cell) (r:Bool) (h:row_fits c'=some r):PureFn Tryz.prog 223 [(.agg 7 (fun j=>(D_api_Cell nvS c' j)))] ((.v (.bool r))):=by
  obtain ⟨q,⟨q1,q2⟩,q3,⟨q4,q5,q6⟩⟩:=c'
  unfold row_fits at h
  try dsimp only at h
  refine Wfn Tryz.func223 (bodyOf Tryz.f223) fun ctr hc=>?_
  revert h
  refine Wyp 1 [] 0 [] (Wq ?_)
  intro h
  intros
  refine Wcut h (ctr+1) [(2,1),(1,22)] [] (fun _ u=>Fa [] []) (fun x uc ug ut ht hu hp h=>?_) (fun f h=>?_)
  · refine Wo0 ?_
    refine Wig 49 0 h sB (pen_Sane_ok _) fun v h3=>?_
    refine Wk [] 0 [] Wz
  · revert h
    refine Wyp 1 [] 0 [] (Wq ?_)
    intro h
    intros
    refine Tr.block ?_
    refine Tr.rounds 3 ?_
    refine Wrnd h (ctr+2) [(2,1),(1,1),(2,19)] [] (fun _ u1=>Fa [(7,.v (.int .i64 1))] []) (fun x u1c u1g u1t ht hu hp h=>?_) (fun f h=>?_)
    · refine Wrnd h u1c [(2,1),(1,1),(2,19)] [] (fun _ u2=>Fa [(7,.v (.int .i64 2))] []) (fun x u2c u2g u2t ht hu hp h=>?_) (fun f h=>?_)
      · refine Wx [] 0 [] Wz
      · refine Wx [] 0 [] Wz
    · refine Wx [] 0 [] Wz

theorem row_lost_ok (l':(List T_api_Cell)) (i:Int) (r:Bool) (h:row_lost l' i=some r):PureFn Tryz.prog 251 [(.sl 7 (nvS.len l') false (fun ix jx=>(D_api_Cell nvS (nvS.get d_api_Cell l' ix) jx))),(.v (.int .i64 i))] ((.v (.bool r))):=by
  unfold row_lost at h
  refine Wfn Tryz.func251 (bodyOf Tryz.f251) fun ctr hc=>?_
  refine Wx [] 0 [] Wz

theorem row_Sane_ok (r':T_api_Row) (r:Bool) (h:row_Sane r'=some r):PureFn Tryz.prog 210 [(.agg 4 (fun j=>(D_api_Row nvS r' j)))] ((.v (.bool r))):=by
  obtain ⟨q,q1,q2,q3⟩:=r'
  unfold row_Sane at h
  try dsimp only at h
  refine Wfn Tryz.func210 (bodyOf Tryz.f210) fun ctr hc=>?_
  revert h
  refine Wyp 2 [] 0 [] (Wq ?_)
  intro h
  intros
  refine Wcut h (ctr+2) [(2,3),(20,18)] [] (fun _ u=>Fa [] []) (fun x uc ug ut ht hu hp h=>?_) (fun f h=>?_)
  · refine Wx [] 0 [] Wz
  · revert h
    refine Wyp 1 [] 0 [] (Wq ?_)
    intro h
    intros
    refine Tr.block ?_
    refine Wlp h (ctr+3) [(2,3),(23,15)] [(4,1)] (fun v u1=>Fa [(28,.v (.int .i64 v))] []) Wlay (fun v u1c u1g u1t f ht hu hp h=>?_)
    refine Wo0 ?_
    refine Wi 34 0 h (sT (sC sB)) (row_fits_ok _) fun v1 h18=>?_
    refine Wog 40 0 (!(!v1)) (row_lost_ok q v) false fun v2 h19=>?_
    refine Wk [] 0 [] Wz

theorem interp_Active_ok (s:T_interp_State) (r:T_screen_Screen) (h:interp_Active s=some r):PureFn Tryz.prog 17 [(.agg 83 (fun j=>(D_interp_State nvS s j)))] ((.agg 25 (fun j=>(D_screen_Screen nvS r j)))):=by
  obtain ⟨⟨⟨q⟩,⟨q1,q2,q3,q4,⟨q5,q6,q7⟩,⟨⟨q8,q9,q10,q11⟩,q12,q13,q14⟩⟩,⟨q15,q16,q17,q18⟩,⟨q19,q20⟩,⟨q21,q22⟩,q23,q24⟩,⟨⟨q25⟩,⟨q26,q27,q28,q29,⟨q30,q31,q32⟩,⟨⟨q33,q34,q35,q36⟩,q37,q38,q39⟩⟩,⟨q40,q41,q42,q43⟩,⟨q44,q45⟩,⟨q46,q47⟩,q48,q49⟩,q50,⟨q51⟩,⟨⟨q52,q53,q54,q55,⟨q56,q57,q58⟩,⟨⟨q59,q60,q61,q62⟩,q63,q64,q65⟩⟩,⟨q66,q67,q68,q69,⟨q70,q71,q72⟩,⟨⟨q73,q74,q75,q76⟩,q77,q78,q79⟩⟩⟩,q80,q81,q82⟩:=s
  unfold interp_Active at h
  try dsimp only at h
  refine Wfn Tryz.func17 (bodyOf Tryz.f17) fun ctr hc=>?_
  refine Wx [] 0 [] Wz

theorem charset_Graphic_ok (r':Int) (r:Int) (h:charset_Graphic r'=some r):PureFn Tryz.prog 146 [(.v (.int .i64 r'))] ((.v (.int .i64 r))):=by
  unfold charset_Graphic at h
  refine Wfn Tryz.func146 (bodyOf Tryz.f146) fun ctr hc=>?_
  refine Wx [] 0 [] Wz

theorem charset_UK_ok (r':Int) (r:Int) (h:charset_UK r'=some r):PureFn Tryz.prog 147 [(.v (.int .i64 r'))] ((.v (.int .i64 r))):=by
  unfold charset_UK at h
  refine Wfn Tryz.func147 (bodyOf Tryz.f147) fun ctr hc=>?_
  refine Wx [] 0 [] Wz

theorem charset_by_ok (final:Int) (r':Int) (r:Int) (h:charset_by final r'=some r):PureFn Tryz.prog 64 [(.v (.int .u8 final)),(.v (.int .i64 r'))] ((.v (.int .i64 r))):=by
  unfold charset_by at h
  refine Wfn Tryz.func64 (bodyOf Tryz.f64) fun ctr hc=>?_
  refine Wo0 ?_
  refine Wo 9 0 (charset_Graphic_ok r') fun v h1=>?_
  refine Wo 13 0 (charset_UK_ok r') fun v1 h2=>?_
  refine Wk [] 0 [] Wz

theorem charset_Map_ok (s:T_charset_State) (r':Int) (r:(T_charset_State × Int)) (h:charset_Map s r'=some r):PureFn Tryz.prog 27 [(.agg 7 (fun j=>(D_charset_State nvS s j))),(.v (.int .i64 r'))] (.tup 2 (fun j=>match j with | 0=>(.agg 7 (fun j=>(D_charset_State nvS r.1 j))) | 1=>(.v (.int .i64 r.2)) | _=>.junk)):=by
  obtain ⟨⟨q,q1,q2,q3⟩,q4,q5,q6⟩:=s
  unfold charset_Map at h
  try dsimp only at h
  refine Wfn Tryz.func27 (bodyOf Tryz.f27) fun ctr hc=>?_
  refine Wo0 ?_
  refine Wi 8 0 h sB (charset_Sane_ok _) fun v h1=>?_
  refine Wo 10 0 (charset_New_ok) fun v1 h2=>?_
  refine Wi 31 0 h (sK v (sF (sT (sC sB)))) (charset_by_ok _ _) fun v2 h4=>?_
  refine Wi 45 0 h (sK v (sF (sF (sT (sC sB))))) (charset_by_ok _ _) fun v3 h6=>?_
  refine Wi 68 0 h (sK v (sF (sF (sF (sC (sT (sC (sC sB)))))))) (charset_by_ok _ _) fun v4 h10=>?_
  refine Wk [28,42,57,64] 0 [] Wz

theorem interp_with_ok (s:T_interp_State) (x':T_screen_Screen) (r:T_interp_State) (h:interp_with s x'=some r):PureFn Tryz.prog 29 [(.agg 83 (fun j=>(D_interp_State nvS s j))),(.agg 25 (fun j=>(D_screen_Screen nvS x' j)))] ((.agg 83 (fun j=>(D_interp_State nvS r j)))):=by
  obtain ⟨⟨⟨q⟩,⟨q1,q2,q3,q4,⟨q5,q6,q7⟩,⟨⟨q8,q9,q10,q11⟩,q12,q13,q14⟩⟩,⟨q15,q16,q17,q18⟩,⟨q19,q20⟩,⟨q21,q22⟩,q23,q24⟩,⟨⟨q25⟩,⟨q26,q27,q28,q29,⟨q30,q31,q32⟩,⟨⟨q33,q34,q35,q36⟩,q37,q38,q39⟩⟩,⟨q40,q41,q42,q43⟩,⟨q44,q45⟩,⟨q46,q47⟩,q48,q49⟩,q50,⟨q51⟩,⟨⟨q52,q53,q54,q55,⟨q56,q57,q58⟩,⟨⟨q59,q60,q61,q62⟩,q63,q64,q65⟩⟩,⟨q66,q67,q68,q69,⟨q70,q71,q72⟩,⟨⟨q73,q74,q75,q76⟩,q77,q78,q79⟩⟩⟩,q80,q81,q82⟩:=s
  unfold interp_with at h
  try dsimp only at h
  refine Wfn Tryz.func29 (bodyOf Tryz.f29) fun ctr hc=>?_
  refine Wx [] 0 [] Wz

theorem row_mended_ok (r':T_api_Row) (l':List T_api_Cell) (l'_off:Int) (l'_n:Int) (r:(T_api_Row)) (h:row_mended r' l' l'_off l'_n=some r) (l'_N:Int) (hl'_N:lenL l'=l'_N) (tg0:Bool):LentFn Tryz.prog 224 [(.agg 4 (fun j=>(D_api_Row nvS r' j))),.vec 0 0 7 l'_off l'_n] [.arr 0 7 l'_N tg0 (fun ix jx=>(D_api_Cell nvS (nvS.get d_api_Cell l' ix) jx))] [.dead 1] ((.agg 4 (fun j=>(D_api_Row nvS r j)))):=by
  unfold row_mended at h
  refine Wfl Tryz.func224 (bodyOf Tryz.f224) fun ctr hc=>?_
  replace h:=chk_some h;obtain ⟨h31,h⟩:=h
  revert h
  refine Wyp 1 [] 1 [] (Wq ?_)
  intro h
  intros
  refine Wcut h (ctr+1) [(5,19)] [(0,1)] (fun l'1 u=>⟨[],[(0,.arr (0) 7 l'_N (tg0) (fun ix jx=>(D_api_Cell nvS (nvS.get d_api_Cell l'1 ix) jx)))],fun _=>lenL l'1=l'_N⟩) (fun l'1 uc ug ut ht hu hp h=>?_) (fun f h=>?_)
  · try dsimp only at hp h
    refine Wx [] 1 [(7,[.freeze (.slot 1)])] Wz
  · revert h
    refine Wyp 1 [] 1 [] (Wq ?_)
    intro h
    intros
    refine Tr.block ?_
    refine Wlp h (ctr+2) [(5,1),(2,16)] [(0,1)] (fun (v,l'2) u1=>⟨[(8,.v (.int .i64 v))],[(0,.arr (0) 7 l'_N (tg0) (fun ix jx=>(D_api_Cell nvS (nvS.get d_api_Cell l'2 ix) jx)))],fun _=>lenL l'2=l'_N⟩) Wlay (fun x u1c u1g u1t f ht hu hp h=>?_)
    obtain ⟨v,l'2⟩:=x
    try dsimp only at hp h
    refine Wo0 ?_
    refine Wi 14 4 h (sT sB) (row_lost_ok _ _) fun v1 h25=>?_
    refine Wi 22 0 h (sT (sK v1 (sT (sC sB)))) (row_Blank_ok _) fun v2 h27=>?_
    refine Wk [] 1 [] Wz

theorem cursor_further_ok (v:Int) (by':Int) (least:Int) (most:Int) (r:Int) (h:cursor_further v by' least most=some r):PureFn Tryz.prog 160 [(.v (.int .i64 v)),(.v (.int .i64 by')),(.v (.int .i64 least)),(.v (.int .i64 most))] ((.v (.int .i64 r))):=by
  unfold cursor_further at h
  refine Wfn Tryz.func160 (bodyOf Tryz.f160) fun ctr hc=>?_
  refine Wo0 ?_
  refine Wi 11 0 h sB (cursor_between_ok _ _ _) fun v1 h1=>?_
  refine Wo 15 0 (cursor_between_ok (v+v1) least most) fun v2 h3=>?_
  refine Wk [] 0 [] Wz

theorem cursor_Move_ok (c':T_cursor_Cursor) (r':T_cursor_Region) (dy:Int) (dx:Int) (r:T_cursor_Cursor) (h:cursor_Move c' r' dy dx=some r):PureFn Tryz.prog 72 [(.agg 14 (fun j=>(D_cursor_Cursor nvS c' j))),(.agg 4 (fun j=>(D_cursor_Region nvS r' j))),(.v (.int .i64 dy)),(.v (.int .i64 dx))] ((.agg 14 (fun j=>(D_cursor_Cursor nvS r j)))):=by
  obtain ⟨q,q1,q2,q3,⟨q4,q5,q6⟩,⟨⟨q7,q8,q9,q10⟩,q11,q12,q13⟩⟩:=c'
  obtain ⟨q14,q15,q16,q17⟩:=r'
  unfold cursor_Move at h
  try dsimp only at h
  refine Wfn Tryz.func72 (bodyOf Tryz.f72) fun ctr hc=>?_
  refine Wo0 ?_
  refine Wi 13 0 h sB (cursor_Sane_ok _ _) fun v h1=>?_
  revert h
  refine Wjp 3 [] 0 [] (Wq ?_)
  intro h
  intros
  refine Wcut h (ctr+3) [(9,2),(7,21)] [] (fun (top,bottom1) u=>Fa [(9,.v (.int .i64 top)),(10,.v (.int .i64 bottom1))] []) (fun x uc ug ut ht hu hp h=>?_) (fun f h=>?_)
  · obtain ⟨top,bottom1⟩:=x
    try dsimp only at hp h
    refine Wo0 ?_
    refine Wi 45 0 h (sC sB) (cursor_further_ok _ _ _ _) fun v1 h4=>?_
    refine Wo 53 0 (cursor_further_ok q dx 0 (q15-1)) fun v2 h6=>?_
    refine Wk [] 0 [] Wz
  · refine Wo0 ?_
    refine Wo 23 0 (cursor_full_ok q14 q15) fun v3 h7=>?_
    obtain ⟨q18,q19,q20,q21⟩:=v3
    refine Wk [] 0 [] Wz

theorem cursor_Column_ok (c':T_cursor_Cursor) (r':T_cursor_Region) (x':Int) (r:T_cursor_Cursor) (h:cursor_Column c' r' x'=some r):PureFn Tryz.prog 92 [(.agg 14 (fun j=>(D_cursor_Cursor nvS c' j))),(.agg 4 (fun j=>(D_cursor_Region nvS r' j))),(.v (.int .i64 x'))] ((.agg 14 (fun j=>(D_cursor_Cursor nvS r j)))):=by
  obtain ⟨q,q1,q2,q3⟩:=r'
  unfold cursor_Column at h
  try dsimp only at h
  refine Wfn Tryz.func92 (bodyOf Tryz.f92) fun ctr hc=>?_
  refine Wo0 ?_
  refine Wi 9 0 h sB (cursor_Sane_ok _ _) fun v h1=>?_
  refine Wo 16 0 (cursor_between_ok x' 0 (q1-1)) fun v1 h3=>?_
  refine Wk [] 0 [] Wz

theorem cursor_In_ok (c':T_cursor_Cursor) (r':T_cursor_Region) (r:Bool) (h:cursor_In c' r'=some r):PureFn Tryz.prog 181 [(.agg 14 (fun j=>(D_cursor_Cursor nvS c' j))),(.agg 4 (fun j=>(D_cursor_Region nvS r' j)))] ((.v (.bool r))):=by
  unfold cursor_In at h
  refine Wfn Tryz.func181 (bodyOf Tryz.f181) fun ctr hc=>?_
  refine Wo0 ?_
  refine Wo 7 0 (cursor_Sane_ok c' r') fun v h1=>?_
  refine Wog 11 0 v (cursor_inside_ok c' r') false fun v1 h2=>?_
  refine Wk [] 0 [] Wz

theorem charset_Set_ok (s:T_charset_State) (which:Int) (final:Int) (r:T_charset_State) (h:charset_Set s which final=some r):PureFn Tryz.prog 85 [(.agg 7 (fun j=>(D_charset_State nvS s j))),(.v (.int .i64 which)),(.v (.int .u8 final))] ((.agg 7 (fun j=>(D_charset_State nvS r j)))):=by
  obtain ⟨⟨q,q1,q2,q3⟩,q4,q5,q6⟩:=s
  unfold charset_Set at h
  try dsimp only at h
  refine Wfn Tryz.func85 (bodyOf Tryz.f85) fun ctr hc=>?_
  refine Wo0 ?_
  refine Wi 8 0 h sB (charset_Sane_ok _) fun v h1=>?_
  refine Wo 10 0 (charset_New_ok) fun v1 h2=>?_
  refine Wo 12 0 (charset_isPlace_ok which) fun v2 h3=>?_
  refine Wog 15 0 v2 (charset_isSet_ok final) false fun v3 h4=>?_
  refine Wk [20] 0 [] Wz

theorem interp_designate_ok (s:T_interp_State) (at':Int) (final:Int) (r:T_interp_State) (h:interp_designate s at' final=some r):PureFn Tryz.prog 33 [(.agg 83 (fun j=>(D_interp_State nvS s j))),(.v (.int .i64 at')),(.v (.int .u8 final))] ((.agg 83 (fun j=>(D_interp_State nvS r j)))):=by
  unfold interp_designate at h
  refine Wfn Tryz.func33 (bodyOf Tryz.f33) fun ctr hc=>?_
  refine Wo0 ?_
  refine Wo 9 0 (interp_Active_ok s) fun v h1=>?_
  refine Wi 15 0 h (sK v sB) (charset_Set_ok _ _ _) fun v1 h2=>?_
  refine Wi 20 0 h (sK v (sK v1 sB)) (interp_with_ok _ _) fun v2 h3=>?_
  refine Wk [] 0 [] Wz

theorem interp_which_ok (s:T_interp_State) (r:Int) (h:interp_which s=some r):PureFn Tryz.prog 172 [(.agg 83 (fun j=>(D_interp_State nvS s j)))] ((.v (.int .i64 r))):=by
  obtain ⟨⟨⟨q⟩,⟨q1,q2,q3,q4,⟨q5,q6,q7⟩,⟨⟨q8,q9,q10,q11⟩,q12,q13,q14⟩⟩,⟨q15,q16,q17,q18⟩,⟨q19,q20⟩,⟨q21,q22⟩,q23,q24⟩,⟨⟨q25⟩,⟨q26,q27,q28,q29,⟨q30,q31,q32⟩,⟨⟨q33,q34,q35,q36⟩,q37,q38,q39⟩⟩,⟨q40,q41,q42,q43⟩,⟨q44,q45⟩,⟨q46,q47⟩,q48,q49⟩,q50,⟨q51⟩,⟨⟨q52,q53,q54,q55,⟨q56,q57,q58⟩,⟨⟨q59,q60,q61,q62⟩,q63,q64,q65⟩⟩,⟨q66,q67,q68,q69,⟨q70,q71,q72⟩,⟨⟨q73,q74,q75,q76⟩,q77,q78,q79⟩⟩⟩,q80,q81,q82⟩:=s
  unfold interp_which at h
  try dsimp only at h
  refine Wfn Tryz.func172 (bodyOf Tryz.f172) fun ctr hc=>?_
  refine Wx [] 0 [] Wz

theorem interp_save_ok (s:T_interp_State) (u:T_ucd_Data) (u1:T_api_Action) (r:T_interp_State) (h:interp_save s u u1=some r):PureFn Tryz.prog 86 [(.agg 83 (fun j=>(D_interp_State nvS s j))),(.agg 6 (fun j=>(D_ucd_Data nvS u j))),(.agg 6 (fun j=>(D_api_Action nvS u1 j)))] ((.agg 83 (fun j=>(D_interp_State nvS r j)))):=by
  obtain ⟨⟨⟨q⟩,⟨q1,q2,q3,q4,⟨q5,q6,q7⟩,⟨⟨q8,q9,q10,q11⟩,q12,q13,q14⟩⟩,⟨q15,q16,q17,q18⟩,⟨q19,q20⟩,⟨q21,q22⟩,q23,q24⟩,⟨⟨q25⟩,⟨q26,q27,q28,q29,⟨q30,q31,q32⟩,⟨⟨q33,q34,q35,q36⟩,q37,q38,q39⟩⟩,⟨q40,q41,q42,q43⟩,⟨q44,q45⟩,⟨q46,q47⟩,q48,q49⟩,q50,⟨q51⟩,⟨⟨q52,q53,q54,q55,⟨q56,q57,q58⟩,⟨⟨q59,q60,q61,q62⟩,q63,q64,q65⟩⟩,⟨q66,q67,q68,q69,⟨q70,q71,q72⟩,⟨⟨q73,q74,q75,q76⟩,q77,q78,q79⟩⟩⟩,q80,q81,q82⟩:=s
  unfold interp_save at h
  try dsimp only at h
  refine Wfn Tryz.func86 (bodyOf Tryz.f86) fun ctr hc=>?_
  refine Wo0 ?_
  refine Wi 8 0 h sB (interp_which_ok _) fun v h1=>?_
  refine Wi 10 0 h (sK v sB) (interp_Active_ok _) fun v1 h2=>?_
  obtain ⟨⟨q83⟩,⟨q84,q85,q86,q87,⟨q88,q89,q90⟩,⟨⟨q91,q92,q93,q94⟩,q95,q96,q97⟩⟩,⟨q98,q99,q100,q101⟩,⟨q102,q103⟩,⟨q104,q105⟩,q106,q107⟩:=v1
  refine Wk [13] 0 [] Wz

theorem interp_restore_ok (s:T_interp_State) (u:T_ucd_Data) (u1:T_api_Action) (r:T_interp_State) (h:interp_restore s u u1=some r):PureFn Tryz.prog 87 [(.agg 83 (fun j=>(D_interp_State nvS s j))),(.agg 6 (fun j=>(D_ucd_Data nvS u j))),(.agg 6 (fun j=>(D_api_Action nvS u1 j)))] ((.agg 83 (fun j=>(D_interp_State nvS r j)))):=by
  obtain ⟨⟨⟨q⟩,⟨q1,q2,q3,q4,⟨q5,q6,q7⟩,⟨⟨q8,q9,q10,q11⟩,q12,q13,q14⟩⟩,⟨q15,q16,q17,q18⟩,⟨q19,q20⟩,⟨q21,q22⟩,q23,q24⟩,⟨⟨q25⟩,⟨q26,q27,q28,q29,⟨q30,q31,q32⟩,⟨⟨q33,q34,q35,q36⟩,q37,q38,q39⟩⟩,⟨q40,q41,q42,q43⟩,⟨q44,q45⟩,⟨q46,q47⟩,q48,q49⟩,q50,⟨q51⟩,⟨⟨q52,q53,q54,q55,⟨q56,q57,q58⟩,⟨⟨q59,q60,q61,q62⟩,q63,q64,q65⟩⟩,⟨q66,q67,q68,q69,⟨q70,q71,q72⟩,⟨⟨q73,q74,q75,q76⟩,q77,q78,q79⟩⟩⟩,q80,q81,q82⟩:=s
  unfold interp_restore at h
  try dsimp only at h
  refine Wfn Tryz.func87 (bodyOf Tryz.f87) fun ctr hc=>?_
  refine Wo0 ?_
  refine Wi 9 0 h sB (interp_Active_ok _) fun v h1=>?_
  obtain ⟨⟨q83⟩,⟨q84,q85,q86,q87,⟨q88,q89,q90⟩,⟨⟨q91,q92,q93,q94⟩,q95,q96,q97⟩⟩,⟨q98,q99,q100,q101⟩,⟨q102,q103⟩,⟨q104,q105⟩,q106,q107⟩:=v
  refine Wo 11 0 (interp_which_ok ⟨⟨⟨q⟩,⟨q1,q2,q3,q4,⟨q5,q6,q7⟩,⟨⟨q8,q9,q10,q11⟩,q12,q13,q14⟩⟩,⟨q15,q16,q17,q18⟩,⟨q19,q20⟩,⟨q21,q22⟩,q23,q24⟩,⟨⟨q25⟩,⟨q26,q27,q28,q29,⟨q30,q31,q32⟩,⟨⟨q33,q34,q35,q36⟩,q37,q38,q39⟩⟩,⟨q40,q41,q42,q43⟩,⟨q44,q45⟩,⟨q46,q47⟩,q48,q49⟩,q50,⟨q51⟩,⟨⟨q52,q53,q54,q55,⟨q56,q57,q58⟩,⟨⟨q59,q60,q61,q62⟩,q63,q64,q65⟩⟩,⟨q66,q67,q68,q69,⟨q70,q71,q72⟩,⟨⟨q73,q74,q75,q76⟩,q77,q78,q79⟩⟩⟩,q80,q81,q82⟩) fun v1 h2=>?_
  revert h
  refine Wjp 3 [13] 0 [] (Wq ?_)
  intro h
  intros
  refine Wcut h (ctr+3) [(16,18)] [(7,1)] (fun x' u2=>Fa [] [(7,.box (ctr+1) (cellsOf 25 fun j=>(D_screen_Screen nvS x' j)))]) (fun x' u2c u2g u2t ht hu hp h=>?_) (fun f h=>?_)
  · refine Wo0 ?_
    refine Wi 36 0 h sB (interp_with_ok _ _) fun v2 h4=>?_
    refine Wk [] 0 [] Wz
  · refine Wx [] 0 [] Wz

theorem cursor_To_ok (c':T_cursor_Cursor) (r':T_cursor_Region) (y':Int) (x':Int) (r:T_cursor_Cursor) (h:cursor_To c' r' y' x'=some r):PureFn Tryz.prog 95 [(.agg 14 (fun j=>(D_cursor_Cursor nvS c' j))),(.agg 4 (fun j=>(D_cursor_Region nvS r' j))),(.v (.int .i64 y')),(.v (.int .i64 x'))] ((.agg 14 (fun j=>(D_cursor_Cursor nvS r j)))):=by
  obtain ⟨q,q1,q2,q3,⟨q4,q5,q6⟩,⟨⟨q7,q8,q9,q10⟩,q11,q12,q13⟩⟩:=c'
  obtain ⟨q14,q15,q16,q17⟩:=r'
  unfold cursor_To at h
  try dsimp only at h
  refine Wfn Tryz.func95 (bodyOf Tryz.f95) fun ctr hc=>?_
  refine Wo0 ?_
  refine Wi 11 0 h sB (cursor_Sane_ok _ _) fun v h1=>?_
  revert h
  refine Wjp 2 [] 0 [] (Wq ?_)
  intro h
  intros
  refine Wcut h (ctr+2) [(14,18)] [(4,1)] (fun c'1 u=>Fa [] [(4,.box (ctr+0) (cellsOf 14 fun j=>(D_cursor_Cursor nvS c'1 j)))]) (fun c'1 uc ug ut ht hu hp h=>?_) (fun f h=>?_)
  · refine Wo0 ?_
    refine Wo 36 0 (cursor_between_ok x' 0 (q15-1)) fun v1 h7=>?_
    refine Wk [] 0 [] Wz
  · refine Wo0 ?_
    refine Wo 24 0 (cursor_further_ok q16 y' q16 (q17-1)) fun v2 h9=>?_
    refine Wo 30 0 (cursor_between_ok y' 0 (q14-1)) fun v3 h11=>?_
    refine Wk [] 0 [] Wz

theorem cursor_Report_ok (c':T_cursor_Cursor) (r':T_cursor_Region) (r:(Int × Int)) (h:cursor_Report c' r'=some r):PureFn Tryz.prog 200 [(.agg 14 (fun j=>(D_cursor_Cursor nvS c' j))),(.agg 4 (fun j=>(D_cursor_Region nvS r' j)))] (.tup 2 (fun j=>match j with | 0=>(.v (.int .i64 r.1)) | 1=>(.v (.int .i64 r.2)) | _=>.junk)):=by
  obtain ⟨q,q1,q2,q3,⟨q4,q5,q6⟩,⟨⟨q7,q8,q9,q10⟩,q11,q12,q13⟩⟩:=c'
  obtain ⟨q14,q15,q16,q17⟩:=r'
  unfold cursor_Report at h
  try dsimp only at h
  refine Wfn Tryz.func200 (bodyOf Tryz.f200) fun ctr hc=>?_
  refine Wo0 ?_
  refine Wi 9 0 h sB (cursor_Sane_ok _ _) fun v h1=>?_
  refine Wk [] 0 [] Wz

end Go.Vx
