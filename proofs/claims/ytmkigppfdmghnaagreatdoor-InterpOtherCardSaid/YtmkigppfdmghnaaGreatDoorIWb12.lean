/- Walks, by program (lift5.py): the code does what the lifted functions say. -/
import Derived.Test.YtmkigppfdmghnaaGreatDoorIWalkPr
import Derived.Test.YtmkigppfdmghnaaGreatDoorIWb4
import Derived.Test.YtmkigppfdmghnaaGreatDoorIWb5
import Derived.Test.YtmkigppfdmghnaaGreatDoorIWb6
set_option linter.all false
namespace Go.Vx
open Go.Proofs
set_option maxRecDepth 100000
set_option maxHeartbeats 8000000
set_option linter.unusedVariables false
set_option linter.unusedSimpArgs false
attribute [local irreducible] chk iteO bindO cutO nilO

theorem ucd_Load_ok  (r:T_ucd_Data) (h:ucd_Load=some r):PureFn Tryz.prog 14 [] ((.agg 6 (fun j=>(D_ucd_Data nvS r j)))):=by
  unfold ucd_Load at h
  refine Wfn Tryz.func14 (bodyOf Tryz.f14) fun ctr hc=>?_
  refine Wo0 ?_
  refine Wo 1 0 (ucd_table_class_ok kS1) fun v h1=>?_
  refine Wo 2 0 (ucd_table_wide_ok kS2) fun v1 h2=>?_
  refine Wo 3 0 (ucd_table_join_ok kS3) fun v2 h3=>?_
  refine Wo 4 1 (ucd_pairs_ok kS4) fun v3 h4=>?_
  refine Wo 5 1 (ucd_pairs_ok kS5) fun v4 h5=>?_
  refine Wo 6 1 (ucd_forms_ok kS6) fun v5 h6=>?_
  refine Wk [] 0 [] Wz

theorem screen_Tab_ok (s:T_screen_Screen) (n:Int) (r:T_screen_Screen) (h:screen_Tab s n=some r):PureFn Tryz.prog 74 [(.agg 25 (fun j=>(D_screen_Screen nvS s j))),(.v (.int .i64 n))] ((.agg 25 (fun j=>(D_screen_Screen nvS r j)))):=by
  unfold screen_Tab at h
  refine Wfn Tryz.func74 (bodyOf Tryz.f74) fun ctr hc=>?_
  refine Wo0 ?_
  refine Wo 6 0 (screen_Sane_ok s) fun v h1=>?_
  refine Wo 28 0 (tabs_Next_ok s.fT s.fC.fX n) fun v1 h2=>?_
  refine Wo 39 0 (tabs_Prev_ok s.fT s.fC.fX 9223372036854775807) fun v2 h3=>?_
  refine Wo 16 0 (tabs_Prev_ok s.fT s.fC.fX (0-n)) fun v3 h5=>?_
  refine Wk [] 0 [] Wz

end Go.Vx
