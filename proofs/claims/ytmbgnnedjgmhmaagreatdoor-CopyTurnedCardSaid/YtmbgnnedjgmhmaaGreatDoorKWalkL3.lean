/- Walks, by program (lift.py). -/
import Derived.Test.YtmbgnnedjgmhmaaGreatDoorKWalk
import Derived.Test.YtmbgnnedjgmhmaaGreatDoorKWalkD
set_option linter.all false
namespace Go.Vx
open Go.Proofs
set_option maxRecDepth 100000
set_option maxHeartbeats 1000000
set_option linter.unusedVariables false
set_option linter.unusedSimpArgs false
attribute [local irreducible] chk Z7 Z8 Zu nilO

theorem Z4w (rows:(List Z5)) (a:Y5) (b:Y5) (r:Bool) (h:Qe rows a b=some r):Ze Tryz.prog 3 [(.sl 4 (nvS.len rows) false (fun ix jx=>(Yq nvS (nvS.get Z3 rows ix) jx))),(.agg 2 (fun j=>(Xt nvS a j))),(.agg 2 (fun j=>(Xt nvS b j)))] ((.v (.bool r))):=by
  obtain ⟨a_Y,a_X⟩:=a
  obtain ⟨b_Y,b_X⟩:=b
  unfold Qe at h
  try dsimp only at h
  refine Wfn Tryz.func3 (Zl Tryz.f3) fun ctr hc=>?_
  refine Wo0 ?_
  refine Wo 17 0 (Z6q) fun v h1=>?_
  refine Wo 19 0 (Z86 rows) fun v1 h2=>?_
  refine Wo 22 0 (ucd_Load_ok) fun v2 h3=>?_
  obtain ⟨⟨v2_Class_L⟩,⟨v2_Wide_L⟩,⟨v2_Join_L⟩,v2_Mirror,v2_Brackets,v2_Forms⟩:=v2
  refine Wo 24 1 (view_All_ok (Za.mk (Z2.mk v2_Class_L) (Z2.mk v2_Wide_L) (Z2.mk v2_Join_L) v2_Mirror v2_Brackets v2_Forms) rows false) fun v3 h4=>?_
  refine Wo 29 0 (Z2z (Y5.mk a_Y a_X)) fun v4 h5=>?_
  obtain ⟨v4_Y,v4_X⟩:=v4
  refine Wo 31 0 (Z2z (Y5.mk b_Y b_X)) fun v5 h6=>?_
  obtain ⟨v5_Y,v5_X⟩:=v5
  refine Wo 32 0 (Z6a v3 rows (Zg.mk v4_Y v4_X) (Zg.mk v5_Y v5_X) 65536) fun v6 h7=>?_
  obtain ⟨v6_0,v6_1⟩:=v6
  refine Wod 39 0 h6 ?_
  refine Wod 41 0 h5 ?_
  refine Wo 42 0 (Z6a v3 rows (Zg.mk v5_Y v5_X) (Zg.mk v4_Y v4_X) 65536) fun v7 h8=>?_
  obtain ⟨v7_0,v7_1⟩:=v7
  refine Wod 49 0 h5 ?_
  refine Wod 51 0 h6 ?_
  refine Wo 52 0 (copy_Rect_ok v3 rows (Zg.mk v4_Y v4_X) (Zg.mk v5_Y v5_X) 65536) fun v8 h9=>?_
  obtain ⟨v8_0,v8_1⟩:=v8
  refine Wod 59 0 h6 ?_
  refine Wod 61 0 h5 ?_
  refine Wo 62 0 (copy_Rect_ok v3 rows (Zg.mk v5_Y v5_X) (Zg.mk v4_Y v4_X) 65536) fun v9 h10=>?_
  obtain ⟨v9_0,v9_1⟩:=v9
  refine Wog 69 0 v (Z1a v6_0 v7_0) false fun v10 h11=>?_
  refine Wog 74 0 (if v=true then v10 else false) (Z1a v8_0 v9_0) false fun v11 h12=>?_
  refine Wk [] 0 [(5,[.freeze (.slot 8)])] Wz
end Go.Vx
