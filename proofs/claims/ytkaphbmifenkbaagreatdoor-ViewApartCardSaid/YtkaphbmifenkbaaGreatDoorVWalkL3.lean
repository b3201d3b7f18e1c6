/- Walks, by program (lift.py). -/
import Derived.Test.YtkaphbmifenkbaaGreatDoorVWalk
import Derived.Test.YtkaphbmifenkbaaGreatDoorVWalkS
set_option linter.all false
namespace Go.Vx
open Go.Proofs
set_option maxRecDepth 100000
set_option maxHeartbeats 1000000
set_option linter.unusedVariables false
set_option linter.unusedSimpArgs false
attribute [local irreducible] chk iteO bindO cutO nilO

theorem lapwinglaw21_ViewApart_ok (l':(List T_api_Row)) (y':Int) (boxes:Bool) (r:Bool) (h:lapwinglaw21_ViewApart l' y' boxes=some r):PureFn Tryz.prog 3 [(.sl 4 (nvS.len l') false (fun ix jx=>(D_api_Row nvS (nvS.get d_api_Row l' ix) jx))),(.v (.int .i64 y')),(.v (.bool boxes))] ((.v (.bool r))):=by
  unfold lapwinglaw21_ViewApart at h
  refine Wfn Tryz.func3 (bodyOf Tryz.f3) fun ctr hc=>?_
  refine Wo0 ?_
  refine Wo 14 0 (lapwinglaw21_awake_ok) fun v h1=>?_
  refine Wo 16 0 (lapwingref09_Few_ok l') fun v1 h2=>?_
  refine Wo 24 0 (ucd_Load_ok) fun v2 h3=>?_
  obtain ⟨⟨v2_Class_L⟩,⟨v2_Wide_L⟩,⟨v2_Join_L⟩,v2_Mirror,v2_Brackets,v2_Forms⟩:=v2
  refine Wo 53 0 (view_Map_ok (T_ucd_Data.mk (T_ranges_Table.mk v2_Class_L) (T_ranges_Table.mk v2_Wide_L) (T_ranges_Table.mk v2_Join_L) v2_Mirror v2_Brackets v2_Forms) l' (Int.tmod (bndI .i64 y' 65535) (lenL l')) boxes) fun v3 h8=>?_
  obtain ⟨⟨v3_0_V2L,v3_0_L2V,v3_0_Cells,v3_0_Base⟩,v3_1⟩:=v3
  refine Wo 64 0 (view_Map_ok (T_ucd_Data.mk (T_ranges_Table.mk v2_Class_L) (T_ranges_Table.mk v2_Wide_L) (T_ranges_Table.mk v2_Join_L) v2_Mirror v2_Brackets v2_Forms) ([(getL d_api_Row l' (Int.tmod (bndI .i64 y' 65535) (lenL l')))]:List T_api_Row) 0 boxes) fun v4 h10=>?_
  obtain ⟨⟨v4_0_V2L,v4_0_L2V,v4_0_Cells,v4_0_Base⟩,v4_1⟩:=v4
  refine Wog 79 0 (if v=true then v4_1 else false) (lapwingref03_Ints_ok v3_0_V2L v4_0_V2L) false fun v5 h11=>?_
  refine Wog 86 0 (if (if v=true then v4_1 else false)=true then v5 else false) (lapwingref08_Cells_ok v3_0_Cells v4_0_Cells) false fun v6 h12=>?_
  refine Wk [62] 0 [] Wz
end Go.Vx
