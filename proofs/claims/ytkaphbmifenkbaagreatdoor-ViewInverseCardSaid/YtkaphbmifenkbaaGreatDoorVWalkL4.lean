/- Walks, by program (lift.py). -/
import Derived.Test.YtkaphbmifenkbaaGreatDoorVWalk
import Derived.Test.YtkaphbmifenkbaaGreatDoorVWalkS
set_option linter.all false
namespace Go.Vx
open Go.Proofs
set_option maxRecDepth 100000
set_option maxHeartbeats 1000000
set_option linter.unusedVariables false
set_option linter.unusedSimpArgs false
attribute [local irreducible] chk iteO bindO cutO nilO

theorem lapwinglaw21_ViewInverse_ok (l':(List T_api_Row)) (y':Int) (boxes:Bool) (r:Bool) (h:lapwinglaw21_ViewInverse l' y' boxes=some r):PureFn Tryz.prog 4 [(.sl 4 (nvS.len l') false (fun ix jx=>(D_api_Row nvS (nvS.get d_api_Row l' ix) jx))),(.v (.int .i64 y')),(.v (.bool boxes))] ((.v (.bool r))):=by
  unfold lapwinglaw21_ViewInverse at h
  refine Wfn Tryz.func4 (bodyOf Tryz.f4) fun ctr hc=>?_
  refine Wo0 ?_
  refine Wo 13 0 (lapwinglaw21_awake_ok) fun v h1=>?_
  refine Wo 15 0 (lapwingref09_Few_ok l') fun v1 h2=>?_
  refine Wo 19 0 (ucd_Load_ok) fun v2 h3=>?_
  obtain ⟨⟨v2_Class_L⟩,⟨v2_Wide_L⟩,⟨v2_Join_L⟩,v2_Mirror,v2_Brackets,v2_Forms⟩:=v2
  refine Wo 23 0 (view_Map_ok (T_ucd_Data.mk (T_ranges_Table.mk v2_Class_L) (T_ranges_Table.mk v2_Wide_L) (T_ranges_Table.mk v2_Join_L) v2_Mirror v2_Brackets v2_Forms) l' y' boxes) fun v3 h4=>?_
  obtain ⟨⟨v3_0_V2L,v3_0_L2V,v3_0_Cells,v3_0_Base⟩,v3_1⟩:=v3
  revert h
  refine Wjp 7 [] 0 [] (Wq ?_)
  intro h
  intros
  refine Wcut h (ctr+7) [(6,1),(4,2),(60,61)] [] (fun _ u=>Fa [] []) (fun x uc ug ut ht hu hp h=>?_) (fun f h=>?_)
  · refine Wx [] 0 [] Wz
  · revert h
    refine Wyp 1 [] 0 [] (Wq ?_)
    intro h
    intros
    refine Tr.block ?_
    refine Wlp h (ctr+8) [(6,1),(4,2),(60,61)] [] (fun i u1=>Fa [(11,.v (.int .i64 i))] []) Wlay (fun i u1c u1g u1t f ht hu hp h=>?_)
    refine Wo0 ?_
    refine Wog 102 0 (!(if (if (decide ((getL 0 v3_0_L2V i) < 0))=true then true else (decide ((lenL (getL d_api_Row l' y').fCells)≤(getL 0 v3_0_L2V i))))=true then true else (!((getL 0 v3_0_V2L (getL 0 v3_0_L2V i)) == i)))) (view_Cursor_ok (T_view_Line.mk v3_0_V2L v3_0_L2V v3_0_Cells v3_0_Base) i) 0 fun v5 h50=>?_
    refine Wog 109 0 (!(if (if (if (decide ((getL 0 v3_0_L2V i) < 0))=true then true else (decide ((lenL (getL d_api_Row l' y').fCells)≤(getL 0 v3_0_L2V i))))=true then true else (!((getL 0 v3_0_V2L (getL 0 v3_0_L2V i)) == i)))=true then true else (!(v5 == (getL 0 v3_0_L2V i))))) (view_Back_ok (T_view_Line.mk v3_0_V2L v3_0_L2V v3_0_Cells v3_0_Base) (getL 0 v3_0_L2V i)) 0 fun v6 h51=>?_
    refine Wk [] 0 [] Wz
end Go.Vx
