/- Walks, by program (lift.py). -/
import Derived.Test.YtkaphbmifenkbaaGreatDoorVWalk
import Derived.Test.YtkaphbmifenkbaaGreatDoorVWalkS
set_option linter.all false
namespace Go.Vx
open Go.Proofs
set_option maxRecDepth 100000
set_option maxHeartbeats 1000000
set_option linter.unusedVariables false
set_option linter.unusedSimpArgs false
attribute [local irreducible] chk iteO bindO cutO nilO

theorem lapwinglaw21_ViewAll_ok (l':(List T_api_Row)) (boxes:Bool) (r:Bool) (h:lapwinglaw21_ViewAll l' boxes=some r):PureFn Tryz.prog 7 [(.sl 4 (nvS.len l') false (fun ix jx=>(D_api_Row nvS (nvS.get d_api_Row l' ix) jx))),(.v (.bool boxes))] ((.v (.bool r))):=by
  unfold lapwinglaw21_ViewAll at h
  refine Wfn Tryz.func7 (bodyOf Tryz.f7) fun ctr hc=>?_
  refine Wo0 ?_
  refine Wo 11 0 (lapwinglaw21_awake_ok) fun v h1=>?_
  refine Wo 13 0 (lapwingref09_Few_ok l') fun v1 h2=>?_
  refine Wo 16 0 (ucd_Load_ok) fun v2 h3=>?_
  obtain ⟨⟨v2_Class_L⟩,⟨v2_Wide_L⟩,⟨v2_Join_L⟩,v2_Mirror,v2_Brackets,v2_Forms⟩:=v2
  refine Wo 20 1 (view_All_ok (T_ucd_Data.mk (T_ranges_Table.mk v2_Class_L) (T_ranges_Table.mk v2_Wide_L) (T_ranges_Table.mk v2_Join_L) v2_Mirror v2_Brackets v2_Forms) l' boxes) fun v3 h4=>?_
  refine Wo 23 0 (lapwingref09_Sane_ok (T_lapwingref09_Grid.mk l')) fun v4 h5=>?_
  revert h
  refine Wjp 7 [] 0 [] (Wq ?_)
  intro h
  intros
  refine Wcut h (ctr+7) [(4,1),(3,3),(20,48)] [] (fun _ u=>Fa [] []) (fun x uc ug ut ht hu hp h=>?_) (fun f h=>?_)
  · refine Wx [] 0 [] Wz
  · revert h
    refine Wyp 1 [] 0 [] (Wq ?_)
    intro h
    intros
    refine Tr.block ?_
    refine Wlp h (ctr+8) [(4,1),(3,3),(20,48)] [(9,1)] (fun y' u1=>Fa [(8,.v (.int .i64 y'))] []) Wlay (fun y' u1c u1g u1t f ht hu hp h=>?_)
    refine Wo0 ?_
    refine Wo 42 0 (view_Map_ok (T_ucd_Data.mk (T_ranges_Table.mk v2_Class_L) (T_ranges_Table.mk v2_Wide_L) (T_ranges_Table.mk v2_Join_L) v2_Mirror v2_Brackets v2_Forms) l' y' boxes) fun v5 h34=>?_
    obtain ⟨⟨v5_0_V2L,v5_0_L2V,v5_0_Cells,v5_0_Base⟩,v5_1⟩:=v5
    refine Wog 55 0 (!(!v5_1)) (lapwingref03_Ints_ok v5_0_V2L (getL d_view_Line v3 (0+y')).fV2L) false fun v6 h36=>?_
    refine Wog 66 0 (!(if (!v5_1)=true then true else (!v6))) (lapwingref08_Cells_ok v5_0_Cells (getL d_view_Line v3 (0+y')).fCells) false fun v7 h38=>?_
    refine Wk [] 0 [] Wz
end Go.Vx
