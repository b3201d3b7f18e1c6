/- Walks, by program (lift.py). -/
import Derived.Test.YtkaphbmifenkbaaGreatDoorVWalk
import Derived.Test.YtkaphbmifenkbaaGreatDoorVWalkS
set_option linter.all false
namespace Go.Vx
open Go.Proofs
set_option maxRecDepth 100000
set_option maxHeartbeats 1000000
set_option linter.unusedVariables false
set_option linter.unusedSimpArgs false
attribute [local irreducible] chk iteO bindO cutO nilO

theorem lapwinglaw21_ViewPlain_ok (l':(List T_api_Row)) (y':Int) (boxes:Bool) (r:Bool) (h:lapwinglaw21_ViewPlain l' y' boxes=some r):PureFn Tryz.prog 6 [(.sl 4 (nvS.len l') false (fun ix jx=>(D_api_Row nvS (nvS.get d_api_Row l' ix) jx))),(.v (.int .i64 y')),(.v (.bool boxes))] ((.v (.bool r))):=by
  unfold lapwinglaw21_ViewPlain at h
  refine Wfn Tryz.func6 (bodyOf Tryz.f6) fun ctr hc=>?_
  refine Wo0 ?_
  refine Wo 21 0 (lapwinglaw21_awake_ok) fun v h1=>?_
  refine Wo 23 0 (lapwingref09_Few_ok l') fun v1 h2=>?_
  refine Wo 26 0 (ucd_Load_ok) fun v2 h3=>?_
  obtain ⟨⟨v2_Class_L⟩,⟨v2_Wide_L⟩,⟨v2_Join_L⟩,v2_Mirror,v2_Brackets,v2_Forms⟩:=v2
  refine Wo 32 0 (view_Map_ok (T_ucd_Data.mk (T_ranges_Table.mk v2_Class_L) (T_ranges_Table.mk v2_Wide_L) (T_ranges_Table.mk v2_Join_L) v2_Mirror v2_Brackets v2_Forms) l' y' boxes) fun v3 h4=>?_
  obtain ⟨⟨v3_0_V2L,v3_0_L2V,v3_0_Cells,v3_0_Base⟩,v3_1⟩:=v3
  refine Wo 56 0 (view_Paragraph_ok (T_ucd_Data.mk (T_ranges_Table.mk v2_Class_L) (T_ranges_Table.mk v2_Wide_L) (T_ranges_Table.mk v2_Join_L) v2_Mirror v2_Brackets v2_Forms) l' y') fun v4 h5=>?_
  obtain ⟨v4_0,v4_1,v4_2⟩:=v4
  revert h
  refine Wjp 8 [] 0 [] (Wq ?_)
  intro h
  intros
  refine Wcut h (ctr+8) [(14,2),(46,14)] [] (fun flat1 u=>Fa [(14,.v (.bool flat1))] []) (fun flat1 uc ug ut ht hu hp h=>?_) (fun f h=>?_)
  · revert h
    refine Wyp 2 [] 0 [] (Wq ?_)
    intro h
    intros
    refine Wcut h (uc+2) [(6,1),(11,1),(94,51)] [] (fun _ u1=>Fa [] []) (fun x u1c u1g u1t ht hu hp h=>?_) (fun f h=>?_)
    · refine Wo0 ?_
      refine Wo 168 0 (weak_Paragraph_ok (T_ucd_Data.mk (T_ranges_Table.mk v2_Class_L) (T_ranges_Table.mk v2_Wide_L) (T_ranges_Table.mk v2_Join_L) v2_Mirror v2_Brackets v2_Forms) v4_0 v4_2) fun v5 h29=>?_
      obtain ⟨v5_0,v5_1⟩:=v5
      refine Wk [] 0 [] Wz
    · revert h
      refine Wyp 1 [] 0 [] (Wq ?_)
      intro h
      intros
      refine Tr.block ?_
      refine Wlp h (uc+3) [(6,1),(11,1),(94,51)] [] (fun i u2=>Fa [(18,.v (.int .i64 i))] []) Wlay (fun i u2c u2g u2t f ht hu hp h=>?_)
      revert h
      refine Wyp 1 [] 0 [] (Wq ?_)
      intro h
      intros
      refine Wcut h (u2c+1) [(6,1),(113,44)] [] (fun _ u3=>Fa [] []) (fun x u3c u3g u3t ht hu hp h=>?_) (fun f h=>?_)
      · refine Wx [] 0 [] Wz
      · refine Tr.block ?_
        revert h
        refine Wyp 1 [] 0 [] (Wq ?_)
        intro h
        intros
        refine Tr.seq ?_
        revert h
        refine Wyt 12 [] 0 [] (Wq ?_)
        intro h
        intros
        revert h
        refine Wmore 11 (Wq ?_)
        intro h
        intros
        revert h
        refine Wlast (Wq ?_)
        intro h
        intros
        refine Wx [] 0 [] Wz
  · revert h
    refine Wyp 1 [] 0 [] (Wq ?_)
    intro h
    intros
    refine Tr.block ?_
    refine Wlp h (ctr+9) [(14,2),(46,14)] [] (fun (flat2,i2) u4=>Fa [(14,.v (.bool flat2)),(15,.v (.int .i64 i2))] []) Wlay (fun x u4c u4g u4t f ht hu hp h=>?_)
    obtain ⟨flat2,i2⟩:=x
    try dsimp only at hp h
    refine Wx [] 0 [] Wz
end Go.Vx
