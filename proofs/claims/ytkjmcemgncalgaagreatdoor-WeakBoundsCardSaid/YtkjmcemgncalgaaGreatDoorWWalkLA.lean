/- Walks, by program (lift.py). -/
import Derived.Test.YtkjmcemgncalgaaGreatDoorWWalk
import Derived.Test.YtkjmcemgncalgaaGreatDoorWWalkV
set_option linter.all false
namespace Go.Vx
open Go.Proofs
set_option maxRecDepth 100000
set_option linter.unusedVariables false
set_option linter.unusedSimpArgs false
theorem lapwinglaw18_awake_ok  (r:Bool) (h:lapwinglaw18_awake=some r):PureFn Tryz.prog 7 [] ((.v (.bool r))):=by
 unfold lapwinglaw18_awake at h
 refine fn_tr tt0_ok Tryz.func7 (by kernel_rfl) (c:=bodyOf Tryz.f7) (by kernel_rfl) ?_
 intro ctr hc
 obtain ⟨v,h1⟩ : ∃ v,valO d_ucd_Data (ucd_Load)=v:=⟨_,rfl⟩
 obtain ⟨⟨v_Class_L⟩,⟨v_Wide_L⟩,⟨v_Join_L⟩,v_Mirror,v_Brackets,v_Forms⟩:=v
 obtain ⟨v1,h2⟩ : ∃ v1,valO ([],0) (weak_Paragraph (T_ucd_Data.mk (T_ranges_Table.mk v_Class_L) (T_ranges_Table.mk v_Wide_L) (T_ranges_Table.mk v_Join_L) v_Mirror v_Brackets v_Forms) ([97,1488,49]:List Int) 2)=v1:=⟨_,rfl⟩
 obtain ⟨v1_0,v1_1⟩:=v1
 obtain ⟨v2,h3⟩ : ∃ v2,valO false (lapwingref03_Ints v1_0 ([0,1,2]:List Int))=v2:=⟨_,rfl⟩
 obtain ⟨v3,h4⟩ : ∃ v3,valO 0 (if (if v2=true then (v1_1 == 0) else false)=true then weak_Implicit 2 0 else some 0)=v3:=⟨_,rfl⟩
 obtain ⟨v4,h5⟩ : ∃ v4,valO [] (if (if (if v2=true then (v1_1 == 0) else false)=true then (v3 == 1) else false)=true then weak_Weak ([3,4]:List Int) 1 else some [])=v4:=⟨_,rfl⟩
 obtain ⟨v5,h6⟩ : ∃ v5,valO false (if (if (if v2=true then (v1_1 == 0) else false)=true then (v3 == 1) else false)=true then lapwingref03_Ints v4 ([2,7]:List Int) else some false)=v5:=⟨_,rfl⟩
 refine Wc [] [(4,.plain (.agg 6 (fun j=>(D_ucd_Data nvS (T_ucd_Data.mk (T_ranges_Table.mk v_Class_L) (T_ranges_Table.mk v_Wide_L) (T_ranges_Table.mk v_Join_L) v_Mirror v_Brackets v_Forms) j)))),(6,.plain (.tup 2 (fun j=>match j with | 0=>(WS nvS v1_0) | 1=>(WV v1_1) | _=>.junk))),(11,.plain (.v (.bool v2))),(17,.plain (WV v3)),(22,.plain (WS nvS v4)),(24,.plain (.v (.bool v5)))] [5,10,21,23] 0 [] fun N hN=>?_
 generalize hp:std Tryz.prog=p;generalize hv:nvS=nv;cbv;subst hp hv
 replace h:=bindO_val h1 h;clear h1;obtain ⟨h1,h⟩:=h;try dsimp only at h
 replace h:=bindO_val h2 h;clear h2;obtain ⟨h2,h⟩:=h;try dsimp only at h
 refine ⟨(Or.inl (PureFn.arg (ucd_Load_ok  (T_ucd_Data.mk (T_ranges_Table.mk v_Class_L) (T_ranges_Table.mk v_Wide_L) (T_ranges_Table.mk v_Join_L) v_Mirror v_Brackets v_Forms) h1) trivial)),(Or.inl (PureFn.arg (weak_Paragraph_ok (T_ucd_Data.mk (T_ranges_Table.mk v_Class_L) (T_ranges_Table.mk v_Wide_L) (T_ranges_Table.mk v_Join_L) v_Mirror v_Brackets v_Forms) ([97,1488,49]:List Int) 2 (v1_0,v1_1) h2) (And.intro (by first | exact LeD.refl _ | exact LeD.agg (fun j hj=>by (have hj2:j < 6:=hj);(rcases (show j=0∨j=1∨j=2∨j=3∨j=4∨j=5 by omega) with rfl | rfl | rfl | rfl | rfl | rfl)<;>exact LeD.refl _)) (And.intro (LeD.slE Wy (fun i i0 i1 j hj=>by have i2:i < 3:=i1;(rcases (show i=0∨i=1∨i=2 by omega) with rfl | rfl | rfl)<;>(obtain rfl:j=0:=(by omega))<;>rfl)) (And.intro (LeD.refl _) trivial))))),?_⟩
 replace h:=bindO_val h3 h;clear h3;obtain ⟨h3,h⟩:=h
 replace h:=bindO_val h4 h;clear h4;obtain ⟨h4,h⟩:=h
 replace h:=bindO_val h5 h;clear h5;obtain ⟨h5,h⟩:=h
 replace h:=bindO_val h6 h;clear h6;obtain ⟨h6,h⟩:=h
 refine ⟨(Or.inl (PureFn.arg (lapwingref03_Ints_ok v1_0 ([0,1,2]:List Int) v2 h3) (And.intro (LeD.refl _) (And.intro (LeD.slE Wy (fun i i0 i1 j hj=>by have i2:i < 3:=i1;(rcases (show i=0∨i=1∨i=2 by omega) with rfl | rfl | rfl)<;>(obtain rfl:j=0:=(by omega))<;>rfl)) trivial)))),(fun hg=>hg),(fun hg=>hg),(fun hg=>by have h4:=guardO h4 hg;exact (Or.inl (PureFn.arg (weak_Implicit_ok 2 0 v3 h4) (And.intro (LeD.refl _) (And.intro (LeD.refl _) trivial))))),(fun hg=>hg),(fun hg=>hg),(fun hg=>hg),(fun hg=>by have h5:=guardO h5 hg;exact (Or.inl (PureFn.arg (PureFn.sl (weak_Weak_ok ([3,4]:List Int) 1 v4 h5)) (And.intro (LeD.slE Wy (fun i i0 i1 j hj=>by have i2:i < 2:=i1;(rcases (show i=0∨i=1 by omega) with rfl | rfl)<;>(obtain rfl:j=0:=(by omega))<;>rfl)) (And.intro (LeD.refl _) trivial))))),(fun hg=>hg),(fun hg=>hg),(fun hg=>by have h6:=guardO h6 hg;exact (Or.inl (PureFn.arg (lapwingref03_Ints_ok v4 ([2,7]:List Int) v5 h6) (And.intro (LeD.refl _) (And.intro (LeD.slE Wy (fun i i0 i1 j hj=>by have i2:i < 2:=i1;(rcases (show i=0∨i=1 by omega) with rfl | rfl)<;>(obtain rfl:j=0:=(by omega))<;>rfl)) trivial))))),(fun hg=>hg),?_⟩
 subst hN;have hr:=Option.some.inj h
 subst hr
 try dsimp only [noGoto,inBlockQ,thenQ]
 repeat (first | refine Wt ?_ | refine We ?_)
 exact retQ_ret rfl trivial rfl
end Go.Vx
