/- Walks, by program (lift5.py): the code does what the lifted functions say. -/
import Derived.Test.YtmkigppfdmghnaaGreatDoorIWalkPr
import Derived.Test.YtmkigppfdmghnaaGreatDoorIWb2
import Derived.Test.YtmkigppfdmghnaaGreatDoorIWb3
import Derived.Test.YtmkigppfdmghnaaGreatDoorIWb6
set_option linter.all false
namespace Go.Vx
open Go.Proofs
set_option maxRecDepth 100000
set_option maxHeartbeats 8000000
set_option linter.unusedVariables false
set_option linter.unusedSimpArgs false
attribute [local irreducible] chk iteO bindO cutO nilO

theorem grid_Down_ok (g':T_grid_Grid) (top:Int) (bottom:Int) (n:Int) (p':T_api_Pen) (r:T_grid_Grid) (h:grid_Down g' top bottom n p'=some r):PureFn Tryz.prog 182 [(.agg 1 (fun j=>(D_grid_Grid nvS g' j))),(.v (.int .i64 top)),(.v (.int .i64 bottom)),(.v (.int .i64 n)),(.agg 3 (fun j=>(D_api_Pen nvS p' j)))] ((.agg 1 (fun j=>(D_grid_Grid nvS r j)))):=by
  obtain ⟨q⟩:=g'
  unfold grid_Down at h
  try dsimp only at h
  refine Wfn Tryz.func182 (bodyOf Tryz.f182) fun ctr hc=>?_
  refine Wo0 ?_
  refine Wi 17 0 h sB (grid_moves_ok _ _ _ _) fun v h1=>?_
  refine Wo 27 1 (grid_rows_ok ⟨q⟩) fun v1 h3=>?_
  revert h
  refine Wjp 4 [] 0 [] (Wq ?_)
  intro h
  intros
  refine Wcut h (ctr+4) [(12,1),(15,23)] [(27,1)] (fun l' u=>⟨[],[(27,.arr (ctr+3) 4 (nvS.len v1) (u.t 27) (fun ix jx=>(D_api_Row nvS (nvS.get d_api_Row l' ix) jx)))],fun _=>lenL l'=(lenL v1)⟩) (fun l' uc ug ut ht hu hp h=>?_) (fun f h=>?_)
  · try dsimp only at hp h
    refine Wo0 ?_
    refine Wol 64 (fun r h=>grid_lay_ok l' (0+top) ((top+(imaxI 0 (iminI n (bottom-top))))-top) (lenL (getL d_api_Row q 0).fCells) p' r h ((nvS.len v1)) Wy (ut 27)) fun v2 h21=>?_
    refine Wk [] 0 [] Wz
  · revert h
    refine Wyp 1 [] 0 [] (Wq ?_)
    intro h
    intros
    refine Tr.block ?_
    refine Wlp h (ctr+5) [(12,1),(20,18)] [(27,1)] (fun (v3,l'1) u1=>⟨[(33,.v (.int .i64 v3))],[(27,.arr (ctr+3) 4 (nvS.len v1) (u1.t 27) (fun ix jx=>(D_api_Row nvS (nvS.get d_api_Row l'1 ix) jx)))],fun _=>lenL l'1=(lenL v1)⟩) Wlay (fun x u1c u1g u1t f ht hu hp h=>?_)
    obtain ⟨v3,l'1⟩:=x
    try dsimp only at hp h
    refine Wx [] 0 [] Wz

theorem screen_InsertRows_ok (s:T_screen_Screen) (n:Int) (r:T_screen_Screen) (h:screen_InsertRows s n=some r):PureFn Tryz.prog 101 [(.agg 25 (fun j=>(D_screen_Screen nvS s j))),(.v (.int .i64 n))] ((.agg 25 (fun j=>(D_screen_Screen nvS r j)))):=by
  obtain ⟨⟨q⟩,⟨q1,q2,q3,q4,⟨q5,q6,q7⟩,⟨⟨q8,q9,q10,q11⟩,q12,q13,q14⟩⟩,⟨q15,q16,q17,q18⟩,⟨q19,q20⟩,⟨q21,q22⟩,q23,q24⟩:=s
  unfold screen_InsertRows at h
  try dsimp only at h
  refine Wfn Tryz.func101 (bodyOf Tryz.f101) fun ctr hc=>?_
  refine Wo0 ?_
  refine Wi 6 0 h sB (screen_Sane_ok _) fun v h1=>?_
  refine Wig 13 0 h (sK v sB) (cursor_In_ok _ _) fun v1 h2=>?_
  refine Wi 28 0 h (sK v (sK v1 (sF sB))) (screen_ground_ok _) fun v2 h3=>?_
  refine Wo 29 0 (grid_Down_ok ⟨q⟩ q2 q18 (imaxI n 1) v2) fun v3 h4=>?_
  refine Wk [] 0 [] Wz

end Go.Vx
