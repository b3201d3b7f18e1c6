/- Walks, by program (lift.py). -/
import Derived.Test.YtkaphbmifenkbaaGreatDoorVWalk
import Derived.Test.YtkaphbmifenkbaaGreatDoorVWalkS
set_option linter.all false
namespace Go.Vx
open Go.Proofs
set_option maxRecDepth 100000
set_option maxHeartbeats 1000000
set_option linter.unusedVariables false
set_option linter.unusedSimpArgs false
attribute [local irreducible] chk iteO bindO cutO nilO

theorem lapwinglaw21_ViewChain_ok (l':(List T_api_Row)) (y':Int) (r:Bool) (h:lapwinglaw21_ViewChain l' y'=some r):PureFn Tryz.prog 5 [(.sl 4 (nvS.len l') false (fun ix jx=>(D_api_Row nvS (nvS.get d_api_Row l' ix) jx))),(.v (.int .i64 y'))] ((.v (.bool r))):=by
  unfold lapwinglaw21_ViewChain at h
  refine Wfn Tryz.func5 (bodyOf Tryz.f5) fun ctr hc=>?_
  refine Wo0 ?_
  refine Wo 13 0 (lapwinglaw21_awake_ok) fun v h1=>?_
  refine Wo 15 0 (lapwingref09_Few_ok l') fun v1 h2=>?_
  refine Wo 21 0 (view_Chain_ok l' y') fun v2 h3=>?_
  obtain ⟨v2_0,v2_1,v2_2⟩:=v2
  revert h
  refine Wjp 6 [] 0 [] (Wq ?_)
  intro h
  intros
  refine Wcut h (ctr+6) [(4,1),(4,4),(47,39)] [] (fun _ u=>Fa [] []) (fun x uc ug ut ht hu hp h=>?_) (fun f h=>?_)
  · refine Wx [] 0 [] Wz
  · revert h
    refine Wyp 1 [] 0 [] (Wq ?_)
    intro h
    intros
    refine Tr.block ?_
    refine Wlp h (ctr+7) [(4,1),(4,4),(48,38)] [] (fun i u1=>Fa [(9,.v (.int .i64 i))] []) Wlay (fun i u1c u1g u1t f ht hu hp h=>?_)
    refine Wo0 ?_
    refine Wo 81 0 (view_Chain_ok l' i) fun v3 h27=>?_
    obtain ⟨v3_0,v3_1,v3_2⟩:=v3
    refine Wk [] 0 [] Wz
end Go.Vx
