/- Walks, by program (lift5.py): the code does what the lifted functions say. -/
import Derived.Test.YtmpgicplgjmjkaaGreatDoorTWb20
set_option linter.all false
namespace Go.Vx
open Go.Proofs
set_option maxRecDepth 100000
set_option maxHeartbeats 8000000
set_option linter.unusedVariables false
set_option linter.unusedSimpArgs false
attribute [local irreducible] chk aA au aO oH
theorem PI h' w b cuts r (h:tZ h' w b cuts=some r):Pf 3 [vi h',vi w,Lu aj b,Li aj cuts] (vb r):=by
 unfold tZ at h;refine bf Tryz.func3 λctr hc=>?_;refine aZ ?_;refine Wo 16 0 (zB) λv h1=>?_;refine Wo 26 0 (LD) λv1 h2=>?_;refine Wi 33 0 h (sK v (sF (sK v1 (sC (sC sB))))) (TW _ _ _) λv2 h5=>?_;refine Wo 36 0 (qB v2 v1 b) λv3 h6=>?_;refine Wod 43 0 h5 ?_;revert h;refine kK 7 [] 0 [] (Wq ?_);intro h;intros;refine bR h (ctr+7) [(13,3),(28,28)] [(12,1)] (λ(at',c') u=>Fa [(13,vi at')] [(12,.box (ctr+5) (cellsOf 92 λj=>(pX aj c' j)))]) (λx uc ug ut ht hu hp h=>?_) (λf h=>?_)
 . obtain⟨_,_⟩:=x;try dsimp only at hp h
   refine aZ ?_;refine Wi 77 0 h (sC sB) (qB _ _ _) λv4 h24=>?_;refine om 81 0 h (sC (sK v4 sB)) (jI _) λv5 h25=>?_;refine uh 83 0 v (jI v4) fJ λv6 h26=>?_;refine uh 84 0 v (qC v5 v6) false λv7 h27=>?_;refine uh 88 0 (if v=true then v7 else false) (qD v3) false λv8 h28=>?_;refine Wk [] 0 [] Wz
 revert h;refine bT 1 [] 0 [] (Wq ?_);intro h;intros;refine Tr.block ?_;refine gy h (ctr+8) [(13,3),(28,28)] [(12,1)] (λ(kg,i,EW) u1=>Fa [(13,vi kg),(14,vi i)] [(12,.box (ctr+5) (cellsOf 92 λj=>(pX aj EW j)))]) dN (λx dQ iN iG f ht hu hp h=>?_);obtain⟨_,_,_⟩:=x;try dsimp only at hp h
 refine aZ ?_;refine Wi 68 0 h (sT (sC (sC (sC (sC sB))))) (qB _ _ _) λv9 h47=>?_;refine Wk [] 0 [] Wz
end Go.Vx
