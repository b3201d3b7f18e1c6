/- Walks, by program (lift5.py): the code does what the lifted functions say. -/
import Derived.Test.YtmpgicplgjmjkaaGreatDoorTWb20
set_option linter.all false
namespace Go.Vx
open Go.Proofs
set_option maxRecDepth 100000
set_option maxHeartbeats 8000000
set_option linter.unusedVariables false
set_option linter.unusedSimpArgs false
attribute [local irreducible] chk aA au aO oH
theorem Oj t' n b r (h:rV t' n b=some r):Pf 5 [oC aj t',vi n,Lu aj b] (vb r):=by
 obtain⟨⟨_⟩,⟨_,_,_,⟨_,_⟩,_,_⟩,⟨⟨⟨_⟩,⟨_,_,_,_,⟨_,_,_⟩,⟨⟨_,_,_,_⟩,_,_,_⟩⟩,⟨_,_,_,_⟩,⟨_,_⟩,⟨_,_⟩,_,_⟩,⟨⟨_⟩,⟨_,_,_,_,⟨_,_,_⟩,⟨⟨_,_,_,_⟩,_,_,_⟩⟩,⟨_,_,_,_⟩,⟨_,_⟩,⟨_,_⟩,_,_⟩,_,⟨_⟩,⟨⟨_,_,_,_,⟨_,_,_⟩,⟨⟨_,_,_,_⟩,_,_,_⟩⟩,⟨_,_,_,_,⟨_,_,_⟩,⟨⟨_,_,_,_⟩,_,_,_⟩⟩⟩,_,_,_⟩,XQ⟩:=t';unfold rV at h;try dsimp only at h
 refine bf Tryz.func5 λctr hc=>?_;refine aZ ?_;refine Wo 13 0 (zB) λv h1=>?_;refine Wi 15 0 h (sK v sB) (Aw _) λv1 h2=>?_;refine om 28 0 h (sK v (sK v1 sB)) (qD _) λv2 h3=>?_;refine Wo 57 0 (LD) λv3 h4=>?_;refine Wo 60 0 (UF v1 n) λv4 h5=>?_;refine Wo 64 0 (qB v4 v3 b) λv5 h6=>?_;refine Wo 68 0 (qB v1 v3 b) λv6 h7=>?_;refine uh 77 0 v (jI ⟨v4.fU,v4.fP,v4.fS,XQ⟩) fJ λv7 h8=>?_;refine om 79 0 h (sK v (sK v1 (sK v2 (sF (sK v3 (sK v4 (sK v5 (sK v6 (sK v7 sB))))))))) (qC _ _) λv8 h9=>?_;refine uh 83 0 (if v=true then v8 else false) (jI ⟨v5.fU,v5.fP,v5.fS,0⟩) fJ λv9 h10=>?_;refine uh 85 0 (if v=true then v8 else false) (jI ⟨v6.fU,v6.fP,v6.fS,0⟩) fJ λv10 h11=>?_;refine uh 86 0 (if v=true then v8 else false) (qC v9 v10) false λv11 h12=>?_;refine uh 90 0 (if (if v=true then v8 else false)=true then v11 else false) (UF v1 0) yG λv12 h13=>?_;obtain⟨⟨_⟩,⟨_,_,_,⟨_,_⟩,_,_⟩,⟨⟨⟨_⟩,⟨_,_,_,_,⟨_,_,_⟩,⟨⟨_,_,_,_⟩,_,_,_⟩⟩,⟨_,_,_,_⟩,⟨_,_⟩,⟨_,_⟩,_,_⟩,⟨⟨_⟩,⟨_,_,_,_,⟨_,_,_⟩,⟨⟨_,_,_,_⟩,_,_,_⟩⟩,⟨_,_,_,_⟩,⟨_,_⟩,⟨_,_⟩,_,_⟩,_,⟨_⟩,⟨⟨_,_,_,_,⟨_,_,_⟩,⟨⟨_,_,_,_⟩,_,_,_⟩⟩,⟨_,_,_,_,⟨_,_,_⟩,⟨⟨_,_,_,_⟩,_,_,_⟩⟩⟩,_,_,_⟩,_⟩:=v12;refine Wk [] 0 [] Wz
end Go.Vx
