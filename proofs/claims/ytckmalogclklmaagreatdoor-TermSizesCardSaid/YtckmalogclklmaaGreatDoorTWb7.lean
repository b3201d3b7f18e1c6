/- Walks, by program (lift5.py): the code does what the lifted functions say. -/
import Derived.Test.YtckmalogclklmaaGreatDoorTHead
import Derived.Test.YtckmalogclklmaaGreatDoorTWb1
import Derived.Test.YtckmalogclklmaaGreatDoorTWb2
import Derived.Test.YtckmalogclklmaaGreatDoorTWb3
import Derived.Test.YtckmalogclklmaaGreatDoorTWb4
import Derived.Test.YtckmalogclklmaaGreatDoorTDg
import Derived.Test.YtckmalogclklmaaGreatDoorTSd
import Derived.Test.YtckmalogclklmaaGreatDoorTCh
set_option linter.all false
namespace Go.Vx
open Go.Proofs
set_option maxRecDepth 100000
set_option maxHeartbeats 8000000
set_option linter.unusedVariables false
set_option linter.unusedSimpArgs false
attribute [local irreducible] chk ay av aM lI

theorem Xk c' r (h:JB c'=some r):Pf 135 [vi c'] (oO aj r):=by
  unfold JB at h
  refine bC Tryz.func135 fun ctr hc=>?_
  refine bB ?_
  refine Wo 4 0 (DT c' 200) fun v h1=>?_
  refine Wk [] 0 [] Wz

theorem NQ m r (h:wU m=some r):Pf 40 [Ed aj m] (vb r):=by
  obtain ⟨_⟩:=m
  unfold wU at h
  try dsimp only at h
  refine bC Tryz.func40 fun ctr hc=>?_
  refine bB ?_
  refine Wi 14 0 h (sF sB) (IX _) fun v h1=>?_
  refine mR 19 0 h (sF (sK v sB)) (IX _) fun v1 h2=>?_
  refine Wk [] 0 [] Wz

theorem sI m eT n r (h:sS m eT n=some r):Pf 32 [Ed aj m,vb eT,vi n] (vb r):=by
  obtain ⟨q⟩:=m
  unfold sS at h
  try dsimp only at h
  refine bC Tryz.func32 fun ctr hc=>?_
  refine bB ?_
  refine Wi 10 0 h sB (Xh _ _) fun v h1=>?_
  refine Wo 12 0 (NQ ⟨q⟩) fun v1 h2=>?_
  refine Wk [] 0 [] Wz

theorem Tj p' r (h:BS p'=some r):Pf 77 [zm aj p'] (vb r):=by
  obtain ⟨q,q1,_⟩:=p'
  unfold BS at h
  try dsimp only at h
  refine bC Tryz.func77 fun ctr hc=>?_
  refine bB ?_
  refine Wo 5 0 (IY q) fun v h1=>?_
  refine IK 9 0 v (IY q1) false fun v1 h2=>?_
  refine Wk [] 0 [] Wz

theorem I5 s r (h:rY s=some r):Pf 78 [vC aj s] (vb r):=by
  obtain ⟨⟨q,q1,q2,q3⟩,q4,q5,_⟩:=s
  unfold rY at h
  try dsimp only at h
  refine bC Tryz.func78 fun ctr hc=>?_
  revert h;refine bE 1 [] 0 [] (Wq ?_);intro h;intros
  refine bq h (ctr+1) [(2,1),(1,10)] [] (fun _ u=>Fa [] []) (fun x uc ug ut ht hu hp h=>?_) (fun f h=>?_)
  · refine bB ?_
    refine Wo 16 0 (DU q4) fun v h9=>?_
    refine IK 20 0 v (DU q5) false fun v1 h10=>?_
    refine mR 29 0 h (sK v (sK v1 sB)) (QC _) fun v2 h11=>?_
    refine Wk [] 0 [] Wz
  · revert h;refine bE 1 [] 0 [] (Wq ?_);intro h;intros
    refine Tr.block ?_
    refine Tr.rounds 5 ?_
    refine iO h (ctr+2) [(2,1),(1,1),(2,7)] [] (fun _ u1=>Fa [(7,vi 1)] []) (fun x cu fJ fE ht hu hp h=>?_) (fun f h=>?_)
    · refine iO h cu [(2,1),(1,1),(2,7)] [] (fun _ u2=>Fa [(7,vi 2)] []) (fun x jB ny mF ht hu hp h=>?_) (fun f h=>?_)
      · refine iO h jB [(2,1),(1,1),(2,7)] [] (fun _ u3=>Fa [(7,vi 3)] []) (fun x nA vN vo ht hu hp h=>?_) (fun f h=>?_)
        · refine iO h nA [(2,1),(1,1),(2,7)] [] (fun _ u4=>Fa [(7,vi 4)] []) (fun x sw EM DR ht hu hp h=>?_) (fun f h=>?_)
          · refine Wx [] 0 [] Wz
          · refine bB ?_
            refine Wo 11 0 (uo q3) fun v3 h20=>?_
            refine Wk [] 0 [] Wz
        · refine bB ?_
          refine Wo 11 0 (uo q2) fun v4 h22=>?_
          refine Wk [] 0 [] Wz
      · refine bB ?_
        refine Wo 11 0 (uo q1) fun v5 Ye=>?_
        refine Wk [] 0 [] Wz
    · refine bB ?_
      refine Wo 11 0 (uo q) fun v6 h26=>?_
      refine Wk [] 0 [] Wz

theorem sD c' r' r (h:mW c' r'=some r):Pf 42 [kG aj c',jg aj r'] (vb r):=by
  obtain ⟨_,_,_,_,⟨q4,q5,q6⟩,⟨⟨q7,q8,q9,yw⟩,BD,BF,BG⟩⟩:=c'
  obtain ⟨_,_,_,_⟩:=r'
  unfold mW at h
  try dsimp only at h
  refine bC Tryz.func42 fun ctr hc=>?_
  refine bB ?_
  refine Wi 6 0 h sB (Uy _) fun v h1=>?_
  refine mR 48 0 h (sK v (sF (sC sB))) (Uw _ _) fun v1 h3=>?_
  refine Wo 54 0 (Tj ⟨q4,q5,q6⟩) fun v2 h4=>?_
  refine IK 58 0 v2 (I5 ⟨⟨q7,q8,q9,yw⟩,BD,BF,BG⟩) false fun v3 h5=>?_
  refine Wk [] 0 [] Wz

theorem Tm c' r (h:BU c'=some r):Pf 170 [zX aj c'] (vb r):=by
  obtain ⟨_,⟨_,_⟩,_,⟨_,_,_⟩⟩:=c'
  unfold BU at h
  try dsimp only at h
  refine bC Tryz.func170 fun ctr hc=>?_
  revert h;refine bE 1 [] 0 [] (Wq ?_);intro h;intros
  refine bq h (ctr+1) [(2,1),(1,22)] [] (fun _ u=>Fa [] []) (fun x uc ug ut ht hu hp h=>?_) (fun f h=>?_)
  · refine bB ?_
    refine mR 49 0 h sB (Tj _) fun v h3=>?_
    refine Wk [] 0 [] Wz
  · revert h;refine bE 1 [] 0 [] (Wq ?_);intro h;intros
    refine Tr.block ?_
    refine Tr.rounds 3 ?_
    refine iO h (ctr+2) [(2,1),(1,1),(2,19)] [] (fun _ u1=>Fa [(7,vi 1)] []) (fun x cu fJ fE ht hu hp h=>?_) (fun f h=>?_)
    · refine iO h cu [(2,1),(1,1),(2,19)] [] (fun _ u2=>Fa [(7,vi 2)] []) (fun x jB ny mF ht hu hp h=>?_) (fun f h=>?_)
      · refine Wx [] 0 [] Wz
      · refine Wx [] 0 [] Wz
    · refine Wx [] 0 [] Wz

theorem Xt s r' r (h:JD s r'=some r):Pf 138 [vC aj s,vi r'] (.gX 2 (fun j=>match j with | 0=>(vC aj r.1) | 1=>(vi r.2) | _=>.junk)):=by
  obtain ⟨⟨_,_,_,_⟩,_,_,_⟩:=s
  unfold JD at h
  try dsimp only at h
  refine bC Tryz.func138 fun ctr hc=>?_
  refine bB ?_
  refine Wi 8 0 h sB (I5 _) fun v h1=>?_
  refine Wi 45 0 h (sK v (sF (sF (sT (sC sB))))) (YK _ _) fun v1 h3=>?_
  refine Wk [42] 0 [] Wz

theorem ZQ d' r' r (h:OM d' r'=some r):Pf 188 [dZ aj d',vi r'] (vi r):=by
  unfold OM at h
  refine bC Tryz.func188 fun ctr hc=>?_
  refine bB ?_
  refine Wi 9 0 h sB (EB _ _) fun v h1=>?_
  refine Wk [] 0 [] Wz

theorem ac2 v a0 r (h:RB v a0=some r):Pf (aj.fF v) ([vi a0]++cellsOf (aj.fK v) (aj.fC v)) (vb r):=by
  unfold RB at h
  split at h
  · exact Ux a0 _ r h
  · cases h

theorem Xm s keep r (h:yg s keep=some r):Pf 131 [vO aj s,(.fn (.func (aj.fF keep)) (aj.fK keep) (aj.fC keep))] (Ui aj r):=by
  obtain ⟨q,_⟩:=s
  unfold yg at h
  try dsimp only at h
  refine bC Tryz.func131 fun ctr hc=>?_
  revert h;refine bE 2 [] 0 [] (Wq ?_);intro h;intros
  refine bq h (ctr+2) [(5,1),(1,16)] [(21,1)] (fun l' u=>Fa [(5,.vec 21 (u.g 21) 1 0 (aj.len l'))] [(21,Ri aj (u.g 21) (aj.len l') (u.t 21) l')]) (fun l' uc ug ut ht hu hp h=>?_) (fun f h=>?_)
  · refine Wx [] 0 [] Wz
  · revert h;refine bE 1 [] 0 [] (Wq ?_);intro h;intros
    refine Tr.block ?_
    refine dO h (ctr+3) [(5,1),(1,1),(3,12)] [(21,1)] (fun (v,gG) u1=>Fa [(5,.vec 21 (u1.g 21) 1 0 (aj.len gG)),(11,vi v)] [(21,Ri aj (u1.g 21) (aj.len gG) (u1.t 21) gG)]) bW (fun x cu fJ fE f ht hu hp h=>?_)
    obtain ⟨v,_⟩:=x
    try dsimp only at hp h
    refine bB ?_
    refine Wov 17 (ac2 keep (au 0 q v)) fun v1 h22=>?_
    refine Wk [20] 0 [] Wz

theorem Xj l' r' base seq r (h:JH l' r' base seq=some r):Pf 355 [Li aj l',Di aj r',vi base,Li aj seq] (.gX 2 (fun j=>match j with | 0=>(vi r.1) | 1=>(vi r.2) | _=>.junk)):=by
  obtain ⟨_,_,_⟩:=r'
  unfold JH at h
  try dsimp only at h
  refine bC Tryz.func355 fun ctr hc=>?_
  refine bB ?_
  refine Wi 21 0 h sB (NR _ _) fun v h1=>?_
  revert h;refine jI 2 [] 0 [] (Wq ?_);intro h;intros
  refine bq h (ctr+2) [(8,2),(1,1),(16,15)] [] (fun _ u=>Fa [] []) (fun x uc ug ut ht hu hp h=>?_) (fun f h=>?_)
  · refine bB ?_
    refine Wo 53 0 (IZ base) fun v1 h9=>?_
    refine Wod 55 0 h9 ?_
    revert h;refine jI 2 [] 0 [] (Wq ?_);intro h;intros
    refine bq h (uc+2) [(14,1),(1,1),(39,17)] [] (fun _ u1=>Fa [(14,vi v1)] []) (fun x cu fJ fE ht hu hp h=>?_) (fun f h=>?_)
    · refine bq h cu [(15,1),(1,1),(55,35)] [] (fun _ u2=>Fa [(15,vi v1)] []) (fun x jB ny mF ht hu hp h=>?_) (fun f h=>?_)
      · refine bB ?_
        refine Wi 116 0 h (sC sB) (YM _) fun v2 h17=>?_
        refine Wod 120 0 h17 ?_
        refine Wk [] 0 [] Wz
      · refine bB ?_
        refine Wi 77 0 h (sC sB) (G8 _) fun v3 h19=>?_
        refine IK 81 0 (!(!v3)) (CJ l') [] fun v4 h20=>?_
        revert h;refine jI 1 [] 0 [] (Wq ?_);intro h;intros
        refine yP h rfl (fun _ h=>?_) (fun _ h=>?_)
        · revert h;refine bE 1 [] 0 [] (Wq ?_);intro h;intros
          refine Tr.block ?_
          refine dO h (cu+2) [(15,1),(1,1),(73,17)] [] (fun _ u3=>Fa [(15,vi v1),(17,vi ((std Tryz.prog).add (aj.get 0 seq ((std Tryz.prog).sub (aj.len seq) 1)) 1))] []) bW (fun x nA vN vo f ht hu hp h=>?_)
          refine Wx [] 0 [] Wz
        · refine Wx [] 0 [] Wz
    · revert h;refine bE 1 [] 0 [] (Wq ?_);intro h;intros
      refine Tr.block ?_
      refine dO h (uc+3) [(14,1),(1,1),(41,15)] [] (fun _ u4=>Fa [(14,vi v1),(16,vi ((std Tryz.prog).sub (aj.get 0 seq 0) 1))] []) bW (fun x sw EM DR f ht hu hp h=>?_)
      refine Wx [] 0 [] Wz
  · revert h;refine bE 1 [] 0 [] (Wq ?_);intro h;intros
    refine Tr.block ?_
    refine dO h (ctr+3) [(8,2),(1,1),(18,13)] [] (fun v5 u5=>Fa [(30,vi v5)] []) bW (fun v5 GU Pg NK f ht hu hp h=>?_)
    refine Wx [] 0 [] Wz

theorem abj x' r (h:bits_Len x'=some r):Pf 444 [(.v (.int .u64 x'))] (vi r):=by
  unfold bits_Len at h
  refine bC Tryz.func444 fun ctr hc=>?_
  refine bB ?_
  refine Wo 7 0 (YO x') fun v h1=>?_
  refine Wk [] 0 [] Wz

theorem zi data a b limit cmp r (h:mE data a b limit cmp=some r):Pf 443 [tF aj data,vi a,vi b,vi limit,(.fn (.func (aj.fF cmp)) (aj.fK cmp) (aj.fC cmp))] (.gX 0 (fun _=>.junk)):=by
  unfold mE at h
  refine bC Tryz.func443 fun ctr hc=>?_
  revert h;refine bE 2 [] 0 [] (Wq ?_);intro h;intros
  refine Tr.block ?_
  refine dO h (ctr+2) [(1,3),(6,138)] [] (fun _ u=>Fa [(1,vi a),(2,vi b),(3,vi limit),(10,vb true),(11,vb true)] []) bW (fun x uc ug ut f ht hu hp h=>?_)
  refine Tr.block ?_
  refine bB ?_
  refine Wo 30 0 (uW data a b cmp) fun v h4=>?_
  refine Wkp 3 [] 0 [] Wz

theorem wV x' cmp r (h:kV x' cmp=some r):Pf 436 [tF aj x',(.fn (.func (aj.fF cmp)) (aj.fK cmp) (aj.fC cmp))] (.gX 0 (fun _=>.junk)):=by
  unfold kV at h
  refine bC Tryz.func436 fun ctr hc=>?_
  refine bB ?_
  refine Wi 11 0 h sB (abj _) fun v h1=>?_
  refine Wo 13 0 (zi x' 0 (ah x') v cmp) fun v1 h2=>?_
  refine Wk [] 0 [] Wz

theorem Tn d' r' r (h:L8 d' r'=some r):Pf 361 [dZ aj d',vi r'] (vi r):=by
  unfold L8 at h
  refine bC Tryz.func361 fun ctr hc=>?_
  refine bB ?_
  refine Wi 8 0 h sB (EB _ _) fun v h1=>?_
  refine Wk [] 0 [] Wz

theorem uh at' side cap0 LQ cap2 r (h:qp at' side cap0 LQ cap2=some r):Pf 360 [vi at',vi side,.gY 1 1 (fun _ j=>(.mp .i64 .i64 cap0)) 0 0,.gY 6 1 (fun _ j=>(ER aj LQ j)) 0 0,.gY 1 1 (fun _ j=>(Li aj cap2)) 0 0] (vb r):=by
  unfold qp at h
  refine bC Tryz.func360 fun ctr hc=>?_
  refine bB ?_
  refine mR 17 0 h (sC sB) (Tn _ _) fun v h2=>?_
  refine Wk [] 0 [] Wz

theorem Kw d' r' at' r (h:Dq d' r' at'=some r):Pf 271 [dZ aj d',Li aj r',vi at'] (vi r):=by
  unfold Dq at h
  refine bC Tryz.func271 fun ctr hc=>?_
  revert h;refine bE 2 [] 0 [] (Wq ?_);intro h;intros
  refine bq h (ctr+2) [(6,2),(8,16)] [] (fun _ u=>Fa [] []) (fun x uc ug ut ht hu hp h=>?_) (fun f h=>?_)
  · refine Wx [] 0 [] Wz
  · revert h;refine bE 1 [] 0 [] (Wq ?_);intro h;intros
    refine Tr.block ?_
    refine dO h (ctr+3) [(6,2),(10,14)] [] (fun _ u1=>Fa [(7,vi ((std Tryz.prog).add at' 1))] []) bW (fun x cu fJ fE f ht hu hp h=>?_)
    refine bB ?_
    refine Wi 29 0 h (sT (sC sB)) (Tn _ _) fun v h8=>?_
    refine Wk [] 0 [] Wz

theorem A9 s r (h:rA s=some r):Pf 35 [nO aj s] (gJ aj r):=by
  unfold rA at h
  refine bC Tryz.func35 fun ctr hc=>?_
  refine bB ?_
  refine Wo 12 0 (uX s.fC) fun v h1=>?_
  refine Wk [] 0 [] Wz

theorem Kz s r (h:wB s=some r):Pf 14 [oD aj s] (dF aj r):=by
  unfold wB at h
  refine bC Tryz.func14 fun ctr hc=>?_
  refine bB ?_
  refine Wo 5 0 (A9 s.aR) fun v h1=>?_
  refine Wo 8 0 (A9 s.aT) fun v1 h2=>?_
  refine Wo 18 0 (uX s.aK.x0) fun v2 h3=>?_
  refine Wo 22 0 (uX s.aK.x1) fun v3 h4=>?_
  refine Wk [] 0 [] Wz

end Go.Vx
