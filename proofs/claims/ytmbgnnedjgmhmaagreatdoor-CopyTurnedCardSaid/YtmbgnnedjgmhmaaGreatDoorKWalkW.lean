/- Walks, by program (lift.py). -/
import Derived.Test.YtmbgnnedjgmhmaaGreatDoorKWalk
import Derived.Test.YtmbgnnedjgmhmaaGreatDoorKWalkE
import Derived.Test.YtmbgnnedjgmhmaaGreatDoorKWalkSort
set_option linter.all false
namespace Go.Vx
open Go.Proofs
set_option maxRecDepth 100000
set_option maxHeartbeats 1000000
set_option linter.unusedVariables false
set_option linter.unusedSimpArgs false
attribute [local irreducible] chk Z7 Z8 Zu nilO

theorem weak_classes_ok (d':Za) (r':(List Int)) (r:(List Int)) (h:Z2f d' r'=some r):Ze Tryz.prog 65 [(.agg 6 (fun j=>(Yk nvS d' j))),(.sl 1 (nvS.len r') false (fun ix jx=>(.v (.int .i64 (nvS.get 0 r' ix)))))] (.own 1 (nvS.len r) false (fun ix jx=>(.v (.int .i64 (nvS.get 0 r ix))))):=by
  obtain ⟨⟨d_Class_L⟩,⟨d_Wide_L⟩,⟨d_Join_L⟩,d_Mirror,d_Brackets,d_Forms⟩:=d'
  unfold Z2f at h
  try dsimp only at h
  refine Wfn Tryz.func65 (Zl Tryz.f65) fun ctr hc=>?_
  revert h
  refine Wyp 2 [] 0 [] (Wq ?_)
  intro h
  intros
  refine Zy h (ctr+2) [(6,2),(3,14)] [(10,1)] (fun out u=>⟨[],[(10,.arr (ctr+1) 1 (nvS.len r') (u.t 10) (fun ix jx=>(.v (.int .i64 (nvS.get 0 out ix)))))],fun _=>Z0 out=(Z0 r')⟩) (fun out uc ug ut ht hu hp h=>?_) (fun f h=>?_)
  · try dsimp only at hp h
    refine Wx [] 0 [] Wz
  · revert h
    refine Wyp 1 [] 0 [] (Wq ?_)
    intro h
    intros
    refine Tr.block ?_
    refine Wlp h (ctr+3) [(6,2),(5,12)] [(10,1)] (fun (v,Zb) u1=>⟨[(13,.v (.int .i64 v))],[(10,.arr (ctr+1) 1 (nvS.len r') (u1.t 10) (fun ix jx=>(.v (.int .i64 (nvS.get 0 Zb ix)))))],fun _=>Z0 Zb=(Z0 r')⟩) Yr (fun x u1c u1g u1t f ht hu hp h=>?_)
    obtain ⟨v,Zb⟩:=x
    try dsimp only at hp h
    refine Wo0 ?_
    refine Wo 22 0 (ucd_Class_ok (Za.mk (Z2.mk d_Class_L) (Z2.mk d_Wide_L) (Z2.mk d_Join_L) d_Mirror d_Brackets d_Forms) (Z1 0 r' v)) fun v1 h19=>?_
    refine Wk [] 0 [] Wz

theorem Xd (s:(List Int)) (r:(List Int)) (h:Yb s=some r):Ze Tryz.prog 68 [(.sl 1 (nvS.len s) false (fun ix jx=>(.v (.int .i64 (nvS.get 0 s ix)))))] (.own 1 (nvS.len r) false (fun ix jx=>(.v (.int .i64 (nvS.get 0 r ix))))):=by
  unfold Yb at h
  refine Wfn Tryz.func68 (Zl Tryz.f68) fun ctr hc=>?_
  revert h
  refine Wyp 1 [] 0 [] (Wq ?_)
  intro h
  intros
  refine Wcnil 37 0 3 4 h (ctr+1) [(2,3)] [] (fun _ u=>Fa [] []) (fun x uc ug ut ht hu hp h=>?_) (fun _ f h=>?_) (fun f h=>?_)
  · refine Wx [5,7] 0 [] Wz
  · refine Wx [] 0 [] Wz
  · refine Wx [] 0 [] Wz

theorem weak_pick_ok (l':(List Int)) (seq:(List Int)) (r:(List Int)) (h:Z20 l' seq=some r):Ze Tryz.prog 92 [(.sl 1 (nvS.len l') false (fun ix jx=>(.v (.int .i64 (nvS.get 0 l' ix))))),(.sl 1 (nvS.len seq) false (fun ix jx=>(.v (.int .i64 (nvS.get 0 seq ix)))))] (.own 1 (nvS.len r) false (fun ix jx=>(.v (.int .i64 (nvS.get 0 r ix))))):=by
  unfold Z20 at h
  refine Wfn Tryz.func92 (Zl Tryz.f92) fun ctr hc=>?_
  revert h
  refine Wyp 2 [] 0 [] (Wq ?_)
  intro h
  intros
  refine Zy h (ctr+2) [(6,2),(3,15)] [(10,1)] (fun out u=>⟨[],[(10,.arr (ctr+1) 1 (nvS.len seq) (u.t 10) (fun ix jx=>(.v (.int .i64 (nvS.get 0 out ix)))))],fun _=>Z0 out=(Z0 seq)⟩) (fun out uc ug ut ht hu hp h=>?_) (fun f h=>?_)
  · try dsimp only at hp h
    refine Wx [] 0 [] Wz
  · revert h
    refine Wyp 1 [] 0 [] (Wq ?_)
    intro h
    intros
    refine Tr.block ?_
    refine Wlp h (ctr+3) [(6,2),(5,13)] [(10,1)] (fun (v,Zb) u1=>⟨[(13,.v (.int .i64 v))],[(10,.arr (ctr+1) 1 (nvS.len seq) (u1.t 10) (fun ix jx=>(.v (.int .i64 (nvS.get 0 Zb ix)))))],fun _=>Z0 Zb=(Z0 seq)⟩) Yr (fun x u1c u1g u1t f ht hu hp h=>?_)
    obtain ⟨v,Zb⟩:=x
    try dsimp only at hp h
    refine Wx [] 0 [] Wz

theorem w1_ok (t':Zs) (r:(List Int)) (h:w1 t'=some r) (t'_N:Int) (ht'_N:Z0 t'.fl=t'_N) (tg0:Bool):X3 Tryz.prog 132 [.agg 2 (fun j=>match j with | 0=>.vec 0 0 1 0 t'_N | 1=>.v (.int .i64 t'.fsos) | _=>.junk)] [.arr 0 1 t'_N tg0 (fun ix jx=>(.v (.int .i64 (nvS.get 0 t'.fl ix))))] [.arr 0 1 t'_N tg0 (fun ix jx=>(.v (.int .i64 (nvS.get 0 r ix))))] (.tup 0 (fun _=>.junk)):=by
  obtain rfl:nvS.len t'.fl=t'_N:=ht'_N
  obtain ⟨t_l,t_sos⟩:=t'
  unfold w1 at h
  try dsimp only at h
  refine Wfl Tryz.func132 (Zl Tryz.f132) fun ctr hc=>?_
  revert h
  refine Wyp 3 [] 1 [] (Wq ?_)
  intro h
  intros
  refine Tr.block ?_
  refine Wlp h (ctr+3) [(2,3),(5,24)] [(0,1)] (fun (ahead1,v,o) u=>⟨[(2,.v (.int .i64 ahead1)),(10,.v (.int .i64 v))],[(0,.arr (0) 1 (nvS.len t_l) (tg0) (fun ix jx=>(.v (.int .i64 (nvS.get 0 o ix)))))],fun _=>Z0 o=(Z0 t_l)⟩) Yr (fun x uc ug ut f ht hu hp h=>?_)
  obtain ⟨ahead1,v,o⟩:=x
  try dsimp only at hp h
  revert h
  refine Wyp 2 [] 1 [] (Wq ?_)
  intro h
  intros
  refine Zy h (uc+1) [(2,3),(7,21)] [(0,1)] (fun (ahead2,o1) u1=>⟨[(2,.v (.int .i64 ahead2))],[(0,.arr (0) 1 (nvS.len t_l) (tg0) (fun ix jx=>(.v (.int .i64 (nvS.get 0 o1 ix)))))],fun _=>Z0 o1=(Z0 t_l)⟩) (fun x u1c u1g u1t ht hu hp h=>?_) (fun f h=>?_)
  · obtain ⟨ahead2,o1⟩:=x
    try dsimp only at hp h
    refine Wx [] 1 [] Wz
  · refine Tr.block ?_
    revert h
    refine Wyp 1 [] 1 [] (Wq ?_)
    intro h
    intros
    refine Zy h (uc+2) [(15,7)] [(0,1)] (fun o2 u2=>⟨[],[(0,.arr (0) 1 (nvS.len t_l) (tg0) (fun ix jx=>(.v (.int .i64 (nvS.get 0 o2 ix)))))],fun _=>Z0 o2=(Z0 t_l)⟩) (fun o2 u2c u2g u2t ht hu hp h=>?_) (fun f h=>?_)
    · try dsimp only at hp h
      refine Wx [] 1 [] Wz
    · refine Wx [] 1 [] Wz

theorem w2_ok (t':Zs) (r:(List Int)) (h:w2 t'=some r) (t'_N:Int) (ht'_N:Z0 t'.fl=t'_N) (tg0:Bool):X3 Tryz.prog 133 [.agg 2 (fun j=>match j with | 0=>.vec 0 0 1 0 t'_N | 1=>.v (.int .i64 t'.fsos) | _=>.junk)] [.arr 0 1 t'_N tg0 (fun ix jx=>(.v (.int .i64 (nvS.get 0 t'.fl ix))))] [.arr 0 1 t'_N tg0 (fun ix jx=>(.v (.int .i64 (nvS.get 0 r ix))))] (.tup 0 (fun _=>.junk)):=by
  obtain rfl:nvS.len t'.fl=t'_N:=ht'_N
  obtain ⟨t_l,t_sos⟩:=t'
  unfold w2 at h
  try dsimp only at h
  refine Wfl Tryz.func133 (Zl Tryz.f133) fun ctr hc=>?_
  revert h
  refine Wyp 3 [] 1 [] (Wq ?_)
  intro h
  intros
  refine Tr.block ?_
  refine Wlp h (ctr+3) [(2,3),(5,20)] [(0,1)] (fun (last1,v,o) u=>⟨[(2,.v (.int .i64 last1)),(10,.v (.int .i64 v))],[(0,.arr (0) 1 (nvS.len t_l) (tg0) (fun ix jx=>(.v (.int .i64 (nvS.get 0 o ix)))))],fun _=>Z0 o=(Z0 t_l)⟩) Yr (fun x uc ug ut f ht hu hp h=>?_)
  obtain ⟨last1,v,o⟩:=x
  try dsimp only at hp h
  revert h
  refine Wyp 2 [] 1 [] (Wq ?_)
  intro h
  intros
  refine Zy h (uc+1) [(2,3),(7,17)] [(0,1)] (fun (last2,o1) u1=>⟨[(2,.v (.int .i64 last2))],[(0,.arr (0) 1 (nvS.len t_l) (tg0) (fun ix jx=>(.v (.int .i64 (nvS.get 0 o1 ix)))))],fun _=>Z0 o1=(Z0 t_l)⟩) (fun x u1c u1g u1t ht hu hp h=>?_) (fun f h=>?_)
  · obtain ⟨last2,o1⟩:=x
    try dsimp only at hp h
    refine Wx [] 1 [] Wz
  · refine Tr.block ?_
    revert h
    refine Wyp 2 [] 1 [] (Wq ?_)
    intro h
    intros
    refine Tr.block ?_
    refine Zy h (uc+3) [(16,4)] [] (fun v1 u2=>Fa [(16,.v (.bool v1))] []) (fun v1 u2c u2g u2t ht hu hp h=>?_) (fun f h=>?_)
    · refine Wx [] 1 [] Wz
    · refine Wx [] 1 [] Wz

theorem w3_ok (t':Zs) (r:(List Int)) (h:w3 t'=some r) (t'_N:Int) (ht'_N:Z0 t'.fl=t'_N) (tg0:Bool):X3 Tryz.prog 134 [.agg 2 (fun j=>match j with | 0=>.vec 0 0 1 0 t'_N | 1=>.v (.int .i64 t'.fsos) | _=>.junk)] [.arr 0 1 t'_N tg0 (fun ix jx=>(.v (.int .i64 (nvS.get 0 t'.fl ix))))] [.arr 0 1 t'_N tg0 (fun ix jx=>(.v (.int .i64 (nvS.get 0 r ix))))] (.tup 0 (fun _=>.junk)):=by
  obtain rfl:nvS.len t'.fl=t'_N:=ht'_N
  obtain ⟨t_l,t_sos⟩:=t'
  unfold w3 at h
  try dsimp only at h
  refine Wfl Tryz.func134 (Zl Tryz.f134) fun ctr hc=>?_
  revert h
  refine Wyp 2 [] 1 [] (Wq ?_)
  intro h
  intros
  refine Tr.block ?_
  refine Wlp h (ctr+2) [(2,2),(3,12)] [(0,1)] (fun (v,o) u=>⟨[(7,.v (.int .i64 v))],[(0,.arr (0) 1 (nvS.len t_l) (tg0) (fun ix jx=>(.v (.int .i64 (nvS.get 0 o ix)))))],fun _=>Z0 o=(Z0 t_l)⟩) Yr (fun x uc ug ut f ht hu hp h=>?_)
  obtain ⟨v,o⟩:=x
  try dsimp only at hp h
  refine Wx [] 1 [] Wz

theorem Z0c (t':Zs) (i:Int) (r:Int) (h:Qa t' i=some r):Ze Tryz.prog 160 [(.agg 2 (fun j=>(Z6v nvS t' j))),(.v (.int .i64 i))] ((.v (.int .i64 r))):=by
  obtain ⟨t_l,t_sos⟩:=t'
  unfold Qa at h
  try dsimp only at h
  refine Wfn Tryz.func160 (Zl Tryz.f160) fun ctr hc=>?_
  refine Wx [] 0 [] Wz

theorem w4_ok (t':Zs) (r:(List Int)) (h:w4 t'=some r) (t'_N:Int) (ht'_N:Z0 t'.fl=t'_N) (tg0:Bool):X3 Tryz.prog 135 [.agg 2 (fun j=>match j with | 0=>.vec 0 0 1 0 t'_N | 1=>.v (.int .i64 t'.fsos) | _=>.junk)] [.arr 0 1 t'_N tg0 (fun ix jx=>(.v (.int .i64 (nvS.get 0 t'.fl ix))))] [.arr 0 1 t'_N tg0 (fun ix jx=>(.v (.int .i64 (nvS.get 0 r ix))))] (.tup 0 (fun _=>.junk)):=by
  obtain rfl:nvS.len t'.fl=t'_N:=ht'_N
  obtain ⟨t_l,t_sos⟩:=t'
  unfold w4 at h
  try dsimp only at h
  refine Wfl Tryz.func135 (Zl Tryz.f135) fun ctr hc=>?_
  revert h
  refine Wyp 2 [] 1 [] (Wq ?_)
  intro h
  intros
  refine Tr.block ?_
  refine Wlp h (ctr+2) [(2,3),(3,39)] [(0,1)] (fun (v,o) u=>⟨[(8,.v (.int .i64 v))],[(0,.arr (0) 1 (nvS.len t_l) (tg0) (fun ix jx=>(.v (.int .i64 (nvS.get 0 o ix)))))],fun _=>Z0 o=(Z0 t_l)⟩) Yr (fun x uc ug ut f ht hu hp h=>?_)
  obtain ⟨v,o⟩:=x
  try dsimp only at hp h
  refine Wo0 ?_
  refine Wo 17 4 (Z0c (Zs.mk o t_sos) (v-1)) fun v1 h21=>?_
  refine Wo 22 4 (Z0c (Zs.mk o t_sos) (v+1)) fun v2 h23=>?_
  refine Wk [] 1 [] Wz

theorem w5_ok (t':Zs) (r:(List Int)) (h:w5 t'=some r) (t'_N:Int) (ht'_N:Z0 t'.fl=t'_N) (tg0:Bool):X3 Tryz.prog 136 [.agg 2 (fun j=>match j with | 0=>.vec 0 0 1 0 t'_N | 1=>.v (.int .i64 t'.fsos) | _=>.junk)] [.arr 0 1 t'_N tg0 (fun ix jx=>(.v (.int .i64 (nvS.get 0 t'.fl ix))))] [.arr 0 1 t'_N tg0 (fun ix jx=>(.v (.int .i64 (nvS.get 0 r ix))))] (.tup 0 (fun _=>.junk)):=by
  obtain rfl:nvS.len t'.fl=t'_N:=ht'_N
  obtain ⟨t_l,t_sos⟩:=t'
  unfold w5 at h
  try dsimp only at h
  refine Wfl Tryz.func136 (Zl Tryz.f136) fun ctr hc=>?_
  revert h
  refine Wyp 2 [] 1 [] (Wq ?_)
  intro h
  intros
  refine Tr.block ?_
  refine Wlp h (ctr+2) [(2,45)] [(0,1)] (fun (i,o) u=>⟨[(2,.v (.int .i64 i))],[(0,.arr (0) 1 (nvS.len t_l) (tg0) (fun ix jx=>(.v (.int .i64 (nvS.get 0 o ix)))))],fun _=>Z0 o=(Z0 t_l)⟩) Yr (fun x uc ug ut f ht hu hp h=>?_)
  obtain ⟨i,o⟩:=x
  try dsimp only at hp h
  revert h
  refine Wyp 1 [] 1 [] (Wq ?_)
  intro h
  intros
  refine Tr.block ?_
  revert h
  refine Wyp 2 [] 1 [] (Wq ?_)
  intro h
  intros
  refine Zy h (uc+3) [(3,1),(15,6)] [] (fun end' u1=>Fa [(3,.v (.int .i64 end'))] []) (fun end' u1c u1g u1t ht hu hp h=>?_) (fun f h=>?_)
  · refine Zy h u1c [(4,1),(20,21)] [(0,1)] (fun o1 u2=>⟨[],[(0,.arr (0) 1 (nvS.len t_l) (tg0) (fun ix jx=>(.v (.int .i64 (nvS.get 0 o1 ix)))))],fun _=>Z0 o1=(Z0 t_l)⟩) (fun o1 u2c u2g u2t ht hu hp h=>?_) (fun f h=>?_)
    · try dsimp only at hp h
      refine Wx [] 1 [] Wz
    · refine Wo0 ?_
      refine Wo 29 4 (Z0c (Zs.mk o t_sos) (i-1)) fun v h41=>?_
      refine Wog 34 4 (!(v == 4)) (Z0c (Zs.mk o t_sos) end') 0 fun v1 h42=>?_
      revert h
      refine Wjp 1 [] 1 [] (Wq ?_)
      intro h
      intros
      refine Wcond h rfl (fun _ h=>?_) (fun _ h=>?_)
      · revert h
        refine Wyp 1 [] 1 [] (Wq ?_)
        intro h
        intros
        refine Tr.block ?_
        refine Wlp h (u1c+2) [(4,1),(32,9)] [(0,1)] (fun (j,o2) u3=>⟨[(4,.v (.int .i64 j))],[(0,.arr (0) 1 (nvS.len t_l) (tg0) (fun ix jx=>(.v (.int .i64 (nvS.get 0 o2 ix)))))],fun _=>Z0 o2=(Z0 t_l)⟩) Yr (fun x u3c u3g u3t f ht hu hp h=>?_)
        obtain ⟨j,o2⟩:=x
        try dsimp only at hp h
        refine Wx [] 1 [] Wz
      · refine Wx [] 1 [] Wz
  · refine Tr.block ?_
    refine Wlp h (uc+3) [(3,1),(15,6)] [] (fun end'1 u4=>Fa [(3,.v (.int .i64 end'1))] []) Yr (fun end'1 u4c u4g u4t f ht hu hp h=>?_)
    refine Wo0 ?_
    refine Wo 22 4 (Z0c (Zs.mk o t_sos) end'1) fun v2 h53=>?_
    refine Wk [] 1 [] Wz

theorem w6_ok (t':Zs) (r:(List Int)) (h:w6 t'=some r) (t'_N:Int) (ht'_N:Z0 t'.fl=t'_N) (tg0:Bool):X3 Tryz.prog 137 [.agg 2 (fun j=>match j with | 0=>.vec 0 0 1 0 t'_N | 1=>.v (.int .i64 t'.fsos) | _=>.junk)] [.arr 0 1 t'_N tg0 (fun ix jx=>(.v (.int .i64 (nvS.get 0 t'.fl ix))))] [.arr 0 1 t'_N tg0 (fun ix jx=>(.v (.int .i64 (nvS.get 0 r ix))))] (.tup 0 (fun _=>.junk)):=by
  obtain rfl:nvS.len t'.fl=t'_N:=ht'_N
  obtain ⟨t_l,t_sos⟩:=t'
  unfold w6 at h
  try dsimp only at h
  refine Wfl Tryz.func137 (Zl Tryz.f137) fun ctr hc=>?_
  revert h
  refine Wyp 2 [] 1 [] (Wq ?_)
  intro h
  intros
  refine Tr.block ?_
  refine Wlp h (ctr+2) [(2,2),(3,15)] [(0,1)] (fun (v,o) u=>⟨[(7,.v (.int .i64 v))],[(0,.arr (0) 1 (nvS.len t_l) (tg0) (fun ix jx=>(.v (.int .i64 (nvS.get 0 o ix)))))],fun _=>Z0 o=(Z0 t_l)⟩) Yr (fun x uc ug ut f ht hu hp h=>?_)
  obtain ⟨v,o⟩:=x
  try dsimp only at hp h
  refine Wx [] 1 [] Wz

theorem w7_ok (t':Zs) (r:(List Int)) (h:w7 t'=some r) (t'_N:Int) (ht'_N:Z0 t'.fl=t'_N) (tg0:Bool):X3 Tryz.prog 138 [.agg 2 (fun j=>match j with | 0=>.vec 0 0 1 0 t'_N | 1=>.v (.int .i64 t'.fsos) | _=>.junk)] [.arr 0 1 t'_N tg0 (fun ix jx=>(.v (.int .i64 (nvS.get 0 t'.fl ix))))] [.arr 0 1 t'_N tg0 (fun ix jx=>(.v (.int .i64 (nvS.get 0 r ix))))] (.tup 0 (fun _=>.junk)):=by
  obtain rfl:nvS.len t'.fl=t'_N:=ht'_N
  obtain ⟨t_l,t_sos⟩:=t'
  unfold w7 at h
  try dsimp only at h
  refine Wfl Tryz.func138 (Zl Tryz.f138) fun ctr hc=>?_
  revert h
  refine Wyp 3 [] 1 [] (Wq ?_)
  intro h
  intros
  refine Tr.block ?_
  refine Wlp h (ctr+3) [(2,3),(5,19)] [(0,1)] (fun (last1,v,o) u=>⟨[(2,.v (.int .i64 last1)),(10,.v (.int .i64 v))],[(0,.arr (0) 1 (nvS.len t_l) (tg0) (fun ix jx=>(.v (.int .i64 (nvS.get 0 o ix)))))],fun _=>Z0 o=(Z0 t_l)⟩) Yr (fun x uc ug ut f ht hu hp h=>?_)
  obtain ⟨last1,v,o⟩:=x
  try dsimp only at hp h
  refine Wx [] 1 [] Wz

theorem weak_Weak_ok (l':(List Int)) (sos:Int) (r:(List Int)) (h:Z1f l' sos=some r):Ze Tryz.prog 95 [(.sl 1 (nvS.len l') false (fun ix jx=>(.v (.int .i64 (nvS.get 0 l' ix))))),(.v (.int .i64 sos))] (.own 1 (nvS.len r) false (fun ix jx=>(.v (.int .i64 (nvS.get 0 r ix))))):=by
  unfold Z1f at h
  refine Wfn Tryz.func95 (Zl Tryz.f95) fun ctr hc=>?_
  refine Wo0 ?_
  refine Wo 10 1 (Xd l') fun v h1=>?_
  revert h
  refine Wjp 3 [13] 0 [] (Wq ?_)
  intro h
  intros
  refine Zy h (ctr+3) [(8,1),(5,10)] [(10,1)] (fun o u=>⟨[],[(10,.arr (ctr+1) 1 (nvS.len v) (u.t 10) (fun ix jx=>(.v (.int .i64 (nvS.get 0 o ix)))))],fun _=>Z0 o=(Z0 v)⟩) (fun o uc ug ut ht hu hp h=>?_) (fun f h=>?_)
  · try dsimp only at hp h
    refine Wx [] 0 [] Wz
  · revert h
    refine Wyp 1 [] 0 [] (Wq ?_)
    intro h
    intros
    refine Tr.block ?_
    refine Tr.rounds 8 ?_
    refine Wrnd h (ctr+4) [(8,1),(7,8)] [(10,1)] (fun o1 u1=>⟨[(16,.v (.int .i64 1))],[(10,.arr (ctr+1) 1 (nvS.len v) (u1.t 10) (fun ix jx=>(.v (.int .i64 (nvS.get 0 o1 ix)))))],fun _=>Z0 o1=(Z0 v)⟩) (fun o1 u1c u1g u1t ht hu hp h=>?_) (fun f h=>?_)
    · try dsimp only at hp h
      refine Wrnd h u1c [(8,1),(7,8)] [(10,1)] (fun o2 u2=>⟨[(16,.v (.int .i64 2))],[(10,.arr (ctr+1) 1 (nvS.len v) (u2.t 10) (fun ix jx=>(.v (.int .i64 (nvS.get 0 o2 ix)))))],fun _=>Z0 o2=(Z0 v)⟩) (fun o2 u2c u2g u2t ht hu hp h=>?_) (fun f h=>?_)
      · try dsimp only at hp h
        refine Wrnd h u2c [(8,1),(7,8)] [(10,1)] (fun o3 u3=>⟨[(16,.v (.int .i64 3))],[(10,.arr (ctr+1) 1 (nvS.len v) (u3.t 10) (fun ix jx=>(.v (.int .i64 (nvS.get 0 o3 ix)))))],fun _=>Z0 o3=(Z0 v)⟩) (fun o3 u3c u3g u3t ht hu hp h=>?_) (fun f h=>?_)
        · try dsimp only at hp h
          refine Wrnd h u3c [(8,1),(7,8)] [(10,1)] (fun o4 u4=>⟨[(16,.v (.int .i64 4))],[(10,.arr (ctr+1) 1 (nvS.len v) (u4.t 10) (fun ix jx=>(.v (.int .i64 (nvS.get 0 o4 ix)))))],fun _=>Z0 o4=(Z0 v)⟩) (fun o4 u4c u4g u4t ht hu hp h=>?_) (fun f h=>?_)
          · try dsimp only at hp h
            refine Wrnd h u4c [(8,1),(7,8)] [(10,1)] (fun o5 u5=>⟨[(16,.v (.int .i64 5))],[(10,.arr (ctr+1) 1 (nvS.len v) (u5.t 10) (fun ix jx=>(.v (.int .i64 (nvS.get 0 o5 ix)))))],fun _=>Z0 o5=(Z0 v)⟩) (fun o5 u5c u5g u5t ht hu hp h=>?_) (fun f h=>?_)
            · try dsimp only at hp h
              refine Wrnd h u5c [(8,1),(7,8)] [(10,1)] (fun o6 u6=>⟨[(16,.v (.int .i64 6))],[(10,.arr (ctr+1) 1 (nvS.len v) (u6.t 10) (fun ix jx=>(.v (.int .i64 (nvS.get 0 o6 ix)))))],fun _=>Z0 o6=(Z0 v)⟩) (fun o6 u6c u6g u6t ht hu hp h=>?_) (fun f h=>?_)
              · try dsimp only at hp h
                refine Wrnd h u6c [(8,1),(7,8)] [(10,1)] (fun o7 u7=>⟨[(16,.v (.int .i64 7))],[(10,.arr (ctr+1) 1 (nvS.len v) (u7.t 10) (fun ix jx=>(.v (.int .i64 (nvS.get 0 o7 ix)))))],fun _=>Z0 o7=(Z0 v)⟩) (fun o7 u7c u7g u7t ht hu hp h=>?_) (fun f h=>?_)
                · try dsimp only at hp h
                  refine Wxp 2 [] 0 [] Wz
                · revert h
                  refine Wyp 2 [] 0 [] (Wq ?_)
                  intro h
                  intros
                  refine Zy h (u6c+1) [(8,1),(9,5)] [(10,1)] (fun o8 u8=>⟨[],[(10,.arr (ctr+1) 1 (nvS.len v) (u8.t 10) (fun ix jx=>(.v (.int .i64 (nvS.get 0 o8 ix)))))],fun _=>Z0 o8=(Z0 v)⟩) (fun o8 u8c u8g u8t ht hu hp h=>?_) (fun f h=>?_)
                  · try dsimp only at hp h
                    refine Wx [] 0 [] Wz
                  · refine Tr.block ?_
                    refine Zy h (u6c+1) [(8,1),(9,2)] [] (fun _ u9=>Fa [(8,.fn (.func 138) 0 (fun _=>.junk))] []) (fun x u9c u9g u9t ht hu hp h=>?_) (fun f h=>?_)
                    · refine Wo0 ?_
                      refine Wol 22 (fun r h=>w7_ok (Zs.mk o6 sos) r h ((nvS.len v)) Wy (u6t 10)) fun v1 h63=>?_
                      refine Wk [] 0 [] Wz
                    · refine Wx [] 0 [] Wz
              · revert h
                refine Wyp 2 [] 0 [] (Wq ?_)
                intro h
                intros
                refine Zy h (u5c+1) [(8,1),(9,5)] [(10,1)] (fun o9 u10=>⟨[],[(10,.arr (ctr+1) 1 (nvS.len v) (u10.t 10) (fun ix jx=>(.v (.int .i64 (nvS.get 0 o9 ix)))))],fun _=>Z0 o9=(Z0 v)⟩) (fun o9 u10c u10g u10t ht hu hp h=>?_) (fun f h=>?_)
                · try dsimp only at hp h
                  refine Wx [] 0 [] Wz
                · refine Tr.block ?_
                  refine Zy h (u5c+1) [(8,1),(9,2)] [] (fun _ u11=>Fa [(8,.fn (.func 137) 0 (fun _=>.junk))] []) (fun x u11c u11g u11t ht hu hp h=>?_) (fun f h=>?_)
                  · refine Wo0 ?_
                    refine Wol 22 (fun r h=>w6_ok (Zs.mk o5 sos) r h ((nvS.len v)) Wy (u5t 10)) fun v2 h71=>?_
                    refine Wk [] 0 [] Wz
                  · refine Wx [] 0 [] Wz
            · revert h
              refine Wyp 2 [] 0 [] (Wq ?_)
              intro h
              intros
              refine Zy h (u4c+1) [(8,1),(9,5)] [(10,1)] (fun o10 u12=>⟨[],[(10,.arr (ctr+1) 1 (nvS.len v) (u12.t 10) (fun ix jx=>(.v (.int .i64 (nvS.get 0 o10 ix)))))],fun _=>Z0 o10=(Z0 v)⟩) (fun o10 u12c u12g u12t ht hu hp h=>?_) (fun f h=>?_)
              · try dsimp only at hp h
                refine Wx [] 0 [] Wz
              · refine Tr.block ?_
                refine Zy h (u4c+1) [(8,1),(9,2)] [] (fun _ u13=>Fa [(8,.fn (.func 136) 0 (fun _=>.junk))] []) (fun x u13c u13g u13t ht hu hp h=>?_) (fun f h=>?_)
                · refine Wo0 ?_
                  refine Wol 22 (fun r h=>w5_ok (Zs.mk o4 sos) r h ((nvS.len v)) Wy (u4t 10)) fun v3 h79=>?_
                  refine Wk [] 0 [] Wz
                · refine Wx [] 0 [] Wz
          · revert h
            refine Wyp 2 [] 0 [] (Wq ?_)
            intro h
            intros
            refine Zy h (u3c+1) [(8,1),(9,5)] [(10,1)] (fun o11 u14=>⟨[],[(10,.arr (ctr+1) 1 (nvS.len v) (u14.t 10) (fun ix jx=>(.v (.int .i64 (nvS.get 0 o11 ix)))))],fun _=>Z0 o11=(Z0 v)⟩) (fun o11 u14c u14g u14t ht hu hp h=>?_) (fun f h=>?_)
            · try dsimp only at hp h
              refine Wx [] 0 [] Wz
            · refine Tr.block ?_
              refine Zy h (u3c+1) [(8,1),(9,2)] [] (fun _ u15=>Fa [(8,.fn (.func 135) 0 (fun _=>.junk))] []) (fun x u15c u15g u15t ht hu hp h=>?_) (fun f h=>?_)
              · refine Wo0 ?_
                refine Wol 22 (fun r h=>w4_ok (Zs.mk o3 sos) r h ((nvS.len v)) Wy (u3t 10)) fun v4 h87=>?_
                refine Wk [] 0 [] Wz
              · refine Wx [] 0 [] Wz
        · revert h
          refine Wyp 2 [] 0 [] (Wq ?_)
          intro h
          intros
          refine Zy h (u2c+1) [(8,1),(9,5)] [(10,1)] (fun o12 u16=>⟨[],[(10,.arr (ctr+1) 1 (nvS.len v) (u16.t 10) (fun ix jx=>(.v (.int .i64 (nvS.get 0 o12 ix)))))],fun _=>Z0 o12=(Z0 v)⟩) (fun o12 u16c u16g u16t ht hu hp h=>?_) (fun f h=>?_)
          · try dsimp only at hp h
            refine Wx [] 0 [] Wz
          · refine Tr.block ?_
            refine Zy h (u2c+1) [(8,1),(9,2)] [] (fun _ u17=>Fa [(8,.fn (.func 134) 0 (fun _=>.junk))] []) (fun x u17c u17g u17t ht hu hp h=>?_) (fun f h=>?_)
            · refine Wo0 ?_
              refine Wol 22 (fun r h=>w3_ok (Zs.mk o2 sos) r h ((nvS.len v)) Wy (u2t 10)) fun v5 h95=>?_
              refine Wk [] 0 [] Wz
            · refine Wx [] 0 [] Wz
      · revert h
        refine Wyp 2 [] 0 [] (Wq ?_)
        intro h
        intros
        refine Zy h (u1c+1) [(8,1),(9,5)] [(10,1)] (fun o13 u18=>⟨[],[(10,.arr (ctr+1) 1 (nvS.len v) (u18.t 10) (fun ix jx=>(.v (.int .i64 (nvS.get 0 o13 ix)))))],fun _=>Z0 o13=(Z0 v)⟩) (fun o13 u18c u18g u18t ht hu hp h=>?_) (fun f h=>?_)
        · try dsimp only at hp h
          refine Wx [] 0 [] Wz
        · refine Tr.block ?_
          refine Zy h (u1c+1) [(8,1),(9,2)] [] (fun _ u19=>Fa [(8,.fn (.func 133) 0 (fun _=>.junk))] []) (fun x u19c u19g u19t ht hu hp h=>?_) (fun f h=>?_)
          · refine Wo0 ?_
            refine Wol 22 (fun r h=>w2_ok (Zs.mk o1 sos) r h ((nvS.len v)) Wy (u1t 10)) fun v6 h103=>?_
            refine Wk [] 0 [] Wz
          · refine Wx [] 0 [] Wz
    · revert h
      refine Wyp 2 [] 0 [] (Wq ?_)
      intro h
      intros
      refine Zy h (ctr+5) [(8,1),(9,5)] [(10,1)] (fun o14 u20=>⟨[],[(10,.arr (ctr+1) 1 (nvS.len v) (u20.t 10) (fun ix jx=>(.v (.int .i64 (nvS.get 0 o14 ix)))))],fun _=>Z0 o14=(Z0 v)⟩) (fun o14 u20c u20g u20t ht hu hp h=>?_) (fun f h=>?_)
      · try dsimp only at hp h
        refine Wx [] 0 [] Wz
      · refine Tr.block ?_
        refine Zy h (ctr+5) [(8,1),(9,2)] [] (fun _ u21=>Fa [(8,.fn (.func 132) 0 (fun _=>.junk))] []) (fun x u21c u21g u21t ht hu hp h=>?_) (fun f h=>?_)
        · refine Wo0 ?_
          refine Wol 22 (fun r h=>w1_ok (Zs.mk v sos) r h ((nvS.len v)) Wy (false)) fun v7 h111=>?_
          refine Wk [] 0 [] Wz
        · refine Wx [] 0 [] Wz

theorem weak_Pairs_ok (d':Za) (r':(List Int)) (l':(List Int)) (r:(List Zx)) (h:Z4r d' r' l'=some r):Ze Tryz.prog 129 [(.agg 6 (fun j=>(Yk nvS d' j))),(.sl 1 (nvS.len r') false (fun ix jx=>(.v (.int .i64 (nvS.get 0 r' ix))))),(.sl 1 (nvS.len l') false (fun ix jx=>(.v (.int .i64 (nvS.get 0 l' ix)))))] (.own 2 (nvS.len r) false (fun ix jx=>(Xk nvS (nvS.get Zz r ix) jx))):=by
  obtain ⟨⟨d_Class_L⟩,⟨d_Wide_L⟩,⟨d_Join_L⟩,d_Mirror,d_Brackets,d_Forms⟩:=d'
  unfold Z4r at h
  try dsimp only at h
  refine Wfn Tryz.func129 (Zl Tryz.f129) fun ctr hc=>?_
  revert h
  refine Wyp 4 [] 0 [] (Wq ?_)
  intro h
  intros
  refine Zy h (ctr+4) [(6,8),(5,59)] [(46,1),(26,1)] (fun out u=>Fa [(8,.vec 73 (u.g 73) 2 0 (nvS.len out))] [(73,.arr (u.g 73) 2 (nvS.len out) (u.t 73) (fun ix jx=>(Xk nvS (nvS.get Zz out ix) jx)))]) (fun out uc ug ut ht hu hp h=>?_) (fun f h=>?_)
  · refine Wo0 ?_
    refine Wol 79 (fun r h=>sortPairs_ok out 0 (Z0 out) r h ((nvS.len out)) Wy (ut 73)) fun v h50=>?_
    refine Wk [] 0 [] Wz
  · revert h
    refine Wyp 1 [] 0 [] (Wq ?_)
    intro h
    intros
    refine Tr.block ?_
    refine Wlp h (ctr+5) [(6,8),(7,57)] [(46,1),(26,1)] (fun (open_off,open_n,v1,open',Zb) u1=>Fa [(7,.vec 46 (u1.g 46) 1 open_off open_n),(8,.vec 73 (u1.g 73) 2 0 (nvS.len Zb)),(21,.v (.int .i64 v1))] [(46,.arr (u1.g 46) 1 (nvS.len open') (u1.t 46) (fun ix jx=>(.v (.int .i64 (nvS.get 0 open' ix))))),(73,.arr (u1.g 73) 2 (nvS.len Zb) (u1.t 73) (fun ix jx=>(Xk nvS (nvS.get Zz Zb ix) jx)))]) Yr (fun x u1c u1g u1t f ht hu hp h=>?_)
    obtain ⟨open_off,open_n,v1,open',Zb⟩:=x
    try dsimp only at hp h
    revert h
    refine Wyp 2 [] 0 [] (Wq ?_)
    intro h
    intros
    refine Zy h (u1c+1) [(6,8),(9,54)] [(46,1),(26,1)] (fun (open_off1,open_n1,open'1,out2) u2=>Fa [(7,.vec 46 (u2.g 46) 1 open_off1 open_n1),(8,.vec 73 (u2.g 73) 2 0 (nvS.len out2))] [(46,.arr (u2.g 46) 1 (nvS.len open'1) (u2.t 46) (fun ix jx=>(.v (.int .i64 (nvS.get 0 open'1 ix))))),(73,.arr (u2.g 73) 2 (nvS.len out2) (u2.t 73) (fun ix jx=>(Xk nvS (nvS.get Zz out2 ix) jx)))]) (fun x u2c u2g u2t ht hu hp h=>?_) (fun f h=>?_)
    · obtain ⟨open_off1,open_n1,open'1,out2⟩:=x
      try dsimp only at hp h
      refine Wx [] 0 [] Wz
    · refine Tr.block ?_
      refine Wo0 ?_
      refine Wo 34 0 (ucd_Bracket_ok (Za.mk (Z2.mk d_Class_L) (Z2.mk d_Wide_L) (Z2.mk d_Join_L) d_Mirror d_Brackets d_Forms) (Z1 0 r' v1)) fun v2 h122=>?_
      obtain ⟨v2_0,v2_1⟩:=v2
      revert h
      refine Wjp 4 [] 0 [] (Wq ?_)
      intro h
      intros
      refine Tr.block ?_
      revert h
      refine Wyp 1 [] 0 [] (Wq ?_)
      intro h
      intros
      refine Wcond h rfl (fun _ h=>?_) (fun _ h=>?_)
      · refine Wx [45] 0 [] Wz
      · revert h
        refine Wyp 1 [] 0 [] (Wq ?_)
        intro h
        intros
        refine Wcond h rfl (fun _ h=>?_) (fun _ h=>?_)
        · revert h
          refine Wyp 1 [] 0 [] (Wq ?_)
          intro h
          intros
          refine Tr.block ?_
          refine Wlp h (u1c+8) [(7,2),(4,1),(38,25)] [(73,1)] (fun n1 u3=>Fa [(7,.vec 46 (u1g 46) 1 open_off open_n),(8,.vec 73 (u1g 73) 2 0 (nvS.len Zb)),(13,.v (.int .i64 n1))] [(73,.arr (u1g 73) 2 (nvS.len Zb) (u3.t 73) (fun ix jx=>(Xk nvS (nvS.get Zz Zb ix) jx)))]) Yr (fun n1 u3c u3g u3t f ht hu hp h=>?_)
          refine Wx [72] 0 [] Wz
        · refine Wx [] 0 [] Wz

theorem Z2r (c':Int) (r:Int) (h:Z0g c'=some r):Ze Tryz.prog 159 [(.v (.int .i64 c'))] ((.v (.int .i64 r))):=by
  unfold Z0g at h
  refine Wfn Tryz.func159 (Zl Tryz.f159) fun ctr hc=>?_
  refine Wx [] 0 [] Wz

theorem Z5q (x':Ys) (p':Zx) (r:Int) (h:Qb x' p'=some r):Ze Tryz.prog 157 [(.agg 7 (fun j=>(Z6w nvS x' j))),(.agg 2 (fun j=>(Xk nvS p' j)))] ((.v (.int .i64 r))):=by
  obtain ⟨x_l,x_was,x_sos,x_eos,x_dir,x_against,x_pairs⟩:=x'
  obtain ⟨p_x0,p_x1⟩:=p'
  unfold Qb at h
  try dsimp only at h
  refine Wfn Tryz.func157 (Zl Tryz.f157) fun ctr hc=>?_
  revert h
  refine Wyp 2 [] 0 [] (Wq ?_)
  intro h
  intros
  refine Zy h (ctr+2) [(4,2),(1,1),(3,26)] [] (fun found u=>Fa [(5,.v (.bool found))] []) (fun found uc ug ut ht hu hp h=>?_) (fun f h=>?_)
  · revert h
    refine Wyp 2 [] 0 [] (Wq ?_)
    intro h
    intros
    refine Zy h (uc+2) [(8,3),(30,16)] [] (fun last1 u1=>Fa [(8,.v (.int .i64 last1))] []) (fun last1 u1c u1g u1t ht hu hp h=>?_) (fun f h=>?_)
    · refine Wx [] 0 [] Wz
    · revert h
      refine Wyp 1 [] 0 [] (Wq ?_)
      intro h
      intros
      refine Tr.block ?_
      refine Wlp h (uc+3) [(8,3),(33,13)] [] (fun i1 u2=>Fa [(8,.v (.int .i64 x_sos)),(9,.v (.int .i64 i1))] []) Yr (fun i1 u2c u2g u2t f ht hu hp h=>?_)
      refine Wo0 ?_
      refine Wo 53 0 (Z2r (Z1 0 x_l i1)) fun v h26=>?_
      refine Wk [] 0 [] Wz
  · revert h
    refine Wyp 1 [] 0 [] (Wq ?_)
    intro h
    intros
    refine Tr.block ?_
    refine Wlp h (ctr+3) [(4,2),(1,1),(10,1),(1,17)] [] (fun (found1,v1) u3=>Fa [(5,.v (.bool found1)),(18,.sl 1 (nvS.len (nvS.sub x_l ((std Tryz.prog).add p_x0 1) p_x1)) false (fun ix jx=>(.v (.int .i64 (nvS.get 0 (nvS.sub x_l ((std Tryz.prog).add p_x0 1) p_x1) ix))))),(20,.v (.int .i64 v1))] []) Yr (fun x u3c u3g u3t f ht hu hp h=>?_)
    obtain ⟨found1,v1⟩:=x
    try dsimp only at hp h
    refine Wo0 ?_
    refine Wo 25 0 (Z2r (Z1 0 (Xx x_l (p_x0+1) p_x1) v1)) fun v2 h39=>?_
    refine Wk [] 0 [] Wz

theorem n0_ok (x':Ys) (r:(List Int)) (h:n0 x'=some r) (x'_N:Int) (hx'_N:Z0 x'.fl=x'_N) (tg0:Bool):X3 Tryz.prog 130 [.agg 7 (fun j=>match j with | 0=>.vec 0 0 1 0 x'_N | 1=>.sl 1 (nvS.len x'.fwas) false (fun ix jx=>(.v (.int .i64 (nvS.get 0 x'.fwas ix)))) | 2=>.v (.int .i64 x'.fsos) | 3=>.v (.int .i64 x'.feos) | 4=>.v (.int .i64 x'.fdir) | 5=>.v (.int .i64 x'.fagainst) | 6=>.sl 2 (nvS.len x'.fpairs) false (fun ix jx=>(Xk nvS (nvS.get Zz x'.fpairs ix) jx)) | _=>.junk)] [.arr 0 1 x'_N tg0 (fun ix jx=>(.v (.int .i64 (nvS.get 0 x'.fl ix))))] [.arr 0 1 x'_N tg0 (fun ix jx=>(.v (.int .i64 (nvS.get 0 r ix))))] (.tup 0 (fun _=>.junk)):=by
  obtain rfl:nvS.len x'.fl=x'_N:=hx'_N
  obtain ⟨x_l,x_was,x_sos,x_eos,x_dir,x_against,x_pairs⟩:=x'
  unfold n0 at h
  try dsimp only at h
  refine Wfl Tryz.func130 (Zl Tryz.f130) fun ctr hc=>?_
  revert h
  refine Wyp 2 [] 1 [] (Wq ?_)
  intro h
  intros
  refine Tr.block ?_
  refine Wlp h (ctr+2) [(3,2),(1,2),(3,42)] [(0,1)] (fun (v,o) u=>⟨[(11,.v (.int .i64 v))],[(0,.arr (0) 1 (nvS.len x_l) (tg0) (fun ix jx=>(.v (.int .i64 (nvS.get 0 o ix)))))],fun _=>Z0 o=(Z0 x_l)⟩) Yr (fun x uc ug ut f ht hu hp h=>?_)
  obtain ⟨v,o⟩:=x
  try dsimp only at hp h
  revert h
  refine Wyp 2 [] 1 [] (Wq ?_)
  intro h
  intros
  refine Zy h (uc+1) [(3,2),(1,2),(5,39)] [(0,1),(3,1)] (fun o1 u1=>⟨[],[(0,.arr (0) 1 (nvS.len x_l) (tg0) (fun ix jx=>(.v (.int .i64 (nvS.get 0 o1 ix)))))],fun _=>Z0 o1=(Z0 x_l)⟩) (fun o1 u1c u1g u1t ht hu hp h=>?_) (fun f h=>?_)
  · try dsimp only at hp h
    refine Wx [] 1 [] Wz
  · refine Tr.block ?_
    refine Wo0 ?_
    refine Wo 18 4 (Z5q (Ys.mk o x_was x_sos x_eos x_dir x_against x_pairs) (Z1 Zz x_pairs v)) fun v1 h65=>?_
    revert h
    refine Wjp 4 [] 1 [] (Wq ?_)
    intro h
    intros
    refine Tr.block ?_
    refine Tr.rounds 3 ?_
    refine Wrnd h (uc+5) [(6,2),(13,31)] [(0,1)] (fun o2 u2=>⟨[(21,.v (.int .i64 1))],[(0,.arr (0) 1 (nvS.len x_l) (tg0) (fun ix jx=>(.v (.int .i64 (nvS.get 0 o2 ix)))))],fun _=>Z0 o2=(Z0 x_l)⟩) (fun o2 u2c u2g u2t ht hu hp h=>?_) (fun f h=>?_)
    · try dsimp only at hp h
      refine Wrnd h u2c [(6,2),(13,31)] [(0,1)] (fun o3 u3=>⟨[(21,.v (.int .i64 2))],[(0,.arr (0) 1 (nvS.len x_l) (tg0) (fun ix jx=>(.v (.int .i64 (nvS.get 0 o3 ix)))))],fun _=>Z0 o3=(Z0 x_l)⟩) (fun o3 u3c u3g u3t ht hu hp h=>?_) (fun f h=>?_)
      · try dsimp only at hp h
        refine Wxp 2 [] 1 [] Wz
      · revert h
        refine Wyp 2 [] 1 [] (Wq ?_)
        intro h
        intros
        refine Zy h (u2c+1) [(6,2),(15,28)] [(0,1)] (fun o4 u4=>⟨[],[(0,.arr (0) 1 (nvS.len x_l) (tg0) (fun ix jx=>(.v (.int .i64 (nvS.get 0 o4 ix)))))],fun _=>Z0 o4=(Z0 x_l)⟩) (fun o4 u4c u4g u4t ht hu hp h=>?_) (fun f h=>?_)
        · try dsimp only at hp h
          refine Wx [] 1 [] Wz
        · refine Tr.block ?_
          revert h
          refine Wyp 3 [] 1 [] (Wq ?_)
          intro h
          intros
          refine Tr.block ?_
          refine Wlp h (u2c+4) [(7,1),(23,20)] [(0,1)] (fun (j1,o5) u5=>⟨[(7,.v (.int .i64 j1))],[(0,.arr (0) 1 (nvS.len x_l) (tg0) (fun ix jx=>(.v (.int .i64 (nvS.get 0 o5 ix)))))],fun _=>Z0 o5=(Z0 x_l)⟩) Yr (fun x u5c u5g u5t f ht hu hp h=>?_)
          obtain ⟨j1,o5⟩:=x
          try dsimp only at hp h
          refine Wx [] 1 [] Wz
    · revert h
      refine Wyp 2 [] 1 [] (Wq ?_)
      intro h
      intros
      refine Zy h (uc+6) [(6,2),(15,28)] [(0,1)] (fun o6 u6=>⟨[],[(0,.arr (0) 1 (nvS.len x_l) (tg0) (fun ix jx=>(.v (.int .i64 (nvS.get 0 o6 ix)))))],fun _=>Z0 o6=(Z0 x_l)⟩) (fun o6 u6c u6g u6t ht hu hp h=>?_) (fun f h=>?_)
      · try dsimp only at hp h
        refine Wx [] 1 [] Wz
      · refine Tr.block ?_
        revert h
        refine Wyp 3 [] 1 [] (Wq ?_)
        intro h
        intros
        refine Tr.block ?_
        refine Wlp h (uc+9) [(7,1),(23,20)] [(0,1)] (fun (j4,o7) u7=>⟨[(7,.v (.int .i64 j4))],[(0,.arr (0) 1 (nvS.len x_l) (tg0) (fun ix jx=>(.v (.int .i64 (nvS.get 0 o7 ix)))))],fun _=>Z0 o7=(Z0 x_l)⟩) Yr (fun x u7c u7g u7t f ht hu hp h=>?_)
        obtain ⟨j4,o7⟩:=x
        try dsimp only at hp h
        refine Wx [] 1 [] Wz

theorem Z6o (c':Int) (r:Bool) (h:Z1g c'=some r):Ze Tryz.prog 158 [(.v (.int .i64 c'))] ((.v (.bool r))):=by
  unfold Z1g at h
  refine Wfn Tryz.func158 (Zl Tryz.f158) fun ctr hc=>?_
  revert h
  refine Wyp 1 [] 0 [] (Wq ?_)
  intro h
  intros
  refine Zy h (ctr+1) [(2,11)] [] (fun _ u=>Fa [] []) (fun x uc ug ut ht hu hp h=>?_) (fun f h=>?_)
  · refine Wx [] 0 [] Wz
  · revert h
    refine Wyp 1 [] 0 [] (Wq ?_)
    intro h
    intros
    refine Tr.block ?_
    refine Zy h (ctr+2) [(4,9)] [] (fun v u1=>Fa [(4,.v (.bool v))] []) (fun v u1c u1g u1t ht hu hp h=>?_) (fun f h=>?_)
    · refine Wx [] 0 [] Wz
    · refine Wx [] 0 [] Wz

theorem n12_ok (x':Ys) (r:(List Int)) (h:n12 x'=some r) (x'_N:Int) (hx'_N:Z0 x'.fl=x'_N) (tg0:Bool):X3 Tryz.prog 131 [.agg 7 (fun j=>match j with | 0=>.vec 0 0 1 0 x'_N | 1=>.sl 1 (nvS.len x'.fwas) false (fun ix jx=>(.v (.int .i64 (nvS.get 0 x'.fwas ix)))) | 2=>.v (.int .i64 x'.fsos) | 3=>.v (.int .i64 x'.feos) | 4=>.v (.int .i64 x'.fdir) | 5=>.v (.int .i64 x'.fagainst) | 6=>.sl 2 (nvS.len x'.fpairs) false (fun ix jx=>(Xk nvS (nvS.get Zz x'.fpairs ix) jx)) | _=>.junk)] [.arr 0 1 x'_N tg0 (fun ix jx=>(.v (.int .i64 (nvS.get 0 x'.fl ix))))] [.arr 0 1 x'_N tg0 (fun ix jx=>(.v (.int .i64 (nvS.get 0 r ix))))] (.tup 0 (fun _=>.junk)):=by
  obtain rfl:nvS.len x'.fl=x'_N:=hx'_N
  obtain ⟨x_l,x_was,x_sos,x_eos,x_dir,x_against,x_pairs⟩:=x'
  unfold n12 at h
  try dsimp only at h
  refine Wfl Tryz.func131 (Zl Tryz.f131) fun ctr hc=>?_
  revert h
  refine Wyp 2 [] 1 [] (Wq ?_)
  intro h
  intros
  refine Tr.block ?_
  refine Wlp h (ctr+2) [(2,79)] [(0,1)] (fun (i,o) u=>⟨[(2,.v (.int .i64 i))],[(0,.arr (0) 1 (nvS.len x_l) (tg0) (fun ix jx=>(.v (.int .i64 (nvS.get 0 o ix)))))],fun _=>Z0 o=(Z0 x_l)⟩) Yr (fun x uc ug ut f ht hu hp h=>?_)
  obtain ⟨i,o⟩:=x
  try dsimp only at hp h
  revert h
  refine Wyp 1 [] 1 [] (Wq ?_)
  intro h
  intros
  refine Tr.block ?_
  refine Wo0 ?_
  refine Wo 18 0 (Z6o (Z1 0 o (0+i))) fun v h38=>?_
  revert h
  refine Wjp 2 [] 1 [] (Wq ?_)
  intro h
  intros
  refine Zy h (uc+3) [(3,1),(18,15)] [] (fun end' u1=>Fa [(3,.v (.int .i64 end'))] []) (fun end' u1c u1g u1t ht hu hp h=>?_) (fun f h=>?_)
  · revert h
    refine Wyp 1 [] 1 [] (Wq ?_)
    intro h
    intros
    refine Zy h (u1c+1) [(4,1),(36,9)] [] (fun ahead1 u2=>Fa [(4,.v (.int .i64 ahead1))] []) (fun ahead1 u2c u2g u2t ht hu hp h=>?_) (fun f h=>?_)
    · refine Zy h u2c [(5,1),(44,11)] [] (fun behind1 u3=>Fa [(5,.v (.int .i64 behind1))] []) (fun behind1 u3c u3g u3t ht hu hp h=>?_) (fun f h=>?_)
      · revert h
        refine Wyp 1 [] 1 [] (Wq ?_)
        intro h
        intros
        refine Zy h (u3c+1) [(6,1),(56,8)] [] (fun c'1 u4=>Fa [(6,.v (.int .i64 c'1))] []) (fun c'1 u4c u4g u4t ht hu hp h=>?_) (fun f h=>?_)
        · refine Tr.block ?_
          refine Wlp h u4c [(2,1),(68,10)] [(0,1)] (fun (i2,o1) u5=>⟨[(2,.v (.int .i64 i2))],[(0,.arr (0) 1 (nvS.len x_l) (tg0) (fun ix jx=>(.v (.int .i64 (nvS.get 0 o1 ix)))))],fun _=>Z0 o1=(Z0 x_l)⟩) Yr (fun x u5c u5g u5t f ht hu hp h=>?_)
          obtain ⟨i2,o1⟩:=x
          try dsimp only at hp h
          refine Wx [] 1 [] Wz
        · refine Wx [] 1 [] Wz
      · refine Wo0 ?_
        refine Wo 61 0 (Z2r (Z1 0 o (0+end'))) fun v1 h58=>?_
        refine Wk [] 1 [] Wz
    · refine Wo0 ?_
      refine Wo 50 0 (Z2r (Z1 0 o (0+(i-1)))) fun v2 h61=>?_
      refine Wk [] 1 [] Wz
  · refine Tr.block ?_
    refine Wlp h (uc+3) [(3,1),(18,15)] [] (fun end'1 u6=>Fa [(3,.v (.int .i64 end'1))] []) Yr (fun end'1 u6c u6g u6t f ht hu hp h=>?_)
    refine Wo0 ?_
    refine Wog 34 0 (decide (end'1 < (Z0 x_l))) (Z6o (Z1 0 o (0+end'1))) false fun v3 h69=>?_
    refine Wk [] 1 [] Wz

theorem weak_Neutral_ok (d':Za) (r':(List Int)) (was:(List Int)) (l':(List Int)) (level:Int) (sos:Int) (eos:Int) (r:(List Int)) (h:Z1h d' r' was l' level sos eos=some r):Ze Tryz.prog 94 [(.agg 6 (fun j=>(Yk nvS d' j))),(.sl 1 (nvS.len r') false (fun ix jx=>(.v (.int .i64 (nvS.get 0 r' ix))))),(.sl 1 (nvS.len was) false (fun ix jx=>(.v (.int .i64 (nvS.get 0 was ix))))),(.sl 1 (nvS.len l') false (fun ix jx=>(.v (.int .i64 (nvS.get 0 l' ix))))),(.v (.int .i64 level)),(.v (.int .i64 sos)),(.v (.int .i64 eos))] (.own 1 (nvS.len r) false (fun ix jx=>(.v (.int .i64 (nvS.get 0 r ix))))):=by
  obtain ⟨⟨d_Class_L⟩,⟨d_Wide_L⟩,⟨d_Join_L⟩,d_Mirror,d_Brackets,d_Forms⟩:=d'
  unfold Z1h at h
  try dsimp only at h
  refine Wfn Tryz.func94 (Zl Tryz.f94) fun ctr hc=>?_
  refine Wo0 ?_
  refine Wo 20 1 (Xd l') fun v h1=>?_
  refine Wo 41 0 (weak_Pairs_ok (Za.mk (Z2.mk d_Class_L) (Z2.mk d_Wide_L) (Z2.mk d_Join_L) d_Mirror d_Brackets d_Forms) r' l') fun v1 h2=>?_
  revert h
  refine Wjp 4 [] 0 [] (Wq ?_)
  intro h
  intros
  refine Zy h (ctr+4) [(43,5)] [(16,1)] (fun (b16_4,b16_5) u=>Fa [] [(16,.box (ctr+3) [.vec 20 (ctr+1) 1 0 (nvS.len v),.sl 1 (nvS.len was) false (fun ix jx=>(.v (.int .i64 (nvS.get 0 was ix)))),.v (.int .i64 sos),.v (.int .i64 eos),.v (.int .i64 b16_4),.v (.int .i64 b16_5),.sl 2 (nvS.len v1) false (fun ix jx=>(Xk nvS (nvS.get Zz v1 ix) jx))])]) (fun x uc ug ut ht hu hp h=>?_) (fun f h=>?_)
  · obtain ⟨b16_4,b16_5⟩:=x
    try dsimp only at hp h
    refine Zy h uc [(18,1),(29,10)] [(20,1)] (fun out u1=>⟨[],[(20,.arr (ctr+1) 1 (nvS.len v) (u1.t 20) (fun ix jx=>(.v (.int .i64 (nvS.get 0 out ix)))))],fun _=>Z0 out=(Z0 v)⟩) (fun out u1c u1g u1t ht hu hp h=>?_) (fun f h=>?_)
    · try dsimp only at hp h
      refine Wx [] 0 [] Wz
    · revert h
      refine Wyp 1 [48] 0 [] (Wq ?_)
      intro h
      intros
      refine Tr.block ?_
      refine Tr.rounds 3 ?_
      refine Wrnd h (uc+1) [(18,1),(31,8)] [(20,1)] (fun Zb u2=>⟨[(50,.v (.int .i64 1))],[(20,.arr (ctr+1) 1 (nvS.len v) (u2.t 20) (fun ix jx=>(.v (.int .i64 (nvS.get 0 Zb ix)))))],fun _=>Z0 Zb=(Z0 v)⟩) (fun Zb u2c u2g u2t ht hu hp h=>?_) (fun f h=>?_)
      · try dsimp only at hp h
        refine Wrnd h u2c [(18,1),(31,8)] [(20,1)] (fun out2 u3=>⟨[(50,.v (.int .i64 2))],[(20,.arr (ctr+1) 1 (nvS.len v) (u3.t 20) (fun ix jx=>(.v (.int .i64 (nvS.get 0 out2 ix)))))],fun _=>Z0 out2=(Z0 v)⟩) (fun out2 u3c u3g u3t ht hu hp h=>?_) (fun f h=>?_)
        · try dsimp only at hp h
          refine Wxp 2 [] 0 [] Wz
        · revert h
          refine Wyp 2 [] 0 [] (Wq ?_)
          intro h
          intros
          refine Zy h (u2c+1) [(18,1),(33,5)] [(20,1)] (fun out3 u4=>⟨[],[(20,.arr (ctr+1) 1 (nvS.len v) (u4.t 20) (fun ix jx=>(.v (.int .i64 (nvS.get 0 out3 ix)))))],fun _=>Z0 out3=(Z0 v)⟩) (fun out3 u4c u4g u4t ht hu hp h=>?_) (fun f h=>?_)
          · try dsimp only at hp h
            refine Wx [] 0 [] Wz
          · refine Tr.block ?_
            refine Zy h (u2c+1) [(18,1),(33,2)] [] (fun _ u5=>Fa [(18,.fn (.func 131) 0 (fun _=>.junk))] []) (fun x u5c u5g u5t ht hu hp h=>?_) (fun f h=>?_)
            · refine Wo0 ?_
              refine Wol 56 (fun r h=>n12_ok (Ys.mk Zb was sos eos b16_4 b16_5 v1) r h ((nvS.len v)) Wy (u2t 20)) fun v2 h24=>?_
              refine Wk [] 0 [] Wz
            · refine Wx [] 0 [] Wz
      · revert h
        refine Wyp 2 [] 0 [] (Wq ?_)
        intro h
        intros
        refine Zy h (uc+2) [(18,1),(33,5)] [(20,1)] (fun out4 u6=>⟨[],[(20,.arr (ctr+1) 1 (nvS.len v) (u6.t 20) (fun ix jx=>(.v (.int .i64 (nvS.get 0 out4 ix)))))],fun _=>Z0 out4=(Z0 v)⟩) (fun out4 u6c u6g u6t ht hu hp h=>?_) (fun f h=>?_)
        · try dsimp only at hp h
          refine Wx [] 0 [] Wz
        · refine Tr.block ?_
          refine Zy h (uc+2) [(18,1),(33,2)] [] (fun _ u7=>Fa [(18,.fn (.func 130) 0 (fun _=>.junk))] []) (fun x u7c u7g u7t ht hu hp h=>?_) (fun f h=>?_)
          · refine Wo0 ?_
            refine Wol 56 (fun r h=>n0_ok (Ys.mk v was sos eos b16_4 b16_5 v1) r h ((nvS.len v)) Wy (false)) fun v3 h32=>?_
            refine Wk [] 0 [] Wz
          · refine Wx [] 0 [] Wz
  · refine Wx [] 0 [] Wz

theorem weak_Implicit_ok (c':Int) (level:Int) (r:Int) (h:Z0t c' level=some r):Ze Tryz.prog 96 [(.v (.int .i64 c')),(.v (.int .i64 level))] ((.v (.int .i64 r))):=by
  unfold Z0t at h
  refine Wfn Tryz.func96 (Zl Tryz.f96) fun ctr hc=>?_
  refine Wx [] 0 [] Wz

theorem weak_levels_ok (d':Za) (r':(List Int)) (l':(List Int)) (base:Int) (r:(List Int)) (h:Z23 d' r' l' base=some r):Ze Tryz.prog 67 [(.agg 6 (fun j=>(Yk nvS d' j))),(.sl 1 (nvS.len r') false (fun ix jx=>(.v (.int .i64 (nvS.get 0 r' ix))))),(.sl 1 (nvS.len l') false (fun ix jx=>(.v (.int .i64 (nvS.get 0 l' ix))))),(.v (.int .i64 base))] (.own 1 (nvS.len r) false (fun ix jx=>(.v (.int .i64 (nvS.get 0 r ix))))):=by
  obtain ⟨⟨d_Class_L⟩,⟨d_Wide_L⟩,⟨d_Join_L⟩,d_Mirror,d_Brackets,d_Forms⟩:=d'
  unfold Z23 at h
  try dsimp only at h
  refine Wfn Tryz.func67 (Zl Tryz.f67) fun ctr hc=>?_
  refine Wo0 ?_
  refine Wo 25 0 (embed_Explicit_ok l' base) fun v h1=>?_
  obtain ⟨v_Levels,v_Classes,v_Removed⟩:=v
  refine Wo 28 1 (Xd v_Levels) fun v1 h2=>?_
  revert h
  refine Wjp 3 [] 0 [] (Wq ?_)
  intro h
  intros
  refine Zy h (ctr+3) [(12,8),(9,58)] [(28,1),(3,1)] (fun out u=>⟨[],[(28,.arr (ctr+2) 1 (nvS.len v1) (u.t 28) (fun ix jx=>(.v (.int .i64 (nvS.get 0 out ix)))))],fun _=>Z0 out=(Z0 v1)⟩) (fun out uc ug ut ht hu hp h=>?_) (fun f h=>?_)
  · try dsimp only at hp h
    revert h
    refine Wyp 1 [] 0 [] (Wq ?_)
    intro h
    intros
    refine Zy h (uc+1) [(20,3),(67,18)] [(28,1)] (fun Zb u1=>⟨[],[(28,.arr (ctr+2) 1 (nvS.len v1) (u1.t 28) (fun ix jx=>(.v (.int .i64 (nvS.get 0 Zb ix)))))],fun _=>Z0 Zb=(Z0 v1)⟩) (fun Zb u1c u1g u1t ht hu hp h=>?_) (fun f h=>?_)
    · try dsimp only at hp h
      refine Wx [] 0 [] Wz
    · revert h
      refine Wyp 1 [] 0 [] (Wq ?_)
      intro h
      intros
      refine Tr.block ?_
      refine Wlp h (uc+2) [(20,3),(70,15)] [(28,1)] (fun (ahead1,v2,out2) u2=>⟨[(20,.v (.int .i64 ahead1)),(93,.v (.int .i64 v2))],[(28,.arr (ctr+2) 1 (nvS.len v1) (u2.t 28) (fun ix jx=>(.v (.int .i64 (nvS.get 0 out2 ix)))))],fun _=>Z0 out2=(Z0 v1)⟩) Yr (fun x u2c u2g u2t f ht hu hp h=>?_)
      obtain ⟨ahead1,v2,out2⟩:=x
      try dsimp only at hp h
      revert h
      refine Wyp 2 [] 0 [] (Wq ?_)
      intro h
      intros
      refine Zy h (u2c+1) [(20,3),(72,12)] [(28,1)] (fun (ahead2,out3) u3=>⟨[(20,.v (.int .i64 ahead2))],[(28,.arr (ctr+2) 1 (nvS.len v1) (u3.t 28) (fun ix jx=>(.v (.int .i64 (nvS.get 0 out3 ix)))))],fun _=>Z0 out3=(Z0 v1)⟩) (fun x u3c u3g u3t ht hu hp h=>?_) (fun f h=>?_)
      · obtain ⟨ahead2,out3⟩:=x
        try dsimp only at hp h
        refine Wx [] 0 [] Wz
      · refine Tr.block ?_
        revert h
        refine Wyp 1 [] 0 [] (Wq ?_)
        intro h
        intros
        refine Zy h (u2c+2) [(98,5)] [(28,1)] (fun out4 u4=>⟨[],[(28,.arr (ctr+2) 1 (nvS.len v1) (u4.t 28) (fun ix jx=>(.v (.int .i64 (nvS.get 0 out4 ix)))))],fun _=>Z0 out4=(Z0 v1)⟩) (fun out4 u4c u4g u4t ht hu hp h=>?_) (fun f h=>?_)
        · try dsimp only at hp h
          refine Wx [] 0 [] Wz
        · refine Wx [] 0 [] Wz
  · refine Wo0 ?_
    refine Wo 32 1 (Z8q l' (Zn.mk v_Levels v_Classes v_Removed) base) fun v3 h67=>?_
    revert h
    refine Wjp 1 [] 0 [] (Wq ?_)
    intro h
    intros
    refine Tr.block ?_
    refine Wlp h (ctr+4) [(12,8),(14,53)] [(28,1)] (fun (v4,out5) u5=>⟨[(34,.v (.int .i64 v4))],[(28,.arr (ctr+2) 1 (nvS.len v1) (u5.t 28) (fun ix jx=>(.v (.int .i64 (nvS.get 0 out5 ix)))))],fun _=>Z0 out5=(Z0 v1)⟩) Yr (fun x u5c u5g u5t f ht hu hp h=>?_)
    obtain ⟨v4,out5⟩:=x
    try dsimp only at hp h
    revert h
    refine Wyp 2 [] 0 [] (Wq ?_)
    intro h
    intros
    refine Zy h (u5c+1) [(12,8),(16,50)] [(28,1),(39,1)] (fun out6 u6=>⟨[],[(28,.arr (ctr+2) 1 (nvS.len v1) (u6.t 28) (fun ix jx=>(.v (.int .i64 (nvS.get 0 out6 ix)))))],fun _=>Z0 out6=(Z0 v1)⟩) (fun out6 u6c u6g u6t ht hu hp h=>?_) (fun f h=>?_)
    · try dsimp only at hp h
      refine Wx [] 0 [] Wz
    · refine Tr.block ?_
      refine Wo0 ?_
      refine Wo 41 0 (weak_pick_ok v_Classes (Z1 [] v3 (0+v4))) fun v5 h126=>?_
      refine Wo 54 0 (embed_Edges_ok l' (Zn.mk v_Levels v_Classes v_Removed) base (Z1 [] v3 (0+v4))) fun v6 h129=>?_
      obtain ⟨v6_0,v6_1⟩:=v6
      refine Wo 60 0 (weak_pick_ok r' (Z1 [] v3 (0+v4))) fun v7 h130=>?_
      refine Wo 64 0 (weak_Weak_ok v5 v6_0) fun v8 h131=>?_
      refine Wo 68 1 (weak_Neutral_ok (Za.mk (Z2.mk d_Class_L) (Z2.mk d_Wide_L) (Z2.mk d_Join_L) d_Mirror d_Brackets d_Forms) v7 v5 v8 (Z1 0 v_Levels (Z1 0 (Z1 [] v3 (0+v4)) 0)) v6_0 v6_1) fun v9 h132=>?_
      revert h
      refine Wjp 6 [] 0 [] (Wq ?_)
      intro h
      intros
      refine Tr.block ?_
      refine Wlp h (u5c+7) [(18,2),(51,15)] [(28,1)] (fun (v10,out7) u7=>⟨[(71,.v (.int .i64 v10))],[(28,.arr (ctr+2) 1 (nvS.len v1) (u7.t 28) (fun ix jx=>(.v (.int .i64 (nvS.get 0 out7 ix)))))],fun _=>Z0 out7=(Z0 v1)⟩) Yr (fun x u7c u7g u7t f ht hu hp h=>?_)
      obtain ⟨v10,out7⟩:=x
      try dsimp only at hp h
      refine Wo0 ?_
      refine Wo 83 0 (weak_Implicit_ok (Z1 0 v9 (0+v10)) (Z1 0 v_Levels (Z1 0 (Z1 [] v3 (0+v4)) 0))) fun v11 h145=>?_
      refine Wk [] 0 [] Wz

theorem weak_Paragraph_ok (d':Za) (r':(List Int)) (dir:Int) (r:((List Int) × Int)) (h:Qr d' r' dir=some r):Ze Tryz.prog 48 [(.agg 6 (fun j=>(Yk nvS d' j))),(.sl 1 (nvS.len r') false (fun ix jx=>(.v (.int .i64 (nvS.get 0 r' ix))))),(.v (.int .i64 dir))] (.tup 2 (fun j=>match j with | 0=>(.sl 1 (nvS.len r.1) false (fun ix jx=>(.v (.int .i64 (nvS.get 0 r.1 ix))))) | 1=>(.v (.int .i64 r.2)) | _=>.junk)):=by
  obtain ⟨⟨d_Class_L⟩,⟨d_Wide_L⟩,⟨d_Join_L⟩,d_Mirror,d_Brackets,d_Forms⟩:=d'
  unfold Qr at h
  try dsimp only at h
  refine Wfn Tryz.func48 (Zl Tryz.f48) fun ctr hc=>?_
  refine Wo0 ?_
  refine Wo 12 1 (weak_classes_ok (Za.mk (Z2.mk d_Class_L) (Z2.mk d_Wide_L) (Z2.mk d_Join_L) d_Mirror d_Brackets d_Forms) r') fun v h1=>?_
  revert h
  refine Wjp 3 [] 0 [] (Wq ?_)
  intro h
  intros
  refine Zy h (ctr+3) [(9,1),(4,8)] [] (fun base u=>Fa [(9,.v (.int .i64 base))] []) (fun base uc ug ut ht hu hp h=>?_) (fun f h=>?_)
  · refine Wo0 ?_
    refine Wo 26 3 (weak_levels_ok (Za.mk (Z2.mk d_Class_L) (Z2.mk d_Wide_L) (Z2.mk d_Join_L) d_Mirror d_Brackets d_Forms) r' v base) fun v1 h3=>?_
    refine Wk [] 0 [] Wz
  · refine Wo0 ?_
    refine Wo 21 4 (embed_Base_ok v) fun v2 h4=>?_
    refine Wk [] 0 [] Wz
end Go.Vx
