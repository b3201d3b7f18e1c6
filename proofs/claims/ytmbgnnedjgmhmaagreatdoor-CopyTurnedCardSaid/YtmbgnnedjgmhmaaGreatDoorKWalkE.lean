/- Walks, by program (lift.py). -/
import Derived.Test.YtmbgnnedjgmhmaaGreatDoorKWalk
set_option linter.all false
namespace Go.Vx
open Go.Proofs
set_option maxRecDepth 100000
set_option maxHeartbeats 1000000
set_option linter.unusedVariables false
set_option linter.unusedSimpArgs false
attribute [local irreducible] chk Z7 Z8 Zu nilO

theorem Z8g (t':Z2) (r':Int) (r:Int) (h:Z38 t' r'=some r):Ze Tryz.prog 102 [(.agg 1 (fun j=>(Z07 nvS t' j))),(.v (.int .i64 r'))] ((.v (.int .i64 r))):=by
  obtain ⟨t_L⟩:=t'
  unfold Z38 at h
  try dsimp only at h
  refine Wfn Tryz.func102 (Zl Tryz.f102) fun ctr hc=>?_
  revert h
  refine Wyp 1 [] 0 [] (Wq ?_)
  intro h
  intros
  refine Zy h (ctr+1) [(4,1),(1,21)] [] (fun _ u=>Fa [] []) (fun x uc ug ut ht hu hp h=>?_) (fun f h=>?_)
  · refine Wx [] 0 [] Wz
  · revert h
    refine Wyp 1 [] 0 [] (Wq ?_)
    intro h
    intros
    refine Tr.block ?_
    refine Wlp h (ctr+2) [(4,1),(1,1),(3,17)] [(6,1)] (fun v u1=>Fa [(10,.v (.int .i64 v))] []) Yr (fun v u1c u1g u1t f ht hu hp h=>?_)
    refine Wx [] 0 [] Wz

theorem ucd_Class_ok (d':Za) (r':Int) (r:Int) (h:Z39 d' r'=some r):Ze Tryz.prog 74 [(.agg 6 (fun j=>(Yk nvS d' j))),(.v (.int .i64 r'))] ((.v (.int .i64 r))):=by
  obtain ⟨⟨d_Class_L⟩,⟨d_Wide_L⟩,⟨d_Join_L⟩,d_Mirror,d_Brackets,d_Forms⟩:=d'
  unfold Z39 at h
  try dsimp only at h
  refine Wfn Tryz.func74 (Zl Tryz.f74) fun ctr hc=>?_
  refine Wo0 ?_
  refine Wo 9 0 (Z8g (Z2.mk d_Class_L) r') fun v h1=>?_
  refine Wk [] 0 [] Wz

theorem si_push_ok (s:Zp) (x':Int) (r:(Zp)) (h:si_push s x'=some r)   : X3 Tryz.prog 112 [.bref 0 0 0,(.v (.int .i64 x'))] [.box 0 [.vec 1 0 1 0 (nvS.len s.fl)],.arr 0 1 (nvS.len s.fl) false (fun ix jx=>(.v (.int .i64 (nvS.get 0 s.fl ix))))] [.box 0 [.vec 1 1 1 0 (nvS.len r.fl)],.arr 1 1 (nvS.len r.fl) false (fun ix jx=>(.v (.int .i64 (nvS.get 0 r.fl ix))))] (.tup 0 (fun _=>.junk)):=by
  obtain ⟨s_l⟩:=s
  unfold si_push at h
  try dsimp only at h
  refine Wfl Tryz.func112 (Zl Tryz.f112) fun ctr hc=>?_
  refine Wx [10] 2 [] Wz

theorem si_size_ok (s:Zp) (r:Int) (h:si_size s=some r):Ze Tryz.prog 113 [.imm 1 1 (fun _ j=>(Z0l nvS s j)) 0 0] ((.v (.int .i64 r))):=by
  obtain ⟨s_l⟩:=s
  unfold si_size at h
  try dsimp only at h
  refine Wfn Tryz.func113 (Zl Tryz.f113) fun ctr hc=>?_
  refine Wx [] 0 [] Wz

theorem si_last_ok (s:Zp) (r:Int) (h:si_last s=some r):Ze Tryz.prog 114 [.imm 1 1 (fun _ j=>(Z0l nvS s j)) 0 0] ((.v (.int .i64 r))):=by
  obtain ⟨s_l⟩:=s
  unfold si_last at h
  try dsimp only at h
  refine Wfn Tryz.func114 (Zl Tryz.f114) fun ctr hc=>?_
  refine Wx [] 0 [] Wz

theorem si_pop_ok (s:Zp) (r:(Zp)) (h:si_pop s=some r)   : X3 Tryz.prog 115 [.bref 0 0 0] [.box 0 [.vec 1 0 1 0 (nvS.len s.fl)],.arr 0 1 (nvS.len s.fl) false (fun ix jx=>(.v (.int .i64 (nvS.get 0 s.fl ix))))] [.box 0 [.vec 1 1 1 0 (nvS.len r.fl)],.arr 1 1 (nvS.len r.fl) false (fun ix jx=>(.v (.int .i64 (nvS.get 0 r.fl ix))))] (.tup 0 (fun _=>.junk)):=by
  obtain ⟨s_l⟩:=s
  unfold si_pop at h
  try dsimp only at h
  refine Wfl Tryz.func115 (Zl Tryz.f115) fun ctr hc=>?_
  refine Wx [] 2 [] Wz

theorem Z2q (l':(List Int)) (r:(List Int)) (h:Qk l'=some r):Ze Tryz.prog 89 [(.sl 1 (nvS.len l') false (fun ix jx=>(.v (.int .i64 (nvS.get 0 l' ix)))))] (.own 1 (nvS.len r) false (fun ix jx=>(.v (.int .i64 (nvS.get 0 r ix))))):=by
  unfold Qk at h
  refine Wfn Tryz.func89 (Zl Tryz.f89) fun ctr hc=>?_
  revert h
  refine Wyp 3 [] 0 [] (Wq ?_)
  intro h
  intros
  refine Zy h (ctr+3) [(5,2),(3,39)] [(0,1),(3,1),(4,1)] (fun out u=>⟨[],[(9,.arr (ctr+1) 1 (nvS.len l') (u.t 9) (fun ix jx=>(.v (.int .i64 (nvS.get 0 out ix)))))],fun _=>Z0 out=(Z0 l')⟩) (fun out uc ug ut ht hu hp h=>?_) (fun f h=>?_)
  · try dsimp only at hp h
    refine Wx [] 0 [] Wz
  · revert h
    refine Wyp 1 [] 0 [] (Wq ?_)
    intro h
    intros
    refine Tr.block ?_
    refine Wlp h (ctr+4) [(5,2),(5,37)] [(0,1),(3,1),(4,1)] (fun (v,Zb,o) u1=>⟨[(12,.v (.int .i64 v))],[(0,.arr (u1.g 0) 1 (nvS.len o) (u1.t 0) (fun ix jx=>(.v (.int .i64 (nvS.get 0 o ix))))),(4,.box (ctr+2) [.vec 0 (u1.g 0) 1 0 (nvS.len o)]),(9,.arr (ctr+1) 1 (nvS.len l') (u1.t 9) (fun ix jx=>(.v (.int .i64 (nvS.get 0 Zb ix)))))],fun _=>Z0 Zb=(Z0 l')⟩) Yr (fun x u1c u1g u1t f ht hu hp h=>?_)
    obtain ⟨v,Zb,o⟩:=x
    try dsimp only at hp h
    revert h
    refine Wyp 2 [] 0 [] (Wq ?_)
    intro h
    intros
    refine Zy h (u1c+1) [(5,2),(7,34)] [(0,1),(3,1),(4,1)] (fun (out2,o1) u2=>⟨[],[(0,.arr (u2.g 0) 1 (nvS.len o1) (u2.t 0) (fun ix jx=>(.v (.int .i64 (nvS.get 0 o1 ix))))),(4,.box (ctr+2) [.vec 0 (u2.g 0) 1 0 (nvS.len o1)]),(9,.arr (ctr+1) 1 (nvS.len l') (u2.t 9) (fun ix jx=>(.v (.int .i64 (nvS.get 0 out2 ix)))))],fun _=>Z0 out2=(Z0 l')⟩) (fun x u2c u2g u2t ht hu hp h=>?_) (fun f h=>?_)
    · obtain ⟨out2,o1⟩:=x
      try dsimp only at hp h
      refine Wx [] 0 [] Wz
    · refine Tr.block ?_
      revert h
      refine Wyp 3 [] 0 [] (Wq ?_)
      intro h
      intros
      refine Tr.block ?_
      refine Zy h (u1c+4) [(21,4)] [(9,1)] (fun v1 u3=>Fa [(21,.v (.bool v1))] [(9,.arr (ctr+1) 1 (nvS.len l') (u3.t 9) (fun ix jx=>(.v (.int .i64 (nvS.get 0 (nvS.set Zb v (-1)) ix)))))]) (fun v1 u3c u3g u3t ht hu hp h=>?_) (fun f h=>?_)
      · refine Wo0 ?_
        refine Wol 31 (fun r h=>si_push_ok (Zp.mk o) v r h) fun v2 h55=>?_
        obtain ⟨v2_l⟩:=v2
        refine Wo 34 4 (si_size_ok (Zp.mk o)) fun v3 h56=>?_
        refine Wo 38 4 (si_last_ok (Zp.mk o)) fun v4 h57=>?_
        refine Wod 41 4 h57 ?_
        refine Wol 44 (fun r h=>si_pop_ok (Zp.mk o) r h) fun v5 h60=>?_
        obtain ⟨v5_l⟩:=v5
        refine Wk [] 0 [] Wz
      · refine Wx [] 0 [] Wz

theorem Z7c (l':(List Int)) (match':(List Int)) (from':Int) (to:Int) (r:Int) (h:Z1z l' match' from' to=some r):Ze Tryz.prog 88 [(.sl 1 (nvS.len l') false (fun ix jx=>(.v (.int .i64 (nvS.get 0 l' ix))))),(.sl 1 (nvS.len match') false (fun ix jx=>(.v (.int .i64 (nvS.get 0 match' ix))))),(.v (.int .i64 from')),(.v (.int .i64 to))] ((.v (.int .i64 r))):=by
  unfold Z1z at h
  refine Wfn Tryz.func88 (Zl Tryz.f88) fun ctr hc=>?_
  revert h
  refine Wyp 1 [] 0 [] (Wq ?_)
  intro h
  intros
  refine Zy h (ctr+1) [(8,26)] [] (fun _ u=>Fa [] []) (fun x uc ug ut ht hu hp h=>?_) (fun f h=>?_)
  · refine Wx [] 0 [] Wz
  · revert h
    refine Wyp 1 [] 0 [] (Wq ?_)
    intro h
    intros
    refine Tr.block ?_
    refine Wlp h (ctr+2) [(8,2),(1,23)] [] (fun i u1=>Fa [(9,.v (.int .i64 i))] []) Yr (fun i u1c u1g u1t f ht hu hp h=>?_)
    revert h
    refine Wyp 1 [] 0 [] (Wq ?_)
    intro h
    intros
    refine Zy h (u1c+1) [(8,2),(6,18)] [] (fun i1 u2=>Fa [(9,.v (.int .i64 i1))] []) (fun i1 u2c u2g u2t ht hu hp h=>?_) (fun f h=>?_)
    · refine Wx [] 0 [] Wz
    · refine Tr.block ?_
      revert h
      refine Wyp 1 [] 0 [] (Wq ?_)
      intro h
      intros
      refine Tr.block ?_
      refine Zy h (u1c+2) [(20,3)] [] (fun v u3=>Fa [(20,.v (.bool v))] []) (fun v u3c u3g u3t ht hu hp h=>?_) (fun f h=>?_)
      · refine Wcond h rfl (fun _ h=>?_) (fun _ h=>?_)
        · refine Wx [] 0 [] Wz
        · refine Zy h u3c [(23,3)] [] (fun v1 u4=>Fa [(23,.v (.bool v1))] []) (fun v1 u4c u4g u4t ht hu hp h=>?_) (fun f h=>?_)
          · refine Wx [] 0 [] Wz
          · refine Wx [] 0 [] Wz
      · refine Wx [] 0 [] Wz

theorem embed_Base_ok (l':(List Int)) (r:Int) (h:Z4p l'=some r):Ze Tryz.prog 66 [(.sl 1 (nvS.len l') false (fun ix jx=>(.v (.int .i64 (nvS.get 0 l' ix)))))] ((.v (.int .i64 r))):=by
  unfold Z4p at h
  refine Wfn Tryz.func66 (Zl Tryz.f66) fun ctr hc=>?_
  refine Wo0 ?_
  refine Wo 5 1 (Z2q l') fun v h1=>?_
  refine Wo 8 4 (Z7c l' v 0 (Z0 l')) fun v1 h2=>?_
  refine Wk [] 0 [] Wz

theorem embed_known_ok (l':(List Int)) (r:(List Int)) (h:Z0f l'=some r):Ze Tryz.prog 116 [(.sl 1 (nvS.len l') false (fun ix jx=>(.v (.int .i64 (nvS.get 0 l' ix)))))] (.own 1 (nvS.len r) false (fun ix jx=>(.v (.int .i64 (nvS.get 0 r ix))))):=by
  unfold Z0f at h
  refine Wfn Tryz.func116 (Zl Tryz.f116) fun ctr hc=>?_
  revert h
  refine Wyp 2 [] 0 [] (Wq ?_)
  intro h
  intros
  refine Zy h (ctr+2) [(4,2),(3,18)] [(8,1)] (fun out u=>⟨[],[(8,.arr (ctr+1) 1 (nvS.len l') (u.t 8) (fun ix jx=>(.v (.int .i64 (nvS.get 0 out ix)))))],fun _=>Z0 out=(Z0 l')⟩) (fun out uc ug ut ht hu hp h=>?_) (fun f h=>?_)
  · try dsimp only at hp h
    refine Wx [] 0 [] Wz
  · revert h
    refine Wyp 1 [] 0 [] (Wq ?_)
    intro h
    intros
    refine Tr.block ?_
    refine Wlp h (ctr+3) [(4,2),(5,16)] [(8,1)] (fun (v,Zb) u1=>⟨[(11,.v (.int .i64 v))],[(8,.arr (ctr+1) 1 (nvS.len l') (u1.t 8) (fun ix jx=>(.v (.int .i64 (nvS.get 0 Zb ix)))))],fun _=>Z0 Zb=(Z0 l')⟩) Yr (fun x u1c u1g u1t f ht hu hp h=>?_)
    obtain ⟨v,Zb⟩:=x
    try dsimp only at hp h
    refine Wx [] 0 [] Wz

theorem Z6l (base:Int) (r:Int) (h:Xp base=some r):Ze Tryz.prog 117 [(.v (.int .i64 base))] ((.v (.int .i64 r))):=by
  unfold Xp at h
  refine Wfn Tryz.func117 (Zl Tryz.f117) fun ctr hc=>?_
  refine Wx [] 0 [] Wz

theorem ss_push_ok (s:Z9) (x':Y8) (r:(Z9)) (h:Z4b s x'=some r)   : X3 Tryz.prog 118 [.bref 0 0 0,(.agg 3 (fun j=>(Zw nvS x' j)))] [.box 0 [.vec 1 0 3 0 (nvS.len s.fl)],.arr 0 3 (nvS.len s.fl) false (fun ix jx=>(Zw nvS (nvS.get Zr s.fl ix) jx))] [.box 0 [.vec 1 1 3 0 (nvS.len r.fl)],.arr 1 3 (nvS.len r.fl) false (fun ix jx=>(Zw nvS (nvS.get Zr r.fl ix) jx))] (.tup 0 (fun _=>.junk)):=by
  obtain ⟨s_l⟩:=s
  obtain ⟨x_level,x_override,x_isolate⟩:=x'
  unfold Z4b at h
  try dsimp only at h
  refine Wfl Tryz.func118 (Zl Tryz.f118) fun ctr hc=>?_
  refine Wx [10] 2 [] Wz

theorem Z4v (s:Z9) (r:Y8) (h:Z1q s=some r):Ze Tryz.prog 151 [.imm 1 1 (fun _ j=>(Z1o nvS s j)) 0 0] ((.agg 3 (fun j=>(Zw nvS r j)))):=by
  obtain ⟨s_l⟩:=s
  unfold Z1q at h
  try dsimp only at h
  refine Wfn Tryz.func151 (Zl Tryz.f151) fun ctr hc=>?_
  refine Wx [] 0 [] Wz

theorem m_remove_ok (m:Z6) (i:Int) (r:(Z6)) (h:Z2g m i=some r)   : X3 Tryz.prog 123 [.bref 0 0 0,(.v (.int .i64 i))] [.box 0 [.sl 1 (nvS.len m.fl) false (fun ix jx=>(.v (.int .i64 (nvS.get 0 m.fl ix)))),.sl 1 (nvS.len m.fmatch) false (fun ix jx=>(.v (.int .i64 (nvS.get 0 m.fmatch ix)))),.v (.int .i64 m.fbase),.vec 1 0 1 0 (nvS.len m.frun.fLevels),.vec 2 0 1 0 (nvS.len m.frun.fClasses),.vec 3 0 1 0 (nvS.len m.frun.fRemoved),.vec 4 0 3 0 (nvS.len m.fopen.fl),.v (.int .i64 m.fisolates),.v (.int .i64 m.fembeddings),.v (.int .i64 m.fvalid)],.arr 0 1 (nvS.len m.frun.fLevels) false (fun ix jx=>(.v (.int .i64 (nvS.get 0 m.frun.fLevels ix)))),.arr 0 1 (nvS.len m.frun.fClasses) false (fun ix jx=>(.v (.int .i64 (nvS.get 0 m.frun.fClasses ix)))),.arr 0 1 (nvS.len m.frun.fRemoved) false (fun ix jx=>(.v (.bool (nvS.get false m.frun.fRemoved ix)))),.arr 0 3 (nvS.len m.fopen.fl) false (fun ix jx=>(Zw nvS (nvS.get Zr m.fopen.fl ix) jx))] [.box 0 [.sl 1 (nvS.len r.fl) false (fun ix jx=>(.v (.int .i64 (nvS.get 0 r.fl ix)))),.sl 1 (nvS.len r.fmatch) false (fun ix jx=>(.v (.int .i64 (nvS.get 0 r.fmatch ix)))),.v (.int .i64 r.fbase),.vec 1 1 1 0 (nvS.len r.frun.fLevels),.vec 2 1 1 0 (nvS.len r.frun.fClasses),.vec 3 1 1 0 (nvS.len r.frun.fRemoved),.vec 4 1 3 0 (nvS.len r.fopen.fl),.v (.int .i64 r.fisolates),.v (.int .i64 r.fembeddings),.v (.int .i64 r.fvalid)],.arr 1 1 (nvS.len r.frun.fLevels) false (fun ix jx=>(.v (.int .i64 (nvS.get 0 r.frun.fLevels ix)))),.arr 1 1 (nvS.len r.frun.fClasses) false (fun ix jx=>(.v (.int .i64 (nvS.get 0 r.frun.fClasses ix)))),.arr 1 1 (nvS.len r.frun.fRemoved) false (fun ix jx=>(.v (.bool (nvS.get false r.frun.fRemoved ix)))),.arr 1 3 (nvS.len r.fopen.fl) false (fun ix jx=>(Zw nvS (nvS.get Zr r.fopen.fl ix) jx))] (.tup 0 (fun _=>.junk)):=by
  obtain ⟨m_l,m_match,m_base,⟨m_run_Levels,m_run_Classes,m_run_Removed⟩,⟨m_open_l⟩,m_isolates,m_embeddings,m_valid⟩:=m
  unfold Z2g at h
  try dsimp only at h
  refine Wfl Tryz.func123 (Zl Tryz.f123) fun ctr hc=>?_
  refine Wo0 ?_
  refine Wo 18 4 (Z4v (Z9.mk m_open_l)) fun v h1=>?_
  obtain ⟨v_level,v_override,v_isolate⟩:=v
  refine Wk [] 5 [] Wz

theorem m_next_ok (m:Z6) (odd:Bool) (r:(Int × Bool)) (h:m_next m odd=some r):Ze Tryz.prog 150 [.imm 10 1 (fun _ j=>(Z3w nvS m j)) 0 0,(.v (.bool odd))] (.tup 2 (fun j=>match j with | 0=>(.v (.int .i64 r.1)) | 1=>(.v (.bool r.2)) | _=>.junk)):=by
  obtain ⟨m_l,m_match,m_base,⟨m_run_Levels,m_run_Classes,m_run_Removed⟩,⟨m_open_l⟩,m_isolates,m_embeddings,m_valid⟩:=m
  unfold m_next at h
  try dsimp only at h
  refine Wfn Tryz.func150 (Zl Tryz.f150) fun ctr hc=>?_
  refine Wo0 ?_
  refine Wo 10 0 (Z4v (Z9.mk m_open_l)) fun v h1=>?_
  obtain ⟨v_level,v_override,v_isolate⟩:=v
  refine Wk [] 0 [] Wz

theorem m_embed_ok (m:Z6) (i:Int) (c':Int) (r:(Z6)) (h:m_embed m i c'=some r)   : X3 Tryz.prog 119 [.bref 0 0 0,(.v (.int .i64 i)),(.v (.int .i64 c'))] [.box 0 [.sl 1 (nvS.len m.fl) false (fun ix jx=>(.v (.int .i64 (nvS.get 0 m.fl ix)))),.sl 1 (nvS.len m.fmatch) false (fun ix jx=>(.v (.int .i64 (nvS.get 0 m.fmatch ix)))),.v (.int .i64 m.fbase),.vec 1 0 1 0 (nvS.len m.frun.fLevels),.vec 2 0 1 0 (nvS.len m.frun.fClasses),.vec 3 0 1 0 (nvS.len m.frun.fRemoved),.vec 4 0 3 0 (nvS.len m.fopen.fl),.v (.int .i64 m.fisolates),.v (.int .i64 m.fembeddings),.v (.int .i64 m.fvalid)],.arr 0 1 (nvS.len m.frun.fLevels) false (fun ix jx=>(.v (.int .i64 (nvS.get 0 m.frun.fLevels ix)))),.arr 0 1 (nvS.len m.frun.fClasses) false (fun ix jx=>(.v (.int .i64 (nvS.get 0 m.frun.fClasses ix)))),.arr 0 1 (nvS.len m.frun.fRemoved) false (fun ix jx=>(.v (.bool (nvS.get false m.frun.fRemoved ix)))),.arr 0 3 (nvS.len m.fopen.fl) false (fun ix jx=>(Zw nvS (nvS.get Zr m.fopen.fl ix) jx))] [.box 0 [.sl 1 (nvS.len r.fl) false (fun ix jx=>(.v (.int .i64 (nvS.get 0 r.fl ix)))),.sl 1 (nvS.len r.fmatch) false (fun ix jx=>(.v (.int .i64 (nvS.get 0 r.fmatch ix)))),.v (.int .i64 r.fbase),.vec 1 1 1 0 (nvS.len r.frun.fLevels),.vec 2 1 1 0 (nvS.len r.frun.fClasses),.vec 3 1 1 0 (nvS.len r.frun.fRemoved),.vec 4 1 3 0 (nvS.len r.fopen.fl),.v (.int .i64 r.fisolates),.v (.int .i64 r.fembeddings),.v (.int .i64 r.fvalid)],.arr 1 1 (nvS.len r.frun.fLevels) false (fun ix jx=>(.v (.int .i64 (nvS.get 0 r.frun.fLevels ix)))),.arr 1 1 (nvS.len r.frun.fClasses) false (fun ix jx=>(.v (.int .i64 (nvS.get 0 r.frun.fClasses ix)))),.arr 1 1 (nvS.len r.frun.fRemoved) false (fun ix jx=>(.v (.bool (nvS.get false r.frun.fRemoved ix)))),.arr 1 3 (nvS.len r.fopen.fl) false (fun ix jx=>(Zw nvS (nvS.get Zr r.fopen.fl ix) jx))] (.tup 0 (fun _=>.junk)):=by
  obtain ⟨m_l,m_match,m_base,⟨m_run_Levels,m_run_Classes,m_run_Removed⟩,⟨m_open_l⟩,m_isolates,m_embeddings,m_valid⟩:=m
  unfold m_embed at h
  try dsimp only at h
  refine Wfl Tryz.func119 (Zl Tryz.f119) fun ctr hc=>?_
  refine Wo0 ?_
  refine Wol 16 (fun r h=>m_remove_ok (Z6.mk m_l m_match m_base (Zn.mk m_run_Levels m_run_Classes m_run_Removed) (Z9.mk m_open_l) m_isolates m_embeddings m_valid) i r h) fun v h1=>?_
  obtain ⟨v_l,v_match,v_base,⟨v_run_Levels,v_run_Classes,v_run_Removed⟩,⟨v_open_l⟩,v_isolates,v_embeddings,v_valid⟩:=v
  refine Wo 25 4 (m_next_ok (Z6.mk v_l v_match v_base (Zn.mk v_run_Levels v_run_Classes v_run_Removed) (Z9.mk v_open_l) v_isolates v_embeddings v_valid) (if (c' == 17)=true then true else (c' == 18))) fun v1 h2=>?_
  obtain ⟨v1_0,v1_1⟩:=v1
  revert h
  refine Wjp 4 [] 5 [] (Wq ?_)
  intro h
  intros
  refine Zy h (ctr+4) [(8,1),(28,5)] [] (fun override u=>Fa [(8,.v (.int .i64 override))] []) (fun override uc ug ut ht hu hp h=>?_) (fun f h=>?_)
  · refine Wo0 ?_
    refine Wol 53 (fun r h=>ss_push_ok (Z9.mk v_open_l) (Y8.mk v1_0 override false) r h) fun v2 h4=>?_
    obtain ⟨v2_l⟩:=v2
    refine Wk [] 5 [] Wz
  · refine Wx [] 5 [] Wz

theorem m_take_ok (m:Z6) (i:Int) (r:(Z6)) (h:Z69 m i=some r)   : X3 Tryz.prog 122 [.bref 0 0 0,(.v (.int .i64 i))] [.box 0 [.sl 1 (nvS.len m.fl) false (fun ix jx=>(.v (.int .i64 (nvS.get 0 m.fl ix)))),.sl 1 (nvS.len m.fmatch) false (fun ix jx=>(.v (.int .i64 (nvS.get 0 m.fmatch ix)))),.v (.int .i64 m.fbase),.vec 1 0 1 0 (nvS.len m.frun.fLevels),.vec 2 0 1 0 (nvS.len m.frun.fClasses),.vec 3 0 1 0 (nvS.len m.frun.fRemoved),.vec 4 0 3 0 (nvS.len m.fopen.fl),.v (.int .i64 m.fisolates),.v (.int .i64 m.fembeddings),.v (.int .i64 m.fvalid)],.arr 0 1 (nvS.len m.frun.fLevels) false (fun ix jx=>(.v (.int .i64 (nvS.get 0 m.frun.fLevels ix)))),.arr 0 1 (nvS.len m.frun.fClasses) false (fun ix jx=>(.v (.int .i64 (nvS.get 0 m.frun.fClasses ix)))),.arr 0 1 (nvS.len m.frun.fRemoved) false (fun ix jx=>(.v (.bool (nvS.get false m.frun.fRemoved ix)))),.arr 0 3 (nvS.len m.fopen.fl) false (fun ix jx=>(Zw nvS (nvS.get Zr m.fopen.fl ix) jx))] [.box 0 [.sl 1 (nvS.len r.fl) false (fun ix jx=>(.v (.int .i64 (nvS.get 0 r.fl ix)))),.sl 1 (nvS.len r.fmatch) false (fun ix jx=>(.v (.int .i64 (nvS.get 0 r.fmatch ix)))),.v (.int .i64 r.fbase),.vec 1 1 1 0 (nvS.len r.frun.fLevels),.vec 2 1 1 0 (nvS.len r.frun.fClasses),.vec 3 1 1 0 (nvS.len r.frun.fRemoved),.vec 4 1 3 0 (nvS.len r.fopen.fl),.v (.int .i64 r.fisolates),.v (.int .i64 r.fembeddings),.v (.int .i64 r.fvalid)],.arr 1 1 (nvS.len r.frun.fLevels) false (fun ix jx=>(.v (.int .i64 (nvS.get 0 r.frun.fLevels ix)))),.arr 1 1 (nvS.len r.frun.fClasses) false (fun ix jx=>(.v (.int .i64 (nvS.get 0 r.frun.fClasses ix)))),.arr 1 1 (nvS.len r.frun.fRemoved) false (fun ix jx=>(.v (.bool (nvS.get false r.frun.fRemoved ix)))),.arr 1 3 (nvS.len r.fopen.fl) false (fun ix jx=>(Zw nvS (nvS.get Zr r.fopen.fl ix) jx))] (.tup 0 (fun _=>.junk)):=by
  obtain ⟨m_l,m_match,m_base,⟨m_run_Levels,m_run_Classes,m_run_Removed⟩,⟨m_open_l⟩,m_isolates,m_embeddings,m_valid⟩:=m
  unfold Z69 at h
  try dsimp only at h
  refine Wfl Tryz.func122 (Zl Tryz.f122) fun ctr hc=>?_
  refine Wo0 ?_
  refine Wo 13 4 (Z4v (Z9.mk m_open_l)) fun v h1=>?_
  obtain ⟨v_level,v_override,v_isolate⟩:=v
  refine Wk [] 5 [] Wz

theorem m_isolate_ok (m:Z6) (i:Int) (c':Int) (r:(Z6)) (h:Z4f m i c'=some r)   : X3 Tryz.prog 120 [.bref 0 0 0,(.v (.int .i64 i)),(.v (.int .i64 c'))] [.box 0 [.sl 1 (nvS.len m.fl) false (fun ix jx=>(.v (.int .i64 (nvS.get 0 m.fl ix)))),.sl 1 (nvS.len m.fmatch) false (fun ix jx=>(.v (.int .i64 (nvS.get 0 m.fmatch ix)))),.v (.int .i64 m.fbase),.vec 1 0 1 0 (nvS.len m.frun.fLevels),.vec 2 0 1 0 (nvS.len m.frun.fClasses),.vec 3 0 1 0 (nvS.len m.frun.fRemoved),.vec 4 0 3 0 (nvS.len m.fopen.fl),.v (.int .i64 m.fisolates),.v (.int .i64 m.fembeddings),.v (.int .i64 m.fvalid)],.arr 0 1 (nvS.len m.frun.fLevels) false (fun ix jx=>(.v (.int .i64 (nvS.get 0 m.frun.fLevels ix)))),.arr 0 1 (nvS.len m.frun.fClasses) false (fun ix jx=>(.v (.int .i64 (nvS.get 0 m.frun.fClasses ix)))),.arr 0 1 (nvS.len m.frun.fRemoved) false (fun ix jx=>(.v (.bool (nvS.get false m.frun.fRemoved ix)))),.arr 0 3 (nvS.len m.fopen.fl) false (fun ix jx=>(Zw nvS (nvS.get Zr m.fopen.fl ix) jx))] [.box 0 [.sl 1 (nvS.len r.fl) false (fun ix jx=>(.v (.int .i64 (nvS.get 0 r.fl ix)))),.sl 1 (nvS.len r.fmatch) false (fun ix jx=>(.v (.int .i64 (nvS.get 0 r.fmatch ix)))),.v (.int .i64 r.fbase),.vec 1 1 1 0 (nvS.len r.frun.fLevels),.vec 2 1 1 0 (nvS.len r.frun.fClasses),.vec 3 1 1 0 (nvS.len r.frun.fRemoved),.vec 4 1 3 0 (nvS.len r.fopen.fl),.v (.int .i64 r.fisolates),.v (.int .i64 r.fembeddings),.v (.int .i64 r.fvalid)],.arr 1 1 (nvS.len r.frun.fLevels) false (fun ix jx=>(.v (.int .i64 (nvS.get 0 r.frun.fLevels ix)))),.arr 1 1 (nvS.len r.frun.fClasses) false (fun ix jx=>(.v (.int .i64 (nvS.get 0 r.frun.fClasses ix)))),.arr 1 1 (nvS.len r.frun.fRemoved) false (fun ix jx=>(.v (.bool (nvS.get false r.frun.fRemoved ix)))),.arr 1 3 (nvS.len r.fopen.fl) false (fun ix jx=>(Zw nvS (nvS.get Zr r.fopen.fl ix) jx))] (.tup 0 (fun _=>.junk)):=by
  obtain ⟨m_l,m_match,m_base,⟨m_run_Levels,m_run_Classes,m_run_Removed⟩,⟨m_open_l⟩,m_isolates,m_embeddings,m_valid⟩:=m
  unfold Z4f at h
  try dsimp only at h
  refine Wfl Tryz.func120 (Zl Tryz.f120) fun ctr hc=>?_
  revert h
  refine Wyp 1 [] 5 [] (Wq ?_)
  intro h
  intros
  refine Zy h (ctr+1) [(6,1),(4,21)] [] (fun odd1 u=>Fa [(6,.v (.bool odd1))] []) (fun odd1 uc ug ut ht hu hp h=>?_) (fun f h=>?_)
  · refine Wo0 ?_
    refine Wol 39 (fun r h=>m_take_ok (Z6.mk m_l m_match m_base (Zn.mk m_run_Levels m_run_Classes m_run_Removed) (Z9.mk m_open_l) m_isolates m_embeddings m_valid) i r h) fun v h4=>?_
    obtain ⟨v_l,v_match,v_base,⟨v_run_Levels,v_run_Classes,v_run_Removed⟩,⟨v_open_l⟩,v_isolates,v_embeddings,v_valid⟩:=v
    refine Wo 43 4 (m_next_ok (Z6.mk v_l v_match v_base (Zn.mk v_run_Levels v_run_Classes v_run_Removed) (Z9.mk v_open_l) v_isolates v_embeddings v_valid) odd1) fun v1 h5=>?_
    obtain ⟨v1_0,v1_1⟩:=v1
    refine Wol 67 (fun r h=>ss_push_ok (Z9.mk v_open_l) (Y8.mk v1_0 14 true) r h) fun v2 h8=>?_
    obtain ⟨v2_l⟩:=v2
    refine Wk [] 5 [] Wz
  · refine Wo0 ?_
    refine Wo 35 0 (Z7c m_l m_match (i+1) (Z1 0 m_match i)) fun v3 h11=>?_
    refine Wk [] 5 [] Wz

theorem ss_pop_ok (s:Z9) (r:(Z9)) (h:ss_pop s=some r)   : X3 Tryz.prog 152 [.bref 0 0 0] [.box 0 [.vec 1 0 3 0 (nvS.len s.fl)],.arr 0 3 (nvS.len s.fl) false (fun ix jx=>(Zw nvS (nvS.get Zr s.fl ix) jx))] [.box 0 [.vec 1 1 3 0 (nvS.len r.fl)],.arr 1 3 (nvS.len r.fl) false (fun ix jx=>(Zw nvS (nvS.get Zr r.fl ix) jx))] (.tup 0 (fun _=>.junk)):=by
  obtain ⟨s_l⟩:=s
  unfold ss_pop at h
  try dsimp only at h
  refine Wfl Tryz.func152 (Zl Tryz.f152) fun ctr hc=>?_
  refine Wx [] 2 [] Wz

theorem m_endIsolate_ok (m:Z6) (r:(Z6)) (h:Z2h m=some r)   : X3 Tryz.prog 121 [.bref 0 0 0] [.box 0 [.sl 1 (nvS.len m.fl) false (fun ix jx=>(.v (.int .i64 (nvS.get 0 m.fl ix)))),.sl 1 (nvS.len m.fmatch) false (fun ix jx=>(.v (.int .i64 (nvS.get 0 m.fmatch ix)))),.v (.int .i64 m.fbase),.vec 1 0 1 0 (nvS.len m.frun.fLevels),.vec 2 0 1 0 (nvS.len m.frun.fClasses),.vec 3 0 1 0 (nvS.len m.frun.fRemoved),.vec 4 0 3 0 (nvS.len m.fopen.fl),.v (.int .i64 m.fisolates),.v (.int .i64 m.fembeddings),.v (.int .i64 m.fvalid)],.arr 0 1 (nvS.len m.frun.fLevels) false (fun ix jx=>(.v (.int .i64 (nvS.get 0 m.frun.fLevels ix)))),.arr 0 1 (nvS.len m.frun.fClasses) false (fun ix jx=>(.v (.int .i64 (nvS.get 0 m.frun.fClasses ix)))),.arr 0 1 (nvS.len m.frun.fRemoved) false (fun ix jx=>(.v (.bool (nvS.get false m.frun.fRemoved ix)))),.arr 0 3 (nvS.len m.fopen.fl) false (fun ix jx=>(Zw nvS (nvS.get Zr m.fopen.fl ix) jx))] [.box 0 [.sl 1 (nvS.len r.fl) false (fun ix jx=>(.v (.int .i64 (nvS.get 0 r.fl ix)))),.sl 1 (nvS.len r.fmatch) false (fun ix jx=>(.v (.int .i64 (nvS.get 0 r.fmatch ix)))),.v (.int .i64 r.fbase),.vec 1 1 1 0 (nvS.len r.frun.fLevels),.vec 2 1 1 0 (nvS.len r.frun.fClasses),.vec 3 1 1 0 (nvS.len r.frun.fRemoved),.vec 4 1 3 0 (nvS.len r.fopen.fl),.v (.int .i64 r.fisolates),.v (.int .i64 r.fembeddings),.v (.int .i64 r.fvalid)],.arr 1 1 (nvS.len r.frun.fLevels) false (fun ix jx=>(.v (.int .i64 (nvS.get 0 r.frun.fLevels ix)))),.arr 1 1 (nvS.len r.frun.fClasses) false (fun ix jx=>(.v (.int .i64 (nvS.get 0 r.frun.fClasses ix)))),.arr 1 1 (nvS.len r.frun.fRemoved) false (fun ix jx=>(.v (.bool (nvS.get false r.frun.fRemoved ix)))),.arr 1 3 (nvS.len r.fopen.fl) false (fun ix jx=>(Zw nvS (nvS.get Zr r.fopen.fl ix) jx))] (.tup 0 (fun _=>.junk)):=by
  obtain ⟨m_l,m_match,m_base,⟨m_run_Levels,m_run_Classes,m_run_Removed⟩,⟨m_open_l⟩,m_isolates,m_embeddings,m_valid⟩:=m
  unfold Z2h at h
  try dsimp only at h
  refine Wfl Tryz.func121 (Zl Tryz.f121) fun ctr hc=>?_
  revert h
  refine Wyp 3 [] 5 [] (Wq ?_)
  intro h
  intros
  refine Zy h (ctr+3) [(22,10)] [(0,1),(3,1)] (fun o u=>Fa [] [(0,.box (0) [.sl 1 (nvS.len m_l) false (fun ix jx=>(.v (.int .i64 (nvS.get 0 m_l ix)))),.sl 1 (nvS.len m_match) false (fun ix jx=>(.v (.int .i64 (nvS.get 0 m_match ix)))),.v (.int .i64 m_base),.vec 1 (0) 1 0 (nvS.len m_run_Levels),.vec 2 (0) 1 0 (nvS.len m_run_Classes),.vec 3 (0) 1 0 (nvS.len m_run_Removed),.vec 4 (u.g 4) 3 0 (nvS.len o),.v (.int .i64 m_isolates),.v (.int .i64 0),.v (.int .i64 m_valid)]),(4,.arr (u.g 4) 3 (nvS.len o) (u.t 4) (fun ix jx=>(Zw nvS (nvS.get Zr o ix) jx)))]) (fun o uc ug ut ht hu hp h=>?_) (fun f h=>?_)
  · refine Wo0 ?_
    refine Wol 40 (fun r h=>ss_pop_ok (Z9.mk o) r h) fun v h6=>?_
    obtain ⟨v_l⟩:=v
    refine Wk [] 5 [] Wz
  · refine Tr.block ?_
    refine Wlp h (ctr+3) [(22,10)] [(0,1),(3,1)] (fun o1 u1=>Fa [] [(0,.box (0) [.sl 1 (nvS.len m_l) false (fun ix jx=>(.v (.int .i64 (nvS.get 0 m_l ix)))),.sl 1 (nvS.len m_match) false (fun ix jx=>(.v (.int .i64 (nvS.get 0 m_match ix)))),.v (.int .i64 m_base),.vec 1 (0) 1 0 (nvS.len m_run_Levels),.vec 2 (0) 1 0 (nvS.len m_run_Classes),.vec 3 (0) 1 0 (nvS.len m_run_Removed),.vec 4 (u1.g 4) 3 0 (nvS.len o1),.v (.int .i64 m_isolates),.v (.int .i64 0),.v (.int .i64 m_valid)]),(4,.arr (u1.g 4) 3 (nvS.len o1) (u1.t 4) (fun ix jx=>(Zw nvS (nvS.get Zr o1 ix) jx)))]) Yr (fun o1 u1c u1g u1t f ht hu hp h=>?_)
    refine Wo0 ?_
    refine Wo 30 4 (Z4v (Z9.mk o1)) fun v1 h12=>?_
    obtain ⟨v1_level,v1_override,v1_isolate⟩:=v1
    refine Wol 36 (fun r h=>ss_pop_ok (Z9.mk o1) r h) fun v2 h13=>?_
    obtain ⟨v2_l⟩:=v2
    refine Wk [] 5 [] Wz

theorem ss_size_ok (s:Z9) (r:Int) (h:ss_size s=some r):Ze Tryz.prog 153 [.imm 1 1 (fun _ j=>(Z1o nvS s j)) 0 0] ((.v (.int .i64 r))):=by
  obtain ⟨s_l⟩:=s
  unfold ss_size at h
  try dsimp only at h
  refine Wfn Tryz.func153 (Zl Tryz.f153) fun ctr hc=>?_
  refine Wx [] 0 [] Wz

theorem m_endEmbedding_ok (m:Z6) (r:(Z6)) (h:Z18 m=some r)   : X3 Tryz.prog 124 [.bref 0 0 0] [.box 0 [.sl 1 (nvS.len m.fl) false (fun ix jx=>(.v (.int .i64 (nvS.get 0 m.fl ix)))),.sl 1 (nvS.len m.fmatch) false (fun ix jx=>(.v (.int .i64 (nvS.get 0 m.fmatch ix)))),.v (.int .i64 m.fbase),.vec 1 0 1 0 (nvS.len m.frun.fLevels),.vec 2 0 1 0 (nvS.len m.frun.fClasses),.vec 3 0 1 0 (nvS.len m.frun.fRemoved),.vec 4 0 3 0 (nvS.len m.fopen.fl),.v (.int .i64 m.fisolates),.v (.int .i64 m.fembeddings),.v (.int .i64 m.fvalid)],.arr 0 1 (nvS.len m.frun.fLevels) false (fun ix jx=>(.v (.int .i64 (nvS.get 0 m.frun.fLevels ix)))),.arr 0 1 (nvS.len m.frun.fClasses) false (fun ix jx=>(.v (.int .i64 (nvS.get 0 m.frun.fClasses ix)))),.arr 0 1 (nvS.len m.frun.fRemoved) false (fun ix jx=>(.v (.bool (nvS.get false m.frun.fRemoved ix)))),.arr 0 3 (nvS.len m.fopen.fl) false (fun ix jx=>(Zw nvS (nvS.get Zr m.fopen.fl ix) jx))] [.box 0 [.sl 1 (nvS.len r.fl) false (fun ix jx=>(.v (.int .i64 (nvS.get 0 r.fl ix)))),.sl 1 (nvS.len r.fmatch) false (fun ix jx=>(.v (.int .i64 (nvS.get 0 r.fmatch ix)))),.v (.int .i64 r.fbase),.vec 1 1 1 0 (nvS.len r.frun.fLevels),.vec 2 1 1 0 (nvS.len r.frun.fClasses),.vec 3 1 1 0 (nvS.len r.frun.fRemoved),.vec 4 1 3 0 (nvS.len r.fopen.fl),.v (.int .i64 r.fisolates),.v (.int .i64 r.fembeddings),.v (.int .i64 r.fvalid)],.arr 1 1 (nvS.len r.frun.fLevels) false (fun ix jx=>(.v (.int .i64 (nvS.get 0 r.frun.fLevels ix)))),.arr 1 1 (nvS.len r.frun.fClasses) false (fun ix jx=>(.v (.int .i64 (nvS.get 0 r.frun.fClasses ix)))),.arr 1 1 (nvS.len r.frun.fRemoved) false (fun ix jx=>(.v (.bool (nvS.get false r.frun.fRemoved ix)))),.arr 1 3 (nvS.len r.fopen.fl) false (fun ix jx=>(Zw nvS (nvS.get Zr r.fopen.fl ix) jx))] (.tup 0 (fun _=>.junk)):=by
  obtain ⟨m_l,m_match,m_base,⟨m_run_Levels,m_run_Classes,m_run_Removed⟩,⟨m_open_l⟩,m_isolates,m_embeddings,m_valid⟩:=m
  unfold Z18 at h
  try dsimp only at h
  refine Wfl Tryz.func124 (Zl Tryz.f124) fun ctr hc=>?_
  refine Wo0 ?_
  refine Wo 30 4 (Z4v (Z9.mk m_open_l)) fun v h2=>?_
  obtain ⟨v_level,v_override,v_isolate⟩:=v
  refine Wog 37 4 (!v_isolate) (ss_size_ok (Z9.mk m_open_l)) 0 fun v1 h3=>?_
  refine Wol 43 (fun r h=>ss_pop_ok (Z9.mk m_open_l) r h) fun v2 h4=>?_
  obtain ⟨v2_l⟩:=v2
  refine Wk [] 5 [] Wz

theorem embed_Explicit_ok (l':(List Int)) (base:Int) (r:Zn) (h:Xc l' base=some r):Ze Tryz.prog 90 [(.sl 1 (nvS.len l') false (fun ix jx=>(.v (.int .i64 (nvS.get 0 l' ix))))),(.v (.int .i64 base))] ((.agg 3 (fun j=>(Z16 nvS r j)))):=by
  unfold Xc at h
  refine Wfn Tryz.func90 (Zl Tryz.f90) fun ctr hc=>?_
  refine Wo0 ?_
  refine Wo 9 0 (embed_known_ok l') fun v11 h67=>?_
  refine Wo 12 0 (Z2q v11) fun v12 h68=>?_
  refine Wo 14 0 (Z6l base) fun v13 h69=>?_
  refine Wkc 4 [] 0 [] h ctr [(0,1),(3,2),(2,18)] [(0,1),(3,2),(12,1),(1,1),(2,1)] (fun (l'1,b5_0,b5_1,b5_2,o,o1,o2,o3) u=>Fa [(0,.sl 1 (nvS.len l'1) false (fun ix jx=>(.v (.int .i64 (nvS.get 0 l'1 ix))))),(4,.bref 4 (u.g 4) 0),(5,.bref 5 (u.g 5) 0)] [(0,.arr (u.g 0) 3 (nvS.len o3) (u.t 0) (fun ix jx=>(Zw nvS (nvS.get Zr o3 ix) jx))),(4,.box (u.g 4) [.nilsl,.nilsl,.nilsl]),(5,.box (u.g 5) [.sl 1 (nvS.len b5_0) false (fun ix jx=>(.v (.int .i64 (nvS.get 0 b5_0 ix)))),.sl 1 (nvS.len b5_1) false (fun ix jx=>(.v (.int .i64 (nvS.get 0 b5_1 ix)))),.v (.int .i64 b5_2),.vec 18 (u.g 18) 1 0 (nvS.len o),.vec 20 (u.g 20) 1 0 (nvS.len o1),.vec 23 (u.g 23) 1 0 (nvS.len o2),.vec 0 (u.g 0) 3 0 (nvS.len o3),.v (.int .i64 0),.v (.int .i64 0),.v (.int .i64 0)]),(18,.arr (u.g 18) 1 (nvS.len o) (u.t 18) (fun ix jx=>(.v (.int .i64 (nvS.get 0 o ix))))),(20,.arr (u.g 20) 1 (nvS.len o1) (u.t 20) (fun ix jx=>(.v (.int .i64 (nvS.get 0 o1 ix))))),(23,.arr (u.g 23) 1 (nvS.len o2) (u.t 23) (fun ix jx=>(.v (.bool (nvS.get false o2 ix)))))]) (fun x uc ug ut ht hu hp h=>?_) (fun f h=>Wz)
  obtain ⟨l'1,b5_0,b5_1,b5_2,o,o1,o2,o3⟩:=x
  try dsimp only at hp h
  refine Wo0 ?_
  refine Wol 30 (fun r h=>ss_push_ok (Z9.mk o3) (Y8.mk b5_2 14 false) r h) fun v h7=>?_
  obtain ⟨v_l⟩:=v
  revert h
  refine Wjp 1 [] 0 [] (Wq ?_)
  intro h
  intros
  refine Zy h (uc+1) [(6,2),(23,49)] [(0,1),(4,1),(12,1),(1,1),(2,1)] (fun (b5_01,b5_11,b5_21,b5_7,b5_8,b5_9,o4,o5,o6,o7) u1=>Fa [] [(0,.arr (u1.g 0) 3 (nvS.len o7) (u1.t 0) (fun ix jx=>(Zw nvS (nvS.get Zr o7 ix) jx))),(5,.box (ug 5) [.sl 1 (nvS.len b5_01) false (fun ix jx=>(.v (.int .i64 (nvS.get 0 b5_01 ix)))),.sl 1 (nvS.len b5_11) false (fun ix jx=>(.v (.int .i64 (nvS.get 0 b5_11 ix)))),.v (.int .i64 b5_21),.vec 18 (u1.g 18) 1 0 (nvS.len o4),.vec 20 (u1.g 20) 1 0 (nvS.len o5),.vec 23 (u1.g 23) 1 0 (nvS.len o6),.vec 0 (u1.g 0) 3 0 (nvS.len o7),.v (.int .i64 b5_7),.v (.int .i64 b5_8),.v (.int .i64 b5_9)]),(18,.arr (u1.g 18) 1 (nvS.len o4) (u1.t 18) (fun ix jx=>(.v (.int .i64 (nvS.get 0 o4 ix))))),(20,.arr (u1.g 20) 1 (nvS.len o5) (u1.t 20) (fun ix jx=>(.v (.int .i64 (nvS.get 0 o5 ix))))),(23,.arr (u1.g 23) 1 (nvS.len o6) (u1.t 23) (fun ix jx=>(.v (.bool (nvS.get false o6 ix)))))]) (fun x u1c u1g u1t ht hu hp h=>?_) (fun f h=>?_)
  · obtain ⟨b5_01,b5_11,b5_21,b5_7,b5_8,b5_9,o4,o5,o6,o7⟩:=x
    try dsimp only at hp h
    refine Wx [] 0 [] Wz
  · revert h
    refine Wyp 1 [] 0 [] (Wq ?_)
    intro h
    intros
    refine Tr.block ?_
    refine Wlp h (uc+2) [(6,2),(25,47)] [(0,1),(4,1),(12,1),(1,1),(2,1)] (fun (v1,b5_02,b5_12,b5_22,b5_71,b5_81,b5_91,o8,o9,o10,o11) u2=>Fa [(33,.v (.int .i64 v1))] [(0,.arr (u2.g 0) 3 (nvS.len o11) (u2.t 0) (fun ix jx=>(Zw nvS (nvS.get Zr o11 ix) jx))),(5,.box (ug 5) [.sl 1 (nvS.len b5_02) false (fun ix jx=>(.v (.int .i64 (nvS.get 0 b5_02 ix)))),.sl 1 (nvS.len b5_12) false (fun ix jx=>(.v (.int .i64 (nvS.get 0 b5_12 ix)))),.v (.int .i64 b5_22),.vec 18 (u2.g 18) 1 0 (nvS.len o8),.vec 20 (u2.g 20) 1 0 (nvS.len o9),.vec 23 (u2.g 23) 1 0 (nvS.len o10),.vec 0 (u2.g 0) 3 0 (nvS.len o11),.v (.int .i64 b5_71),.v (.int .i64 b5_81),.v (.int .i64 b5_91)]),(18,.arr (u2.g 18) 1 (nvS.len o8) (u2.t 18) (fun ix jx=>(.v (.int .i64 (nvS.get 0 o8 ix))))),(20,.arr (u2.g 20) 1 (nvS.len o9) (u2.t 20) (fun ix jx=>(.v (.int .i64 (nvS.get 0 o9 ix))))),(23,.arr (u2.g 23) 1 (nvS.len o10) (u2.t 23) (fun ix jx=>(.v (.bool (nvS.get false o10 ix)))))]) Yr (fun x u2c u2g u2t f ht hu hp h=>?_)
    obtain ⟨v1,b5_02,b5_12,b5_22,b5_71,b5_81,b5_91,o8,o9,o10,o11⟩:=x
    try dsimp only at hp h
    revert h
    refine Wyp 2 [] 0 [] (Wq ?_)
    intro h
    intros
    refine Zy h (u2c+1) [(6,2),(27,44)] [(0,1),(4,1),(12,1),(1,1),(2,1)] (fun (b5_03,b5_13,b5_23,b5_72,b5_82,b5_92,o12,o13,o14,o15) u3=>Fa [] [(0,.arr (u3.g 0) 3 (nvS.len o15) (u3.t 0) (fun ix jx=>(Zw nvS (nvS.get Zr o15 ix) jx))),(5,.box (ug 5) [.sl 1 (nvS.len b5_03) false (fun ix jx=>(.v (.int .i64 (nvS.get 0 b5_03 ix)))),.sl 1 (nvS.len b5_13) false (fun ix jx=>(.v (.int .i64 (nvS.get 0 b5_13 ix)))),.v (.int .i64 b5_23),.vec 18 (u3.g 18) 1 0 (nvS.len o12),.vec 20 (u3.g 20) 1 0 (nvS.len o13),.vec 23 (u3.g 23) 1 0 (nvS.len o14),.vec 0 (u3.g 0) 3 0 (nvS.len o15),.v (.int .i64 b5_72),.v (.int .i64 b5_82),.v (.int .i64 b5_92)]),(18,.arr (u3.g 18) 1 (nvS.len o12) (u3.t 18) (fun ix jx=>(.v (.int .i64 (nvS.get 0 o12 ix))))),(20,.arr (u3.g 20) 1 (nvS.len o13) (u3.t 20) (fun ix jx=>(.v (.int .i64 (nvS.get 0 o13 ix))))),(23,.arr (u3.g 23) 1 (nvS.len o14) (u3.t 23) (fun ix jx=>(.v (.bool (nvS.get false o14 ix)))))]) (fun x u3c u3g u3t ht hu hp h=>?_) (fun f h=>?_)
    · obtain ⟨b5_03,b5_13,b5_23,b5_72,b5_82,b5_92,o12,o13,o14,o15⟩:=x
      try dsimp only at hp h
      refine Wx [] 0 [] Wz
    · refine Tr.block ?_
      revert h
      refine Wyp 2 [] 0 [] (Wq ?_)
      intro h
      intros
      refine Tr.block ?_
      refine Zy h (u2c+3) [(41,5)] [] (fun v2 u4=>Fa [(41,.v (.bool v2))] []) (fun v2 u4c u4g u4t ht hu hp h=>?_) (fun f h=>?_)
      · refine Wcond h rfl (fun _ h=>?_) (fun _ h=>?_)
        · refine Wo0 ?_
          refine Wol 48 (fun r h=>m_embed_ok (Z6.mk b5_02 b5_12 b5_22 (Zn.mk o8 o9 o10) (Z9.mk o11) b5_71 b5_81 b5_91) v1 (Z1 0 l'1 v1) r h) fun v3 h59=>?_
          obtain ⟨v3_l,v3_match,v3_base,⟨v3_run_Levels,v3_run_Classes,v3_run_Removed⟩,⟨v3_open_l⟩,v3_isolates,v3_embeddings,v3_valid⟩:=v3
          refine Wk [] 0 [] Wz
        · refine Zy h u4c [(49,4)] [] (fun v4 u5=>Fa [(49,.v (.bool v4))] []) (fun v4 u5c u5g u5t ht hu hp h=>?_) (fun f h=>?_)
          · refine Wo0 ?_
            refine Wol 55 (fun r h=>m_isolate_ok (Z6.mk b5_02 b5_12 b5_22 (Zn.mk o8 o9 o10) (Z9.mk o11) b5_71 b5_81 b5_91) v1 (Z1 0 l'1 v1) r h) fun v5 h60=>?_
            obtain ⟨v5_l,v5_match,v5_base,⟨v5_run_Levels,v5_run_Classes,v5_run_Removed⟩,⟨v5_open_l⟩,v5_isolates,v5_embeddings,v5_valid⟩:=v5
            refine Wol 58 (fun r h=>m_endIsolate_ok (Z6.mk b5_02 b5_12 b5_22 (Zn.mk o8 o9 o10) (Z9.mk o11) b5_71 b5_81 b5_91) r h) fun v6 h61=>?_
            obtain ⟨v6_l,v6_match,v6_base,⟨v6_run_Levels,v6_run_Classes,v6_run_Removed⟩,⟨v6_open_l⟩,v6_isolates,v6_embeddings,v6_valid⟩:=v6
            refine Wol 60 (fun r h=>m_take_ok (Z6.mk v6_l v6_match v6_base (Zn.mk v6_run_Levels v6_run_Classes v6_run_Removed) (Z9.mk v6_open_l) v6_isolates v6_embeddings v6_valid) v1 r h) fun v7 h62=>?_
            obtain ⟨v7_l,v7_match,v7_base,⟨v7_run_Levels,v7_run_Classes,v7_run_Removed⟩,⟨v7_open_l⟩,v7_isolates,v7_embeddings,v7_valid⟩:=v7
            refine Wol 64 (fun r h=>m_remove_ok (Z6.mk b5_02 b5_12 b5_22 (Zn.mk o8 o9 o10) (Z9.mk o11) b5_71 b5_81 b5_91) v1 r h) fun v8 h63=>?_
            obtain ⟨v8_l,v8_match,v8_base,⟨v8_run_Levels,v8_run_Classes,v8_run_Removed⟩,⟨v8_open_l⟩,v8_isolates,v8_embeddings,v8_valid⟩:=v8
            refine Wol 65 (fun r h=>m_endEmbedding_ok (Z6.mk v8_l v8_match v8_base (Zn.mk v8_run_Levels v8_run_Classes v8_run_Removed) (Z9.mk v8_open_l) v8_isolates v8_embeddings v8_valid) r h) fun v9 h64=>?_
            obtain ⟨v9_l,v9_match,v9_base,⟨v9_run_Levels,v9_run_Classes,v9_run_Removed⟩,⟨v9_open_l⟩,v9_isolates,v9_embeddings,v9_valid⟩:=v9
            refine Wodl 78 h63 ?_
            refine Wol 40 (fun r h=>m_take_ok (Z6.mk b5_02 b5_12 b5_22 (Zn.mk o8 o9 o10) (Z9.mk o11) b5_71 b5_81 b5_91) v1 r h) fun v10 h66=>?_
            obtain ⟨v10_l,v10_match,v10_base,⟨v10_run_Levels,v10_run_Classes,v10_run_Removed⟩,⟨v10_open_l⟩,v10_isolates,v10_embeddings,v10_valid⟩:=v10
            refine Wk [] 0 [] Wz
          · refine Wx [] 0 [] Wz
      · refine Wx [] 0 [] Wz

theorem Z8h (l':(List Int)) (r':Zn) (r:Bool) (h:Z3a l' r'=some r):Ze Tryz.prog 125 [(.sl 1 (nvS.len l') false (fun ix jx=>(.v (.int .i64 (nvS.get 0 l' ix))))),(.agg 3 (fun j=>(Z16 nvS r' j)))] ((.v (.bool r))):=by
  obtain ⟨r_Levels,r_Classes,r_Removed⟩:=r'
  unfold Z3a at h
  try dsimp only at h
  refine Wfn Tryz.func125 (Zl Tryz.f125) fun ctr hc=>?_
  refine Wx [] 0 [] Wz

theorem embed_runs_ok (r':Zn) (r:(List (List Int))) (h:Z4q r'=some r):Ze Tryz.prog 126 [(.agg 3 (fun j=>(Z16 nvS r' j)))] (.own 1 (nvS.len r) false (fun ix jx=>(.sl 1 (nvS.len (nvS.get [] r ix)) false (fun ix1 jx1=>(.v (.int .i64 (nvS.get 0 (nvS.get [] r ix) ix1))))))):=by
  obtain ⟨r_Levels,r_Classes,r_Removed⟩:=r'
  unfold Z4q at h
  try dsimp only at h
  refine fn_tr Z1u Tryz.func126 (by kernel_rfl) (c:=Zl Tryz.f126) (by kernel_rfl) ?_
  intro ctr hc
  refine Tr.pre (cx:=⟨tt0,⟨fun f=>kOf [] f,fun k _ _ _=>orcL [] k,fun t=>memN [] t⟩,0,fun r=>ghL [] r⟩) Z1u hPm 2 fun N hN=>?_
  generalize hp:std Tryz.prog=p
  generalize hv:nvS=nv
  cbv
  subst hp
  subst hv
  subst hN
  show Tr _ _ _ _
  refine Tr.cutSeq (α:=List (List Int)) h (fun out t'=>⟨frm 58 [(3,.vec 43 (t'.g 43) 1 0 (nvS.len out))] 0,frO 58 [(0,.arr (t'.g 0) 1 (nvS.len (nvS.get [] out ((std Tryz.prog).sub (nvS.len out) 1))) (t'.t 0) (fun ix jx=>(.v (.int .i64 (nvS.get 0 (nvS.get [] out ((std Tryz.prog).sub (nvS.len out) 1)) ix))))),(43,.arr (t'.g 43) 1 (nvS.len out) (t'.t 43) (fun ix jx=>.cnd ((std Tryz.prog).eq ix ((std Tryz.prog).sub (nvS.len out) 1)) (.vec 0 (t'.g 0) 1 0 (nvS.len (nvS.get [] out ((std Tryz.prog).sub (nvS.len out) 1)))) (.sl 1 (nvS.len (nvS.get [] out ix)) false (fun ix1 jx1=>(.v (.int .i64 (nvS.get 0 (nvS.get [] out ix) ix1)))))))] 0,t'.c⟩) (fun _ t=>Hid.ok t) (fun x t' ht' h=>?_) (fun f h=>?_)
  · revert h;revert ht';revert x;intro out ht' h
    obtain ⟨t'_c,t'_g,t'_t⟩:=t'
    have ht'_c:0 < t'_c:=ht'.1
    have ht'_g : ∀ k,t'_g k < t'_c:=ht'.2
    refine Tr.chunk (cx:=⟨tt0,⟨fun f=>kOf [] f,fun k _ _ _=>orcL [] k,fun t=>memN [] t⟩,0,fun r=>ghL [(11,[.cool 43 0 (fun ix jx=>(.sl 1 (nvS.len (nvS.get [] out ix)) false (fun ix1 jx1=>(.v (.int .i64 (nvS.get 0 (nvS.get [] out ix) ix1))))))])] r⟩) Z1u hPm fun N hN=>?_
    generalize hp:std Tryz.prog=p
    generalize hv:nvS=nv
    cbv
    subst hp
    subst hv
    refine ⟨(coolP (P:=Tryz.prog) (fun x j=>(.v (.int .i64 x))) 0 out 0 (t'_g 0) 1 _ ((Z0 out)-1) (fun _ _=>Zt _ _)),?_⟩
    subst hN
    have hr:=Option.some.inj h
    subst hr
    try dsimp only [noGoto,Z5r,Z50]
    repeat (first | refine (if_pos rfl).mpr ?_ | refine (if_neg (by decide)).mpr ?_)
    refine retQ_ret rfl ?_ ?_
    · exact trivial
    · exact (And.intro (rfl)
          (And.intro (by first | with_reducible rfl | with_reducible assumption | (symm;with_reducible assumption) | ((try dsimp only [X4,Z0e,nvS])<;>first | with_reducible rfl | omega | (simp (disch:=first | omega | (simp only [Zq,Zf,Zh,Zo]<;>omega)) only [Ym,Zq,Zf,Zh,Zo,Y3,Ye,Xj,Int.ofNat_eq_natCast,Int.zero_add,Int.sub_zero]<;>first | done | omega | with_reducible assumption)) | rfl)
          (And.intro (fun h=>by cases h)
          (out0_all (fun i j=>Y0 (fun i j=>Zt _ _)) (fun i i0 i1 j hj=>by (try dsimp only [X4,Z0e,nvS] at i1);(try simp only [Int.ofNat_eq_natCast,Zf,Zh,Zo,Zq,Ym] at i1);(try simp (disch:=first | omega | (simp only [Zq,Zf,Zh,Zo]<;>omega)) only [Ye,Y3,Xj,Int.zero_add,Int.sub_zero] at i1);(obtain rfl:j=0:=(by omega))<;>(conv=>lhs;whnf)<;>(conv=>rhs;whnf)<;>(try dsimp only [X4,Z0e,nvS])<;>(first | rfl | (simp (disch:=first | omega | (simp only [Zq,Zf,Zh,Zo]<;>omega)) only [getL_bytes,Zk,Yi,Z3u,Z0r,Ye,addSubL,getL_cpy,Int.zero_add,Int.sub_zero,beq_iff_eq,decide_eq_true_eq,Bool.and_eq_true]<;>first | rfl | (split<;>first | rfl | (simp (disch:=first | omega | (simp only [Zq,Zf,Zh,Zo]<;>omega)) only [Q0,Q3]<;>rfl)) | (simp (disch:=omega) only [Q0,Q3]<;>rfl) | ((simp only [Zf,Zh,Zo,Int.ofNat_eq_natCast])<;>(repeat' split)<;>first | rfl | (exfalso;omega) | (simp (disch:=omega) only [Q0,Q3]<;>rfl) | (congr 3;omega)))))))))
  · refine Tr.pre (cx:=⟨tt0,⟨fun f=>kOf [] f,fun k _ _ _=>orcL [] k,fun t=>memN [] t⟩,0,fun r=>ghL [] r⟩) Z1u hPm 1 fun N hN=>?_
    generalize hp:std Tryz.prog=p
    generalize hv:nvS=nv
    cbv
    subst hp
    subst hv
    refine ⟨rfl,?_⟩
    subst hN
    show Tr _ _ _ _
    refine Tr.block ?_
    refine Tr.loopO (α:=Int × List (List Int)) (fun (v,Zb) t'1=>⟨frm 58 [(1,.bref 1 (t'1.g 1) 0),(3,.vec 43 (t'1.g 43) 1 0 (nvS.len Zb)),(8,.sl 1 (nvS.len r_Removed) false (fun ix jx=>(.v (.bool (nvS.get false r_Removed ix))))),(9,.v (.int .i64 (nvS.len r_Removed))),(10,.v (.int .i64 v))] 0,frO 58 [(0,.arr (t'1.g 0) 1 (nvS.len (nvS.get [] Zb ((std Tryz.prog).sub (nvS.len Zb) 1))) (t'1.t 0) (fun ix jx=>(.v (.int .i64 (nvS.get 0 (nvS.get [] Zb ((std Tryz.prog).sub (nvS.len Zb) 1)) ix))))),(1,.box (t'1.g 1) [.sl 1 (nvS.len r_Levels) false (fun ix jx=>(.v (.int .i64 (nvS.get 0 r_Levels ix)))),.sl 1 (nvS.len r_Classes) false (fun ix jx=>(.v (.int .i64 (nvS.get 0 r_Classes ix)))),.sl 1 (nvS.len r_Removed) false (fun ix jx=>(.v (.bool (nvS.get false r_Removed ix))))]),(43,.arr (t'1.g 43) 1 (nvS.len Zb) (t'1.t 43) (fun ix jx=>.cnd ((std Tryz.prog).eq ix ((std Tryz.prog).sub (nvS.len Zb) 1)) (.vec 0 (t'1.g 0) 1 0 (nvS.len (nvS.get [] Zb ((std Tryz.prog).sub (nvS.len Zb) 1)))) (.sl 1 (nvS.len (nvS.get [] Zb ix)) false (fun ix1 jx1=>(.v (.int .i64 (nvS.get 0 (nvS.get [] Zb ix) ix1)))))))] 0,t'1.c⟩) (fun _ t=>Hid.ok t) ⟨ctr+14,gfn [(0,ctr+4),(1,ctr+0),(43,ctr+3)],tfn [(0,false),(1,false),(43,false)]⟩ h ?_ ?_ (fun x t'1 f ht'1 h=>?_)
    · exact Hid.mk_ok (by omega) (And.intro (by omega)
          (And.intro (by omega)
          (And.intro (by omega)
          trivial)))
    · refine GeSt.by [.thaw (.slot 3) 43 1,.empty 0 1] rfl ?_ ?_
      · exact trivial
      · exact LeSt.frame (show ctr+5 < ctr+14 by omega) rfl rfl (And.intro ⟨_,rfl,LeD.refl _⟩
            (And.intro ⟨_,rfl,LeD.refl _⟩
            (And.intro ⟨_,rfl,LeD.refl _⟩
            (And.intro ⟨_,rfl,LeD.refl _⟩
            (And.intro ⟨_,rfl,LeD.refl _⟩
            trivial))))) (And.intro ⟨_,rfl,Qh.arr' rfl (fun i i0 i1 j hj=>by exfalso;revert i1;show i < (0:Int)→False;omega)⟩
            (And.intro ⟨_,rfl,Qh.box (And.intro (LeD.refl _)
            (And.intro (LeD.refl _)
            (And.intro (LeD.refl _)
            trivial)))⟩
            (And.intro ⟨_,rfl,Qh.arr' rfl (fun i i0 i1 j hj=>by exfalso;revert i1;show i < (0:Int)→False;omega)⟩
            trivial)))
    · obtain ⟨v,Zb⟩:=x
      try dsimp only at h
      obtain ⟨t'1_c,t'1_g,t'1_t⟩:=t'1
      have ht'1_c:0 < t'1_c:=ht'1.1
      have ht'1_g : ∀ k,t'1_g k < t'1_c:=ht'1.2
      refine Tr.chunk (cx:=⟨tt0,⟨fun f=>kOf [] f,fun k _ _ _=>orcL [] k,fun t=>memN [42,53] t⟩,0,fun r=>ghL [(8,[.cool 43 0 (fun ix jx=>(.sl 1 (nvS.len (nvS.get [] Zb ix)) false (fun ix1 jx1=>(.v (.int .i64 (nvS.get 0 (nvS.get [] Zb ix) ix1))))))])] r⟩) Z1u hPm fun N hN=>?_
      generalize hp:std Tryz.prog=p
      generalize hv:nvS=nv
      cbv
      subst hp
      subst hv
      refine ⟨fun h63=>?_,fun h63=>?_⟩
      · replace h:=iteO_t h h63
        replace h:=X9 h;obtain ⟨h64,h⟩:=h
        try (have h64z:=h64;simp only [Int.zero_add] at h64z)
        refine ⟨h64,?_⟩
        refine ⟨fun h65=>?_,fun h65=>?_⟩
        · replace h:=iteO_t h h65
          replace h:=X9 h;obtain ⟨h66,h⟩:=h
          refine ⟨h66,?_⟩
          subst hN
          cases h
          show ∃ t',_∧GeSt _ _ _
          refine ⟨⟨t'1_c+13,gfn [(0,t'1_g 0),(1,t'1_g 1),(43,t'1_g 43)],tfn [(0,t'1_t 0),(1,false),(43,t'1_t 43)]⟩,Hid.mk_ok (by omega) (And.intro (by have:=ht'1_g 0;omega)
              (And.intro (by have:=ht'1_g 1;omega)
              (And.intro (by have:=ht'1_g 43;omega)
              trivial))),?_⟩
          exact GeSt.of (LeSt.frame (by show (_:Nat) < _;(try dsimp only [X4,Z0e]);omega) rfl rfl (And.intro ⟨_,rfl,LeD.refl _⟩
              (And.intro ⟨_,rfl,(by first | exact LeD.refl _ | exact LeD.vec rfl (by first | with_reducible rfl | with_reducible assumption | (symm;with_reducible assumption) | ((try dsimp only [X4,Z0e,nvS])<;>first | with_reducible rfl | omega | (simp (disch:=first | omega | (simp only [Zq,Zf,Zh,Zo]<;>omega)) only [Ym,Zq,Zf,Zh,Zo,Y3,Ye,Xj,Int.ofNat_eq_natCast,Int.zero_add,Int.sub_zero]<;>first | done | omega | with_reducible assumption)) | rfl))⟩
              (And.intro ⟨_,rfl,LeD.refl _⟩
              (And.intro ⟨_,rfl,LeD.refl _⟩
              (And.intro ⟨_,rfl,LeD.refl _⟩
              trivial))))) (And.intro ⟨_,rfl,Qh.refl _⟩
              (And.intro ⟨_,rfl,Qh.box (And.intro (LeD.refl _)
              (And.intro (LeD.refl _)
              (And.intro (LeD.refl _)
              trivial)))⟩
              (And.intro ⟨_,rfl,Qh.refl _⟩
              trivial))))
        · replace h:=iteO_f h h65
          replace h:=X9 h;obtain ⟨h67,h⟩:=h
          replace h:=X9 h;obtain ⟨h68,h⟩:=h
          replace h:=X9 h;obtain ⟨h69,h⟩:=h
          replace h:=X9 h;obtain ⟨h70,h⟩:=h
          replace h:=X9 h;obtain ⟨h71,h⟩:=h
          refine ⟨(fun hg=>hg),(fun _=>rfl),(fun hg=>hg),h67,(fun hg=>hg),(fun hg=>hg),h68,(fun hg=>hg),(fun _=>rfl),(fun hg=>hg),(fun hg=>by dsimp only [X4,Z0e] at hg ⊢;simp_all),h69,(fun hg=>hg),(fun _=>rfl),(fun hg=>hg),(fun hg=>hg),h70,(fun hg=>hg),(fun hg=>hg),(fun _=>rfl),(fun hg=>hg),(fun hg=>hg),h71,(fun hg=>hg),(fun hg=>hg),(fun hg=>hg),(fun hg=>hg),(show drOk _ _ _=true by kernel_rfl),?_⟩
          refine ⟨fun h72=>?_,fun h72=>?_⟩
          · replace h:=iteO_t h h72
            replace h:=X9 h;obtain ⟨h73,h⟩:=h
            refine ⟨(coolP (P:=Tryz.prog) (fun x j=>(.v (.int .i64 x))) 0 Zb 0 (t'1_g 0) 1 _ ((Z0 Zb)-1) (fun _ _=>Zt _ _)),rfl,(by have:=ht'1_g 43;show (_:Nat) < _;(try dsimp only [X4,Z0e]);omega),h73,?_⟩
            replace h:=X9 h;obtain ⟨h74,h⟩:=h
            refine ⟨h74,?_⟩
            subst hN
            cases h
            show ∃ t',_∧GeSt _ _ _
            refine ⟨⟨t'1_c+18,gfn [(0,t'1_c+8),(1,t'1_g 1),(43,t'1_c+6)],tfn [(0,true),(1,false),(43,false)]⟩,Hid.mk_ok (by omega) (And.intro (by omega)
                (And.intro (by have:=ht'1_g 1;omega)
                (And.intro (by omega)
                trivial))),?_⟩
            refine GeSt.by [.heat 43 41 0 (fun ix jx=>.cnd ((std Tryz.prog).eq ix ((std Tryz.prog).sub (nvS.len (nvS.app Zb ([([v]:List Int)]:List (List Int)))) 1)) (.vec 0 (t'1_c+8) 1 0 (nvS.len (nvS.get [] (nvS.app Zb ([([v]:List Int)]:List (List Int))) ((std Tryz.prog).sub (nvS.len (nvS.app Zb ([([v]:List Int)]:List (List Int)))) 1)))) (.sl 1 (nvS.len (nvS.get [] (nvS.app Zb ([([v]:List Int)]:List (List Int))) ix)) false (fun ix1 jx1=>(.v (.int .i64 (nvS.get 0 (nvS.get [] (nvS.app Zb ([([v]:List Int)]:List (List Int))) ix) ix1))))))] rfl ?_ ?_
            · exact (And.intro (heatA (E:=(fun x j=>(.v (.int .i64 x)))) (d:=0) (out':=(Zb++([([v]:List Int)]:List (List Int)))) (by (try dsimp only [X4,Z0e,nvS]);first | omega | (simp (disch:=first | omega | (simp only [Zq,Zf,Zh,Zo]<;>omega)) only [Ym,Zq,Zf,Zh,Zo,Y3,Ye,Xj,Int.ofNat_eq_natCast,Int.zero_add,Int.sub_zero]<;>omega)) (by (try dsimp only [X4,Z0e,nvS]);first | omega | (simp (disch:=first | omega | (simp only [Zq,Zf,Zh,Zo]<;>omega)) only [Ym,Zq,Zf,Zh,Zo,Y3,Ye,Xj,Int.ofNat_eq_natCast,Int.zero_add,Int.sub_zero]<;>omega)) (by have e:=(show (Z1 [] (Zb++([([v]:List Int)]:List (List Int))) ((Z0 (Zb++([([v]:List Int)]:List (List Int))))-1))=([v]:List Int) from (by simp (disch:=first | omega | (simp only [Zq,Zf,Zh,Zo]<;>omega)) [Qx,Zk,Yi,Q3,Q0,Zq,Zf,Zh,Zo]));(try dsimp only [X4,Z0e,nvS]);first | (rw [e];first | rfl | (simp (disch:=first | omega | (simp only [Zq,Zf,Zh,Zo]<;>omega)) only [Ym,Zq,Zf,Zh,Zo,Y3,Ye,Xj,Int.ofNat_eq_natCast]<;>first | done | omega)) | omega) (fun _=>rfl) (fun _ _=>rfl) (fun _ _=>rfl) (fun i i0 i1=>encL_out (E:=(fun x j=>(.v (.int .i64 x)))) (d:=0) (out:=Zb) (out':=(Zb++([([v]:List Int)]:List (List Int)))) (i:=0+i) (i2:=i) (fun _ _=>Zt _ _) (by (try dsimp only [X4,Z0e,nvS] at i1);rw [Yi i0,if_pos i1,Int.zero_add])) (fun _=>rfl))
                  trivial)
            · exact LeSt.frame (show t'1_c+9 < t'1_c+18 by omega) rfl rfl (And.intro ⟨_,rfl,LeD.refl _⟩
                  (And.intro ⟨_,rfl,LeD.vec rfl (by first | with_reducible rfl | with_reducible assumption | (symm;with_reducible assumption) | ((try dsimp only [X4,Z0e,nvS])<;>first | with_reducible rfl | omega | (simp (disch:=first | omega | (simp only [Zq,Zf,Zh,Zo]<;>omega)) only [Ym,Zq,Zf,Zh,Zo,Y3,Ye,Xj,Int.ofNat_eq_natCast,Int.zero_add,Int.sub_zero]<;>first | done | omega | with_reducible assumption)) | rfl)⟩
                  (And.intro ⟨_,rfl,LeD.refl _⟩
                  (And.intro ⟨_,rfl,LeD.refl _⟩
                  (And.intro ⟨_,rfl,LeD.refl _⟩
                  trivial))))) (And.intro ⟨_,rfl,(by have e:=(show (Z1 [] (Zb++([([v]:List Int)]:List (List Int))) ((Z0 (Zb++([([v]:List Int)]:List (List Int))))-1))=([v]:List Int) from (by simp (disch:=first | omega | (simp only [Zq,Zf,Zh,Zo]<;>omega)) [Qx,Zk,Yi,Q3,Q0,Zq,Zf,Zh,Zo]));exact Qh.arrE (by have e:=(show (Z1 [] (Zb++([([v]:List Int)]:List (List Int))) ((Z0 (Zb++([([v]:List Int)]:List (List Int))))-1))=([v]:List Int) from (by simp (disch:=first | omega | (simp only [Zq,Zf,Zh,Zo]<;>omega)) [Qx,Zk,Yi,Q3,Q0,Zq,Zf,Zh,Zo]));(try dsimp only [X4,Z0e,nvS]);first | (rw [e];first | rfl | (simp (disch:=first | omega | (simp only [Zq,Zf,Zh,Zo]<;>omega)) only [Ym,Zq,Zf,Zh,Zo,Y3,Ye,Xj,Int.ofNat_eq_natCast]<;>first | done | omega)) | omega) (fun i i0 i1 j hj=>by (have i2:i < 1:=i1);(obtain rfl:i=0:=(by omega));(obtain rfl:j=0:=(by omega));(show (D.v (.int .i64 v))=(.v (.int .i64 (Z1 0 (Z1 [] (Zb++([([v]:List Int)]:List (List Int))) ((Z0 (Zb++([([v]:List Int)]:List (List Int))))-1)) 0))));(rw [e]);rfl))⟩
                  (And.intro ⟨_,rfl,Qh.box (And.intro (LeD.refl _)
                  (And.intro (LeD.refl _)
                  (And.intro (LeD.refl _)
                  trivial)))⟩
                  (And.intro ⟨_,rfl,Qh.arrE (by first | with_reducible rfl | with_reducible assumption | (symm;with_reducible assumption) | ((try dsimp only [X4,Z0e,nvS])<;>first | with_reducible rfl | omega | (simp (disch:=first | omega | (simp only [Zq,Zf,Zh,Zo]<;>omega)) only [Ym,Zq,Zf,Zh,Zo,Y3,Ye,Xj,Int.ofNat_eq_natCast,Int.zero_add,Int.sub_zero]<;>first | done | omega | with_reducible assumption)) | rfl) (fun i i0 i1 j hj=>rfl)⟩
                  trivial)))
          · replace h:=iteO_f h h72
            replace h:=X9 h;obtain ⟨h75,h⟩:=h
            replace h:=X9 h;obtain ⟨h76,h⟩:=h
            replace h:=X9 h;obtain ⟨h77,h⟩:=h
            try (have h77z:=h77;simp only [Int.zero_add] at h77z)
            replace h:=X9 h;obtain ⟨h78,h⟩:=h
            replace h:=X9 h;obtain ⟨h79,h⟩:=h
            try (have h79z:=h79;simp only [Int.zero_add] at h79z)
            refine ⟨h75,h76,h77,rfl,(by first | assumption | (dsimp only [X4,Z0e];simp_all)),rfl,h78,h79,rfl,?_⟩
            replace h:=X9 h;obtain ⟨h80,h⟩:=h
            refine ⟨h80,?_⟩
            subst hN
            cases h
            show ∃ t',_∧GeSt _ _ _
            refine ⟨⟨t'1_c+18,gfn [(0,t'1_c+8),(1,t'1_g 1),(43,t'1_g 43)],tfn [(0,false),(1,false),(43,t'1_t 43)]⟩,Hid.mk_ok (by omega) (And.intro (by omega)
                (And.intro (by have:=ht'1_g 1;omega)
                (And.intro (by have:=ht'1_g 43;omega)
                trivial))),?_⟩
            refine GeSt.by [.forget 0,.heat 43 54 0 (fun ix jx=>.cnd ((std Tryz.prog).eq ix ((std Tryz.prog).sub (nvS.len (nvS.set Zb ((std Tryz.prog).sub (nvS.len Zb) 1) (nvS.app (nvS.get [] Zb ((std Tryz.prog).sub (nvS.len Zb) 1)) ([v]:List Int)))) 1)) (.vec 0 (t'1_c+8) 1 0 (nvS.len (nvS.get [] (nvS.set Zb ((std Tryz.prog).sub (nvS.len Zb) 1) (nvS.app (nvS.get [] Zb ((std Tryz.prog).sub (nvS.len Zb) 1)) ([v]:List Int))) ((std Tryz.prog).sub (nvS.len (nvS.set Zb ((std Tryz.prog).sub (nvS.len Zb) 1) (nvS.app (nvS.get [] Zb ((std Tryz.prog).sub (nvS.len Zb) 1)) ([v]:List Int)))) 1)))) (.sl 1 (nvS.len (nvS.get [] (nvS.set Zb ((std Tryz.prog).sub (nvS.len Zb) 1) (nvS.app (nvS.get [] Zb ((std Tryz.prog).sub (nvS.len Zb) 1)) ([v]:List Int))) ix)) false (fun ix1 jx1=>(.v (.int .i64 (nvS.get 0 (nvS.get [] (nvS.set Zb ((std Tryz.prog).sub (nvS.len Zb) 1) (nvS.app (nvS.get [] Zb ((std Tryz.prog).sub (nvS.len Zb) 1)) ([v]:List Int))) ix) ix1))))))] rfl ?_ ?_
            · exact (And.intro (heatS (E:=(fun x j=>(.v (.int .i64 x)))) (d:=0) (out:=Zb) (out':=(Yc Zb ((Z0 Zb)-1) ((Z1 [] Zb ((Z0 Zb)-1))++([v]:List Int)))) (fun _ _=>Zt _ _) (by (try dsimp only [X4,Z0e,nvS]);first | omega | (simp (disch:=first | omega | (simp only [Zq,Zf,Zh,Zo]<;>omega)) only [Ym,Zq,Zf,Zh,Zo,Y3,Ye,Xj,Int.ofNat_eq_natCast,Int.zero_add,Int.sub_zero]<;>omega)) (by (try dsimp only [X4,Z0e,nvS]);first | omega | (simp (disch:=first | omega | (simp only [Zq,Zf,Zh,Zo]<;>omega)) only [Ym,Zq,Zf,Zh,Zo,Y3,Ye,Xj,Int.ofNat_eq_natCast,Int.zero_add,Int.sub_zero]<;>omega)) (by have e:=(show (Z1 [] (Yc Zb ((Z0 Zb)-1) ((Z1 [] Zb ((Z0 Zb)-1))++([v]:List Int))) ((Z0 (Yc Zb ((Z0 Zb)-1) ((Z1 [] Zb ((Z0 Zb)-1))++([v]:List Int))))-1))=((Z1 [] Zb ((Z0 Zb)-1))++([v]:List Int)) from (by simp (disch:=first | omega | (simp only [Zq,Zf,Zh,Zo]<;>omega)) [Qx,Zk,Yi,Q3,Q0,Zq,Zf,Zh,Zo]));(try dsimp only [X4,Z0e,nvS]);first | (rw [e];first | rfl | (simp (disch:=first | omega | (simp only [Zq,Zf,Zh,Zo]<;>omega)) only [Ym,Zq,Zf,Zh,Zo,Y3,Ye,Xj,Int.ofNat_eq_natCast]<;>first | done | omega)) | omega) (fun i i0 i1 i2=>by (try dsimp only [X4,Z0e,nvS] at i1 i2);rw [Zk (by first | omega | (simp only [Zq]<;>omega)) i0 (by first | omega | (simp only [Zq] at *<;>omega)),if_neg (by omega)]))
                  trivial)
            · exact LeSt.frame (show t'1_c+9 < t'1_c+18 by omega) rfl rfl (And.intro ⟨_,rfl,LeD.refl _⟩
                  (And.intro ⟨_,rfl,(by first | exact LeD.refl _ | exact LeD.vec rfl (by first | with_reducible rfl | with_reducible assumption | (symm;with_reducible assumption) | ((try dsimp only [X4,Z0e,nvS])<;>first | with_reducible rfl | omega | (simp (disch:=first | omega | (simp only [Zq,Zf,Zh,Zo]<;>omega)) only [Ym,Zq,Zf,Zh,Zo,Y3,Ye,Xj,Int.ofNat_eq_natCast,Int.zero_add,Int.sub_zero]<;>first | done | omega | with_reducible assumption)) | rfl))⟩
                  (And.intro ⟨_,rfl,LeD.refl _⟩
                  (And.intro ⟨_,rfl,LeD.refl _⟩
                  (And.intro ⟨_,rfl,LeD.refl _⟩
                  trivial))))) (And.intro ⟨_,rfl,(by have e:=(show (Z1 [] (Yc Zb ((Z0 Zb)-1) ((Z1 [] Zb ((Z0 Zb)-1))++([v]:List Int))) ((Z0 (Yc Zb ((Z0 Zb)-1) ((Z1 [] Zb ((Z0 Zb)-1))++([v]:List Int))))-1))=((Z1 [] Zb ((Z0 Zb)-1))++([v]:List Int)) from (by simp (disch:=first | omega | (simp only [Zq,Zf,Zh,Zo]<;>omega)) [Qx,Zk,Yi,Q3,Q0,Zq,Zf,Zh,Zo]));exact Qh.arrE (by have e:=(show (Z1 [] (Yc Zb ((Z0 Zb)-1) ((Z1 [] Zb ((Z0 Zb)-1))++([v]:List Int))) ((Z0 (Yc Zb ((Z0 Zb)-1) ((Z1 [] Zb ((Z0 Zb)-1))++([v]:List Int))))-1))=((Z1 [] Zb ((Z0 Zb)-1))++([v]:List Int)) from (by simp (disch:=first | omega | (simp only [Zq,Zf,Zh,Zo]<;>omega)) [Qx,Zk,Yi,Q3,Q0,Zq,Zf,Zh,Zo]));(try dsimp only [X4,Z0e,nvS]);first | (rw [e];first | rfl | (simp (disch:=first | omega | (simp only [Zq,Zf,Zh,Zo]<;>omega)) only [Ym,Zq,Zf,Zh,Zo,Y3,Ye,Xj,Int.ofNat_eq_natCast]<;>first | done | omega)) | omega) (fun i i0 i1 j hj=>by (try dsimp only [X4,Z0e,nvS] at i1);(try simp only [Int.ofNat_eq_natCast,Zf,Zh,Zo,Zq,Ym] at i1);(try simp (disch:=first | omega | (simp only [Zq,Zf,Zh,Zo]<;>omega)) only [Ye,Y3,Xj,Int.zero_add,Int.sub_zero] at i1);(obtain rfl:j=0:=(by omega))<;>(conv=>lhs;whnf)<;>(conv=>rhs;whnf)<;>(try dsimp only [X4,Z0e,nvS])<;>((try rw [e]);(first | rfl | (simp (disch:=first | omega | (simp only [Zq,Zf,Zh,Zo]<;>omega)) only [getL_bytes,Zk,Yi,Z3u,Z0r,Ye,addSubL,getL_cpy,Int.zero_add,Int.sub_zero,beq_iff_eq,decide_eq_true_eq,Bool.and_eq_true]<;>first | rfl | (split<;>first | rfl | (simp (disch:=first | omega | (simp only [Zq,Zf,Zh,Zo]<;>omega)) only [Q0,Q3]<;>rfl)) | (simp (disch:=omega) only [Q0,Q3]<;>rfl) | ((simp only [Zf,Zh,Zo,Int.ofNat_eq_natCast])<;>(repeat' split)<;>first | rfl | (exfalso;omega) | (simp (disch:=omega) only [Q0,Q3]<;>rfl) | (congr 3;omega)))))))⟩
                  (And.intro ⟨_,rfl,Qh.box (And.intro (LeD.refl _)
                  (And.intro (LeD.refl _)
                  (And.intro (LeD.refl _)
                  trivial)))⟩
                  (And.intro ⟨_,rfl,Qh.arrE (by first | with_reducible rfl | with_reducible assumption | (symm;with_reducible assumption) | ((try dsimp only [X4,Z0e,nvS])<;>first | with_reducible rfl | omega | (simp (disch:=first | omega | (simp only [Zq,Zf,Zh,Zo]<;>omega)) only [Ym,Zq,Zf,Zh,Zo,Y3,Ye,Xj,Int.ofNat_eq_natCast,Int.zero_add,Int.sub_zero]<;>first | done | omega | with_reducible assumption)) | rfl) (fun i i0 i1 j hj=>rfl)⟩
                  trivial)))
      · replace h:=iteO_f h h63
        subst hN
        cases h
        intro he;cases he
        show ∃ t',_∧GeSt _ _ _
        refine ⟨⟨t'1_c+10,gfn [(0,t'1_g 0),(43,t'1_g 43)],tfn [(0,t'1_t 0),(43,t'1_t 43)]⟩,Hid.mk_ok (by omega) (And.intro (by have:=ht'1_g 0;omega)
            (And.intro (by have:=ht'1_g 43;omega)
            trivial)),?_⟩
        exact GeSt.of (LeSt.frame (by show (_:Nat) < _;(try dsimp only [X4,Z0e]);omega) rfl rfl (And.intro ⟨_,rfl,LeD.vec rfl (by first | with_reducible rfl | with_reducible assumption | (symm;with_reducible assumption) | ((try dsimp only [X4,Z0e,nvS])<;>first | with_reducible rfl | omega | (simp (disch:=first | omega | (simp only [Zq,Zf,Zh,Zo]<;>omega)) only [Ym,Zq,Zf,Zh,Zo,Y3,Ye,Xj,Int.ofNat_eq_natCast,Int.zero_add,Int.sub_zero]<;>first | done | omega | with_reducible assumption)) | rfl)⟩
            trivial) (And.intro ⟨_,rfl,Qh.refl _⟩
            (And.intro ⟨_,rfl,Qh.refl _⟩
            trivial)))

theorem Z5p (c':Int) (r:Bool) (h:Ql c'=some r):Ze Tryz.prog 127 [(.v (.int .i64 c'))] ((.v (.bool r))):=by
  unfold Ql at h
  refine Wfn Tryz.func127 (Zl Tryz.f127) fun ctr hc=>?_
  refine Wx [] 0 [] Wz

theorem Z8q (l':(List Int)) (r':Zn) (base:Int) (r:(List (List Int))) (h:Qw l' r' base=some r):Ze Tryz.prog 91 [(.sl 1 (nvS.len l') false (fun ix jx=>(.v (.int .i64 (nvS.get 0 l' ix))))),(.agg 3 (fun j=>(Z16 nvS r' j))),(.v (.int .i64 base))] (.own 1 (nvS.len r) false (fun ix jx=>(.sl 1 (nvS.len (nvS.get [] r ix)) false (fun ix1 jx1=>(.v (.int .i64 (nvS.get 0 (nvS.get [] r ix) ix1))))))):=by
  obtain ⟨r_Levels,r_Classes,r_Removed⟩:=r'
  unfold Qw at h
  try dsimp only at h
  refine Wfn Tryz.func91 (Zl Tryz.f91) fun ctr hc=>?_
  refine Wo0 ?_
  refine Wo 25 0 (Z8h l' (Zn.mk r_Levels r_Classes r_Removed)) fun v h1=>?_
  refine Wo 28 1 (Z2q l') fun v1 h2=>?_
  refine Wo 30 1 (embed_runs_ok (Zn.mk r_Levels r_Classes r_Removed)) fun v2 h3=>?_
  revert h
  refine Wjp 5 [] 0 [] (Wq ?_)
  intro h
  intros
  refine Zy h (ctr+5) [(10,1),(24,9)] [(34,1)] (fun heads u=>⟨[],[(34,.arr (ctr+4) 1 ((std Tryz.prog).add (nvS.len l') 1) (u.t 34) (fun ix jx=>(.v (.int .i64 (nvS.get 0 heads ix)))))],fun _=>Z0 heads=((Z0 l')+1)⟩) (fun heads uc ug ut ht hu hp h=>?_) (fun f h=>?_)
  · try dsimp only at hp h
    refine Zy h uc [(11,2),(31,14)] [(34,1)] (fun heads1 u1=>⟨[],[(34,.arr (ctr+4) 1 ((std Tryz.prog).add (nvS.len l') 1) (u1.t 34) (fun ix jx=>(.v (.int .i64 (nvS.get 0 heads1 ix)))))],fun _=>Z0 heads1=((Z0 l')+1)⟩) (fun heads1 u1c u1g u1t ht hu hp h=>?_) (fun f h=>?_)
    · try dsimp only at hp h
      revert h
      refine Wyp 2 [] 0 [] (Wq ?_)
      intro h
      intros
      refine Zy h (u1c+2) [(15,4),(45,39)] [(60,1),(2,1)] (fun (behind,joined) u2=>⟨[],[(60,.arr (u1c+0) 1 (nvS.len v2) (u2.t 60) (fun ix jx=>(.v (.int .i64 (nvS.get 0 behind ix))))),(63,.arr (u1c+1) 1 (nvS.len v2) (u2.t 63) (fun ix jx=>(.v (.bool (nvS.get false joined ix)))))],fun _=>Z0 behind=(Z0 v2)∧Z0 joined=(Z0 v2)⟩) (fun x u2c u2g u2t ht hu hp h=>?_) (fun f h=>?_)
      · obtain ⟨behind,joined⟩:=x
        try dsimp only at hp h
        revert h
        refine Wyp 1 [] 0 [] (Wq ?_)
        intro h
        intros
        refine Zy h (u2c+1) [(19,4),(80,27)] [(128,1)] (fun out u3=>Fa [(19,.vec 128 (u3.g 128) 1 0 (nvS.len out))] [(128,.arr (u3.g 128) 1 (nvS.len out) (u3.t 128) (fun ix jx=>(.sl 1 (nvS.len (nvS.get [] out ix)) false (fun ix1 jx1=>(.v (.int .i64 (nvS.get 0 (nvS.get [] out ix) ix1)))))))]) (fun out u3c u3g u3t ht hu hp h=>?_) (fun f h=>?_)
        · refine Wx [] 0 [] Wz
        · revert h
          refine Wyp 1 [] 0 [] (Wq ?_)
          intro h
          intros
          refine Tr.block ?_
          refine Wlp h (u2c+2) [(19,4),(82,25)] [(128,1)] (fun (v3,Zb) u4=>Fa [(19,.vec 128 (u4.g 128) 1 0 (nvS.len Zb)),(105,.v (.int .i64 v3))] [(128,.arr (u4.g 128) 1 (nvS.len Zb) (u4.t 128) (fun ix jx=>(.sl 1 (nvS.len (nvS.get [] Zb ix)) false (fun ix1 jx1=>(.v (.int .i64 (nvS.get 0 (nvS.get [] Zb ix) ix1)))))))]) Yr (fun x u4c u4g u4t f ht hu hp h=>?_)
          obtain ⟨v3,Zb⟩:=x
          try dsimp only at hp h
          revert h
          refine Wyp 2 [] 0 [] (Wq ?_)
          intro h
          intros
          refine Zy h (u4c+1) [(19,4),(84,22)] [(128,1)] (fun out2 u5=>Fa [(19,.vec 128 (u5.g 128) 1 0 (nvS.len out2))] [(128,.arr (u5.g 128) 1 (nvS.len out2) (u5.t 128) (fun ix jx=>(.sl 1 (nvS.len (nvS.get [] out2 ix)) false (fun ix1 jx1=>(.v (.int .i64 (nvS.get 0 (nvS.get [] out2 ix) ix1)))))))]) (fun out2 u5c u5g u5t ht hu hp h=>?_) (fun f h=>?_)
          · refine Wx [] 0 [] Wz
          · refine Tr.block ?_
            revert h
            refine Wyp 3 [] 0 [] (Wq ?_)
            intro h
            intros
            refine Zy h (u4c+4) [(21,2),(89,13)] [(124,1)] (fun seq u6=>Fa [(21,.vec 124 (u6.g 124) 1 0 (nvS.len seq))] [(124,.arr (u6.g 124) 1 (nvS.len seq) (u6.t 124) (fun ix jx=>(.v (.int .i64 (nvS.get 0 seq ix)))))]) (fun seq u6c u6g u6t ht hu hp h=>?_) (fun f h=>?_)
            · refine Wx [127] 0 [(39,[.freeze (.slot 21)])] Wz
            · revert h
              refine Wyp 1 [] 0 [] (Wq ?_)
              intro h
              intros
              refine Tr.block ?_
              refine Wlp h (u4c+5) [(21,2),(90,12)] [(124,1)] (fun (at',seq1) u7=>Fa [(21,.vec 124 (u7.g 124) 1 0 (nvS.len seq1)),(22,.v (.int .i64 at'))] [(124,.arr (u7.g 124) 1 (nvS.len seq1) (u7.t 124) (fun ix jx=>(.v (.int .i64 (nvS.get 0 seq1 ix)))))]) Yr (fun x u7c u7g u7t f ht hu hp h=>?_)
              obtain ⟨at',seq1⟩:=x
              try dsimp only at hp h
              refine Wx [] 0 [] Wz
      · revert h
        refine Wyp 1 [] 0 [] (Wq ?_)
        intro h
        intros
        refine Tr.block ?_
        refine Wlp h (u1c+3) [(15,4),(47,37)] [(60,1),(2,1)] (fun (v4,behind1,joined1) u8=>⟨[(66,.v (.int .i64 v4))],[(60,.arr (u1c+0) 1 (nvS.len v2) (u8.t 60) (fun ix jx=>(.v (.int .i64 (nvS.get 0 behind1 ix))))),(63,.arr (u1c+1) 1 (nvS.len v2) (u8.t 63) (fun ix jx=>(.v (.bool (nvS.get false joined1 ix)))))],fun _=>Z0 behind1=(Z0 v2)∧Z0 joined1=(Z0 v2)⟩) Yr (fun x u8c u8g u8t f ht hu hp h=>?_)
        obtain ⟨v4,behind1,joined1⟩:=x
        try dsimp only at hp h
        refine Wo0 ?_
        refine Wo 84 0 (Z5p (Z1 0 l' (Z1 0 (Z1 [] v2 (0+v4)) ((Z0 (Z1 [] v2 (0+v4)))-1)))) fun v5 h139=>?_
        refine Wk [] 0 [] Wz
    · revert h
      refine Wyp 1 [] 0 [] (Wq ?_)
      intro h
      intros
      refine Tr.block ?_
      refine Wlp h (uc+1) [(11,2),(33,12)] [(34,1)] (fun (v6,heads2) u9=>⟨[(46,.v (.int .i64 v6))],[(34,.arr (ctr+4) 1 ((std Tryz.prog).add (nvS.len l') 1) (u9.t 34) (fun ix jx=>(.v (.int .i64 (nvS.get 0 heads2 ix)))))],fun _=>Z0 heads2=((Z0 l')+1)⟩) Yr (fun x u9c u9g u9t f ht hu hp h=>?_)
      obtain ⟨v6,heads2⟩:=x
      try dsimp only at hp h
      refine Wx [] 0 [] Wz
  · revert h
    refine Wyp 1 [] 0 [] (Wq ?_)
    intro h
    intros
    refine Tr.block ?_
    refine Wlp h (ctr+6) [(10,1),(26,7)] [(34,1)] (fun (v7,heads3) u10=>⟨[(37,.v (.int .i64 v7))],[(34,.arr (ctr+4) 1 ((std Tryz.prog).add (nvS.len l') 1) (u10.t 34) (fun ix jx=>(.v (.int .i64 (nvS.get 0 heads3 ix)))))],fun _=>Z0 heads3=((Z0 l')+1)⟩) Yr (fun x u10c u10g u10t f ht hu hp h=>?_)
    obtain ⟨v7,heads3⟩:=x
    try dsimp only at hp h
    refine Wx [] 0 [] Wz

theorem Z8i (level:Int) (r:Int) (h:Z3b level=some r):Ze Tryz.prog 128 [(.v (.int .i64 level))] ((.v (.int .i64 r))):=by
  unfold Z3b at h
  refine Wfn Tryz.func128 (Zl Tryz.f128) fun ctr hc=>?_
  refine Wx [] 0 [] Wz

theorem embed_Edges_ok (l':(List Int)) (r':Zn) (base:Int) (seq:(List Int)) (r:(Int × Int)) (h:Z21 l' r' base seq=some r):Ze Tryz.prog 93 [(.sl 1 (nvS.len l') false (fun ix jx=>(.v (.int .i64 (nvS.get 0 l' ix))))),(.agg 3 (fun j=>(Z16 nvS r' j))),(.v (.int .i64 base)),(.sl 1 (nvS.len seq) false (fun ix jx=>(.v (.int .i64 (nvS.get 0 seq ix)))))] (.tup 2 (fun j=>match j with | 0=>(.v (.int .i64 r.1)) | 1=>(.v (.int .i64 r.2)) | _=>.junk)):=by
  obtain ⟨r_Levels,r_Classes,r_Removed⟩:=r'
  unfold Z21 at h
  try dsimp only at h
  refine Wfn Tryz.func93 (Zl Tryz.f93) fun ctr hc=>?_
  refine Wo0 ?_
  refine Wo 21 0 (Z8h l' (Zn.mk r_Levels r_Classes r_Removed)) fun v h1=>?_
  revert h
  refine Wjp 2 [] 0 [] (Wq ?_)
  intro h
  intros
  refine Zy h (ctr+2) [(8,2),(1,1),(16,15)] [] (fun _ u=>Fa [] []) (fun x uc ug ut ht hu hp h=>?_) (fun f h=>?_)
  · refine Wo0 ?_
    refine Wo 53 0 (Z6l base) fun v1 h9=>?_
    refine Wod 55 0 h9 ?_
    revert h
    refine Wjp 2 [] 0 [] (Wq ?_)
    intro h
    intros
    refine Zy h (uc+2) [(14,1),(1,1),(39,17)] [] (fun ahead u1=>Fa [(14,.v (.int .i64 ahead))] []) (fun ahead u1c u1g u1t ht hu hp h=>?_) (fun f h=>?_)
    · refine Zy h u1c [(15,1),(1,1),(55,35)] [] (fun behind u2=>Fa [(15,.v (.int .i64 behind))] []) (fun behind u2c u2g u2t ht hu hp h=>?_) (fun f h=>?_)
      · refine Wo0 ?_
        refine Wo 116 0 (Z8i (Yn (Z1 0 r_Levels (Z1 0 seq 0)) ahead)) fun v2 h29=>?_
        refine Wo 120 0 (Z8i (Yn (Z1 0 r_Levels (Z1 0 seq 0)) behind)) fun v3 h30=>?_
        refine Wk [] 0 [] Wz
      · refine Wo0 ?_
        refine Wo 77 0 (Z5p (Z1 0 l' (Z1 0 seq ((Z0 seq)-1)))) fun v4 h32=>?_
        refine Wog 81 0 (!(!v4)) (Z2q l') [] fun v5 h33=>?_
        revert h
        refine Wjp 1 [] 0 [] (Wq ?_)
        intro h
        intros
        refine Wcond h rfl (fun _ h=>?_) (fun _ h=>?_)
        · revert h
          refine Wyp 1 [] 0 [] (Wq ?_)
          intro h
          intros
          refine Tr.block ?_
          refine Wlp h (u1c+2) [(15,1),(1,1),(73,17)] [] (fun i1 u3=>Fa [(15,.v (.int .i64 v1)),(17,.v (.int .i64 i1))] []) Yr (fun i1 u3c u3g u3t f ht hu hp h=>?_)
          refine Wx [] 0 [] Wz
        · refine Wx [] 0 [] Wz
    · revert h
      refine Wyp 1 [] 0 [] (Wq ?_)
      intro h
      intros
      refine Tr.block ?_
      refine Wlp h (uc+3) [(14,1),(1,1),(41,15)] [] (fun i4 u4=>Fa [(14,.v (.int .i64 v1)),(16,.v (.int .i64 i4))] []) Yr (fun i4 u4c u4g u4t f ht hu hp h=>?_)
      refine Wx [] 0 [] Wz
  · revert h
    refine Wyp 1 [] 0 [] (Wq ?_)
    intro h
    intros
    refine Tr.block ?_
    refine Wlp h (ctr+3) [(8,2),(1,1),(18,13)] [] (fun v6 u5=>Fa [(30,.v (.int .i64 v6))] []) Yr (fun v6 u5c u5g u5t f ht hu hp h=>?_)
    refine Wx [] 0 [] Wz

theorem ucd_Bracket_ok (d':Za) (r':Int) (r:(Int × Int)) (h:Z22 d' r'=some r):Ze Tryz.prog 154 [(.agg 6 (fun j=>(Yk nvS d' j))),(.v (.int .i64 r'))] (.tup 2 (fun j=>match j with | 0=>(.v (.int .i64 r.1)) | 1=>(.v (.int .i64 r.2)) | _=>.junk)):=by
  obtain ⟨⟨d_Class_L⟩,⟨d_Wide_L⟩,⟨d_Join_L⟩,d_Mirror,d_Brackets,d_Forms⟩:=d'
  unfold Z22 at h
  try dsimp only at h
  refine Wfn Tryz.func154 (Zl Tryz.f154) fun ctr hc=>?_
  revert h
  refine Wyp 1 [] 0 [] (Wq ?_)
  intro h
  intros
  refine Zy h (ctr+1) [(4,2),(1,22)] [] (fun _ u=>Fa [] []) (fun x uc ug ut ht hu hp h=>?_) (fun f h=>?_)
  · refine Wx [] 0 [] Wz
  · revert h
    refine Wyp 1 [] 0 [] (Wq ?_)
    intro h
    intros
    refine Tr.block ?_
    refine Wlp h (ctr+2) [(4,2),(1,1),(3,18)] [(7,1)] (fun v u1=>Fa [(11,.v (.int .i64 v))] []) Yr (fun v u1c u1g u1t f ht hu hp h=>?_)
    refine Wx [] 0 [] Wz

theorem Z1a (a:(List Int)) (b:(List Int)) (r:Bool) (h:X8 a b=some r):Ze Tryz.prog 14 [(.sl 1 (nvS.len a) false (fun ix jx=>(.v (.int .i64 (nvS.get 0 a ix))))),(.sl 1 (nvS.len b) false (fun ix jx=>(.v (.int .i64 (nvS.get 0 b ix)))))] ((.v (.bool r))):=by
  unfold X8 at h
  refine Wfn Tryz.func14 (Zl Tryz.f14) fun ctr hc=>?_
  revert h
  refine Wyp 2 [] 0 [] (Wq ?_)
  intro h
  intros
  refine Zy h (ctr+2) [(4,2),(5,15)] [] (fun _ u=>Fa [] []) (fun x uc ug ut ht hu hp h=>?_) (fun f h=>?_)
  · refine Wx [] 0 [] Wz
  · revert h
    refine Wyp 1 [] 0 [] (Wq ?_)
    intro h
    intros
    refine Tr.block ?_
    refine Wlp h (ctr+3) [(4,2),(5,15)] [] (fun i u1=>Fa [(5,.v (.int .i64 i))] []) Yr (fun i u1c u1g u1t f ht hu hp h=>?_)
    refine Wx [] 0 [] Wz
end Go.Vx
