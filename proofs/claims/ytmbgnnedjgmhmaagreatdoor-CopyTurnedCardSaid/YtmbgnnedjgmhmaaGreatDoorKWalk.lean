/- Walks, by program (lift5.py): the code does what the lifted functions say. -/
import Derived.Test.YtmbgnnedjgmhmaaGreatDoorKHead
set_option linter.all false
namespace Go.Vx
open Go.Proofs
set_option maxRecDepth 100000
set_option maxHeartbeats 1000000
set_option linter.unusedVariables false
set_option linter.unusedSimpArgs false
attribute [local irreducible] chk Z7 Z8 Zu nilO

theorem Z5f (s:ByteArray) (c':Int) (r:Int) (h:Z0u s c'=some r):Ze Tryz.prog 162 [(.v (.string s)),(.v (.int .u8 c'))] ((.v (.int .i64 r))):=by
  unfold Z0u at h
  refine Wfn Tryz.func162 (Zl Tryz.f162) fun ctr hc=>?_
  refine Wo0 ?_
  refine Woe 7 0 (Z4l s c') fun v h1=>?_
  refine Wk [] 0 [] Wz

theorem Z79 (s:ByteArray) (substr:ByteArray) (r:Int) (h:Z2a s substr=some r):Ze Tryz.prog 142 [(.v (.string s)),(.v (.string substr))] ((.v (.int .i64 r))):=by
  unfold Z2a at h
  refine Wfn Tryz.func142 (Zl Tryz.f142) fun ctr hc=>?_
  refine Wo0 ?_
  refine Wo 30 0 (Z5f s (Z0j substr 0)) fun v h2=>?_
  refine Wkp 8 [] 0 [] Wz

theorem Z5n (s:ByteArray) (substr:ByteArray) (r:Int) (h:Z3j s substr=some r):Ze Tryz.prog 105 [(.v (.string s)),(.v (.string substr))] ((.v (.int .i64 r))):=by
  unfold Z3j at h
  refine Wfn Tryz.func105 (Zl Tryz.f105) fun ctr hc=>?_
  refine Wo0 ?_
  refine Wo 7 0 (Z79 s substr) fun v h1=>?_
  refine Wk [] 0 [] Wz

theorem strings_Count_ok (s:ByteArray) (substr:ByteArray) (r:Int) (h:Z5d s substr=some r):Ze Tryz.prog 104 [(.v (.string s)),(.v (.string substr))] ((.v (.int .i64 r))):=by
  unfold Z5d at h
  refine Wfn Tryz.func104 (Zl Tryz.f104) fun ctr hc=>?_
  refine Wo0 ?_
  refine Woe 19 0 (Z63 s (Z0j substr 0)) fun v h2=>?_
  revert h
  refine Wjp 4 [] 0 [] (Wq ?_)
  intro h
  intros
  refine Tr.block ?_
  refine Wlp h (ctr+4) [(0,1),(3,3),(13,14)] [] (fun (s1,n) u=>Fa [(0,.v (.string s1)),(5,.v (.int .i64 n))] []) Yr (fun x uc ug ut f ht hu hp h=>?_)
  obtain ⟨s1,n⟩:=x
  try dsimp only at hp h
  refine Wo0 ?_
  refine Wo 22 0 (Z5n s1 substr) fun v1 h11=>?_
  refine Wk [] 0 [] Wz

theorem Z84 (s:ByteArray) (sep:ByteArray) (sepSave:Int) (n:Int) (r:(List ByteArray)) (h:Z35 s sep sepSave n=some r):Ze Tryz.prog 76 [(.v (.string s)),(.v (.string sep)),(.v (.int .i64 sepSave)),(.v (.int .i64 n))] (.own 1 (nvS.len r) false (fun ix jx=>(.v (.string (nvS.get ByteArray.empty r ix))))):=by
  unfold Z35 at h
  refine Wfn Tryz.func76 (Zl Tryz.f76) fun ctr hc=>?_
  revert h
  refine Wyp 3 [] 0 [] (Wq ?_)
  intro h
  intros
  refine Zy h (ctr+3) [(3,1),(15,6)] [] (fun n1 u=>Fa [(3,.v (.int .i64 n1))] []) (fun n1 uc ug ut ht hu hp h=>?_) (fun f h=>?_)
  · revert h
    refine Wyp 4 [] 0 [] (Wq ?_)
    intro h
    intros
    refine Zy h (uc+4) [(0,1),(9,2),(22,24)] [(31,1)] (fun (s1,i,a) u1=>⟨[(0,.v (.string s1)),(10,.v (.int .i64 i))],[(31,.arr (uc+1) 1 ((std Tryz.prog).imin n1 ((std Tryz.prog).add ((std Tryz.prog).slen s) 1)) (u1.t 31) (fun ix jx=>(.v (.string (nvS.get ByteArray.empty a ix)))))],fun _=>Z0 a=(Yo n1 ((Y7 s)+1))⟩) (fun x u1c u1g u1t ht hu hp h=>?_) (fun f h=>?_)
    · obtain ⟨s1,i,a⟩:=x
      try dsimp only at hp h
      refine Wx [] 0 [] Wz
    · refine Tr.block ?_
      refine Wlp h (uc+4) [(0,1),(9,2),(22,24)] [(31,1)] (fun (s2,i1,a1) u2=>⟨[(0,.v (.string s2)),(10,.v (.int .i64 i1))],[(31,.arr (uc+1) 1 ((std Tryz.prog).imin n1 ((std Tryz.prog).add ((std Tryz.prog).slen s) 1)) (u2.t 31) (fun ix jx=>(.v (.string (nvS.get ByteArray.empty a1 ix)))))],fun _=>Z0 a1=(Yo n1 ((Y7 s)+1))⟩) Yr (fun x u2c u2g u2t f ht hu hp h=>?_)
      obtain ⟨s2,i1,a1⟩:=x
      try dsimp only at hp h
      refine Wo0 ?_
      refine Wo 39 0 (Z5n s2 sep) fun v h37=>?_
      refine Wk [] 0 [] Wz
  · refine Wo0 ?_
    refine Wo 23 0 (strings_Count_ok s sep) fun v1 h44=>?_
    refine Wk [] 0 [] Wz

theorem Z0b (s:ByteArray) (sep:ByteArray) (r:(List ByteArray)) (h:Z03 s sep=some r):Ze Tryz.prog 51 [(.v (.string s)),(.v (.string sep))] (.own 1 (nvS.len r) false (fun ix jx=>(.v (.string (nvS.get ByteArray.empty r ix))))):=by
  unfold Z03 at h
  refine Wfn Tryz.func51 (Zl Tryz.f51) fun ctr hc=>?_
  refine Wo0 ?_
  refine Wo 7 1 (Z84 s sep 0 (-1)) fun v h1=>?_
  refine Wk [] 0 [] Wz

theorem ucd_words_1_ok (c':Int) (r:Bool) (h:Z71 c'=some r):Ze Tryz.prog 78 [(.v (.int .i32 c'))] ((.v (.bool r))):=by
  unfold Z71 at h
  refine Wfn Tryz.func78 (Zl Tryz.f78) fun ctr hc=>?_
  refine Wx [] 0 [] Wz

theorem Z5g (s:ByteArray) (r:(List ByteArray)) (h:Z0v s=some r):Ze Tryz.prog 77 [(.v (.string s)),.fn (.func 78) 0 (fun _=>.junk)] (.own 1 (nvS.len r) false (fun ix jx=>(.v (.string (nvS.get ByteArray.empty r ix))))):=by
  unfold Z0v at h
  refine Wfn Tryz.func77 (Zl Tryz.f77) fun ctr hc=>?_
  revert h
  refine Wyp 3 [] 0 [] (Wq ?_)
  intro h
  intros
  refine Zy h (ctr+3) [(5,4),(4,22)] [(12,1),(1,1)] (fun (start,spans) u=>Fa [(5,.vec 12 (u.g 12) 2 0 (nvS.len spans)),(6,.v (.int .i64 start))] [(12,.arr (u.g 12) 2 (nvS.len spans) (u.t 12) (fun ix jx=>(Z15 nvS (nvS.get Xb spans ix) jx)))]) (fun x uc ug ut ht hu hp h=>?_) (fun f h=>?_)
  · obtain ⟨start,spans⟩:=x
    try dsimp only at hp h
    refine Zy h uc [(5,1),(29,9)] [(12,1),(30,1)] (fun spans1 u1=>Fa [(5,.vec 12 (u1.g 12) 2 0 (nvS.len spans1))] [(12,.arr (u1.g 12) 2 (nvS.len spans1) (u1.t 12) (fun ix jx=>(Z15 nvS (nvS.get Xb spans1 ix) jx)))]) (fun spans1 u1c u1g u1t ht hu hp h=>?_) (fun f h=>?_)
    · revert h
      refine Wyp 1 [] 0 [] (Wq ?_)
      intro h
      intros
      refine Zy h (u1c+1) [(10,2),(35,17)] [(46,1)] (fun a u2=>⟨[],[(46,.arr (u1c+0) 1 (nvS.len spans1) (u2.t 46) (fun ix jx=>(.v (.string (nvS.get ByteArray.empty a ix)))))],fun _=>Z0 a=(Z0 spans1)⟩) (fun a u2c u2g u2t ht hu hp h=>?_) (fun f h=>?_)
      · try dsimp only at hp h
        refine Wx [] 0 [] Wz
      · revert h
        refine Wyp 1 [] 0 [] (Wq ?_)
        intro h
        intros
        refine Tr.block ?_
        refine Wlp h (u1c+2) [(10,2),(37,15)] [(11,1),(34,1)] (fun (v,a1) u3=>⟨[(49,.v (.int .i64 v))],[(46,.arr (u1c+0) 1 (nvS.len spans1) (u3.t 46) (fun ix jx=>(.v (.string (nvS.get ByteArray.empty a1 ix)))))],fun _=>Z0 a1=(Z0 spans1)⟩) Yr (fun x u3c u3g u3t f ht hu hp h=>?_)
        obtain ⟨v,a1⟩:=x
        try dsimp only at hp h
        refine Wx [] 0 [] Wz
    · refine Wx [42] 0 [] Wz
  · revert h
    refine Wyp 1 [] 0 [] (Wq ?_)
    intro h
    intros
    refine Tr.block ?_
    refine Wlp h (ctr+4) [(5,4),(6,20)] [(12,1),(1,1),(14,1)] (fun (start1,spans2,pos) u4=>Fa [(5,.vec 12 (u4.g 12) 2 0 (nvS.len spans2)),(6,.v (.int .i64 start1))] [(12,.arr (u4.g 12) 2 (nvS.len spans2) (u4.t 12) (fun ix jx=>(Z15 nvS (nvS.get Xb spans2 ix) jx))),(14,.iter (ctr+3) s pos)]) Yr (fun x u4c u4g u4t f ht hu hp h=>?_)
    obtain ⟨start1,spans2,pos⟩:=x
    try dsimp only at hp h
    refine Wo0 ?_
    refine Wo 21 0 (ucd_words_1_ok (rdecS s pos)) fun v1 h33=>?_
    refine Wk [28] 0 [] Wz

theorem Z2p (e:ByteArray) (r:(List ByteArray)) (h:Z36 e=some r):Ze Tryz.prog 52 [(.v (.string e))] (.own 1 (nvS.len r) false (fun ix jx=>(.v (.string (nvS.get ByteArray.empty r ix))))):=by
  unfold Z36 at h
  refine Wfn Tryz.func52 (Zl Tryz.f52) fun ctr hc=>?_
  refine Wo0 ?_
  refine Wo 4 1 (Z5g e) fun v h1=>?_
  refine Wk [] 0 [] Wz

theorem Z3f (c':Int) (r:Int) (h:Qj c'=some r):Ze Tryz.prog 166 [(.v (.int .u8 c'))] ((.v (.int .u8 r))):=by
  unfold Qj at h
  refine Wfn Tryz.func166 (Zl Tryz.f166) fun ctr hc=>?_
  refine Wx [] 0 [] Wz

theorem Z5h (a0:ByteArray) (r:Bool) (h:Z2y a0=some r):Ze Tryz.prog 167 [(.v (.string a0))] ((.v (.bool r))):=by cases h

theorem Z6p (s:ByteArray) (base:Int) (bitSize:Int) (r:(Int × Unit)) (h:Z1v s base bitSize=some r):Ze Tryz.prog 143 [(.v (.string s)),(.v (.int .i64 base)),(.v (.int .i64 bitSize))] (.tup 2 (fun j=>match j with | 0=>(.v (.int .u64 r.1)) | 1=>(.v .nilIface) | _=>.junk)):=by
  unfold Z1v at h
  refine Wfn Tryz.func143 (Zl Tryz.f143) fun ctr hc=>?_
  revert h
  refine Wyp 4 [] 0 [] (Wq ?_)
  intro h
  intros
  refine Zy h (ctr+4) [(0,2),(4,2),(16,52)] [] (fun (s1,base1) u=>Fa [(0,.v (.string s1)),(1,.v (.int .i64 base1))] []) (fun x uc ug ut ht hu hp h=>?_) (fun f h=>?_)
  · obtain ⟨s1,base1⟩:=x
    try dsimp only at hp h
    refine Zy h uc [(2,1),(3,2),(68,9)] [] (fun bitSize1 u1=>Fa [(2,.v (.int .i64 bitSize1))] []) (fun bitSize1 u1c u1g u1t ht hu hp h=>?_) (fun f h=>?_)
    · revert h
      refine Wyp 1 [] 0 [] (Wq ?_)
      intro h
      intros
      refine Zy h (u1c+1) [(10,1),(74,9)] [] (fun cutoff u2=>Fa [(10,.v (.int .u64 cutoff))] []) (fun cutoff u2c u2g u2t ht hu hp h=>?_) (fun f h=>?_)
      · revert h
        refine Wyp 3 [] 0 [] (Wq ?_)
        intro h
        intros
        refine Zy h (u2c+3) [(6,2),(4,2),(1,3),(80,66)] [] (fun (underscores,n) u3=>Fa [(12,.v (.bool underscores)),(13,.v (.int .u64 n))] []) (fun x u3c u3g u3t ht hu hp h=>?_) (fun f h=>?_)
        · obtain ⟨underscores,n⟩:=x
          try dsimp only at hp h
          refine Wo0 ?_
          refine Wog 167 0 underscores (Z5h s) false fun v h33=>?_
          refine Wk [] 0 [] Wz
        · revert h
          refine Wyp 1 [] 0 [] (Wq ?_)
          intro h
          intros
          refine Tr.block ?_
          refine Wlp h (u2c+4) [(6,2),(4,2),(1,3),(81,1),(1,63)] [] (fun (underscores1,n1,v1) u4=>Fa [(12,.v (.bool underscores1)),(13,.v (.int .u64 n1)),(99,.sl 1 (nvS.len (nvS.bys s1)) false (fun ix jx=>(.v (.int .u8 (nvS.get 0 (nvS.bys s1) ix))))),(101,.v (.int .i64 v1))] []) Yr (fun x u4c u4g u4t f ht hu hp h=>?_)
          obtain ⟨underscores1,n1,v1⟩:=x
          try dsimp only at hp h
          revert h
          refine Wyp 2 [] 0 [] (Wq ?_)
          intro h
          intros
          refine Zy h (u4c+1) [(6,2),(4,2),(1,3),(85,60)] [] (fun (underscores2,n2) u5=>Fa [(12,.v (.bool underscores2)),(13,.v (.int .u64 n2))] []) (fun x u5c u5g u5t ht hu hp h=>?_) (fun f h=>?_)
          · obtain ⟨underscores2,n2⟩:=x
            try dsimp only at hp h
            refine Wx [] 0 [] Wz
          · refine Tr.block ?_
            revert h
            refine Wyp 2 [] 0 [] (Wq ?_)
            intro h
            intros
            refine Zy h (u4c+3) [(6,2),(4,1),(3,1),(88,29)] [] (fun d' u6=>Fa [(12,.v (.bool underscores1)),(16,.v (.int .u8 d'))] []) (fun d' u6c u6g u6t ht hu hp h=>?_) (fun f h=>?_)
            · refine Wx [] 0 [] Wz
            · refine Wo0 ?_
              refine Wo 123 0 (Z3f (Z1 0 (Z6f s1) v1)) fun v2 h70=>?_
              refine Wog 127 0 (decide (97≤v2)) (Z3f (Z1 0 (Z6f s1) v1)) 0 fun v3 h71=>?_
              refine Wod 131 0 h70 ?_
              refine Wk [] 0 [] Wz
      · refine Wx [] 0 [] Wz
    · refine Wx [] 0 [] Wz
  · refine Wo0 ?_
    refine Wog 47 0 (decide (3≤(Y7 s))) (Z3f (Z0j s 1)) 0 fun v4 h79=>?_
    refine Wodg 59 0 h79 ?_
    refine Wodg 71 0 h79 ?_
    refine Wk [] 0 [] Wz

theorem Z7a (s:ByteArray) (base:Int) (bitSize:Int) (r:(Int × Unit)) (h:Z2b s base bitSize=some r):Ze Tryz.prog 106 [(.v (.string s)),(.v (.int .i64 base)),(.v (.int .i64 bitSize))] (.tup 2 (fun j=>match j with | 0=>(.v (.int .i64 r.1)) | 1=>(.v .nilIface) | _=>.junk)):=by
  unfold Z2b at h
  refine Wfn Tryz.func106 (Zl Tryz.f106) fun ctr hc=>?_
  revert h
  refine Wyp 3 [] 0 [] (Wq ?_)
  intro h
  intros
  refine Zy h (ctr+3) [(0,1),(7,1),(6,10)] [] (fun (s1,neg) u=>Fa [(0,.v (.string s1)),(8,.v (.bool neg))] []) (fun x uc ug ut ht hu hp h=>?_) (fun f h=>?_)
  · obtain ⟨s1,neg⟩:=x
    try dsimp only at hp h
    refine Wo0 ?_
    refine Wo 29 0 (Z6p s1 base bitSize) fun v h4=>?_
    obtain ⟨v_0,v_1⟩:=v
    refine Wk [] 0 [] Wz
  · refine Wx [] 0 [] Wz

theorem Z85 (s:ByteArray) (base:Int) (bitSize:Int) (r:(Int × Unit)) (h:Z37 s base bitSize=some r):Ze Tryz.prog 79 [(.v (.string s)),(.v (.int .i64 base)),(.v (.int .i64 bitSize))] (.tup 2 (fun j=>match j with | 0=>(.v (.int .i64 r.1)) | 1=>(.v .nilIface) | _=>.junk)):=by
  unfold Z37 at h
  refine Wfn Tryz.func79 (Zl Tryz.f79) fun ctr hc=>?_
  refine Wo0 ?_
  refine Wo 13 0 (Z7a s base bitSize) fun v h1=>?_
  obtain ⟨v_0,v_1⟩:=v
  refine Wk [] 0 [] Wz

theorem Qg (s:ByteArray) (r:Int) (h:Z0z s=some r):Ze Tryz.prog 53 [(.v (.string s))] ((.v (.int .i64 r))):=by
  unfold Z0z at h
  refine Wfn Tryz.func53 (Zl Tryz.f53) fun ctr hc=>?_
  refine Wo0 ?_
  refine Wo 7 0 (Z85 s 16 32) fun v h1=>?_
  obtain ⟨v_0,v_1⟩:=v
  refine Wk [] 0 [] Wz

theorem strings_Fields_ok (s:ByteArray) (r:(List ByteArray)) (h:Z4o s=some r):Ze Tryz.prog 54 [(.v (.string s))] (.own 1 (nvS.len r) false (fun ix jx=>(.v (.string (nvS.get ByteArray.empty r ix))))):=by
  unfold Z4o at h
  refine Wfn Tryz.func54 (Zl Tryz.f54) fun ctr hc=>?_
  revert h
  refine Wyp 4 [] 0 [] (Wq ?_)
  intro h
  intros
  refine Zy h (ctr+4) [(3,6),(4,23)] [] (fun (n,setBits) u=>Fa [(3,.v (.int .i64 n)),(5,.v (.int .u8 setBits))] []) (fun x uc ug ut ht hu hp h=>?_) (fun f h=>?_)
  · obtain ⟨n,setBits⟩:=x
    try dsimp only at hp h
    revert h
    refine Wyp 5 [] 0 [] (Wq ?_)
    intro h
    intros
    refine Zy h (uc+5) [(12,1),(29,14)] [(41,1)] (fun i u1=>Fa [(12,.v (.int .i64 i))] [(41,.arr (uc+1) 1 n (u1.t 41) (fun ix jx=>(.v (.string (nvS.get ByteArray.empty (nvS.rep n ByteArray.empty) ix)))))]) (fun i u1c u1g u1t ht hu hp h=>?_) (fun f h=>?_)
    · revert h
      refine Wyp 1 [] 0 [] (Wq ?_)
      intro h
      intros
      refine Zy h (u1c+1) [(10,3),(44,38)] [(41,1)] (fun (na,fieldStart,a) u2=>⟨[(10,.v (.int .i64 na)),(11,.v (.int .i64 fieldStart))],[(41,.arr (uc+1) 1 n (u2.t 41) (fun ix jx=>(.v (.string (nvS.get ByteArray.empty a ix)))))],fun _=>Z0 a=n⟩) (fun x u2c u2g u2t ht hu hp h=>?_) (fun f h=>?_)
      · obtain ⟨na,fieldStart,a⟩:=x
        try dsimp only at hp h
        refine Wx [] 0 [] Wz
      · refine Tr.block ?_
        refine Wlp h (u1c+1) [(10,3),(44,38)] [(41,1)] (fun (na1,fieldStart1,i1,a1) u3=>⟨[(10,.v (.int .i64 na1)),(11,.v (.int .i64 fieldStart1)),(12,.v (.int .i64 i1))],[(41,.arr (uc+1) 1 n (u3.t 41) (fun ix jx=>(.v (.string (nvS.get ByteArray.empty a1 ix)))))],fun _=>Z0 a1=n⟩) Yr (fun x u3c u3g u3t f ht hu hp h=>?_)
        obtain ⟨na1,fieldStart1,i1,a1⟩:=x
        try dsimp only at hp h
        revert h
        refine Wyp 1 [] 0 [] (Wq ?_)
        intro h
        intros
        refine Tr.block ?_
        revert h
        refine Wyp 4 [] 0 [] (Wq ?_)
        intro h
        intros
        refine Zy h (u3c+5) [(12,1),(67,14)] [(41,1)] (fun i4 u4=>Fa [(12,.v (.int .i64 i4))] [(41,.arr (uc+1) 1 n (u4.t 41) (fun ix jx=>(.v (.string (nvS.get ByteArray.empty (nvS.set a1 na1 ((std Tryz.prog).ssub s fieldStart1 i1)) ix)))))]) (fun i4 u4c u4g u4t ht hu hp h=>?_) (fun f h=>?_)
        · refine Wx [] 0 [] Wz
        · refine Tr.block ?_
          refine Wlp h (u3c+5) [(12,1),(67,14)] [(41,1)] (fun i5 u5=>Fa [(12,.v (.int .i64 i5))] [(41,.arr (uc+1) 1 n (u5.t 41) (fun ix jx=>(.v (.string (nvS.get ByteArray.empty (nvS.set a1 na1 ((std Tryz.prog).ssub s fieldStart1 i1)) ix)))))]) Yr (fun i5 u5c u5g u5t f ht hu hp h=>?_)
          refine Wx [] 0 [] Wz
    · refine Tr.block ?_
      refine Wlp h (uc+5) [(12,1),(29,14)] [(41,1)] (fun i7 u6=>Fa [(12,.v (.int .i64 i7))] [(41,.arr (uc+1) 1 n (u6.t 41) (fun ix jx=>(.v (.string (nvS.get ByteArray.empty (nvS.rep n ByteArray.empty) ix)))))]) Yr (fun i7 u6c u6g u6t f ht hu hp h=>?_)
      refine Wx [] 0 [] Wz
  · revert h
    refine Wyp 1 [] 0 [] (Wq ?_)
    intro h
    intros
    refine Tr.block ?_
    refine Wlp h (ctr+5) [(3,6),(4,23)] [] (fun (n1,wasSpace,setBits1,i9) u7=>Fa [(3,.v (.int .i64 n1)),(4,.v (.int .i64 wasSpace)),(5,.v (.int .u8 setBits1)),(6,.v (.int .i64 i9))] []) Yr (fun x u7c u7g u7t f ht hu hp h=>?_)
    obtain ⟨n1,wasSpace,setBits1,i9⟩:=x
    try dsimp only at hp h
    refine Wx [] 0 [] Wz

theorem ucd_className_ok (s:ByteArray) (r:Int) (h:Z5e s=some r):Ze Tryz.prog 27 [(.v (.string s))] ((.v (.int .i64 r))):=by
  unfold Z5e at h
  refine Wfn Tryz.func27 (Zl Tryz.f27) fun ctr hc=>?_
  revert h
  refine Wyp 1 [] 0 [] (Wq ?_)
  intro h
  intros
  refine Zy h (ctr+1) [(2,16)] [(5,1)] (fun _ u=>Fa [] []) (fun x uc ug ut ht hu hp h=>?_) (fun f h=>?_)
  · refine Wx [] 0 [] Wz
  · refine Wo0 ?_
    refine Wo 5 1 (strings_Fields_ok kS0) fun v h8=>?_
    revert h
    refine Wjp 1 [] 0 [] (Wq ?_)
    intro h
    intros
    refine Tr.block ?_
    refine Wlp h (ctr+2) [(2,3),(2,11)] [] (fun v1 u1=>Fa [(7,.v (.int .i64 v1))] []) Yr (fun v1 u1c u1g u1t f ht hu hp h=>?_)
    refine Wx [] 0 [] Wz

theorem ucd_wideName_ok (s:ByteArray) (r:Int) (h:Z67 s=some r):Ze Tryz.prog 28 [(.v (.string s))] ((.v (.int .i64 r))):=by
  unfold Z67 at h
  refine Wfn Tryz.func28 (Zl Tryz.f28) fun ctr hc=>?_
  refine Wo0 ?_
  refine Wo 4 0 (Qg s) fun v h1=>?_
  refine Wk [] 0 [] Wz

theorem ucd_joinName_ok (s:ByteArray) (r:Int) (h:Z68 s=some r):Ze Tryz.prog 29 [(.v (.string s))] ((.v (.int .i64 r))):=by
  unfold Z68 at h
  refine Wfn Tryz.func29 (Zl Tryz.f29) fun ctr hc=>?_
  refine Wx [] 0 [] Wz

theorem Z8p (text:ByteArray) (r:Z2) (h:Z1p text=some r):Ze Tryz.prog 26 [(.v (.string text)),.fn (.func 27) 0 (fun _=>.junk)] ((.agg 1 (fun j=>(Z07 nvS r j)))):=by
  unfold Z1p at h
  refine Wfn Tryz.func26 (Zl Tryz.f26) fun ctr hc=>?_
  revert h
  refine Wyp 2 [] 0 [] (Wq ?_)
  intro h
  intros
  refine Zy h (ctr+2) [(7,50)] [(5,1),(5,1),(42,1)] (fun o u=>Fa [] [(5,.box (ctr+1) [.vec 54 (u.g 54) 3 0 (nvS.len o)]),(54,.arr (u.g 54) 3 (nvS.len o) (u.t 54) (fun ix jx=>(Yz nvS (nvS.get Yd o ix) jx)))]) (fun o uc ug ut ht hu hp h=>?_) (fun f h=>?_)
  · refine Wx [] 0 [] Wz
  · refine Wo0 ?_
    refine Wo 11 1 (Z0b text (⟨#[44]⟩:ByteArray)) fun v h24=>?_
    revert h
    refine Wjp 1 [] 0 [] (Wq ?_)
    intro h
    intros
    refine Tr.block ?_
    refine Wlp h (ctr+3) [(7,3),(3,44)] [(5,1),(48,1)] (fun (v1,o1) u1=>Fa [(13,.v (.int .i64 v1))] [(5,.box (ctr+1) [.vec 54 (u1.g 54) 3 0 (nvS.len o1)]),(54,.arr (u1.g 54) 3 (nvS.len o1) (u1.t 54) (fun ix jx=>(Yz nvS (nvS.get Yd o1 ix) jx)))]) Yr (fun x u1c u1g u1t f ht hu hp h=>?_)
    obtain ⟨v1,o1⟩:=x
    try dsimp only at hp h
    revert h
    refine Wyp 2 [] 0 [] (Wq ?_)
    intro h
    intros
    refine Zy h (u1c+1) [(7,3),(5,41)] [(5,1),(3,1),(8,1),(35,1)] (fun o2 u2=>⟨[],[(5,.box (ctr+1) [.vec 54 (u2.g 54) 3 0 ((std Tryz.prog).add (nvS.len o1) 1)]),(54,.arr (u2.g 54) 3 ((std Tryz.prog).add (nvS.len o1) 1) (u2.t 54) (fun ix jx=>(Yz nvS (nvS.get Yd o2 ix) jx)))],fun _=>Z0 o2=((Z0 o1)+1)⟩) (fun o2 u2c u2g u2t ht hu hp h=>?_) (fun f h=>?_)
    · try dsimp only at hp h
      refine Wx [] 0 [] Wz
    · refine Tr.block ?_
      refine Wo0 ?_
      refine Wo 18 1 (Z2p (Z1 ByteArray.empty v (0+v1))) fun v2 h59=>?_
      revert h
      refine Wjp 3 [] 0 [] (Wq ?_)
      intro h
      intros
      refine Zy h (u1c+4) [(19,25)] [(9,1)] (fun (b9_0,b9_1,b9_2) u3=>Fa [] [(9,.box (u1c+3) [.v (.int .i64 b9_0),.v (.int .i64 b9_1),.v (.int .i64 b9_2)])]) (fun x u3c u3g u3t ht hu hp h=>?_) (fun f h=>?_)
      · obtain ⟨b9_0,b9_1,b9_2⟩:=x
        try dsimp only at hp h
        refine Wx [53] 0 [] Wz
      · revert h
        refine Wyp 1 [] 0 [] (Wq ?_)
        intro h
        intros
        refine Tr.block ?_
        refine Zy h (u1c+5) [(21,9)] [(9,1)] (fun b9_11 u4=>Fa [] [(9,.box (u1c+3) [.v (.int .i64 0),.v (.int .i64 b9_11),.v (.int .i64 0)])]) (fun b9_11 u4c u4g u4t ht hu hp h=>?_) (fun f h=>?_)
        · refine Wo0 ?_
          refine Wo 33 0 (Qg (Z1 ByteArray.empty v2 (0+0))) fun v3 h71=>?_
          refine Wo 41 0 (ucd_className_ok (Z1 ByteArray.empty v2 (0+((Z0 v2)-1)))) fun v4 h74=>?_
          refine Wk [] 0 [] Wz
        · refine Wo0 ?_
          refine Wo 28 0 (Qg (Z1 ByteArray.empty v2 (0+1))) fun v5 h76=>?_
          refine Wk [] 0 [] Wz

theorem ucd_table_wide_ok (text:ByteArray) (r:Z2) (h:Z2c text=some r):Ze Tryz.prog 26 [(.v (.string text)),.fn (.func 28) 0 (fun _=>.junk)] ((.agg 1 (fun j=>(Z07 nvS r j)))):=by
  unfold Z2c at h
  refine Wfn Tryz.func26 (Zl Tryz.f26) fun ctr hc=>?_
  revert h
  refine Wyp 2 [] 0 [] (Wq ?_)
  intro h
  intros
  refine Zy h (ctr+2) [(7,50)] [(5,1),(5,1),(42,1)] (fun o u=>Fa [] [(5,.box (ctr+1) [.vec 54 (u.g 54) 3 0 (nvS.len o)]),(54,.arr (u.g 54) 3 (nvS.len o) (u.t 54) (fun ix jx=>(Yz nvS (nvS.get Yd o ix) jx)))]) (fun o uc ug ut ht hu hp h=>?_) (fun f h=>?_)
  · refine Wx [] 0 [] Wz
  · refine Wo0 ?_
    refine Wo 11 1 (Z0b text (⟨#[44]⟩:ByteArray)) fun v h24=>?_
    revert h
    refine Wjp 1 [] 0 [] (Wq ?_)
    intro h
    intros
    refine Tr.block ?_
    refine Wlp h (ctr+3) [(7,3),(3,44)] [(5,1),(48,1)] (fun (v1,o1) u1=>Fa [(13,.v (.int .i64 v1))] [(5,.box (ctr+1) [.vec 54 (u1.g 54) 3 0 (nvS.len o1)]),(54,.arr (u1.g 54) 3 (nvS.len o1) (u1.t 54) (fun ix jx=>(Yz nvS (nvS.get Yd o1 ix) jx)))]) Yr (fun x u1c u1g u1t f ht hu hp h=>?_)
    obtain ⟨v1,o1⟩:=x
    try dsimp only at hp h
    revert h
    refine Wyp 2 [] 0 [] (Wq ?_)
    intro h
    intros
    refine Zy h (u1c+1) [(7,3),(5,41)] [(5,1),(3,1),(8,1),(35,1)] (fun o2 u2=>⟨[],[(5,.box (ctr+1) [.vec 54 (u2.g 54) 3 0 ((std Tryz.prog).add (nvS.len o1) 1)]),(54,.arr (u2.g 54) 3 ((std Tryz.prog).add (nvS.len o1) 1) (u2.t 54) (fun ix jx=>(Yz nvS (nvS.get Yd o2 ix) jx)))],fun _=>Z0 o2=((Z0 o1)+1)⟩) (fun o2 u2c u2g u2t ht hu hp h=>?_) (fun f h=>?_)
    · try dsimp only at hp h
      refine Wx [] 0 [] Wz
    · refine Tr.block ?_
      refine Wo0 ?_
      refine Wo 18 1 (Z2p (Z1 ByteArray.empty v (0+v1))) fun v2 h59=>?_
      revert h
      refine Wjp 3 [] 0 [] (Wq ?_)
      intro h
      intros
      refine Zy h (u1c+4) [(19,25)] [(9,1)] (fun (b9_0,b9_1,b9_2) u3=>Fa [] [(9,.box (u1c+3) [.v (.int .i64 b9_0),.v (.int .i64 b9_1),.v (.int .i64 b9_2)])]) (fun x u3c u3g u3t ht hu hp h=>?_) (fun f h=>?_)
      · obtain ⟨b9_0,b9_1,b9_2⟩:=x
        try dsimp only at hp h
        refine Wx [53] 0 [] Wz
      · revert h
        refine Wyp 1 [] 0 [] (Wq ?_)
        intro h
        intros
        refine Tr.block ?_
        refine Zy h (u1c+5) [(21,9)] [(9,1)] (fun b9_11 u4=>Fa [] [(9,.box (u1c+3) [.v (.int .i64 0),.v (.int .i64 b9_11),.v (.int .i64 0)])]) (fun b9_11 u4c u4g u4t ht hu hp h=>?_) (fun f h=>?_)
        · refine Wo0 ?_
          refine Wo 33 0 (Qg (Z1 ByteArray.empty v2 (0+0))) fun v3 h71=>?_
          refine Wo 41 0 (ucd_wideName_ok (Z1 ByteArray.empty v2 (0+((Z0 v2)-1)))) fun v4 h74=>?_
          refine Wk [] 0 [] Wz
        · refine Wo0 ?_
          refine Wo 28 0 (Qg (Z1 ByteArray.empty v2 (0+1))) fun v5 h76=>?_
          refine Wk [] 0 [] Wz

theorem ucd_table_join_ok (text:ByteArray) (r:Z2) (h:Z2d text=some r):Ze Tryz.prog 26 [(.v (.string text)),.fn (.func 29) 0 (fun _=>.junk)] ((.agg 1 (fun j=>(Z07 nvS r j)))):=by
  unfold Z2d at h
  refine Wfn Tryz.func26 (Zl Tryz.f26) fun ctr hc=>?_
  revert h
  refine Wyp 2 [] 0 [] (Wq ?_)
  intro h
  intros
  refine Zy h (ctr+2) [(7,50)] [(5,1),(5,1),(42,1)] (fun o u=>Fa [] [(5,.box (ctr+1) [.vec 54 (u.g 54) 3 0 (nvS.len o)]),(54,.arr (u.g 54) 3 (nvS.len o) (u.t 54) (fun ix jx=>(Yz nvS (nvS.get Yd o ix) jx)))]) (fun o uc ug ut ht hu hp h=>?_) (fun f h=>?_)
  · refine Wx [] 0 [] Wz
  · refine Wo0 ?_
    refine Wo 11 1 (Z0b text (⟨#[44]⟩:ByteArray)) fun v h24=>?_
    revert h
    refine Wjp 1 [] 0 [] (Wq ?_)
    intro h
    intros
    refine Tr.block ?_
    refine Wlp h (ctr+3) [(7,3),(3,44)] [(5,1),(48,1)] (fun (v1,o1) u1=>Fa [(13,.v (.int .i64 v1))] [(5,.box (ctr+1) [.vec 54 (u1.g 54) 3 0 (nvS.len o1)]),(54,.arr (u1.g 54) 3 (nvS.len o1) (u1.t 54) (fun ix jx=>(Yz nvS (nvS.get Yd o1 ix) jx)))]) Yr (fun x u1c u1g u1t f ht hu hp h=>?_)
    obtain ⟨v1,o1⟩:=x
    try dsimp only at hp h
    revert h
    refine Wyp 2 [] 0 [] (Wq ?_)
    intro h
    intros
    refine Zy h (u1c+1) [(7,3),(5,41)] [(5,1),(3,1),(8,1),(35,1)] (fun o2 u2=>⟨[],[(5,.box (ctr+1) [.vec 54 (u2.g 54) 3 0 ((std Tryz.prog).add (nvS.len o1) 1)]),(54,.arr (u2.g 54) 3 ((std Tryz.prog).add (nvS.len o1) 1) (u2.t 54) (fun ix jx=>(Yz nvS (nvS.get Yd o2 ix) jx)))],fun _=>Z0 o2=((Z0 o1)+1)⟩) (fun o2 u2c u2g u2t ht hu hp h=>?_) (fun f h=>?_)
    · try dsimp only at hp h
      refine Wx [] 0 [] Wz
    · refine Tr.block ?_
      refine Wo0 ?_
      refine Wo 18 1 (Z2p (Z1 ByteArray.empty v (0+v1))) fun v2 h59=>?_
      revert h
      refine Wjp 3 [] 0 [] (Wq ?_)
      intro h
      intros
      refine Zy h (u1c+4) [(19,25)] [(9,1)] (fun (b9_0,b9_1,b9_2) u3=>Fa [] [(9,.box (u1c+3) [.v (.int .i64 b9_0),.v (.int .i64 b9_1),.v (.int .i64 b9_2)])]) (fun x u3c u3g u3t ht hu hp h=>?_) (fun f h=>?_)
      · obtain ⟨b9_0,b9_1,b9_2⟩:=x
        try dsimp only at hp h
        refine Wx [53] 0 [] Wz
      · revert h
        refine Wyp 1 [] 0 [] (Wq ?_)
        intro h
        intros
        refine Tr.block ?_
        refine Zy h (u1c+5) [(21,9)] [(9,1)] (fun b9_11 u4=>Fa [] [(9,.box (u1c+3) [.v (.int .i64 0),.v (.int .i64 b9_11),.v (.int .i64 0)])]) (fun b9_11 u4c u4g u4t ht hu hp h=>?_) (fun f h=>?_)
        · refine Wo0 ?_
          refine Wo 33 0 (Qg (Z1 ByteArray.empty v2 (0+0))) fun v3 h71=>?_
          refine Wo 41 0 (ucd_joinName_ok (Z1 ByteArray.empty v2 (0+((Z0 v2)-1)))) fun v4 h74=>?_
          refine Wk [] 0 [] Wz
        · refine Wo0 ?_
          refine Wo 28 0 (Qg (Z1 ByteArray.empty v2 (0+1))) fun v5 h76=>?_
          refine Wk [] 0 [] Wz

theorem ucd_pairs_ok (text:ByteArray) (r:(List Yg)) (h:Z4e text=some r):Ze Tryz.prog 30 [(.v (.string text))] (.own 2 (nvS.len r) false (fun ix jx=>(Z1t nvS (nvS.get Xr r ix) jx))):=by
  unfold Z4e at h
  refine Wfn Tryz.func30 (Zl Tryz.f30) fun ctr hc=>?_
  revert h
  refine Wyp 2 [] 0 [] (Wq ?_)
  intro h
  intros
  refine Zy h (ctr+2) [(3,1),(1,27)] [(8,1),(21,1)] (fun l' u=>Fa [(3,.vec 30 (u.g 30) 2 0 (nvS.len l'))] [(30,.arr (u.g 30) 2 (nvS.len l') (u.t 30) (fun ix jx=>(Z1t nvS (nvS.get Xr l' ix) jx)))]) (fun l' uc ug ut ht hu hp h=>?_) (fun f h=>?_)
  · refine Wx [] 0 [] Wz
  · refine Wo0 ?_
    refine Wo 8 1 (Z0b text (⟨#[44]⟩:ByteArray)) fun v h20=>?_
    revert h
    refine Wjp 1 [] 0 [] (Wq ?_)
    intro h
    intros
    refine Tr.block ?_
    refine Wlp h (ctr+3) [(3,1),(1,2),(3,22)] [(15,1),(14,1)] (fun (v1,l'1) u1=>Fa [(3,.vec 30 (u1.g 30) 2 0 (nvS.len l'1)),(10,.v (.int .i64 v1))] [(30,.arr (u1.g 30) 2 (nvS.len l'1) (u1.t 30) (fun ix jx=>(Z1t nvS (nvS.get Xr l'1 ix) jx)))]) Yr (fun x u1c u1g u1t f ht hu hp h=>?_)
    obtain ⟨v1,l'1⟩:=x
    try dsimp only at hp h
    refine Wo0 ?_
    refine Wo 15 1 (Z2p (Z1 ByteArray.empty v (0+v1))) fun v2 h40=>?_
    refine Wo 23 0 (Qg (Z1 ByteArray.empty v2 (0+0))) fun v3 h42=>?_
    refine Wo 27 0 (Qg (Z1 ByteArray.empty v2 (0+1))) fun v4 h44=>?_
    refine Wk [29] 0 [] Wz

theorem ucd_forms_ok (text:ByteArray) (r:(List X0)) (h:Z7v text=some r):Ze Tryz.prog 31 [(.v (.string text))] (.own 3 (nvS.len r) false (fun ix jx=>(Z32 nvS (nvS.get X6 r ix) jx))):=by
  unfold Z7v at h
  refine Wfn Tryz.func31 (Zl Tryz.f31) fun ctr hc=>?_
  revert h
  refine Wyp 2 [] 0 [] (Wq ?_)
  intro h
  intros
  refine Zy h (ctr+2) [(3,1),(1,31)] [(8,1),(25,1)] (fun l' u=>Fa [(3,.vec 34 (u.g 34) 3 0 (nvS.len l'))] [(34,.arr (u.g 34) 3 (nvS.len l') (u.t 34) (fun ix jx=>(Z32 nvS (nvS.get X6 l' ix) jx)))]) (fun l' uc ug ut ht hu hp h=>?_) (fun f h=>?_)
  · refine Wx [] 0 [] Wz
  · refine Wo0 ?_
    refine Wo 8 1 (Z0b text (⟨#[44]⟩:ByteArray)) fun v h24=>?_
    revert h
    refine Wjp 1 [] 0 [] (Wq ?_)
    intro h
    intros
    refine Tr.block ?_
    refine Wlp h (ctr+3) [(3,1),(1,2),(3,26)] [(15,1),(18,1)] (fun (v1,l'1) u1=>Fa [(3,.vec 34 (u1.g 34) 3 0 (nvS.len l'1)),(10,.v (.int .i64 v1))] [(34,.arr (u1.g 34) 3 (nvS.len l'1) (u1.t 34) (fun ix jx=>(Z32 nvS (nvS.get X6 l'1 ix) jx)))]) Yr (fun x u1c u1g u1t f ht hu hp h=>?_)
    obtain ⟨v1,l'1⟩:=x
    try dsimp only at hp h
    refine Wo0 ?_
    refine Wo 15 1 (Z2p (Z1 ByteArray.empty v (0+v1))) fun v2 h48=>?_
    refine Wo 23 0 (Qg (Z1 ByteArray.empty v2 (0+0))) fun v3 h50=>?_
    refine Wo 27 0 (Qg (Z1 ByteArray.empty v2 (0+1))) fun v4 h52=>?_
    refine Wo 31 0 (Qg (Z1 ByteArray.empty v2 (0+2))) fun v5 h54=>?_
    refine Wk [33] 0 [] Wz

theorem ucd_Load_ok  (r:Za) (h:Z5l=some r):Ze Tryz.prog 10 [] ((.agg 6 (fun j=>(Yk nvS r j)))):=by
  unfold Z5l at h
  refine Wfn Tryz.func10 (Zl Tryz.f10) fun ctr hc=>?_
  refine Wo0 ?_
  refine Wo 1 0 (Z8p kS1) fun v h1=>?_
  obtain ⟨v_L⟩:=v
  refine Wo 2 0 (ucd_table_wide_ok kS2) fun v1 h2=>?_
  obtain ⟨v1_L⟩:=v1
  refine Wo 3 0 (ucd_table_join_ok kS3) fun v2 h3=>?_
  obtain ⟨v2_L⟩:=v2
  refine Wo 4 1 (ucd_pairs_ok kS4) fun v3 h4=>?_
  refine Wo 5 1 (ucd_pairs_ok kS5) fun v4 h5=>?_
  refine Wo 6 1 (ucd_forms_ok kS6) fun v5 h6=>?_
  refine Wk [] 0 [] Wz

end Go.Vx
