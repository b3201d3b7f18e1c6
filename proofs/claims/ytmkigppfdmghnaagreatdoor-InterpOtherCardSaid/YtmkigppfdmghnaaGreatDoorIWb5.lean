/- Walks, by program (lift5.py): the code does what the lifted functions say. -/
import Derived.Test.YtmkigppfdmghnaaGreatDoorIWalkPr
import Derived.Test.YtmkigppfdmghnaaGreatDoorIWb2
import Derived.Test.YtmkigppfdmghnaaGreatDoorIWb3
import Derived.Test.YtmkigppfdmghnaaGreatDoorIWb4
set_option linter.all false
namespace Go.Vx
open Go.Proofs
set_option maxRecDepth 100000
set_option maxHeartbeats 8000000
set_option linter.unusedVariables false
set_option linter.unusedSimpArgs false
attribute [local irreducible] chk iteO bindO cutO nilO

theorem strings_genSplit_ok (s:ByteArray) (sep:ByteArray) (sepSave:Int) (n:Int) (r:(List ByteArray)) (h:strings_genSplit s sep sepSave n=some r):PureFn Tryz.prog 204 [(.v (.string s)),(.v (.string sep)),(.v (.int .i64 sepSave)),(.v (.int .i64 n))] (.own 1 (nvS.len r) false (fun ix jx=>(.v (.string (nvS.get ByteArray.empty r ix))))):=by
  unfold strings_genSplit at h
  refine Wfn Tryz.func204 (bodyOf Tryz.f204) fun ctr hc=>?_
  revert h
  refine Wyp 3 [] 0 [] (Wq ?_)
  intro h
  intros
  refine Wcut h (ctr+3) [(3,1),(15,6)] [] (fun n1 u=>Fa [(3,.v (.int .i64 n1))] []) (fun n1 uc ug ut ht hu hp h=>?_) (fun f h=>?_)
  · revert h
    refine Wyp 4 [] 0 [] (Wq ?_)
    intro h
    intros
    refine Wcut h (uc+4) [(0,1),(9,2),(22,24)] [(31,1)] (fun (s1,i,a) u1=>⟨[(0,.v (.string s1)),(10,.v (.int .i64 i))],[(31,.arr (uc+1) 1 ((std Tryz.prog).imin n1 ((std Tryz.prog).add ((std Tryz.prog).slen s) 1)) (u1.t 31) (fun ix jx=>(.v (.string (nvS.get ByteArray.empty a ix)))))],fun _=>lenL a=(iminI n1 ((slenS s)+1))⟩) (fun x u1c u1g u1t ht hu hp h=>?_) (fun f h=>?_)
    · obtain ⟨s1,i,a⟩:=x
      try dsimp only at hp h
      refine Wx [] 0 [] Wz
    · refine Tr.block ?_
      refine Wlp h (uc+4) [(0,1),(9,2),(22,24)] [(31,1)] (fun (s2,i1,a1) u2=>⟨[(0,.v (.string s2)),(10,.v (.int .i64 i1))],[(31,.arr (uc+1) 1 ((std Tryz.prog).imin n1 ((std Tryz.prog).add ((std Tryz.prog).slen s) 1)) (u2.t 31) (fun ix jx=>(.v (.string (nvS.get ByteArray.empty a1 ix)))))],fun _=>lenL a1=(iminI n1 ((slenS s)+1))⟩) Wlay (fun x u2c u2g u2t f ht hu hp h=>?_)
      obtain ⟨s2,i1,a1⟩:=x
      try dsimp only at hp h
      refine Wo0 ?_
      refine Wo 39 0 (strings_Index_ok s2 sep) fun v h37=>?_
      refine Wk [] 0 [] Wz
  · refine Wo0 ?_
    refine Wo 23 0 (strings_Count_ok s sep) fun v1 h44=>?_
    refine Wk [] 0 [] Wz

theorem strings_Split_ok (s:ByteArray) (sep:ByteArray) (r:(List ByteArray)) (h:strings_Split s sep=some r):PureFn Tryz.prog 124 [(.v (.string s)),(.v (.string sep))] (.own 1 (nvS.len r) false (fun ix jx=>(.v (.string (nvS.get ByteArray.empty r ix))))):=by
  unfold strings_Split at h
  refine Wfn Tryz.func124 (bodyOf Tryz.f124) fun ctr hc=>?_
  refine Wo0 ?_
  refine Wo 7 1 (strings_genSplit_ok s sep 0 (-1)) fun v h1=>?_
  refine Wk [] 0 [] Wz

theorem ucd_hex_ok (s:ByteArray) (r:Int) (h:ucd_hex s=some r):PureFn Tryz.prog 126 [(.v (.string s))] ((.v (.int .i64 r))):=by
  unfold ucd_hex at h
  refine Wfn Tryz.func126 (bodyOf Tryz.f126) fun ctr hc=>?_
  refine Wo0 ?_
  refine Wo 7 0 (strconv_ParseInt_ok s 16 32) fun v h1=>?_
  obtain ⟨q,q1⟩:=v
  refine Wk [] 0 [] Wz

theorem ucd_wideName_ok (s:ByteArray) (r:Int) (h:ucd_wideName s=some r):PureFn Tryz.prog 42 [(.v (.string s))] ((.v (.int .i64 r))):=by
  unfold ucd_wideName at h
  refine Wfn Tryz.func42 (bodyOf Tryz.f42) fun ctr hc=>?_
  refine Wo0 ?_
  refine Wo 4 0 (ucd_hex_ok s) fun v h1=>?_
  refine Wk [] 0 [] Wz

theorem ucd_table_class_ok (text:ByteArray) (r:T_ranges_Table) (h:ucd_table_class text=some r):PureFn Tryz.prog 40 [(.v (.string text)),.fn (.func 41) 0 (fun _=>.junk)] ((.agg 1 (fun j=>(D_ranges_Table nvS r j)))):=by
  unfold ucd_table_class at h
  refine Wfn Tryz.func40 (bodyOf Tryz.f40) fun ctr hc=>?_
  revert h
  refine Wyp 2 [] 0 [] (Wq ?_)
  intro h
  intros
  refine Wcut h (ctr+2) [(7,50)] [(5,1),(5,1),(42,1)] (fun o u=>Fa [] [(5,.box (ctr+1) [.vec 54 (u.g 54) 3 0 (nvS.len o)]),(54,.arr (u.g 54) 3 (nvS.len o) (u.t 54) (fun ix jx=>(D_ranges_Row nvS (nvS.get d_ranges_Row o ix) jx)))]) (fun o uc ug ut ht hu hp h=>?_) (fun f h=>?_)
  · refine Wx [] 0 [] Wz
  · refine Wo0 ?_
    refine Wi 11 1 h sB (strings_Split_ok _ _) fun v h24=>?_
    revert h
    refine Wjp 1 [] 0 [] (Wq ?_)
    intro h
    intros
    refine Tr.block ?_
    refine Wlp h (ctr+3) [(7,3),(3,44)] [(5,1),(48,1)] (fun (v1,o1) u1=>Fa [(13,.v (.int .i64 v1))] [(5,.box (ctr+1) [.vec 54 (u1.g 54) 3 0 (nvS.len o1)]),(54,.arr (u1.g 54) 3 (nvS.len o1) (u1.t 54) (fun ix jx=>(D_ranges_Row nvS (nvS.get d_ranges_Row o1 ix) jx)))]) Wlay (fun x u1c u1g u1t f ht hu hp h=>?_)
    obtain ⟨v1,o1⟩:=x
    try dsimp only at hp h
    revert h
    refine Wyp 2 [] 0 [] (Wq ?_)
    intro h
    intros
    refine Wcut h (u1c+1) [(7,3),(5,41)] [(5,1),(3,1),(8,1),(35,1)] (fun o2 u2=>⟨[],[(5,.box (ctr+1) [.vec 54 (u2.g 54) 3 0 ((std Tryz.prog).add (nvS.len o1) 1)]),(54,.arr (u2.g 54) 3 ((std Tryz.prog).add (nvS.len o1) 1) (u2.t 54) (fun ix jx=>(D_ranges_Row nvS (nvS.get d_ranges_Row o2 ix) jx)))],fun _=>lenL o2=((lenL o1)+1)⟩) (fun o2 u2c u2g u2t ht hu hp h=>?_) (fun f h=>?_)
    · try dsimp only at hp h
      refine Wx [] 0 [] Wz
    · refine Tr.block ?_
      refine Wo0 ?_
      refine Wi 18 1 h (sC sB) (ucd_words_ok _) fun v2 h59=>?_
      revert h
      refine Wjp 3 [] 0 [] (Wq ?_)
      intro h
      intros
      refine Wcut h (u1c+4) [(19,25)] [(9,1)] (fun (b9_0,b9_1,b9_2) u3=>Fa [] [(9,.box (u1c+3) [.v (.int .i64 b9_0),.v (.int .i64 b9_1),.v (.int .i64 b9_2)])]) (fun x u3c u3g u3t ht hu hp h=>?_) (fun f h=>?_)
      · obtain ⟨b9_0,b9_1,b9_2⟩:=x
        try dsimp only at hp h
        refine Wx [53] 0 [] Wz
      · revert h
        refine Wyp 1 [] 0 [] (Wq ?_)
        intro h
        intros
        refine Tr.block ?_
        refine Wcut h (u1c+5) [(21,9)] [(9,1)] (fun b9_11 u4=>Fa [] [(9,.box (u1c+3) [.v (.int .i64 0),.v (.int .i64 b9_11),.v (.int .i64 0)])]) (fun b9_11 u4c u4g u4t ht hu hp h=>?_) (fun f h=>?_)
        · refine Wo0 ?_
          refine Wi 33 0 h (sC sB) (ucd_hex_ok _) fun v3 h71=>?_
          refine Wi 41 0 h (sC (sK v3 (sC (sC sB)))) (ucd_className_ok _) fun v4 h74=>?_
          refine Wk [] 0 [] Wz
        · refine Wo0 ?_
          refine Wi 28 0 h (sT (sC sB)) (ucd_hex_ok _) fun v5 h76=>?_
          refine Wk [] 0 [] Wz

theorem ucd_table_wide_ok (text:ByteArray) (r:T_ranges_Table) (h:ucd_table_wide text=some r):PureFn Tryz.prog 40 [(.v (.string text)),.fn (.func 42) 0 (fun _=>.junk)] ((.agg 1 (fun j=>(D_ranges_Table nvS r j)))):=by
  unfold ucd_table_wide at h
  refine Wfn Tryz.func40 (bodyOf Tryz.f40) fun ctr hc=>?_
  revert h
  refine Wyp 2 [] 0 [] (Wq ?_)
  intro h
  intros
  refine Wcut h (ctr+2) [(7,50)] [(5,1),(5,1),(42,1)] (fun o u=>Fa [] [(5,.box (ctr+1) [.vec 54 (u.g 54) 3 0 (nvS.len o)]),(54,.arr (u.g 54) 3 (nvS.len o) (u.t 54) (fun ix jx=>(D_ranges_Row nvS (nvS.get d_ranges_Row o ix) jx)))]) (fun o uc ug ut ht hu hp h=>?_) (fun f h=>?_)
  · refine Wx [] 0 [] Wz
  · refine Wo0 ?_
    refine Wi 11 1 h sB (strings_Split_ok _ _) fun v h24=>?_
    revert h
    refine Wjp 1 [] 0 [] (Wq ?_)
    intro h
    intros
    refine Tr.block ?_
    refine Wlp h (ctr+3) [(7,3),(3,44)] [(5,1),(48,1)] (fun (v1,o1) u1=>Fa [(13,.v (.int .i64 v1))] [(5,.box (ctr+1) [.vec 54 (u1.g 54) 3 0 (nvS.len o1)]),(54,.arr (u1.g 54) 3 (nvS.len o1) (u1.t 54) (fun ix jx=>(D_ranges_Row nvS (nvS.get d_ranges_Row o1 ix) jx)))]) Wlay (fun x u1c u1g u1t f ht hu hp h=>?_)
    obtain ⟨v1,o1⟩:=x
    try dsimp only at hp h
    revert h
    refine Wyp 2 [] 0 [] (Wq ?_)
    intro h
    intros
    refine Wcut h (u1c+1) [(7,3),(5,41)] [(5,1),(3,1),(8,1),(35,1)] (fun o2 u2=>⟨[],[(5,.box (ctr+1) [.vec 54 (u2.g 54) 3 0 ((std Tryz.prog).add (nvS.len o1) 1)]),(54,.arr (u2.g 54) 3 ((std Tryz.prog).add (nvS.len o1) 1) (u2.t 54) (fun ix jx=>(D_ranges_Row nvS (nvS.get d_ranges_Row o2 ix) jx)))],fun _=>lenL o2=((lenL o1)+1)⟩) (fun o2 u2c u2g u2t ht hu hp h=>?_) (fun f h=>?_)
    · try dsimp only at hp h
      refine Wx [] 0 [] Wz
    · refine Tr.block ?_
      refine Wo0 ?_
      refine Wi 18 1 h (sC sB) (ucd_words_ok _) fun v2 h59=>?_
      revert h
      refine Wjp 3 [] 0 [] (Wq ?_)
      intro h
      intros
      refine Wcut h (u1c+4) [(19,25)] [(9,1)] (fun (b9_0,b9_1,b9_2) u3=>Fa [] [(9,.box (u1c+3) [.v (.int .i64 b9_0),.v (.int .i64 b9_1),.v (.int .i64 b9_2)])]) (fun x u3c u3g u3t ht hu hp h=>?_) (fun f h=>?_)
      · obtain ⟨b9_0,b9_1,b9_2⟩:=x
        try dsimp only at hp h
        refine Wx [53] 0 [] Wz
      · revert h
        refine Wyp 1 [] 0 [] (Wq ?_)
        intro h
        intros
        refine Tr.block ?_
        refine Wcut h (u1c+5) [(21,9)] [(9,1)] (fun b9_11 u4=>Fa [] [(9,.box (u1c+3) [.v (.int .i64 0),.v (.int .i64 b9_11),.v (.int .i64 0)])]) (fun b9_11 u4c u4g u4t ht hu hp h=>?_) (fun f h=>?_)
        · refine Wo0 ?_
          refine Wi 33 0 h (sC sB) (ucd_hex_ok _) fun v3 h71=>?_
          refine Wi 41 0 h (sC (sK v3 (sC (sC sB)))) (ucd_wideName_ok _) fun v4 h74=>?_
          refine Wk [] 0 [] Wz
        · refine Wo0 ?_
          refine Wi 28 0 h (sT (sC sB)) (ucd_hex_ok _) fun v5 h76=>?_
          refine Wk [] 0 [] Wz

theorem ucd_table_join_ok (text:ByteArray) (r:T_ranges_Table) (h:ucd_table_join text=some r):PureFn Tryz.prog 40 [(.v (.string text)),.fn (.func 43) 0 (fun _=>.junk)] ((.agg 1 (fun j=>(D_ranges_Table nvS r j)))):=by
  unfold ucd_table_join at h
  refine Wfn Tryz.func40 (bodyOf Tryz.f40) fun ctr hc=>?_
  revert h
  refine Wyp 2 [] 0 [] (Wq ?_)
  intro h
  intros
  refine Wcut h (ctr+2) [(7,50)] [(5,1),(5,1),(42,1)] (fun o u=>Fa [] [(5,.box (ctr+1) [.vec 54 (u.g 54) 3 0 (nvS.len o)]),(54,.arr (u.g 54) 3 (nvS.len o) (u.t 54) (fun ix jx=>(D_ranges_Row nvS (nvS.get d_ranges_Row o ix) jx)))]) (fun o uc ug ut ht hu hp h=>?_) (fun f h=>?_)
  · refine Wx [] 0 [] Wz
  · refine Wo0 ?_
    refine Wi 11 1 h sB (strings_Split_ok _ _) fun v h24=>?_
    revert h
    refine Wjp 1 [] 0 [] (Wq ?_)
    intro h
    intros
    refine Tr.block ?_
    refine Wlp h (ctr+3) [(7,3),(3,44)] [(5,1),(48,1)] (fun (v1,o1) u1=>Fa [(13,.v (.int .i64 v1))] [(5,.box (ctr+1) [.vec 54 (u1.g 54) 3 0 (nvS.len o1)]),(54,.arr (u1.g 54) 3 (nvS.len o1) (u1.t 54) (fun ix jx=>(D_ranges_Row nvS (nvS.get d_ranges_Row o1 ix) jx)))]) Wlay (fun x u1c u1g u1t f ht hu hp h=>?_)
    obtain ⟨v1,o1⟩:=x
    try dsimp only at hp h
    revert h
    refine Wyp 2 [] 0 [] (Wq ?_)
    intro h
    intros
    refine Wcut h (u1c+1) [(7,3),(5,41)] [(5,1),(3,1),(8,1),(35,1)] (fun o2 u2=>⟨[],[(5,.box (ctr+1) [.vec 54 (u2.g 54) 3 0 ((std Tryz.prog).add (nvS.len o1) 1)]),(54,.arr (u2.g 54) 3 ((std Tryz.prog).add (nvS.len o1) 1) (u2.t 54) (fun ix jx=>(D_ranges_Row nvS (nvS.get d_ranges_Row o2 ix) jx)))],fun _=>lenL o2=((lenL o1)+1)⟩) (fun o2 u2c u2g u2t ht hu hp h=>?_) (fun f h=>?_)
    · try dsimp only at hp h
      refine Wx [] 0 [] Wz
    · refine Tr.block ?_
      refine Wo0 ?_
      refine Wi 18 1 h (sC sB) (ucd_words_ok _) fun v2 h59=>?_
      revert h
      refine Wjp 3 [] 0 [] (Wq ?_)
      intro h
      intros
      refine Wcut h (u1c+4) [(19,25)] [(9,1)] (fun (b9_0,b9_1,b9_2) u3=>Fa [] [(9,.box (u1c+3) [.v (.int .i64 b9_0),.v (.int .i64 b9_1),.v (.int .i64 b9_2)])]) (fun x u3c u3g u3t ht hu hp h=>?_) (fun f h=>?_)
      · obtain ⟨b9_0,b9_1,b9_2⟩:=x
        try dsimp only at hp h
        refine Wx [53] 0 [] Wz
      · revert h
        refine Wyp 1 [] 0 [] (Wq ?_)
        intro h
        intros
        refine Tr.block ?_
        refine Wcut h (u1c+5) [(21,9)] [(9,1)] (fun b9_11 u4=>Fa [] [(9,.box (u1c+3) [.v (.int .i64 0),.v (.int .i64 b9_11),.v (.int .i64 0)])]) (fun b9_11 u4c u4g u4t ht hu hp h=>?_) (fun f h=>?_)
        · refine Wo0 ?_
          refine Wi 33 0 h (sC sB) (ucd_hex_ok _) fun v3 h71=>?_
          refine Wi 41 0 h (sC (sK v3 (sC (sC sB)))) (ucd_joinName_ok _) fun v4 h74=>?_
          refine Wk [] 0 [] Wz
        · refine Wo0 ?_
          refine Wi 28 0 h (sT (sC sB)) (ucd_hex_ok _) fun v5 h76=>?_
          refine Wk [] 0 [] Wz

theorem ucd_pairs_ok (text:ByteArray) (r:(List T_ucd_Pair)) (h:ucd_pairs text=some r):PureFn Tryz.prog 44 [(.v (.string text))] (.own 2 (nvS.len r) false (fun ix jx=>(D_ucd_Pair nvS (nvS.get d_ucd_Pair r ix) jx))):=by
  unfold ucd_pairs at h
  refine Wfn Tryz.func44 (bodyOf Tryz.f44) fun ctr hc=>?_
  revert h
  refine Wyp 2 [] 0 [] (Wq ?_)
  intro h
  intros
  refine Wcut h (ctr+2) [(3,1),(1,27)] [(8,1),(21,1)] (fun l' u=>Fa [(3,.vec 30 (u.g 30) 2 0 (nvS.len l'))] [(30,.arr (u.g 30) 2 (nvS.len l') (u.t 30) (fun ix jx=>(D_ucd_Pair nvS (nvS.get d_ucd_Pair l' ix) jx)))]) (fun l' uc ug ut ht hu hp h=>?_) (fun f h=>?_)
  · refine Wx [] 0 [] Wz
  · refine Wo0 ?_
    refine Wi 8 1 h sB (strings_Split_ok _ _) fun v h20=>?_
    revert h
    refine Wjp 1 [] 0 [] (Wq ?_)
    intro h
    intros
    refine Tr.block ?_
    refine Wlp h (ctr+3) [(3,1),(1,2),(3,22)] [(15,1),(14,1)] (fun (v1,l'1) u1=>Fa [(3,.vec 30 (u1.g 30) 2 0 (nvS.len l'1)),(10,.v (.int .i64 v1))] [(30,.arr (u1.g 30) 2 (nvS.len l'1) (u1.t 30) (fun ix jx=>(D_ucd_Pair nvS (nvS.get d_ucd_Pair l'1 ix) jx)))]) Wlay (fun x u1c u1g u1t f ht hu hp h=>?_)
    obtain ⟨v1,l'1⟩:=x
    try dsimp only at hp h
    refine Wo0 ?_
    refine Wi 15 1 h (sT (sC sB)) (ucd_words_ok _) fun v2 h40=>?_
    refine Wo 23 0 (ucd_hex_ok (getL ByteArray.empty v2 (0+0))) fun v3 h42=>?_
    refine Wo 27 0 (ucd_hex_ok (getL ByteArray.empty v2 (0+1))) fun v4 h44=>?_
    refine Wk [29] 0 [] Wz

theorem ucd_forms_ok (text:ByteArray) (r:(List T_ucd_Form)) (h:ucd_forms text=some r):PureFn Tryz.prog 45 [(.v (.string text))] (.own 3 (nvS.len r) false (fun ix jx=>(D_ucd_Form nvS (nvS.get d_ucd_Form r ix) jx))):=by
  unfold ucd_forms at h
  refine Wfn Tryz.func45 (bodyOf Tryz.f45) fun ctr hc=>?_
  revert h
  refine Wyp 2 [] 0 [] (Wq ?_)
  intro h
  intros
  refine Wcut h (ctr+2) [(3,1),(1,31)] [(8,1),(25,1)] (fun l' u=>Fa [(3,.vec 34 (u.g 34) 3 0 (nvS.len l'))] [(34,.arr (u.g 34) 3 (nvS.len l') (u.t 34) (fun ix jx=>(D_ucd_Form nvS (nvS.get d_ucd_Form l' ix) jx)))]) (fun l' uc ug ut ht hu hp h=>?_) (fun f h=>?_)
  · refine Wx [] 0 [] Wz
  · refine Wo0 ?_
    refine Wi 8 1 h sB (strings_Split_ok _ _) fun v h24=>?_
    revert h
    refine Wjp 1 [] 0 [] (Wq ?_)
    intro h
    intros
    refine Tr.block ?_
    refine Wlp h (ctr+3) [(3,1),(1,2),(3,26)] [(15,1),(18,1)] (fun (v1,l'1) u1=>Fa [(3,.vec 34 (u1.g 34) 3 0 (nvS.len l'1)),(10,.v (.int .i64 v1))] [(34,.arr (u1.g 34) 3 (nvS.len l'1) (u1.t 34) (fun ix jx=>(D_ucd_Form nvS (nvS.get d_ucd_Form l'1 ix) jx)))]) Wlay (fun x u1c u1g u1t f ht hu hp h=>?_)
    obtain ⟨v1,l'1⟩:=x
    try dsimp only at hp h
    refine Wo0 ?_
    refine Wi 15 1 h (sT (sC sB)) (ucd_words_ok _) fun v2 h48=>?_
    refine Wo 23 0 (ucd_hex_ok (getL ByteArray.empty v2 (0+0))) fun v3 h50=>?_
    refine Wo 27 0 (ucd_hex_ok (getL ByteArray.empty v2 (0+1))) fun v4 h52=>?_
    refine Wo 31 0 (ucd_hex_ok (getL ByteArray.empty v2 (0+2))) fun v5 h54=>?_
    refine Wk [33] 0 [] Wz

theorem interp_where_ok (s:T_interp_State) (r:ByteArray) (h:interp_where s=some r):PureFn Tryz.prog 118 [(.agg 83 (fun j=>(D_interp_State nvS s j)))] ((.v (.string r))):=by
  unfold interp_where at h
  refine Wfn Tryz.func118 (bodyOf Tryz.f118) fun ctr hc=>?_
  refine Wo0 ?_
  refine Wo 7 0 (interp_Active_ok s) fun v h1=>?_
  refine Wo 13 0 (cursor_Report_ok v.fC v.fR) fun v1 h2=>?_
  obtain ⟨q,q1⟩:=v1
  refine Wo 17 0 (strconv_Itoa_ok q) fun v2 h3=>?_
  refine Wo 20 0 (strconv_Itoa_ok q1) fun v3 h5=>?_
  refine Wk [] 0 [] Wz

theorem interp_status_ok (s:T_interp_State) (u:T_ucd_Data) (a:T_api_Action) (r:T_interp_State) (h:interp_status s u a=some r):PureFn Tryz.prog 113 [(.agg 83 (fun j=>(D_interp_State nvS s j))),(.agg 6 (fun j=>(D_ucd_Data nvS u j))),(.agg 6 (fun j=>(D_api_Action nvS a j)))] ((.agg 83 (fun j=>(D_interp_State nvS r j)))):=by
  unfold interp_status at h
  refine Wfn Tryz.func113 (bodyOf Tryz.f113) fun ctr hc=>?_
  refine Wo0 ?_
  refine Wo 8 0 (interp_kind_ok a) fun v h1=>?_
  refine Wi 12 0 h (sK v (sT sB)) (interp_answer_ok _ _) fun v1 h2=>?_
  refine Wo 17 0 (interp_where_ok s) fun v2 h3=>?_
  refine Wo 19 0 (interp_answer_ok s (scatS (⟨#[27,91]⟩:ByteArray) v2)) fun v3 h5=>?_
  refine Wk [] 0 [] Wz

end Go.Vx
