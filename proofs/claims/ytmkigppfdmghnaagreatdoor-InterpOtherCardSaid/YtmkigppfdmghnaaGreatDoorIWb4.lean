/- Walks, by program (lift5.py): the code does what the lifted functions say. -/
import Derived.Test.YtmkigppfdmghnaaGreatDoorIWalkPr
set_option linter.all false
namespace Go.Vx
open Go.Proofs
set_option maxRecDepth 100000
set_option maxHeartbeats 8000000
set_option linter.unusedVariables false
set_option linter.unusedSimpArgs false
attribute [local irreducible] chk iteO bindO cutO nilO

theorem tabs_width_ok (w:Int) (r:Int) (h:tabs_width w=some r):PureFn Tryz.prog 213 [(.v (.int .i64 w))] ((.v (.int .i64 r))):=by
  unfold tabs_width at h
  refine Wfn Tryz.func213 (bodyOf Tryz.f213) fun ctr hc=>?_
  refine Wx [] 0 [] Wz

theorem tabs_New_ok (w:Int) (r:T_tabs_Stops) (h:tabs_New w=some r):PureFn Tryz.prog 138 [(.v (.int .i64 w))] ((.agg 2 (fun j=>(D_tabs_Stops nvS r j)))):=by
  unfold tabs_New at h
  refine Wfn Tryz.func138 (bodyOf Tryz.f138) fun ctr hc=>?_
  refine Wo0 ?_
  refine Wo 6 0 (tabs_width_ok w) fun v h1=>?_
  revert h
  refine Wjp 2 [] 0 [] (Wq ?_)
  intro h
  intros
  refine Wcut h (ctr+2) [(4,1),(3,12)] [(3,1),(14,1)] (fun o u=>Fa [] [(3,.box (ctr+1) [.vec 18 (u.g 18) 1 0 (nvS.len o),.v (.int .i64 v)]),(18,.arr (u.g 18) 1 (nvS.len o) (u.t 18) (fun ix jx=>(.v (.int .i64 (nvS.get 0 o ix)))))]) (fun o uc ug ut ht hu hp h=>?_) (fun f h=>?_)
  · refine Wx [] 0 [] Wz
  · revert h
    refine Wyp 1 [] 0 [] (Wq ?_)
    intro h
    intros
    refine Tr.block ?_
    refine Wlp h (ctr+3) [(4,1),(3,12)] [(3,1),(14,1)] (fun (at',o1) u1=>Fa [(4,.v (.int .i64 at'))] [(3,.box (ctr+1) [.vec 18 (u1.g 18) 1 0 (nvS.len o1),.v (.int .i64 v)]),(18,.arr (u1.g 18) 1 (nvS.len o1) (u1.t 18) (fun ix jx=>(.v (.int .i64 (nvS.get 0 o1 ix)))))]) Wlay (fun x u1c u1g u1t f ht hu hp h=>?_)
    obtain ⟨at',o1⟩:=x
    try dsimp only at hp h
    refine Wx [17] 0 [] Wz

theorem stringslite_IndexByte_ok (s:ByteArray) (c':Int) (r:Int) (h:stringslite_IndexByte s c'=some r):PureFn Tryz.prog 84 [(.v (.string s)),(.v (.int .u8 c'))] ((.v (.int .i64 r))):=by
  unfold stringslite_IndexByte at h
  refine Wfn Tryz.func84 (bodyOf Tryz.f84) fun ctr hc=>?_
  refine Wo0 ?_
  refine Woe 7 0 (bytealg_IndexByteString_ok s c') fun v h1=>?_
  refine Wk [] 0 [] Wz

theorem stringslite_Index_ok (s:ByteArray) (substr:ByteArray) (r:Int) (h:stringslite_Index s substr=some r):PureFn Tryz.prog 264 [(.v (.string s)),(.v (.string substr))] ((.v (.int .i64 r))):=by
  unfold stringslite_Index at h
  refine Wfn Tryz.func264 (bodyOf Tryz.f264) fun ctr hc=>?_
  refine Wo0 ?_
  refine Wo 30 0 (stringslite_IndexByte_ok s (sidxS substr 0)) fun v h2=>?_
  refine Wkp 8 [] 0 [] Wz

theorem strings_Index_ok (s:ByteArray) (substr:ByteArray) (r:Int) (h:strings_Index s substr=some r):PureFn Tryz.prog 247 [(.v (.string s)),(.v (.string substr))] ((.v (.int .i64 r))):=by
  unfold strings_Index at h
  refine Wfn Tryz.func247 (bodyOf Tryz.f247) fun ctr hc=>?_
  refine Wo0 ?_
  refine Wo 7 0 (stringslite_Index_ok s substr) fun v h1=>?_
  refine Wk [] 0 [] Wz

theorem strings_Count_ok (s:ByteArray) (substr:ByteArray) (r:Int) (h:strings_Count s substr=some r):PureFn Tryz.prog 246 [(.v (.string s)),(.v (.string substr))] ((.v (.int .i64 r))):=by
  unfold strings_Count at h
  refine Wfn Tryz.func246 (bodyOf Tryz.f246) fun ctr hc=>?_
  refine Wo0 ?_
  refine Woe 19 0 (bytealg_CountString_ok s (sidxS substr 0)) fun v h2=>?_
  revert h
  refine Wjp 4 [] 0 [] (Wq ?_)
  intro h
  intros
  refine Tr.block ?_
  refine Wlp h (ctr+4) [(0,1),(3,3),(13,14)] [] (fun (s1,n) u=>Fa [(0,.v (.string s1)),(5,.v (.int .i64 n))] []) Wlay (fun x uc ug ut f ht hu hp h=>?_)
  obtain ⟨s1,n⟩:=x
  try dsimp only at hp h
  refine Wo0 ?_
  refine Wo 22 0 (strings_Index_ok s1 substr) fun v1 h11=>?_
  refine Wk [] 0 [] Wz

theorem strconv_lower_ok (c':Int) (r:Int) (h:strconv_lower c'=some r):PureFn Tryz.prog 283 [(.v (.int .u8 c'))] ((.v (.int .u8 r))):=by
  unfold strconv_lower at h
  refine Wfn Tryz.func283 (bodyOf Tryz.f283) fun ctr hc=>?_
  refine Wx [] 0 [] Wz

theorem istrconv_underscoreOK_ok (a0:ByteArray) (r:Bool) (h:istrconv_underscoreOK a0=some r):PureFn Tryz.prog 284 [(.v (.string a0))] ((.v (.bool r))):=by cases h

theorem istrconv_ParseUint_ok (s:ByteArray) (base:Int) (bitSize:Int) (r:(Int × Unit)) (h:istrconv_ParseUint s base bitSize=some r):PureFn Tryz.prog 265 [(.v (.string s)),(.v (.int .i64 base)),(.v (.int .i64 bitSize))] (.tup 2 (fun j=>match j with | 0=>(.v (.int .u64 r.1)) | 1=>(.v .nilIface) | _=>.junk)):=by
  unfold istrconv_ParseUint at h
  refine Wfn Tryz.func265 (bodyOf Tryz.f265) fun ctr hc=>?_
  revert h
  refine Wyp 4 [] 0 [] (Wq ?_)
  intro h
  intros
  refine Wcut h (ctr+4) [(0,2),(4,2),(16,52)] [] (fun (s1,base1) u=>Fa [(0,.v (.string s1)),(1,.v (.int .i64 base1))] []) (fun x uc ug ut ht hu hp h=>?_) (fun f h=>?_)
  · obtain ⟨s1,base1⟩:=x
    try dsimp only at hp h
    refine Wcut h uc [(2,1),(3,2),(68,9)] [] (fun bitSize1 u1=>Fa [(2,.v (.int .i64 bitSize1))] []) (fun bitSize1 u1c u1g u1t ht hu hp h=>?_) (fun f h=>?_)
    · revert h
      refine Wyp 1 [] 0 [] (Wq ?_)
      intro h
      intros
      refine Wcut h (u1c+1) [(10,1),(74,9)] [] (fun cutoff u2=>Fa [(10,.v (.int .u64 cutoff))] []) (fun cutoff u2c u2g u2t ht hu hp h=>?_) (fun f h=>?_)
      · revert h
        refine Wyp 3 [] 0 [] (Wq ?_)
        intro h
        intros
        refine Wcut h (u2c+3) [(6,2),(4,2),(1,3),(80,66)] [] (fun (underscores,n) u3=>Fa [(12,.v (.bool underscores)),(13,.v (.int .u64 n))] []) (fun x u3c u3g u3t ht hu hp h=>?_) (fun f h=>?_)
        · obtain ⟨underscores,n⟩:=x
          try dsimp only at hp h
          refine Wo0 ?_
          refine Wig 167 0 h sB (istrconv_underscoreOK_ok _) fun v h33=>?_
          refine Wk [] 0 [] Wz
        · revert h
          refine Wyp 1 [] 0 [] (Wq ?_)
          intro h
          intros
          refine Tr.block ?_
          refine Wlp h (u2c+4) [(6,2),(4,2),(1,3),(81,1),(1,63)] [] (fun (underscores1,n1,v1) u4=>Fa [(12,.v (.bool underscores1)),(13,.v (.int .u64 n1)),(99,.sl 1 (nvS.len (nvS.bys s1)) false (fun ix jx=>(.v (.int .u8 (nvS.get 0 (nvS.bys s1) ix))))),(101,.v (.int .i64 v1))] []) Wlay (fun x u4c u4g u4t f ht hu hp h=>?_)
          obtain ⟨underscores1,n1,v1⟩:=x
          try dsimp only at hp h
          revert h
          refine Wyp 2 [] 0 [] (Wq ?_)
          intro h
          intros
          refine Wcut h (u4c+1) [(6,2),(4,2),(1,3),(85,60)] [] (fun (underscores2,n2) u5=>Fa [(12,.v (.bool underscores2)),(13,.v (.int .u64 n2))] []) (fun x u5c u5g u5t ht hu hp h=>?_) (fun f h=>?_)
          · obtain ⟨underscores2,n2⟩:=x
            try dsimp only at hp h
            refine Wx [] 0 [] Wz
          · refine Tr.block ?_
            revert h
            refine Wyp 2 [] 0 [] (Wq ?_)
            intro h
            intros
            refine Wcut h (u4c+3) [(6,2),(4,1),(3,1),(88,29)] [] (fun d' u6=>Fa [(12,.v (.bool underscores1)),(16,.v (.int .u8 d'))] []) (fun d' u6c u6g u6t ht hu hp h=>?_) (fun f h=>?_)
            · refine Wx [] 0 [] Wz
            · refine Wo0 ?_
              refine Wi 123 0 h (sF (sF sB)) (strconv_lower_ok _) fun v2 h70=>?_
              refine Wig 127 0 h (sF (sF (sK v2 sB))) (strconv_lower_ok _) fun v3 h71=>?_
              refine Wod 131 0 h70 ?_
              refine Wk [] 0 [] Wz
      · refine Wx [] 0 [] Wz
    · refine Wx [] 0 [] Wz
  · refine Wo0 ?_
    refine Wig 47 0 h (sF (sT (sC (sT (sC sB))))) (strconv_lower_ok _) fun v4 h79=>?_
    refine Wodg 59 0 h79 ?_
    refine Wodg 71 0 h79 ?_
    refine Wk [] 0 [] Wz

theorem istrconv_ParseInt_ok (s:ByteArray) (base:Int) (bitSize:Int) (r:(Int × Unit)) (h:istrconv_ParseInt s base bitSize=some r):PureFn Tryz.prog 248 [(.v (.string s)),(.v (.int .i64 base)),(.v (.int .i64 bitSize))] (.tup 2 (fun j=>match j with | 0=>(.v (.int .i64 r.1)) | 1=>(.v .nilIface) | _=>.junk)):=by
  unfold istrconv_ParseInt at h
  refine Wfn Tryz.func248 (bodyOf Tryz.f248) fun ctr hc=>?_
  revert h
  refine Wyp 3 [] 0 [] (Wq ?_)
  intro h
  intros
  refine Wcut h (ctr+3) [(0,1),(7,1),(6,10)] [] (fun (s1,neg) u=>Fa [(0,.v (.string s1)),(8,.v (.bool neg))] []) (fun x uc ug ut ht hu hp h=>?_) (fun f h=>?_)
  · obtain ⟨s1,neg⟩:=x
    try dsimp only at hp h
    refine Wo0 ?_
    refine Wi 29 0 h sB (istrconv_ParseUint_ok _ _ _) fun v h4=>?_
    obtain ⟨q,q1⟩:=v
    refine Wk [] 0 [] Wz
  · refine Wx [] 0 [] Wz

theorem strconv_ParseInt_ok (s:ByteArray) (base:Int) (bitSize:Int) (r:(Int × Unit)) (h:strconv_ParseInt s base bitSize=some r):PureFn Tryz.prog 207 [(.v (.string s)),(.v (.int .i64 base)),(.v (.int .i64 bitSize))] (.tup 2 (fun j=>match j with | 0=>(.v (.int .i64 r.1)) | 1=>(.v .nilIface) | _=>.junk)):=by
  unfold strconv_ParseInt at h
  refine Wfn Tryz.func207 (bodyOf Tryz.f207) fun ctr hc=>?_
  refine Wo0 ?_
  refine Wi 13 0 h sB (istrconv_ParseInt_ok _ _ _) fun v h1=>?_
  obtain ⟨q,q1⟩:=v
  refine Wk [] 0 [] Wz

theorem lapwinglaw16_ask_ok (inter:ByteArray) (l':(List (List Int))) (final:Int) (r:T_api_Action) (h:lapwinglaw16_ask inter l' final=some r):PureFn Tryz.prog 19 [(.v (.string inter)),(.sl 1 (nvS.len l') false (fun ix jx=>(.sl 1 (nvS.len (nvS.get [] l' ix)) false (fun ix1 jx1=>(.v (.int .i64 (nvS.get 0 (nvS.get [] l' ix) ix1))))))),(.v (.int .u8 final))] ((.agg 6 (fun j=>(D_api_Action nvS r j)))):=by
  unfold lapwinglaw16_ask at h
  refine Wfn Tryz.func19 (bodyOf Tryz.f19) fun ctr hc=>?_
  refine Wx [] 0 [] Wz

theorem tabs_Sane_ok (s:T_tabs_Stops) (r:Bool) (h:tabs_Sane s=some r):PureFn Tryz.prog 128 [(.agg 2 (fun j=>(D_tabs_Stops nvS s j)))] ((.v (.bool r))):=by
  obtain ⟨q,q1⟩:=s
  unfold tabs_Sane at h
  try dsimp only at h
  refine Wfn Tryz.func128 (bodyOf Tryz.f128) fun ctr hc=>?_
  revert h
  refine Wyp 3 [] 0 [] (Wq ?_)
  intro h
  intros
  refine Wcut h (ctr+3) [(2,2),(1,1),(8,18)] [] (fun _ u=>Fa [] []) (fun x uc ug ut ht hu hp h=>?_) (fun f h=>?_)
  · refine Wx [] 0 [] Wz
  · revert h
    refine Wyp 1 [] 0 [] (Wq ?_)
    intro h
    intros
    refine Tr.block ?_
    refine Wlp h (ctr+4) [(2,2),(1,1),(11,15)] [] (fun (ahead,v) u1=>Fa [(3,.v (.int .i64 ahead)),(17,.v (.int .i64 v))] []) Wlay (fun x u1c u1g u1t f ht hu hp h=>?_)
    obtain ⟨ahead,v⟩:=x
    try dsimp only at hp h
    refine Wx [] 0 [] Wz

theorem row_cells_ok (r':T_api_Row) (r:(List T_api_Cell)) (h:row_cells r'=some r):PureFn Tryz.prog 219 [(.agg 4 (fun j=>(D_api_Row nvS r' j)))] (.own 7 (nvS.len r) false (fun ix jx=>(D_api_Cell nvS (nvS.get d_api_Cell r ix) jx))):=by
  obtain ⟨q,q1,q2,q3⟩:=r'
  unfold row_cells at h
  try dsimp only at h
  refine Wfn Tryz.func219 (bodyOf Tryz.f219) fun ctr hc=>?_
  refine Wx [] 0 [] Wz

theorem screen_wraps_1_ok (r':T_api_Row) (cap0:Bool) (r:T_api_Row) (h:screen_wraps_1 r' cap0=some r):PureFn Tryz.prog 236 [(.agg 4 (fun j=>(D_api_Row nvS r' j))),.imm 1 1 (fun _ j=>(.v (.bool cap0))) 0 0] ((.agg 4 (fun j=>(D_api_Row nvS r j)))):=by
  unfold screen_wraps_1 at h
  refine Wfn Tryz.func236 (bodyOf Tryz.f236) fun ctr hc=>?_
  refine Wx [] 0 [] Wz

theorem row_between_ok (r':T_api_Row) (from':Int) (to:Int) (r:(Int × Int)) (h:row_between r' from' to=some r):PureFn Tryz.prog 258 [(.agg 4 (fun j=>(D_api_Row nvS r' j))),(.v (.int .i64 from')),(.v (.int .i64 to))] (.tup 2 (fun j=>match j with | 0=>(.v (.int .i64 r.1)) | 1=>(.v (.int .i64 r.2)) | _=>.junk)):=by
  obtain ⟨q,q1,q2,q3⟩:=r'
  unfold row_between at h
  try dsimp only at h
  refine Wfn Tryz.func258 (bodyOf Tryz.f258) fun ctr hc=>?_
  refine Wx [] 0 [] Wz

theorem screen_inserted_ok (at':Int) (n:Int) (right:Int) (p':T_api_Pen) (r:FV) (h:screen_inserted at' n right p'=some r):PureFn Tryz.prog 153 [(.v (.int .i64 at')),(.v (.int .i64 n)),(.v (.int .i64 right)),(.agg 3 (fun j=>(D_api_Pen nvS p' j)))] ((.fn (.func (nvS.fF r)) (nvS.fK r) (nvS.fC r))):=by
  obtain ⟨q,q1,q2⟩:=p'
  unfold screen_inserted at h
  try dsimp only at h
  refine Wfn Tryz.func153 (bodyOf Tryz.f153) fun ctr hc=>?_
  refine Wx [] 0 [] Wz

theorem tabs_Next_1_ok (from':Int) (cap0:T_tabs_Stops) (r:Int) (h:tabs_Next_1 from' cap0=some r):PureFn Tryz.prog 225 [(.v (.int .i64 from')),.imm 2 1 (fun _ j=>(D_tabs_Stops nvS cap0 j)) 0 0] ((.v (.int .i64 r))):=by
  obtain ⟨q,q1⟩:=cap0
  unfold tabs_Next_1 at h
  try dsimp only at h
  refine Wfn Tryz.func225 (bodyOf Tryz.f225) fun ctr hc=>?_
  revert h
  refine Wyp 1 [] 0 [] (Wq ?_)
  intro h
  intros
  refine Wcut h (ctr+1) [(3,1),(1,13)] [] (fun _ u=>Fa [] []) (fun x uc ug ut ht hu hp h=>?_) (fun f h=>?_)
  · refine Wx [] 0 [] Wz
  · revert h
    refine Wyp 1 [] 0 [] (Wq ?_)
    intro h
    intros
    refine Tr.block ?_
    refine Wlp h (ctr+2) [(3,1),(1,1),(3,9)] [] (fun v u1=>Fa [(9,.v (.int .i64 v))] []) Wlay (fun v u1c u1g u1t f ht hu hp h=>?_)
    refine Wx [] 0 [] Wz

theorem tabs_Next_ok (s:T_tabs_Stops) (at':Int) (n:Int) (r:Int) (h:tabs_Next s at' n=some r):PureFn Tryz.prog 161 [(.agg 2 (fun j=>(D_tabs_Stops nvS s j))),(.v (.int .i64 at')),(.v (.int .i64 n))] ((.v (.int .i64 r))):=by
  obtain ⟨q,q1⟩:=s
  unfold tabs_Next at h
  try dsimp only at h
  refine Wfn Tryz.func161 (bodyOf Tryz.f161) fun ctr hc=>?_
  refine Wo0 ?_
  refine Wo 10 0 (tabs_Sane_ok ⟨q,q1⟩) fun v h1=>?_
  revert h
  refine Wjp 4 [] 0 [] (Wq ?_)
  intro h
  intros
  refine Wcut h (ctr+4) [(1,1),(6,1),(10,15)] [] (fun at'2 u=>Fa [(1,.v (.int .i64 at'2))] []) (fun at'2 uc ug ut ht hu hp h=>?_) (fun f h=>?_)
  · refine Wx [] 0 [] Wz
  · revert h
    refine Wyp 1 [] 0 [] (Wq ?_)
    intro h
    intros
    refine Tr.block ?_
    refine Wlp h (ctr+5) [(1,1),(6,1),(10,15)] [] (fun (at'3,i) u1=>Fa [(1,.v (.int .i64 at'3)),(8,.v (.int .i64 i))] []) Wlay (fun x u1c u1g u1t f ht hu hp h=>?_)
    obtain ⟨at'3,i⟩:=x
    try dsimp only at hp h
    refine Wo0 ?_
    refine Wo 33 4 (tabs_Next_1_ok at'3 ⟨q,q1⟩) fun v1 h16=>?_
    refine Wk [] 0 [] Wz

theorem tabs_Prev_1_ok (from':Int) (cap0:T_tabs_Stops) (r:Int) (h:tabs_Prev_1 from' cap0=some r):PureFn Tryz.prog 226 [(.v (.int .i64 from')),.imm 2 1 (fun _ j=>(D_tabs_Stops nvS cap0 j)) 0 0] ((.v (.int .i64 r))):=by
  obtain ⟨q,q1⟩:=cap0
  unfold tabs_Prev_1 at h
  try dsimp only at h
  refine Wfn Tryz.func226 (bodyOf Tryz.f226) fun ctr hc=>?_
  revert h
  refine Wyp 1 [] 0 [] (Wq ?_)
  intro h
  intros
  refine Wcut h (ctr+1) [(3,22)] [] (fun _ u=>Fa [] []) (fun x uc ug ut ht hu hp h=>?_) (fun f h=>?_)
  · refine Wx [] 0 [] Wz
  · revert h
    refine Wyp 1 [] 0 [] (Wq ?_)
    intro h
    intros
    refine Tr.block ?_
    refine Wlp h (ctr+2) [(3,2),(4,16)] [] (fun i1 u1=>Fa [(4,.v (.int .i64 i1))] []) Wlay (fun i1 u1c u1g u1t f ht hu hp h=>?_)
    refine Wx [] 0 [] Wz

theorem tabs_Prev_ok (s:T_tabs_Stops) (at':Int) (n:Int) (r:Int) (h:tabs_Prev s at' n=some r):PureFn Tryz.prog 162 [(.agg 2 (fun j=>(D_tabs_Stops nvS s j))),(.v (.int .i64 at')),(.v (.int .i64 n))] ((.v (.int .i64 r))):=by
  obtain ⟨q,q1⟩:=s
  unfold tabs_Prev at h
  try dsimp only at h
  refine Wfn Tryz.func162 (bodyOf Tryz.f162) fun ctr hc=>?_
  refine Wo0 ?_
  refine Wo 10 0 (tabs_Sane_ok ⟨q,q1⟩) fun v h1=>?_
  revert h
  refine Wjp 4 [] 0 [] (Wq ?_)
  intro h
  intros
  refine Wcut h (ctr+4) [(1,1),(6,1),(10,12)] [] (fun at'2 u=>Fa [(1,.v (.int .i64 at'2))] []) (fun at'2 uc ug ut ht hu hp h=>?_) (fun f h=>?_)
  · refine Wx [] 0 [] Wz
  · revert h
    refine Wyp 1 [] 0 [] (Wq ?_)
    intro h
    intros
    refine Tr.block ?_
    refine Wlp h (ctr+5) [(1,1),(6,1),(10,12)] [] (fun (at'3,i) u1=>Fa [(1,.v (.int .i64 at'3)),(8,.v (.int .i64 i))] []) Wlay (fun x u1c u1g u1t f ht hu hp h=>?_)
    obtain ⟨at'3,i⟩:=x
    try dsimp only at hp h
    refine Wo0 ?_
    refine Wo 30 4 (tabs_Prev_1_ok at'3 ⟨q,q1⟩) fun v1 h11=>?_
    refine Wk [] 0 [] Wz

theorem interp_find_1_ok (s:T_interp_State) (u:T_ucd_Data) (u1:T_api_Action) (r:T_interp_State) (h:interp_find_1 s u u1=some r):PureFn Tryz.prog 69 [(.agg 83 (fun j=>(D_interp_State nvS s j))),(.agg 6 (fun j=>(D_ucd_Data nvS u j))),(.agg 6 (fun j=>(D_api_Action nvS u1 j)))] ((.agg 83 (fun j=>(D_interp_State nvS r j)))):=by
  unfold interp_find_1 at h
  refine Wfn Tryz.func69 (bodyOf Tryz.f69) fun ctr hc=>?_
  refine Wx [] 0 [] Wz

theorem strings_IndexByte_ok (s:ByteArray) (c':Int) (r:Int) (h:strings_IndexByte s c'=some r):PureFn Tryz.prog 32 [(.v (.string s)),(.v (.int .u8 c'))] ((.v (.int .i64 r))):=by
  unfold strings_IndexByte at h
  refine Wfn Tryz.func32 (bodyOf Tryz.f32) fun ctr hc=>?_
  refine Wo0 ?_
  refine Wo 7 0 (stringslite_IndexByte_ok s c') fun v h1=>?_
  refine Wk [] 0 [] Wz

theorem interp_answer_ok (s:T_interp_State) (t':ByteArray) (r:T_interp_State) (h:interp_answer s t'=some r):PureFn Tryz.prog 196 [(.agg 83 (fun j=>(D_interp_State nvS s j))),(.v (.string t'))] ((.agg 83 (fun j=>(D_interp_State nvS r j)))):=by
  obtain ⟨⟨⟨q⟩,⟨q1,q2,q3,q4,⟨q5,q6,q7⟩,⟨⟨q8,q9,q10,q11⟩,q12,q13,q14⟩⟩,⟨q15,q16,q17,q18⟩,⟨q19,q20⟩,⟨q21,q22⟩,q23,q24⟩,⟨⟨q25⟩,⟨q26,q27,q28,q29,⟨q30,q31,q32⟩,⟨⟨q33,q34,q35,q36⟩,q37,q38,q39⟩⟩,⟨q40,q41,q42,q43⟩,⟨q44,q45⟩,⟨q46,q47⟩,q48,q49⟩,q50,⟨q51⟩,⟨⟨q52,q53,q54,q55,⟨q56,q57,q58⟩,⟨⟨q59,q60,q61,q62⟩,q63,q64,q65⟩⟩,⟨q66,q67,q68,q69,⟨q70,q71,q72⟩,⟨⟨q73,q74,q75,q76⟩,q77,q78,q79⟩⟩⟩,q80,q81,q82⟩:=s
  unfold interp_answer at h
  try dsimp only at h
  refine Wfn Tryz.func196 (bodyOf Tryz.f196) fun ctr hc=>?_
  refine Wxc 4 [] 0 [] h ctr [(2,1),(1,21)] [(2,1),(1,1),(15,1),(3,1)] (fun out u=>Fa [(2,.bref 2 (u.g 2) 0),(4,.bref 4 (u.g 4) 0),(5,.vec 24 (u.g 24) 1 0 (nvS.len out))] [(2,.box (u.g 2) (.sl 4 (nvS.len q) false (fun ix jx=>(D_api_Row nvS (nvS.get d_api_Row q ix) jx)) :: .v (.int .i64 q1) :: .v (.int .i64 q2) :: .v (.bool q3) :: .v (.bool q4) :: .v (.int .i64 q5) :: .v (.int .i64 q6) :: .v (.int .i64 q7) :: .v (.int .u8 q8) :: .v (.int .u8 q9) :: .v (.int .u8 q10) :: .v (.int .u8 q11) :: .v (.int .i64 q12) :: .v (.int .i64 q13) :: .v (.int .i64 q14) :: .v (.int .i64 q15) :: .v (.int .i64 q16) :: .v (.int .i64 q17) :: .v (.int .i64 q18) :: .sl 1 (nvS.len q19) false (fun ix jx=>(.v (.int .i64 (nvS.get 0 q19 ix)))) :: .v (.int .i64 q20) :: .sl 4 (nvS.len q21) false (fun ix jx=>(D_api_Row nvS (nvS.get d_api_Row q21 ix) jx)) :: .v (.int .i64 q22) :: .v (.int .i64 q23) :: .v (.bool q24) :: .sl 4 (nvS.len q25) false (fun ix jx=>(D_api_Row nvS (nvS.get d_api_Row q25 ix) jx)) :: .v (.int .i64 q26) :: .v (.int .i64 q27) :: .v (.bool q28) :: .v (.bool q29) :: .v (.int .i64 q30) :: .v (.int .i64 q31) :: .v (.int .i64 q32) :: .v (.int .u8 q33) :: .v (.int .u8 q34) :: .v (.int .u8 q35) :: .v (.int .u8 q36) :: .v (.int .i64 q37) :: .v (.int .i64 q38) :: .v (.int .i64 q39) :: .v (.int .i64 q40) :: .v (.int .i64 q41) :: .v (.int .i64 q42) :: .v (.int .i64 q43) :: .sl 1 (nvS.len q44) false (fun ix jx=>(.v (.int .i64 (nvS.get 0 q44 ix)))) :: .v (.int .i64 q45) :: .sl 4 (nvS.len q46) false (fun ix jx=>(D_api_Row nvS (nvS.get d_api_Row q46 ix) jx)) :: .v (.int .i64 q47) :: .v (.int .i64 q48) :: .v (.bool q49) :: .v (.bool q50) :: .v (.int .i64 q51) :: .v (.int .i64 q52) :: .v (.int .i64 q53) :: .v (.bool q54) :: .v (.bool q55) :: .v (.int .i64 q56) :: .v (.int .i64 q57) :: .v (.int .i64 q58) :: .v (.int .u8 q59) :: .v (.int .u8 q60) :: .v (.int .u8 q61) :: .v (.int .u8 q62) :: .v (.int .i64 q63) :: .v (.int .i64 q64) :: .v (.int .i64 q65) :: .v (.int .i64 q66) :: .v (.int .i64 q67) :: .v (.bool q68) :: .v (.bool q69) :: .v (.int .i64 q70) :: .v (.int .i64 q71) :: .v (.int .i64 q72) :: .v (.int .u8 q73) :: .v (.int .u8 q74) :: .v (.int .u8 q75) :: .v (.int .u8 q76) :: .v (.int .i64 q77) :: .v (.int .i64 q78) :: .v (.int .i64 q79) :: .sl 1 (nvS.len q80) false (fun ix jx=>(.v (.int .u8 (nvS.get 0 q80 ix)))) :: .v (.string q81) :: .v (.int .i64 q82) :: [])),(4,.box (u.g 4) (.nilsl :: .v (.int .i64 0) :: .v (.int .i64 0) :: .v (.bool false) :: .v (.bool false) :: .v (.int .i64 0) :: .v (.int .i64 0) :: .v (.int .i64 0) :: .v (.int .u8 0) :: .v (.int .u8 0) :: .v (.int .u8 0) :: .v (.int .u8 0) :: .v (.int .i64 0) :: .v (.int .i64 0) :: .v (.int .i64 0) :: .v (.int .i64 0) :: .v (.int .i64 0) :: .v (.int .i64 0) :: .v (.int .i64 0) :: .nilsl :: .v (.int .i64 0) :: .nilsl :: .v (.int .i64 0) :: .v (.int .i64 0) :: .v (.bool false) :: .nilsl :: .v (.int .i64 0) :: .v (.int .i64 0) :: .v (.bool false) :: .v (.bool false) :: .v (.int .i64 0) :: .v (.int .i64 0) :: .v (.int .i64 0) :: .v (.int .u8 0) :: .v (.int .u8 0) :: .v (.int .u8 0) :: .v (.int .u8 0) :: .v (.int .i64 0) :: .v (.int .i64 0) :: .v (.int .i64 0) :: .v (.int .i64 0) :: .v (.int .i64 0) :: .v (.int .i64 0) :: .v (.int .i64 0) :: .nilsl :: .v (.int .i64 0) :: .nilsl :: .v (.int .i64 0) :: .v (.int .i64 0) :: .v (.bool false) :: .v (.bool false) :: .v (.int .i64 0) :: .v (.int .i64 0) :: .v (.int .i64 0) :: .v (.bool false) :: .v (.bool false) :: .v (.int .i64 0) :: .v (.int .i64 0) :: .v (.int .i64 0) :: .v (.int .u8 0) :: .v (.int .u8 0) :: .v (.int .u8 0) :: .v (.int .u8 0) :: .v (.int .i64 0) :: .v (.int .i64 0) :: .v (.int .i64 0) :: .v (.int .i64 0) :: .v (.int .i64 0) :: .v (.bool false) :: .v (.bool false) :: .v (.int .i64 0) :: .v (.int .i64 0) :: .v (.int .i64 0) :: .v (.int .u8 0) :: .v (.int .u8 0) :: .v (.int .u8 0) :: .v (.int .u8 0) :: .v (.int .i64 0) :: .v (.int .i64 0) :: .v (.int .i64 0) :: .nilsl :: .v (.string ByteArray.empty) :: .v (.int .i64 0) :: [])),(24,.arr (u.g 24) 1 (nvS.len out) (u.t 24) (fun ix jx=>(.v (.int .u8 (nvS.get 0 out ix)))))]) (fun out uc ug ut ht hu hp h=>?_) (fun f h=>Wz)
  refine Wx [] 0 [] Wz

theorem istrconv_small_ok (i:Int) (r:ByteArray) (h:istrconv_small i=some r):PureFn Tryz.prog 253 [(.v (.int .i64 i))] ((.v (.string r))):=by
  unfold istrconv_small at h
  refine Wfn Tryz.func253 (bodyOf Tryz.f253) fun ctr hc=>?_
  refine Wx [] 0 [] Wz

theorem istrconv_FormatInt_ok (i:Int) (base:Int) (r:ByteArray) (h:istrconv_FormatInt i base=some r):PureFn Tryz.prog 216 [(.v (.int .i64 i)),(.v (.int .i64 base))] ((.v (.string r))):=by
  unfold istrconv_FormatInt at h
  refine Wfn Tryz.func216 (bodyOf Tryz.f216) fun ctr hc=>?_
  revert h
  refine Wyp 1 [] 0 [] (Wq ?_)
  intro h
  intros
  refine Wcut h (ctr+1) [(4,4),(2,34)] [] (fun _ u=>Fa [] []) (fun x uc ug ut ht hu hp h=>?_) (fun f h=>?_)
  · refine Wx [] 0 [] Wz
  · revert h
    refine Wyp 1 [] 0 [] (Wq ?_)
    intro h
    intros
    refine Wcond h rfl (fun _ h=>?_) (fun _ h=>?_)
    · refine Wo0 ?_
      refine Wo 19 0 (istrconv_small_ok i) fun v h3=>?_
      revert h
      refine Wjp 3 [] 0 [] (Wq ?_)
      intro h
      intros
      refine Wcut h (ctr+5) [(6,1),(15,4)] [] (fun u2 u3=>Fa [(6,.v (.int .u64 u2))] []) (fun u2 u3c u3g u3t ht hu hp h=>?_) (fun f h=>?_)
      · refine Wx [] 0 [] Wz
      · refine Wx [] 0 [] Wz
    · refine Wx [] 0 [] Wz

theorem istrconv_Itoa_ok (i:Int) (r:ByteArray) (h:istrconv_Itoa i=some r):PureFn Tryz.prog 141 [(.v (.int .i64 i))] ((.v (.string r))):=by
  unfold istrconv_Itoa at h
  refine Wfn Tryz.func141 (bodyOf Tryz.f141) fun ctr hc=>?_
  refine Wo0 ?_
  refine Wo 4 0 (istrconv_FormatInt_ok i 10) fun v h1=>?_
  refine Wk [] 0 [] Wz

theorem strconv_Itoa_ok (i:Int) (r:ByteArray) (h:strconv_Itoa i=some r):PureFn Tryz.prog 56 [(.v (.int .i64 i))] ((.v (.string r))):=by
  unfold strconv_Itoa at h
  refine Wfn Tryz.func56 (bodyOf Tryz.f56) fun ctr hc=>?_
  refine Wo0 ?_
  refine Wo 4 0 (istrconv_Itoa_ok i) fun v h1=>?_
  refine Wk [] 0 [] Wz

theorem interp_home_ok (x':T_screen_Screen) (r:T_screen_Screen) (h:interp_home x'=some r):PureFn Tryz.prog 173 [(.agg 25 (fun j=>(D_screen_Screen nvS x' j)))] ((.agg 25 (fun j=>(D_screen_Screen nvS r j)))):=by
  obtain ⟨⟨q⟩,⟨q1,q2,q3,q4,⟨q5,q6,q7⟩,⟨⟨q8,q9,q10,q11⟩,q12,q13,q14⟩⟩,⟨q15,q16,q17,q18⟩,⟨q19,q20⟩,⟨q21,q22⟩,q23,q24⟩:=x'
  unfold interp_home at h
  try dsimp only at h
  refine Wfn Tryz.func173 (bodyOf Tryz.f173) fun ctr hc=>?_
  refine Wx [] 0 [] Wz

theorem stringslite_HasPrefix_ok (s:ByteArray) (prefix':ByteArray) (r:Bool) (h:stringslite_HasPrefix s prefix'=some r):PureFn Tryz.prog 203 [(.v (.string s)),(.v (.string prefix'))] ((.v (.bool r))):=by
  unfold stringslite_HasPrefix at h
  refine Wfn Tryz.func203 (bodyOf Tryz.f203) fun ctr hc=>?_
  refine Wx [] 0 [] Wz

theorem strings_HasPrefix_ok (s:ByteArray) (prefix':ByteArray) (r:Bool) (h:strings_HasPrefix s prefix'=some r):PureFn Tryz.prog 123 [(.v (.string s)),(.v (.string prefix'))] ((.v (.bool r))):=by
  unfold strings_HasPrefix at h
  refine Wfn Tryz.func123 (bodyOf Tryz.f123) fun ctr hc=>?_
  refine Wo0 ?_
  refine Wo 7 0 (stringslite_HasPrefix_ok s prefix') fun v h1=>?_
  refine Wk [] 0 [] Wz

theorem interp_title_ok (s:T_interp_State) (t':ByteArray) (r:T_interp_State) (h:interp_title s t'=some r):PureFn Tryz.prog 37 [(.agg 83 (fun j=>(D_interp_State nvS s j))),(.v (.string t'))] ((.agg 83 (fun j=>(D_interp_State nvS r j)))):=by
  unfold interp_title at h
  refine Wfn Tryz.func37 (bodyOf Tryz.f37) fun ctr hc=>?_
  refine Wo0 ?_
  refine Wi 6 0 h sB (strings_HasPrefix_ok _ _) fun v h1=>?_
  refine Wig 10 0 h (sK v sB) (strings_HasPrefix_ok _ _) fun v1 h2=>?_
  refine Wk [] 0 [] Wz

theorem lapwinglaw16_plain_ok (c':T_cursor_Cursor) (r:T_lapwingref14_Cursor) (h:lapwinglaw16_plain c'=some r):PureFn Tryz.prog 18 [(.agg 14 (fun j=>(D_cursor_Cursor nvS c' j)))] ((.agg 14 (fun j=>(D_lapwingref14_Cursor nvS r j)))):=by
  unfold lapwinglaw16_plain at h
  refine Wfn Tryz.func18 (bodyOf Tryz.f18) fun ctr hc=>?_
  refine Wx [] 0 [] Wz

theorem lapwinglaw16_theirs_ok (s:T_screen_Screen) (r:T_lapwingref15_Screen) (h:lapwinglaw16_theirs s=some r):PureFn Tryz.prog 26 [(.agg 25 (fun j=>(D_screen_Screen nvS s j)))] ((.agg 25 (fun j=>(D_lapwingref15_Screen nvS r j)))):=by
  unfold lapwinglaw16_theirs at h
  refine Wfn Tryz.func26 (bodyOf Tryz.f26) fun ctr hc=>?_
  refine Wo0 ?_
  refine Wo 12 0 (lapwinglaw16_plain_ok s.fC) fun v h1=>?_
  refine Wk [] 0 [] Wz

theorem lapwinglaw16_plainly_ok (s:T_interp_State) (r:T_lapwingref16_State) (h:lapwinglaw16_plainly s=some r):PureFn Tryz.prog 11 [(.agg 83 (fun j=>(D_interp_State nvS s j)))] ((.agg 83 (fun j=>(D_lapwingref16_State nvS r j)))):=by
  unfold lapwinglaw16_plainly at h
  refine Wfn Tryz.func11 (bodyOf Tryz.f11) fun ctr hc=>?_
  refine Wo0 ?_
  refine Wo 5 0 (lapwinglaw16_theirs_ok s.fMain) fun v h1=>?_
  refine Wo 8 0 (lapwinglaw16_theirs_ok s.fOther) fun v1 h2=>?_
  refine Wo 18 0 (lapwinglaw16_plain_ok s.fSaved.x0) fun v2 h3=>?_
  refine Wo 22 0 (lapwinglaw16_plain_ok s.fSaved.x1) fun v3 h4=>?_
  refine Wk [] 0 [] Wz

theorem lapwingref08_Cells_ok (a:(List T_api_Cell)) (b:(List T_api_Cell)) (r:Bool) (h:lapwingref08_Cells a b=some r):PureFn Tryz.prog 217 [(.sl 7 (nvS.len a) false (fun ix jx=>(D_api_Cell nvS (nvS.get d_api_Cell a ix) jx))),(.sl 7 (nvS.len b) false (fun ix jx=>(D_api_Cell nvS (nvS.get d_api_Cell b ix) jx)))] ((.v (.bool r))):=by
  unfold lapwingref08_Cells at h
  refine Wfn Tryz.func217 (bodyOf Tryz.f217) fun ctr hc=>?_
  revert h
  refine Wyp 2 [] 0 [] (Wq ?_)
  intro h
  intros
  refine Wcut h (ctr+2) [(4,2),(5,15)] [] (fun _ u=>Fa [] []) (fun x uc ug ut ht hu hp h=>?_) (fun f h=>?_)
  · refine Wx [] 0 [] Wz
  · revert h
    refine Wyp 1 [] 0 [] (Wq ?_)
    intro h
    intros
    refine Tr.block ?_
    refine Wlp h (ctr+3) [(4,2),(5,15)] [] (fun i u1=>Fa [(5,.v (.int .i64 i))] []) Wlay (fun i u1c u1g u1t f ht hu hp h=>?_)
    refine Wx [] 0 [] Wz

theorem lapwingref08_Same_ok (a:T_api_Row) (b:T_api_Row) (r:Bool) (h:lapwingref08_Same a b=some r):PureFn Tryz.prog 142 [(.agg 4 (fun j=>(D_api_Row nvS a j))),(.agg 4 (fun j=>(D_api_Row nvS b j)))] ((.v (.bool r))):=by
  obtain ⟨q,q1,q2,q3⟩:=a
  obtain ⟨q4,q5,q6,q7⟩:=b
  unfold lapwingref08_Same at h
  try dsimp only at h
  refine Wfn Tryz.func142 (bodyOf Tryz.f142) fun ctr hc=>?_
  refine Wo0 ?_
  refine Wo 9 0 (lapwingref08_Cells_ok q q4) fun v h1=>?_
  refine Wk [] 0 [] Wz

theorem lapwingref09_Same_ok (a:(List T_api_Row)) (b:(List T_api_Row)) (r:Bool) (h:lapwingref09_Same a b=some r):PureFn Tryz.prog 59 [(.sl 4 (nvS.len a) false (fun ix jx=>(D_api_Row nvS (nvS.get d_api_Row a ix) jx))),(.sl 4 (nvS.len b) false (fun ix jx=>(D_api_Row nvS (nvS.get d_api_Row b ix) jx)))] ((.v (.bool r))):=by
  unfold lapwingref09_Same at h
  refine Wfn Tryz.func59 (bodyOf Tryz.f59) fun ctr hc=>?_
  revert h
  refine Wyp 2 [] 0 [] (Wq ?_)
  intro h
  intros
  refine Wcut h (ctr+2) [(4,2),(5,16)] [] (fun _ u=>Fa [] []) (fun x uc ug ut ht hu hp h=>?_) (fun f h=>?_)
  · refine Wx [] 0 [] Wz
  · revert h
    refine Wyp 1 [] 0 [] (Wq ?_)
    intro h
    intros
    refine Tr.block ?_
    refine Wlp h (ctr+3) [(4,2),(5,16)] [] (fun i u1=>Fa [(5,.v (.int .i64 i))] []) Wlay (fun i u1c u1g u1t f ht hu hp h=>?_)
    refine Wo0 ?_
    refine Wi 25 0 h (sT (sC (sC sB))) (lapwingref08_Same_ok _ _) fun v h19=>?_
    refine Wk [] 0 [] Wz

theorem lapwingref10_Same_ok (a:T_lapwingref10_Kept) (b:T_lapwingref10_Kept) (r:Bool) (h:lapwingref10_Same a b=some r):PureFn Tryz.prog 61 [(.agg 2 (fun j=>(D_lapwingref10_Kept nvS a j))),(.agg 2 (fun j=>(D_lapwingref10_Kept nvS b j)))] ((.v (.bool r))):=by
  obtain ⟨q,q1⟩:=a
  obtain ⟨q2,q3⟩:=b
  unfold lapwingref10_Same at h
  try dsimp only at h
  refine Wfn Tryz.func61 (bodyOf Tryz.f61) fun ctr hc=>?_
  refine Wo0 ?_
  refine Wig 15 0 h sB (lapwingref09_Same_ok _ _) fun v h1=>?_
  refine Wk [] 0 [] Wz

end Go.Vx
