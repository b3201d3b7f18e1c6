/- Walks, by program (lift5.py): the code does what the lifted functions say. -/
import Derived.Test.YtmkigppfdmghnaaGreatDoorIWalkPr
set_option linter.all false
namespace Go.Vx
open Go.Proofs
set_option maxRecDepth 100000
set_option maxHeartbeats 8000000
set_option linter.unusedVariables false
set_option linter.unusedSimpArgs false
attribute [local irreducible] chk iteO bindO cutO nilO

theorem modes_New_ok  (r:T_modes_Modes) (h:modes_New=some r):PureFn Tryz.prog 53 [] ((.agg 1 (fun j=>(D_modes_Modes nvS r j)))):=by
  unfold modes_New at h
  refine Wfn Tryz.func53 (bodyOf Tryz.f53) fun ctr hc=>?_
  refine Wx [] 0 [] Wz

theorem modes_Place_ok (private':Bool) (n:Int) (r:Int) (h:modes_Place private' n=some r):PureFn Tryz.prog 157 [(.v (.bool private')),(.v (.int .i64 n))] ((.v (.int .i64 r))):=by
  unfold modes_Place at h
  refine Wfn Tryz.func157 (bodyOf Tryz.f157) fun ctr hc=>?_
  revert h
  refine Wyp 1 [] 0 [] (Wq ?_)
  intro h
  intros
  refine Wcut h (ctr+1) [(4,20)] [] (fun _ u=>Fa [] []) (fun x uc ug ut ht hu hp h=>?_) (fun f h=>?_)
  · refine Wx [] 0 [] Wz
  · revert h
    refine Wyp 1 [] 0 [] (Wq ?_)
    intro h
    intros
    refine Tr.block ?_
    refine Tr.rounds 25 ?_
    refine Wrnd h (ctr+2) [(4,3),(1,16)] [(6,1)] (fun _ u1=>Fa [(8,.v (.int .i64 1))] []) (fun x u1c u1g u1t ht hu hp h=>?_) (fun f h=>?_)
    · refine Wrnd h u1c [(4,3),(1,16)] [(6,1)] (fun _ u2=>Fa [(8,.v (.int .i64 2))] []) (fun x u2c u2g u2t ht hu hp h=>?_) (fun f h=>?_)
      · refine Wrnd h u2c [(4,3),(1,16)] [(6,1)] (fun _ u3=>Fa [(8,.v (.int .i64 3))] []) (fun x u3c u3g u3t ht hu hp h=>?_) (fun f h=>?_)
        · refine Wrnd h u3c [(4,3),(1,16)] [(6,1)] (fun _ u4=>Fa [(8,.v (.int .i64 4))] []) (fun x u4c u4g u4t ht hu hp h=>?_) (fun f h=>?_)
          · refine Wrnd h u4c [(4,3),(1,16)] [(6,1)] (fun _ u5=>Fa [(8,.v (.int .i64 5))] []) (fun x u5c u5g u5t ht hu hp h=>?_) (fun f h=>?_)
            · refine Wrnd h u5c [(4,3),(1,16)] [(6,1)] (fun _ u6=>Fa [(8,.v (.int .i64 6))] []) (fun x u6c u6g u6t ht hu hp h=>?_) (fun f h=>?_)
              · refine Wrnd h u6c [(4,3),(1,16)] [(6,1)] (fun _ u7=>Fa [(8,.v (.int .i64 7))] []) (fun x u7c u7g u7t ht hu hp h=>?_) (fun f h=>?_)
                · refine Wrnd h u7c [(4,3),(1,16)] [(6,1)] (fun _ u8=>Fa [(8,.v (.int .i64 8))] []) (fun x u8c u8g u8t ht hu hp h=>?_) (fun f h=>?_)
                  · refine Wrnd h u8c [(4,3),(1,16)] [(6,1)] (fun _ u9=>Fa [(8,.v (.int .i64 9))] []) (fun x u9c u9g u9t ht hu hp h=>?_) (fun f h=>?_)
                    · refine Wrnd h u9c [(4,3),(1,16)] [(6,1)] (fun _ u10=>Fa [(8,.v (.int .i64 10))] []) (fun x u10c u10g u10t ht hu hp h=>?_) (fun f h=>?_)
                      · refine Wrnd h u10c [(4,3),(1,16)] [(6,1)] (fun _ u11=>Fa [(8,.v (.int .i64 11))] []) (fun x u11c u11g u11t ht hu hp h=>?_) (fun f h=>?_)
                        · refine Wrnd h u11c [(4,3),(1,16)] [(6,1)] (fun _ u12=>Fa [(8,.v (.int .i64 12))] []) (fun x u12c u12g u12t ht hu hp h=>?_) (fun f h=>?_)
                          · refine Wrnd h u12c [(4,3),(1,16)] [(6,1)] (fun _ u13=>Fa [(8,.v (.int .i64 13))] []) (fun x u13c u13g u13t ht hu hp h=>?_) (fun f h=>?_)
                            · refine Wrnd h u13c [(4,3),(1,16)] [(6,1)] (fun _ u14=>Fa [(8,.v (.int .i64 14))] []) (fun x u14c u14g u14t ht hu hp h=>?_) (fun f h=>?_)
                              · refine Wrnd h u14c [(4,3),(1,16)] [(6,1)] (fun _ u15=>Fa [(8,.v (.int .i64 15))] []) (fun x u15c u15g u15t ht hu hp h=>?_) (fun f h=>?_)
                                · refine Wrnd h u15c [(4,3),(1,16)] [(6,1)] (fun _ u16=>Fa [(8,.v (.int .i64 16))] []) (fun x u16c u16g u16t ht hu hp h=>?_) (fun f h=>?_)
                                  · refine Wrnd h u16c [(4,3),(1,16)] [(6,1)] (fun _ u17=>Fa [(8,.v (.int .i64 17))] []) (fun x u17c u17g u17t ht hu hp h=>?_) (fun f h=>?_)
                                    · refine Wrnd h u17c [(4,3),(1,16)] [(6,1)] (fun _ u18=>Fa [(8,.v (.int .i64 18))] []) (fun x u18c u18g u18t ht hu hp h=>?_) (fun f h=>?_)
                                      · refine Wrnd h u18c [(4,3),(1,16)] [(6,1)] (fun _ u19=>Fa [(8,.v (.int .i64 19))] []) (fun x u19c u19g u19t ht hu hp h=>?_) (fun f h=>?_)
                                        · refine Wrnd h u19c [(4,3),(1,16)] [(6,1)] (fun _ u20=>Fa [(8,.v (.int .i64 20))] []) (fun x u20c u20g u20t ht hu hp h=>?_) (fun f h=>?_)
                                          · refine Wrnd h u20c [(4,3),(1,16)] [(6,1)] (fun _ u21=>Fa [(8,.v (.int .i64 21))] []) (fun x u21c u21g u21t ht hu hp h=>?_) (fun f h=>?_)
                                            · refine Wrnd h u21c [(4,3),(1,16)] [(6,1)] (fun _ u22=>Fa [(8,.v (.int .i64 22))] []) (fun x u22c u22g u22t ht hu hp h=>?_) (fun f h=>?_)
                                              · refine Wrnd h u22c [(4,3),(1,16)] [(6,1)] (fun _ u23=>Fa [(8,.v (.int .i64 23))] []) (fun x u23c u23g u23t ht hu hp h=>?_) (fun f h=>?_)
                                                · refine Wrnd h u23c [(4,3),(1,16)] [(6,1)] (fun _ u24=>Fa [(8,.v (.int .i64 24))] []) (fun x u24c u24g u24t ht hu hp h=>?_) (fun f h=>?_)
                                                  · refine Wx [] 0 [] Wz
                                                  · refine Wx [] 0 [] Wz
                                                · refine Wx [] 0 [] Wz
                                              · refine Wx [] 0 [] Wz
                                            · refine Wx [] 0 [] Wz
                                          · refine Wx [] 0 [] Wz
                                        · refine Wx [] 0 [] Wz
                                      · refine Wx [] 0 [] Wz
                                    · refine Wx [] 0 [] Wz
                                  · refine Wx [] 0 [] Wz
                                · refine Wx [] 0 [] Wz
                              · refine Wx [] 0 [] Wz
                            · refine Wx [] 0 [] Wz
                          · refine Wx [] 0 [] Wz
                        · refine Wx [] 0 [] Wz
                      · refine Wx [] 0 [] Wz
                    · refine Wx [] 0 [] Wz
                  · refine Wx [] 0 [] Wz
                · refine Wx [] 0 [] Wz
              · refine Wx [] 0 [] Wz
            · refine Wx [] 0 [] Wz
          · refine Wx [] 0 [] Wz
        · refine Wx [] 0 [] Wz
      · refine Wx [] 0 [] Wz
    · refine Wx [] 0 [] Wz

theorem modes_single_ok (bits:Int) (r:Bool) (h:modes_single bits=some r):PureFn Tryz.prog 131 [(.v (.int .i64 bits))] ((.v (.bool r))):=by
  unfold modes_single at h
  refine Wfn Tryz.func131 (bodyOf Tryz.f131) fun ctr hc=>?_
  refine Wx [] 0 [] Wz

theorem modes_Sane_ok (m:T_modes_Modes) (r:Bool) (h:modes_Sane m=some r):PureFn Tryz.prog 47 [(.agg 1 (fun j=>(D_modes_Modes nvS m j)))] ((.v (.bool r))):=by
  obtain ⟨q⟩:=m
  unfold modes_Sane at h
  try dsimp only at h
  refine Wfn Tryz.func47 (bodyOf Tryz.f47) fun ctr hc=>?_
  refine Wo0 ?_
  refine Wi 14 0 h (sF sB) (modes_single_ok _) fun v h1=>?_
  refine Wig 19 0 h (sF (sK v sB)) (modes_single_ok _) fun v1 h2=>?_
  refine Wk [] 0 [] Wz

theorem modes_Has_ok (m:T_modes_Modes) (private':Bool) (n:Int) (r:Bool) (h:modes_Has m private' n=some r):PureFn Tryz.prog 68 [(.agg 1 (fun j=>(D_modes_Modes nvS m j))),(.v (.bool private')),(.v (.int .i64 n))] ((.v (.bool r))):=by
  obtain ⟨q⟩:=m
  unfold modes_Has at h
  try dsimp only at h
  refine Wfn Tryz.func68 (bodyOf Tryz.f68) fun ctr hc=>?_
  refine Wo0 ?_
  refine Wi 10 0 h sB (modes_Place_ok _ _) fun v h1=>?_
  refine Wo 12 0 (modes_Sane_ok ⟨q⟩) fun v1 h2=>?_
  refine Wk [] 0 [] Wz

theorem interp_explicit_ok (s:T_interp_State) (r:T_interp_State) (h:interp_explicit s=some r):PureFn Tryz.prog 51 [(.agg 83 (fun j=>(D_interp_State nvS s j)))] ((.agg 83 (fun j=>(D_interp_State nvS r j)))):=by
  unfold interp_explicit at h
  refine Wfn Tryz.func51 (bodyOf Tryz.f51) fun ctr hc=>?_
  refine Wo0 ?_
  refine Wi 6 0 h sB (modes_Has_ok _ _ _) fun v h1=>?_
  refine Wk [] 0 [] Wz

theorem modes_Set_ok (m:T_modes_Modes) (private':Bool) (n:Int) (on:Bool) (r:T_modes_Modes) (h:modes_Set m private' n on=some r):PureFn Tryz.prog 194 [(.agg 1 (fun j=>(D_modes_Modes nvS m j))),(.v (.bool private')),(.v (.int .i64 n)),(.v (.bool on))] ((.agg 1 (fun j=>(D_modes_Modes nvS r j)))):=by
  obtain ⟨q⟩:=m
  unfold modes_Set at h
  try dsimp only at h
  refine Wfn Tryz.func194 (bodyOf Tryz.f194) fun ctr hc=>?_
  refine Wo0 ?_
  refine Wo 13 0 (modes_Sane_ok ⟨q⟩) fun v h1=>?_
  refine Wo 15 0 (modes_New_ok) fun v1 h2=>?_
  refine Wo 18 0 (modes_Place_ok private' n) fun v2 h3=>?_
  refine Wk [] 0 [] Wz

end Go.Vx
