/- Walks, by program (lift5.py): the code does what the lifted functions say. -/
import Derived.Test.YtmkigppfdmghnaaGreatDoorIWalkPr
import Derived.Test.YtmkigppfdmghnaaGreatDoorIWb1
import Derived.Test.YtmkigppfdmghnaaGreatDoorIWb2
import Derived.Test.YtmkigppfdmghnaaGreatDoorIWb3
import Derived.Test.YtmkigppfdmghnaaGreatDoorIWb6
set_option linter.all false
namespace Go.Vx
open Go.Proofs
set_option maxRecDepth 100000
set_option maxHeartbeats 8000000
set_option linter.unusedVariables false
set_option linter.unusedSimpArgs false
attribute [local irreducible] chk iteO bindO cutO nilO

theorem interp_Sane_ok (s:T_interp_State) (r:Bool) (h:interp_Sane s=some r):PureFn Tryz.prog 15 [(.agg 83 (fun j=>(D_interp_State nvS s j)))] ((.v (.bool r))):=by
  obtain ⟨⟨⟨q⟩,⟨q1,q2,q3,q4,⟨q5,q6,q7⟩,⟨⟨q8,q9,q10,q11⟩,q12,q13,q14⟩⟩,⟨q15,q16,q17,q18⟩,⟨q19,q20⟩,⟨q21,q22⟩,q23,q24⟩,⟨⟨q25⟩,⟨q26,q27,q28,q29,⟨q30,q31,q32⟩,⟨⟨q33,q34,q35,q36⟩,q37,q38,q39⟩⟩,⟨q40,q41,q42,q43⟩,⟨q44,q45⟩,⟨q46,q47⟩,q48,q49⟩,q50,⟨q51⟩,⟨⟨q52,q53,q54,q55,⟨q56,q57,q58⟩,⟨⟨q59,q60,q61,q62⟩,q63,q64,q65⟩⟩,⟨q66,q67,q68,q69,⟨q70,q71,q72⟩,⟨⟨q73,q74,q75,q76⟩,q77,q78,q79⟩⟩⟩,q80,q81,q82⟩:=s
  unfold interp_Sane at h
  try dsimp only at h
  refine Wfn Tryz.func15 (bodyOf Tryz.f15) fun ctr hc=>?_
  refine Wo0 ?_
  refine Wi 8 0 h sB (screen_Sane_ok _) fun v h1=>?_
  refine Wig 13 0 h (sK v sB) (screen_Sane_ok _) fun v1 h2=>?_
  refine Wig 19 0 h (sK v (sK v1 sB)) (modes_Sane_ok _) fun v2 h3=>?_
  refine Wo 25 0 (interp_whole_ok ⟨q15,q16,q17,q18⟩) fun v3 h4=>?_
  obtain ⟨q83,q84,q85,q86⟩:=v3
  refine Wo 30 0 (interp_whole_ok ⟨q40,q41,q42,q43⟩) fun v4 h5=>?_
  obtain ⟨q87,q88,q89,q90⟩:=v4
  revert h
  refine Wjp 4 [] 0 [] (Wq ?_)
  intro h
  intros
  refine Wcut h (ctr+4) [(2,1),(2,1),(26,10)] [] (fun _ u=>Fa [] []) (fun x uc ug ut ht hu hp h=>?_) (fun f h=>?_)
  · refine Wx [] 0 [] Wz
  · revert h
    refine Wyp 1 [] 0 [] (Wq ?_)
    intro h
    intros
    refine Tr.block ?_
    refine Tr.rounds 3 ?_
    refine Wrnd h (ctr+5) [(2,1),(2,1),(28,8)] [(5,1)] (fun _ u1=>Fa [(34,.v (.int .i64 1))] []) (fun x u1c u1g u1t ht hu hp h=>?_) (fun f h=>?_)
    · refine Wrnd h u1c [(2,1),(2,1),(28,8)] [(5,1)] (fun _ u2=>Fa [(34,.v (.int .i64 2))] []) (fun x u2c u2g u2t ht hu hp h=>?_) (fun f h=>?_)
      · refine Wx [] 0 [] Wz
      · refine Wo0 ?_
        refine Wi 39 0 h sB (cursor_Sane_ok _ _) fun v5 h14=>?_
        refine Wk [] 0 [] Wz
    · refine Wo0 ?_
      refine Wi 39 0 h sB (cursor_Sane_ok _ _) fun v6 h16=>?_
      refine Wk [] 0 [] Wz

theorem interp_Drain_ok (s:T_interp_State) (r:(T_interp_State × (List Int))) (h:interp_Drain s=some r):PureFn Tryz.prog 20 [(.agg 83 (fun j=>(D_interp_State nvS s j)))] (.tup 2 (fun j=>match j with | 0=>(.agg 83 (fun j=>(D_interp_State nvS r.1 j))) | 1=>(.sl 1 (nvS.len r.2) false (fun ix jx=>(.v (.int .u8 (nvS.get 0 r.2 ix))))) | _=>.junk)):=by
  obtain ⟨⟨⟨q⟩,⟨q1,q2,q3,q4,⟨q5,q6,q7⟩,⟨⟨q8,q9,q10,q11⟩,q12,q13,q14⟩⟩,⟨q15,q16,q17,q18⟩,⟨q19,q20⟩,⟨q21,q22⟩,q23,q24⟩,⟨⟨q25⟩,⟨q26,q27,q28,q29,⟨q30,q31,q32⟩,⟨⟨q33,q34,q35,q36⟩,q37,q38,q39⟩⟩,⟨q40,q41,q42,q43⟩,⟨q44,q45⟩,⟨q46,q47⟩,q48,q49⟩,q50,⟨q51⟩,⟨⟨q52,q53,q54,q55,⟨q56,q57,q58⟩,⟨⟨q59,q60,q61,q62⟩,q63,q64,q65⟩⟩,⟨q66,q67,q68,q69,⟨q70,q71,q72⟩,⟨⟨q73,q74,q75,q76⟩,q77,q78,q79⟩⟩⟩,q80,q81,q82⟩:=s
  unfold interp_Drain at h
  try dsimp only at h
  refine Wfn Tryz.func20 (bodyOf Tryz.f20) fun ctr hc=>?_
  refine Wo0 ?_
  refine Wi 6 0 h sB (interp_Sane_ok _) fun v h1=>?_
  refine Wk [] 0 [] Wz

end Go.Vx
