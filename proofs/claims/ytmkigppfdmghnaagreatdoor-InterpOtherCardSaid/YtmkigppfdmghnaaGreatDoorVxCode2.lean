/- Which steps of the evaluator may change places. -/
import Derived.Test.YtmkigppfdmghnaaGreatDoorVxCode1
set_option linter.all false
namespace Go.Vx
section
variable {p:Pr} {tt:TT} {orc:Orc} {key ctr:Nat}
theorem evOp_congr {o:Oper} {objs:List (Option Ob)} {ρ ρ':Operand→D} (h : ∀ x∈o.op.operands,ρ x=ρ' x) :
  evOp p tt orc key objs ctr ρ o=evOp p tt orc key objs ctr ρ' o:=by
 obtain ⟨dst,op,ty,pos,after,guard⟩:=o
 have hmap : ∀ (l:List (Nat × Operand)),(∀ x∈l,ρ x.2=ρ' x.2)→(l.map fun x=>(x.1,(strip p (ρ x.2)).1))=(l.map fun x=>(x.1,(strip p (ρ' x.2)).1))∧(l.map fun x=>(strip p (ρ x.2)).2)=(l.map fun x=>(strip p (ρ' x.2)).2):=by
  intro l hl
  exact ⟨List.map_congr_left fun x hx=>by rw [hl x hx],List.map_congr_left fun x hx=>by rw [hl x hx]⟩
 have hargs : ∀ (l:List Operand),(∀ x∈l,ρ x=ρ' x)→(l.map fun x=>(strip p (ρ x)).1)=(l.map fun x=>(strip p (ρ' x)).1)∧(l.map fun x=>(strip p (ρ x)).2)=(l.map fun x=>(strip p (ρ' x)).2):=by
  intro l hl
  exact ⟨List.map_congr_left fun x hx=>by rw [hl x hx],List.map_congr_left fun x hx=>by rw [hl x hx]⟩
 cases op<;>simp only [Op.operands,List.mem_toArray,List.mem_cons,List.not_mem_nil,or_false,forall_eq_or_imp,forall_eq] at h<;>simp only [evOp]
 case move x=>rw [h]
 case assign x=>rw [h]
 case pick c a b=>rw [h.1,h.2.1,h.2.2]
 case box t x=>rw [h]
 case build t parts =>
  obtain ⟨h1,h2⟩:=hmap parts.toList (fun x hx=>h _ (by simp;exact ⟨x.1,by simpa using hx⟩))
  rw [h1,h2]
 case buildSlice t len parts =>
  obtain ⟨h1,h2⟩:=hmap parts.toList (fun x hx=>h _ (by simp;exact ⟨x.1,by simpa using hx⟩))
  rw [h1,h2]
 case load t x=>rw [h]
 case store t x y=>rw [h.1,h.2]
 case nilCheck x=>rw [h]
 case binOp op xt x y yt=>rw [h.1,h.2]
 case unOp op xt x=>rw [h]
 case convert u t x=>rw [h]
 case makeSlice t l c=>rw [h.1,h.2]
 case slice t x lo hi mx =>
  have h1:ρ x=ρ' x:=h x (by simp)
  have h2 : ∀ y∈lo,ρ y=ρ' y:=fun y hy=>h y (by cases lo<;>simp at hy ⊢;simp [hy])
  have h3 : ∀ y∈hi,ρ y=ρ' y:=fun y hy=>h y (by cases hi<;>simp at hy ⊢;simp [hy])
  have h4 : ∀ y∈mx,ρ y=ρ' y:=fun y hy=>h y (by cases mx<;>simp at hy ⊢;simp [hy])
  have hopt : ∀ (y:Option Operand),(∀ z∈y,ρ z=ρ' z)→(y.map fun x=>(strip p (ρ x)).1)=(y.map fun x=>(strip p (ρ' x)).1)∧(y.map fun x=>(strip p (ρ x)).2)=(y.map fun x=>(strip p (ρ' x)).2):=by
   intro y hy
   cases y with
   | none=>exact ⟨rfl,rfl⟩
   | some z=>simp [hy z (by simp)]
  rw [h1,(hopt lo h2).1,(hopt lo h2).2,(hopt hi h3).1,(hopt hi h3).2,(hopt mx h4).1,(hopt mx h4).2]
 case fieldAddr t x k=>rw [h]
 case field t x k=>rw [h]
 case indexAddr t x i=>rw [h.1,h.2]
 case index t x i=>rw [h.1,h.2]
 case extract x k=>rw [h]
 case makeFunc fn first captured =>
  obtain ⟨h1,h2⟩:=hargs captured.toList (fun x hx=>h x (by simpa using .inr (by simpa using hx)))
  rw [h1,h2]
 case lookup t x i ok=>rw [h.1,h.2]
 case range t x=>rw [h]
 case next x s=>rw [h]
 case call c =>
  obtain ⟨callee,cargs,ats⟩:=c
  cases callee with
  | invoke=>rfl
  | builtin b =>
   obtain ⟨h1,h2⟩:=hargs cargs.toList (fun x hx=>h x (by simpa [Call.operands] using hx))
   simp only [h1,h2]
  | value f =>
   obtain ⟨h1,h2⟩:=hargs cargs.toList (fun x hx=>h x (by simp [Call.operands];exact .inr (by simpa using hx)))
   have h3:ρ f=ρ' f:=h f (by simp [Call.operands])
   simp only [h1,h2,h3]
theorem evOp_objs0 {o:Oper} {objs objs':List (Option Ob)} {ρ:Operand→D} {own:List (Nat × Nat)} (hc:cls own o=0) (hρ : ∀ f,ρ (.func f) = .fn (.func f) 0 (fun _=>.junk)) (hown:OwnK orc own key o) :
  evOp p tt orc key objs ctr ρ o=evOp p tt orc key objs' ctr ρ o∧∀ d u os,evOp p tt orc key objs ctr ρ o=some (d,u,os)→u=[]:=by
 obtain ⟨dst,op,ty,pos,after,guard⟩:=o
 have hcall : ∀ f args os,orc.knd f=0→callD p orc objs ctr key f args os=callD p orc objs' ctr key f args os∧∀ d u os',callD p orc objs ctr key f args os=some (d,u,os')→u=[]:=by
  intro f args os h0
  unfold callD
  rw [h0]
  refine ⟨rfl,fun d u os' h=>?_⟩
  simp only at h
  repeat' split at h
  all_goals first | (cases h;done) | (simp only [Option.some.injEq,Prod.mk.injEq] at h;exact h.2.1.symm)
 have howe : ∀ {os:List Prop} {r:Option (D × List Prop)} {d:D} {u:List (Nat × Option Ob)} {os':List Prop},owe os (val r)=some (d,u,os')→u=[]:=by
  intro os r d u os' h
  obtain ⟨_,h2,_⟩:=owe_some h
  exact (val_some h2).2
 cases op<;>simp only [cls,reduceCtorEq] at hc<;>simp only [evOp]
 case move x=>exact ⟨trivial,fun d u os h=>by simp at h;exact h.2.1⟩
 case assign x=>exact ⟨trivial,fun d u os h=>by simp at h;exact h.2.1⟩
 case pick c a b=>refine ⟨trivial,fun d u os h=>?_⟩;split at h<;>simp at h;exact h.2.1
 case build t parts =>
  refine ⟨trivial,fun d u os h=>?_⟩
  repeat' split at h
  all_goals first | cases h;done | (simp only [Option.some.injEq,Prod.mk.injEq] at h;exact h.2.1.symm)
 case load t x=>split at hc<;>cases hc
 case nilCheck x=>refine ⟨trivial,fun d u os h=>?_⟩;split at h<;>simp at h<;>exact h.2.1
 case binOp op xt x y yt =>
  refine ⟨trivial,fun d u os h=>?_⟩
  split at h
  · cases hn:nilEq op (tget tt xt) (strip p (ρ x)).1 with
    | none=>rw [hn] at h;cases h
    | some z=>rw [hn] at h;simp only [Option.map_some,Option.some.injEq,Prod.mk.injEq] at h;exact h.2.1.symm
  · rcases orG_u h with h | h
    · exact howe h
    · exact h
 case makeInterface =>
  refine ⟨trivial,fun d u os h=>?_⟩
  rcases orG_u h with h | h
  · cases h
  · exact h
 case makeFunc fn first captured =>
  refine ⟨trivial,fun d u os h=>?_⟩
  split at h
  · simp only [Option.some.injEq,Prod.mk.injEq] at h;exact h.2.1.symm
  · cases h
 case lookup t x i ok =>
  refine ⟨trivial,fun d u os h=>?_⟩
  repeat' split at h
  all_goals first | cases h;done | (simp only [Option.some.injEq,Prod.mk.injEq] at h;exact h.2.1.symm)
 case unOp op xt x=>refine ⟨trivial,fun d u os h=>?_⟩;split at h<;>simp at h<;>exact h.2.1
 case convert ut t x =>
  refine ⟨trivial,fun d u os h=>?_⟩
  repeat' split at h
  all_goals first | cases h;done | (simp only [Option.some.injEq,Prod.mk.injEq] at h;exact h.2.1.symm)
 case slice t x lo hi mx =>
  refine ⟨trivial,fun d u os h=>?_⟩
  split at h
  · exact howe h
  · cases h
 case fieldAddr t x k =>
  refine ⟨trivial,fun d u os h=>?_⟩
  split at h
  · exact howe h
  · cases h
 case field t x k =>
  refine ⟨trivial,fun d u os h=>?_⟩
  repeat' split at h
  all_goals first | exact howe h | cases h
 case indexAddr t x i =>
  refine ⟨trivial,fun d u os h=>?_⟩
  split at h
  · exact howe h
  · cases h
 case index t x i =>
  refine ⟨trivial,fun d u os h=>?_⟩
  repeat' split at h
  all_goals first | exact howe h | cases h;done | (simp only [Option.some.injEq,Prod.mk.injEq] at h;exact h.2.1.symm)
 case extract x k =>
  refine ⟨trivial,fun d u os h=>?_⟩
  repeat' split at h
  all_goals first | cases h;done | (simp only [Option.some.injEq,Prod.mk.injEq] at h;exact h.2.1.symm)
 case call c =>
  obtain ⟨callee,cargs,ats⟩:=c
  cases callee with
  | invoke=>simp at hc
  | value f =>
   cases f with
   | func f =>
    have hk:=(hown _ rfl).1 f rfl
    have h0:orc.knd f=0:=by
     rw [← hk]
     simp only at hc
     split at hc
     · assumption
     all_goals cases hc
    simp only [hρ,strip,callF]
    exact hcall _ _ _ h0
   | tmp x =>
    simp only at hc
    split at hc
    · rename_i d
      have h7:=(hown _ rfl).2 x d rfl rfl (by
       cases hb:Nat.beq (kOf own (d+d+1)) 7 with
       | true=>rfl
       | false=>rw [hb] at hc;cases hc)
      have hv : ∀ f args os,callF p orc objs ctr key (.tmp x) f args os=callF p orc objs' ctr key (.tmp x) f args os∧∀ d u os',callF p orc objs ctr key (.tmp x) f args os=some (d,u,os')→u=[]:=by
       intro f args os
       simp only [callF,h7,if_true]
       refine ⟨trivial,fun d u os' h=>?_⟩
       unfold callV at h
       repeat' split at h
       all_goals first | (cases h;done) | (simp only [Option.some.injEq,Prod.mk.injEq] at h;exact h.2.1.symm)
      dsimp only
      repeat' split
      all_goals first | exact hv _ _ _ | exact ⟨rfl,fun d u os h=>by cases h⟩
    · cases hc
   | _=>simp at hc
  | builtin b =>
   have hb:b≠.append∧b≠.copy:=by
    constructor
    · intro hb;subst hb;simp only at hc;split at hc<;>cases hc
    · intro hb;subst hb;simp at hc
   have key : ∀ owned args,builtinD p tt objs ctr key owned b ats.toList args=builtinD p tt objs' ctr key owned b ats.toList args∧∀ d u os,builtinD p tt objs ctr key owned b ats.toList args=some (d,u,os)→u=[]:=by
    intro owned args
    unfold builtinD
    split<;>first | exact absurd rfl hb.1 | exact absurd rfl hb.2 | skip
    all_goals
     refine ⟨rfl,fun d u os h=>?_⟩
     repeat' split at h
     all_goals first | cases h;done | (simp only [Option.some.injEq,Prod.mk.injEq] at h;exact h.2.1.symm)
   refine ⟨by simp only [(key _ _).1],fun d u os h=>?_⟩
   replace h:=ite_none_some h
   obtain ⟨os2,h2,_⟩:=owe_some h
   exact (key _ _).2 _ _ _ h2
 all_goals exact ⟨trivial,fun d u os h=>by cases h⟩
theorem appendD_nil {p:Pr} {objs:List (Option Ob)} {ctr key sz bytes:Nat} {owned:Bool} {y:D} : appendD p objs ctr key sz bytes owned .nilsl y=(match srcD p objs sz y with
 | none=>none
 | some (m,h,os)=>match objs[key]? with
  | some none=>some (.vec key ctr sz 0 m,[(key,some (.arr ctr sz m false h))],os++[p.grow bytes m])
  | _=>none):=rfl
theorem evOp_objs2 {o:Oper} {objs:List (Option Ob)} {ρ:Operand→D} {own:List (Nat × Nat)} (hc:cls own o=2) (hρc : ∀ v,ρ (.const v)=cellD v) (hρ : ∀ f,ρ (.func f) = .fn (.func f) 0 (fun _=>.junk)) (hown:OwnK orc own key o)
  {d:D} {u:List (Nat × Option Ob)} {os:List Prop} (he:evOp p tt orc key objs ctr ρ o=some (d,u,os)) :
  (u=[]∧∀ objs':List (Option Ob),evOp p tt orc key objs' ctr ρ o=some (d,u,os))∨∃ ob,u=[(key,some ob)]∧ob.gen=ctr∧objs[key]? = some none∧∀ objs':List (Option Ob),objs'[key]? = some none→evOp p tt orc key objs' ctr ρ o=some (d,u,os):=by
 have hnew : ∀ {dd:D} {ob:Ob} {oo:List Prop},newD objs key dd ob oo=some (d,u,os)→ob.gen=ctr →
   ∃ ob,u=[(key,some ob)]∧ob.gen=ctr∧objs[key]? = some none∧∀ objs':List (Option Ob),objs'[key]? = some none→newD objs' key dd ob oo=some (d,u,os)∧newD objs key dd ob oo=newD objs key dd ob oo:=by
  intro dd ob oo h hg
  obtain ⟨h1,rfl,rfl,rfl⟩:=newD_some h
  exact ⟨ob,rfl,hg,h1,fun objs' h'=>⟨by simp [newD,h'],rfl⟩⟩
 have hnew2 : ∀ {dd:D} {ob:Ob} {oo:List Prop},newD objs key dd ob oo=some (d,u,os)→ob.gen=ctr →
   (∃ ob,u=[(key,some ob)]∧ob.gen=ctr∧objs[key]? = some none)∧∀ objs':List (Option Ob),objs'[key]? = some none→newD objs' key dd ob oo=some (d,u,os):=by
  intro dd ob oo h hg
  obtain ⟨h1,rfl,rfl,rfl⟩:=newD_some h
  exact ⟨⟨ob,rfl,hg,h1⟩,fun objs' h'=>by simp [newD,h']⟩
 obtain ⟨dst,op,ty,pos,after,guard⟩:=o
 cases op<;>simp only [cls,reduceCtorEq,Nat.reduceEqDiff] at hc<;>simp only [evOp] at he ⊢
 case load t x=>split at hc<;>cases hc
 case alloc t =>
  split at he
  · rename_i ti ht
    split at he
    · rename_i z hz
      obtain ⟨⟨ob,h1,h2,h3⟩,h4⟩:=hnew2 he rfl
      exact .inr ⟨ob,h1,h2,h3,fun objs' h'=>by simpa only [ht,hz] using h4 objs' h'⟩
    · cases he
  · cases he
 case box t x =>
  split at he
  · rename_i ti ht
    split at he
    · rename_i ds hds
      obtain ⟨⟨ob,h1,h2,h3⟩,h4⟩:=hnew2 he rfl
      exact .inr ⟨ob,h1,h2,h3,fun objs' h'=>by simpa only [ht,hds] using h4 objs' h'⟩
    · cases he
  · cases he
 case range t x =>
  split at he
  · rename_i ti ht
    split at he
    · rename_i b hk e1
      obtain ⟨⟨ob,h1,h2,h3⟩,h4⟩:=hnew2 he rfl
      exact .inr ⟨ob,h1,h2,h3,fun objs' h'=>by simpa only [ht,hk,e1] using h4 objs' h'⟩
    · cases he
  · cases he
 case buildSlice t len parts =>
  split at he
  · rename_i ti ht
    split at he
    · rename_i e hk
      split at he
      · rename_i te hte
        split at he
        · rename_i z hz
          split at he
          · rename_i cs hcs
            split at he
            · rename_i hle
              unfold layD at he
              split at he
              · rename_i hice
                simp only [Option.some.injEq,Prod.mk.injEq] at he
                obtain ⟨rfl,rfl,rfl⟩:=he
                exact .inl ⟨rfl,fun objs'=>by simp only [ht,hk,hte,hz,hcs,hle,if_true,layD,hice]⟩
              · rename_i hice
                obtain ⟨⟨ob,h1,h2,h3⟩,h4⟩:=hnew2 he rfl
                exact .inr ⟨ob,h1,h2,h3,fun objs' h'=>by simpa only [ht,hk,hte,hz,hcs,hle,if_true,layD,hice,Bool.false_eq_true,if_false] using h4 objs' h'⟩
            · cases he
          · cases he
        · cases he
      · cases he
    · cases he
  · cases he
 case makeSlice t l c =>
  split at he
  · rename_i ti ht
    split at he
    · rename_i e hk
      split at he
      · rename_i te hte
        split at he
        · rename_i z k1 n1 k2 n2 hz e1 e2
          split at he
          · cases he
          · rename_i hb
            obtain ⟨⟨ob,h1,h2,h3⟩,h4⟩:=hnew2 he rfl
            refine .inr ⟨ob,h1,h2,h3,fun objs' h'=>?_⟩
            have:=h4 objs' h'
            rw [if_neg hb]
            exact this
        · cases he
      · cases he
    · cases he
  · cases he
 case call c =>
  obtain ⟨callee,cargs,ats⟩:=c
  cases callee with
  | invoke=>simp at hc
  | builtin b =>
   cases b<;>(try simp at hc;done)
   case append =>
    have hn:nilApp ⟨.builtin .append,cargs,ats⟩=true:=by
     simp only at hc
     split at hc
     · assumption
     · cases hc
    obtain ⟨cl⟩:=cargs
    have hx : ∃ r,cl = .const (.slice none 0 0) :: r:=by
     match cl,hn with
     | x :: r,hn =>
      simp only [nilApp,isNilS] at hn
      split at hn
      · exact ⟨r,rfl⟩
      · cases hn
    obtain ⟨r,rfl⟩:=hx
    simp only [hn,Bool.true_and] at he ⊢
    have hcd:ρ (.const (.slice none 0 0)) = .nilsl:=hρc _
    split at he
    · cases he
    rename_i hv
    have hv:anyVec (List.map (fun x=>(strip p (ρ x)).1) (Operand.const (.slice none 0 0) :: r))=false:=by simpa using hv
    simp only [hv,Bool.false_eq_true,if_false] at he ⊢
    obtain ⟨os2,h2,rfl⟩:=owe_some he
    simp only [List.map_cons,hcd,strip] at h2 ⊢
    match r,h2,hv with
    | [y],h2,hv =>
     simp only [List.map_cons,List.map_nil,hcd,strip,anyVec] at h2 hv ⊢
     generalize hy:(strip p (ρ y)).1=yd at h2 hv ⊢
     unfold builtinD at h2
     simp only at h2
     split at h2
     · rename_i t u hats
       split at h2
       · rename_i hps
         split at h2
         · rename_i ti ht
           split at h2
           · rename_i e hk
             split at h2
             · rename_i te hte
               split at h2
               · rename_i z hz
                 split at h2
                 · cases h2
                 · rename_i hsz
                   replace h2:=(appendD_nil ..).symm.trans h2
                   split at h2
                   · cases h2
                   · rename_i mm hh oo hsrc
                     split at h2
                     · rename_i hkk
                       simp only [Option.some.injEq,Prod.mk.injEq] at h2
                       obtain ⟨rfl,rfl,rfl⟩:=h2
                       refine .inr ⟨_,rfl,rfl,hkk,fun objs' h'=>?_⟩
                       have hs':srcD p objs' te.size yd=some (mm,hh,oo):=by
                        cases yd<;>first | exact hsrc | (simp [anyVec] at hv;done) | (rename_i x;cases x<;>exact hsrc)
                       simp only [builtinD,hats,hps,ht,hk,hte,hz,hsz,if_true,if_false,appendD_nil,hs',h',Bool.false_eq_true,owe,Option.map_some]
                     · cases h2
               · cases h2
             · cases h2
           · cases h2
         · cases h2
       · cases h2
     · cases h2
    | [],h2,_=>simp [builtinD] at h2
    | _ :: _ :: _,h2,_=>simp [builtinD] at h2
  | value f =>
   cases f with
   | func f =>
    have hk:=(hown _ rfl).1 f rfl
    have h1:orc.knd f=1:=by
     rw [← hk]
     simp only at hc
     split at hc
     · cases hc
     · assumption
     all_goals cases hc
    simp only [hρ,strip] at he ⊢
    simp only [callF] at he ⊢
    unfold callD at he ⊢
    rw [h1] at he ⊢
    simp only at he ⊢
    split at he
    · rename_i sz n tg g hfn
      obtain ⟨⟨ob,q1,q2,q3⟩,q4⟩:=hnew2 he rfl
      exact .inr ⟨ob,q1,q2,q3,fun objs' h'=>by simpa only [hfn] using q4 objs' h'⟩
    · cases he
   | tmp x =>
    exfalso
    simp only at hc
    repeat' split at hc
    all_goals cases hc
   | _=>simp at hc
end
end Go.Vx
