/- Which steps of the evaluator may change places. -/
import Derived.Test.YtckmalogclklmaaGreatDoorVxCode1
set_option linter.all false
namespace Go.Vx
section
variable {p:Pr} {tt:TT} {bO:sU} {key ctr:Nat}
theorem V6 {o:Oper} {objs:List (Option Ob)} {ρ ρ':Operand→D} (h : ∀ x∈o.op.operands,ρ x=ρ' x) :
  iT p tt bO key objs ctr ρ o=iT p tt bO key objs ctr ρ' o:=by
 obtain ⟨dst,op,ty,pos,after,guard⟩:=o
 have hmap : ∀ (l:List (Nat × Operand)),(∀ x∈l,ρ x.2=ρ' x.2)→(l.map fun x=>(x.1,(strip p (ρ x.2)).1))=(l.map fun x=>(x.1,(strip p (ρ' x.2)).1))∧(l.map fun x=>(strip p (ρ x.2)).2)=(l.map fun x=>(strip p (ρ' x.2)).2):=by
  intro l hl
  exact ⟨List.map_congr_left fun x hx=>by rw [hl x hx],List.map_congr_left fun x hx=>by rw [hl x hx]⟩
 have hargs : ∀ (l:List Operand),(∀ x∈l,ρ x=ρ' x)→(l.map fun x=>(strip p (ρ x)).1)=(l.map fun x=>(strip p (ρ' x)).1)∧(l.map fun x=>(strip p (ρ x)).2)=(l.map fun x=>(strip p (ρ' x)).2):=by
  intro l hl
  exact ⟨List.map_congr_left fun x hx=>by rw [hl x hx],List.map_congr_left fun x hx=>by rw [hl x hx]⟩
 cases op<;>simp only [Op.operands,List.mem_toArray,List.mem_cons,List.not_mem_nil,or_false,forall_eq_or_imp,forall_eq] at h<;>simp only [iT,Ho,CK,MR,CO,pJ,Hq,CP,uw,CQ,lU,pK,uy,zk,CR,Hr,Ht,wG,qW,CS,qX,CU,qY,CW,wH,Ba]
 case move x=>rw [h]
 case assign x=>rw [h]
 case pick c a b=>rw [h.1,h.2.1,h.2.2]
 case box t x=>rw [h]
 case build t parts =>
  obtain ⟨h1,h2⟩:=hmap parts.toList (fun x hx=>h _ (by simp;exact ⟨x.1,by simpa using hx⟩))
  rw [h1,h2]
 case buildSlice t len parts =>
  obtain ⟨h1,h2⟩:=hmap parts.toList (fun x hx=>h _ (by simp;exact ⟨x.1,by simpa using hx⟩))
  rw [h1,h2]
 case load t x=>rw [h]
 case store t x y=>rw [h.1,h.2]
 case nilCheck x=>rw [h]
 case makeInterface t x=>rw [h]
 case typeAssert x xT t ok=>rw [h]
 case binOp op xt x y yt=>rw [h.1,h.2]
 case unOp op xt x=>rw [h]
 case convert u t x=>rw [h]
 case makeSlice t l c=>rw [h.1,h.2]
 case slice t x lo hi mx =>
  have h1:ρ x=ρ' x:=h x (by simp)
  have h2 : ∀ y∈lo,ρ y=ρ' y:=fun y hy=>h y (by cases lo<;>simp at hy ⊢;simp [hy])
  have h3 : ∀ y∈hi,ρ y=ρ' y:=fun y hy=>h y (by cases hi<;>simp at hy ⊢;simp [hy])
  have h4 : ∀ y∈mx,ρ y=ρ' y:=fun y hy=>h y (by cases mx<;>simp at hy ⊢;simp [hy])
  have XG : ∀ (y:Option Operand),(∀ z∈y,ρ z=ρ' z)→(y.map fun x=>(strip p (ρ x)).1)=(y.map fun x=>(strip p (ρ' x)).1)∧(y.map fun x=>(strip p (ρ x)).2)=(y.map fun x=>(strip p (ρ' x)).2):=by
   intro y hy
   cases y with
   | none=>exact ⟨rfl,rfl⟩
   | some z=>simp [hy z (by simp)]
  rw [h1,(XG lo h2).1,(XG lo h2).2,(XG hi h3).1,(XG hi h3).2,(XG mx h4).1,(XG mx h4).2]
 case fieldAddr t x k=>rw [h]
 case field t x k=>rw [h]
 case indexAddr t x i=>rw [h.1,h.2]
 case index t x i=>rw [h.1,h.2]
 case extract x k=>rw [h]
 case makeFunc fn first captured =>
  obtain ⟨h1,h2⟩:=hargs captured.toList (fun x hx=>h x (by simpa using .inr (by simpa using hx)))
  rw [h1,h2]
 case lookup t x i ok=>rw [h.1,h.2]
 case range t x=>rw [h]
 case next x s=>rw [h]
 case call c =>
  obtain ⟨callee,kH,ats⟩:=c
  cases callee with
  | invoke=>rfl
  | builtin b =>
   obtain ⟨h1,h2⟩:=hargs kH.toList (fun x hx=>h x (by simpa [Call.operands] using hx))
   simp only [h1,h2]
  | value f =>
   obtain ⟨h1,h2⟩:=hargs kH.toList (fun x hx=>h x (by simp [Call.operands];exact .inr (by simpa using hx)))
   have h3:ρ f=ρ' f:=h f (by simp [Call.operands])
   simp only [h1,h2,h3]
theorem Fq {o:Oper} {objs aX:List (Option Ob)} {ρ:Operand→D} {own:List (Nat × Nat)} (hc:cls own o=0) (hρ : ∀ f,ρ (.func f) = .fn (.func f) 0 (fun _=>.junk)) (hown:EC bO own key o) :
  iT p tt bO key objs ctr ρ o=iT p tt bO key aX ctr ρ o∧∀ d u os,iT p tt bO key objs ctr ρ o=some (d,u,os)→u=[]:=by
 obtain ⟨dst,op,ty,pos,after,guard⟩:=o
 have hcall : ∀ f args os,bO.I7 f=0→yS p bO objs ctr key f args os=yS p bO aX ctr key f args os∧∀ d u os',yS p bO objs ctr key f args os=some (d,u,os')→u=[]:=by
  intro f args os h0
  unfold yS
  rw [h0]
  refine ⟨rfl,fun d u os' h=>?_⟩
  simp only at h
  repeat' split at h
  all_goals first | (cases h;done) | (simp only [Option.some.injEq,Prod.mk.injEq] at h;exact h.2.1.symm)
 have XH : ∀ {os:List aU} {r:Option (D × List aU)} {d:D} {u:List (Nat × Option Ob)} {os':List aU},DW os (val r)=some (d,u,os')→u=[]:=by
  intro os r d u os' h
  obtain ⟨_,h2,_⟩:=je h
  exact (nX h2).2
 cases op<;>simp only [cls,reduceCtorEq] at hc<;>simp only [iT,Ho,CK,MR,CO,pJ,Hq,CP,uw,CQ,lU,pK,uy,zk,CR,Hr,Ht,wG,qW,CS,qX,CU,qY,CW,wH,Ba]
 case move x=>exact ⟨trivial,fun d u os h=>by simp at h;exact h.2.1⟩
 case assign x=>exact ⟨trivial,fun d u os h=>by simp at h;exact h.2.1⟩
 case pick c a b=>refine ⟨trivial,fun d u os h=>?_⟩;split at h<;>simp at h;exact h.2.1
 case build t parts =>
  refine ⟨trivial,fun d u os h=>?_⟩
  repeat' split at h
  all_goals first | cases h;done | (simp only [Option.some.injEq,Prod.mk.injEq] at h;exact h.2.1.symm)
 case load t x=>split at hc<;>cases hc
 case nilCheck x=>refine ⟨trivial,fun d u os h=>?_⟩;split at h<;>simp at h<;>exact h.2.1
 case binOp op xt x y yt =>
  refine ⟨trivial,fun d u os h=>?_⟩
  split at h
  · cases hn:adi op (d9 tt xt) (strip p (ρ x)).1 with
    | none=>rw [hn] at h;cases h
    | some z=>rw [hn] at h;simp only [Option.map_some,Option.some.injEq,Prod.mk.injEq] at h;exact h.2.1.symm
  · rcases RV h with h | h
    · split at h<;>exact XH h
    · exact h
 case makeInterface t x =>
  refine ⟨trivial,fun d u os h=>?_⟩
  split at h
  · split at h
    · cases h
    · cases h;rfl
  · rcases RV h with h | h
    · cases h
    · exact h
 case makeFunc fn first captured =>
  refine ⟨trivial,fun d u os h=>?_⟩
  split at h
  · simp only [Option.some.injEq,Prod.mk.injEq] at h;exact h.2.1.symm
  · cases h
 case lookup t x i ok =>
  refine ⟨trivial,fun d u os h=>?_⟩
  repeat' split at h
  all_goals first | cases h;done | (simp only [Option.some.injEq,Prod.mk.injEq] at h;exact h.2.1.symm)
 case unOp op xt x=>refine ⟨trivial,fun d u os h=>?_⟩;split at h<;>simp at h<;>exact h.2.1
 case convert ut t x =>
  have hut:Nat.beq ut t=false:=by
   cases hb:Nat.beq ut t with
   | false=>rfl
   | true=>rw [hb,if_pos rfl] at hc;cases hc
  simp only [hut,Bool.false_eq_true,if_false]
  refine ⟨trivial,fun d u os h=>?_⟩
  repeat' split at h
  all_goals first | cases h;done | (simp only [Option.some.injEq,Prod.mk.injEq] at h;exact h.2.1.symm)
 case slice t x lo hi mx =>
  refine ⟨trivial,fun d u os h=>(RV h).elim (fun h=>?_) id⟩
  split at h
  · exact XH h
  · cases h
 case fieldAddr t x k =>
  refine ⟨trivial,fun d u os h=>(RV h).elim (fun h=>?_) id⟩
  split at h
  · exact XH h
  · cases h
 case field t x k =>
  refine ⟨trivial,fun d u os h=>?_⟩
  repeat' split at h
  all_goals first | exact XH h | cases h
 case indexAddr t x i =>
  refine ⟨trivial,fun d u os h=>(RV h).elim (fun h=>?_) id⟩
  split at h
  · exact XH h
  · cases h
 case index t x i =>
  refine ⟨trivial,fun d u os h=>(RV h).elim (fun h=>?_) id⟩
  repeat' split at h
  all_goals first | exact XH h | cases h;done | (simp only [Option.some.injEq,Prod.mk.injEq] at h;exact h.2.1.symm)
 case extract x k =>
  refine ⟨trivial,fun d u os h=>?_⟩
  repeat' split at h
  all_goals first | cases h;done | (simp only [Option.some.injEq,Prod.mk.injEq] at h;exact h.2.1.symm)
 case call c =>
  obtain ⟨callee,kH,ats⟩:=c
  cases callee with
  | invoke=>simp at hc
  | value f =>
   cases f with
   | func f =>
    have hk:=(hown _ rfl).1 f rfl
    have h0:bO.I7 f=0:=by
     rw [← hk]
     simp only at hc
     split at hc
     · assumption
     all_goals cases hc
    simp only [hρ,strip,yT]
    exact hcall _ _ _ h0
   | tmp x =>
    simp only at hc
    split at hc
    · rename_i d
      have h7:=(hown _ rfl).2 x d rfl rfl (by
       cases hb:Nat.beq (pE own (d+d+1)) 7 with
       | true=>rfl
       | false=>rw [hb] at hc;cases hc)
      have hv : ∀ f args os,yT p bO objs ctr key (.tmp x) f args os=yT p bO aX ctr key (.tmp x) f args os∧∀ d u os',yT p bO objs ctr key (.tmp x) f args os=some (d,u,os')→u=[]:=by
       intro f args os
       simp only [yT,h7,if_true]
       refine ⟨trivial,fun d u os' h=>?_⟩
       unfold V7 at h
       repeat' split at h
       all_goals first | (cases h;done) | (simp only [Option.some.injEq,Prod.mk.injEq] at h;exact h.2.1.symm)
      dsimp only
      repeat' split
      all_goals first | exact hv _ _ _ | exact ⟨rfl,fun d u os h=>by cases h⟩
    · cases hc
   | _=>simp at hc
  | builtin b =>
   have hb:b≠.append∧b≠.copy:=by
    constructor
    · intro hb;subst hb;simp only at hc;split at hc<;>cases hc
    · intro hb;subst hb;simp at hc
   have key : ∀ owned args,lV p tt objs ctr key owned b ats.toList args=lV p tt aX ctr key owned b ats.toList args∧∀ d u os,lV p tt objs ctr key owned b ats.toList args=some (d,u,os)→u=[]:=by
    intro owned args
    unfold lV
    split<;>first | exact absurd rfl hb.1 | exact absurd rfl hb.2 | skip
    all_goals
     refine ⟨rfl,fun d u os h=>?_⟩
     repeat' split at h
     all_goals first | cases h;done | (simp only [Option.some.injEq,Prod.mk.injEq] at h;exact h.2.1.symm)
   refine ⟨by simp only [(key _ _).1],fun d u os h=>?_⟩
   replace h:=NV h
   obtain ⟨os2,h2,_⟩:=je h
   exact (key _ _).2 _ _ _ h2
 case typeAssert x xT t ok =>
  refine ⟨trivial,fun d u os h=>?_⟩
  repeat' split at h
  all_goals cases h
  all_goals rfl
 all_goals exact ⟨trivial,fun d u os h=>by cases h⟩
theorem Tq {p:Pr} {objs:List (Option Ob)} {ctr key sz bytes:Nat} {owned:Bool} {y:D} : qz p objs ctr key sz bytes owned .cO y=(match sM p objs sz y with
 | none=>none
 | some (m,h,os)=>match objs[key]? with
  | some none=>some (.vec key ctr sz 0 m,[(key,some (.arr ctr sz m false h))],os++[aU.grow bytes m])
  | _=>none):=rfl
theorem Bc {o:Oper} {objs:List (Option Ob)} {ρ:Operand→D} {own:List (Nat × Nat)} (hc:cls own o=2) (apa : ∀ v,ρ (.const v)=wO v) (hρ : ∀ f,ρ (.func f) = .fn (.func f) 0 (fun _=>.junk)) (hown:EC bO own key o)
  {d:D} {u:List (Nat × Option Ob)} {os:List aU} (he:iT p tt bO key objs ctr ρ o=some (d,u,os)) :
  (u=[]∧∀ aX:List (Option Ob),iT p tt bO key aX ctr ρ o=some (d,u,os))∨∃ ob,u=[(key,some ob)]∧ob.gen=ctr∧objs[key]? = some none∧∀ aX:List (Option Ob),aX[key]? = some none→iT p tt bO key aX ctr ρ o=some (d,u,os):=by
 have hnew : ∀ {dd:D} {ob:Ob} {oo:List aU},sN objs key dd ob oo=some (d,u,os)→ob.gen=ctr →
   ∃ ob,u=[(key,some ob)]∧ob.gen=ctr∧objs[key]? = some none∧∀ aX:List (Option Ob),aX[key]? = some none→sN aX key dd ob oo=some (d,u,os)∧sN objs key dd ob oo=sN objs key dd ob oo:=by
  intro dd ob oo h hg
  obtain ⟨h1,rfl,rfl,rfl⟩:=sW h
  exact ⟨ob,rfl,hg,h1,fun aX h'=>⟨by simp [sN,h'],rfl⟩⟩
 have hnew2 : ∀ {dd:D} {ob:Ob} {oo:List aU},sN objs key dd ob oo=some (d,u,os)→ob.gen=ctr →
   (∃ ob,u=[(key,some ob)]∧ob.gen=ctr∧objs[key]? = some none)∧∀ aX:List (Option Ob),aX[key]? = some none→sN aX key dd ob oo=some (d,u,os):=by
  intro dd ob oo h hg
  obtain ⟨h1,rfl,rfl,rfl⟩:=sW h
  exact ⟨⟨ob,rfl,hg,h1⟩,fun aX h'=>by simp [sN,h']⟩
 obtain ⟨dst,op,ty,pos,after,guard⟩:=o
 cases op<;>simp only [cls,reduceCtorEq,Nat.reduceEqDiff] at hc<;>simp only [iT,Ho,CK,MR,CO,pJ,Hq,CP,uw,CQ,lU,pK,uy,zk,CR,Hr,Ht,wG,qW,CS,qX,CU,qY,CW,wH,Ba] at he ⊢
 case load t x=>split at hc<;>cases hc
 case convert u t x=>split at hc<;>cases hc
 case alloc t =>
  split at he
  · rename_i ti ht
    split at he
    · rename_i z hz
      obtain ⟨⟨ob,h1,h2,h3⟩,h4⟩:=hnew2 he rfl
      exact .inr ⟨ob,h1,h2,h3,fun aX h'=>by simpa only [ht,hz] using h4 aX h'⟩
    · cases he
  · cases he
 case box t x =>
  split at he
  · rename_i ti ht
    split at he
    · rename_i ds hds
      obtain ⟨⟨ob,h1,h2,h3⟩,h4⟩:=hnew2 he rfl
      exact .inr ⟨ob,h1,h2,h3,fun aX h'=>by simpa only [ht,hds] using h4 aX h'⟩
    · cases he
  · cases he
 case range t x =>
  split at he
  · rename_i ti ht
    split at he
    · rename_i b hk e1
      obtain ⟨⟨ob,h1,h2,h3⟩,h4⟩:=hnew2 he rfl
      exact .inr ⟨ob,h1,h2,h3,fun aX h'=>by simpa only [ht,hk,e1] using h4 aX h'⟩
    · cases he
  · cases he
 case buildSlice t len parts =>
  split at he
  · rename_i ti ht
    split at he
    · rename_i e hk
      split at he
      · rename_i te hte
        split at he
        · rename_i z hz
          split at he
          · rename_i cs hcs
            split at he
            · rename_i hle
              unfold XI at he
              split at he
              · rename_i afW
                simp only [Option.some.injEq,Prod.mk.injEq] at he
                obtain ⟨rfl,rfl,rfl⟩:=he
                exact .inl ⟨rfl,fun aX=>by simp only [ht,hk,hte,hz,hcs,hle,if_true,XI,afW]⟩
              · rename_i afW
                obtain ⟨⟨ob,h1,h2,h3⟩,h4⟩:=hnew2 he rfl
                exact .inr ⟨ob,h1,h2,h3,fun aX h'=>by simpa only [ht,hk,hte,hz,hcs,hle,if_true,XI,afW,Bool.false_eq_true,if_false] using h4 aX h'⟩
            · cases he
          · cases he
        · cases he
      · cases he
    · cases he
  · cases he
 case makeSlice t l c =>
  split at he
  · rename_i ti ht
    split at he
    · rename_i e hk
      split at he
      · rename_i te hte
        split at he
        · rename_i z k1 n1 k2 n2 hz e1 e2
          split at he
          · cases he
          · rename_i hb
            obtain ⟨⟨ob,h1,h2,h3⟩,h4⟩:=hnew2 he rfl
            refine .inr ⟨ob,h1,h2,h3,fun aX h'=>?_⟩
            have:=h4 aX h'
            rw [if_neg hb]
            exact this
        · cases he
      · cases he
    · cases he
  · cases he
 case call c =>
  obtain ⟨callee,kH,ats⟩:=c
  cases callee with
  | invoke=>simp at hc
  | builtin b =>
   cases b<;>(try simp at hc;done)
   case append =>
    have hn:QL ⟨.builtin .append,kH,ats⟩=true:=by
     simp only at hc
     split at hc
     · assumption
     · cases hc
    obtain ⟨cl⟩:=kH
    have hx : ∃ r,cl = .const (.slice none 0 0) :: r:=by
     match cl,hn with
     | x :: r,hn =>
      simp only [QL,V8] at hn
      split at hn
      · exact ⟨r,rfl⟩
      · cases hn
    obtain ⟨r,rfl⟩:=hx
    simp only [hn,Bool.true_and] at he ⊢
    have hcd:ρ (.const (.slice none 0 0)) = .cO:=apa _
    split at he
    · cases he
    rename_i hv
    have hv:QM (List.map (fun x=>(strip p (ρ x)).1) (Operand.const (.slice none 0 0) :: r))=false:=by simpa using hv
    simp only [hv,Bool.false_eq_true,if_false] at he ⊢
    obtain ⟨os2,h2,rfl⟩:=je he
    simp only [List.map_cons,hcd,strip] at h2 ⊢
    match r,h2,hv with
    | [y],h2,hv =>
     simp only [List.map_cons,List.map_nil,hcd,strip,QM] at h2 hv ⊢
     generalize hy:(strip p (ρ y)).1=yd at h2 hv ⊢
     unfold lV at h2
     simp only at h2
     split at h2
     · rename_i t u afX
       split at h2
       · rename_i hps
         split at h2
         · rename_i ti ht
           split at h2
           · rename_i e hk
             split at h2
             · rename_i te hte
               split at h2
               · rename_i z hz
                 split at h2
                 · cases h2
                 · rename_i hsz
                   replace h2:=(Tq ..).symm.trans h2
                   split at h2
                   · cases h2
                   · rename_i mm hh oo hsrc
                     split at h2
                     · rename_i hkk
                       simp only [Option.some.injEq,Prod.mk.injEq] at h2
                       obtain ⟨rfl,rfl,rfl⟩:=h2
                       refine .inr ⟨_,rfl,rfl,hkk,fun aX h'=>?_⟩
                       have hs':sM p aX te.size yd=some (mm,hh,oo):=by
                        cases yd<;>first | exact hsrc | (simp [QM] at hv;done) | (rename_i x;cases x<;>exact hsrc)
                       simp only [lV,afX,hps,ht,hk,hte,hz,hsz,if_true,if_false,Tq,hs',h',Bool.false_eq_true,DW,Option.map_some]
                     · cases h2
               · cases h2
             · cases h2
           · cases h2
         · cases h2
       · cases h2
     · cases h2
    | [],h2,_=>simp [lV] at h2
    | _ :: _ :: _,h2,_=>simp [lV] at h2
  | value f =>
   cases f with
   | func f =>
    have hk:=(hown _ rfl).1 f rfl
    have h1:bO.I7 f=1:=by
     rw [← hk]
     simp only at hc
     split at hc
     · cases hc
     · assumption
     all_goals cases hc
    simp only [hρ,strip] at he ⊢
    simp only [yT] at he ⊢
    unfold yS at he ⊢
    rw [h1] at he ⊢
    simp only at he ⊢
    split at he
    · rename_i sz n tg g hfn
      obtain ⟨⟨ob,q1,q2,q3⟩,q4⟩:=hnew2 he rfl
      exact .inr ⟨ob,q1,q2,q3,fun aX h'=>by simpa only [hfn] using q4 aX h'⟩
    · rename_i hfn
      obtain ⟨⟨ob,q1,q2,q3⟩,q4⟩:=hnew2 he rfl
      exact .inr ⟨ob,q1,q2,q3,fun aX h'=>by simpa only [hfn] using q4 aX h'⟩
    · cases he
   | tmp x =>
    exfalso
    simp only at hc
    repeat' split at hc
    all_goals cases hc
   | _=>simp at hc
end
end Go.Vx
