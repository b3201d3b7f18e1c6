/- A region in parts: its first operations, then the rest. -/
import Derived.Test.YtmkigppfdmghnaaGreatDoorVxNat
set_option linter.all false
namespace Go.Vx
def wpEnd (p:Pr) (cx:Cx) (ops:Array Oper) (draw:Bool) (a:Nat) (Q:St→Prop) (st:St):Prop :=
 match evSteps p cx.tt cx.orc cx.m ops (ops.toList.drop a) st with
 | none=>False
 | some (st',os)=>conj (os++(if draw then [p.dr ops (owners cx.orc cx.m ops.toList) []] else [])) (Q { st' with slots:=tidy st'.slots,ctr:=p.nxt st'.ctr })
def wpMid (p:Pr) (cx:Cx) (ops:Array Oper) (a n:Nat) (N:St→Prop) (st:St):Prop :=
 match evSteps p cx.tt cx.orc cx.m ops ((ops.toList.drop a).take n) st with
 | none=>False
 | some (st',os)=>conj os (N st')
def wpHead (p:Pr) (cx:Cx) (id:Nat) (ops:Array Oper) (n:Nat) (N:St→Prop) (st:St):Prop :=
 match evGh p (cx.gh id) st with
 | none=>False
 | some (st0,os0)=>match evSteps p cx.tt cx.orc cx.m ops (ops.toList.take n) st0 with
  | none=>False
  | some (st',os)=>conj (os0++os) (N st')
theorem evSteps_append {p:Pr} {tt:TT} {orc:Orc} {m:Nat} {ops:Array Oper} : ∀ (a b:List Oper) (st:St),evSteps p tt orc m ops (a++b) st=match evSteps p tt orc m ops a st with
  | none=>none
  | some (s1,o1)=>match evSteps p tt orc m ops b s1 with
   | none=>none
   | some (s2,o2)=>some (s2,o1++o2)
 | [],b,st=>by
  simp only [List.nil_append,evSteps]
  cases evSteps p tt orc m ops b st with
  | none=>rfl
  | some x=>rfl
 | o :: r,b,st=>by
  simp only [List.cons_append,evSteps]
  cases evStep p tt orc m ops o st with
  | none=>rfl
  | some x =>
   obtain ⟨s1,o1⟩:=x
   simp only [evSteps_append r b s1]
   cases evSteps p tt orc m ops r s1 with
   | none=>rfl
   | some y =>
    obtain ⟨s2,o2⟩:=y
    simp only
    cases evSteps p tt orc m ops b s2 with
    | none=>rfl
    | some z=>simp [List.append_assoc]
section
variable {P:Program}
theorem Tr.parts {cx:Cx} (hT:TTok P cx.tt) (hP:P.follows .mixedOrders=true) (n:Nat) {id:Nat} {ops:Array Oper} {draw:Bool} {Q:Exit→St→Prop} {st:St}
  (h : ∀ N,N=wpEnd (std P) cx ops draw n (Q .normal)→wpHead (std P) cx id ops n N st):Tr P (.region id ops draw) Q st:=by
 have h:=h _ rfl
 unfold wpHead at h
 split at h
 · exact h.elim
 · rename_i st0 os0 h0
   split at h
   · exact h.elim
   · rename_i st1 os1 h1
     obtain ⟨h2,h3⟩:=conj_spec h
     unfold wpEnd at h3
     split at h3
     · exact h3.elim
     · rename_i st2 os2 h4
       obtain ⟨h5,h6⟩:=conj_spec h3
       refine evRegion_sound hT hP (os:=os0++(os1++os2)++(if draw then [(std P).dr ops (owners cx.orc cx.m ops.toList) (farRun (std P) cx ops st2)] else [])) ?_ (fun q hq=>?_) h6
       · unfold evRegion
         rw [h0]
         simp only
         have e:ops.toList=ops.toList.take n++ops.toList.drop n:=(List.take_append_drop n _).symm
         have e2:evSteps (std P) cx.tt cx.orc cx.m ops ops.toList st0=some (st2,os1++os2):=by
          rw [e,evSteps_append,h1];simp only [h4]
         rw [e2]
       · rcases List.mem_append.1 hq with hq | hq
         · rcases List.mem_append.1 hq with hq | hq
           · exact h2 q (List.mem_append_left _ hq)
           · rcases List.mem_append.1 hq with hq | hq
             · exact h2 q (List.mem_append_right _ hq)
             · exact h5 q (List.mem_append_left _ hq)
         · cases draw with
           | false=>cases hq
           | true =>
            rw [if_pos rfl] at hq
            obtain rfl:=List.mem_singleton.1 hq
            exact drOk_mono (h5 _ (List.mem_append_right _ (by rw [if_pos rfl];exact List.mem_singleton.2 rfl)))
theorem wpEnd.last {cx:Cx} {ops:Array Oper} {draw:Bool} {a:Nat} {Q:St→Prop} {st:St} (h : ∀ N,N=Q→wpEnd (std P) cx ops draw a N st):wpEnd (std P) cx ops draw a Q st:=h _ rfl
end
attribute [irreducible] wpEnd wpMid wpHead
end Go.Vx
