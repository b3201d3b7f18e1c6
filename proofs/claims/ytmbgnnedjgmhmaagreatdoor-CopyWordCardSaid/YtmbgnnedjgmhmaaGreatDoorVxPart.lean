/- A region in parts: its first operations, then the rest. -/
import Derived.Test.YtmbgnnedjgmhmaaGreatDoorVxNat
set_option linter.all false
namespace Go.Vx
def Z2u (p:Pr) (cx:Cx) (ops:Array Oper) (draw:Bool) (a:Nat) (Q:St→Prop) (st:St):Prop :=
 match Qa p cx.tt cx.orc cx.m ops (ops.toList.drop a) st with
 | none=>False
 | some (st',os)=>conj (os++(if draw then [p.dr ops (Qy cx.orc ops.toList)] else [])) (Q { st' with slots:=tidy st'.slots,ctr:=p.nxt st'.ctr })
def wpMid (p:Pr) (cx:Cx) (ops:Array Oper) (a n:Nat) (N:St→Prop) (st:St):Prop :=
 match Qa p cx.tt cx.orc cx.m ops ((ops.toList.drop a).take n) st with
 | none=>False
 | some (st',os)=>conj os (N st')
def wpHead (p:Pr) (cx:Cx) (id:Nat) (ops:Array Oper) (n:Nat) (N:St→Prop) (st:St):Prop :=
 match evGh p (cx.gh id) st with
 | none=>False
 | some (st0,os0)=>match Qa p cx.tt cx.orc cx.m ops (ops.toList.take n) st0 with
  | none=>False
  | some (st',os)=>conj (os0++os) (N st')
theorem Z5q {p:Pr} {tt:TT} {orc:Orc} {m:Nat} {ops:Array Oper} : ∀ (a b:List Oper) (st:St),Qa p tt orc m ops (a++b) st=match Qa p tt orc m ops a st with
  | none=>none
  | some (s1,o1)=>match Qa p tt orc m ops b s1 with
   | none=>none
   | some (s2,o2)=>some (s2,o1++o2)
 | [],b,st=>by
  simp only [List.nil_append,Qa]
  cases Qa p tt orc m ops b st with
  | none=>rfl
  | some x=>rfl
 | o :: r,b,st=>by
  simp only [List.cons_append,Qa]
  cases Z42 p tt orc m ops o st with
  | none=>rfl
  | some x =>
   obtain ⟨s1,o1⟩:=x
   simp only [Z5q r b s1]
   cases Qa p tt orc m ops r s1 with
   | none=>rfl
   | some y =>
    obtain ⟨s2,o2⟩:=y
    simp only
    cases Qa p tt orc m ops b s2 with
    | none=>rfl
    | some z=>simp [List.append_assoc]
theorem conj_append {a b:List Prop} {q:Prop} (h:conj a (conj b q)):conj (a++b) q:=by
 induction a with
 | nil=>exact h
 | cons x r ih=>exact ⟨h.1,ih h.2⟩
theorem conj_all {os:List Prop} (h : ∀ x∈os,x):conj os True:=by
 induction os with
 | nil=>trivial
 | cons x r ih=>exact ⟨h x (List.mem_cons_self ..),ih (fun y hy=>h y (List.mem_cons_of_mem _ hy))⟩
theorem wpMid_end {p:Pr} {cx:Cx} {ops:Array Oper} {draw:Bool} {a n:Nat} {Q:St→Prop} {st:St} (h:wpMid p cx ops a n (Z2u p cx ops draw (a+n) Q) st):Z2u p cx ops draw a Q st:=by
 unfold wpMid at h
 unfold Z2u at *
 have e:ops.toList.drop a=(ops.toList.drop a).take n++ops.toList.drop (a+n):=by
  rw [← List.drop_drop];exact (List.take_append_drop n _).symm
 rw [e,Z5q]
 split at h
 · exact h.elim
 · rename_i s1 o1 h1
   obtain ⟨h2,h3⟩:=Z16 h
   split at h3
   · exact h3.elim
   · rename_i s2 o2 h4
     (try simp only [h4])
     rw [List.append_assoc]
     exact conj_append (conj_of (conj_all h2) h3)
section
variable {P:Program}
theorem Tr.parts {cx:Cx} (hT:Qo P cx.tt) (hP:P.follows .mixedOrders=true) (n:Nat) {id:Nat} {ops:Array Oper} {draw:Bool} {Q:Exit→St→Prop} {st:St}
  (h : ∀ N,N=Z2u (std P) cx ops draw n (Q .normal)→wpHead (std P) cx id ops n N st):Tr P (.region id ops draw) Q st:=by
 have h:=h _ rfl
 unfold wpHead at h
 split at h
 · exact h.elim
 · rename_i st0 os0 h0
   split at h
   · exact h.elim
   · rename_i st1 os1 h1
     obtain ⟨h2,h3⟩:=Z16 h
     unfold Z2u at h3
     split at h3
     · exact h3.elim
     · rename_i st2 os2 h4
       obtain ⟨h5,h6⟩:=Z16 h3
       refine Z8i hT hP (os:=os0++(os1++os2)++(if draw then [(std P).dr ops (Qy cx.orc ops.toList)] else [])) ?_ (fun q hq=>?_) h6
       · unfold evRegion
         rw [h0]
         simp only
         have e:ops.toList=ops.toList.take n++ops.toList.drop n:=(List.take_append_drop n _).symm
         have e2:Qa (std P) cx.tt cx.orc cx.m ops ops.toList st0=some (st2,os1++os2):=by
          rw [e,Z5q,h1];simp only [h4]
         rw [e2]
       · rcases List.mem_append.1 hq with hq | hq
         · rcases List.mem_append.1 hq with hq | hq
           · exact h2 q (List.mem_append_left _ hq)
           · rcases List.mem_append.1 hq with hq | hq
             · exact h2 q (List.mem_append_right _ hq)
             · exact h5 q (List.mem_append_left _ hq)
         · exact h5 q (List.mem_append_right _ hq)
theorem Z2u.more {cx:Cx} (n:Nat) {ops:Array Oper} {draw:Bool} {a:Nat} {Q:St→Prop} {st:St} (h : ∀ N,N=Z2u (std P) cx ops draw (a+n) Q→wpMid (std P) cx ops a n N st):Z2u (std P) cx ops draw a Q st:=wpMid_end (h _ rfl)
theorem Z2u.last {cx:Cx} {ops:Array Oper} {draw:Bool} {a:Nat} {Q:St→Prop} {st:St} (h : ∀ N,N=Q→Z2u (std P) cx ops draw a N st):Z2u (std P) cx ops draw a Q st:=h _ rfl
end
attribute [irreducible] Z2u wpMid wpHead
end Go.Vx
