/- A region in parts: its first operations, then the rest. -/
import Derived.Test.YtckmalogclklmaaGreatDoorVxNat
import Derived.LoopN
set_option linter.all false
section
namespace Go.Vx
def nQ (p:Pr) (cx:Cx) (ops:Array Oper) (draw:Bool) (a:Nat) (Q:St→Prop) (st:St):Prop :=
 match iE p cx.tt cx.bO cx.m ops (ops.toList.drop a) st with
 | none=>False
 | some (st',os)=>conj p (os++(if draw then [aU.dr ops (eU cx.bO cx.m ops.toList) []] else [])) (Q { st' with slots:=tidy st'.slots,ctr:=p.NZ st'.ctr })
def Vh (p:Pr) (cx:Cx) (ops:Array Oper) (a n:Nat) (N:St→Prop) (st:St):Prop :=
 match iE p cx.tt cx.bO cx.m ops ((ops.toList.drop a).take n) st with
 | none=>False
 | some (st',os)=>conj p os (N st')
def Vg (p:Pr) (cx:Cx) (id:Nat) (ops:Array Oper) (n:Nat) (N:St→Prop) (st:St):Prop :=
 match nY p (cx.gh id) st with
 | none=>False
 | some (st0,os0)=>match iE p cx.tt cx.bO cx.m ops (ops.toList.take n) st0 with
  | none=>False
  | some (st',os)=>conj p (os0++os) (N st')
theorem Df {p:Pr} {tt:TT} {bO:sU} {m:Nat} {ops:Array Oper} : ∀ (a b:List Oper) (st:St),iE p tt bO m ops (a++b) st=match iE p tt bO m ops a st with
  | none=>none
  | some (s1,o1)=>match iE p tt bO m ops b s1 with
   | none=>none
   | some (s2,o2)=>some (s2,o1++o2)
 | [],b,st=>by
  simp only [List.nil_append,iE]
  cases iE p tt bO m ops b st with
  | none=>rfl
  | some x=>rfl
 | o :: r,b,st=>by
  simp only [List.cons_append,iE]
  cases qJ p tt bO m ops o st with
  | none=>rfl
  | some x =>
   obtain ⟨s1,o1⟩:=x
   simp only [Df r b s1]
   cases iE p tt bO m ops r s1 with
   | none=>rfl
   | some y =>
    obtain ⟨s2,o2⟩:=y
    simp only
    cases iE p tt bO m ops b s2 with
    | none=>rfl
    | some z=>simp [List.append_assoc]
theorem abr {p:Pr} {a b:List aU} {q:Prop} (h:conj p a (conj p b q)):conj p (a++b) q:=by
 induction a with
 | nil=>exact h
 | cons x r ih=>exact ⟨h.1,ih h.2⟩
theorem agF {p:Pr} {os:List aU} (h : ∀ x∈os,x.run p):conj p os True:=by
 induction os with
 | nil=>trivial
 | cons x r ih=>exact ⟨h x (List.mem_cons_self ..),ih (fun y hy=>h y (List.mem_cons_of_mem _ hy))⟩
theorem afc {p:Pr} {cx:Cx} {ops:Array Oper} {draw:Bool} {a n:Nat} {Q:St→Prop} {st:St} (h:Vh p cx ops a n (nQ p cx ops draw (a+n) Q) st):nQ p cx ops draw a Q st:=by
 unfold Vh at h
 unfold nQ at *
 have e:ops.toList.drop a=(ops.toList.drop a).take n++ops.toList.drop (a+n):=by
  rw [← List.drop_drop];exact (List.take_append_drop n _).symm
 rw [e,Df]
 split at h
 · exact h.elim
 · rename_i s1 o1 h1
   obtain ⟨h2,h3⟩:=oL h
   split at h3
   · exact h3.elim
   · rename_i s2 o2 h4
     (try simp only [h4])
     rw [List.append_assoc]
     exact abr (FN (agF h2) h3)
section
variable {P:Program}
theorem Tr.parts {cx:Cx} (hT:gH P cx.tt) (hP:P.follows .mixedOrders=true) (n:Nat) {id:Nat} {ops:Array Oper} {draw:Bool} {Q:Exit→St→Prop} {st:St}
  (h : ∀ N,N=nQ (std P) cx ops draw n (Q .normal)→Vg (std P) cx id ops n N st):Tr P (.region id ops draw) Q st:=by
 have h:=h _ rfl
 unfold Vg at h
 split at h
 · exact h.elim
 · rename_i st0 os0 h0
   split at h
   · exact h.elim
   · rename_i st1 os1 h1
     obtain ⟨h2,h3⟩:=oL h
     unfold nQ at h3
     split at h3
     · exact h3.elim
     · rename_i st2 os2 h4
       obtain ⟨h5,h6⟩:=oL h3
       refine Lh hT hP (os:=os0++(os1++os2)++(if draw then [aU.dr ops (eU cx.bO cx.m ops.toList) (Q8 (std P) cx ops st2)] else [])) ?_ (fun q hq=>?_) h6
       · unfold M9
         rw [h0]
         simp only
         have e:ops.toList=ops.toList.take n++ops.toList.drop n:=(List.take_append_drop n _).symm
         have e2:iE (std P) cx.tt cx.bO cx.m ops ops.toList st0=some (st2,os1++os2):=by
          rw [e,Df,h1];simp only [h4]
         rw [e2]
       · rcases List.mem_append.1 hq with hq | hq
         · rcases List.mem_append.1 hq with hq | hq
           · exact h2 q (List.mem_append_left _ hq)
           · rcases List.mem_append.1 hq with hq | hq
             · exact h2 q (List.mem_append_right _ hq)
             · exact h5 q (List.mem_append_left _ hq)
         · cases draw with
           | false=>cases hq
           | true =>
            rw [if_pos rfl] at hq
            obtain rfl:=List.mem_singleton.1 hq
            exact afd (h5 (.dr ops (eU cx.bO cx.m ops.toList) []) (List.mem_append_right _ (by rw [if_pos rfl];exact List.mem_singleton.2 rfl)))
theorem nQ.more {cx:Cx} (n:Nat) {ops:Array Oper} {draw:Bool} {a:Nat} {Q:St→Prop} {st:St} (h : ∀ N,N=nQ (std P) cx ops draw (a+n) Q→Vh (std P) cx ops a n N st):nQ (std P) cx ops draw a Q st:=afc (h _ rfl)
theorem nQ.last {cx:Cx} {ops:Array Oper} {draw:Bool} {a:Nat} {Q:St→Prop} {st:St} (h : ∀ N,N=Q→nQ (std P) cx ops draw a N st):nQ (std P) cx ops draw a Q st:=h _ rfl
end
attribute [irreducible] nQ Vh Vg
end Go.Vx
end
section
namespace Go.Vx
variable {P:Program}
def N7 (P:Program) (c:Code) (Q:Exit→St→Prop):Nat→St→Prop
 | 0,_=>False
 | n+1,st=>Tr P c (qE (N7 P c Q n) Q) st
theorem N7.ge {c:Code} {Q:Exit→St→Prop} {st st':St} : ∀ {n:Nat},iR P st st'→N7 P c Q n st'→N7 P c Q n st
 | 0,_,h=>h.elim
 | _+1,hg,h=>Tr.ge hg h
theorem Tr.rounds {c:Code} {Q:Exit→St→Prop} {st:St} (n:Nat) (h:N7 P c Q n st):Tr P (.loop c) Q st:=by
 intro B0 h0 I0 L a w K R hK
 refine wp_loop_rounds n ?_
 revert st a w
 induction n with
 | zero=>intro st h;exact h.elim
 | succ n ih =>
  intro st h a w R
  rw [rounds_succ]
  refine h B0 h0 I0 L a w _ R fun ex st' a' w' q R'=>?_
  cases ex with
  | normal=>exact ih q a' w' R'
  | _=>exact hK _ st' a' w' q R'
theorem N7.cut {α γ:Type} {A:Option (Fl α γ)} {k:α→Option γ} {r:γ} (h:aM A k=some r) {c:Code} {Q:Exit→St→Prop} {st:St} {n:Nat} (M:α→Hid→St) (ok:α→Hid→Prop)
  (hB : ∀ x t,ok x t→k x=some r→N7 P c Q n (M x t)) (hA : ∀ f,A=some f→Tr P c (adO P M ok r Q f) st):N7 P c Q (n+1) st:=by
 obtain ⟨f,hf,hk⟩:=zI h
 refine (hA f hf).mono fun ex st' q=>?_
 cases f with
 | go x =>
  cases ex with
  | normal =>
   obtain ⟨t,h1,h2⟩:=q
   exact N7.ge h2 (hB x t h1 hk)
  | _=>exact q.elim
 | out r' =>
  cases hk
  cases ex with
  | normal=>exact q.elim
  | _=>exact q rfl
theorem aZ.afn {b:Bool} {d e x:D} (hb:b=true) (h:aZ d x):aZ (.cnd b d e) x:=fun _ _ _ _ _ y hy=>h _ _ _ _ _ y (hy.1 hb)
theorem aZ.afo {b:Bool} {d e x:D} (hb:b=false) (h:aZ e x):aZ (.cnd b d e) x:=fun _ _ _ _ _ y hy=>h _ _ _ _ _ y (hy.2 hb)
theorem BQ (a b:Int):a+b-a=b:=by omega
end Go.Vx
end
