/- A loop whose rounds are told: one after the other, no measure. -/
import Derived.LoopN
import Derived.Test.YtmkigppfdmghnaaGreatDoorVxPart
set_option linter.all false
namespace Go.Vx
variable {P:Program}
def TrN (P:Program) (c:Code) (Q:Exit→St→Prop):Nat→St→Prop
 | 0,_=>False
 | n+1,st=>Tr P c (thenQ (TrN P c Q n) Q) st
theorem TrN.ge {c:Code} {Q:Exit→St→Prop} {st st':St} : ∀ {n:Nat},GeSt P st st'→TrN P c Q n st'→TrN P c Q n st
 | 0,_,h=>h.elim
 | _+1,hg,h=>Tr.ge hg h
theorem Tr.rounds {c:Code} {Q:Exit→St→Prop} {st:St} (n:Nat) (h:TrN P c Q n st):Tr P (.loop c) Q st:=by
 intro B0 h0 I0 L a w K R hK
 refine wp_loop_rounds n ?_
 revert st a w
 induction n with
 | zero=>intro st h;exact h.elim
 | succ n ih =>
  intro st h a w R
  rw [rounds_succ]
  refine h B0 h0 I0 L a w _ R fun ex st' a' w' q R'=>?_
  cases ex with
  | normal=>exact ih q a' w' R'
  | _=>exact hK _ st' a' w' q R'
theorem TrN.cut {α γ:Type} {A:Option (Fl α γ)} {k:α→Option γ} {r:γ} (h:cutO A k=some r) {c:Code} {Q:Exit→St→Prop} {st:St} {n:Nat} (M:α→Hid→St) (ok:α→Hid→Prop)
  (hB : ∀ x t,ok x t→k x=some r→TrN P c Q n (M x t)) (hA : ∀ f,A=some f→Tr P c (stepQ P M ok r Q f) st):TrN P c Q (n+1) st:=by
 obtain ⟨f,hf,hk⟩:=cutO_some h
 refine (hA f hf).mono fun ex st' q=>?_
 cases f with
 | go x =>
  cases ex with
  | normal =>
   obtain ⟨t,h1,h2⟩:=q
   exact TrN.ge h2 (hB x t h1 hk)
  | _=>exact q.elim
 | out r' =>
  cases hk
  cases ex with
  | normal=>exact q.elim
  | _=>exact q rfl
theorem LeD.cndT {b:Bool} {d e x:D} (hb:b=true) (h:LeD d x):LeD (.cnd b d e) x:=fun _ _ _ _ _ y hy=>h _ _ _ _ _ y (hy.1 hb)
theorem LeD.cndF {b:Bool} {d e x:D} (hb:b=false) (h:LeD e x):LeD (.cnd b d e) x:=fun _ _ _ _ _ y hy=>h _ _ _ _ _ y (hy.2 hb)
theorem addSubL (a b:Int):a+b-a=b:=by omega
end Go.Vx
