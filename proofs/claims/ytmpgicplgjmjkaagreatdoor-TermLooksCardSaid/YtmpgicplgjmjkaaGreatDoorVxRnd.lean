/- A region in parts: its first operations, then the rest. -/
import Derived.Test.YtmpgicplgjmjkaaGreatDoorVxNat
import Derived.LoopN
set_option linter.all false
section
namespace Go.Vx
def VZ(p:Pr)(cx:Cx)(ops:Array Oper)(draw:Bool)(a:Nat)(Q:St->Prop)(st:St):Prop :=
 match kC p cx.tt cx.dB cx.m ops (ops.toList.drop a) st with
 | none=>False
 | some (st',os)=>conj p (os++(if draw then [bC.dr ops (iQ cx.dB cx.m ops.toList) []] else [])) (Q { st' with slots:=tidy st'.slots,ctr:=p.X8 st'.ctr })
def awW(p:Pr)(cx:Cx)(ops:Array Oper)(a n:Nat)(N:St->Prop)(st:St):Prop :=
 match kC p cx.tt cx.dB cx.m ops ((ops.toList.drop a).take n) st with
 | none=>False
 | some (st',os)=>conj p os (N st')
def aj1(p:Pr)(cx:Cx)(id:Nat)(ops:Array Oper)(n:Nat)(N:St->Prop)(st:St):Prop :=
 match uF p (cx.gh id) st with
 | none=>False
 | some (st0,os0)=>match kC p cx.tt cx.dB cx.m ops (ops.toList.take n) st0 with
  | none=>False
  | some (st',os)=>conj p (os0++os) (N st')
theorem Vv{p:Pr}{tt:TT}{dB:zU}{m:Nat}{ops:Array Oper} : ∀ (a b:List Oper) (st:St),kC p tt dB m ops (a++b) st=match kC p tt dB m ops a st with
  | none=>none
  | some (s1,o1)=>match kC p tt dB m ops b s1 with
   | none=>none
   | some (s2,o2)=>some (s2,o1++o2)
 | [],b,st=>by
  simp only[List.nil_append,kC];cases kC p tt dB m ops b st with
  | none=>rfl
  | some x=>rfl
 | o::r,b,st=>by
  simp only[aak,kC];cases xV p tt dB m ops o st with
  | none=>rfl
  | some x=>
   obtain⟨s1,o1⟩:=x;simp only[Vv r b s1];cases kC p tt dB m ops r s1 with
   | none=>rfl
   | some y=>
    obtain⟨s2,o2⟩:=y;simp only;cases kC p tt dB m ops b s2 with
    | none=>rfl
    | some z=>simp[CP]
section
variable {P:Program}
theorem Tr.parts{cx:Cx}(hT:jG P cx.tt)(hP:P.follows .mixedOrders=true)(n:Nat){id:Nat}{ops:Array Oper}{draw:Bool}{Q:Exit->St->Prop}{st:St}
  (h : ∀ N,N=VZ (std P) cx ops draw n (Q .normal)->aj1 (std P) cx id ops n N st):Tr P (.region id ops draw) Q st:=by
 have h:=h _ rfl;unfold aj1 at h;split at h
 . exact h.elim
 rename_i st0 os0 h0;split at h
 . exact h.elim
 rename_i st1 os1 h1;obtain⟨h2,h3⟩:=xX h;unfold VZ at h3;split at h3
 . exact h3.elim
 rename_i st2 os2 h4;obtain⟨h5,h6⟩:=xX h3;refine Vn hT hP (os:=os0++(os1++os2)++(if draw then [bC.dr ops (iQ cx.dB cx.m ops.toList) (ZR (std P) cx ops st2)] else [])) ?_ (λq hq=>?_) h6
 . unfold Xn;rw[h0];simp only;have e:ops.toList=ops.toList.take n++ops.toList.drop n:=(List.take_append_drop n _).symm;have e2:kC (std P) cx.tt cx.dB cx.m ops ops.toList st0=some (st2,os1++os2):=by
    rw[e,Vv,h1];simp only[h4]
   rw[e2]
 rcases CJ.1 hq with hq|hq
 . rcases CJ.1 hq with hq|hq
   . exact h2 q (dW _ hq)
   rcases CJ.1 hq with hq|hq
   . exact h2 q (dR _ hq)
   exact h5 q (dW _ hq)
 cases draw with
 | false=>cases hq
 | true=>
  rw[if_pos rfl] at hq;obtain rfl:=fQ.1 hq;exact aoo (h5 (.dr ops (iQ cx.dB cx.m ops.toList) []) (dR _ (by rw[if_pos rfl];exact fQ.2 rfl)))
theorem VZ.last{cx:Cx}{ops:Array Oper}{draw:Bool}{a:Nat}{Q:St->Prop}{st:St}(h : ∀ N,N=Q->VZ (std P) cx ops draw a N st):VZ (std P) cx ops draw a Q st:=h _ rfl
end
attribute [irreducible] VZ awW aj1
end Go.Vx
end
section
namespace Go.Vx
variable {P:Program}
def X9(P:Program)(c:Code)(Q:Exit->St->Prop):Nat->St->Prop
 | 0,_=>False
 | n+1,st=>Tr P c (Au (X9 P c Q n) Q) st
theorem X9.ge{c:Code}{Q:Exit->St->Prop}{st st':St} : ∀ {n:Nat},AP P st st'->X9 P c Q n st'->X9 P c Q n st
 | 0,_,h=>h.elim
 | _+1,hg,h=>Tr.ge hg h
theorem Tr.rounds{c:Code}{Q:Exit->St->Prop}{st:St}(n:Nat)(h:X9 P c Q n st):Tr P (.loop c) Q st:=by
 intro B0 h0 I0 L a w K R hK;refine wp_loop_rounds n ?_;revert st a w
 induction n with
 | zero=>intro st h;exact h.elim
 | succ n ih=>
  intro st h a w R;rw[rounds_succ];refine h B0 h0 I0 L a w _ R λex st' a' w' q R'=>?_;cases ex with
  | normal=>exact ih q a' w' R'
  | _=>exact hK _ st' a' w' q R'
theorem X9.cut{α γ:Type}{A:Option (Fl α γ)}{k:α->Option γ}{r:γ}(h:aO A k=some r){c:Code}{Q:Exit->St->Prop}{st:St}{n:Nat}(M:α->Hid->St)(ok:α->Hid->Prop)
  (hB : ∀ x t,ok x t->k x=some r->X9 P c Q n (M x t)) (hA : ∀ f,A=some f->Tr P c (amQ P M ok r Q f) st):X9 P c Q (n+1) st:=by
 obtain⟨f,hf,hk⟩:=HZ h;refine(hA f hf).mono λex st' q=>?_;cases f with
 | go x=>
  cases ex with
  | normal=>
   obtain⟨t,h1,h2⟩:=q;exact X9.ge h2 (hB x t h1 hk)
  | _=>exact q.elim
 | out r'=>
  cases hk;cases ex with
  | normal=>exact q.elim
  | _=>exact q rfl
theorem dV.apj{b:Bool}{d e x:D}(hb:b=true)(h:dV d x):dV (.cnd b d e) x:=λ_ _ _ _ _ y hy=>h _ _ _ _ _ y (hy.1 hb)
theorem dV.apk{b:Bool}{d e x:D}(hb:b=false)(h:dV e x):dV (.cnd b d e) x:=λ_ _ _ _ _ y hy=>h _ _ _ _ _ y (hy.2 hb)
theorem ae7(a b:Int):a+b-a=b:=ak
end Go.Vx
end
