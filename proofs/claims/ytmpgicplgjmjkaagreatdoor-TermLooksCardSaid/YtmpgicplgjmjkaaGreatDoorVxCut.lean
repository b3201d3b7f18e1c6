/- Frames that tell what differs from the state they begin at. Conditions: none. -/
import Derived.Test.YtmpgicplgjmjkaaGreatDoorVxRnd
import Derived.ScopeJumps
set_option linter.all false
namespace Go.Vx
variable {P:Program}
structure Fr where
 s:List (Nat×D)
 o:List (Nat×Ob)
 p:Unit->Prop
def Fa(s:List (Nat×D))(o:List (Nat×Ob)):Fr:=⟨s,o,λ_=>True⟩
section
variable {α:Type}
def Xi:Nat->List α->(List α->List α)->List α
 | 0,l,f=>f l
 | _+1,[],_=>[]
 | n+1,d::l,f=>d::Xi n l f
def Xj(x:α):Nat->List α->(List α->List α)->List α
 | 0,l,f=>f l
 | _+1,[],_=>[]
 | n+1,_::l,f=>x::Xj x n l f
def J2(x:α):List (Nat×Nat)->List α->List α
 | [],l=>l
 | (a,b)::r,l=>Xi a l λl=>Xj x b l λl=>J2 x r l
def Lc(y:α):Nat->List α->List α
 | _,[]=>[]
 | 0,_::l=>y::l
 | n+1,d::l=>d::Lc y n l
def inS:List (Nat×Nat)->Nat->Bool
 | [],_=>false
 | (a,b)::r,t=>if t<a then false else if t<a+b then true else inS r (t-a-b)
theorem agH{f:List α->List α}{p:Nat->α->α}(hf : ∀ (l:List α) (t:Nat),(f l)[t]? = (l[t]?).map (p t)) : ∀ (n:Nat) (l:List α) (t:Nat),(Xi n l f)[t]? = (l[t]?).map λd=>if t<n then d else p (t-n) d
 | 0,l,t=>by simp[Xi,hf]
 | n+1,[],t=>by simp[Xi]
 | n+1,d::l,0=>by simp[Xi]
 | n+1,d::l,t+1=>by
  simp only[Xi,rZ,agH hf n l t,Nat.add_lt_add_iff_right,Nat.add_sub_add_right]
theorem agI{x:α}{f:List α->List α}{p:Nat->α->α}(hf : ∀ (l:List α) (t:Nat),(f l)[t]? = (l[t]?).map (p t)) : ∀ (n:Nat) (l:List α) (t:Nat),(Xj x n l f)[t]? = (l[t]?).map λd=>if t<n then x else p (t-n) d
 | 0,l,t=>by simp[Xj,hf]
 | n+1,[],t=>by simp[Xj]
 | n+1,d::l,0=>by simp[Xj]
 | n+1,d::l,t+1=>by
  simp only[Xj,rZ,agI hf n l t,Nat.add_lt_add_iff_right,Nat.add_sub_add_right]
theorem Vm{x:α} : ∀ (J:List (Nat×Nat)) (l:List α) (t:Nat),(J2 x J l)[t]? = (l[t]?).map λd=>if inS J t then x else d
 | [],l,t=>by simp[J2,inS]
 | (a,b)::r,l,t=>by
  simp only[J2];rw[agH (p:=λt d=>if t<b then x else if inS r (t-b) then x else d) (λl t=>by rw[agI (Vm r)])];congr 1;funext d;simp only[inS]
  by_cases h:t<a
  . simp[h]
  by_cases h2:t<a+b
  . have h3:t-a<b:=ak;simp[h,h2,h3]
  have h3 : ¬ t-a<b:=ak;simp[h,h2,h3]
theorem OV{x:α}(J:List (Nat×Nat))(l:List α):(J2 x J l).length=l.length:=by
 refine Nat.le_antisymm ?_ ?_
 . refine Nat.le_of_not_lt λh=>?_;have e:=Vm (x:=x) J l l.length;rw[iW h] at e;simp at e
 refine Nat.le_of_not_lt λh=>?_;have e:=Vm (x:=x) J l (J2 x J l).length;rw[iW h] at e;simp at e
theorem acJ{y:α} : ∀ (n:Nat) (l:List α) (t:Nat),(Lc y n l)[t]? = (l[t]?).map λd=>if t=n then y else d
 | n,[],t=>by cases n<;>simp[Lc]
 | 0,d::l,0=>by simp[Lc]
 | 0,d::l,t+1=>by simp[Lc]
 | n+1,d::l,0=>by simp[Lc]
 | n+1,d::l,t+1=>by simp[Lc,acJ n l t]
end
def afT:List D->List (Nat×D)->List D
 | l,[]=>l
 | l,(k,d)::r=>afT (Lc d k l) r
def afU:List (Option Ob)->List (Nat×Ob)->List (Option Ob)
 | l,[]=>l
 | l,(k,d)::r=>afU (Lc (some d) k l) r
theorem ajn : ∀ (ks:List (Nat×D)) (l:List D) (t:Nat) (d:D),(afT l ks)[t]? = some d->l[t]? = some d\/(t,d)∈ks
 | [],_,_,_,h=>.inl h
 | (k,x)::r,l,t,d,h=>by
  replace h:=ajn r _ t d h;rcases h with h|h
  . rw[acJ] at h;cases hl:l[t]? with
    | none=>rw[hl] at h;cases h
    | some y=>
     rw[hl] at h;simp only[iP,aW] at h;split at h
     . rename_i e;cases e;cases h;exact .inr (iO ..)
     cases h;exact .inl rfl
  exact .inr (gU _ h)
theorem ajo : ∀ (ks:List (Nat×Ob)) (l:List (Option Ob)) (t:Nat) (d:Option Ob),(afU l ks)[t]? = some d->l[t]? = some d\/∃ o,d=some o/\(t,o)∈ks
 | [],_,_,_,h=>.inl h
 | (k,x)::r,l,t,d,h=>by
  replace h:=ajo r _ t d h;rcases h with h|⟨o,h1,h⟩
  . rw[acJ] at h;cases hl:l[t]? with
    | none=>rw[hl] at h;cases h
    | some y=>
     rw[hl] at h;simp only[iP,aW] at h;split at h
     . rename_i e;cases e;cases h;exact .inr ⟨x,rfl,iO ..⟩
     cases h;exact .inl rfl
  exact .inr ⟨o,h1,gU _ h⟩
theorem ajp : ∀ (ks:List (Nat×D)) (l:List D),(afT l ks).length=l.length
 | [],_=>rfl
 | (k,x)::r,l=>by rw[afT,ajp r];exact(by
  have : ∀ (n:Nat) (l:List D),(Lc x n l).length=l.length:=λn l=>by
   induction l generalizing n with
   | nil=>cases n<;>rfl
   | cons d l ih=>cases n<;>simp[Lc,ih]
  exact this k l)
theorem ajq : ∀ (ks:List (Nat×Ob)) (l:List (Option Ob)),(afU l ks).length=l.length
 | [],_=>rfl
 | (k,x)::r,l=>by rw[afU,ajq r];exact(by
  have : ∀ (n:Nat) (l:List (Option Ob)),(Lc (some x) n l).length=l.length:=λn l=>by
   induction l generalizing n with
   | nil=>cases n<;>rfl
   | cons d l ih=>cases n<;>simp[Lc,ih]
  exact this k l)
theorem Ce.ovl{st base:St}{c:Nat}{J O:List (Nat×Nat)}{ks:List (Nat×D)}{os:List (Nat×Ob)}(hc:st.ctr<c)(h1:J2 D.junk J st.slots=J2 D.junk J base.slots)(h2:J2 none O st.objs=J2 none O base.objs)
  (h3:acK st.slots ks) (h4:acL st.objs os):Ce st ⟨afT (J2 D.junk J base.slots) ks,afU (J2 none O base.objs) os,c⟩:=by
 have l1:base.slots.length=st.slots.length:=by
  have:=congrArg List.length h1;rw[OV,OV] at this;exact this.symm
 have l2:base.objs.length=st.objs.length:=by
  have:=congrArg List.length h2;rw[OV,OV] at this;exact this.symm
 refine⟨hc,wu.MX ((ajp ..).trans ((OV ..).trans l1)) λt d d' g1 g2=>?_,yP.MX ((ajq ..).trans ((OV ..).trans l2)) λt o' g2=>?_⟩
 . rcases ajn _ _ _ _ g2 with g2|hm
   . rw[← h1,Vm,g1] at g2;simp only[iP,aW] at g2;subst g2;split
     . exact dV.junk _
     exact dV.refl _
   obtain⟨d1,x1,x2⟩:=h3.get _ _ hm;rw[x1] at g1;cases g1;exact x2
 rcases ajo _ _ _ _ g2 with g2|⟨o,ho,hm⟩
 . rw[← h2,Vm] at g2;cases hs:st.objs[t]? with
   | none=>rw[hs] at g2;cases g2
   | some s=>
    rw[hs] at g2;simp only[iP,aW] at g2;split at g2
    . cases g2
    subst g2;exact⟨o',rfl,jZ.refl _⟩
 cases ho;exact h4.get _ _ hm
def fGh(objs:List (Option Ob))(id:Nat):List Gh:=match objs[id]? with
 | some (some _)=>[.forget id]
 | _=>[]
def dGh(objs:List (Option Ob))(l:GL):D->D->List Gh
 | .dX,.vec id _ sz _ _=>fGh objs id++[.thaw l id sz]
 | .vec id' _ _ _ _,.vec id _ _ _ _=>if Nat.beq id' id then [] else fGh objs id++[.move l id]
 | _,_=>[]
def cGh(objs:List (Option Ob))(mk:Nat->GL):Nat->List D->List D->List Gh
 | j,d::r,e::q=>dGh objs (mk j) d e++cGh objs mk (j+1) r q
 | _,_,_=>[]
def sGh(objs:List (Option Ob))(slots:List D):List (Nat×D)->List Gh
 | []=>[]
 | (t,e)::r=>(match slots.getD t .junk,e with
  | .agg k c,.agg k' c'=>cGh objs (.sub t) 0 (cellsOf k c) (cellsOf k' c')
  | d,e=>dGh objs (.slot t) d e)++sGh objs slots r
def oGh(objs:List (Option Ob)):List (Nat×Ob)->List Gh
 | []=>[]
 | (id,.box _ cs)::r=>(match objs[id]? with
  | some (some (.box _ cs'))=>cGh objs (.cell id) 0 cs' cs
  | _=>[])++oGh objs r
 | _::r=>oGh objs r
def auW(objs:List (Option Ob))(k:Nat):Nat:=match objs[k]? with
 | some (some o)=>o.gen
 | _=>0
def auX(objs:List (Option Ob))(k:Nat):Bool:=match objs[k]? with
 | some (some (.arr _ _ _ t _))=>t
 | _=>false
def apL(objs:List (Option Ob)):List (Nat×Ob)->List (Nat×Nat)
 | []=>[]
 | (k,_)::r=>(k,auW objs k)::apL objs r
def acM:Hid:=⟨0,λ_=>0,λ_=>false⟩
def hidS(st:St)(os:List (Nat×Ob)):Hid:=⟨st.ctr+1,gfn (apL st.objs os),auX st.objs⟩
def amu(st:St):Prop:=∀ (k:Nat) (o:Ob),st.objs[k]? = some (some o)->o.gen<=st.ctr
theorem RS.amv{B0:Nat}{h0:Array Obj}{I0:IS}{L:wU}{st:St}{a:Act}{w:World}(R:RS B0 h0 I0 L st a w):amu st:=by
 obtain⟨I,β,R⟩:=R;intro k o h;have:=R.ob k o h;cases o<;>exact this.1
theorem Tr.amv{c:Code}{Q:Exit->St->Prop}{st:St}(h:amu st->Tr P c Q st):Tr P c Q st :=
 λB0 h0 I0 L a w K R hK=>h R.amv B0 h0 I0 L a w K R hK
theorem Tr.aq4{c:Code}{Q Q':Exit->St->Prop}{st:St}(h:Tr P c Q st)(hq : ∀ ex st',(∃ B0 h0 I0 L a w,RS B0 h0 I0 L st' a w)->Q ex st'->Q' ex st'):Tr P c Q' st :=
 λB0 h0 I0 L a w K R hK=>h B0 h0 I0 L a w K R λex st' a' w' q R'=>hK ex st' a' w' (hq ex st' ⟨B0,h0,I0,L,a',w',R'⟩ q) R'
theorem alc{st:St}(h:amu st) : ∀ os:List (Nat×Ob),amw (apL st.objs os) (st.ctr+1)
 | []=>trivial
 | (k,_)::r=>by
  refine⟨Nat.lt_succ_of_le ?_,alc h r⟩;unfold auW;split
  . rename_i o ho;exact h k o ho
  exact Nat.zero_le _
section
variable {α γ:Type}
abbrev MF(st:St)(J O:List (Nat×Nat))(F:α->Hid->Fr)(x:α)(t:Hid):St:=⟨afT (J2 D.junk J st.slots) (F x t).s,afU (J2 none O st.objs) (F x t).o,t.c⟩
abbrev HF(c:Nat)(t:Hid):Prop:=c<t.c/\∀ k,t.g k<t.c
def PG(P:Program)(base:St)(c:Nat)(J O:List (Nat×Nat))(F:α->Hid->Fr)(x:α)(st:St):Prop :=
 ∃ l st1 os,uF (std P) l st=some (st1,os)/\(∀ q∈os,q.run (std P))/\c<=st1.ctr/\(F x (hidS st1 (F x acM).o)).p ()/\Ce st1 (MF base J O F x (hidS st1 (F x acM).o))
theorem agJ(st:St)(d:D)(l:GL):(AY st d l).ctr=st.ctr:=by
 cases l<;>simp only[AY]<;>(try split)<;>rfl
theorem apM : ∀ (l:List Gh) {st st1:St} {os:List bC},uF (std P) l st=some (st1,os)->st.ctr<=st1.ctr:=by
 intro l
 induction l with
 | nil=>intro st st1 os h;cases h;exact iR _
 | cons g r ih=>
  intro st st1 os h;have hn : ∀ c,(std P).X8 c=c+1:=λ_=>rfl;cases g<;>simp only[uF] at h<;>repeat' split at h
  all_goals first
   | (cases h;done)
   | (have h1:=ih h;simp only[agJ,hn] at h1;omega)
   | (rename_i heq;cases h;have h1:=ih heq;simp only[agJ,hn] at h1;omega)
theorem atF{st base st1:St}{os:List bC}{c:Nat}{J O:List (Nat×Nat)}{F:α->Hid->Fr}{x:α}(hg:uF (std P) (sGh st.objs st.slots (F x acM).s++oGh st.objs (F x acM).o) st=some (st1,os))(hos:conj (std P) os True)
  (hc:c<=st.ctr) (hp:(F x (hidS st1 (F x acM).o)).p ())
  (h1:J2 D.junk J st1.slots=J2 D.junk J base.slots) (h2:J2 none O st1.objs=J2 none O base.objs) (h3:acK st1.slots (F x (hidS st1 (F x acM).o)).s) (h4:acL st1.objs (F x (hidS st1 (F x acM).o)).o):PG P base c J O F x st :=
 ⟨_,st1,os,hg,(xX hos).1,QL hc (apM _ hg),hp,Ce.ovl (Nat.lt_succ_self _) h1 h2 h3 h4⟩
theorem HF.of{st:St}{c:Nat}{os:List (Nat×Ob)}(h:amu st)(hc:c<=st.ctr):HF c (hidS st os) :=
 ⟨Nat.lt_succ_of_le hc,(Hid.aaH (t:=auX st.objs) (Nat.succ_pos _) (alc h os)).2⟩
theorem Tr.lay{base st:St}{c0:Nat}{J O:List (Nat×Nat)}{F:α->Hid->Fr}{x:α}{c:Code}{Q:Exit->St->Prop}(h:PG P base c0 J O F x st)(hB : ∀ t,HF c0 t->(F x t).p ()->Tr P c Q (MF base J O F x t)):Tr P c Q st:=by
 obtain⟨l,st1,os,h1,h2,hc,h3,h4⟩:=h;exact Tr.gh l h1 h2 (Tr.amv λhg=>Tr.le h4 (hB _ (HF.of hg hc) h3))
theorem PG.ex{base st:St}{c0:Nat}{J O:List (Nat×Nat)}{F:α->Hid->Fr}{x:α}(h:PG P base c0 J O F x st)(R : ∃ B0 h0 I0 L a w,RS B0 h0 I0 L st a w) : ∃ t,(HF c0 t/\(F x t).p ())/\AP P st (MF base J O F x t):=by
 obtain⟨l,st1,os,h1,h2,hc,h3,h4⟩:=h;obtain⟨B0,h0,I0,L,a,w,R⟩:=R;exact⟨_,⟨HF.of (qH l R h1 h2).amv hc,h3⟩,l,st1,os,h1,h2,h4⟩
def Ep(P:Program)(base:St)(c:Nat)(J O:List (Nat×Nat))(F:α->Hid->Fr)(o:γ)(Q:Exit->St->Prop):Fl α γ->Exit->St->Prop
 | .go y=>Au (PG P base c J O F y) (λ_ _=>False)
 | .out o'=>Au (λ_=>False) (λex st'=>o'=o->Q ex st')
theorem bR{A:Option (Fl α γ)}{k:α->Option γ}{r:γ}(h:aO A k=some r)(c:Nat)(J O:List (Nat×Nat))(F:α->Hid->Fr){a b:Code}{Q:Exit->St->Prop}{st:St}
  (hB : ∀ (x:α) (c1:Nat) (g:Nat->Nat) (t:Nat->Bool),c<c1->(∀ k,g k<c1)->(F x ⟨c1,g,t⟩).p ()->k x=some r->Tr P b Q (MF st J O F x ⟨c1,g,t⟩)) (hA : ∀ f,A=some f->Tr P a (Ep P st c J O F r Q f) st):Tr P (.seq a b) Q st:=by
 obtain⟨f,hf,hk⟩:=HZ h;refine Tr.seq ((hA f hf).mono λex st' q=>?_);cases f with
 | go x=>
  cases ex with
  | normal=>exact Tr.lay q λt h1 h2=>hB x t.c t.g t.t h1.1 h1.2 h2 hk
  | _=>exact q.elim
 | out r'=>
  cases hk;cases ex with
  | normal=>exact q.elim
  | _=>exact q rfl
def adt(l:Nat)(S:Exit->St->Prop):Exit->St->Prop
 | .goto l',st=>if l'=l then S .normal st else False
 | .normal,_=>False
 | e,st=>S e st
theorem Tr.aer{c b:Code}{l:Nat}{Q:Exit->St->Prop}{N:St->Prop}{st:St}(hf:findLabel c l=some b)
  (h1:Tr P c (λe st=>match e with | .goto l'=>l'=l/\N st | .normal=>False|e=>Q e st) st) (h2 : ∀ st',N st'->Tr P b (noGoto Q) st'):Tr P (.scope c) Q st:=by
 intro B0 h0 I0 L a w K R hK;refine wp_scope_jumps l (λa' w'=>∃ st',RS B0 h0 I0 L st' a' w'/\N st') (λ_ _=>0) hf (h1 B0 h0 I0 L a w _ R λex st' a' w' q R'=>?_) (λa' w' ⟨st',R',q⟩=>h2 st' q B0 h0 I0 L a' w' _ R' λex st2 a2 w2 q2 R2=>?_)
 . cases ex with
   | goto l'=>exact⟨q.1,st',R',q.2⟩
   | normal=>exact q.elim
   | _=>exact hK _ st' a' w' q R'
 cases ex with
 | goto l'=>exact q2.elim
 | _=>exact hK _ st2 a2 w2 q2 R2
theorem Wgo(l:Nat){A:Option (Fl α γ)}{k:α->Option γ}{r:γ}(h:aO A k=some r)(c0:Nat)(J O:List (Nat×Nat))(F:α->Hid->Fr){c b:Code}{Q:Exit->St->Prop}{st:St}
  (hB : ∀ (x:α) (c1:Nat) (g:Nat->Nat) (t:Nat->Bool),c0<c1->(∀ k,g k<c1)->(F x ⟨c1,g,t⟩).p ()->k x=some r->Tr P b (noGoto Q) (MF st J O F x ⟨c1,g,t⟩)) (hA : ∀ f,A=some f->Tr P c (adt l (Ep P st c0 J O F r Q f)) st) (hf:findLabel c l=some b:=by rfl):Tr P (.scope c) Q st:=by
 obtain⟨f,hfA,hk⟩:=HZ h;cases f with
 | go x=>
  refine Tr.aer hf (N:=PG P st c0 J O F x) ((hA _ hfA).mono λex st' q=>?_) λst' q=>Tr.lay q λt h1 h2=>hB x t.c t.g t.t h1.1 h1.2 h2 hk;cases ex with
  | goto l'=>
   simp only[adt] at q;split at q
   . rename_i e;exact⟨e,q⟩
   exact q.elim
  | _=>exact q.elim
 | out r'=>
  cases hk;refine Tr.aer hf (N:=λ_=>False) ((hA _ hfA).mono λex st' q=>?_) λst' q=>q.elim;cases ex with
  | goto l'=>
   simp only[adt] at q;split at q
   . exact q.elim
   exact q.elim
  | normal=>exact q.elim
  | _=>exact q rfl
theorem aqD{cx:Cx}(hT:jG P cx.tt)(hP:P.follows .mixedOrders=true)(n:Nat){A:Option (Fl α γ)}{k:α->Option γ}{r:γ}(h:aO A k=some r)(c0:Nat)(J O:List (Nat×Nat))(F:α->Hid->Fr){c:Code}{Q:Exit->St->Prop}{st:St}
  (hB : ∀ (x:α) (c1:Nat) (g:Nat->Nat) (t:Nat->Bool),c0<c1->(∀ k,g k<c1)->(F x ⟨c1,g,t⟩).p ()->k x=some r->Tr P (adw n c) Q (MF st J O F x ⟨c1,g,t⟩)) (hA : ∀ f,A=some f->∀ N,N=Ep P st c0 J O F r Q f->adx (std P) cx N n c st):Tr P c Q st:=by
 obtain⟨f,hf,hk⟩:=HZ h;refine aku hT hP (N:=Ep P st c0 J O F r Q f) (λex st' hex q=>?_) n c st (λst' q=>?_) (hA f hf _ rfl)
 . cases f with
   | go x=>
    cases ex with
    | normal=>exact absurd rfl hex
    | _=>exact q.elim
   | out r'=>
    cases hk;cases ex with
    | normal=>exact absurd rfl hex
    | _=>exact q rfl
 cases f with
 | go x=>exact Tr.lay q λt h1 h2=>hB x t.c t.g t.t h1.1 h1.2 h2 hk
 | out r'=>exact q.elim
theorem gy{body:α->Option (Fl α γ)}{x0:α}{o:γ}(h:bZ body x0=some o)(c0:Nat)(J O:List (Nat×Nat))(F:α->Hid->Fr){c:Code}{Q:Exit->St->Prop}{st:St}(he:PG P st c0 J O F x0 st)
  (step : ∀ (x:α) (c1:Nat) (g:Nat->Nat) (t:Nat->Bool) (f:Fl α γ),c0<c1->(∀ k,g k<c1)->(F x ⟨c1,g,t⟩).p ()->body x=some f->Tr P c (Ep P st c0 J O F o Q f) (MF st J O F x ⟨c1,g,t⟩)):Tr P (.loop c) Q st:=by
 intro B0 h0 I0 L a w K R hK;obtain⟨t0,h1,h2⟩:=he.ex ⟨_,_,_,_,_,_,R⟩;refine Tr.bZ (MF st J O F) (λx t=>HF c0 t/\(F x t).p ()) t0 h h1 h2 (λx t f ho hf=>(step x t.c t.g t.t f ho.1.1 ho.1.2 ho.2 hf).aq4 λex st' R q=>?_) B0 h0 I0 L a w K R hK;cases f with
 | go y=>
  cases ex with
  | normal=>exact PG.ex q R
  | _=>exact q.elim
 | out r'=>
  cases ex with
  | normal=>exact q.elim
  | _=>exact q
theorem kX{A:Option (Fl α γ)}{k:α->Option γ}{r:γ}(h:aO A k=some r)(c0:Nat)(J O:List (Nat×Nat))(F:α->Hid->Fr){c:Code}{Q:Exit->St->Prop}{st:St}{n:Nat}
  (hB : ∀ (x:α) (c1:Nat) (g:Nat->Nat) (t:Nat->Bool),c0<c1->(∀ k,g k<c1)->(F x ⟨c1,g,t⟩).p ()->k x=some r->X9 P c Q n (MF st J O F x ⟨c1,g,t⟩)) (hA : ∀ f,A=some f->Tr P c (Ep P st c0 J O F r Q f) st):X9 P c Q (n+1) st:=by
 refine X9.cut h (MF st J O F) (λx t=>HF c0 t/\(F x t).p ()) (λx t ho hk=>hB x t.c t.g t.t ho.1.1 ho.1.2 ho.2 hk) λf hf=>(hA f hf).aq4 λex st' R q=>?_;cases f with
 | go y=>
  cases ex with
  | normal=>exact PG.ex q R
  | _=>exact q.elim
 | out r'=>
  cases ex with
  | normal=>exact q.elim
  | _=>exact q
end
theorem arW{tt:TT}(hT:jG P tt){t:TypeId}{ti:TI}{e:TypeId}{x a d:Nat}{α γ:Type}{n:Int}{A1 A2:Option (Fl α γ)}{k:α->Option γ}{r:γ}(h:oH n (aO A1 k) (aO A2 k)=some r)(c0:Nat)(J O:List (Nat×Nat))(F:α->Hid->Fr)
  {id:Nat} {oa od:Oper} {yt:TypeId} {ca b:Code} {Q:Exit->St->Prop} {st:St} {sz:Nat} {tight:Bool} {f:Int->Nat->D} (ht:iB tt t=some ti) (hk:ti.kind = .slice e)
  (ha:oa.op = .move (.tmp x)/\oa.dst=some a/\oa.guard=none) (hd:od.op = .binOp .eql t (.tmp a) (.const (.slice none 0 0)) yt/\od.dst=some d/\od.guard=none)
  (hs:st.slots.getD x .junk = .sl sz n tight f) (hal:a<st.slots.length)
  (hB : ∀ (x:α) (c1:Nat) (g:Nat->Nat) (t:Nat->Bool),c0<c1->(∀ k,g k<c1)->(F x ⟨c1,g,t⟩).p ()->k x=some r->Tr P b Q (MF st J O F x ⟨c1,g,t⟩))
  (h1:n=0->∀ f,A1=some f->Tr P ca (Ep P st c0 J O F r Q f) ⟨(st.slots.set a .junk).set d (.v (.bool true)),st.objs,st.ctr⟩)
  (h2 : ∀ f,A2=some f->Tr P ca (Ep P st c0 J O F r Q f) ⟨(st.slots.set a .junk).set d (.v (.bool false)),st.objs,st.ctr⟩):Tr P (.seq (.seq (.region id #[oa,od] false) ca) b) Q st:=by
 have key : ∀ {A:Option (Fl α γ)} {s:St},aO A k=some r->(∀ f,A=some f->Tr P ca (Ep P st c0 J O F r Q f) s)->Tr P ca (Au (Tr P b Q) Q) s:=by
  intro A s h hA;obtain⟨f,hf,hk⟩:=HZ h;refine(hA f hf).mono λex st' q=>?_;cases f with
  | go x=>
   cases ex with
   | normal=>exact Tr.lay q λt h1 h2=>hB x t.c t.g t.t h1.1 h1.2 h2 hk
   | _=>exact q.elim
  | out r'=>
   cases hk;cases ex with
   | normal=>exact q.elim
   | _=>exact q rfl
 refine Tr.seq (Tr.seq (Tr.auY hT ht hk ha hd hs hal (λh0=>?_) ?_))
 . exact key (auZ h h0) (h1 h0)
 exact key (au0 h) h2
def toR:Nat->D->QW
 | 1,.own sz n t g=>.own sz n t g
 | 1,.CB q k c sz n t g=>.CB q k c sz n t g
 | 3,.own sz n t g=>.own sz n t g
 | _,.own sz n t g=>.plain (.sl sz n t g)
 | _,.CB q k c sz n t g=>.plain (.agg k λj=>if Nat.beq j q then .sl sz n t g else c j)
 | _,d=>.plain d
def DJ(_:List (Nat×Nat))(_:List (Nat×QW))(P:Program)(c:Code)(Q:Exit->St->Prop)(st:St):Prop:=Tr P c Q st
section
variable {β:Type} {c:Code} {Q:Exit->St->Prop} {st:St} {K:List (Nat×Nat)} {O:List (Nat×QW)} {f:FuncId} {A:List D}
theorem aZ(g:DJ [] [] P c Q st):Tr P c Q st:=g
theorem ZO[Inhabited β]{o:Option β}{C:β->Prop}(ok : ∀ r,o=some r->C r) : ∃ v,∀ w,o=some w->w=v/\C v:=by
 cases o with
 | none=>exact⟨default,λw h=>by cases h⟩
 | some v=>exact⟨v,λw h=>by cases h;exact⟨rfl,ok _ rfl⟩⟩
theorem Wo[Inhabited β](key kind:Nat){o:Option β}{R:β->D}(ok : ∀ r,o=some r->d9 P f A (R r))
  (g : ∀ v,(∀ w,o=some w->w=v/\d9 P f A (R v))->DJ ((f,kind)::K) ((key,toR kind (R v))::O) P c Q st):DJ K O P c Q st:=by
 obtain⟨v,hv⟩:=ZO ok;exact g v hv
theorem Wod(key kind:Nat){o:Option β}{v:β}{d:D}(ok : ∀ w,o=some w->w=v/\d9 P f A d)(g:DJ ((f,kind)::K) ((key,toR kind d)::O) P c Q st):DJ K O P c Q st:=g
theorem Wov[Inhabited β](key:Nat){o:Option β}{R:β->D}(ok : ∀ r,o=some r->d9 P f A (R r))
  (g : ∀ v,(∀ w,o=some w->w=v/\d9 P f A (R v))->DJ ((key+1024,7)::K) ((key,.plain (R v))::O) P c Q st):DJ K O P c Q st:=by
 obtain⟨v,hv⟩:=ZO ok;exact g v hv
theorem uh[Inhabited β](key kind:Nat)(b:Bool){o:Option β}{R:β->D}(ok : ∀ r,o=some r->d9 P f A (R r))(d:β)
  (g : ∀ v,(∀ w,(if b=true then o else some d)=some w->w=v/\(b=true->d9 P f A (R v)))->DJ ((f,kind)::K) ((key,toR kind (R v))::O) P c Q st):DJ K O P c Q st:=by
 obtain⟨v,hv⟩:=ZO (o:=if b=true then o else some d) (C:=λr=>b=true->d9 P f A (R r)) (λr h hb=>ok r (aol h hb));exact g v hv
theorem Woe[Inhabited β](key kind:Nat){o:Option β}{R:β->D}(ok : ∀ r,o=some r->Ar P f A (R r))
  (g : ∀ v,(∀ w,o=some w->w=v/\Ar P f A (R v))->DJ ((f,kind)::K) ((key,toR kind (R v))::O) P c Q st):DJ K O P c Q st:=by
 obtain⟨v,hv⟩:=ZO ok;exact g v hv
theorem DV[Inhabited β](key:Nat){o:Option β}{pre:List Ob}{post:β->List Ob}{R:β->D}(ok : ∀ r,o=some r->lK P f A pre (post r) (R r))
  (g : ∀ v,(∀ w,o=some w->w=v/\lK P f A pre (post v) (R v))->DJ ((f,2)::K) ((key,.TV (post v) (R v))::O) P c Q st):DJ K O P c Q st:=by
 obtain⟨v,hv⟩:=ZO ok;exact g v hv
abbrev vi(x:Int):D:=.v (.int .i64 x)
abbrev vu(x:Int):D:=.v (.int .u8 x)
abbrev vr(x:Int):D:=.v (.int .i32 x)
abbrev vb(x:Bool):D:=.v (.bool x)
abbrev vs(x:ByteArray):D:=.v (.string x)
abbrev Li(n:Nv)(l:List Int):D:=.sl 1 (n.len l) false λi _=>vi (n.get 0 l i)
abbrev Ui(n:Nv)(l:List Int):D:=.own 1 (n.len l) false λi _=>vi (n.get 0 l i)
abbrev Ri(v:Nv)(g:Nat)(n:Int)(t:Bool)(l:List Int):Ob:=.arr g 1 n t λi _=>vi (v.get 0 l i)
abbrev Lu(n:Nv)(l:List Int):D:=.sl 1 (n.len l) false λi _=>vu (n.get 0 l i)
abbrev Ru(v:Nv)(g:Nat)(n:Int)(t:Bool)(l:List Int):Ob:=.arr g 1 n t λi _=>vu (v.get 0 l i)
abbrev Rb(v:Nv)(g:Nat)(n:Int)(t:Bool)(l:List Bool):Ob:=.arr g 1 n t λi _=>vb (v.get false l i)
abbrev Us(n:Nv)(l:List ByteArray):D:=.own 1 (n.len l) false λi _=>vs (n.get ByteArray.empty l i)
abbrev Rs(v:Nv)(g:Nat)(n:Int)(t:Bool)(l:List ByteArray):Ob:=.arr g 1 n t λi _=>vs (v.get ByteArray.empty l i)
def Td{α β:Type}(_:Option α)(_:Option β):Prop:=True
section
variable {α γ δ:Type} {o:Option δ}
theorem sB{p:Option β}{k:β->Option γ} : Td (au p k) p:=trivial
theorem sK{p:Option β}{k:β->Option γ}(v:β)(_:Td (k v) o):Td (au p k) o:=trivial
theorem sC{c:Prop}[Decidable c]{X:Option γ}(_:Td X o):Td (chk c X) o:=trivial
theorem sT{b:Bool}{X Y:Option γ}(_:Td X o):Td (aA b X Y) o:=trivial
theorem sF{b:Bool}{X Y:Option γ}(_:Td Y o):Td (aA b X Y) o:=trivial
theorem sA{A:Option (Fl α γ)}{k:α->Option γ}(_:Td A o):Td (aO A k) o:=trivial
theorem Wi[Inhabited β](key kind:Nat){X:Option γ}{r:γ}(_:X=some r){o:Option β}(_:Td X o){R:β->D}(ok : ∀ r,o=some r->d9 P f A (R r))
  (g : ∀ v,(∀ w,o=some w->w=v/\d9 P f A (R v))->DJ ((f,kind)::K) ((key,toR kind (R v))::O) P c Q st):DJ K O P c Q st:=by
 obtain⟨v,hv⟩:=ZO ok;exact g v hv
theorem Wiv[Inhabited β](key:Nat){X:Option γ}{r:γ}(_:X=some r){o:Option β}(_:Td X o){R:β->D}(ok : ∀ r,o=some r->d9 P f A (R r))
  (g : ∀ v,(∀ w,o=some w->w=v/\d9 P f A (R v))->DJ ((key+1024,7)::K) ((key,.plain (R v))::O) P c Q st):DJ K O P c Q st:=by
 obtain⟨v,hv⟩:=ZO ok;exact g v hv
theorem om[Inhabited β](key kind:Nat){X:Option γ}{r:γ}(_:X=some r){b:Bool}{o:Option β}{d:β}(_:Td X (if b=true then o else some d)){R:β->D}(ok : ∀ r,o=some r->d9 P f A (R r))
  (g : ∀ v,(∀ w,(if b=true then o else some d)=some w->w=v/\(b=true->d9 P f A (R v)))->DJ ((f,kind)::K) ((key,toR kind (R v))::O) P c Q st):DJ K O P c Q st:=by
 obtain⟨v,hv⟩:=ZO (o:=if b=true then o else some d) (C:=λr=>b=true->d9 P f A (R r)) (λr h hb=>ok r (aol h hb));exact g v hv
end
theorem Wbn{γ:Type}{o:Option β}{k:β->Option γ}{r:γ}{v:β}{C G:Prop}(h:au o k=some r)(h1 : ∀ w,o=some w->w=v/\C)(g:o=some v->C->k v=some r->G):G:=by
 obtain⟨b,hb,hk⟩:=amx h;obtain⟨rfl,hc⟩:=h1 b hb;exact g hb hc hk
end
def apN:List D->List D->List KM
 | d::r,.vec _ _ _ _ _::q=>(match d with
  | .vec id _ _ o _=>.at id o
  | _=>.nil)::apN r q
 | _::r,_::q=>apN r q
 | _,_=>[]
def amy(objs:List (Option Ob)):Nat->List Ob->List KM
 | k,.box _ cs'::r=>(match objs[k]? with
  | some (some (.box _ cs))=>apN cs cs'
  | _=>[])++amy objs (k+1) r
 | k,.arr 0 _ _ _ _::r=>amy objs (k+1) r
 | k,.dead _::r=>amy objs (k+1) r
 | _,_=>[]
def ahy:List Ob->List KM
 | .box _ _::r=>.top::ahy r
 | .arr 0 _ _ _ _::r=>.top::ahy r
 | .dead _::r=>.nil::ahy r
 | _=>[]
def kmS(objs:List (Option Ob))(post:List Ob):List KM:=ahy post++amy objs 0 post
theorem arT{tt:TT}{rs:List ResultVar}{post:List Ob}{res:D}{st:St}{ds:List D}{os:List bC}(h:wG (std P) tt st.objs st.slots rs=some (ds,os))(hos:conj (std P) os True)(ho:Qz (std P) ds res)(he:Ld (std P) st.objs (kmS st.objs post) post):LB (std P) tt rs post res .ret st:=aom h hos ho _ he
theorem arU{tt:TT}{rs:List ResultVar}{post:List Ob}{res:D}{st:St}{ds:List D}{os:List bC}(h:wG (std P) tt st.objs st.slots rs=some (ds,os))(hos:conj (std P) os True)(ho:Qz (std P) ds res)(he:Ld (std P) st.objs (kmS st.objs post) post):LB (std P) tt rs post res .normal st:=ajr h hos ho _ he
theorem leC{a c:Nat}{s:List D}{o:List (Option Ob)}(h:a<=c):a<=(St.mk s o c).ctr:=h
theorem apm(a:Int):(std P).add 0 a=a:=CR a
def Gt:D->D->Prop
 | .v (.int k _),.v (.int k' _)=>k=k'
 | .sl sz _ _ f,.sl sz' _ _ f'=>sz=sz'/\∀ i j,j<sz->Gt (f i j) (f' i j)
 | .agg k c,.agg k' c'=>k=k'/\∀ j,j<k->Gt (c j) (c' j)
 | .junk,_=>False
 | _,_=>True
theorem agK{h:Array Obj}{I:IS}{β:Nat->Option (Nat×Nat×Array Value)}{objs:List (Option Ob)}{ctr:Nat}(b:Bool) : ∀ (d1 d2:D) (y:Value),Gt d1 d2->Rd h I β objs ctr (nP (std P) b d1 d2) y->Rd h I β objs ctr (if b=true then d1 else d2) y:=by
 have fall : ∀ (d1 d2:D) (y:Value),Rd h I β objs ctr (.cnd b d1 d2) y->Rd h I β objs ctr (if b=true then d1 else d2) y:=by
  intro d1 d2 y hy;cases b
  . exact hy.2 rfl
  exact hy.1 rfl
 intro d1
 induction d1 with
 | v x=>
  intro d2 y hs hy;cases d2 with
  | v x'=>
   cases x<;>cases x'<;>first
    | exact fall _ _ _ hy
    | (cases b<;>exact hy)
    | (simp only[Gt] at hs;subst hs;simp only[nP,if_true] at hy;cases b<;>exact hy)
  | _=>cases x<;>exact fall _ _ _ hy
 | sl sz n t f ih=>
  intro d2 y hs hy;cases d2 with
  | sl sz' n' t' f'=>
   simp only[Gt] at hs;obtain⟨rfl,hs⟩:=hs;simp only[nP,kF,if_true] at hy;obtain⟨a,len,cap,rfl,x1,x2,x3,x4⟩:=hy;cases b
   . refine⟨a,len,cap,rfl,x1,x2,x3,λhp=>?_⟩;obtain⟨bb,o,c,e,fr,z1,z2,z3,z4⟩:=x4 hp;refine⟨bb,o,c,e,fr,z1,z2,z3,λi hi j hj=>?_⟩;obtain⟨z,q1,q2,q3⟩:=z4 i hi j hj;exact⟨z,q1,q2,ih _ _ _ _ (hs i j hj) q3⟩
   refine⟨a,len,cap,rfl,x1,x2,x3,λhp=>?_⟩;obtain⟨bb,o,c,e,fr,z1,z2,z3,z4⟩:=x4 hp;refine⟨bb,o,c,e,fr,z1,z2,z3,λi hi j hj=>?_⟩;obtain⟨z,q1,q2,q3⟩:=z4 i hi j hj;exact⟨z,q1,q2,ih _ _ _ _ (hs i j hj) q3⟩
  | _=>exact fall _ _ _ hy
 | agg k c ih=>
  intro d2 y hs hy;cases d2 with
  | agg k' c'=>
   simp only[Gt] at hs;obtain⟨rfl,hs⟩:=hs;simp only[nP,kF,if_true] at hy;obtain⟨ys,rfl,x1,x2⟩:=hy;cases b
   . refine⟨ys,rfl,x1,λj hj=>?_⟩;obtain⟨z,q1,q2,q3⟩:=x2 j hj;exact⟨z,q1,q2,ih _ _ _ (hs j hj) q3⟩
   refine⟨ys,rfl,x1,λj hj=>?_⟩;obtain⟨z,q1,q2,q3⟩:=x2 j hj;exact⟨z,q1,q2,ih _ _ _ (hs j hj) q3⟩
  | _=>exact fall _ _ _ hy
 | dX=>
  intro d2 y hs hy;cases d2 with
  | dX=>cases b<;>exact hy
  | _=>exact fall _ _ _ hy
 | junk=>intro d2 y hs;exact hs.elim
 | _=>intro d2 y hs hy;cases d2<;>exact fall _ _ _ hy
theorem Xk{b:Bool}{d1 d2 x:D}(h:Gt d1 d2)(ht:b=true->dV d1 x)(hf:b=false->dV d2 x):dV (nP (std P) b d1 d2) x:=by
 intro h' I β objs ctr y hy;have:=agK b d1 d2 y h hy;cases b
 . exact hf rfl _ _ _ _ _ _ this
 exact ht rfl _ _ _ _ _ _ this
def amz:D->D->Prop
 | .v (.int k _),.v (.int k' _)=>k=k'
 | .v (.bool _),.v (.bool _)=>True
 | .v (.string _),.v (.string _)=>True
 | .dX,.dX=>True
 | .sl sz _ _ f,.sl sz' _ _ f'=>sz=sz'/\∀ i j,j<sz->amz (f i j) (f' i j)
 | .agg k c,.agg k' c'=>k=k'/\∀ j,j<k->amz (c j) (c' j)
 | _,_=>False
theorem aon(b:Bool) : ∀ (d1 d2 x:D),amz d1 d2->(b=true->cK (std P) d1 x)->(b=false->cK (std P) d2 x)->cK (std P) (nP (std P) b d1 d2) x:=by
 intro d1
 induction d1 with
 | v y=>
  intro d2 x hs ht hf;cases d2 with
  | v z=>
   match y,z,hs,ht,hf with
   | .int k m,.int k' m',hs,ht,hf=>
    have hs:k=k':=hs;subst hs;have e:nP (std P) b (.v (.int k m)) (.v (.int k m')) = .v (.int k ((std P).Xl b m m')):=if_pos rfl;rw[e];cases b
    . exact hf rfl
    exact ht rfl
   | .bool _,.bool _,_,ht,hf=>cases b;exact hf rfl;exact ht rfl
   | .string _,.string _,_,ht,hf=>cases b;exact hf rfl;exact ht rfl
  | _=>cases y<;>exact False.elim hs
 | dX=>
  intro d2 x hs ht hf;cases d2 with
  | dX=>cases b;exact hf rfl;exact ht rfl
  | _=>exact False.elim hs
 | sl sz n t f ih=>
  intro d2 x hs ht hf;cases d2 with
  | sl sz' n' t' f'=>
   obtain⟨rfl,hs⟩:=hs;simp only[nP,kF,if_true];cases x with
   | sl mD n2 t2 f2=>
    cases b
    . have h:=hf rfl;simp only[cK] at h ⊢;split at h
      . rename_i hk;rw[if_pos hk];exact⟨h.1,h.2.1,λi h0 h1 j hj=>ih i j _ _ (hs i j hj) (λe=>by cases e) (λ_=>h.2.2 i h0 h1 j hj)⟩
      exact h.elim
    have h:=ht rfl;simp only[cK] at h ⊢;split at h
    . rename_i hk;rw[if_pos hk];exact⟨h.1,h.2.1,λi h0 h1 j hj=>ih i j _ _ (hs i j hj) (λ_=>h.2.2 i h0 h1 j hj) (λe=>by cases e)⟩
    exact h.elim
   | junk=>exact trivial
   | v y=>cases b;(exact(by have h:=hf rfl;cases y<;>exact False.elim h));(exact(by have h:=ht rfl;cases y<;>exact False.elim h))
   | fn y k2 c2=>cases b;(exact(by have h:=hf rfl;cases y<;>exact False.elim h));(exact(by have h:=ht rfl;cases y<;>exact False.elim h))
   | _=>cases b;exact hf rfl;exact ht rfl
  | _=>exact False.elim hs
 | agg k c ih=>
  intro d2 x hs ht hf;cases d2 with
  | agg k' c'=>
   obtain⟨rfl,hs⟩:=hs;simp only[nP,kF,if_true];cases x with
   | agg k2 c2=>
    cases b
    . have h:=hf rfl;simp only[cK] at h ⊢;split at h
      . rename_i hk;rw[if_pos hk];exact λi h0 h1 j hj=>ih j _ _ (hs j hj) (λe=>by cases e) (λ_=>h i h0 h1 j hj)
      exact h.elim
    have h:=ht rfl;simp only[cK] at h ⊢;split at h
    . rename_i hk;rw[if_pos hk];exact λi h0 h1 j hj=>ih j _ _ (hs j hj) (λ_=>h i h0 h1 j hj) (λe=>by cases e)
    exact h.elim
   | junk=>exact trivial
   | v y=>cases b;(exact(by have h:=hf rfl;cases y<;>exact False.elim h));(exact(by have h:=ht rfl;cases y<;>exact False.elim h))
   | fn y k2 c2=>cases b;(exact(by have h:=hf rfl;cases y<;>exact False.elim h));(exact(by have h:=ht rfl;cases y<;>exact False.elim h))
   | _=>cases b;exact hf rfl;exact ht rfl
  | _=>exact False.elim hs
 | _=>intro d2 x hs;cases d2<;>exact False.elim hs
theorem apn{n i:Int}{j:Nat}{f h:Int->Nat->D}{x:D}(hs:amz (f i j) (h (i-n) j))(ht:i<n->cK (std P) (f i j) x)(hf : ¬ i<n->cK (std P) (h (i-n) j) x):cK (std P) (QA (std P) n f h i j) x :=
 aon _ _ _ _ hs (λe=>ht (of_decide_eq_true e)) (λe=>hf (of_decide_eq_false e))
theorem atC{k i:Int}{j0 j:Nat}{ds:List D}{f:Int->Nat->D}{x:D}(hr:(Nat.ble j0 j&&Nat.blt j (j0+ds.length))=true)(hs:Gt (ds.getD (j-j0) .junk) (f i j))(ht:i=k->dV (ds.getD (j-j0) .junk) x)(hf : ¬ i=k->dV (f i j) x):dV (QB (std P) k j0 ds f i j) x:=by
 unfold QB;rw[if_pos hr];refine Xk hs (λh=>ht ?_) (λh=>hf ?_)
 . have h:(i==k)=true:=h;simpa using h
 have h:(i==k)=false:=h;simpa using h
theorem arP{k i:Int}{j0 j:Nat}{ds:List D}{f:Int->Nat->D}{x:D}(hr:(Nat.ble j0 j&&Nat.blt j (j0+ds.length))=false)(hf:dV (f i j) x):dV (QB (std P) k j0 ds f i j) x:=by
 unfold QB;rw[hr];exact hf
theorem atD{n i:Int}{j:Nat}{f h:Int->Nat->D}{x:D}(hs:Gt (f i j) (h (i-n) j))(ht:i<n->dV (f i j) x)(hf : ¬ i<n->dV (h (i-n) j) x):dV (QA (std P) n f h i j) x:=by
 refine Xk (d2:=h (i-n) j) hs (λhb=>ht ?_) (λhb=>hf ?_)
 . have hb:decide (i<n)=true:=hb;simpa using hb
 have hb:decide (i<n)=false:=hb;simpa using hb
theorem atE{o n i:Int}{d1 d2 x:D}(hs:Gt d1 d2)(ht:o<=i/\i<o+n->dV d1 x)(hf : ¬ (o<=i/\i<o+n)->dV d2 x):dV (nP (std P) ((std P).yZ ((std P).le o i) ((std P).lt i ((std P).add o n))) d1 d2) x:=by
 refine Xk hs (λhb=>ht ?_) (λhb=>hf ?_)
 . have hb:(decide (o<=i)&&decide (i<o+n))=true:=hb;simpa using hb
 have hb:(decide (o<=i)&&decide (i<o+n))=false:=hb;simpa using hb
theorem akb{x o a b:Int} : x<o+aP a b↔x<o+a/\x<o+b:=by unfold aP;split<;>omega
theorem aiu{α:Type}(d:α)(l:List α)(i:Int):aj.get d l i=aB d l i:=rfl
theorem dV.slF{sz:Nat}{n n':Int}{t:Bool}{f f':Int->Nat->D}(hn:n=n')(h : ∀ i:Int,0<=i->i<n'->∀ j:Nat,j<sz->f i j=f' i j):dV (.sl sz n t f) (.sl sz n' false f'):=dV.slE hn λi i0 i1=>h i i0 (hn▸i1)
theorem dV.II{t:TypeId}{d d':D}(h:dV d d'):dV (.II t d) (.II t d'):=λ_ _ _ _ _ _ ⟨z,h1,h2⟩=>⟨z,h1,h _ _ _ _ _ _ h2⟩
theorem jZ.ayv{g sz:Nat}{n n':Int}{t:Bool}{f f':Int->Nat->D}(hn:n=n')(h : ∀ i:Int,0<=i->i<n'->∀ j:Nat,j<sz->dV (f i j) (f' i j)):jZ (.arr g sz n t f) (.arr g sz n' t f'):=jZ.arr' hn λi i0 i1=>h i i0 (hn▸i1)
theorem jZ.ayu{g sz:Nat}{n n':Int}{t:Bool}{f f':Int->Nat->D}(hn:n=n')(h : ∀ i:Int,0<=i->i<n'->∀ j:Nat,j<sz->f i j=f' i j):jZ (.arr g sz n t f) (.arr g sz n' t f'):=jZ.ajd hn λi i0 i1=>h i i0 (hn▸i1)
structure Kp (p:Prop):Prop where
 get:p
theorem uY{β:Type}{b:Bool}{X Y:Option β}{r:β}(h:aA b X Y=some r){c:Operand}{x y:Code}{Q:Exit->St->Prop}{st:St}{t:Bool}(hs:strip (std P) (rd (std P) st.slots c)=(.v (.bool t),[]))(ht:b=true->X=some r->Tr P x Q st)(hf:b=false->Y=some r->Tr P y Q st)(hb:t=b:=by exact rfl):Tr P (.cond c x y) Q st:=by
 subst hb;exact Tr.cond hs (λq hq=>by cases hq) (λhc=>ht hc (YJ h hc)) (λhc=>hf hc (YK h hc))
theorem kZ{x a b:Int} : x<=aP a b↔x<=a/\x<=b:=by unfold aP;split<;>omega
theorem xg{x a b:Int} : aP a b<=x↔a<=x\/b<=x:=by unfold aP;split<;>omega
theorem nK{o x a b:Int} : o+aP a b<=x↔o+a<=x\/o+b<=x:=by unfold aP;split<;>omega
theorem qA(x:Int):0<=aY 1 x:=by unfold aY;split<;>omega
theorem aes{P:Program}(j:Nat) : ∀ (l:List (Nat×CV)),cK (std P) (Qg l j) (Qg l j)
 | []=>trivial
 | (k,.int q x)::r=>by
  simp only[Qg];cases Nat.beq j k with
  | true=>exact bI q x
  | false=>exact aes j r
 | (k,.bool b)::r=>by
  simp only[Qg];cases Nat.beq j k with
  | true=>exact iX b
  | false=>exact aes j r
theorem ajs{P:Program}(j:Nat) : ∀ (l:List (Nat×CV)),pW (std P) (Qg l j)
 | []=>trivial
 | (k,.int q x)::r=>by
  simp only[Qg];cases Nat.beq j k with
  | true=>trivial
  | false=>exact ajs j r
 | (k,.bool b)::r=>by
  simp only[Qg];cases Nat.beq j k with
  | true=>trivial
  | false=>exact ajs j r
theorem IJ{P:Program} : ∀ (v:FV) (j:Nat),j<aj.fK v->cK (std P) (aj.fC v j) (aj.fC v j):=by
 intro v
 induction v with
 | nil n=>intro j hj;exact absurd hj (Nat.not_lt_zero _)
 | int r k x ih=>
  intro j hj;rw[aho];cases h:Nat.beq j (aj.fK r) with
  | true=>exact⟨rfl,rfl,λi _ _ j _=>bI k x⟩
  | false=>
   have hj:j<aj.fK r+1:=hj;have h : ¬ j=aj.fK r:=λe=>by rw[e,kF] at h;cases h
   exact ih j ak
 | bool r b ih=>
  intro j hj;rw[ahp];cases h:Nat.beq j (aj.fK r) with
  | true=>exact⟨rfl,rfl,λi _ _ j _=>iX b⟩
  | false=>
   have hj:j<aj.fK r+1:=hj;have h : ¬ j=aj.fK r:=λe=>by rw[e,kF] at h;cases h
   exact ih j ak
 | str r s ih=>
  intro j hj;rw[ahq];cases h:Nat.beq j (aj.fK r) with
  | true=>exact⟨rfl,rfl,λi _ _ j _=>uD s⟩
  | false=>
   have hj:j<aj.fK r+1:=hj;have h : ¬ j=aj.fK r:=λe=>by rw[e,kF] at h;cases h
   exact ih j ak
 | fn r v ih iv=>
  intro j hj;rw[ahr];cases h:Nat.beq j (aj.fK r) with
  | true=>exact⟨rfl,rfl,λi _ _ j _=>⟨rfl,rfl,λ_ _ _ q hq=>iv q hq⟩⟩
  | false=>
   have hj:j<aj.fK r+1:=hj;have h : ¬ j=aj.fK r:=λe=>by rw[e,kF] at h;cases h
   exact ih j ak
 | box r n l ih=>
  intro j hj;rw[ahs];cases h:Nat.beq j (aj.fK r) with
  | true=>
   show(if Nat.beq n n&&Nat.beq 0 0 then _ else _);rw[kF,if_pos (by rfl)];exact⟨rfl,rfl,λi _ _ j _=>aes j l⟩
  | false=>
   have hj:j<aj.fK r+1:=hj;have h : ¬ j=aj.fK r:=λe=>by rw[e,kF] at h;cases h
   exact ih j ak
theorem akV{P:Program}(v:FV):cK (std P) (.fn (.func (aj.fF v)) (aj.fK v) (aj.fC v)) (.fn (.func (aj.fF v)) (aj.fK v) (aj.fC v)):=⟨rfl,rfl,λ_ _ _ j hj=>IJ v j hj⟩
theorem arS{P:Program}{objs:List (Option Ob)} : ∀ (v:FV) (j:Nat),j<aj.fK v->aX (std P) objs (aj.fC v j) (aj.fC v j):=by
 intro v j hj;have h:=IJ (P:=P) v j hj
 induction v with
 | nil n=>exact absurd hj (Nat.not_lt_zero _)
 | int r k x ih=>
  rw[aho];cases hb:Nat.beq j (aj.fK r) with
  | true=>exact⟨rfl,rfl,λi _ _ j _=>bI k x⟩
  | false=>
   have hj:j<aj.fK r+1:=hj;have hb : ¬ j=aj.fK r:=λe=>by rw[e,kF] at hb;cases hb
   exact ih ak (IJ r j ak)
 | bool r b ih=>
  rw[ahp];cases hb:Nat.beq j (aj.fK r) with
  | true=>exact⟨rfl,rfl,λi _ _ j _=>iX b⟩
  | false=>
   have hj:j<aj.fK r+1:=hj;have hb : ¬ j=aj.fK r:=λe=>by rw[e,kF] at hb;cases hb
   exact ih ak (IJ r j ak)
 | str r s ih=>
  rw[ahq];cases hb:Nat.beq j (aj.fK r) with
  | true=>exact⟨rfl,rfl,λi _ _ j _=>uD s⟩
  | false=>
   have hj:j<aj.fK r+1:=hj;have hb : ¬ j=aj.fK r:=λe=>by rw[e,kF] at hb;cases hb
   exact ih ak (IJ r j ak)
 | fn r v ih iv=>
  rw[ahr];cases hb:Nat.beq j (aj.fK r) with
  | true=>exact⟨rfl,rfl,λi _ _ j _=>⟨rfl,rfl,λ_ _ _ q hq=>IJ v q hq⟩⟩
  | false=>
   have hj:j<aj.fK r+1:=hj;have hb : ¬ j=aj.fK r:=λe=>by rw[e,kF] at hb;cases hb
   exact ih ak (IJ r j ak)
 | box r n l ih=>
  rw[ahs];cases hb:Nat.beq j (aj.fK r) with
  | true=>
   show(if Nat.beq n n&&Nat.beq 0 0 then _ else _);rw[kF,if_pos (by rfl)];exact⟨rfl,rfl,λi _ _ j _=>aes j l⟩
  | false=>
   have hj:j<aj.fK r+1:=hj;have hb : ¬ j=aj.fK r:=λe=>by rw[e,kF] at hb;cases hb
   exact ih ak (IJ r j ak)
theorem anJ{P:Program} : ∀ (v:FV) (j:Nat),j<aj.fK v->pW (std P) (aj.fC v j):=by
 intro v
 induction v with
 | nil n=>intro j hj;exact absurd hj (Nat.not_lt_zero _)
 | int r k x ih=>
  intro j hj;rw[aho];cases hb:Nat.beq j (aj.fK r) with
  | true=>first|trivial|(intro i _ _ q _;trivial)
  | false=>
   have hj:j<aj.fK r+1:=hj;have hb : ¬ j=aj.fK r:=λe=>by rw[e,kF] at hb;cases hb
   exact ih j ak
 | bool r b ih=>
  intro j hj;rw[ahp];cases hb:Nat.beq j (aj.fK r) with
  | true=>first|trivial|(intro i _ _ q _;trivial)
  | false=>
   have hj:j<aj.fK r+1:=hj;have hb : ¬ j=aj.fK r:=λe=>by rw[e,kF] at hb;cases hb
   exact ih j ak
 | str r s ih=>
  intro j hj;rw[ahq];cases hb:Nat.beq j (aj.fK r) with
  | true=>first|trivial|(intro i _ _ q _;trivial)
  | false=>
   have hj:j<aj.fK r+1:=hj;have hb : ¬ j=aj.fK r:=λe=>by rw[e,kF] at hb;cases hb
   exact ih j ak
 | fn r v ih iv=>
  intro j hj;rw[ahr];cases hb:Nat.beq j (aj.fK r) with
  | true=>first|trivial|(intro i _ _ q _ _ _ _ z hz;exact iv z hz)
  | false=>
   have hj:j<aj.fK r+1:=hj;have hb : ¬ j=aj.fK r:=λe=>by rw[e,kF] at hb;cases hb
   exact ih j ak
 | box r n l ih=>
  intro j hj;rw[ahs];cases hb:Nat.beq j (aj.fK r) with
  | true=>exact λi _ _ q _=>ajs q l
  | false=>
   have hj:j<aj.fK r+1:=hj;have hb : ¬ j=aj.fK r:=λe=>by rw[e,kF] at hb;cases hb
   exact ih j ak
theorem E5.v(x:Value):E5 (.v x):=λ_ _ _ _ _ h=>h
theorem E5.dX:E5 .dX:=λ_ _ _ _ _ h=>h
theorem E5.agg{k:Nat}{c:Nat->D}(h : ∀ j,j<k->E5 (c j)):E5 (.agg k c):=by
 rintro H I I' y hI ⟨ys,rfl,hs,hx⟩;refine⟨ys,rfl,hs,λj hj=>?_⟩;obtain⟨z,h1,h2,h3⟩:=hx j hj;exact⟨z,h1,h2,h j hj _ _ _ _ hI h3⟩
theorem E5.sl{sz:Nat}{n:Int}{t:Bool}{f:Int->Nat->D}(h : ∀ i j,j<sz->E5 (f i j)):E5 (.sl sz n t f):=by
 rintro H I I' y hI ⟨a,len,cap,rfl,hl,hc,ht,hcells⟩;refine⟨a,len,cap,rfl,hl,hc,ht,λhp=>?_⟩;obtain⟨b,o,c,e,fr,rfl,hb1,hb,hx⟩:=hcells hp;refine⟨b,o,c,e,fr,rfl,hI b hb1,hb,λi hi j hj=>?_⟩;obtain⟨z,h1,h2,h3⟩:=hx i hi j hj;exact⟨z,h1,h2,h _ j hj _ _ _ _ hI h3⟩
section
variable {objs:List (Option Ob)}
theorem kG.junk{d:D} : kG objs d .junk:=λ_ _ _ _ _ _ _=>trivial
theorem kG.le{d d':D}(h:dV d d')(hc:pW (std P) d'):kG objs d d':=λ_ I _ _ _ _ hy=>MZ (IS.au1 I _) (λ_ _=>rfl) _ _ hc (h _ _ _ _ _ _ hy)
theorem kG.v{x:Value} : kG objs (.v x) (.v x):=λ_ _ _ _ _ _ h=>h
theorem kG.sl{sz:Nat}{n n':Int}{t:Bool}{f f':Int->Nat->D}(hn:n=n')(h : ∀ i:Int,0<=i->i<n'->∀ j,j<sz->kG objs (f i j) (f' i j)):kG objs (.sl sz n t f) (.sl sz n' false f'):=by
 subst hn;rintro H I β ctr ho y ⟨a,len,cap,rfl,hl,hc,_,hcells⟩;refine⟨a,len,cap,rfl,hl,hc,(λh=>by cases h),λhp=>?_⟩;obtain⟨b,o,c,e,fr,rfl,hb1,hb,hx⟩:=hcells hp;refine⟨b,o,c,e,fr,rfl,hb1,hb,λi hi j hj=>?_⟩;obtain⟨z,h1,h2,h3⟩:=hx i hi j hj;exact⟨z,h1,h2,h _ ak ak j hj _ _ _ _ ho _ h3⟩
theorem kG.fn{f f':Fn}{k k':Nat}{c c':Nat->D}(hf:f=f')(hk:k=k')(h : ∀ j,j<k->kG objs (c j) (c' j)):kG objs (.fn f k c) (.fn f' k' c'):=by
 subst hf;subst hk;rintro H I β ctr ho y ⟨ys,rfl,hs,hx⟩;refine⟨ys,rfl,hs,λj hj=>?_⟩;obtain⟨z,h1,h3⟩:=hx j hj;exact⟨z,h1,h j hj _ _ _ _ ho _ h3⟩
theorem kG.nP{b:Bool}{d1 d2 x:D}(h:Gt d1 d2)(ht:b=true->kG objs d1 x)(hf:b=false->kG objs d2 x):kG objs (nP (std P) b d1 d2) x:=by
 intro H I β ctr ho y hy;have:=agK b d1 d2 y h hy;cases b
 . exact hf rfl _ _ _ _ ho _ this
 exact ht rfl _ _ _ _ ho _ this
theorem kG.cat{n i:Int}{j:Nat}{f h:Int->Nat->D}{x:D}(hs:Gt (f i j) (h (i-n) j))(ht:i<n->kG objs (f i j) x)(hf : ¬ i<n->kG objs (h (i-n) j) x):kG objs (QA (std P) n f h i j) x:=by
 refine kG.nP (d2:=h (i-n) j) hs (λhb=>ht ?_) (λhb=>hf ?_)
 . have hb:decide (i<n)=true:=hb;simpa using hb
 have hb:decide (i<n)=false:=hb;simpa using hb
theorem kG.apj{b:Bool}{d e x:D}(hb:b=true)(h:kG objs d x):kG objs (.cnd b d e) x:=λH I β ctr ho y hy=>h H I β ctr ho y (hy.1 hb)
theorem kG.apk{b:Bool}{d e x:D}(hb:b=false)(h:kG objs e x):kG objs (.cnd b d e) x:=λH I β ctr ho y hy=>h H I β ctr ho y (hy.2 hb)
theorem kG.fq{id g k:Nat}{cs:List D}{f':Int->Nat->D}(ho:objs[id]? = some (some (.box g cs)))(hk:cs.length=k)(h : ∀ j,j<k->kG objs (cs.getD j .junk) (f' 0 j)):kG objs (.fq id g 0) (.gX k 1 f' 0 0):=by
 subst hk;rintro H I β ctr dP y ⟨hg,hsh,hx⟩;have hr:=dP id _ ho;obtain⟨hgc,b,o,s,c,e,h1,h2,h3,h4,h5,h6⟩:=hr;obtain⟨b',o',s',k1,rfl⟩:=hx cs ho;rw[h1] at k1;cases k1;refine⟨nL _,ak,b,o,c,e,_,bH,.inr ⟨id,_,h1,rfl⟩,h2,λi hi j hj=>?_⟩;obtain rfl:i=0:=ak;have hg:cs[j]? = some (cs.getD j .junk):=by
  rw[wI,iW hj];rfl
 obtain⟨z,z1,z2,z3⟩:=h6 j _ hg;exact⟨z,by rw[← z1];simp,z2,h j hj _ _ _ _ dP _ z3⟩
end
theorem arQ{P:Program}{k:Nat}{c:Nat->D}(h : ∀ j,j<k->pW (std P) (c j)):pW (std P) (.agg k c):=λ_ _ _ j hj=>h j hj
theorem atH{P:Program}{sz:Nat}{n:Int}{t:Bool}{f:Int->Nat->D}(h : ∀ i j,j<sz->pW (std P) (f i j)):pW (std P) (.sl sz n t f):=λi _ _ j hj=>h i j hj
theorem ae8{P:Program}(v:FV):pW (std P) (.fn (.func (aj.fF v)) (aj.fK v) (aj.fC v)):=λ_ _ _ j hj=>anJ v j hj
theorem VY.mk{objs:List (Option Ob)}{f:FuncId}{args args':List D}{d:D}(ok:d9 P f args' d)(hs:ajt objs args args')(hp:E5 d):VY P objs f args d:=⟨args',hs,ok,hp⟩
attribute [irreducible] PG
end Go.Vx
