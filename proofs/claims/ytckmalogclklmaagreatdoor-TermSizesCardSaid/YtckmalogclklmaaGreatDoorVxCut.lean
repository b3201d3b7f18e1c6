/- Frames that tell what differs from the state they begin at. Conditions: none. -/
import Derived.Test.YtckmalogclklmaaGreatDoorVxRnd
import Derived.ScopeJumps
set_option linter.all false
namespace Go.Vx
variable {P:Program}
structure Fr where
 s:List (Nat × D)
 o:List (Nat × Ob)
 p:Unit→Prop
def Fa (s:List (Nat × D)) (o:List (Nat × Ob)):Fr:=⟨s,o,fun _=>True⟩
section
variable {α:Type}
def MZ:Nat→List α→(List α→List α)→List α
 | 0,l,f=>f l
 | _+1,[],_=>[]
 | n+1,d :: l,f=>d :: MZ n l f
def M0 (x:α):Nat→List α→(List α→List α)→List α
 | 0,l,f=>f l
 | _+1,[],_=>[]
 | n+1,_ :: l,f=>x :: M0 x n l f
def BI (x:α):List (Nat × Nat)→List α→List α
 | [],l=>l
 | (a,b) :: r,l=>MZ a l fun l=>M0 x b l fun l=>BI x r l
def CY (y:α):Nat→List α→List α
 | _,[]=>[]
 | 0,_ :: l=>y :: l
 | n+1,d :: l=>d :: CY y n l
def inS:List (Nat × Nat)→Nat→Bool
 | [],_=>false
 | (a,b) :: r,t=>if t < a then false else if t < a+b then true else inS r (t-a-b)
theorem Yl {f:List α→List α} {p:Nat→α→α} (hf : ∀ (l:List α) (t:Nat),(f l)[t]? = (l[t]?).map (p t)) : ∀ (n:Nat) (l:List α) (t:Nat),(MZ n l f)[t]? = (l[t]?).map fun d=>if t < n then d else p (t-n) d
 | 0,l,t=>by simp [MZ,hf]
 | n+1,[],t=>by simp [MZ]
 | n+1,d :: l,0=>by simp [MZ]
 | n+1,d :: l,t+1=>by
  simp only [MZ,List.getElem?_cons_succ,Yl hf n l t,Nat.add_lt_add_iff_right,Nat.add_sub_add_right]
theorem Ym {x:α} {f:List α→List α} {p:Nat→α→α} (hf : ∀ (l:List α) (t:Nat),(f l)[t]? = (l[t]?).map (p t)) : ∀ (n:Nat) (l:List α) (t:Nat),(M0 x n l f)[t]? = (l[t]?).map fun d=>if t < n then x else p (t-n) d
 | 0,l,t=>by simp [M0,hf]
 | n+1,[],t=>by simp [M0]
 | n+1,d :: l,0=>by simp [M0]
 | n+1,d :: l,t+1=>by
  simp only [M0,List.getElem?_cons_succ,Ym hf n l t,Nat.add_lt_add_iff_right,Nat.add_sub_add_right]
theorem KX {x:α} : ∀ (J:List (Nat × Nat)) (l:List α) (t:Nat),(BI x J l)[t]? = (l[t]?).map fun d=>if inS J t then x else d
 | [],l,t=>by simp [BI,inS]
 | (a,b) :: r,l,t=>by
  simp only [BI]
  rw [Yl (p:=fun t d=>if t < b then x else if inS r (t-b) then x else d) (fun l t=>by rw [Ym (KX r)])]
  congr 1;funext d
  simp only [inS]
  by_cases h:t < a
  · simp [h]
  · by_cases h2:t < a+b
    · have h3:t-a < b:=by omega
      simp [h,h2,h3]
    · have h3 : ¬ t-a < b:=by omega
      simp [h,h2,h3]
theorem FK {x:α} (J:List (Nat × Nat)) (l:List α):(BI x J l).length=l.length:=by
 refine Nat.le_antisymm ?_ ?_
 · refine Nat.le_of_not_lt fun h=>?_
   have e:=KX (x:=x) J l l.length
   rw [List.getElem?_eq_getElem h] at e;simp at e
 · refine Nat.le_of_not_lt fun h=>?_
   have e:=KX (x:=x) J l (BI x J l).length
   rw [List.getElem?_eq_getElem h] at e;simp at e
theorem UG {y:α} : ∀ (n:Nat) (l:List α) (t:Nat),(CY y n l)[t]? = (l[t]?).map fun d=>if t=n then y else d
 | n,[],t=>by cases n<;>simp [CY]
 | 0,d :: l,0=>by simp [CY]
 | 0,d :: l,t+1=>by simp [CY]
 | n+1,d :: l,0=>by simp [CY]
 | n+1,d :: l,t+1=>by simp [CY,UG n l t]
end
def XM:List D→List (Nat × D)→List D
 | l,[]=>l
 | l,(k,d) :: r=>XM (CY d k l) r
def XO:List (Option Ob)→List (Nat × Ob)→List (Option Ob)
 | l,[]=>l
 | l,(k,d) :: r=>XO (CY (some d) k l) r
theorem aah : ∀ (ks:List (Nat × D)) (l:List D) (t:Nat) (d:D),(XM l ks)[t]? = some d→l[t]? = some d∨(t,d)∈ks
 | [],_,_,_,h=>.inl h
 | (k,x) :: r,l,t,d,h=>by
  replace h:=aah r _ t d h
  rcases h with h | h
  · rw [UG] at h
    cases hl:l[t]? with
    | none=>rw [hl] at h;cases h
    | some y =>
     rw [hl] at h
     simp only [Option.map_some,Option.some.injEq] at h
     split at h
     · rename_i e;cases e;cases h;exact .inr (List.mem_cons_self ..)
     · cases h;exact .inl rfl
  · exact .inr (List.mem_cons_of_mem _ h)
theorem aai : ∀ (ks:List (Nat × Ob)) (l:List (Option Ob)) (t:Nat) (d:Option Ob),(XO l ks)[t]? = some d→l[t]? = some d∨∃ o,d=some o∧(t,o)∈ks
 | [],_,_,_,h=>.inl h
 | (k,x) :: r,l,t,d,h=>by
  replace h:=aai r _ t d h
  rcases h with h | ⟨o,h1,h⟩
  · rw [UG] at h
    cases hl:l[t]? with
    | none=>rw [hl] at h;cases h
    | some y =>
     rw [hl] at h
     simp only [Option.map_some,Option.some.injEq] at h
     split at h
     · rename_i e;cases e;cases h;exact .inr ⟨x,rfl,List.mem_cons_self ..⟩
     · cases h;exact .inl rfl
  · exact .inr ⟨o,h1,List.mem_cons_of_mem _ h⟩
theorem aaj : ∀ (ks:List (Nat × D)) (l:List D),(XM l ks).length=l.length
 | [],_=>rfl
 | (k,x) :: r,l=>by rw [XM,aaj r];exact (by
  have : ∀ (n:Nat) (l:List D),(CY x n l).length=l.length:=fun n l=>by
   induction l generalizing n with
   | nil=>cases n<;>rfl
   | cons d l ih=>cases n<;>simp [CY,ih]
  exact this k l)
theorem aak : ∀ (ks:List (Nat × Ob)) (l:List (Option Ob)),(XO l ks).length=l.length
 | [],_=>rfl
 | (k,x) :: r,l=>by rw [XO,aak r];exact (by
  have : ∀ (n:Nat) (l:List (Option Ob)),(CY (some x) n l).length=l.length:=fun n l=>by
   induction l generalizing n with
   | nil=>cases n<;>rfl
   | cons d l ih=>cases n<;>simp [CY,ih]
  exact this k l)
theorem kW.ovl {st base:St} {c:Nat} {J O:List (Nat × Nat)} {ks:List (Nat × D)} {os:List (Nat × Ob)} (hc:st.ctr < c) (h1:BI D.junk J st.slots=BI D.junk J base.slots) (h2:BI none O st.objs=BI none O base.objs)
  (h3:UH st.slots ks) (h4:UJ st.objs os):kW st ⟨XM (BI D.junk J base.slots) ks,XO (BI none O base.objs) os,c⟩:=by
 have l1:base.slots.length=st.slots.length:=by
  have:=congrArg List.length h1;rw [FK,FK] at this;exact this.symm
 have l2:base.objs.length=st.objs.length:=by
  have:=congrArg List.length h2;rw [FK,FK] at this;exact this.symm
 refine ⟨hc,oZ.DX ((aaj ..).trans ((FK ..).trans l1)) fun t d d' g1 g2=>?_,ru.DX ((aak ..).trans ((FK ..).trans l2)) fun t o' g2=>?_⟩
 · rcases aah _ _ _ _ g2 with g2 | hm
   · rw [← h1,KX,g1] at g2
     simp only [Option.map_some,Option.some.injEq] at g2
     subst g2
     split
     · exact aZ.junk _
     · exact aZ.refl _
   · obtain ⟨d1,x1,x2⟩:=h3.get _ _ hm
     rw [x1] at g1;cases g1;exact x2
 · rcases aai _ _ _ _ g2 with g2 | ⟨o,ho,hm⟩
   · rw [← h2,KX] at g2
     cases hs:st.objs[t]? with
     | none=>rw [hs] at g2;cases g2
     | some s =>
      rw [hs] at g2
      simp only [Option.map_some,Option.some.injEq] at g2
      split at g2
      · cases g2
      · subst g2;exact ⟨o',rfl,dN.refl _⟩
   · cases ho
     exact h4.get _ _ hm
def fGh (objs:List (Option Ob)) (id:Nat):List Gh:=match objs[id]? with
 | some (some _)=>[.forget id]
 | _=>[]
def dGh (objs:List (Option Ob)) (l:GL):D→D→List Gh
 | .cO,.vec id _ sz _ _=>fGh objs id++[.thaw l id sz]
 | .vec id' _ _ _ _,.vec id _ _ _ _=>if Nat.beq id' id then [] else fGh objs id++[.move l id]
 | _,_=>[]
def cGh (objs:List (Option Ob)) (mk:Nat→GL):Nat→List D→List D→List Gh
 | j,d :: r,e :: q=>dGh objs (mk j) d e++cGh objs mk (j+1) r q
 | _,_,_=>[]
def sGh (objs:List (Option Ob)) (slots:List D):List (Nat × D)→List Gh
 | []=>[]
 | (t,e) :: r=>(match slots.getD t .junk,e with
  | .agg k c,.agg k' c'=>cGh objs (.sub t) 0 (cellsOf k c) (cellsOf k' c')
  | d,e=>dGh objs (.slot t) d e)++sGh objs slots r
def oGh (objs:List (Option Ob)):List (Nat × Ob)→List Gh
 | []=>[]
 | (id,.box _ cs) :: r=>(match objs[id]? with
  | some (some (.box _ cs'))=>cGh objs (.cell id) 0 cs' cs
  | _=>[])++oGh objs r
 | _ :: r=>oGh objs r
def ak8 (objs:List (Option Ob)) (k:Nat):Nat:=match objs[k]? with
 | some (some o)=>o.gen
 | _=>0
def ak9 (objs:List (Option Ob)) (k:Nat):Bool:=match objs[k]? with
 | some (some (.arr _ _ _ t _))=>t
 | _=>false
def af0 (objs:List (Option Ob)):List (Nat × Ob)→List (Nat × Nat)
 | []=>[]
 | (k,_) :: r=>(k,ak8 objs k) :: af0 objs r
def UK:Hid:=⟨0,fun _=>0,fun _=>false⟩
def hidS (st:St) (os:List (Nat × Ob)):Hid:=⟨st.ctr+1,xD (af0 st.objs os),ak9 st.objs⟩
def adt (st:St):Prop:=∀ (k:Nat) (o:Ob),st.objs[k]? = some (some o)→o.gen≤st.ctr
theorem RS.adu {B0:Nat} {h0:Array Obj} {I0:IS} {L:p9} {st:St} {a:Act} {w:World} (R:RS B0 h0 I0 L st a w):adt st:=by
 obtain ⟨I,β,R⟩:=R
 intro k o h
 have:=R.ob k o h
 cases o<;>exact this.1
theorem Tr.adu {c:Code} {Q:Exit→St→Prop} {st:St} (h:adt st→Tr P c Q st):Tr P c Q st :=
 fun B0 h0 I0 L a w K R hK=>h R.adu B0 h0 I0 L a w K R hK
theorem Tr.ahk {c:Code} {Q Q':Exit→St→Prop} {st:St} (h:Tr P c Q st) (hq : ∀ ex st',(∃ B0 h0 I0 L a w,RS B0 h0 I0 L st' a w)→Q ex st'→Q' ex st'):Tr P c Q' st :=
 fun B0 h0 I0 L a w K R hK=>h B0 h0 I0 L a w K R fun ex st' a' w' q R'=>hK ex st' a' w' (hq ex st' ⟨B0,h0,I0,L,a',w',R'⟩ q) R'
theorem ab0 {st:St} (h:adt st) : ∀ os:List (Nat × Ob),adv (af0 st.objs os) (st.ctr+1)
 | []=>trivial
 | (k,_) :: r=>by
  refine ⟨Nat.lt_succ_of_le ?_,ab0 h r⟩
  unfold ak8
  split
  · rename_i o ho;exact h k o ho
  · exact Nat.zero_le _
section
variable {α γ:Type}
abbrev MF (st:St) (J O:List (Nat × Nat)) (F:α→Hid→Fr) (x:α) (t:Hid):St:=⟨XM (BI D.junk J st.slots) (F x t).s,XO (BI none O st.objs) (F x t).o,t.c⟩
abbrev HF (c:Nat) (t:Hid):Prop:=c < t.c∧∀ k,t.g k < t.c
def F7 (P:Program) (base:St) (c:Nat) (J O:List (Nat × Nat)) (F:α→Hid→Fr) (x:α) (st:St):Prop :=
 ∃ l st1 os,nY (std P) l st=some (st1,os)∧(∀ q∈os,q.run (std P))∧c≤st1.ctr∧(F x (hidS st1 (F x UK).o)).p ()∧kW st1 (MF base J O F x (hidS st1 (F x UK).o))
theorem Yn (st:St) (d:D) (l:GL):(uD st d l).ctr=st.ctr:=by
 cases l<;>simp only [uD]<;>(try split)<;>rfl
theorem af2 : ∀ (l:List Gh) {st st1:St} {os:List aU},nY (std P) l st=some (st1,os)→st.ctr≤st1.ctr:=by
 intro l
 induction l with
 | nil=>intro st st1 os h;cases h;exact Nat.le_refl _
 | cons g r ih =>
  intro st st1 os h
  have hn : ∀ c,(std P).NZ c=c+1:=fun _=>rfl
  cases g<;>simp only [nY] at h<;>repeat' split at h
  all_goals first
   | (cases h;done)
   | (have h1:=ih h;simp only [Yn,hn] at h1;omega)
   | (rename_i heq;cases h;have h1:=ih heq;simp only [Yn,hn] at h1;omega)
theorem aiG {st base st1:St} {os:List aU} {c:Nat} {J O:List (Nat × Nat)} {F:α→Hid→Fr} {x:α} (hg:nY (std P) (sGh st.objs st.slots (F x UK).s++oGh st.objs (F x UK).o) st=some (st1,os)) (hos:conj (std P) os True)
  (hc:c≤st.ctr) (hp:(F x (hidS st1 (F x UK).o)).p ())
  (h1:BI D.junk J st1.slots=BI D.junk J base.slots) (h2:BI none O st1.objs=BI none O base.objs) (h3:UH st1.slots (F x (hidS st1 (F x UK).o)).s) (h4:UJ st1.objs (F x (hidS st1 (F x UK).o)).o):F7 P base c J O F x st :=
 ⟨_,st1,os,hg,(oL hos).1,Nat.le_trans hc (af2 _ hg),hp,kW.ovl (Nat.lt_succ_self _) h1 h2 h3 h4⟩
theorem HF.of {st:St} {c:Nat} {os:List (Nat × Ob)} (h:adt st) (hc:c≤st.ctr):HF c (hidS st os) :=
 ⟨Nat.lt_succ_of_le hc,(Hid.oI (t:=ak9 st.objs) (Nat.succ_pos _) (ab0 h os)).2⟩
theorem Tr.lay {base st:St} {c0:Nat} {J O:List (Nat × Nat)} {F:α→Hid→Fr} {x:α} {c:Code} {Q:Exit→St→Prop} (h:F7 P base c0 J O F x st) (hB : ∀ t,HF c0 t→(F x t).p ()→Tr P c Q (MF base J O F x t)):Tr P c Q st:=by
 obtain ⟨l,st1,os,h1,h2,hc,h3,h4⟩:=h
 exact Tr.gh l h1 h2 (Tr.adu fun hg=>Tr.le h4 (hB _ (HF.of hg hc) h3))
theorem F7.ex {base st:St} {c0:Nat} {J O:List (Nat × Nat)} {F:α→Hid→Fr} {x:α} (h:F7 P base c0 J O F x st) (R : ∃ B0 h0 I0 L a w,RS B0 h0 I0 L st a w) : ∃ t,(HF c0 t∧(F x t).p ())∧iR P st (MF base J O F x t):=by
 obtain ⟨l,st1,os,h1,h2,hc,h3,h4⟩:=h
 obtain ⟨B0,h0,I0,L,a,w,R⟩:=R
 exact ⟨_,⟨HF.of (lW l R h1 h2).adu hc,h3⟩,l,st1,os,h1,h2,h4⟩
def wN (P:Program) (base:St) (c:Nat) (J O:List (Nat × Nat)) (F:α→Hid→Fr) (o:γ) (Q:Exit→St→Prop):Fl α γ→Exit→St→Prop
 | .go y=>qE (F7 P base c J O F y) (fun _ _=>False)
 | .out o'=>qE (fun _=>False) (fun ex st'=>o'=o→Q ex st')
theorem bq {A:Option (Fl α γ)} {k:α→Option γ} {r:γ} (h:aM A k=some r) (c:Nat) (J O:List (Nat × Nat)) (F:α→Hid→Fr) {a b:Code} {Q:Exit→St→Prop} {st:St}
  (hB : ∀ (x:α) (c1:Nat) (g:Nat→Nat) (t:Nat→Bool),c < c1→(∀ k,g k < c1)→(F x ⟨c1,g,t⟩).p ()→k x=some r→Tr P b Q (MF st J O F x ⟨c1,g,t⟩)) (hA : ∀ f,A=some f→Tr P a (wN P st c J O F r Q f) st):Tr P (.seq a b) Q st:=by
 obtain ⟨f,hf,hk⟩:=zI h
 refine Tr.seq ((hA f hf).mono fun ex st' q=>?_)
 cases f with
 | go x =>
  cases ex with
  | normal=>exact Tr.lay q fun t h1 h2=>hB x t.c t.g t.t h1.1 h1.2 h2 hk
  | _=>exact q.elim
 | out r' =>
  cases hk
  cases ex with
  | normal=>exact q.elim
  | _=>exact q rfl
def Va (l:Nat) (S:Exit→St→Prop):Exit→St→Prop
 | .goto l',st=>if l'=l then S .normal st else False
 | .normal,_=>False
 | e,st=>S e st
theorem Tr.Ws {c b:Code} {l:Nat} {Q:Exit→St→Prop} {N:St→Prop} {st:St} (hf:findLabel c l=some b)
  (h1:Tr P c (fun e st=>match e with | .goto l'=>l'=l∧N st | .normal=>False | e=>Q e st) st) (h2 : ∀ st',N st'→Tr P b (noGoto Q) st'):Tr P (.scope c) Q st:=by
 intro B0 h0 I0 L a w K R hK
 refine wp_scope_jumps l (fun a' w'=>∃ st',RS B0 h0 I0 L st' a' w'∧N st') (fun _ _=>0) hf (h1 B0 h0 I0 L a w _ R fun ex st' a' w' q R'=>?_) (fun a' w' ⟨st',R',q⟩=>h2 st' q B0 h0 I0 L a' w' _ R' fun ex st2 a2 w2 q2 R2=>?_)
 · cases ex with
   | goto l'=>exact ⟨q.1,st',R',q.2⟩
   | normal=>exact q.elim
   | _=>exact hK _ st' a' w' q R'
 · cases ex with
   | goto l'=>exact q2.elim
   | _=>exact hK _ st2 a2 w2 q2 R2
theorem Wgo (l:Nat) {A:Option (Fl α γ)} {k:α→Option γ} {r:γ} (h:aM A k=some r) (c0:Nat) (J O:List (Nat × Nat)) (F:α→Hid→Fr) {c b:Code} {Q:Exit→St→Prop} {st:St}
  (hB : ∀ (x:α) (c1:Nat) (g:Nat→Nat) (t:Nat→Bool),c0 < c1→(∀ k,g k < c1)→(F x ⟨c1,g,t⟩).p ()→k x=some r→Tr P b (noGoto Q) (MF st J O F x ⟨c1,g,t⟩)) (hA : ∀ f,A=some f→Tr P c (Va l (wN P st c0 J O F r Q f)) st) (hf:findLabel c l=some b:=by rfl):Tr P (.scope c) Q st:=by
 obtain ⟨f,hfA,hk⟩:=zI h
 cases f with
 | go x =>
  refine Tr.Ws hf (N:=F7 P st c0 J O F x) ((hA _ hfA).mono fun ex st' q=>?_) fun st' q=>Tr.lay q fun t h1 h2=>hB x t.c t.g t.t h1.1 h1.2 h2 hk
  cases ex with
  | goto l' =>
   simp only [Va] at q
   split at q
   · rename_i e;exact ⟨e,q⟩
   · exact q.elim
  | _=>exact q.elim
 | out r' =>
  cases hk
  refine Tr.Ws hf (N:=fun _=>False) ((hA _ hfA).mono fun ex st' q=>?_) fun st' q=>q.elim
  cases ex with
  | goto l' =>
   simp only [Va] at q
   split at q
   · exact q.elim
   · exact q.elim
  | normal=>exact q.elim
  | _=>exact q rfl
theorem agQ {cx:Cx} (hT:gH P cx.tt) (hP:P.follows .mixedOrders=true) (n:Nat) {A:Option (Fl α γ)} {k:α→Option γ} {r:γ} (h:aM A k=some r) (c0:Nat) (J O:List (Nat × Nat)) (F:α→Hid→Fr) {c:Code} {Q:Exit→St→Prop} {st:St}
  (hB : ∀ (x:α) (c1:Nat) (g:Nat→Nat) (t:Nat→Bool),c0 < c1→(∀ k,g k < c1)→(F x ⟨c1,g,t⟩).p ()→k x=some r→Tr P (Ve n c) Q (MF st J O F x ⟨c1,g,t⟩)) (hA : ∀ f,A=some f→∀ N,N=wN P st c0 J O F r Q f→Vf (std P) cx N n c st):Tr P c Q st:=by
 obtain ⟨f,hf,hk⟩:=zI h
 refine abm hT hP (N:=wN P st c0 J O F r Q f) (fun ex st' hex q=>?_) n c st (fun st' q=>?_) (hA f hf _ rfl)
 · cases f with
   | go x =>
    cases ex with
    | normal=>exact absurd rfl hex
    | _=>exact q.elim
   | out r' =>
    cases hk
    cases ex with
    | normal=>exact absurd rfl hex
    | _=>exact q rfl
 · cases f with
   | go x=>exact Tr.lay q fun t h1 h2=>hB x t.c t.g t.t h1.1 h1.2 h2 hk
   | out r'=>exact q.elim
theorem dO {body:α→Option (Fl α γ)} {x0:α} {o:γ} (h:bD body x0=some o) (c0:Nat) (J O:List (Nat × Nat)) (F:α→Hid→Fr) {c:Code} {Q:Exit→St→Prop} {st:St} (he:F7 P st c0 J O F x0 st)
  (step : ∀ (x:α) (c1:Nat) (g:Nat→Nat) (t:Nat→Bool) (f:Fl α γ),c0 < c1→(∀ k,g k < c1)→(F x ⟨c1,g,t⟩).p ()→body x=some f→Tr P c (wN P st c0 J O F o Q f) (MF st J O F x ⟨c1,g,t⟩)):Tr P (.loop c) Q st:=by
 intro B0 h0 I0 L a w K R hK
 obtain ⟨t0,h1,h2⟩:=he.ex ⟨_,_,_,_,_,_,R⟩
 refine Tr.bD (MF st J O F) (fun x t=>HF c0 t∧(F x t).p ()) t0 h h1 h2 (fun x t f ho hf=>(step x t.c t.g t.t f ho.1.1 ho.1.2 ho.2 hf).ahk fun ex st' R q=>?_) B0 h0 I0 L a w K R hK
 cases f with
 | go y =>
  cases ex with
  | normal=>exact F7.ex q R
  | _=>exact q.elim
 | out r' =>
  cases ex with
  | normal=>exact q.elim
  | _=>exact q
theorem iO {A:Option (Fl α γ)} {k:α→Option γ} {r:γ} (h:aM A k=some r) (c0:Nat) (J O:List (Nat × Nat)) (F:α→Hid→Fr) {c:Code} {Q:Exit→St→Prop} {st:St} {n:Nat}
  (hB : ∀ (x:α) (c1:Nat) (g:Nat→Nat) (t:Nat→Bool),c0 < c1→(∀ k,g k < c1)→(F x ⟨c1,g,t⟩).p ()→k x=some r→N7 P c Q n (MF st J O F x ⟨c1,g,t⟩)) (hA : ∀ f,A=some f→Tr P c (wN P st c0 J O F r Q f) st):N7 P c Q (n+1) st:=by
 refine N7.cut h (MF st J O F) (fun x t=>HF c0 t∧(F x t).p ()) (fun x t ho hk=>hB x t.c t.g t.t ho.1.1 ho.1.2 ho.2 hk) fun f hf=>(hA f hf).ahk fun ex st' R q=>?_
 cases f with
 | go y =>
  cases ex with
  | normal=>exact F7.ex q R
  | _=>exact q.elim
 | out r' =>
  cases ex with
  | normal=>exact q.elim
  | _=>exact q
end
theorem ahH {tt:TT} (hT:gH P tt) {t:TypeId} {ti:TI} {e:TypeId} {x a d:Nat} {α γ:Type} {n:Int} {A1 A2:Option (Fl α γ)} {k:α→Option γ} {r:γ} (h:lI n (aM A1 k) (aM A2 k)=some r) (c0:Nat) (J O:List (Nat × Nat)) (F:α→Hid→Fr)
  {id:Nat} {oa od:Oper} {yt:TypeId} {ca b:Code} {Q:Exit→St→Prop} {st:St} {sz:Nat} {tight:Bool} {f:Int→Nat→D} (ht:d9 tt t=some ti) (hk:ti.kind = .slice e)
  (ha:oa.op = .move (.tmp x)∧oa.dst=some a∧oa.guard=none) (hd:od.op = .binOp .eql t (.tmp a) (.const (.slice none 0 0)) yt∧od.dst=some d∧od.guard=none)
  (hs:st.slots.getD x .junk = .sl sz n tight f) (hal:a < st.slots.length)
  (hB : ∀ (x:α) (c1:Nat) (g:Nat→Nat) (t:Nat→Bool),c0 < c1→(∀ k,g k < c1)→(F x ⟨c1,g,t⟩).p ()→k x=some r→Tr P b Q (MF st J O F x ⟨c1,g,t⟩))
  (h1:n=0→∀ f,A1=some f→Tr P ca (wN P st c0 J O F r Q f) ⟨(st.slots.set a .junk).set d (.v (.bool true)),st.objs,st.ctr⟩)
  (h2 : ∀ f,A2=some f→Tr P ca (wN P st c0 J O F r Q f) ⟨(st.slots.set a .junk).set d (.v (.bool false)),st.objs,st.ctr⟩):Tr P (.seq (.seq (.region id #[oa,od] false) ca) b) Q st:=by
 have key : ∀ {A:Option (Fl α γ)} {s:St},aM A k=some r→(∀ f,A=some f→Tr P ca (wN P st c0 J O F r Q f) s)→Tr P ca (qE (Tr P b Q) Q) s:=by
  intro A s h hA
  obtain ⟨f,hf,hk⟩:=zI h
  refine (hA f hf).mono fun ex st' q=>?_
  cases f with
  | go x =>
   cases ex with
   | normal=>exact Tr.lay q fun t h1 h2=>hB x t.c t.g t.t h1.1 h1.2 h2 hk
   | _=>exact q.elim
  | out r' =>
   cases hk
   cases ex with
   | normal=>exact q.elim
   | _=>exact q rfl
 refine Tr.seq (Tr.seq (Tr.ala hT ht hk ha hd hs hal (fun h0=>?_) ?_))
 · exact key (alb h h0) (h1 h0)
 · exact key (alc h) h2
def toR:Nat→D→Ik
 | 1,.own sz n t g=>.own sz n t g
 | 1,.uq q k c sz n t g=>.uq q k c sz n t g
 | 3,.own sz n t g=>.own sz n t g
 | _,.own sz n t g=>.plain (.sl sz n t g)
 | _,.uq q k c sz n t g=>.plain (.agg k fun j=>if Nat.beq j q then .sl sz n t g else c j)
 | _,d=>.plain d
def vE (_:List (Nat × Nat)) (_:List (Nat × Ik)) (P:Program) (c:Code) (Q:Exit→St→Prop) (st:St):Prop:=Tr P c Q st
section
variable {β:Type} {c:Code} {Q:Exit→St→Prop} {st:St} {K:List (Nat × Nat)} {O:List (Nat × Ik)} {f:FuncId} {A:List D}
theorem bB (g:vE [] [] P c Q st):Tr P c Q st:=g
theorem QX [Inhabited β] {o:Option β} {C:β→Prop} (ok : ∀ r,o=some r→C r) : ∃ v,∀ w,o=some w→w=v∧C v:=by
 cases o with
 | none=>exact ⟨default,fun w h=>by cases h⟩
 | some v=>exact ⟨v,fun w h=>by cases h;exact ⟨rfl,ok _ rfl⟩⟩
theorem Wo [Inhabited β] (key kind:Nat) {o:Option β} {R:β→D} (ok : ∀ r,o=some r→dn P f A (R r))
  (g : ∀ v,(∀ w,o=some w→w=v∧dn P f A (R v))→vE ((f,kind) :: K) ((key,toR kind (R v)) :: O) P c Q st):vE K O P c Q st:=by
 obtain ⟨v,hv⟩:=QX ok;exact g v hv
theorem Wod (key kind:Nat) {o:Option β} {v:β} {d:D} (ok : ∀ w,o=some w→w=v∧dn P f A d) (g:vE ((f,kind) :: K) ((key,toR kind d) :: O) P c Q st):vE K O P c Q st:=g
theorem Wov [Inhabited β] (key:Nat) {o:Option β} {R:β→D} (ok : ∀ r,o=some r→dn P f A (R r))
  (g : ∀ v,(∀ w,o=some w→w=v∧dn P f A (R v))→vE ((key+1024,7) :: K) ((key,.plain (R v)) :: O) P c Q st):vE K O P c Q st:=by
 obtain ⟨v,hv⟩:=QX ok;exact g v hv
theorem IK [Inhabited β] (key kind:Nat) (b:Bool) {o:Option β} {R:β→D} (ok : ∀ r,o=some r→dn P f A (R r)) (d:β)
  (g : ∀ v,(∀ w,(if b=true then o else some d)=some w→w=v∧(b=true→dn P f A (R v)))→vE ((f,kind) :: K) ((key,toR kind (R v)) :: O) P c Q st):vE K O P c Q st:=by
 obtain ⟨v,hv⟩:=QX (o:=if b=true then o else some d) (C:=fun r=>b=true→dn P f A (R r)) (fun r h hb=>ok r (aeV h hb));exact g v hv
theorem Woe [Inhabited β] (key kind:Nat) {o:Option β} {R:β→D} (ok : ∀ r,o=some r→tK P f A (R r))
  (g : ∀ v,(∀ w,o=some w→w=v∧tK P f A (R v))→vE ((f,kind) :: K) ((key,toR kind (R v)) :: O) P c Q st):vE K O P c Q st:=by
 obtain ⟨v,hv⟩:=QX ok;exact g v hv
theorem IJ [Inhabited β] (key:Nat) {o:Option β} {pre:List Ob} {post:β→List Ob} {R:β→D} (ok : ∀ r,o=some r→jc P f A pre (post r) (R r))
  (g : ∀ v,(∀ w,o=some w→w=v∧jc P f A pre (post v) (R v))→vE ((f,2) :: K) ((key,.Jw (post v) (R v)) :: O) P c Q st):vE K O P c Q st:=by
 obtain ⟨v,hv⟩:=QX ok;exact g v hv
abbrev vi (x:Int):D:=.v (.int .i64 x)
abbrev vu (x:Int):D:=.v (.int .u8 x)
abbrev vr (x:Int):D:=.v (.int .i32 x)
abbrev vb (x:Bool):D:=.v (.bool x)
abbrev vs (x:ByteArray):D:=.v (.string x)
abbrev Li (n:Nv) (l:List Int):D:=.sl 1 (n.len l) false fun i _=>vi (n.get 0 l i)
abbrev Ui (n:Nv) (l:List Int):D:=.own 1 (n.len l) false fun i _=>vi (n.get 0 l i)
abbrev Ri (v:Nv) (g:Nat) (n:Int) (t:Bool) (l:List Int):Ob:=.arr g 1 n t fun i _=>vi (v.get 0 l i)
abbrev Lu (n:Nv) (l:List Int):D:=.sl 1 (n.len l) false fun i _=>vu (n.get 0 l i)
abbrev Ru (v:Nv) (g:Nat) (n:Int) (t:Bool) (l:List Int):Ob:=.arr g 1 n t fun i _=>vu (v.get 0 l i)
abbrev Rb (v:Nv) (g:Nat) (n:Int) (t:Bool) (l:List Bool):Ob:=.arr g 1 n t fun i _=>vb (v.get false l i)
abbrev Us (n:Nv) (l:List ByteArray):D:=.own 1 (n.len l) false fun i _=>vs (n.get ByteArray.empty l i)
abbrev Rs (v:Nv) (g:Nat) (n:Int) (t:Bool) (l:List ByteArray):Ob:=.arr g 1 n t fun i _=>vs (v.get ByteArray.empty l i)
def Jb {α β:Type} (_:Option α) (_:Option β):Prop:=True
section
variable {α γ δ:Type} {o:Option δ}
theorem sB {p:Option β} {k:β→Option γ} : Jb (av p k) p:=trivial
theorem sK {p:Option β} {k:β→Option γ} (v:β) (_:Jb (k v) o):Jb (av p k) o:=trivial
theorem sC {c:Prop} [Decidable c] {X:Option γ} (_:Jb X o):Jb (chk c X) o:=trivial
theorem sT {b:Bool} {X Y:Option γ} (_:Jb X o):Jb (ay b X Y) o:=trivial
theorem sF {b:Bool} {X Y:Option γ} (_:Jb Y o):Jb (ay b X Y) o:=trivial
theorem sA {A:Option (Fl α γ)} {k:α→Option γ} (_:Jb A o):Jb (aM A k) o:=trivial
theorem Wi [Inhabited β] (key kind:Nat) {X:Option γ} {r:γ} (_:X=some r) {o:Option β} (_:Jb X o) {R:β→D} (ok : ∀ r,o=some r→dn P f A (R r))
  (g : ∀ v,(∀ w,o=some w→w=v∧dn P f A (R v))→vE ((f,kind) :: K) ((key,toR kind (R v)) :: O) P c Q st):vE K O P c Q st:=by
 obtain ⟨v,hv⟩:=QX ok;exact g v hv
theorem Wiv [Inhabited β] (key:Nat) {X:Option γ} {r:γ} (_:X=some r) {o:Option β} (_:Jb X o) {R:β→D} (ok : ∀ r,o=some r→dn P f A (R r))
  (g : ∀ v,(∀ w,o=some w→w=v∧dn P f A (R v))→vE ((key+1024,7) :: K) ((key,.plain (R v)) :: O) P c Q st):vE K O P c Q st:=by
 obtain ⟨v,hv⟩:=QX ok;exact g v hv
theorem mR [Inhabited β] (key kind:Nat) {X:Option γ} {r:γ} (_:X=some r) {b:Bool} {o:Option β} {d:β} (_:Jb X (if b=true then o else some d)) {R:β→D} (ok : ∀ r,o=some r→dn P f A (R r))
  (g : ∀ v,(∀ w,(if b=true then o else some d)=some w→w=v∧(b=true→dn P f A (R v)))→vE ((f,kind) :: K) ((key,toR kind (R v)) :: O) P c Q st):vE K O P c Q st:=by
 obtain ⟨v,hv⟩:=QX (o:=if b=true then o else some d) (C:=fun r=>b=true→dn P f A (R r)) (fun r h hb=>ok r (aeV h hb));exact g v hv
end
theorem Wbn {γ:Type} {o:Option β} {k:β→Option γ} {r:γ} {v:β} {C G:Prop} (h:av o k=some r) (h1 : ∀ w,o=some w→w=v∧C) (g:o=some v→C→k v=some r→G):G:=by
 obtain ⟨b,hb,hk⟩:=adw h
 obtain ⟨rfl,hc⟩:=h1 b hb
 exact g hb hc hk
end
def af3:List D→List D→List KM
 | d :: r,.vec _ _ _ _ _ :: q=>(match d with
  | .vec id _ _ o _=>.at id o
  | _=>.nil) :: af3 r q
 | _ :: r,_ :: q=>af3 r q
 | _,_=>[]
def adx (objs:List (Option Ob)):Nat→List Ob→List KM
 | k,.box _ cs' :: r=>(match objs[k]? with
  | some (some (.box _ cs))=>af3 cs cs'
  | _=>[])++adx objs (k+1) r
 | k,.arr 0 _ _ _ _ :: r=>adx objs (k+1) r
 | k,.dead _ :: r=>adx objs (k+1) r
 | _,_=>[]
def Y8:List Ob→List KM
 | .box _ _ :: r=>.top :: Y8 r
 | .arr 0 _ _ _ _ :: r=>.top :: Y8 r
 | .dead _ :: r=>.nil :: Y8 r
 | _=>[]
def kmS (objs:List (Option Ob)) (post:List Ob):List KM:=Y8 post++adx objs 0 post
theorem ahE {tt:TT} {rs:List ResultVar} {post:List Ob} {res:D} {st:St} {ds:List D} {os:List aU} (h:pO (std P) tt st.objs st.slots rs=some (ds,os)) (hos:conj (std P) os True) (ho:HY (std P) ds res) (he:CZ (std P) st.objs (kmS st.objs post) post):Dj (std P) tt rs post res .ret st:=aeW h hos ho _ he
theorem ahF {tt:TT} {rs:List ResultVar} {post:List Ob} {res:D} {st:St} {ds:List D} {os:List aU} (h:pO (std P) tt st.objs st.slots rs=some (ds,os)) (hos:conj (std P) os True) (ho:HY (std P) ds res) (he:CZ (std P) st.objs (kmS st.objs post) post):Dj (std P) tt rs post res .normal st:=aal h hos ho _ he
theorem leC {a c:Nat} {s:List D} {o:List (Option Ob)} (h:a≤c):a≤(St.mk s o c).ctr:=h
theorem afq (a:Int):(std P).add 0 a=a:=Int.zero_add a
def yU:D→D→Prop
 | .v (.int k _),.v (.int k' _)=>k=k'
 | .sl sz _ _ f,.sl sz' _ _ f'=>sz=sz'∧∀ i j,j < sz→yU (f i j) (f' i j)
 | .agg k c,.agg k' c'=>k=k'∧∀ j,j < k→yU (c j) (c' j)
 | .junk,_=>False
 | _,_=>True
theorem Yo {h:Array Obj} {I:IS} {β:Nat→Option (Nat × Nat × Array Value)} {objs:List (Option Ob)} {ctr:Nat} (b:Bool) : ∀ (d1 d2:D) (y:Value),yU d1 d2→Rd h I β objs ctr (jM (std P) b d1 d2) y→Rd h I β objs ctr (if b=true then d1 else d2) y:=by
 have fall : ∀ (d1 d2:D) (y:Value),Rd h I β objs ctr (.cnd b d1 d2) y→Rd h I β objs ctr (if b=true then d1 else d2) y:=by
  intro d1 d2 y hy
  cases b
  · exact hy.2 rfl
  · exact hy.1 rfl
 intro d1
 induction d1 with
 | v x =>
  intro d2 y hs hy
  cases d2 with
  | v x' =>
   cases x<;>cases x'<;>first
    | exact fall _ _ _ hy
    | (cases b<;>exact hy)
    | (simp only [yU] at hs;subst hs;simp only [jM,if_true] at hy;cases b<;>exact hy)
  | _=>cases x<;>exact fall _ _ _ hy
 | sl sz n t f ih =>
  intro d2 y hs hy
  cases d2 with
  | sl sz' n' t' f' =>
   simp only [yU] at hs
   obtain ⟨rfl,hs⟩:=hs
   simp only [jM,Nat.beq_refl,if_true] at hy
   obtain ⟨a,len,cap,rfl,x1,x2,x3,x4⟩:=hy
   cases b
   · refine ⟨a,len,cap,rfl,x1,x2,x3,fun hp=>?_⟩
     obtain ⟨bb,o,c,e,fr,z1,z2,z3,z4⟩:=x4 hp
     refine ⟨bb,o,c,e,fr,z1,z2,z3,fun i hi j hj=>?_⟩
     obtain ⟨z,q1,q2,q3⟩:=z4 i hi j hj
     exact ⟨z,q1,q2,ih _ _ _ _ (hs i j hj) q3⟩
   · refine ⟨a,len,cap,rfl,x1,x2,x3,fun hp=>?_⟩
     obtain ⟨bb,o,c,e,fr,z1,z2,z3,z4⟩:=x4 hp
     refine ⟨bb,o,c,e,fr,z1,z2,z3,fun i hi j hj=>?_⟩
     obtain ⟨z,q1,q2,q3⟩:=z4 i hi j hj
     exact ⟨z,q1,q2,ih _ _ _ _ (hs i j hj) q3⟩
  | _=>exact fall _ _ _ hy
 | agg k c ih =>
  intro d2 y hs hy
  cases d2 with
  | agg k' c' =>
   simp only [yU] at hs
   obtain ⟨rfl,hs⟩:=hs
   simp only [jM,Nat.beq_refl,if_true] at hy
   obtain ⟨ys,rfl,x1,x2⟩:=hy
   cases b
   · refine ⟨ys,rfl,x1,fun j hj=>?_⟩
     obtain ⟨z,q1,q2,q3⟩:=x2 j hj
     exact ⟨z,q1,q2,ih _ _ _ (hs j hj) q3⟩
   · refine ⟨ys,rfl,x1,fun j hj=>?_⟩
     obtain ⟨z,q1,q2,q3⟩:=x2 j hj
     exact ⟨z,q1,q2,ih _ _ _ (hs j hj) q3⟩
  | _=>exact fall _ _ _ hy
 | cO =>
  intro d2 y hs hy
  cases d2 with
  | cO=>cases b<;>exact hy
  | _=>exact fall _ _ _ hy
 | junk=>intro d2 y hs;exact hs.elim
 | _=>intro d2 y hs hy;cases d2<;>exact fall _ _ _ hy
theorem M4 {b:Bool} {d1 d2 x:D} (h:yU d1 d2) (ht:b=true→aZ d1 x) (hf:b=false→aZ d2 x):aZ (jM (std P) b d1 d2) x:=by
 intro h' I β objs ctr y hy
 have:=Yo b d1 d2 y h hy
 cases b
 · exact hf rfl _ _ _ _ _ _ this
 · exact ht rfl _ _ _ _ _ _ this
def ady:D→D→Prop
 | .v (.int k _),.v (.int k' _)=>k=k'
 | .v (.bool _),.v (.bool _)=>True
 | .v (.string _),.v (.string _)=>True
 | .cO,.cO=>True
 | .sl sz _ _ f,.sl sz' _ _ f'=>sz=sz'∧∀ i j,j < sz→ady (f i j) (f' i j)
 | .agg k c,.agg k' c'=>k=k'∧∀ j,j < k→ady (c j) (c' j)
 | _,_=>False
theorem aeX (b:Bool) : ∀ (d1 d2 x:D),ady d1 d2→(b=true→bG (std P) d1 x)→(b=false→bG (std P) d2 x)→bG (std P) (jM (std P) b d1 d2) x:=by
 intro d1
 induction d1 with
 | v y =>
  intro d2 x hs ht hf
  cases d2 with
  | v z =>
   match y,z,hs,ht,hf with
   | .int k m,.int k' m',hs,ht,hf =>
    have hs:k=k':=hs
    subst hs
    have e:jM (std P) b (.v (.int k m)) (.v (.int k m')) = .v (.int k ((std P).FP b m m')):=if_pos rfl
    rw [e]
    cases b
    · exact hf rfl
    · exact ht rfl
   | .bool _,.bool _,_,ht,hf=>cases b;exact hf rfl;exact ht rfl
   | .string _,.string _,_,ht,hf=>cases b;exact hf rfl;exact ht rfl
  | _=>cases y<;>exact False.elim hs
 | cO =>
  intro d2 x hs ht hf
  cases d2 with
  | cO=>cases b;exact hf rfl;exact ht rfl
  | _=>exact False.elim hs
 | sl sz n t f ih =>
  intro d2 x hs ht hf
  cases d2 with
  | sl sz' n' t' f' =>
   obtain ⟨rfl,hs⟩:=hs
   simp only [jM,Nat.beq_refl,if_true]
   cases x with
   | sl jC n2 t2 f2 =>
    cases b
    · have h:=hf rfl
      simp only [bG] at h ⊢
      split at h
      · rename_i hk
        rw [if_pos hk]
        exact ⟨h.1,h.2.1,fun i h0 h1 j hj=>ih i j _ _ (hs i j hj) (fun e=>by cases e) (fun _=>h.2.2 i h0 h1 j hj)⟩
      · exact h.elim
    · have h:=ht rfl
      simp only [bG] at h ⊢
      split at h
      · rename_i hk
        rw [if_pos hk]
        exact ⟨h.1,h.2.1,fun i h0 h1 j hj=>ih i j _ _ (hs i j hj) (fun _=>h.2.2 i h0 h1 j hj) (fun e=>by cases e)⟩
      · exact h.elim
   | junk=>exact trivial
   | v y=>cases b;(exact (by have h:=hf rfl;cases y<;>exact False.elim h));(exact (by have h:=ht rfl;cases y<;>exact False.elim h))
   | fn y k2 c2=>cases b;(exact (by have h:=hf rfl;cases y<;>exact False.elim h));(exact (by have h:=ht rfl;cases y<;>exact False.elim h))
   | _=>cases b;exact hf rfl;exact ht rfl
  | _=>exact False.elim hs
 | agg k c ih =>
  intro d2 x hs ht hf
  cases d2 with
  | agg k' c' =>
   obtain ⟨rfl,hs⟩:=hs
   simp only [jM,Nat.beq_refl,if_true]
   cases x with
   | agg k2 c2 =>
    cases b
    · have h:=hf rfl
      simp only [bG] at h ⊢
      split at h
      · rename_i hk
        rw [if_pos hk]
        exact fun i h0 h1 j hj=>ih j _ _ (hs j hj) (fun e=>by cases e) (fun _=>h i h0 h1 j hj)
      · exact h.elim
    · have h:=ht rfl
      simp only [bG] at h ⊢
      split at h
      · rename_i hk
        rw [if_pos hk]
        exact fun i h0 h1 j hj=>ih j _ _ (hs j hj) (fun _=>h i h0 h1 j hj) (fun e=>by cases e)
      · exact h.elim
   | junk=>exact trivial
   | v y=>cases b;(exact (by have h:=hf rfl;cases y<;>exact False.elim h));(exact (by have h:=ht rfl;cases y<;>exact False.elim h))
   | fn y k2 c2=>cases b;(exact (by have h:=hf rfl;cases y<;>exact False.elim h));(exact (by have h:=ht rfl;cases y<;>exact False.elim h))
   | _=>cases b;exact hf rfl;exact ht rfl
  | _=>exact False.elim hs
 | _=>intro d2 x hs;cases d2<;>exact False.elim hs
theorem afr {n i:Int} {j:Nat} {f h:Int→Nat→D} {x:D} (hs:ady (f i j) (h (i-n) j)) (ht:i < n→bG (std P) (f i j) x) (hf : ¬ i < n→bG (std P) (h (i-n) j) x):bG (std P) (sZ (std P) n f h i j) x :=
 aeX _ _ _ _ hs (fun e=>ht (of_decide_eq_true e)) (fun e=>hf (of_decide_eq_false e))
theorem aeb {k i:Int} {j0 j:Nat} {ds:List D} {f:Int→Nat→D} {x:D} (hr:(Nat.ble j0 j && Nat.blt j (j0+ds.length))=true) (hs:yU (ds.getD (j-j0) .junk) (f i j)) (ht:i=k→aZ (ds.getD (j-j0) .junk) x) (hf : ¬ i=k→aZ (f i j) x):aZ (BJ (std P) k j0 ds f i j) x:=by
 unfold BJ
 rw [if_pos hr]
 refine M4 hs (fun h=>ht ?_) (fun h=>hf ?_)
 · have h:(i == k)=true:=h
   simpa using h
 · have h:(i == k)=false:=h
   simpa using h
theorem ahA {k i:Int} {j0 j:Nat} {ds:List D} {f:Int→Nat→D} {x:D} (hr:(Nat.ble j0 j && Nat.blt j (j0+ds.length))=false) (hf:aZ (f i j) x):aZ (BJ (std P) k j0 ds f i j) x:=by
 unfold BJ
 rw [hr]
 exact hf
theorem aec {n i:Int} {j:Nat} {f h:Int→Nat→D} {x:D} (hs:yU (f i j) (h (i-n) j)) (ht:i < n→aZ (f i j) x) (hf : ¬ i < n→aZ (h (i-n) j) x):aZ (sZ (std P) n f h i j) x:=by
 refine M4 (d2:=h (i-n) j) hs (fun hb=>ht ?_) (fun hb=>hf ?_)
 · have hb:decide (i < n)=true:=hb
   simpa using hb
 · have hb:decide (i < n)=false:=hb
   simpa using hb
theorem aiF {o n i:Int} {d1 d2 x:D} (hs:yU d1 d2) (ht:o≤i∧i < o+n→aZ d1 x) (hf : ¬ (o≤i∧i < o+n)→aZ d2 x):aZ (jM (std P) ((std P).rJ ((std P).le o i) ((std P).lt i ((std P).add o n))) d1 d2) x:=by
 refine M4 hs (fun hb=>ht ?_) (fun hb=>hf ?_)
 · have hb:(decide (o≤i) && decide (i < o+n))=true:=hb
   simpa using hb
 · have hb:(decide (o≤i) && decide (i < o+n))=false:=hb
   simpa using hb
theorem aaW {x o a b:Int} : x < o+bH a b ↔ x < o+a∧x < o+b:=by unfold bH;split<;>omega
theorem Zj {α:Type} (d:α) (l:List α) (i:Int):aj.get d l i=au d l i:=rfl
theorem aZ.slF {sz:Nat} {n n':Int} {t:Bool} {f f':Int→Nat→D} (hn:n=n') (h : ∀ i:Int,0≤i→i < n'→∀ j:Nat,j < sz→f i j=f' i j):aZ (.sl sz n t f) (.sl sz n' false f'):=aZ.slE hn fun i i0 i1=>h i i0 (hn ▸ i1)
theorem aZ.Ac {t:TypeId} {d d':D} (h:aZ d d'):aZ (.Ac t d) (.Ac t d'):=fun _ _ _ _ _ _ ⟨z,h1,h2⟩=>⟨z,h1,h _ _ _ _ _ _ h2⟩
theorem dN.aoj {g sz:Nat} {n n':Int} {t:Bool} {f f':Int→Nat→D} (hn:n=n') (h : ∀ i:Int,0≤i→i < n'→∀ j:Nat,j < sz→aZ (f i j) (f' i j)):dN (.arr g sz n t f) (.arr g sz n' t f'):=dN.arr' hn fun i i0 i1=>h i i0 (hn ▸ i1)
theorem dN.aoi {g sz:Nat} {n n':Int} {t:Bool} {f f':Int→Nat→D} (hn:n=n') (h : ∀ i:Int,0≤i→i < n'→∀ j:Nat,j < sz→f i j=f' i j):dN (.arr g sz n t f) (.arr g sz n' t f'):=dN.ML hn fun i i0 i1=>h i i0 (hn ▸ i1)
structure Kp (p:Prop):Prop where
 get:p
theorem yP {β:Type} {b:Bool} {X Y:Option β} {r:β} (h:ay b X Y=some r) {c:Operand} {x y:Code} {Q:Exit→St→Prop} {st:St} {t:Bool} (hs:strip (std P) (rd (std P) st.slots c)=(.v (.bool t),[])) (ht:b=true→X=some r→Tr P x Q st) (hf:b=false→Y=some r→Tr P y Q st) (hb:t=b:=by exact rfl):Tr P (.cond c x y) Q st:=by
 subst hb
 exact Tr.cond hs (fun q hq=>by cases hq) (fun hc=>ht hc (vR h hc)) (fun hc=>hf hc (vS h hc))
theorem iP {x a b:Int} : x≤bH a b ↔ x≤a∧x≤b:=by unfold bH;split<;>omega
theorem qd {x a b:Int} : bH a b≤x ↔ a≤x∨b≤x:=by unfold bH;split<;>omega
theorem jZ {o x a b:Int} : o+bH a b≤x ↔ o+a≤x∨o+b≤x:=by unfold bH;split<;>omega
theorem lT (x:Int):0≤bR 1 x:=by unfold bR;split<;>omega
theorem Wu {P:Program} (j:Nat) : ∀ (l:List (Nat × CV)),bG (std P) (NS l j) (NS l j)
 | []=>trivial
 | (k,.int q x) :: r=>by
  simp only [NS]
  cases Nat.beq j k with
  | true=>exact ak q x
  | false=>exact Wu j r
 | (k,.bool b) :: r=>by
  simp only [NS]
  cases Nat.beq j k with
  | true=>exact aP b
  | false=>exact Wu j r
theorem aam {P:Program} (j:Nat) : ∀ (l:List (Nat × CV)),lG (std P) (NS l j)
 | []=>trivial
 | (k,.int q x) :: r=>by
  simp only [NS]
  cases Nat.beq j k with
  | true=>trivial
  | false=>exact aam j r
 | (k,.bool b) :: r=>by
  simp only [NS]
  cases Nat.beq j k with
  | true=>trivial
  | false=>exact aam j r
theorem Ad {P:Program} : ∀ (v:FV) (j:Nat),j < aj.fK v→bG (std P) (aj.fC v j) (aj.fC v j):=by
 intro v
 induction v with
 | nil n=>intro j hj;exact absurd hj (Nat.not_lt_zero _)
 | int r k x ih =>
  intro j hj
  rw [YT]
  cases h:Nat.beq j (aj.fK r) with
  | true=>exact ⟨rfl,rfl,fun i _ _ j _=>ak k x⟩
  | false =>
   have hj:j < aj.fK r+1:=hj
   have h : ¬ j=aj.fK r:=fun e=>by rw [e,Nat.beq_refl] at h;cases h
   exact ih j (by omega)
 | bool r b ih =>
  intro j hj
  rw [YU]
  cases h:Nat.beq j (aj.fK r) with
  | true=>exact ⟨rfl,rfl,fun i _ _ j _=>aP b⟩
  | false =>
   have hj:j < aj.fK r+1:=hj
   have h : ¬ j=aj.fK r:=fun e=>by rw [e,Nat.beq_refl] at h;cases h
   exact ih j (by omega)
 | str r s ih =>
  intro j hj
  rw [YV]
  cases h:Nat.beq j (aj.fK r) with
  | true=>exact ⟨rfl,rfl,fun i _ _ j _=>jv s⟩
  | false =>
   have hj:j < aj.fK r+1:=hj
   have h : ¬ j=aj.fK r:=fun e=>by rw [e,Nat.beq_refl] at h;cases h
   exact ih j (by omega)
 | fn r v ih iv =>
  intro j hj
  rw [YW]
  cases h:Nat.beq j (aj.fK r) with
  | true=>exact ⟨rfl,rfl,fun i _ _ j _=>⟨rfl,rfl,fun _ _ _ q hq=>iv q hq⟩⟩
  | false =>
   have hj:j < aj.fK r+1:=hj
   have h : ¬ j=aj.fK r:=fun e=>by rw [e,Nat.beq_refl] at h;cases h
   exact ih j (by omega)
 | box r n l ih =>
  intro j hj
  rw [YX]
  cases h:Nat.beq j (aj.fK r) with
  | true =>
   show (if Nat.beq n n && Nat.beq 0 0 then _ else _)
   rw [Nat.beq_refl,if_pos (by rfl)]
   exact ⟨rfl,rfl,fun i _ _ j _=>Wu j l⟩
  | false =>
   have hj:j < aj.fK r+1:=hj
   have h : ¬ j=aj.fK r:=fun e=>by rw [e,Nat.beq_refl] at h;cases h
   exact ih j (by omega)
theorem abx {P:Program} (v:FV):bG (std P) (.fn (.func (aj.fF v)) (aj.fK v) (aj.fC v)) (.fn (.func (aj.fF v)) (aj.fK v) (aj.fC v)):=⟨rfl,rfl,fun _ _ _ j hj=>Ad v j hj⟩
theorem ahD {P:Program} {objs:List (Option Ob)} : ∀ (v:FV) (j:Nat),j < aj.fK v→aO (std P) objs (aj.fC v j) (aj.fC v j):=by
 intro v j hj
 have h:=Ad (P:=P) v j hj
 induction v with
 | nil n=>exact absurd hj (Nat.not_lt_zero _)
 | int r k x ih =>
  rw [YT]
  cases hb:Nat.beq j (aj.fK r) with
  | true=>exact ⟨rfl,rfl,fun i _ _ j _=>ak k x⟩
  | false =>
   have hj:j < aj.fK r+1:=hj
   have hb : ¬ j=aj.fK r:=fun e=>by rw [e,Nat.beq_refl] at hb;cases hb
   exact ih (by omega) (Ad r j (by omega))
 | bool r b ih =>
  rw [YU]
  cases hb:Nat.beq j (aj.fK r) with
  | true=>exact ⟨rfl,rfl,fun i _ _ j _=>aP b⟩
  | false =>
   have hj:j < aj.fK r+1:=hj
   have hb : ¬ j=aj.fK r:=fun e=>by rw [e,Nat.beq_refl] at hb;cases hb
   exact ih (by omega) (Ad r j (by omega))
 | str r s ih =>
  rw [YV]
  cases hb:Nat.beq j (aj.fK r) with
  | true=>exact ⟨rfl,rfl,fun i _ _ j _=>jv s⟩
  | false =>
   have hj:j < aj.fK r+1:=hj
   have hb : ¬ j=aj.fK r:=fun e=>by rw [e,Nat.beq_refl] at hb;cases hb
   exact ih (by omega) (Ad r j (by omega))
 | fn r v ih iv =>
  rw [YW]
  cases hb:Nat.beq j (aj.fK r) with
  | true=>exact ⟨rfl,rfl,fun i _ _ j _=>⟨rfl,rfl,fun _ _ _ q hq=>Ad v q hq⟩⟩
  | false =>
   have hj:j < aj.fK r+1:=hj
   have hb : ¬ j=aj.fK r:=fun e=>by rw [e,Nat.beq_refl] at hb;cases hb
   exact ih (by omega) (Ad r j (by omega))
 | box r n l ih =>
  rw [YX]
  cases hb:Nat.beq j (aj.fK r) with
  | true =>
   show (if Nat.beq n n && Nat.beq 0 0 then _ else _)
   rw [Nat.beq_refl,if_pos (by rfl)]
   exact ⟨rfl,rfl,fun i _ _ j _=>Wu j l⟩
  | false =>
   have hj:j < aj.fK r+1:=hj
   have hb : ¬ j=aj.fK r:=fun e=>by rw [e,Nat.beq_refl] at hb;cases hb
   exact ih (by omega) (Ad r j (by omega))
theorem aei {P:Program} : ∀ (v:FV) (j:Nat),j < aj.fK v→lG (std P) (aj.fC v j):=by
 intro v
 induction v with
 | nil n=>intro j hj;exact absurd hj (Nat.not_lt_zero _)
 | int r k x ih =>
  intro j hj
  rw [YT]
  cases hb:Nat.beq j (aj.fK r) with
  | true=>first | trivial | (intro i _ _ q _;trivial)
  | false =>
   have hj:j < aj.fK r+1:=hj
   have hb : ¬ j=aj.fK r:=fun e=>by rw [e,Nat.beq_refl] at hb;cases hb
   exact ih j (by omega)
 | bool r b ih =>
  intro j hj
  rw [YU]
  cases hb:Nat.beq j (aj.fK r) with
  | true=>first | trivial | (intro i _ _ q _;trivial)
  | false =>
   have hj:j < aj.fK r+1:=hj
   have hb : ¬ j=aj.fK r:=fun e=>by rw [e,Nat.beq_refl] at hb;cases hb
   exact ih j (by omega)
 | str r s ih =>
  intro j hj
  rw [YV]
  cases hb:Nat.beq j (aj.fK r) with
  | true=>first | trivial | (intro i _ _ q _;trivial)
  | false =>
   have hj:j < aj.fK r+1:=hj
   have hb : ¬ j=aj.fK r:=fun e=>by rw [e,Nat.beq_refl] at hb;cases hb
   exact ih j (by omega)
 | fn r v ih iv =>
  intro j hj
  rw [YW]
  cases hb:Nat.beq j (aj.fK r) with
  | true=>first | trivial | (intro i _ _ q _ _ _ _ z hz;exact iv z hz)
  | false =>
   have hj:j < aj.fK r+1:=hj
   have hb : ¬ j=aj.fK r:=fun e=>by rw [e,Nat.beq_refl] at hb;cases hb
   exact ih j (by omega)
 | box r n l ih =>
  intro j hj
  rw [YX]
  cases hb:Nat.beq j (aj.fK r) with
  | true=>exact fun i _ _ q _=>aam q l
  | false =>
   have hj:j < aj.fK r+1:=hj
   have hb : ¬ j=aj.fK r:=fun e=>by rw [e,Nat.beq_refl] at hb;cases hb
   exact ih j (by omega)
theorem xH.v (x:Value):xH (.v x):=fun _ _ _ _ _ h=>h
theorem xH.cO:xH .cO:=fun _ _ _ _ _ h=>h
theorem xH.agg {k:Nat} {c:Nat→D} (h : ∀ j,j < k→xH (c j)):xH (.agg k c):=by
 rintro H I I' y hI ⟨ys,rfl,hs,hx⟩
 refine ⟨ys,rfl,hs,fun j hj=>?_⟩
 obtain ⟨z,h1,h2,h3⟩:=hx j hj
 exact ⟨z,h1,h2,h j hj _ _ _ _ hI h3⟩
theorem xH.sl {sz:Nat} {n:Int} {t:Bool} {f:Int→Nat→D} (h : ∀ i j,j < sz→xH (f i j)):xH (.sl sz n t f):=by
 rintro H I I' y hI ⟨a,len,cap,rfl,hl,hc,ht,hcells⟩
 refine ⟨a,len,cap,rfl,hl,hc,ht,fun hp=>?_⟩
 obtain ⟨b,o,c,e,fr,rfl,hb1,hb,hx⟩:=hcells hp
 refine ⟨b,o,c,e,fr,rfl,hI b hb1,hb,fun i hi j hj=>?_⟩
 obtain ⟨z,h1,h2,h3⟩:=hx i hi j hj
 exact ⟨z,h1,h2,h _ j hj _ _ _ _ hI h3⟩
section
variable {objs:List (Option Ob)}
theorem iH.junk {d:D} : iH objs d .junk:=fun _ _ _ _ _ _ _=>trivial
theorem iH.le {d d':D} (h:aZ d d') (hc:lG (std P) d'):iH objs d d':=fun _ I _ _ _ _ hy=>DY (IS.ald I _) (fun _ _=>rfl) _ _ hc (h _ _ _ _ _ _ hy)
theorem iH.v {x:Value} : iH objs (.v x) (.v x):=fun _ _ _ _ _ _ h=>h
theorem iH.sl {sz:Nat} {n n':Int} {t:Bool} {f f':Int→Nat→D} (hn:n=n') (h : ∀ i:Int,0≤i→i < n'→∀ j,j < sz→iH objs (f i j) (f' i j)):iH objs (.sl sz n t f) (.sl sz n' false f'):=by
 subst hn
 rintro H I β ctr ho y ⟨a,len,cap,rfl,hl,hc,_,hcells⟩
 refine ⟨a,len,cap,rfl,hl,hc,(fun h=>by cases h),fun hp=>?_⟩
 obtain ⟨b,o,c,e,fr,rfl,hb1,hb,hx⟩:=hcells hp
 refine ⟨b,o,c,e,fr,rfl,hb1,hb,fun i hi j hj=>?_⟩
 obtain ⟨z,h1,h2,h3⟩:=hx i hi j hj
 exact ⟨z,h1,h2,h _ (by omega) (by omega) j hj _ _ _ _ ho _ h3⟩
theorem iH.fn {f f':Fn} {k k':Nat} {c c':Nat→D} (hf:f=f') (hk:k=k') (h : ∀ j,j < k→iH objs (c j) (c' j)):iH objs (.fn f k c) (.fn f' k' c'):=by
 subst hf;subst hk
 rintro H I β ctr ho y ⟨ys,rfl,hs,hx⟩
 refine ⟨ys,rfl,hs,fun j hj=>?_⟩
 obtain ⟨z,h1,h3⟩:=hx j hj
 exact ⟨z,h1,h j hj _ _ _ _ ho _ h3⟩
theorem iH.jM {b:Bool} {d1 d2 x:D} (h:yU d1 d2) (ht:b=true→iH objs d1 x) (hf:b=false→iH objs d2 x):iH objs (jM (std P) b d1 d2) x:=by
 intro H I β ctr ho y hy
 have:=Yo b d1 d2 y h hy
 cases b
 · exact hf rfl _ _ _ _ ho _ this
 · exact ht rfl _ _ _ _ ho _ this
theorem iH.cat {n i:Int} {j:Nat} {f h:Int→Nat→D} {x:D} (hs:yU (f i j) (h (i-n) j)) (ht:i < n→iH objs (f i j) x) (hf : ¬ i < n→iH objs (h (i-n) j) x):iH objs (sZ (std P) n f h i j) x:=by
 refine iH.jM (d2:=h (i-n) j) hs (fun hb=>ht ?_) (fun hb=>hf ?_)
 · have hb:decide (i < n)=true:=hb
   simpa using hb
 · have hb:decide (i < n)=false:=hb
   simpa using hb
theorem iH.afn {b:Bool} {d e x:D} (hb:b=true) (h:iH objs d x):iH objs (.cnd b d e) x:=fun H I β ctr ho y hy=>h H I β ctr ho y (hy.1 hb)
theorem iH.afo {b:Bool} {d e x:D} (hb:b=false) (h:iH objs e x):iH objs (.cnd b d e) x:=fun H I β ctr ho y hy=>h H I β ctr ho y (hy.2 hb)
theorem iH.dI {id g k:Nat} {cs:List D} {f':Int→Nat→D} (ho:objs[id]? = some (some (.box g cs))) (hk:cs.length=k) (h : ∀ j,j < k→iH objs (cs.getD j .junk) (f' 0 j)):iH objs (.dI id g 0) (.gY k 1 f' 0 0):=by
 subst hk
 rintro H I β ctr cK y ⟨hg,hsh,hx⟩
 have hr:=cK id _ ho
 obtain ⟨hgc,b,o,s,c,e,h1,h2,h3,h4,h5,h6⟩:=hr
 obtain ⟨b',o',s',k1,rfl⟩:=hx cs ho
 rw [h1] at k1;cases k1
 refine ⟨Int.le_refl _,by omega,b,o,c,e,_,by simp,.inr ⟨id,_,h1,rfl⟩,h2,fun i hi j hj=>?_⟩
 obtain rfl:i=0:=by omega
 have hg:cs[j]? = some (cs.getD j .junk):=by
  rw [List.getD_eq_getElem?_getD,List.getElem?_eq_getElem hj];rfl
 obtain ⟨z,z1,z2,z3⟩:=h6 j _ hg
 exact ⟨z,by rw [← z1];simp,z2,h j hj _ _ _ _ cK _ z3⟩
end
theorem ahB {P:Program} {k:Nat} {c:Nat→D} (h : ∀ j,j < k→lG (std P) (c j)):lG (std P) (.agg k c):=fun _ _ _ j hj=>h j hj
theorem aiI {P:Program} {sz:Nat} {n:Int} {t:Bool} {f:Int→Nat→D} (h : ∀ i j,j < sz→lG (std P) (f i j)):lG (std P) (.sl sz n t f):=fun i _ _ j hj=>h i j hj
theorem WT {P:Program} (v:FV):lG (std P) (.fn (.func (aj.fF v)) (aj.fK v) (aj.fC v)):=fun _ _ _ j hj=>aei v j hj
theorem Lm.mk {objs:List (Option Ob)} {f:FuncId} {args args':List D} {d:D} (ok:dn P f args' d) (hs:aan objs args args') (hp:xH d):Lm P objs f args d:=⟨args',hs,ok,hp⟩
attribute [irreducible] F7
end Go.Vx
