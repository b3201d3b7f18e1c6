/- Frames that tell what differs from the state they begin at. Conditions: none. -/
import Derived.Test.YtmkigppfdmghnaaGreatDoorVxRnd
set_option linter.all false
namespace Go.Vx
variable {P:Program}
structure Fr where
 s:List (Nat × D)
 o:List (Nat × Ob)
 p:Unit→Prop
def Fa (s:List (Nat × D)) (o:List (Nat × Ob)):Fr:=⟨s,o,fun _=>True⟩
section
variable {α:Type}
def keepN:Nat→List α→(List α→List α)→List α
 | 0,l,f=>f l
 | _+1,[],_=>[]
 | n+1,d :: l,f=>d :: keepN n l f
def dropN (x:α):Nat→List α→(List α→List α)→List α
 | 0,l,f=>f l
 | _+1,[],_=>[]
 | n+1,_ :: l,f=>x :: dropN x n l f
def ovr (x:α):List (Nat × Nat)→List α→List α
 | [],l=>l
 | (a,b) :: r,l=>keepN a l fun l=>dropN x b l fun l=>ovr x r l
def putN (y:α):Nat→List α→List α
 | _,[]=>[]
 | 0,_ :: l=>y :: l
 | n+1,d :: l=>d :: putN y n l
def inS:List (Nat × Nat)→Nat→Bool
 | [],_=>false
 | (a,b) :: r,t=>if t < a then false else if t < a+b then true else inS r (t-a-b)
theorem keepN_get {f:List α→List α} {p:Nat→α→α} (hf : ∀ (l:List α) (t:Nat),(f l)[t]? = (l[t]?).map (p t)) : ∀ (n:Nat) (l:List α) (t:Nat),(keepN n l f)[t]? = (l[t]?).map fun d=>if t < n then d else p (t-n) d
 | 0,l,t=>by simp [keepN,hf]
 | n+1,[],t=>by simp [keepN]
 | n+1,d :: l,0=>by simp [keepN]
 | n+1,d :: l,t+1=>by
  simp only [keepN,List.getElem?_cons_succ,keepN_get hf n l t,Nat.add_lt_add_iff_right,Nat.add_sub_add_right]
theorem dropN_get {x:α} {f:List α→List α} {p:Nat→α→α} (hf : ∀ (l:List α) (t:Nat),(f l)[t]? = (l[t]?).map (p t)) : ∀ (n:Nat) (l:List α) (t:Nat),(dropN x n l f)[t]? = (l[t]?).map fun d=>if t < n then x else p (t-n) d
 | 0,l,t=>by simp [dropN,hf]
 | n+1,[],t=>by simp [dropN]
 | n+1,d :: l,0=>by simp [dropN]
 | n+1,d :: l,t+1=>by
  simp only [dropN,List.getElem?_cons_succ,dropN_get hf n l t,Nat.add_lt_add_iff_right,Nat.add_sub_add_right]
theorem ovr_get {x:α} : ∀ (J:List (Nat × Nat)) (l:List α) (t:Nat),(ovr x J l)[t]? = (l[t]?).map fun d=>if inS J t then x else d
 | [],l,t=>by simp [ovr,inS]
 | (a,b) :: r,l,t=>by
  simp only [ovr]
  rw [keepN_get (p:=fun t d=>if t < b then x else if inS r (t-b) then x else d) (fun l t=>by rw [dropN_get (ovr_get r)])]
  congr 1;funext d
  simp only [inS]
  by_cases h:t < a
  · simp [h]
  · by_cases h2:t < a+b
    · have h3:t-a < b:=by omega
      simp [h,h2,h3]
    · have h3 : ¬ t-a < b:=by omega
      simp [h,h2,h3]
theorem ovr_len {x:α} (J:List (Nat × Nat)) (l:List α):(ovr x J l).length=l.length:=by
 refine Nat.le_antisymm ?_ ?_
 · refine Nat.le_of_not_lt fun h=>?_
   have e:=ovr_get (x:=x) J l l.length
   rw [List.getElem?_eq_getElem h] at e;simp at e
 · refine Nat.le_of_not_lt fun h=>?_
   have e:=ovr_get (x:=x) J l (ovr x J l).length
   rw [List.getElem?_eq_getElem h] at e;simp at e
theorem putN_get {y:α} : ∀ (n:Nat) (l:List α) (t:Nat),(putN y n l)[t]? = (l[t]?).map fun d=>if t=n then y else d
 | n,[],t=>by cases n<;>simp [putN]
 | 0,d :: l,0=>by simp [putN]
 | 0,d :: l,t+1=>by simp [putN]
 | n+1,d :: l,0=>by simp [putN]
 | n+1,d :: l,t+1=>by simp [putN,putN_get n l t]
end
def putD:List D→List (Nat × D)→List D
 | l,[]=>l
 | l,(k,d) :: r=>putD (putN d k l) r
def putO:List (Option Ob)→List (Nat × Ob)→List (Option Ob)
 | l,[]=>l
 | l,(k,d) :: r=>putO (putN (some d) k l) r
theorem putD_get : ∀ (ks:List (Nat × D)) (l:List D) (t:Nat) (d:D),(putD l ks)[t]? = some d→l[t]? = some d∨(t,d)∈ks
 | [],_,_,_,h=>.inl h
 | (k,x) :: r,l,t,d,h=>by
  replace h:=putD_get r _ t d h
  rcases h with h | h
  · rw [putN_get] at h
    cases hl:l[t]? with
    | none=>rw [hl] at h;cases h
    | some y =>
     rw [hl] at h
     simp only [Option.map_some,Option.some.injEq] at h
     split at h
     · rename_i e;cases e;cases h;exact .inr (List.mem_cons_self ..)
     · cases h;exact .inl rfl
  · exact .inr (List.mem_cons_of_mem _ h)
theorem putO_get : ∀ (ks:List (Nat × Ob)) (l:List (Option Ob)) (t:Nat) (d:Option Ob),(putO l ks)[t]? = some d→l[t]? = some d∨∃ o,d=some o∧(t,o)∈ks
 | [],_,_,_,h=>.inl h
 | (k,x) :: r,l,t,d,h=>by
  replace h:=putO_get r _ t d h
  rcases h with h | ⟨o,h1,h⟩
  · rw [putN_get] at h
    cases hl:l[t]? with
    | none=>rw [hl] at h;cases h
    | some y =>
     rw [hl] at h
     simp only [Option.map_some,Option.some.injEq] at h
     split at h
     · rename_i e;cases e;cases h;exact .inr ⟨x,rfl,List.mem_cons_self ..⟩
     · cases h;exact .inl rfl
  · exact .inr ⟨o,h1,List.mem_cons_of_mem _ h⟩
theorem putD_len : ∀ (ks:List (Nat × D)) (l:List D),(putD l ks).length=l.length
 | [],_=>rfl
 | (k,x) :: r,l=>by rw [putD,putD_len r];exact (by
  have : ∀ (n:Nat) (l:List D),(putN x n l).length=l.length:=fun n l=>by
   induction l generalizing n with
   | nil=>cases n<;>rfl
   | cons d l ih=>cases n<;>simp [putN,ih]
  exact this k l)
theorem putO_len : ∀ (ks:List (Nat × Ob)) (l:List (Option Ob)),(putO l ks).length=l.length
 | [],_=>rfl
 | (k,x) :: r,l=>by rw [putO,putO_len r];exact (by
  have : ∀ (n:Nat) (l:List (Option Ob)),(putN (some x) n l).length=l.length:=fun n l=>by
   induction l generalizing n with
   | nil=>cases n<;>rfl
   | cons d l ih=>cases n<;>simp [putN,ih]
  exact this k l)
theorem LeSt.ovl {st base:St} {c:Nat} {J O:List (Nat × Nat)} {ks:List (Nat × D)} {os:List (Nat × Ob)} (hc:st.ctr < c) (h1:ovr D.junk J st.slots=ovr D.junk J base.slots) (h2:ovr none O st.objs=ovr none O base.objs)
  (h3:LeKs st.slots ks) (h4:LeKo st.objs os):LeSt st ⟨putD (ovr D.junk J base.slots) ks,putO (ovr none O base.objs) os,c⟩:=by
 have l1:base.slots.length=st.slots.length:=by
  have:=congrArg List.length h1;rw [ovr_len,ovr_len] at this;exact this.symm
 have l2:base.objs.length=st.objs.length:=by
  have:=congrArg List.length h2;rw [ovr_len,ovr_len] at this;exact this.symm
 refine ⟨hc,LeL.of_get ((putD_len ..).trans ((ovr_len ..).trans l1)) fun t d d' g1 g2=>?_,LeO.of_get ((putO_len ..).trans ((ovr_len ..).trans l2)) fun t o' g2=>?_⟩
 · rcases putD_get _ _ _ _ g2 with g2 | hm
   · rw [← h1,ovr_get,g1] at g2
     simp only [Option.map_some,Option.some.injEq] at g2
     subst g2
     split
     · exact LeD.junk _
     · exact LeD.refl _
   · obtain ⟨d1,x1,x2⟩:=h3.get _ _ hm
     rw [x1] at g1;cases g1;exact x2
 · rcases putO_get _ _ _ _ g2 with g2 | ⟨o,ho,hm⟩
   · rw [← h2,ovr_get] at g2
     cases hs:st.objs[t]? with
     | none=>rw [hs] at g2;cases g2
     | some s =>
      rw [hs] at g2
      simp only [Option.map_some,Option.some.injEq] at g2
      split at g2
      · cases g2
      · subst g2;exact ⟨o',rfl,LeOb.refl _⟩
   · cases ho
     exact h4.get _ _ hm
def fGh (objs:List (Option Ob)) (id:Nat):List Gh:=match objs[id]? with
 | some (some _)=>[.forget id]
 | _=>[]
def dGh (objs:List (Option Ob)) (l:GL):D→D→List Gh
 | .nilsl,.vec id _ sz _ _=>fGh objs id++[.thaw l id sz]
 | .vec id' _ _ _ _,.vec id _ _ _ _=>if Nat.beq id' id then [] else fGh objs id++[.move l id]
 | _,_=>[]
def cGh (objs:List (Option Ob)) (mk:Nat→GL):Nat→List D→List D→List Gh
 | j,d :: r,e :: q=>dGh objs (mk j) d e++cGh objs mk (j+1) r q
 | _,_,_=>[]
def sGh (objs:List (Option Ob)) (slots:List D):List (Nat × D)→List Gh
 | []=>[]
 | (t,e) :: r=>(match slots.getD t .junk,e with
  | .agg k c,.agg k' c'=>cGh objs (.sub t) 0 (cellsOf k c) (cellsOf k' c')
  | d,e=>dGh objs (.slot t) d e)++sGh objs slots r
def oGh (objs:List (Option Ob)):List (Nat × Ob)→List Gh
 | []=>[]
 | (id,.box _ cs) :: r=>(match objs[id]? with
  | some (some (.box _ cs'))=>cGh objs (.cell id) 0 cs' cs
  | _=>[])++oGh objs r
 | _ :: r=>oGh objs r
def genO (objs:List (Option Ob)) (k:Nat):Nat:=match objs[k]? with
 | some (some o)=>o.gen
 | _=>0
def tgtO (objs:List (Option Ob)) (k:Nat):Bool:=match objs[k]? with
 | some (some (.arr _ _ _ t _))=>t
 | _=>false
def genL (objs:List (Option Ob)):List (Nat × Ob)→List (Nat × Nat)
 | []=>[]
 | (k,_) :: r=>(k,genO objs k) :: genL objs r
def hid0:Hid:=⟨0,fun _=>0,fun _=>false⟩
def hidS (st:St) (os:List (Nat × Ob)):Hid:=⟨st.ctr+1,gfn (genL st.objs os),tgtO st.objs⟩
def Gens (st:St):Prop:=∀ (k:Nat) (o:Ob),st.objs[k]? = some (some o)→o.gen≤st.ctr
theorem RS.gens {B0:Nat} {h0:Array Obj} {I0:IS} {L:Lend} {st:St} {a:Act} {w:World} (R:RS B0 h0 I0 L st a w):Gens st:=by
 obtain ⟨I,β,R⟩:=R
 intro k o h
 have:=R.ob k o h
 cases o<;>exact this.1
theorem Tr.gens {c:Code} {Q:Exit→St→Prop} {st:St} (h:Gens st→Tr P c Q st):Tr P c Q st :=
 fun B0 h0 I0 L a w K R hK=>h R.gens B0 h0 I0 L a w K R hK
theorem Tr.monoR {c:Code} {Q Q':Exit→St→Prop} {st:St} (h:Tr P c Q st) (hq : ∀ ex st',(∃ B0 h0 I0 L a w,RS B0 h0 I0 L st' a w)→Q ex st'→Q' ex st'):Tr P c Q' st :=
 fun B0 h0 I0 L a w K R hK=>h B0 h0 I0 L a w K R fun ex st' a' w' q R'=>hK ex st' a' w' (hq ex st' ⟨B0,h0,I0,L,a',w',R'⟩ q) R'
theorem genL_lt {st:St} (h:Gens st) : ∀ os:List (Nat × Ob),allLt (genL st.objs os) (st.ctr+1)
 | []=>trivial
 | (k,_) :: r=>by
  refine ⟨Nat.lt_succ_of_le ?_,genL_lt h r⟩
  unfold genO
  split
  · rename_i o ho;exact h k o ho
  · exact Nat.zero_le _
section
variable {α γ:Type}
abbrev MF (st:St) (J O:List (Nat × Nat)) (F:α→Hid→Fr) (x:α) (t:Hid):St:=⟨putD (ovr D.junk J st.slots) (F x t).s,putO (ovr none O st.objs) (F x t).o,t.c⟩
abbrev HF (c:Nat) (t:Hid):Prop:=c < t.c∧∀ k,t.g k < t.c
def LayP (P:Program) (base:St) (c:Nat) (J O:List (Nat × Nat)) (F:α→Hid→Fr) (x:α) (st:St):Prop :=
 ∃ l st1 os,evGh (std P) l st=some (st1,os)∧(∀ q∈os,q)∧c≤st1.ctr∧(F x (hidS st1 (F x hid0).o)).p ()∧LeSt st1 (MF base J O F x (hidS st1 (F x hid0).o))
theorem glSet_ctr (st:St) (d:D) (l:GL):(glSet st d l).ctr=st.ctr:=by
 cases l<;>simp only [glSet]<;>(try split)<;>rfl
theorem evGh_ctr : ∀ (l:List Gh) {st st1:St} {os:List Prop},evGh (std P) l st=some (st1,os)→st.ctr≤st1.ctr:=by
 intro l
 induction l with
 | nil=>intro st st1 os h;cases h;exact Nat.le_refl _
 | cons g r ih =>
  intro st st1 os h
  have hn : ∀ c,(std P).nxt c=c+1:=fun _=>rfl
  cases g<;>simp only [evGh] at h<;>repeat' split at h
  all_goals first
   | (cases h;done)
   | (have h1:=ih h;simp only [glSet_ctr,hn] at h1;omega)
   | (rename_i heq;cases h;have h1:=ih heq;simp only [glSet_ctr,hn] at h1;omega)
theorem lay_of {st base st1:St} {os:List Prop} {c:Nat} {J O:List (Nat × Nat)} {F:α→Hid→Fr} {x:α} (hg:evGh (std P) (sGh st.objs st.slots (F x hid0).s++oGh st.objs (F x hid0).o) st=some (st1,os)) (hos:conj os True)
  (hc:c≤st.ctr) (hp:(F x (hidS st1 (F x hid0).o)).p ())
  (h1:ovr D.junk J st1.slots=ovr D.junk J base.slots) (h2:ovr none O st1.objs=ovr none O base.objs) (h3:LeKs st1.slots (F x (hidS st1 (F x hid0).o)).s) (h4:LeKo st1.objs (F x (hidS st1 (F x hid0).o)).o):LayP P base c J O F x st :=
 ⟨_,st1,os,hg,(conj_spec hos).1,Nat.le_trans hc (evGh_ctr _ hg),hp,LeSt.ovl (Nat.lt_succ_self _) h1 h2 h3 h4⟩
theorem HF.of {st:St} {c:Nat} {os:List (Nat × Ob)} (h:Gens st) (hc:c≤st.ctr):HF c (hidS st os) :=
 ⟨Nat.lt_succ_of_le hc,(Hid.mk_ok (t:=tgtO st.objs) (Nat.succ_pos _) (genL_lt h os)).2⟩
theorem Tr.lay {base st:St} {c0:Nat} {J O:List (Nat × Nat)} {F:α→Hid→Fr} {x:α} {c:Code} {Q:Exit→St→Prop} (h:LayP P base c0 J O F x st) (hB : ∀ t,HF c0 t→(F x t).p ()→Tr P c Q (MF base J O F x t)):Tr P c Q st:=by
 obtain ⟨l,st1,os,h1,h2,hc,h3,h4⟩:=h
 exact Tr.gh l h1 h2 (Tr.gens fun hg=>Tr.le h4 (hB _ (HF.of hg hc) h3))
theorem LayP.ex {base st:St} {c0:Nat} {J O:List (Nat × Nat)} {F:α→Hid→Fr} {x:α} (h:LayP P base c0 J O F x st) (R : ∃ B0 h0 I0 L a w,RS B0 h0 I0 L st a w) : ∃ t,(HF c0 t∧(F x t).p ())∧GeSt P st (MF base J O F x t):=by
 obtain ⟨l,st1,os,h1,h2,hc,h3,h4⟩:=h
 obtain ⟨B0,h0,I0,L,a,w,R⟩:=R
 exact ⟨_,⟨HF.of (evGh_sound l R h1 h2).gens hc,h3⟩,l,st1,os,h1,h2,h4⟩
def stepF (P:Program) (base:St) (c:Nat) (J O:List (Nat × Nat)) (F:α→Hid→Fr) (o:γ) (Q:Exit→St→Prop):Fl α γ→Exit→St→Prop
 | .go y=>thenQ (LayP P base c J O F y) (fun _ _=>False)
 | .out o'=>thenQ (fun _=>False) (fun ex st'=>o'=o→Q ex st')
theorem Wcut {A:Option (Fl α γ)} {k:α→Option γ} {r:γ} (h:cutO A k=some r) (c:Nat) (J O:List (Nat × Nat)) (F:α→Hid→Fr) {a b:Code} {Q:Exit→St→Prop} {st:St}
  (hB : ∀ (x:α) (c1:Nat) (g:Nat→Nat) (t:Nat→Bool),c < c1→(∀ k,g k < c1)→(F x ⟨c1,g,t⟩).p ()→k x=some r→Tr P b Q (MF st J O F x ⟨c1,g,t⟩)) (hA : ∀ f,A=some f→Tr P a (stepF P st c J O F r Q f) st):Tr P (.seq a b) Q st:=by
 obtain ⟨f,hf,hk⟩:=cutO_some h
 refine Tr.seq ((hA f hf).mono fun ex st' q=>?_)
 cases f with
 | go x =>
  cases ex with
  | normal=>exact Tr.lay q fun t h1 h2=>hB x t.c t.g t.t h1.1 h1.2 h2 hk
  | _=>exact q.elim
 | out r' =>
  cases hk
  cases ex with
  | normal=>exact q.elim
  | _=>exact q rfl
theorem WcutN {cx:Cx} (hT:TTok P cx.tt) (hP:P.follows .mixedOrders=true) (n:Nat) {A:Option (Fl α γ)} {k:α→Option γ} {r:γ} (h:cutO A k=some r) (c0:Nat) (J O:List (Nat × Nat)) (F:α→Hid→Fr) {c:Code} {Q:Exit→St→Prop} {st:St}
  (hB : ∀ (x:α) (c1:Nat) (g:Nat→Nat) (t:Nat→Bool),c0 < c1→(∀ k,g k < c1)→(F x ⟨c1,g,t⟩).p ()→k x=some r→Tr P (restN n c) Q (MF st J O F x ⟨c1,g,t⟩)) (hA : ∀ f,A=some f→∀ N,N=stepF P st c0 J O F r Q f→wpCut (std P) cx N n c st):Tr P c Q st:=by
 obtain ⟨f,hf,hk⟩:=cutO_some h
 refine wpCut_sound hT hP (N:=stepF P st c0 J O F r Q f) (fun ex st' hex q=>?_) n c st (fun st' q=>?_) (hA f hf _ rfl)
 · cases f with
   | go x =>
    cases ex with
    | normal=>exact absurd rfl hex
    | _=>exact q.elim
   | out r' =>
    cases hk
    cases ex with
    | normal=>exact absurd rfl hex
    | _=>exact q rfl
 · cases f with
   | go x=>exact Tr.lay q fun t h1 h2=>hB x t.c t.g t.t h1.1 h1.2 h2 hk
   | out r'=>exact q.elim
theorem Wlp {body:α→Option (Fl α γ)} {x0:α} {o:γ} (h:loopO body x0=some o) (c0:Nat) (J O:List (Nat × Nat)) (F:α→Hid→Fr) {c:Code} {Q:Exit→St→Prop} {st:St} (he:LayP P st c0 J O F x0 st)
  (step : ∀ (x:α) (c1:Nat) (g:Nat→Nat) (t:Nat→Bool) (f:Fl α γ),c0 < c1→(∀ k,g k < c1)→(F x ⟨c1,g,t⟩).p ()→body x=some f→Tr P c (stepF P st c0 J O F o Q f) (MF st J O F x ⟨c1,g,t⟩)):Tr P (.loop c) Q st:=by
 intro B0 h0 I0 L a w K R hK
 obtain ⟨t0,h1,h2⟩:=he.ex ⟨_,_,_,_,_,_,R⟩
 refine Tr.loopO (MF st J O F) (fun x t=>HF c0 t∧(F x t).p ()) t0 h h1 h2 (fun x t f ho hf=>(step x t.c t.g t.t f ho.1.1 ho.1.2 ho.2 hf).monoR fun ex st' R q=>?_) B0 h0 I0 L a w K R hK
 cases f with
 | go y =>
  cases ex with
  | normal=>exact LayP.ex q R
  | _=>exact q.elim
 | out r' =>
  cases ex with
  | normal=>exact q.elim
  | _=>exact q
theorem Wrnd {A:Option (Fl α γ)} {k:α→Option γ} {r:γ} (h:cutO A k=some r) (c0:Nat) (J O:List (Nat × Nat)) (F:α→Hid→Fr) {c:Code} {Q:Exit→St→Prop} {st:St} {n:Nat}
  (hB : ∀ (x:α) (c1:Nat) (g:Nat→Nat) (t:Nat→Bool),c0 < c1→(∀ k,g k < c1)→(F x ⟨c1,g,t⟩).p ()→k x=some r→TrN P c Q n (MF st J O F x ⟨c1,g,t⟩)) (hA : ∀ f,A=some f→Tr P c (stepF P st c0 J O F r Q f) st):TrN P c Q (n+1) st:=by
 refine TrN.cut h (MF st J O F) (fun x t=>HF c0 t∧(F x t).p ()) (fun x t ho hk=>hB x t.c t.g t.t ho.1.1 ho.1.2 ho.2 hk) fun f hf=>(hA f hf).monoR fun ex st' R q=>?_
 cases f with
 | go y =>
  cases ex with
  | normal=>exact LayP.ex q R
  | _=>exact q.elim
 | out r' =>
  cases ex with
  | normal=>exact q.elim
  | _=>exact q
end
def toR:Nat→D→CallR
 | 1,.own sz n t g=>.own sz n t g
 | 3,.own sz n t g=>.own sz n t g
 | _,.own sz n t g=>.plain (.sl sz n t g)
 | _,d=>.plain d
def TrK (_:List (Nat × Nat)) (_:List (Nat × CallR)) (P:Program) (c:Code) (Q:Exit→St→Prop) (st:St):Prop:=Tr P c Q st
section
variable {β:Type} {c:Code} {Q:Exit→St→Prop} {st:St} {K:List (Nat × Nat)} {O:List (Nat × CallR)} {f:FuncId} {A:List D}
theorem Wo0 (g:TrK [] [] P c Q st):Tr P c Q st:=g
theorem valX [Inhabited β] {o:Option β} {C:β→Prop} (ok : ∀ r,o=some r→C r) : ∃ v,∀ w,o=some w→w=v∧C v:=by
 cases o with
 | none=>exact ⟨default,fun w h=>by cases h⟩
 | some v=>exact ⟨v,fun w h=>by cases h;exact ⟨rfl,ok _ rfl⟩⟩
theorem Wo [Inhabited β] (key kind:Nat) {o:Option β} {R:β→D} (ok : ∀ r,o=some r→PureFn P f A (R r))
  (g : ∀ v,(∀ w,o=some w→w=v∧PureFn P f A (R v))→TrK ((f,kind) :: K) ((key,toR kind (R v)) :: O) P c Q st):TrK K O P c Q st:=by
 obtain ⟨v,hv⟩:=valX ok;exact g v hv
theorem Wod (key kind:Nat) {o:Option β} {v:β} {d:D} (ok : ∀ w,o=some w→w=v∧PureFn P f A d) (g:TrK ((f,kind) :: K) ((key,toR kind d) :: O) P c Q st):TrK K O P c Q st:=g
theorem Wodg (key kind:Nat) {o:Option β} {v:β} {d:D} {b:Bool} (ok : ∀ w,o=some w→w=v∧(b=true→PureFn P f A d)) (g:TrK ((f,kind) :: K) ((key,toR kind d) :: O) P c Q st):TrK K O P c Q st:=g
theorem Wov [Inhabited β] (key:Nat) {o:Option β} {R:β→D} (ok : ∀ r,o=some r→PureFn P f A (R r))
  (g : ∀ v,(∀ w,o=some w→w=v∧PureFn P f A (R v))→TrK ((key+1024,7) :: K) ((key,.plain (R v)) :: O) P c Q st):TrK K O P c Q st:=by
 obtain ⟨v,hv⟩:=valX ok;exact g v hv
theorem Wog [Inhabited β] (key kind:Nat) (b:Bool) {o:Option β} {R:β→D} (ok : ∀ r,o=some r→PureFn P f A (R r)) (d:β)
  (g : ∀ v,(∀ w,(if b=true then o else some d)=some w→w=v∧(b=true→PureFn P f A (R v)))→TrK ((f,kind) :: K) ((key,toR kind (R v)) :: O) P c Q st):TrK K O P c Q st:=by
 obtain ⟨v,hv⟩:=valX (o:=if b=true then o else some d) (C:=fun r=>b=true→PureFn P f A (R r)) (fun r h hb=>ok r (guardO h hb));exact g v hv
theorem Woe [Inhabited β] (key kind:Nat) {o:Option β} {R:β→D} (ok : ∀ r,o=some r→ExtFn P f A (R r))
  (g : ∀ v,(∀ w,o=some w→w=v∧ExtFn P f A (R v))→TrK ((f,kind) :: K) ((key,toR kind (R v)) :: O) P c Q st):TrK K O P c Q st:=by
 obtain ⟨v,hv⟩:=valX ok;exact g v hv
theorem Wol [Inhabited β] (key:Nat) {o:Option β} {pre:List Ob} {post:β→List Ob} {R:β→D} (ok : ∀ r,o=some r→LentFn P f A pre (post r) (R r))
  (g : ∀ v,(∀ w,o=some w→w=v∧LentFn P f A pre (post v) (R v))→TrK ((f,2) :: K) ((key,.lent (post v) (R v)) :: O) P c Q st):TrK K O P c Q st:=by
 obtain ⟨v,hv⟩:=valX ok;exact g v hv
def Pth {α β:Type} (_:Option α) (_:Option β):Prop:=True
section
variable {α γ δ:Type} {o:Option δ}
theorem sB {p:Option β} {k:β→Option γ} : Pth (bindO p k) p:=trivial
theorem sK {p:Option β} {k:β→Option γ} (v:β) (_:Pth (k v) o):Pth (bindO p k) o:=trivial
theorem sC {c:Prop} [Decidable c] {X:Option γ} (_:Pth X o):Pth (chk c X) o:=trivial
theorem sT {b:Bool} {X Y:Option γ} (_:Pth X o):Pth (iteO b X Y) o:=trivial
theorem sF {b:Bool} {X Y:Option γ} (_:Pth Y o):Pth (iteO b X Y) o:=trivial
theorem sA {A:Option (Fl α γ)} {k:α→Option γ} (_:Pth A o):Pth (cutO A k) o:=trivial
theorem Wi [Inhabited β] (key kind:Nat) {X:Option γ} {r:γ} (_:X=some r) {o:Option β} (_:Pth X o) {R:β→D} (ok : ∀ r,o=some r→PureFn P f A (R r))
  (g : ∀ v,(∀ w,o=some w→w=v∧PureFn P f A (R v))→TrK ((f,kind) :: K) ((key,toR kind (R v)) :: O) P c Q st):TrK K O P c Q st:=by
 obtain ⟨v,hv⟩:=valX ok;exact g v hv
theorem Wiv [Inhabited β] (key:Nat) {X:Option γ} {r:γ} (_:X=some r) {o:Option β} (_:Pth X o) {R:β→D} (ok : ∀ r,o=some r→PureFn P f A (R r))
  (g : ∀ v,(∀ w,o=some w→w=v∧PureFn P f A (R v))→TrK ((key+1024,7) :: K) ((key,.plain (R v)) :: O) P c Q st):TrK K O P c Q st:=by
 obtain ⟨v,hv⟩:=valX ok;exact g v hv
theorem Wig [Inhabited β] (key kind:Nat) {X:Option γ} {r:γ} (_:X=some r) {b:Bool} {o:Option β} {d:β} (_:Pth X (if b=true then o else some d)) {R:β→D} (ok : ∀ r,o=some r→PureFn P f A (R r))
  (g : ∀ v,(∀ w,(if b=true then o else some d)=some w→w=v∧(b=true→PureFn P f A (R v)))→TrK ((f,kind) :: K) ((key,toR kind (R v)) :: O) P c Q st):TrK K O P c Q st:=by
 obtain ⟨v,hv⟩:=valX (o:=if b=true then o else some d) (C:=fun r=>b=true→PureFn P f A (R r)) (fun r h hb=>ok r (guardO h hb));exact g v hv
end
theorem Wbn {γ:Type} {o:Option β} {k:β→Option γ} {r:γ} {v:β} {C G:Prop} (h:bindO o k=some r) (h1 : ∀ w,o=some w→w=v∧C) (g:o=some v→C→k v=some r→G):G:=by
 obtain ⟨b,hb,hk⟩:=bindO_some h
 obtain ⟨rfl,hc⟩:=h1 b hb
 exact g hb hc hk
end
def kmCs:List D→List D→List KM
 | d :: r,.vec _ _ _ _ _ :: q=>(match d with
  | .vec id _ _ o _=>.at id o
  | _=>.nil) :: kmCs r q
 | _ :: r,_ :: q=>kmCs r q
 | _,_=>[]
def kmIn (objs:List (Option Ob)):Nat→List Ob→List KM
 | k,.box _ cs' :: r=>(match objs[k]? with
  | some (some (.box _ cs))=>kmCs cs cs'
  | _=>[])++kmIn objs (k+1) r
 | k,.arr 0 _ _ _ _ :: r=>kmIn objs (k+1) r
 | k,.dead _ :: r=>kmIn objs (k+1) r
 | _,_=>[]
def kmTop:List Ob→List KM
 | .box _ _ :: r=>.top :: kmTop r
 | .arr 0 _ _ _ _ :: r=>.top :: kmTop r
 | .dead _ :: r=>.nil :: kmTop r
 | _=>[]
def kmS (objs:List (Option Ob)) (post:List Ob):List KM:=kmTop post++kmIn objs 0 post
theorem lentQ_r {tt:TT} {rs:List ResultVar} {post:List Ob} {res:D} {st:St} {ds:List D} {os:List Prop} (h:resL (std P) tt st.objs st.slots rs=some (ds,os)) (hos:conj os True) (ho:outL (std P) ds res) (he:lentEnd (std P) st.objs (kmS st.objs post) post):lentQ (std P) tt rs post res .ret st:=lentQ_ret h hos ho _ he
theorem lentQ_n {tt:TT} {rs:List ResultVar} {post:List Ob} {res:D} {st:St} {ds:List D} {os:List Prop} (h:resL (std P) tt st.objs st.slots rs=some (ds,os)) (hos:conj os True) (ho:outL (std P) ds res) (he:lentEnd (std P) st.objs (kmS st.objs post) post):lentQ (std P) tt rs post res .normal st:=lentQ_normal h hos ho _ he
theorem leC {a c:Nat} {s:List D} {o:List (Option Ob)} (h:a≤c):a≤(St.mk s o c).ctr:=h
def selOk:D→D→Prop
 | .v (.int k _),.v (.int k' _)=>k=k'
 | .sl sz _ _ f,.sl sz' _ _ f'=>sz=sz'∧∀ i j,j < sz→selOk (f i j) (f' i j)
 | .agg k c,.agg k' c'=>k=k'∧∀ j,j < k→selOk (c j) (c' j)
 | .junk,_=>False
 | _,_=>True
theorem dsel_elim {h:Array Obj} {I:IS} {β:Nat→Option (Nat × Nat × Array Value)} {objs:List (Option Ob)} {ctr:Nat} (b:Bool) : ∀ (d1 d2:D) (y:Value),selOk d1 d2→Rd h I β objs ctr (dsel (std P) b d1 d2) y→Rd h I β objs ctr (if b=true then d1 else d2) y:=by
 have fall : ∀ (d1 d2:D) (y:Value),Rd h I β objs ctr (.cnd b d1 d2) y→Rd h I β objs ctr (if b=true then d1 else d2) y:=by
  intro d1 d2 y hy
  cases b
  · exact hy.2 rfl
  · exact hy.1 rfl
 intro d1
 induction d1 with
 | v x =>
  intro d2 y hs hy
  cases d2 with
  | v x' =>
   cases x<;>cases x'<;>first
    | exact fall _ _ _ hy
    | (cases b<;>exact hy)
    | (simp only [selOk] at hs;subst hs;simp only [dsel,if_true] at hy;cases b<;>exact hy)
  | _=>cases x<;>exact fall _ _ _ hy
 | sl sz n t f ih =>
  intro d2 y hs hy
  cases d2 with
  | sl sz' n' t' f' =>
   simp only [selOk] at hs
   obtain ⟨rfl,hs⟩:=hs
   simp only [dsel,Nat.beq_refl,if_true] at hy
   obtain ⟨a,len,cap,rfl,x1,x2,x3,x4⟩:=hy
   cases b
   · refine ⟨a,len,cap,rfl,x1,x2,x3,fun hp=>?_⟩
     obtain ⟨bb,o,c,e,fr,z1,z2,z3,z4⟩:=x4 hp
     refine ⟨bb,o,c,e,fr,z1,z2,z3,fun i hi j hj=>?_⟩
     obtain ⟨z,q1,q2,q3⟩:=z4 i hi j hj
     exact ⟨z,q1,q2,ih _ _ _ _ (hs i j hj) q3⟩
   · refine ⟨a,len,cap,rfl,x1,x2,x3,fun hp=>?_⟩
     obtain ⟨bb,o,c,e,fr,z1,z2,z3,z4⟩:=x4 hp
     refine ⟨bb,o,c,e,fr,z1,z2,z3,fun i hi j hj=>?_⟩
     obtain ⟨z,q1,q2,q3⟩:=z4 i hi j hj
     exact ⟨z,q1,q2,ih _ _ _ _ (hs i j hj) q3⟩
  | _=>exact fall _ _ _ hy
 | agg k c ih =>
  intro d2 y hs hy
  cases d2 with
  | agg k' c' =>
   simp only [selOk] at hs
   obtain ⟨rfl,hs⟩:=hs
   simp only [dsel,Nat.beq_refl,if_true] at hy
   obtain ⟨ys,rfl,x1,x2⟩:=hy
   cases b
   · refine ⟨ys,rfl,x1,fun j hj=>?_⟩
     obtain ⟨z,q1,q2,q3⟩:=x2 j hj
     exact ⟨z,q1,q2,ih _ _ _ (hs j hj) q3⟩
   · refine ⟨ys,rfl,x1,fun j hj=>?_⟩
     obtain ⟨z,q1,q2,q3⟩:=x2 j hj
     exact ⟨z,q1,q2,ih _ _ _ (hs j hj) q3⟩
  | _=>exact fall _ _ _ hy
 | nilsl =>
  intro d2 y hs hy
  cases d2 with
  | nilsl=>cases b<;>exact hy
  | _=>exact fall _ _ _ hy
 | junk=>intro d2 y hs;exact hs.elim
 | _=>intro d2 y hs hy;cases d2<;>exact fall _ _ _ hy
theorem dsel_split {b:Bool} {d1 d2 x:D} (h:selOk d1 d2) (ht:b=true→LeD d1 x) (hf:b=false→LeD d2 x):LeD (dsel (std P) b d1 d2) x:=by
 intro h' I β objs ctr y hy
 have:=dsel_elim b d1 d2 y h hy
 cases b
 · exact hf rfl _ _ _ _ _ _ this
 · exact ht rfl _ _ _ _ _ _ this
theorem put_in {k i:Int} {j0 j:Nat} {ds:List D} {f:Int→Nat→D} {x:D} (hr:(Nat.ble j0 j && Nat.blt j (j0+ds.length))=true) (hs:selOk (ds.getD (j-j0) .junk) (f i j)) (ht:i=k→LeD (ds.getD (j-j0) .junk) x) (hf : ¬ i=k→LeD (f i j) x):LeD (putF (std P) k j0 ds f i j) x:=by
 unfold putF
 rw [if_pos hr]
 refine dsel_split hs (fun h=>ht ?_) (fun h=>hf ?_)
 · have h:(i == k)=true:=h
   simpa using h
 · have h:(i == k)=false:=h
   simpa using h
theorem put_out {k i:Int} {j0 j:Nat} {ds:List D} {f:Int→Nat→D} {x:D} (hr:(Nat.ble j0 j && Nat.blt j (j0+ds.length))=false) (hf:LeD (f i j) x):LeD (putF (std P) k j0 ds f i j) x:=by
 unfold putF
 rw [hr]
 exact hf
theorem cat_in {n i:Int} {j:Nat} {f h:Int→Nat→D} {x:D} (hs:selOk (f i j) (h (i-n) j)) (ht:i < n→LeD (f i j) x) (hf : ¬ i < n→LeD (h (i-n) j) x):LeD (catF (std P) n f h i j) x:=by
 refine dsel_split (d2:=h (i-n) j) hs (fun hb=>ht ?_) (fun hb=>hf ?_)
 · have hb:decide (i < n)=true:=hb
   simpa using hb
 · have hb:decide (i < n)=false:=hb
   simpa using hb
theorem cpy_in {o n i:Int} {d1 d2 x:D} (hs:selOk d1 d2) (ht:o≤i∧i < o+n→LeD d1 x) (hf : ¬ (o≤i∧i < o+n)→LeD d2 x):LeD (dsel (std P) ((std P).band2 ((std P).le o i) ((std P).lt i ((std P).add o n))) d1 d2) x:=by
 refine dsel_split hs (fun hb=>ht ?_) (fun hb=>hf ?_)
 · have hb:(decide (o≤i) && decide (i < o+n))=true:=hb
   simpa using hb
 · have hb:(decide (o≤i) && decide (i < o+n))=false:=hb
   simpa using hb
theorem lt_add_imin {x o a b:Int} : x < o+iminI a b ↔ x < o+a∧x < o+b:=by unfold iminI;split<;>omega
theorem nv_get {α:Type} (d:α) (l:List α) (i:Int):nvS.get d l i=getL d l i:=rfl
theorem LeD.slF {sz:Nat} {n n':Int} {t:Bool} {f f':Int→Nat→D} (hn:n=n') (h : ∀ i:Int,0≤i→i < n'→∀ j:Nat,j < sz→f i j=f' i j):LeD (.sl sz n t f) (.sl sz n' false f'):=LeD.slE hn fun i i0 i1=>h i i0 (hn ▸ i1)
theorem LeOb.arrG {g sz:Nat} {n n':Int} {t:Bool} {f f':Int→Nat→D} (hn:n=n') (h : ∀ i:Int,0≤i→i < n'→∀ j:Nat,j < sz→LeD (f i j) (f' i j)):LeOb (.arr g sz n t f) (.arr g sz n' t f'):=LeOb.arr' hn fun i i0 i1=>h i i0 (hn ▸ i1)
theorem LeOb.arrF {g sz:Nat} {n n':Int} {t:Bool} {f f':Int→Nat→D} (hn:n=n') (h : ∀ i:Int,0≤i→i < n'→∀ j:Nat,j < sz→f i j=f' i j):LeOb (.arr g sz n t f) (.arr g sz n' t f'):=LeOb.arrE hn fun i i0 i1=>h i i0 (hn ▸ i1)
structure Kp (p:Prop):Prop where
 get:p
theorem Wcond {β:Type} {b:Bool} {X Y:Option β} {r:β} (h:iteO b X Y=some r) {c:Operand} {x y:Code} {Q:Exit→St→Prop} {st:St} {t:Bool} (hs:strip (std P) (rd (std P) st.slots c)=(.v (.bool t),[])) (ht:b=true→X=some r→Tr P x Q st) (hf:b=false→Y=some r→Tr P y Q st) (hb:t=b:=by exact rfl):Tr P (.cond c x y) Q st:=by
 subst hb
 exact Tr.cond hs (fun q hq=>by cases hq) (fun hc=>ht hc (iteO_t h hc)) (fun hc=>hf hc (iteO_f h hc))
theorem le_imin {x a b:Int} : x≤iminI a b ↔ x≤a∧x≤b:=by unfold iminI;split<;>omega
theorem imin_le {x a b:Int} : iminI a b≤x ↔ a≤x∨b≤x:=by unfold iminI;split<;>omega
theorem add_imin_le {o x a b:Int} : o+iminI a b≤x ↔ o+a≤x∨o+b≤x:=by unfold iminI;split<;>omega
theorem imax1_nn (x:Int):0≤imaxI 1 x:=by unfold imaxI;split<;>omega
theorem cv_out {P:Program} (j:Nat) : ∀ (l:List (Nat × CV)),out0 (std P) (cvL l j) (cvL l j)
 | []=>trivial
 | (k,.int q x) :: r=>by
  simp only [cvL]
  cases Nat.beq j k with
  | true=>exact out0_int q x
  | false=>exact cv_out j r
 | (k,.bool b) :: r=>by
  simp only [cvL]
  cases Nat.beq j k with
  | true=>exact out0_bool b
  | false=>exact cv_out j r
theorem cv_clo {P:Program} (j:Nat) : ∀ (l:List (Nat × CV)),clo (std P) (cvL l j)
 | []=>trivial
 | (k,.int q x) :: r=>by
  simp only [cvL]
  cases Nat.beq j k with
  | true=>trivial
  | false=>exact cv_clo j r
 | (k,.bool b) :: r=>by
  simp only [cvL]
  cases Nat.beq j k with
  | true=>trivial
  | false=>exact cv_clo j r
theorem out_fv {P:Program} : ∀ (v:FV) (j:Nat),j < nvS.fK v→out0 (std P) (nvS.fC v j) (nvS.fC v j):=by
 intro v
 induction v with
 | nil n=>intro j hj;exact absurd hj (Nat.not_lt_zero _)
 | int r k x ih =>
  intro j hj
  rw [nv_ci]
  cases h:Nat.beq j (nvS.fK r) with
  | true=>exact ⟨rfl,rfl,fun i _ _ j _=>out0_int k x⟩
  | false =>
   have hj:j < nvS.fK r+1:=hj
   have h : ¬ j=nvS.fK r:=fun e=>by rw [e,Nat.beq_refl] at h;cases h
   exact ih j (by omega)
 | bool r b ih =>
  intro j hj
  rw [nv_cb]
  cases h:Nat.beq j (nvS.fK r) with
  | true=>exact ⟨rfl,rfl,fun i _ _ j _=>out0_bool b⟩
  | false =>
   have hj:j < nvS.fK r+1:=hj
   have h : ¬ j=nvS.fK r:=fun e=>by rw [e,Nat.beq_refl] at h;cases h
   exact ih j (by omega)
 | str r s ih =>
  intro j hj
  rw [nv_cs]
  cases h:Nat.beq j (nvS.fK r) with
  | true=>exact ⟨rfl,rfl,fun i _ _ j _=>out0_str s⟩
  | false =>
   have hj:j < nvS.fK r+1:=hj
   have h : ¬ j=nvS.fK r:=fun e=>by rw [e,Nat.beq_refl] at h;cases h
   exact ih j (by omega)
 | fn r v ih iv =>
  intro j hj
  rw [nv_cf]
  cases h:Nat.beq j (nvS.fK r) with
  | true=>exact ⟨rfl,rfl,fun i _ _ j _=>⟨rfl,rfl,fun _ _ _ q hq=>iv q hq⟩⟩
  | false =>
   have hj:j < nvS.fK r+1:=hj
   have h : ¬ j=nvS.fK r:=fun e=>by rw [e,Nat.beq_refl] at h;cases h
   exact ih j (by omega)
 | box r n l ih =>
  intro j hj
  rw [nv_cx]
  cases h:Nat.beq j (nvS.fK r) with
  | true =>
   show (if Nat.beq n n && Nat.beq 0 0 then _ else _)
   rw [Nat.beq_refl,if_pos (by rfl)]
   exact ⟨rfl,rfl,fun i _ _ j _=>cv_out j l⟩
  | false =>
   have hj:j < nvS.fK r+1:=hj
   have h : ¬ j=nvS.fK r:=fun e=>by rw [e,Nat.beq_refl] at h;cases h
   exact ih j (by omega)
theorem out0_fv {P:Program} (v:FV):out0 (std P) (.fn (.func (nvS.fF v)) (nvS.fK v) (nvS.fC v)) (.fn (.func (nvS.fF v)) (nvS.fK v) (nvS.fC v)):=⟨rfl,rfl,fun _ _ _ j hj=>out_fv v j hj⟩
theorem out1_fv {P:Program} {objs:List (Option Ob)} : ∀ (v:FV) (j:Nat),j < nvS.fK v→out1 (std P) objs (nvS.fC v j) (nvS.fC v j):=by
 intro v j hj
 have h:=out_fv (P:=P) v j hj
 induction v with
 | nil n=>exact absurd hj (Nat.not_lt_zero _)
 | int r k x ih =>
  rw [nv_ci]
  cases hb:Nat.beq j (nvS.fK r) with
  | true=>exact ⟨rfl,rfl,fun i _ _ j _=>out0_int k x⟩
  | false =>
   have hj:j < nvS.fK r+1:=hj
   have hb : ¬ j=nvS.fK r:=fun e=>by rw [e,Nat.beq_refl] at hb;cases hb
   exact ih (by omega) (out_fv r j (by omega))
 | bool r b ih =>
  rw [nv_cb]
  cases hb:Nat.beq j (nvS.fK r) with
  | true=>exact ⟨rfl,rfl,fun i _ _ j _=>out0_bool b⟩
  | false =>
   have hj:j < nvS.fK r+1:=hj
   have hb : ¬ j=nvS.fK r:=fun e=>by rw [e,Nat.beq_refl] at hb;cases hb
   exact ih (by omega) (out_fv r j (by omega))
 | str r s ih =>
  rw [nv_cs]
  cases hb:Nat.beq j (nvS.fK r) with
  | true=>exact ⟨rfl,rfl,fun i _ _ j _=>out0_str s⟩
  | false =>
   have hj:j < nvS.fK r+1:=hj
   have hb : ¬ j=nvS.fK r:=fun e=>by rw [e,Nat.beq_refl] at hb;cases hb
   exact ih (by omega) (out_fv r j (by omega))
 | fn r v ih iv =>
  rw [nv_cf]
  cases hb:Nat.beq j (nvS.fK r) with
  | true=>exact ⟨rfl,rfl,fun i _ _ j _=>⟨rfl,rfl,fun _ _ _ q hq=>out_fv v q hq⟩⟩
  | false =>
   have hj:j < nvS.fK r+1:=hj
   have hb : ¬ j=nvS.fK r:=fun e=>by rw [e,Nat.beq_refl] at hb;cases hb
   exact ih (by omega) (out_fv r j (by omega))
 | box r n l ih =>
  rw [nv_cx]
  cases hb:Nat.beq j (nvS.fK r) with
  | true =>
   show (if Nat.beq n n && Nat.beq 0 0 then _ else _)
   rw [Nat.beq_refl,if_pos (by rfl)]
   exact ⟨rfl,rfl,fun i _ _ j _=>cv_out j l⟩
  | false =>
   have hj:j < nvS.fK r+1:=hj
   have hb : ¬ j=nvS.fK r:=fun e=>by rw [e,Nat.beq_refl] at hb;cases hb
   exact ih (by omega) (out_fv r j (by omega))
theorem clo_fv {P:Program} : ∀ (v:FV) (j:Nat),j < nvS.fK v→clo (std P) (nvS.fC v j):=by
 intro v
 induction v with
 | nil n=>intro j hj;exact absurd hj (Nat.not_lt_zero _)
 | int r k x ih =>
  intro j hj
  rw [nv_ci]
  cases hb:Nat.beq j (nvS.fK r) with
  | true=>first | trivial | (intro i _ _ q _;trivial)
  | false =>
   have hj:j < nvS.fK r+1:=hj
   have hb : ¬ j=nvS.fK r:=fun e=>by rw [e,Nat.beq_refl] at hb;cases hb
   exact ih j (by omega)
 | bool r b ih =>
  intro j hj
  rw [nv_cb]
  cases hb:Nat.beq j (nvS.fK r) with
  | true=>first | trivial | (intro i _ _ q _;trivial)
  | false =>
   have hj:j < nvS.fK r+1:=hj
   have hb : ¬ j=nvS.fK r:=fun e=>by rw [e,Nat.beq_refl] at hb;cases hb
   exact ih j (by omega)
 | str r s ih =>
  intro j hj
  rw [nv_cs]
  cases hb:Nat.beq j (nvS.fK r) with
  | true=>first | trivial | (intro i _ _ q _;trivial)
  | false =>
   have hj:j < nvS.fK r+1:=hj
   have hb : ¬ j=nvS.fK r:=fun e=>by rw [e,Nat.beq_refl] at hb;cases hb
   exact ih j (by omega)
 | fn r v ih iv =>
  intro j hj
  rw [nv_cf]
  cases hb:Nat.beq j (nvS.fK r) with
  | true=>first | trivial | (intro i _ _ q _ _ _ _ z hz;exact iv z hz)
  | false =>
   have hj:j < nvS.fK r+1:=hj
   have hb : ¬ j=nvS.fK r:=fun e=>by rw [e,Nat.beq_refl] at hb;cases hb
   exact ih j (by omega)
 | box r n l ih =>
  intro j hj
  rw [nv_cx]
  cases hb:Nat.beq j (nvS.fK r) with
  | true=>exact fun i _ _ q _=>cv_clo q l
  | false =>
   have hj:j < nvS.fK r+1:=hj
   have hb : ¬ j=nvS.fK r:=fun e=>by rw [e,Nat.beq_refl] at hb;cases hb
   exact ih j (by omega)
theorem PurD.v (x:Value):PurD (.v x):=fun _ _ _ _ _ h=>h
theorem PurD.nilsl:PurD .nilsl:=fun _ _ _ _ _ h=>h
theorem PurD.agg {k:Nat} {c:Nat→D} (h : ∀ j,j < k→PurD (c j)):PurD (.agg k c):=by
 rintro H I I' y hI ⟨ys,rfl,hs,hx⟩
 refine ⟨ys,rfl,hs,fun j hj=>?_⟩
 obtain ⟨z,h1,h2,h3⟩:=hx j hj
 exact ⟨z,h1,h2,h j hj _ _ _ _ hI h3⟩
theorem PurD.sl {sz:Nat} {n:Int} {t:Bool} {f:Int→Nat→D} (h : ∀ i j,j < sz→PurD (f i j)):PurD (.sl sz n t f):=by
 rintro H I I' y hI ⟨a,len,cap,rfl,hl,hc,ht,hcells⟩
 refine ⟨a,len,cap,rfl,hl,hc,ht,fun hp=>?_⟩
 obtain ⟨b,o,c,e,fr,rfl,hb1,hb,hx⟩:=hcells hp
 refine ⟨b,o,c,e,fr,rfl,hI b hb1,hb,fun i hi j hj=>?_⟩
 obtain ⟨z,h1,h2,h3⟩:=hx i hi j hj
 exact ⟨z,h1,h2,h _ j hj _ _ _ _ hI h3⟩
section
variable {objs:List (Option Ob)}
theorem SeeD.junk {d:D} : SeeD objs d .junk:=fun _ _ _ _ _ _ _=>trivial
theorem SeeD.le {d d':D} (h:LeD d d') (hc:clo (std P) d'):SeeD objs d d':=fun _ I _ _ _ _ hy=>clo_ok (IS.le_see I _) (fun _ _=>rfl) _ _ hc (h _ _ _ _ _ _ hy)
theorem SeeD.v {x:Value} : SeeD objs (.v x) (.v x):=fun _ _ _ _ _ _ h=>h
theorem SeeD.sl {sz:Nat} {n n':Int} {t:Bool} {f f':Int→Nat→D} (hn:n=n') (h : ∀ i:Int,0≤i→i < n'→∀ j,j < sz→SeeD objs (f i j) (f' i j)):SeeD objs (.sl sz n t f) (.sl sz n' false f'):=by
 subst hn
 rintro H I β ctr ho y ⟨a,len,cap,rfl,hl,hc,_,hcells⟩
 refine ⟨a,len,cap,rfl,hl,hc,(fun h=>by cases h),fun hp=>?_⟩
 obtain ⟨b,o,c,e,fr,rfl,hb1,hb,hx⟩:=hcells hp
 refine ⟨b,o,c,e,fr,rfl,hb1,hb,fun i hi j hj=>?_⟩
 obtain ⟨z,h1,h2,h3⟩:=hx i hi j hj
 exact ⟨z,h1,h2,h _ (by omega) (by omega) j hj _ _ _ _ ho _ h3⟩
theorem SeeD.fn {f f':Fn} {k k':Nat} {c c':Nat→D} (hf:f=f') (hk:k=k') (h : ∀ j,j < k→SeeD objs (c j) (c' j)):SeeD objs (.fn f k c) (.fn f' k' c'):=by
 subst hf;subst hk
 rintro H I β ctr ho y ⟨ys,rfl,hs,hx⟩
 refine ⟨ys,rfl,hs,fun j hj=>?_⟩
 obtain ⟨z,h1,h3⟩:=hx j hj
 exact ⟨z,h1,h j hj _ _ _ _ ho _ h3⟩
theorem SeeD.dsel {b:Bool} {d1 d2 x:D} (h:selOk d1 d2) (ht:b=true→SeeD objs d1 x) (hf:b=false→SeeD objs d2 x):SeeD objs (dsel (std P) b d1 d2) x:=by
 intro H I β ctr ho y hy
 have:=dsel_elim b d1 d2 y h hy
 cases b
 · exact hf rfl _ _ _ _ ho _ this
 · exact ht rfl _ _ _ _ ho _ this
theorem SeeD.cat {n i:Int} {j:Nat} {f h:Int→Nat→D} {x:D} (hs:selOk (f i j) (h (i-n) j)) (ht:i < n→SeeD objs (f i j) x) (hf : ¬ i < n→SeeD objs (h (i-n) j) x):SeeD objs (catF (std P) n f h i j) x:=by
 refine SeeD.dsel (d2:=h (i-n) j) hs (fun hb=>ht ?_) (fun hb=>hf ?_)
 · have hb:decide (i < n)=true:=hb
   simpa using hb
 · have hb:decide (i < n)=false:=hb
   simpa using hb
theorem SeeD.cndT {b:Bool} {d e x:D} (hb:b=true) (h:SeeD objs d x):SeeD objs (.cnd b d e) x:=fun H I β ctr ho y hy=>h H I β ctr ho y (hy.1 hb)
theorem SeeD.cndF {b:Bool} {d e x:D} (hb:b=false) (h:SeeD objs e x):SeeD objs (.cnd b d e) x:=fun H I β ctr ho y hy=>h H I β ctr ho y (hy.2 hb)
theorem SeeD.bref {id g k:Nat} {cs:List D} {f':Int→Nat→D} (ho:objs[id]? = some (some (.box g cs))) (hk:cs.length=k) (h : ∀ j,j < k→SeeD objs (cs.getD j .junk) (f' 0 j)):SeeD objs (.bref id g 0) (.imm k 1 f' 0 0):=by
 subst hk
 rintro H I β ctr hob y ⟨hg,hsh,hx⟩
 have hr:=hob id _ ho
 obtain ⟨hgc,b,o,s,c,e,h1,h2,h3,h4,h5,h6⟩:=hr
 obtain ⟨b',o',s',k1,rfl⟩:=hx cs ho
 rw [h1] at k1;cases k1
 refine ⟨Int.le_refl _,by omega,b,o,c,e,_,by simp,.inr ⟨id,_,h1,rfl⟩,h2,fun i hi j hj=>?_⟩
 obtain rfl:i=0:=by omega
 have hg:cs[j]? = some (cs.getD j .junk):=by
  rw [List.getD_eq_getElem?_getD,List.getElem?_eq_getElem hj];rfl
 obtain ⟨z,z1,z2,z3⟩:=h6 j _ hg
 exact ⟨z,by rw [← z1];simp,z2,h j hj _ _ _ _ hob _ z3⟩
end
theorem clo_agg {P:Program} {k:Nat} {c:Nat→D} (h : ∀ j,j < k→clo (std P) (c j)):clo (std P) (.agg k c):=fun _ _ _ j hj=>h j hj
theorem clo_sl {P:Program} {sz:Nat} {n:Int} {t:Bool} {f:Int→Nat→D} (h : ∀ i j,j < sz→clo (std P) (f i j)):clo (std P) (.sl sz n t f):=fun i _ _ j hj=>h i j hj
theorem clo_fvF {P:Program} (v:FV):clo (std P) (.fn (.func (nvS.fF v)) (nvS.fK v) (nvS.fC v)):=fun _ _ _ j hj=>clo_fv v j hj
theorem SeeFn.mk {objs:List (Option Ob)} {f:FuncId} {args args':List D} {d:D} (ok:PureFn P f args' d) (hs:SeeL objs args args') (hp:PurD d):SeeFn P objs f args d:=⟨args',hs,ok,hp⟩
attribute [irreducible] LayP
end Go.Vx
