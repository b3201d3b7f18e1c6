/- A function's contract from its code. -/
import Derived.Test.YtckmalogclklmaaGreatDoorVxWp
set_option linter.all false
namespace Go.Vx
def aO (p:Pr) (objs:List (Option Ob)):D→D→Prop
 | .vec id g sz off n,d'=>match d' with
  | .sl sz' n' t' f'=>match objs[id]? with
   | some (some (.arr g' xK N t f))=>if Nat.beq sz sz' && Nat.beq sz xK then
     p.jh g g'∧p.nP n n'∧p.imp t' (p.Bt (p.rJ t (p.eq (p.add off n) N)))∧p.all2 n sz (fun i j=>bG p (f (p.add off i) j) (f' i j))
    else False
   | _=>False
  | .junk=>True
  | _=>False
 | .agg k c,.agg k' c'=>if Nat.beq k k' then p.all2 1 k (fun _ j=>aO p objs (c j) (c' j)) else False
 | .fn (.func f) k c,.fn (.func f') k' c'=>p.jh f f'∧p.jh k k'∧p.all2 1 k (fun _ j=>aO p objs (c j) (c' j))
 | .dI id g j,d'=>match d' with
  | .gY sz n f i j'=>match objs[id]? with
   | some (some (.box g' cs))=>if Nat.beq j j' && Nat.beq sz cs.length then p.jh g g'∧p.nP n 1∧p.nP i 0∧p.all2 1 sz (fun i k=>bG p (cs.getD k .junk) (f i k)) else False
   | _=>False
  | .junk=>True
  | _=>False
 | d,d'=>bG p d d'
def adG (p:Pr) (objs:List (Option Ob)):List D→(Nat→D)→Prop
 | [],_=>True
 | d :: r,c=>aO p objs d (c 0)∧adG p objs r (fun j=>c (j+1))
def adH (p:Pr) (objs:List (Option Ob)) (sz':Nat) (n':Int) (t':Bool) (f':Int→Nat→D):D→Prop
 | .vec id g sz off n=>match objs[id]? with
  | some (some (.arr g' xK N t f))=>if Nat.beq sz sz' && Nat.beq sz xK then
    p.jh g g'∧p.nP n n'∧p.imp t' (p.Bt (p.rJ t (p.eq (p.add off n) N)))∧p.all2 n sz (fun i j=>bG p (f (p.add off i) j) (f' i j))
   else False
  | _=>False
 | .cO=>p.nP n' 0
 | _=>False
def agd (p:Pr) (q:Nat):Nat→List D→(Nat→D)→Prop
 | _,[],_=>True
 | j,d :: r,c=>(if Nat.beq j q then True else bG p d (c 0))∧agd p q (j+1) r (fun i=>c (i+1))
def outT (p:Pr) (objs:List (Option Ob)):List D→D→Prop
 | [d],.own sz' n' t' f'=>adH p objs sz' n' t' f' d
 | [d],.uq q k c sz' n' t' f'=>match d with
  | .agg k2 c2=>if Nat.beq k2 k && Nat.blt q k then adH p objs sz' n' t' f' (c2 q)∧agd p q 0 (cellsOf k c2) c else False
  | _=>False
 | [d],d'=>aO p objs d d'
 | a :: b :: r,.gX k c=>if Nat.beq k (r.length+2) then adG p objs (a :: b :: r) c else False
 | [],.gX k _=>if Nat.beq k 0 then True else False
 | _,_=>False
def pO (p:Pr) (tt:TT) (objs:List (Option Ob)) (slots:List D):List ResultVar→Option (List D × List aU)
 | []=>some ([],[])
 | .tmp t :: r=>match pO p tt objs slots r with
  | some (ds,os)=>let s:=strip p (slots.getD t .junk);some (s.1 :: ds,s.2++os)
  | none=>none
 | .cell x t :: r=>match d9 tt t,strip p (slots.getD x .junk),pO p tt objs slots r with
  | some ti,(.dI id g j,os1),some (ds,os)=>match rH p objs ti (.dI id g j) with
   | some (d,os2)=>some (d :: ds,os1++os2++os)
   | none=>none
  | _,_,_=>none
def Oz (p:Pr) (tt:TT) (rs:List ResultVar) (res:D):Exit→St→Prop
 | .normal,st=>match pO p tt st.objs st.slots rs with
  | some (ds,os)=>conj p os (outT p st.objs ds res)
  | none=>False
 | .ret,st=>match pO p tt st.objs st.slots rs with
  | some (ds,os)=>conj p os (outT p st.objs ds res)
  | none=>False
 | _,_=>False
section
variable {P:Program} {h:Array Obj} {I:IS} {β:Nat→Option (Nat × Nat × Array Value)} {objs:List (Option Ob)} {ctr:Nat}
def agf:List Value→Value
 | [v]=>v
 | vs=>.tuple vs.toArray
theorem ab3 (lF : ∀ (k:Nat) (o:Ob),objs[k]? = some (some o)→Rob h I β objs ctr k o) : ∀ (d d':D) (y:Value),aO (std P) objs d d'→Rd h I β objs ctr d y →
  Rd h (I.or (Blocks β)) (fun _=>none) [] 0 d' y:=by
 intro d
 have h0 : ∀ d d' y,bG (std P) d d'→Rd h I β objs ctr d y→Rd h (I.or (Blocks β)) (fun _=>none) [] 0 d' y:=fun d d' y ho hr =>
  Rd.mono (Goes.QY h I _ (IS.vv _ _)) _ _ (sP d d' y ho hr)
 induction d with
 | vec k g sz off n =>
  intro d' y ho hr
  cases d' with
  | junk=>trivial
  | sl sz' n' t' f' =>
   simp only [aO] at ho
   split at ho
   · rename_i g' xK N t f cK
     split at ho
     · rename_i hk
       simp only [Bool.and_eq_true] at hk
       have hk1:=Nat.eq_of_beq_eq_true hk.1;subst hk1
       have hk2:=Nat.eq_of_beq_eq_true hk.2;subst hk2
       obtain ⟨o1,o2,o3,o4⟩:=ho
       have o1:g=g':=o1
       subst o1
       have o2:n=n':=o2
       subst o2
       obtain ⟨ad,len,cap,rfl,x1,x2,x3,x4⟩:=zJ hr cK (lF _ _ cK)
       refine ⟨ad,len,cap,rfl,x1,x2,fun ht=>x3 (o3 ht),fun hp=>?_⟩
       obtain ⟨b,o,c,e,s,y1,rfl,y2,y3,y4,y5⟩:=x4 (by omega)
       refine ⟨b,o,c,e,_,rfl,.inr ⟨k,_,y1,rfl⟩,y2,fun i hi j hj=>?_⟩
       obtain ⟨z,z1,z2,z3⟩:=y5 i hi j hj
       exact ⟨z,z1,z2,h0 _ _ _ (o4 i (by omega) (by omega) j hj) z3⟩
     · exact ho.elim
   · exact ho.elim
  | _=>simp [aO] at ho
 | agg k c ih =>
  intro d' y ho hr
  cases d' with
  | junk=>trivial
  | agg k' c' =>
   simp only [aO] at ho
   split at ho
   · rename_i hk
     have hk:=Nat.eq_of_beq_eq_true hk;subst hk
     obtain ⟨ys,rfl,x1,x2⟩:=hr
     refine ⟨ys,rfl,x1,fun j hj=>?_⟩
     obtain ⟨z,z1,z2,z3⟩:=x2 j hj
     exact ⟨z,z1,z2,ih _ _ _ (ho 0 (by omega) (by omega) j hj) z3⟩
   · exact ho.elim
  | _=>exact h0 _ _ _ (by simpa [aO] using ho) hr
 | fn f k c ih =>
  intro d' y ho hr
  cases d' with
  | junk=>trivial
  | fn f' k' c' =>
   cases f<;>cases f'<;>first
   | (
    simp only [aO] at ho
    obtain ⟨h1,h2,ho⟩:=ho
    cases h1;cases h2
    obtain ⟨ys,rfl,x1,x2⟩:=hr
    refine ⟨ys,rfl,x1,fun j hj=>?_⟩
    obtain ⟨z,z1,z3⟩:=x2 j hj
    exact ⟨z,z1,ih _ _ _ (ho 0 (by omega) (by omega) j hj) z3⟩)
   | exact h0 _ _ _ (by simpa [aO] using ho) hr
  | _=>exact h0 _ _ _ (by cases f<;>simpa [aO] using ho) hr
 | dI id g j =>
  intro d' y ho hr
  cases d' with
  | junk=>trivial
  | gY sz n f i j' =>
   simp only [aO] at ho
   split at ho
   · rename_i g' cs cK
     split at ho
     · rename_i hk
       have hk:=Bool.and_eq_true_iff.1 hk
       have h1:=Nat.eq_of_beq_eq_true hk.1;have h2:=Nat.eq_of_beq_eq_true hk.2
       subst h1 h2
       obtain ⟨o1,o2,o3,o4⟩:=ho
       have o1:g=g':=o1
       have o2:n=1:=o2
       have o3:i=0:=o3
       subst o1 o2 o3
       obtain ⟨_,_,hx⟩:=hr
       obtain ⟨b,o,s,hb,rfl⟩:=hx _ cK
       obtain ⟨_,b',o',s',c,e,q1,q2,q3,q4,q5,q6⟩:=lF _ _ cK
       rw [hb] at q1;cases q1
       refine ⟨by omega,by omega,b,o,c,e,_,by simp,.inr ⟨id,_,hb,rfl⟩,q2,fun i' hi j' hj=>?_⟩
       obtain ⟨z,z1,z2,z3⟩:=q6 j' _ (List.getElem?_eq_getElem hj)
       have e0:i'=0:=by omega
       subst e0
       refine ⟨z,by simpa using z1,z2,h0 _ _ _ (o4 0 (by omega) (by omega) j' hj) ?_⟩
       have e1:cs.getD j' .junk=cs[j']:=by simp [List.getD,hj]
       rw [e1];exact z3
     · exact ho.elim
   · exact ho.elim
  | _=>simp [aO] at ho
 | _=>intro d' y ho hr;exact h0 _ _ _ (by simpa [aO] using ho) hr
end
theorem UR {p:Pr} {tt:TT} {objs:List (Option Ob)} {slots:List D} : ∀ {rs:List ResultVar} {ds:List D} {os:List aU},pO p tt objs slots rs=some (ds,os)→ds.length=rs.length
 | [],_,_,h=>by simp only [pO,Option.some.injEq,Prod.mk.injEq] at h;rw [← h.1];rfl
 | .tmp t :: r,_,_,h=>by
  simp only [pO] at h
  split at h
  · rename_i ds os h'
    simp only [Option.some.injEq,Prod.mk.injEq] at h
    rw [← h.1];simp [UR h']
  · cases h
 | .cell x t :: r,_,_,h=>by
  simp only [pO] at h
  split at h
  · rename_i h'
    split at h
    · simp only [Option.some.injEq,Prod.mk.injEq] at h
      rw [← h.1];simp [UR h']
    · cases h
  · cases h
section
variable {P:Program} {B0:Nat} {h0:Array Obj} {I0 I:IS} {L:p9} {β:Nat→Option (Nat × Nat × Array Value)} {slots:List D} {objs:List (Option Ob)} {ctr:Nat} {a:Act} {w:World}
theorem ah8 {tt:TT} (hT:gH P tt) (R:RM B0 h0 I0 L I β slots objs ctr a w) {t:TypeId} {ti:TI} (ht:d9 tt t=some ti) {id g j:Nat} {d:D} {os:List aU} {y:Value}
  (he:rH (std P) objs ti (.dI id g j)=some (d,os)) (hos : ∀ q∈os,q.run (std P)) (hy:Rd w.heap I β objs ctr (.dI id g j) y) : ∃ z,(do loadVar t (← asAddr y)).run P w = .ok z w∧Rd w.heap I β objs ctr d z:=by
 simp only [rH] at he
 split at he
 · rename_i g' cs ho
   cases hl:l5 ti cs.length j (fun j=>cs.getD j .junk) with
   | none=>rw [hl] at he;cases he
   | some d' =>
    simp only [hl,Option.map_some,Option.some.injEq,Prod.mk.injEq] at he
    obtain ⟨rfl,rfl⟩:=he
    have hg:g=g':=hos _ (List.mem_singleton.2 rfl)
    subst hg
    obtain ⟨_,_,hx⟩:=hy
    obtain ⟨b,o,s,hb,rfl⟩:=hx _ ho
    obtain ⟨_,b',o',s',c,e,q1,q2,q3,_,q5,q6⟩:=R.ob id _ ho
    rw [hb] at q1;cases q1
    obtain ⟨z,z1,z2⟩:=Fz (h:=w.heap) (I:=I) (β:=β) (objs:=objs) (ctr:=ctr) hT ht (base:=o) q2 hl (fun jj hjj=>by
     have:=q6 jj (cs.getD jj .junk) (by simp [List.getD,List.getElem?_eq_getElem hjj])
     exact this)
    exact ⟨z,by simp [asAddr,z1],z2⟩
 · cases he
theorem XR {tt:TT} (hT:gH P tt) (R:RM B0 h0 I0 L I β slots objs ctr a w) (F:ResultVar→Sem Value) (hF : ∀ t,F (.tmp t)=pure (a.tmps.getD t undef)) (hC : ∀ x t,F (.cell x t)=do loadVar t (← asAddr (a.tmps.getD x undef))) : ∀ {rs:List ResultVar} {ds:List D} {os:List aU},
  pO (std P) tt objs slots rs=some (ds,os)→(∀ q∈os,q.run (std P))→∃ vs:List Value,(rs.mapM F).run P w = .ok vs w∧vs.length=rs.length ∧
   ∀ (t:Nat) (d:D),ds[t]? = some d→∃ y,vs[t]? = some y∧Rd w.heap I β objs ctr d y
 | [],_,_,h,_=>by
  simp only [pO,Option.some.injEq,Prod.mk.injEq] at h
  obtain ⟨rfl,rfl⟩:=h
  exact ⟨[],by simp,rfl,fun t d h=>by simp at h⟩
 | .tmp t :: r,_,_,h,hos=>by
  simp only [pO] at h
  split at h
  · rename_i ds os h'
    simp only [Option.some.injEq,Prod.mk.injEq] at h
    obtain ⟨rfl,rfl⟩:=h
    obtain ⟨vs,h1,h2,h3⟩:=XR hT R F hF hC h' (fun q hq=>hos q (List.mem_append_right _ hq))
    refine ⟨a.tmps.getD t undef :: vs,?_,by simp [h2],fun s d hd=>?_⟩
    · simp [List.mapM_cons,hF,h1]
    · cases s with
      | zero =>
       simp only [List.getElem?_cons_zero,Option.some.injEq] at hd ⊢
       subst hd
       exact ⟨_,rfl,Hw (P:=P) _ _ (R.eval (P:=P) (.tmp t)) (fun q hq=>hos q (List.mem_append_left _ hq))⟩
      | succ s=>simpa using h3 s d (by simpa using hd)
  · cases h
 | .cell x t :: r,_,_,h,hos=>by
  simp only [pO] at h
  split at h
  · rename_i ti id g j os1 ds os ht hs h'
    split at h
    · rename_i d0 os2 hl
      simp only [Option.some.injEq,Prod.mk.injEq] at h
      obtain ⟨rfl,rfl⟩:=h
      obtain ⟨vs,h1,h2,h3⟩:=XR hT R F hF hC h' (fun q hq=>hos q (List.mem_append_right _ hq))
      have hy:Rd w.heap I β objs ctr (.dI id g j) (a.tmps.getD x undef):=by
       have:=Hw (P:=P) (slots.getD x .junk) _ (R.eval (P:=P) (.tmp x)) (by rw [hs];exact fun q hq=>hos q (List.mem_append_left _ (List.mem_append_left _ hq)))
       rw [hs] at this;exact this
      obtain ⟨z,z1,z2⟩:=ah8 hT R ht hl (fun q hq=>hos q (List.mem_append_left _ (List.mem_append_right _ hq))) hy
      refine ⟨z :: vs,?_,by simp [h2],fun s d hd=>?_⟩
      · rw [List.mapM_cons,Sem.run_bind,hC,z1]
        simp [h1]
      · cases s with
        | zero =>
         simp only [List.getElem?_cons_zero,Option.some.injEq] at hd ⊢
         subst hd
         exact ⟨z,rfl,z2⟩
        | succ s=>simpa using h3 s d (by simpa using hd)
    · cases h
  · cases h
theorem WC {tt:TT} (hT:gH P tt) (R:RM B0 h0 I0 L I β slots objs ctr a w) {fn:Func} {ds:List D} {os:List aU} (h:pO (std P) tt objs slots fn.results.toList=some (ds,os)) (hos : ∀ q∈os,q.run (std P)) :
  ∃ vs:List Value,(results fn a.tmps).run P w = .ok (agf vs) w∧vs.length=ds.length∧∀ (t:Nat) (d:D),ds[t]? = some d→∃ y,vs[t]? = some y∧Rd w.heap I β objs ctr d y:=by
 unfold results
 obtain ⟨vs,h1,h2,h3⟩:=XR hT R (fun | .tmp t=>pure (a.tmps.getD t undef) | .cell x t=>do loadVar t (← asAddr (a.tmps.getD x undef))) (fun t=>rfl) (fun x t=>rfl) h hos
 refine ⟨vs,?_,by rw [h2,UR h],h3⟩
 have e:fn.results=fn.results.toList.toArray:=by simp
 rw [e,List.mapM_toArray]
 simp only [Sem.run_bind,Sem.run_map]
 refine (congrArg (fun r:Result (List Value)=>(r.andThen fun a w'=>Result.ok a.toArray w').andThen fun vs w'=>Sem.run P (pure (if h:vs.size=1 then vs[0] else Value.tuple vs)) w') h1).trans ?_
 simp only [Result.andThen_ok,Sem.run_pure]
 congr 1
 match vs with
 | []=>rfl
 | [v]=>rfl
 | v :: u :: r =>
  rw [dif_neg (show ¬ (v :: u :: r).toArray.size=1 by simp)]
  rfl
end
section
variable {P:Program}
theorem Yp {p:Pr} {objs:List (Option Ob)} : ∀ {ds:List D} {c:Nat→D} {j:Nat} {d:D},adG p objs ds c→ds[j]? = some d→aO p objs d (c j)
 | [],_,_,_,_,h=>by cases h
 | x :: r,c,0,d,h,hd=>by cases hd;exact h.1
 | x :: r,c,j+1,d,h,hd=>Yp (ds:=r) (c:=fun j=>c (j+1)) h.2 (by simpa using hd)
theorem ab4 {h:Array Obj} {I:IS} {β:Nat→Option (Nat × Nat × Array Value)} {objs:List (Option Ob)} {ctr B:Nat} (lF : ∀ (k:Nat) (o:Ob),objs[k]? = some (some o)→Rob h I β objs ctr k o)
  (hB : ∀ k x,β k=some x→B≤x.1) {sz':Nat} {n':Int} {t':Bool} {f':Int→Nat→D} {d:D} {v:Value} (ho:adH (std P) objs sz' n' t' f' d) (hr:Rd h I β objs ctr d v):adI B h I sz' n' t' f' v:=by
 cases d with
 | cO =>
  have ho:n'=0:=ho
  subst ho
  cases hr
  exact ⟨none,0,0,rfl,rfl,Nat.le_refl _,fun _=>rfl,fun h=>by omega⟩
 | vec k g sz off n =>
  simp only [adH] at ho
  split at ho
  · rename_i g' xK N t f cK
    split at ho
    · rename_i hk
      simp only [Bool.and_eq_true] at hk
      have hk1:=Nat.eq_of_beq_eq_true hk.1;subst hk1
      have hk2:=Nat.eq_of_beq_eq_true hk.2;subst hk2
      obtain ⟨o1,o2,o3,o4⟩:=ho
      have o1:g=g':=o1
      subst o1
      have o2:n=n':=o2
      subst o2
      obtain ⟨ad,len,cap,rfl,x1,x2,x3,x4⟩:=zJ hr cK (lF _ _ cK)
      refine ⟨ad,len,cap,rfl,x1,x2,fun ht=>x3 (o3 ht),fun hp=>?_⟩
      obtain ⟨b,o,c,e,s,y1,rfl,y2,y3,y4,y5⟩:=x4 hp
      refine ⟨b,o,c,e,rfl,hB k _ y1,y3,y2,y4,fun i hi j hj=>?_⟩
      obtain ⟨z,z1,z2,z3⟩:=y5 i hi j hj
      exact ⟨z,z1,z2,sP _ _ _ (o4 i (by omega) (by omega) j hj) z3⟩
    · exact ho.elim
  · exact ho.elim
 | _=>exact ho.elim
theorem aax {p:Pr} {q:Nat} : ∀ {k s:Nat} {c2 c:Nat→D},agd p q s (cellsOf k c2) c→∀ j,j < k→s+j≠q→bG p (c2 j) (c j)
 | k+1,s,c2,c,h,0,_,hne=>by
  have h1:=h.1
  rwa [if_neg (fun hb=>hne (by have:=Nat.eq_of_beq_eq_true hb;omega))] at h1
 | k+1,s,c2,c,h,j+1,hj,hne=>aax (c2:=fun i=>c2 (i+1)) (c:=fun i=>c (i+1)) h.2 j (by omega) (by omega)
theorem ah9 {h:Array Obj} {I:IS} {β:Nat→Option (Nat × Nat × Array Value)} {objs:List (Option Ob)} {ctr B:Nat} (lF : ∀ (k:Nat) (o:Ob),objs[k]? = some (some o)→Rob h I β objs ctr k o)
  (hB : ∀ k x,β k=some x→B≤x.1) {ds:List D} {res:D} {vs:List Value} (ho:outT (std P) objs ds res) (hl:vs.length=ds.length)
  (hv : ∀ (t:Nat) (d:D),ds[t]? = some d→∃ y,vs[t]? = some y∧Rd h I β objs ctr d y) :
  ∃ I':IS,I.le I'∧((∀ b,I' b→I b∨Blocks β b)∧∀ b,I'.l b→I.l b∨Blocks β b)∧Jg B h I' res (agf vs):=by
 match ds,vs,hl with
 | [],[],_ =>
  refine ⟨I,IS.le.refl _,⟨fun _ h=>.inl h,fun _ h=>.inl h⟩,?_⟩
  cases res<;>simp [outT] at ho
  subst ho
  exact ⟨_,rfl,rfl,fun j hj=>by omega⟩
 | [d],[v],_ =>
  obtain ⟨y,hy,hr⟩:=hv 0 d (by simp)
  simp at hy;subst hy
  have hplain:nK res=false→aO (std P) objs d res→∃ I':IS,I.le I'∧((∀ b,I' b→I b∨Blocks β b)∧∀ b,I'.l b→I.l b∨Blocks β b)∧Jg B h I' res v:=by
   intro hno ho1
   refine ⟨I.or (Blocks β),IS.vv _ _,⟨fun _ h=>h,fun _ h=>h⟩,?_⟩
   have:=ab3 lF d res v ho1 hr
   cases res<;>simp [nK] at hno<;>exact this
  cases res with
  | own sz' n' t' f'=>exact ⟨I,IS.le.refl _,⟨fun _ h=>.inl h,fun _ h=>.inl h⟩,ab4 lF hB ho hr⟩
  | uq q k c sz' n' t' f' =>
   refine ⟨I,IS.le.refl _,⟨fun _ h=>.inl h,fun _ h=>.inl h⟩,?_⟩
   cases d with
   | agg k2 c2 =>
    simp only [outT] at ho
    split at ho
    · rename_i hk
      simp only [Bool.and_eq_true] at hk
      have hk1:=Nat.eq_of_beq_eq_true hk.1;subst hk1
      have hk2:q < k2:=by
       have:=hk.2
       simpa [Nat.blt_eq] using this
      obtain ⟨ys,rfl,hs,hc⟩:=hr
      obtain ⟨z,z1,z2,z3⟩:=hc q hk2
      refine ⟨ys,rfl,hs,hk2,fun j hj hne=>?_,z,z1,ab4 lF hB ho.1 z3⟩
      obtain ⟨y,y1,y2,y3⟩:=hc j hj
      exact ⟨y,y1,y2,sP _ _ _ (aax ho.2 j hj (by omega)) y3⟩
    · exact ho.elim
   | _=>exact ho.elim
  | _=>exact hplain rfl ho
 | d1 :: d2 :: r,v1 :: v2 :: q,hl =>
  refine ⟨I.or (Blocks β),IS.vv _ _,⟨fun _ h=>h,fun _ h=>h⟩,?_⟩
  cases res with
  | gX k c =>
   simp only [outT] at ho
   split at ho
   · rename_i hk
     have hk:=Nat.eq_of_beq_eq_true hk;subst hk
     refine ⟨_,rfl,?_,fun j hj=>?_⟩
     · simp at hl ⊢;omega
     · obtain ⟨d,hd⟩ : ∃ d,(d1 :: d2 :: r)[j]? = some d:=⟨_,List.getElem?_eq_getElem (by simpa using hj)⟩
       obtain ⟨y,y1,y2⟩:=hv j d hd
       exact ⟨y,by simpa using y1,ab3 lF _ _ _ (Yp ho hd) y2⟩
   · exact ho.elim
  | _=>simp [outT] at ho
def door (args:List D) (nt:Nat) (ctr:Nat):St:=⟨args++List.replicate (nt-args.length) .junk,List.replicate nt none,ctr⟩
theorem acA {tt:TT} (hT:gH P tt) {f:FuncId} {fn:Func} {c:Code} {args:List D} {res:D} (hf:P.funcs[f]? = some fn) (hn:(fn.name == "runtime.NumGoroutine")=false) (hb:fn.body=some c)
  (h : ∀ ctr,0 < ctr→Tr P c (Oz (std P) tt fn.results.toList res) (door args fn.ntmps ctr)):dn P f args res:=by
 refine ⟨⟨fn,hf,hn,by rw [hb];rfl⟩,fun w I ctr vs hpos hI rz hlen hargs=>?_⟩
 refine calls_of_wp hf hb ?_
 have hRS:RS w.heap.size w.heap I ⟨fun _=>none,w.os,w.output⟩ (door args fn.ntmps ctr) { tmps:=vs.toArray++Array.replicate (fn.ntmps-vs.toArray.size) undef,defers:=[] } w:=by
  have hnone : ∀ (k:Nat) (o:Ob),(List.replicate fn.ntmps (none:Option Ob))[k]? = some (some o)→False:=by
   intro k o hk
   rw [List.getElem?_replicate] at hk
   split at hk<;>cases hk
  have G:Goes w.heap I (fun _=>none) [] ctr w.heap I (fun _=>none) (List.replicate fn.ntmps none) ctr:=by
   refine ⟨fun _ h=>h,fun _ _=>rfl,fun _ h=>h,fun id g hg=>?_,fun id g _ o' ho' _ _=>(hnone id o' ho').elim⟩
   rcases hg with h | ⟨_,o,ho,_⟩
   · exact .inl h
   · simp at ho
  refine ⟨I,fun _=>none,?_,?_,rfl,fun k o hk=>(hnone k o hk).elim,fun k x hk=>(by cases hk),fun k k' x x' _ hk=>(by cases hk),fun k x hk=>(by cases hk),
   IS.le.refl _,⟨fun b hb=>⟨hI b hb,.inl hb⟩,fun b hb=>.inl hb⟩,fun _ _ _=>rfl,Nat.le_refl _,hpos,fun k o hk=>(hnone k o hk).elim,⟨rfl,rfl⟩,rz⟩
  · simp [door,hlen]
  · intro t d ht
    simp only [door] at ht
    rcases Nat.lt_or_ge t args.length with hlt | hge
    · rw [List.getElem?_append_left hlt] at ht
      obtain ⟨y,y1,y2⟩:=hargs t d ht
      refine ⟨y,?_,Rd.mono G _ _ y2⟩
      rw [Array.getElem?_append_left (by simpa [hlen] using hlt)]
      simpa using y1
    · rw [List.getElem?_append_right hge,List.getElem?_replicate] at ht
      split at ht
      · rename_i hlt
        cases ht
        refine ⟨undef,?_,trivial⟩
        rw [Array.getElem?_append_right (by simpa [hlen] using hge)]
        simp only [List.size_toArray,hlen,Array.getElem?_replicate]
        rw [if_pos hlt]
      · cases ht
 refine h ctr hpos w.heap.size w.heap I ⟨fun _=>none,w.os,w.output⟩ _ w _ hRS fun ex st' a' w' q R=>?_
 have hfin : ∀ ds os,pO (std P) tt st'.objs st'.slots fn.results.toList=some (ds,os)→conj (std P) os (outT (std P) st'.objs ds res) →
   a'.defers=[]∧∃ v,(results fn a'.tmps).run P w' = .ok v w'∧(∃ v' I',Ending.returned v = .returned v'∧I.le I'∧I.New w.heap.size I' w'.heap.size ∧
    (∀ b,b < w.heap.size→w'.heap[b]? = w.heap[b]?)∧w.heap.size≤w'.heap.size∧iy w w'∧Jg w.heap.size w'.heap I' res v'):=by
  intro ds os hres hc
  obtain ⟨h1,h2⟩:=oL hc
  obtain ⟨J,β,R⟩:=R
  obtain ⟨vs',r1,r2,r3⟩:=WC hT R hres h1
  have hB : ∀ k x,β k=some x→w.heap.size≤x.1:=fun k x hk=>(R.own k x hk).elim id (fun ⟨_,_,h,_⟩=>by cases h)
  obtain ⟨I',i1,i2,i3⟩:=ah9 R.ob hB h2 r2 r3
  refine ⟨R.defers,_,r1,_,I',rfl,R.old.trans i1,⟨fun b hb=>?_,fun b hb=>?_⟩,fun b hb=>R.frame b hb (fun ⟨_,_,h,_⟩=>by cases h),R.size,R.wo,i3⟩
  · rcases i2.1 b hb with h | ⟨k,x,hk,rfl⟩
    · obtain ⟨l1,l2⟩:=R.lt.1 b h
      exact ⟨l1,l2.imp id fun h=>h.elim id fun ⟨_,_,h,_⟩=>by cases h⟩
    · exact ⟨R.jf hk,.inr (hB k x hk)⟩
  · rcases i2.2 b hb with h | ⟨k,x,hk,rfl⟩
    · exact (R.lt.2 b h).imp id fun h=>h.elim id fun ⟨_,_,h,_⟩=>by cases h
    · exact .inr (hB k x hk)
 cases ex with
 | normal =>
  simp only [Oz] at q
  split at q
  · rename_i ds os hres;exact hfin ds os hres q
  · exact q.elim
 | ret =>
  simp only [Oz] at q
  split at q
  · rename_i ds os hres;exact hfin ds os hres q
  · exact q.elim
 | _=>exact q.elim
inductive KM where
 | top
 | at (id:Nat) (off:Int)
 | nil
def jN:List KM→Nat→KM
 | [],_=>.nil
 | x :: _,0=>x
 | _ :: r,k+1=>jN r k
def uE:List KM→Nat→List Nat
 | [],_=>[]
 | .top :: r,k=>k :: uE r (k+1)
 | .at id _ :: r,k=>id :: uE r (k+1)
 | .nil :: r,k=>uE r (k+1)
def R6 (p:Pr) (objs:List (Option Ob)) (km:List KM) (post:List Ob):D→D→Prop
 | d,.vec k g' sz' o' n'=>match jN km k with
  | .at id off=>match d with
   | .vec id' g sz o n=>match objs[id]? with
    | some (some ob)=>match post[k]? with
     | some (.arr _ _ N _ _)=>if Nat.beq id id' && Nat.beq sz sz' && Nat.beq g' 1 then p.jh g ob.gen∧p.nP o off∧p.nP o' 0∧p.nP n n'∧p.nP n' N else False
     | _=>False
    | _=>False
   | _=>False
  | .nil=>match d with
   | .cO=>if Nat.beq g' 1 then p.nP o' 0∧p.nP n' 0 else False
   | _=>False
  | .top=>False
 | d,d'=>bG p d d'
def UU (p:Pr) (objs:List (Option Ob)) (km:List KM) (post:List Ob):List D→List D→Prop
 | [],[]=>True
 | d :: r,d' :: r'=>R6 p objs km post d d'∧UU p objs km post r r'
 | _,_=>False
def Jh (p:Pr) (objs:List (Option Ob)) (km:List KM) (post:List Ob) (k:Nat):Ob→Prop
 | .box g' cs'=>match jN km k,objs[k]? with
  | .top,some (some (.box g cs))=>p.jh g 0∧p.jh g' 0∧UU p objs km post cs cs'
  | _,_=>False
 | .arr g' sz' n' t' f'=>match jN km k with
  | .top=>match objs[k]? with
   | some (some (.arr g sz n t f))=>if Nat.beq sz sz' then p.jh g 0∧p.jh g' 0∧p.nP n n'∧p.NG t t'∧p.all2 n sz (fun i j=>bG p (f i j) (f' i j)) else False
   | _=>False
  | .at id off=>match objs[id]? with
   | some (some (.arr _ sz n _ f))=>if Nat.beq sz sz' && Nat.beq g' 1 then p.NG t' false∧p.cut off (p.add off n') n∧p.all2 n' sz (fun i j=>bG p (f (p.add off i) j) (f' i j)) else False
   | _=>False
  | .nil=>if Nat.beq g' 1 then p.NG t' false∧p.nP n' 0 else False
 | .dead g'=>match jN km k with
  | .nil=>if Nat.beq g' 1 then True else False
  | _=>False
 | _=>False
def aay (p:Pr) (objs:List (Option Ob)) (km:List KM) (post:List Ob):Nat→List Ob→Prop
 | _,[]=>True
 | k,q :: r=>Jh p objs km post k q∧aay p objs km post (k+1) r
def CZ (p:Pr) (objs:List (Option Ob)) (km:List KM) (post:List Ob):Prop:=Q0 (uE km 0)=true∧Nat.beq km.length post.length=true∧aay p objs km post 0 post
def HY (p:Pr):List D→D→Prop
 | [],.gX k _=>if Nat.beq k 0 then True else False
 | [d],d'=>bG p d d'
 | [a,b],.gX k c=>if Nat.beq k 2 then bG p a (c 0)∧bG p b (c 1) else False
 | _,_=>False
def Dj (p:Pr) (tt:TT) (rs:List ResultVar) (post:List Ob) (res:D):Exit→St→Prop
 | .normal,st=>match pO p tt st.objs st.slots rs with
  | some (ds,os)=>conj p os (HY p ds res∧∃ km,CZ p st.objs km post)
  | none=>False
 | .ret,st=>match pO p tt st.objs st.slots rs with
  | some (ds,os)=>conj p os (HY p ds res∧∃ km,CZ p st.objs km post)
  | none=>False
 | _,_=>False
theorem Yq : ∀ {km:List KM} {b:Nat},(uE km b).Nodup→(∀ k id,(jN km k = .top∧k < km.length∧id=b+k∨∃ o,jN km k = .at id o)→id∈uE km b) ∧
  ∀ k k' id,k≠k'→(jN km k = .top∧k < km.length∧id=b+k∨∃ o,jN km k = .at id o)→¬ (jN km k' = .top∧k' < km.length∧id=b+k'∨∃ o,jN km k' = .at id o)
 | [],b,_=>⟨fun k id h=>by rcases h with ⟨_,h,_⟩ | ⟨o,h⟩<;>simp [jN] at h,fun k k' id _ h=>by rcases h with ⟨_,h,_⟩ | ⟨o,h⟩<;>simp [jN] at h⟩
 | x :: r,b,hn=>by
  have hsub:(uE r (b+1)).Nodup:=by
   cases x<;>simp only [uE,List.nodup_cons] at hn<;>first | exact hn.2 | exact hn
  obtain ⟨h1,h2⟩:=Yq (km:=r) (b:=b+1) hsub
  have hsh : ∀ (k id:Nat),(jN (x :: r) (k+1) = .top∧k+1 < (x :: r).length∧id=b+(k+1)∨∃ o,jN (x :: r) (k+1) = .at id o)→(jN r k = .top∧k < r.length∧id=b+1+k∨∃ o,jN r k = .at id o):=by
   intro k id h
   rcases h with ⟨a1,a2,a3⟩ | h
   · exact .inl ⟨a1,by simpa using a2,by omega⟩
   · exact .inr h
  have hz : ∀ id,(jN (x :: r) 0 = .top∧0 < (x :: r).length∧id=b+0∨∃ o,jN (x :: r) 0 = .at id o)→id∈uE (x :: r) b∧id ∉ uE r (b+1):=by
   intro id h
   rcases h with ⟨a1,_,a3⟩ | ⟨o,a1⟩
   · simp only [jN] at a1
     subst a1
     simp only [uE,List.nodup_cons] at hn
     have:id=b:=by omega
     subst this
     exact ⟨List.mem_cons_self ..,hn.1⟩
   · simp only [jN] at a1
     subst a1
     simp only [uE,List.nodup_cons] at hn
     exact ⟨List.mem_cons_self ..,hn.1⟩
  have hin : ∀ id,id∈uE r (b+1)→id∈uE (x :: r) b:=by
   intro id h
   cases x<;>simp only [uE]<;>first | exact List.mem_cons_of_mem _ h | exact h
  refine ⟨fun k id h=>?_,fun k k' id hne h h'=>?_⟩
  · cases k with
    | zero=>exact (hz id h).1
    | succ k=>exact hin id (h1 k id (hsh k id h))
  · cases k with
    | zero =>
     cases k' with
     | zero=>exact hne rfl
     | succ k'=>exact (hz id h).2 (h1 k' id (hsh k' id h'))
    | succ k =>
     cases k' with
     | zero=>exact (hz id h').2 (h1 k id (hsh k id h))
     | succ k'=>exact h2 k k' id (by omega) (hsh k id h) (hsh k' id h')
theorem WE {objs:List (Option Ob)} {km:List KM} {po:List Ob} : ∀ {post:List Ob} {b:Nat},aay (std P) objs km po b post→∀ (k:Nat) (q:Ob),post[k]? = some q→Jh (std P) objs km po (b+k) q
 | [],_,_,k,q,hk=>by simp at hk
 | x :: r,b,h,k,q,hk=>by
  cases k with
  | zero=>simp only [List.getElem?_cons_zero,Option.some.injEq] at hk;subst hk;exact h.1
  | succ k =>
   have:=WE h.2 k q (by simpa using hk)
   rwa [show b+1+k=b+(k+1) by omega] at this
theorem Rf {objs:List (Option Ob)} {km:List KM} {po:List Ob} : ∀ {cs cs':List D},UU (std P) objs km po cs cs'→cs'.length=cs.length∧∀ (j:Nat) (d':D),cs'[j]? = some d'→∃ d,cs[j]? = some d∧R6 (std P) objs km po d d'
 | [],[],_=>⟨rfl,fun j d h=>by simp at h⟩
 | [],_ :: _,h=>h.elim
 | _ :: _,[],h=>h.elim
 | d :: r,d' :: r',h=>by
  obtain ⟨h1,h2⟩:=Rf h.2
  refine ⟨by simp [h1],fun j x hj=>?_⟩
  cases j with
  | zero=>simp only [List.getElem?_cons_zero,Option.some.injEq] at hj;subst hj;exact ⟨d,rfl,h.1⟩
  | succ j=>simpa using h2 j x (by simpa using hj)
def Vi (args:List D) (pre:List Ob) (nt:Nat) (ctr:Nat):St:=⟨args++List.replicate (nt-args.length) .junk,pre.map some++List.replicate nt none,ctr⟩
theorem aia {h:Array Obj} {I:IS} {β:Nat→Option (Nat × Nat × Array Value)} {objs:List (Option Ob)} {ctr B:Nat} {ds:List D} {res:D} {vs:List Value} (ho:HY (std P) ds res) (hl:vs.length=ds.length)
  (hv : ∀ (t:Nat) (d:D),ds[t]? = some d→∃ y,vs[t]? = some y∧Rd h I β objs ctr d y):Jg B h I res (agf vs):=by
 match ds,vs,hl with
 | [],[],_ =>
  cases res<;>simp [HY] at ho
  subst ho
  exact ⟨_,rfl,rfl,fun j hj=>by omega⟩
 | [d],[v],_ =>
  obtain ⟨y,hy,hr⟩:=hv 0 d (by simp)
  simp at hy;subst hy
  have:=sP d res _ (show bG (std P) d res from ho) hr
  cases res<;>first | exact this | exact this.elim
 | [d1,d2],[v1,v2],_ =>
  obtain ⟨y1,hy1,hr1⟩:=hv 0 d1 (by simp)
  obtain ⟨y2,hy2,hr2⟩:=hv 1 d2 (by simp)
  simp at hy1 hy2;subst hy1;subst hy2
  cases res with
  | gX k c =>
   simp only [HY] at ho
   split at ho
   · rename_i hk
     have hk:=Nat.eq_of_beq_eq_true hk;subst hk
     refine ⟨_,rfl,rfl,fun j hj=>?_⟩
     match j,hj with
     | 0,_=>exact ⟨v1,rfl,sP _ _ _ ho.1 hr1⟩
     | 1,_=>exact ⟨v2,rfl,sP _ _ _ ho.2 hr2⟩
   · exact ho.elim
  | _=>simp [HY] at ho
 | _ :: _ :: _ :: _,_,_=>exact (by cases res<;>exact ho.elim)
theorem ahG {tt:TT} (hT:gH P tt) {f:FuncId} {fn:Func} {c:Code} {args:List D} {pre post:List Ob} {res:D} (hf:P.funcs[f]? = some fn) (hn:(fn.name == "runtime.NumGoroutine")=false) (hb:fn.body=some c) (hpl:post.length=pre.length)
  (h : ∀ ctr,0 < ctr→Tr P c (Dj (std P) tt fn.results.toList post res) (Vi args pre fn.ntmps ctr)):jc P f args pre post res:=by
 refine ⟨⟨fn,hf,hn,by rw [hb];rfl⟩,fun w I ctr vs β hpos hI rz hlen hargs cK hdom hdist=>?_⟩
 refine calls_of_wp hf hb ?_
 have adJ : ∀ (k:Nat) (o:Ob),(pre.map some++List.replicate fn.ntmps (none:Option Ob))[k]? = some (some o)→pre[k]? = some o:=by
  intro k o hk
  rcases Nat.lt_or_ge k pre.length with hlt | hge
  · rw [List.getElem?_append_left (by simpa using hlt),List.getElem?_map] at hk
    cases hp:pre[k]? with
    | none=>rw [hp] at hk;cases hk
    | some o'=>rw [hp] at hk;simp only [Option.map_some,Option.some.injEq] at hk;rw [hk]
  · rw [List.getElem?_append_right (by simpa using hge),List.getElem?_replicate] at hk
    split at hk<;>cases hk
 have ahr : ∀ (k:Nat) (o:Ob),pre[k]? = some o→(pre.map some++List.replicate fn.ntmps (none:Option Ob))[k]? = some (some o):=by
  intro k o hk
  have hlt:=(List.getElem?_eq_some_iff.1 hk).1
  rw [List.getElem?_append_left (by simpa using hlt),List.getElem?_map,hk];rfl
 have hpre : ∀ (k:Nat) (o:Ob),(pre.map some)[k]? = some (some o)→pre[k]? = some o:=by
  intro k o hk
  rw [List.getElem?_map] at hk
  cases hp:pre[k]? with
  | none=>rw [hp] at hk;cases hk
  | some o'=>rw [hp] at hk;simp only [Option.map_some,Option.some.injEq] at hk;rw [hk]
 have G:Goes w.heap I β (pre.map some) ctr w.heap I β (pre.map some++List.replicate fn.ntmps none) ctr:=by
  refine ⟨fun _ h=>h,fun _ _=>rfl,fun _ h=>h,fun id g hg=>?_,fun id g _ o' ho' _ _=>⟨o',by rw [List.getElem?_map,adJ id o' ho'];rfl,Ob.l9 _,rfl⟩⟩
  rcases hg with h | ⟨h,o,ho,hgo⟩
  · exact .inl h
  · exact .inr ⟨h,o,ahr _ _ (hpre _ _ ho),hgo⟩
 have apf : ∀ (k:Nat) (o:Ob),pre[k]? = some o→Rob w.heap I β (pre.map some++List.replicate fn.ntmps none) ctr k o:=fun k o hk=>Rob.mono G (fun _ _ _ hI=>⟨rfl,hI⟩) rfl (cK k o hk).2
 have hblk : ∀ k x,β k=some x→x.1 < w.heap.size∧¬ I x.1:=by
  intro k x hk
  obtain ⟨o,ho⟩:=hdom k x hk
  have hr:=(cK k o ho).2
  cases o with
  | box g cs=>obtain ⟨_,b',o',s',c,e,h1,h2,_,h4,_⟩:=hr;rw [hk] at h1;cases h1;exact ⟨(Array.getElem?_eq_some_iff.1 h2).1,h4⟩
  | arr g sz n t f =>
   obtain ⟨_,_,hx⟩:=hr
   rcases hx with ⟨_,h2⟩ | ⟨b',o',s',c,e,h1,h2,_,h4,_⟩
   · rw [hk] at h2;cases h2
   · rw [hk] at h1;cases h1;exact ⟨(Array.getElem?_eq_some_iff.1 h2).1,h4⟩
  | iter g s pos=>obtain ⟨_,_,b',o',z',h1,h2,h3⟩:=hr;rw [hk] at h1;cases h1;exact ⟨(Array.getElem?_eq_some_iff.1 h2).1,h3⟩
  | dead g=>exact absurd (hk.symm.trans hr.2) (by simp)
 have hRS:RS w.heap.size w.heap I ⟨β,w.os,w.output⟩ (Vi args pre fn.ntmps ctr) { tmps:=vs.toArray++Array.replicate (fn.ntmps-vs.toArray.size) undef,defers:=[] } w:=by
  refine ⟨I,β,?_,?_,rfl,fun k o hk=>apf k o (adJ k o hk),fun k x hk=>?_,hdist,fun k x hk=>.inr ⟨k,x,hk,rfl⟩,
   IS.le.refl _,⟨fun b hb=>⟨hI b hb,.inl hb⟩,fun b hb=>.inl hb⟩,fun _ _ _=>rfl,Nat.le_refl _,hpos,fun k o hk _ _=>rfl,⟨rfl,rfl⟩,rz⟩
  · simp [Vi,hlen]
  · intro t d ht
    simp only [Vi] at ht
    rcases Nat.lt_or_ge t args.length with hlt | hge
    · rw [List.getElem?_append_left hlt] at ht
      obtain ⟨y,y1,y2⟩:=hargs t d ht
      refine ⟨y,?_,Rd.mono G _ _ y2⟩
      rw [Array.getElem?_append_left (by simpa [hlen] using hlt)]
      simpa using y1
    · rw [List.getElem?_append_right hge,List.getElem?_replicate] at ht
      split at ht
      · rename_i hlt
        cases ht
        refine ⟨undef,?_,trivial⟩
        rw [Array.getElem?_append_right (by simpa [hlen] using hge)]
        simp only [List.size_toArray,hlen,Array.getElem?_replicate]
        rw [if_pos hlt]
      · cases ht
  · obtain ⟨o,ho⟩:=hdom k x hk
    exact ⟨o,ahr k o ho⟩
 refine h ctr hpos w.heap.size w.heap I ⟨β,w.os,w.output⟩ _ w _ hRS fun ex st' a' w' q R=>?_
 have hfin : ∀ ds os,pO (std P) tt st'.objs st'.slots fn.results.toList=some (ds,os)→conj (std P) os (HY (std P) ds res∧∃ km,CZ (std P) st'.objs km post) →
   a'.defers=[]∧∃ v,(results fn a'.tmps).run P w' = .ok v w'∧(∃ v' I' c' β',Ending.returned v = .returned v'∧I.le I'∧((∀ b,I' b→b < w'.heap.size∧(I b∨w.heap.size≤b∨∃ k x,β k=some x∧x.1=b))∧∀ b,I'.l b→I.l b∨w.heap.size≤b∨∃ k x,β k=some x∧x.1=b) ∧
    (∀ b,b < w.heap.size→(∀ k x,β k=some x→x.1≠b)→w'.heap[b]? = w.heap[b]?)∧w.heap.size≤w'.heap.size∧iy w w' ∧
    (∀ (k:Nat) (o:Ob),post[k]? = some o→Rob w'.heap I' β' (post.map some) c' k o∧(o.gen=0→β' k=β k)) ∧
    (∀ k k' x x',k≠k'→β' k=some x→β' k'=some x'→x.1≠x'.1) ∧
    (∀ k x,β' k=some x→(∃ o,post[k]? = some o)∧((∃ k' x',β k'=some x'∧x'.1=x.1)∨w.heap.size≤x.1))∧Jg w.heap.size w'.heap I' res v'):=by
  intro ds os hres hc
  obtain ⟨h1,h2,km,hnd,hkl,hend⟩:=oL hc
  obtain ⟨J,Yr,R⟩:=R
  obtain ⟨vs',r1,r2,r3⟩:=WC hT R hres h1
  have hkl:=Nat.eq_of_beq_eq_true hkl
  obtain ⟨_,apg⟩:=Yq (Na hnd)
  have cK : ∀ (k:Nat) (q:Ob),post[k]? = some q→Jh (std P) st'.objs km post k q:=fun k q hk=>by
   have:=WE hend k q hk
   rwa [Nat.zero_add] at this
  let XT:Nat→Nat:=fun k=>match post[k]? with
   | some (.arr _ sz _ _ _)=>sz
   | _=>0
  let N8:Nat→Option (Nat × Nat × Array Value):=fun k=>if k < post.length then match jN km k with
    | .top=>Yr k
    | .at id off=>match Yr id with
     | some (b,o,s)=>some (b,o+off.toNat*XT k,s)
     | none=>none
    | .nil=>none
   else none
  have aaz : ∀ k,k < post.length→jN km k = .top→N8 k=Yr k:=fun k h1 h2=>by simp only [N8,if_pos h1,h2]
  have adK : ∀ k id off,k < post.length→jN km k = .at id off→(Yr id=none→N8 k=none)∧∀ b o s,Yr id=some (b,o,s)→N8 k=some (b,o+off.toNat*XT k,s):=fun k id off h1 h2=>by
   refine ⟨fun h=>?_,fun b o s h=>?_⟩<;>simp only [N8,if_pos h1,h2,h]
  have aaA : ∀ k,jN km k = .nil→N8 k=none:=fun k h=>by
   simp only [N8,h];split<;>rfl
  have hsrc : ∀ k x,N8 k=some x→k < post.length∧∃ id x0,(jN km k = .top∧k < km.length∧id=0+k∨∃ o,jN km k = .at id o)∧Yr id=some x0∧x0.1=x.1:=by
   intro k x hk
   have hlt:k < post.length:=by
    rcases Nat.lt_or_ge k post.length with h | h
    · exact h
    · simp only [N8,if_neg (show ¬ k < post.length by omega)] at hk;cases hk
   refine ⟨hlt,?_⟩
   cases hm:jN km k with
   | top=>exact ⟨k,x,.inl ⟨rfl,by omega,by omega⟩,(aaz k hlt hm).symm.trans hk,rfl⟩
   | «at» id off =>
    obtain ⟨a1,a2⟩:=adK k id off hlt hm
    cases hb:Yr id with
    | none=>rw [a1 hb] at hk;cases hk
    | some z =>
     obtain ⟨b,o,s⟩:=z
     rw [a2 b o s hb] at hk
     cases hk
     exact ⟨id,_,.inr ⟨off,rfl⟩,hb,rfl⟩
   | nil=>rw [aaA k hm] at hk;cases hk
  have hcell : ∀ (d d':D) (z:Value),R6 (std P) st'.objs km post d d'→Rd w'.heap J Yr st'.objs st'.ctr d z→Rd w'.heap J N8 (post.map some) (st'.ctr+2) d' z:=by
   intro d d' z hc hz
   by_cases hv : ∃ k g' sz' o' n',d' = .vec k g' sz' o' n'
   · obtain ⟨k,g',sz',o',n',rfl⟩:=hv
     simp only [R6] at hc
     split at hc
     · rename_i id off hm
       split at hc
       · rename_i id' g sz o n
         split at hc
         · rename_i ob alg
           split at hc
           · rename_i gN szN N tN fN hpk
             split at hc
             · rename_i hck
               simp only [Bool.and_eq_true] at hck
               have e1:=Nat.eq_of_beq_eq_true hck.1.1
               have e2:=Nat.eq_of_beq_eq_true hck.1.2
               have e3:=Nat.eq_of_beq_eq_true hck.2
               subst e1;subst e2;subst e3
               obtain ⟨f1,f2,f3,f4,f5⟩:=hc
               have f1:g=ob.gen:=f1
               have f2:o=off:=f2
               have f3:o'=0:=f3
               have f4:n=n':=f4
               have f5:n'=N:=f5
               subst f2;subst f3;subst f4;subst f5
               have hlt:k < post.length:=(List.getElem?_eq_some_iff.1 hpk).1
               have hbe:=cK k _ hpk
               simp only [Jh,hm] at hbe
               split at hbe
               · rename_i g1 La n1 t1 fn1 alh
                 rw [alg] at alh;cases alh
                 split at hbe
                 · rename_i agh
                   simp only [Bool.and_eq_true] at agh
                   have e4:=Nat.eq_of_beq_eq_true agh.1
                   have e5:=Nat.eq_of_beq_eq_true agh.2
                   subst e4;subst e5
                   obtain ⟨b1,b2,b3⟩:=hbe
                   obtain ⟨_,⟨a0,l0,c0,s1,s2,s3,s4⟩,hvx⟩:=hz
                   refine ⟨.inl (by omega),⟨_,_,_,s1,s2,s3,s4⟩,fun N' t' f' hpo=>?_⟩
                   rw [List.getElem?_map,hpk] at hpo
                   simp only [Option.map_some,Option.some.injEq,Ob.arr.injEq] at hpo
                   obtain ⟨_,q1,q2,q3,_⟩:=hpo
                   subst q1;subst q2;subst q3
                   have f1:g=g1:=f1
                   subst f1
                   obtain ⟨o1,o2,o3,ad,len,cap,v0,v1,v2,v3,v4⟩:=hvx _ _ _ alg
                   refine ⟨Int.le_refl _,o2,by omega,ad,len,cap,v0,v1,v2,(fun h=>?_),fun hp=>?_⟩
                   · have b1:tN=false:=b1
                     rw [b1] at h;cases h
                   · obtain ⟨b,p,s,hb,x1,x2⟩:=v4 hp
                     have hs:XT k=La:=by simp only [XT,hpk]
                     refine ⟨b,_,s,(adK k _ _ hlt hm).2 b p s hb,?_,?_⟩
                     · rw [x1,hs];simp
                     · rw [hs];simp;omega
                 · exact hbe.elim
               · exact hbe.elim
             · exact hc.elim
           · exact hc.elim
         · exact hc.elim
       · exact hc.elim
     · rename_i hm
       split at hc
       · split at hc
         · rename_i hg
           have e3:=Nat.eq_of_beq_eq_true hg
           subst e3
           obtain ⟨f1,f2⟩:=hc
           have f1:o'=0:=f1
           have f2:n'=0:=f2
           subst f1;subst f2
           cases hz
           refine ⟨.inl (by omega),⟨none,0,0,rfl,rfl,Nat.le_refl _,fun h=>by omega⟩,fun N t f hpo=>?_⟩
           rw [List.getElem?_map] at hpo
           cases hpk:post[k]? with
           | none=>rw [hpk] at hpo;cases hpo
           | some q =>
            rw [hpk] at hpo
            simp only [Option.map_some,Option.some.injEq] at hpo
            subst hpo
            have hbe:=cK k _ hpk
            simp only [Jh,hm] at hbe
            have hbe:t=false∧N=0:=hbe
            obtain ⟨b1,b2⟩:=hbe
            subst b1;subst b2
            exact ⟨Int.le_refl _,Int.le_refl _,by omega,none,0,0,rfl,rfl,Nat.le_refl _,(fun h=>by cases h),fun h=>by omega⟩
         · exact hc.elim
       · exact hc.elim
     · exact hc.elim
   · have hc:bG (std P) d d':=by
      cases d'<;>first | exact hc | exact absurd ⟨_,_,_,_,_,rfl⟩ hv
     exact Rd.mono (Goes.back _ _ _ _ _) _ _ (sP _ _ _ hc hz)
  have hback : ∀ d' y,Rd w'.heap J (fun _=>none) [] 0 d' y→Rd w'.heap J N8 (post.map some) (st'.ctr+2) d' y:=fun d' y hy=>Rd.mono (Goes.back _ _ _ _ _) _ _ hy
  refine ⟨R.defers,_,r1,_,J,st'.ctr+2,N8,rfl,R.old,⟨fun b hb=>?_,fun b hb=>R.lt.2 b hb⟩,fun b hb hn=>R.frame b hb (fun ⟨k,x,hk,he⟩=>hn k x hk he),R.size,R.wo,fun k q hk=>?_,fun k k' x x' hne hk hk'=>?_,fun k x hk=>?_,aia h2 r2 r3⟩
  · obtain ⟨l1,l2⟩:=R.lt.1 b hb
    exact ⟨l1,l2⟩
  · have hlt:k < post.length:=(List.getElem?_eq_some_iff.1 hk).1
    have hbe:=cK k q hk
    cases q with
    | box g' cs' =>
     simp only [Jh] at hbe
     split at hbe
     · rename_i g cs hm e1
       obtain ⟨f1,f2,f3⟩:=hbe
       have f1:g=0:=f1
       have f2:g'=0:=f2
       subst f1;subst f2
       obtain ⟨hl,hg⟩:=Rf f3
       obtain ⟨_,b,o,s,c,e,x1,x2,x3,x4,x5,x6⟩:=R.ob k _ e1
       have hbp:=aaz k hlt hm
       refine ⟨⟨Nat.zero_le _,b,o,s,c,e,hbp.trans x1,x2,by rw [hl];exact x3,x4,by rw [hl];exact x5,fun j d' hj=>?_⟩,fun _=>hbp.trans (R.stay k _ e1 rfl trivial)⟩
       obtain ⟨d,d1,d2⟩:=hg j d' hj
       obtain ⟨z,z1,z2,z3⟩:=x6 j d d1
       exact ⟨z,z1,z2,hcell _ _ _ d2 z3⟩
     · exact hbe.elim
    | arr g' sz' n' t' f' =>
     simp only [Jh] at hbe
     split at hbe
     · rename_i hm
       split at hbe
       · rename_i g sz n t f e1
         split at hbe
         · rename_i hck
           have e2:=Nat.eq_of_beq_eq_true hck
           subst e2
           obtain ⟨f1,f2,f3,f4,f5⟩:=hbe
           have f1:g=0:=f1
           have f2:g'=0:=f2
           have f3:n=n':=f3
           have f4:t=t':=f4
           subst f1;subst f2;subst f3;subst f4
           have hbp:=aaz k hlt hm
           obtain ⟨_,hn0,hx⟩:=R.ob k _ e1
           refine ⟨⟨Nat.zero_le _,hn0,?_⟩,fun _=>hbp.trans (R.stay k _ e1 rfl trivial)⟩
           rcases hx with ⟨x1,x2⟩ | ⟨b,o,s,c,e,x1,x2,x3,x4,x5,x6⟩
           · exact .inl ⟨x1,hbp.trans x2⟩
           · refine .inr ⟨b,o,s,c,e,hbp.trans x1,x2,x3,x4,x5,fun i hi j hj=>?_⟩
             obtain ⟨z,z1,z2,z3⟩:=x6 i hi j hj
             exact ⟨z,z1,z2,hback _ _ (sP _ _ _ (f5 i (by omega) hi j hj) z3)⟩
         · exact hbe.elim
       · exact hbe.elim
     · rename_i id off hm
       split at hbe
       · rename_i g sz n t f e1
         split at hbe
         · rename_i hck
           simp only [Bool.and_eq_true] at hck
           have e2:=Nat.eq_of_beq_eq_true hck.1
           have e3:=Nat.eq_of_beq_eq_true hck.2
           subst e2;subst e3
           obtain ⟨f1,⟨f2,f3,f4⟩,f5⟩:=hbe
           have f1:t'=false:=f1
           subst f1
           have f2:0≤off:=f2
           have f3:off≤off+n':=f3
           have f4:off+n'≤n:=f4
           have hs:XT k=sz:=by simp only [XT,hk]
           obtain ⟨a1,a2⟩:=adK k id off hlt hm
           obtain ⟨_,hn0,hx⟩:=R.ob id _ e1
           refine ⟨⟨by omega,by omega,?_⟩,fun h=>by simp [Ob.gen] at h⟩
           rcases hx with ⟨x1,x2⟩ | ⟨b,o,s,c,e,x1,x2,x3,x4,x5,x6⟩
           · exact .inl ⟨by omega,a1 x2⟩
           · have hmul:off.toNat*sz+n'.toNat*sz≤n.toNat*sz:=by
              rw [← Nat.add_mul];exact Nat.mul_le_mul_right _ (by omega)
             refine .inr ⟨b,_,s,c,e,a2 b o s x1,x2,x3,x4,by rw [hs];omega,fun i hi j hj=>?_⟩
             obtain ⟨z,z1,z2,z3⟩:=x6 (off.toNat+i) (by omega) j hj
             refine ⟨z,by rw [← z1,hs];congr 1;rw [Nat.add_mul];omega,z2,?_⟩
             have e5:((off.toNat+i:Nat):Int)=off+(i:Int):=by omega
             rw [e5] at z3
             exact hback _ _ (sP _ _ _ (f5 i (by omega) hi j hj) z3)
         · exact hbe.elim
       · exact hbe.elim
     · rename_i hm
       split at hbe
       · rename_i hck
         have e3:=Nat.eq_of_beq_eq_true hck
         subst e3
         obtain ⟨f1,f2⟩:=hbe
         have f2:n'=0:=f2
         subst f2
         exact ⟨⟨by omega,Int.le_refl _,.inl ⟨rfl,aaA k hm⟩⟩,fun h=>by simp [Ob.gen] at h⟩
       · exact hbe.elim
    | iter g s i=>exact hbe.elim
    | dead g' =>
     simp only [Jh] at hbe
     split at hbe
     · rename_i hm
       split at hbe
       · rename_i hck
         have e3:=Nat.eq_of_beq_eq_true hck
         subst e3
         exact ⟨⟨by omega,aaA k hm⟩,fun h=>by simp [Ob.gen] at h⟩
       · exact hbe.elim
     · exact hbe.elim
  · obtain ⟨_,id,y,a1,a2,a3⟩:=hsrc k x hk
    obtain ⟨_,id',y',c1,c2,c3⟩:=hsrc k' x' hk'
    rw [← a3,← c3]
    refine R.dist id id' y y' (fun e=>?_) a2 c2
    subst e
    exact apg k k' id hne a1 c1
  · obtain ⟨hlt,id,y,a1,a2,a3⟩:=hsrc k x hk
    refine ⟨⟨_,List.getElem?_eq_getElem hlt⟩,?_⟩
    rw [← a3]
    rcases R.own id y a2 with h | ⟨k',x',h1',aph⟩
    · exact .inr h
    · exact .inl ⟨k',x',h1',aph⟩
 cases ex with
 | normal =>
  simp only [Dj] at q
  split at q
  · rename_i ds os hres;exact hfin ds os hres q
  · exact q.elim
 | ret =>
  simp only [Dj] at q
  split at q
  · rename_i ds os hres;exact hfin ds os hres q
  · exact q.elim
 | _=>exact q.elim
end
end Go.Vx
