/- The evaluator's word on code holds of the Go model; loops; ghosts. -/
import Derived.Test.YtckmalogclklmaaGreatDoorVxCode3
set_option linter.all false
namespace Go.Vx
section
variable {P:Program} {B0:Nat} {h0:Array Obj} {I0 I I':IS} {L:p9} {β β':Nat→Option (Nat × Nat × Array Value)} {slots:List D} {objs aX:List (Option Ob)} {ctr iU:Nat} {a:Act} {w:World}
def aZ (d d':D):Prop:=∀ (h:Array Obj) (I:IS) (β:Nat→Option (Nat × Nat × Array Value)) (objs:List (Option Ob)) (ctr:Nat) (y:Value),Rd h I β objs ctr d y→Rd h I β objs ctr d' y
def dN (o o':Ob):Prop:=o.like o'∧∀ (h:Array Obj) (I:IS) (β:Nat→Option (Nat × Nat × Array Value)) (objs:List (Option Ob)) (ctr k:Nat),Rob h I β objs ctr k o→Rob h I β objs ctr k o'
theorem aZ.refl (d:D):aZ d d:=fun _ _ _ _ _ _ h=>h
theorem aZ.junk (d:D):aZ d .junk:=fun _ _ _ _ _ _ _=>trivial
theorem dN.refl (o:Ob):dN o o:=⟨Ob.l9 o,fun _ _ _ _ _ _ h=>h⟩
theorem Rob.amM {h:Array Obj} (G:Goes h I β objs ctr h I' β' aX iU) (hc:ctr≤iU) {k:Nat} {o:Ob}
  (hk : ∀ x,β k=some x→¬ I x.1→¬ I' x.1) (kC:β' k=β k) (hr:Rob h I β objs ctr k o):Rob h I' β' aX iU k o:=by
 cases o with
 | box g cs =>
  obtain ⟨hg,b,o,s,c,e,h1,h2,h3,h4,h5,h6⟩:=hr
  refine ⟨by omega,b,o,s,c,e,by rw [kC];exact h1,h2,h3,hk _ h1 h4,h5,fun j d hj=>?_⟩
  obtain ⟨z,z1,z2,z3⟩:=h6 j d hj
  exact ⟨z,z1,z2,Rd.mono G _ _ z3⟩
 | arr g sz n t f =>
  obtain ⟨hg,hn,hx⟩:=hr
  refine ⟨by omega,hn,?_⟩
  rcases hx with ⟨h1,h2⟩ | ⟨b,o,s,c,e,h1,h2,h3,h4,h5,h6⟩
  · exact .inl ⟨h1,by rw [kC];exact h2⟩
  · refine .inr ⟨b,o,s,c,e,by rw [kC];exact h1,h2,h3,hk _ h1 h4,h5,fun i hi j hj=>?_⟩
    obtain ⟨z,z1,z2,z3⟩:=h6 i hi j hj
    exact ⟨z,z1,z2,Rd.mono G _ _ z3⟩
 | iter g s pos =>
  obtain ⟨hg,hp,b,o,z,h1,h2,h3⟩:=hr
  exact ⟨by omega,hp,b,o,z,by rw [kC];exact h1,h2,hk _ h1 h3⟩
 | dead g=>exact ⟨by have:=hr.1;omega,by rw [kC];exact hr.2⟩
theorem RM.keep (R:RM B0 h0 I0 L I β slots objs ctr a w) (hc:ctr < iU) (hI:I.le I') (hI':D8 I0 L B0 w.heap.size I')
  (cK : ∀ (k:Nat) (o':Ob),aX[k]? = some (some o')→∃ o,objs[k]? = some (some o)∧dN o o'∧β' k=β k∧∀ x,β k=some x→¬ I' x.1)
  (kC : ∀ k x,β' k=some x→β k=some x∧∃ o',aX[k]? = some (some o')) :
  Goes w.heap I β objs ctr w.heap I' β' aX iU∧RM B0 h0 I0 L I' β' slots aX iU a w:=by
 have G:Goes w.heap I β objs ctr w.heap I' β' aX iU:=by
  refine ⟨hI.1,fun _ _=>rfl,hI.2,fun id g hg=>.inl ?_,fun id g hg o' ho' _ _=>?_⟩
  · rcases hg with h | ⟨h,_⟩<;>omega
  · obtain ⟨o,h1,h2,h3,_⟩:=cK id o' ho'
    exact ⟨o,h1,h2.1,h3⟩
 refine ⟨G,R.len,fun t d ht=>?_,R.defers,fun k o' ho'=>?_,fun k x hk=>(kC k x hk).2,?_,?_,R.old.trans hI,hI',R.frame,R.size,by have:=R.pos;omega,G.stay R.pos R.stay,R.wo,R.vg.mono G.gY G.same⟩
 · obtain ⟨y,y1,y2⟩:=R.slot t d ht
   exact ⟨y,y1,Rd.mono G _ _ y2⟩
 · obtain ⟨o,h1,h2,h3,h4⟩:=cK k o' ho'
   exact Rob.amM G (by omega) (fun x hx _=>h4 x hx) h3 (h2.2 _ _ _ _ _ _ (R.ob k o h1))
 · exact fun k k' x x' hne h1 h2=>R.dist k k' x x' hne (kC k x h1).1 (kC k' x' h2).1
 · exact fun k x h1=>R.own k x (kC k x h1).1
theorem RM.WI (R:RM B0 h0 I0 L I β slots objs ctr a w) {aaU:List D} (hl:aaU.length=slots.length)
  (hs : ∀ (t:Nat) (d':D),aaU[t]? = some d'→∀ y,a.tmps[t]? = some y→(∀ d,slots[t]? = some d→Rd w.heap I β objs ctr d y)→Rd w.heap I β objs ctr d' y) :
  RM B0 h0 I0 L I β aaU objs ctr a w:=by
 refine ⟨hl.trans R.len,fun t d' ht=>?_,R.defers,R.ob,R.dom,R.dist,R.own,R.old,R.lt,R.frame,R.size,R.pos,R.stay,R.wo,R.vg⟩
 have hlt:t < slots.length:=by rw [← hl];exact (List.getElem?_eq_some_iff.1 ht).1
 obtain ⟨y,y1,y2⟩:=R.slot t _ (List.getElem?_eq_getElem hlt)
 refine ⟨y,y1,hs t d' ht y y1 fun d hd=>?_⟩
 rw [List.getElem?_eq_getElem hlt] at hd
 cases hd;exact y2
def oZ:List D→List D→Prop
 | [],[]=>True
 | d :: r,d' :: r'=>aZ d d'∧oZ r r'
 | _,_=>False
def ru:List (Option Ob)→List (Option Ob)→Prop
 | [],[]=>True
 | _ :: r,none :: r'=>ru r r'
 | some o :: r,some o' :: r'=>dN o o'∧ru r r'
 | _,_=>False
structure kW (st st':St):Prop where
 ctr:st.ctr < st'.ctr
 slots:oZ st.slots st'.slots
 objs:ru st.objs st'.objs
theorem oZ.get : ∀ {l l':List D},oZ l l'→l'.length=l.length∧∀ (t:Nat) (d d':D),l[t]? = some d→l'[t]? = some d'→aZ d d'
 | [],[],_=>⟨rfl,fun t d d' h=>by simp at h⟩
 | [],_ :: _,h=>h.elim
 | _ :: _,[],h=>h.elim
 | d :: r,d' :: r',h=>by
  obtain ⟨h1,h2⟩:=oZ.get h.2
  refine ⟨by simp [h1],fun t x x' hx hx'=>?_⟩
  cases t with
  | zero=>simp at hx hx';subst hx;subst hx';exact h.1
  | succ t=>simp at hx hx';exact h2 t x x' hx hx'
theorem ru.get : ∀ {l l':List (Option Ob)},ru l l'→∀ (k:Nat) (o':Ob),l'[k]? = some (some o')→∃ o,l[k]? = some (some o)∧dN o o'
 | [],[],_=>fun k o' h=>by simp at h
 | [],_ :: _,h=>by simp [ru] at h
 | _ :: _,[],h=>fun k o' h=>by simp at h
 | x :: r,none :: r',h=>by
  intro k o' hk
  have h:ru r r':=by cases x<;>exact h
  cases k with
  | zero=>simp at hk
  | succ k=>simp at hk;simpa using ru.get h k o' hk
 | some o :: r,some o1 :: r',h=>by
  intro k o' hk
  cases k with
  | zero=>simp at hk;subst hk;exact ⟨o,by simp,h.1⟩
  | succ k=>simp at hk;simpa using ru.get h.2 k o' hk
 | none :: r,some o1 :: r',h=>h.elim
theorem oZ.refl : ∀ (l:List D),oZ l l
 | []=>trivial
 | d :: r=>⟨aZ.refl d,oZ.refl r⟩
theorem oZ.tidy : ∀ (l:List D),oZ l (Go.Vx.tidy l)
 | []=>trivial
 | d :: r=>by
  cases d with
  | BH b d=>exact ⟨aZ.junk _,oZ.tidy r⟩
  | _=>exact ⟨aZ.refl _,oZ.tidy r⟩
theorem ru.refl : ∀ (l:List (Option Ob)),ru l l
 | []=>trivial
 | none :: r=>ru.refl r
 | some o :: r=>⟨dN.refl o,ru.refl r⟩
theorem ru.forget : ∀ (l:List (Option Ob)) (k:Nat),ru l (l.set k none)
 | [],_=>trivial
 | none :: r,0=>ru.refl r
 | some _ :: r,0=>ru.refl r
 | none :: r,k+1=>ru.forget r k
 | some o :: r,k+1=>⟨dN.refl o,ru.forget r k⟩
theorem RS.le {st st':St} (R:RS B0 h0 I0 L st a w) (h:kW st st'):RS B0 h0 I0 L st' a w:=by
 obtain ⟨I,β,R⟩:=R
 have ho:=ru.get h.objs
 let β':Nat→Option (Nat × Nat × Array Value):=fun k=>match st'.objs[k]? with
  | some (some _)=>β k
  | _=>none
 have Dc : ∀ k x,β' k=some x→β k=some x∧∃ o',st'.objs[k]? = some (some o'):=by
  intro k x hk
  simp only [β'] at hk
  split at hk
  · rename_i o ho;exact ⟨hk,o,ho⟩
  · cases hk
 obtain ⟨G,R'⟩:=R.keep (I':=I) (β':=β') (aX:=st'.objs) h.ctr (IS.le.refl _) R.lt (fun k o' hk=>by
  obtain ⟨o,h1,h2⟩:=ho k o' hk
  exact ⟨o,h1,h2,by simp [β',hk],fun x hx=>R.JU hx⟩) Dc
 obtain ⟨hl,hs⟩:=oZ.get h.slots
 refine ⟨I,β',R'.WI hl fun t d' ht y hy hd=>?_⟩
 have hlt:t < st.slots.length:=by rw [← hl];exact (List.getElem?_eq_some_iff.1 ht).1
 exact hs t _ _ (List.getElem?_eq_getElem hlt) ht _ _ _ _ _ _ (hd _ (List.getElem?_eq_getElem hlt))
theorem RS.tick {st:St} (R:RS B0 h0 I0 L st a w):RS B0 h0 I0 L { st with ctr:=st.ctr+1 } a w:=by
 obtain ⟨I,β,R⟩:=R
 obtain ⟨G,R'⟩:=R.keep (I':=I) (β':=β) (aX:=st.objs) (iU:=st.ctr+1) (by omega) (IS.le.refl _) R.lt (fun k o' hk=>⟨o',hk,dN.refl _,rfl,fun x hx=>R.JU hx⟩)
  (fun k x hk=>⟨hk,R.dom k x hk⟩)
 exact ⟨I,β,R'⟩
theorem RS.world {st:St} {w':World} (hw:w'.heap=w.heap) (hwo:iy w w') (R:RS B0 h0 I0 L st a w):RS B0 h0 I0 L st a w':=by
 obtain ⟨I,β,R⟩:=R
 exact ⟨I,β,R.len,fun t d h=>by rw [hw];exact R.slot t d h,R.defers,fun k o h=>by rw [hw];exact R.ob k o h,R.dom,R.dist,R.own,R.old,by rw [hw];exact R.lt,fun b h1 h2=>by rw [hw];exact R.frame b h1 h2,by rw [hw];exact R.size,R.pos,R.stay,⟨hwo.1.trans R.wo.1,hwo.2.trans R.wo.2⟩,by rw [hw];exact R.vg⟩
theorem YA {slots:List D} {t:Nat} {d:D} (h:slots.getD t .junk=d) (hne:d≠.junk):slots[t]? = some d:=by
 cases hs:slots[t]? with
 | none=>simp [List.getD,hs] at h;exact absurd h.symm hne
 | some x=>simp [List.getD,hs] at h;rw [h]
theorem RM.XW (R:RM B0 h0 I0 L I β slots objs ctr a w) {aX:List (Option Ob)} {w':World} {d:D} {y:Value}
  (h:Post B0 h0 I0 L I β objs ctr w aX w' d y) : ∃ I' β',Goes w.heap I β objs ctr w'.heap I' β' aX ctr∧RM B0 h0 I0 L I' β' slots aX ctr a w'∧Rd w'.heap I' β' aX ctr d y:=by
 obtain ⟨I',β',G,cK,hdom,hdist,hown,hlt,hfr,hsz,hwo,hd⟩:=h.ex
 refine ⟨I',β',G,⟨R.len,fun t d' ht=>?_,R.defers,cK,hdom,hdist,hown,R.old.trans ⟨G.gY,G.lst⟩,hlt,hfr,hsz,R.pos,G.stay R.pos R.stay,⟨hwo.1.trans R.wo.1,hwo.2.trans R.wo.2⟩,R.vg.mono G.gY G.same⟩,hd⟩
 obtain ⟨y',h1,h2⟩:=R.slot t d' ht
 exact ⟨y',h1,Rd.mono G _ _ h2⟩
theorem afe (R:RM B0 h0 I0 L I β slots objs ctr a w) {k:Nat} {o:Ob} (h:objs[k]? = some (some o)):Hu objs ctr k o.gen:=by
 have hr:=R.ob k o h
 have hg:o.gen≤ctr:=by cases o<;>exact hr.1
 rcases Nat.lt_or_ge o.gen ctr with h1 | h1
 · exact .inl h1
 · exact .inr ⟨by omega,o,h,rfl⟩
theorem RM.at {st:St} (R:RM B0 h0 I0 L I β st.slots st.objs st.ctr a w) (l:GL) {d0:D} (h:M8 st l=d0) (hj:d0≠.junk) :
  ∃ y,Rd w.heap I β st.objs st.ctr d0 y∧∀ d1 I' β' aX iU,Goes w.heap I β st.objs st.ctr w.heap I' β' aX iU→RM B0 h0 I0 L I' β' st.slots aX iU a w →
   (∀ (id:Nat) (o:Nat × List D),st.objs[id]? = some (some (.box o.1 o.2))→(∃ j,l = .cell id j)→aX[id]? = some (some (.box o.1 o.2))) →
   Rd w.heap I' β' aX iU d1 y→RS B0 h0 I0 L (uD ⟨st.slots,aX,iU⟩ d1 l) a w:=by
 cases l with
 | slot t =>
  simp only [M8] at h
  have hs:=YA h hj
  obtain ⟨y,y1,y2⟩:=R.slot t _ hs
  refine ⟨y,y2,fun d1 I' β' aX iU G R' _ hd=>⟨I',β',?_⟩⟩
  refine RM.WI (slots:=st.slots) R' (by simp [uD]) fun s d' hs' y' hy' hd'=>?_
  simp only [uD] at hs'
  by_cases hst:t=s
  · subst hst
    rw [List.getElem?_set_self (List.getElem?_eq_some_iff.1 hs).1] at hs'
    cases hs'
    rw [y1] at hy';cases hy';exact hd
  · rw [List.getElem?_set_ne hst] at hs'
    exact hd' _ hs'
 | sub t j =>
  simp only [M8] at h
  split at h
  · rename_i k c hc
    split at h
    · rename_i hjk
      have hjk:=(Nat.blt_eq ..).mp hjk
      have hs:=YA hc (by simp)
      obtain ⟨y0,y1,ys,rfl,hsz,hx⟩:=R.slot t _ hs
      obtain ⟨z,z1,z2,z3⟩:=hx j hjk
      subst h
      refine ⟨z,z3,fun d1 I' β' aX iU G R' _ hd=>?_⟩
      simp only [uD,hc]
      refine ⟨I',β',RM.WI (slots:=st.slots) R' (by simp) fun s d' hs' y' hy' hd'=>?_⟩
      by_cases hst:t=s
      · subst hst
        simp only at hs'
        rw [List.getElem?_set_self (List.getElem?_eq_some_iff.1 hs).1] at hs'
        cases hs'
        rw [y1] at hy';cases hy'
        refine ⟨ys,rfl,hsz,fun i hi=>?_⟩
        obtain ⟨u,u1,u2,u3⟩:=hx i hi
        refine ⟨u,u1,u2,?_⟩
        by_cases hij:i=j
        · subst hij
          rw [z1] at u1;cases u1
          simpa using hd
        · have:Nat.beq i j=false:=by
           cases hb:Nat.beq i j with
           | false=>rfl
           | true=>exact absurd (Nat.eq_of_beq_eq_true hb) hij
          simp only [this]
          exact Rd.mono G _ _ u3
      · simp only at hs'
        rw [List.getElem?_set_ne hst] at hs'
        exact hd' _ hs'
    · exact absurd h.symm hj
  · exact absurd h.symm hj
 | cell id j =>
  simp only [M8] at h
  split at h
  · rename_i g cs hc
    have hs:cs[j]? = some d0:=by
     cases hg:cs[j]? with
     | none=>simp [List.getD,hg] at h;exact absurd h.symm hj
     | some x=>simp [List.getD,hg] at h;rw [h]
    obtain ⟨_,b,o,s,c,e,x1,x2,x3,x4,x5,x6⟩:=R.ob id _ hc
    obtain ⟨z,z1,z2,z3⟩:=x6 j _ hs
    refine ⟨z,z3,fun d1 I' β' aX iU G R' apt hd=>?_⟩
    have hc':=apt id (g,cs) hc ⟨j,rfl⟩
    simp only [uD,hc']
    obtain ⟨hg,b',o',s',c',e',q1,q2,q3,q4,q5,q6⟩:=R'.ob id _ hc'
    obtain ⟨o2,k1,k2,k3⟩:=G.obj id g (afe R hc) _ hc' rfl trivial
    rw [k3,x1] at q1;cases q1
    rw [x2] at q2;cases q2
    have hp:Post B0 h0 I0 L I' β' aX iU w (aX.set id (some (.box g (cs.set j d1)))) w .junk undef:=by
     refine R'.adQ hc' (show g=g from rfl) ⟨hg,b,o,s,c,e,k3.trans x1,x2,by simpa using x3,q4,by simpa using q5,fun i d hi=>?_⟩ (fun _=>trivial)
     by_cases hij:j=i
     · subst hij
       rw [List.getElem?_set_self (List.getElem?_eq_some_iff.1 hs).1] at hi
       cases hi
       exact ⟨z,z1,z2,hd⟩
     · rw [List.getElem?_set_ne hij] at hi
       exact q6 i d hi
    obtain ⟨I2,β2,_,R2,_⟩:=R'.XW hp
    exact ⟨I2,β2,R2⟩
  · exact absurd h.symm hj
theorem aio {I':IS} {β':Nat→Option (Nat × Nat × Array Value)} {aX:List (Option Ob)} {iU src g2 jC:Nat} {f2:Int→Nat→D} {dst:Option (Nat × Nat)} (hI:I.le I')
  (hsl:dst=none→∀ sz off n y,sz=jC→Rd w.heap I β objs ctr (.vec src g2 sz off n) y→∀ f',(∀ i:Int,0≤i→i < n→∀ j,j < sz→bG (std P) (f2 (off+i) j) (f' i j))→Rd w.heap I' β' aX iU (.sl sz n false f') y)
  (hmv : ∀ k c,dst=some (k,c)→∀ sz off n y,sz=jC→Rd w.heap I β objs ctr (.vec src g2 sz off n) y→Rd w.heap I' β' aX iU (.vec k c sz off n) y)
  (hnl : ∀ k c,dst=some (k,c)→∀ sz,Rd w.heap I' β' aX iU (.vec k c sz 0 0) (.slice none 0 0)) :
  ∀ (d' d:D) (y:Value),(∀ b x z,d≠.cnd b x z)→Ea (std P) src g2 jC f2 dst d d'→Rd w.heap I β objs ctr d y→Rd w.heap I' β' aX iU d' y:=by
 have h0 : ∀ d d' y,bG (std P) d d'→Rd w.heap I β objs ctr d y→Rd w.heap I' β' aX iU d' y:=fun d d' y ho hr =>
  Rd.mono (Goes.back _ _ _ _ _) _ _ (Rd.mono (Goes.QY w.heap I I' hI) _ _ (sP d d' y ho hr))
 intro d'
 induction d' with
 | cnd b x y ih1 ih2 =>
  intro d z hd hr hz
  exact ⟨fun hb=>ih1 d z hd (hr.1 hb) hz,fun hb=>ih2 d z hd (hr.2 (show (!b)=true by rw [hb];rfl)) hz⟩
 | vec id' g' sz' off' n' =>
  intro d z hd hr hz
  simp only [Ea] at hr
  split at hr
  · rename_i id g sz off n k c
    split at hr
    · rename_i hck
      simp only [Bool.and_eq_true] at hck
      have e1:=Nat.eq_of_beq_eq_true hck.1.1.1
      have e2:=Nat.eq_of_beq_eq_true hck.1.1.2
      have e3:=Nat.eq_of_beq_eq_true hck.1.2
      have e4:=Nat.eq_of_beq_eq_true hck.2
      obtain ⟨r1,r2,r3,r4⟩:=hr
      have r1:g=g2:=r1
      have r2:g'=c:=r2
      have r3:off=off':=r3
      have r4:n=n':=r4
      subst e1;subst e2;subst e3;subst r1;subst r2;subst r3;subst r4
      exact hmv _ _ rfl _ _ _ _ e4 hz
    · exact hr.elim
  · rename_i k c
    split at hr
    · rename_i hck
      have e2:=Nat.eq_of_beq_eq_true hck
      obtain ⟨r2,r3,r4⟩:=hr
      have r2:g'=c:=r2
      have r3:off'=0:=r3
      have r4:n'=0:=r4
      have hz:z = .slice none 0 0:=hz
      subst e2;subst r2;subst r3;subst r4;subst hz
      exact hnl _ _ rfl _
    · exact hr.elim
  · exact hr.elim
 | sl sz' n' t' f' ih =>
  clear ih
  intro d z hd hr hz
  simp only [Ea] at hr
  split at hr
  · rename_i id g sz off n
    split at hr
    · rename_i hck
      simp only [Bool.and_eq_true] at hck
      have e1:=Nat.eq_of_beq_eq_true hck.1.1
      have e3:=Nat.eq_of_beq_eq_true hck.1.2
      have e4:=Nat.eq_of_beq_eq_true hck.2
      obtain ⟨r1,r2,r3,r4⟩:=hr
      have r1:g=g2:=r1
      have r2:n=n':=r2
      have r3:t'=false:=r3
      subst e1;subst e3;subst r1;subst r2;subst r3
      exact hsl rfl _ _ _ _ e4 hz _ r4
    · exact hr.elim
  · exact h0 _ _ _ hr hz
 | _=>intro d z hd hr hz;exact h0 _ _ _ hr hz
theorem YB {I':IS} {β':Nat→Option (Nat × Nat × Array Value)} {aX:List (Option Ob)} {iU src g2 jC:Nat} {f2:Int→Nat→D} {dst:Option (Nat × Nat)} (hI:I.le I')
  (hsl:dst=none→∀ sz off n y,sz=jC→Rd w.heap I β objs ctr (.vec src g2 sz off n) y→∀ f',(∀ i:Int,0≤i→i < n→∀ j,j < sz→bG (std P) (f2 (off+i) j) (f' i j))→Rd w.heap I' β' aX iU (.sl sz n false f') y)
  (hmv : ∀ k c,dst=some (k,c)→∀ sz off n y,sz=jC→Rd w.heap I β objs ctr (.vec src g2 sz off n) y→Rd w.heap I' β' aX iU (.vec k c sz off n) y)
  (hnl : ∀ k c,dst=some (k,c)→∀ sz,Rd w.heap I' β' aX iU (.vec k c sz 0 0) (.slice none 0 0)) :
  ∀ (d d':D) (y:Value),oV (std P) src g2 jC f2 dst d d'→Rd w.heap I β objs ctr d y→Rd w.heap I' β' aX iU d' y:=by
 intro d
 induction d with
 | cnd b x y ih1 ih2 =>
  intro d' z hr hz
  cases b with
  | true=>exact ih1 d' z (hr.1 rfl) (hz.1 rfl)
  | false=>exact ih2 d' z (hr.2 rfl) (hz.2 rfl)
 | _=>intro d' z hr hz;exact aio hI hsl hmv hnl d' _ z (fun _ _ _ h=>by cases h) hr hz
theorem RM.aff (R:RM B0 h0 I0 L I β slots objs ctr a w) {key g sz:Nat} {N:Int} {t:Bool} {f f':Int→Nat→D} (hk:objs[key]? = some (some (.arr g sz N t f)))
  (hr : ∀ (b o:Nat) (s c:Array Value) (e:TypeId),β key=some (b,o,s)→w.heap[b]? = some (.cells c e (0,0))→∀ i:Nat,(i:Int) < N→∀ j,j < sz→∃ z,c[o+i*sz+j]? = some z∧z.oneCell'=true∧Rd w.heap I β objs ctr (f' i j) z) :
  ∃ I' β',RM B0 h0 I0 L I' β' slots (objs.set key (some (.arr g sz N t f'))) ctr a w:=by
 have lF:=R.ob key _ hk
 have hp:Post B0 h0 I0 L I β objs ctr w (objs.set key (some (.arr g sz N t f'))) w .junk undef:=by
  refine R.adQ hk ⟨rfl,rfl,rfl,rfl⟩ ?_ (fun _=>trivial)
  obtain ⟨h1,h2,h3⟩:=lF
  refine ⟨h1,h2,?_⟩
  rcases h3 with h3 | ⟨b,o,s,c,e,x1,x2,x3,x4,x5,x6⟩
  · exact .inl h3
  · exact .inr ⟨b,o,s,c,e,x1,x2,x3,x4,x5,hr b o s c e x1 x2⟩
 obtain ⟨I',β',_,R',_⟩:=R.XW hp
 exact ⟨I',β',R'⟩
theorem RM.QE (R:RM B0 h0 I0 L I β slots objs ctr a w) {key src g sz g2 jC:Nat} {N N2:Int} {t t2:Bool} {f f' f2:Int→Nat→D} (hk:objs[key]? = some (some (.arr g sz N t f))) (hs:objs[src]? = some (some (.arr g2 jC N2 t2 f2))) (hne:key≠src)
  (hr : ∀ i:Int,0≤i→i < N→∀ j,j < sz→oV (std P) src g2 jC f2 none (f i j) (f' i j)) :
  ∃ I' β',RM B0 h0 I0 L I' β' slots ((objs.set src none).set key (some (.arr g sz N t f'))) (ctr+1) a w:=by
 let I':IS:=I.or fun b=>∃ x,β src=some x∧x.1=b
 let β':Nat→Option (Nat × Nat × Array Value):=fun k=>if k=src then none else β k
 have hset : ∀ k,k≠src→(objs.set src none)[k]? = objs[k]?:=fun k hk=>List.getElem?_set_ne (Ne.symm hk)
 have hlt:src < objs.length:=(List.getElem?_eq_some_iff.1 hs).1
 obtain ⟨G,R'⟩:=R.keep (I':=I') (β':=β') (aX:=objs.set src none) (iU:=ctr+1) (by omega) (IS.vv _ _)
  (R.lt.or fun b ⟨x,hx,e⟩=>e ▸ ⟨R.jf hx,R.own src x hx⟩)
  (fun k o' hk=>by
   by_cases hki:k=src
   · subst hki;rw [List.getElem?_set_self hlt] at hk;cases hk
   · rw [hset k hki] at hk
     refine ⟨o',hk,dN.refl _,by simp [β',hki],fun x hx=>?_⟩
     rintro (h | ⟨x',hx',he⟩)
     · exact R.JU hx h
     · exact R.dist k src x x' hki hx hx' he.symm)
  (fun k x hk=>by
   simp only [β'] at hk
   split at hk
   · cases hk
   · rename_i hki;rw [hset k hki];exact ⟨hk,R.dom k x hk⟩)
 have hk':(objs.set src none)[key]? = some (some (.arr g sz N t f)):=by rw [hset key hne];exact hk
 refine R'.aff hk' fun b o s c e hb hc i hi j hj=>?_
 have hb:β key=some (b,o,s):=by simpa [β',hne] using hb
 obtain ⟨_,n0,lF⟩:=R.ob key _ hk
 rcases lF with ⟨_,h2⟩ | ⟨b',o',s',c',e',x1,x2,x3,x4,x5,x6⟩
 · rw [hb] at h2;cases h2
 · rw [hb] at x1;cases x1
   rw [hc] at x2;cases x2
   obtain ⟨z,z1,z2,z3⟩:=x6 i hi j hj
   refine ⟨z,z1,z2,YB (IS.vv _ _) (fun _ sz off n y hsz hv f'' hf=>?_) (fun k c h=>by cases h) (fun k c h=>by cases h) _ _ _ (hr i (by omega) hi j hj) z3⟩
   subst hsz
   obtain ⟨ad,len,cap,rfl,y1,y2,_,y4⟩:=zJ hv hs (R.ob src _ hs)
   refine ⟨ad,len,cap,rfl,y1,y2,(fun h=>by cases h),fun hp=>?_⟩
   obtain ⟨b,o,c,e,s,q1,rfl,q2,q3,q4,q5⟩:=y4 (by omega)
   refine ⟨b,o,c,e,_,rfl,.inr ⟨_,q1,rfl⟩,q2,fun i hi j hj=>?_⟩
   obtain ⟨z,r1,r2,r3⟩:=q5 i hi j hj
   exact ⟨z,r1,r2,Rd.mono (Goes.back _ _ _ _ _) _ _ (Rd.mono (Goes.QY w.heap I I' (IS.vv _ _)) _ _ (sP _ _ _ (hf i (by omega) (by omega) j hj) r3))⟩
theorem RM.QF (R:RM B0 h0 I0 L I β slots objs ctr a w) {key src dst g sz g2 jC:Nat} {N N2:Int} {t t2:Bool} {f f' f2:Int→Nat→D} (hk:objs[key]? = some (some (.arr g sz N t f))) (hs:objs[src]? = some (some (.arr g2 jC N2 t2 f2))) (hd:objs[dst]? = some none) (hne:key≠src)
  (hr : ∀ i:Int,0≤i→i < N→∀ j,j < sz→oV (std P) src g2 jC f2 (some (dst,ctr)) (f i j) (f' i j)) :
  ∃ I' β',RM B0 h0 I0 L I' β' slots (((objs.set src (some (.dead ctr))).set dst (some (.arr ctr jC N2 t2 f2))).set key (some (.arr g sz N t f'))) ctr a w:=by
 have hkd:key≠dst:=fun h=>by subst h;rw [hk] at hd;cases hd
 have ad9:dst < (killed objs ctr (some src)).length:=by
  simp only [killed,List.length_set]
  exact (List.getElem?_eq_some_iff.1 hd).1
 obtain ⟨_,n0,lF⟩:=R.ob key _ hk
 let ys:Array Value:=match β key with
  | some (b,o,_)=>match w.heap[b]? with
   | some (.cells c _ _)=>((List.range (N.toNat*sz)).map fun q=>c.getD (o+q) undef).toArray
   | _=>#[]
  | none=>#[]
 let pk:D:=.agg (N.toNat*sz) (fun q=>f' ((q / sz:Nat):Int) (q % sz))
 have hys:ys.size=N.toNat*sz∨N=0:=by
  rcases lF with ⟨h1,_⟩ | ⟨b,o,s,c,e,x1,x2,x3,x4,x5,x6⟩
  · exact .inr h1
  · left;simp only [ys,x1,x2];simp
 have hp:Post B0 h0 I0 L I β objs ctr w ((killed objs ctr (some src)).set dst (some (.arr ctr jC N2 t2 f2))) w (if N=0 then .junk else pk) (.agg ys):=by
  refine R.turn (X:=β src) rfl (.inl hd) (fun id' h=>⟨_,by cases h;exact hs⟩) (fun _ _ _=>rfl) (Nat.le_refl _) (fun x hx=>⟨R.jf hx,.inl ⟨src,x,rfl,hx,rfl⟩⟩) ?_ ?_
  · obtain ⟨_,h1,h2⟩:=R.ob src _ hs
    refine ⟨h1,?_⟩
    rcases h2 with ⟨h3,h4⟩ | ⟨b,o,s,c,e,h3,h4,h5,h6,h7,h8⟩
    · exact .inl ⟨h3,h4⟩
    · exact .inr ⟨b,o,s,c,e,h3,h4,h5,h7,h8⟩
  · intro β' Dc G
    split
    · trivial
    · rename_i hN
      rcases lF with ⟨h1,_⟩ | ⟨b,o,s,c,e,x1,x2,x3,x4,x5,x6⟩
      · exact absurd h1 hN
      · refine ⟨ys,rfl,hys.resolve_right hN,fun q hq=>?_⟩
        have hsz:0 < sz:=by
         rcases Nat.eq_zero_or_pos sz with h | h
         · subst h;simp at hq
         · exact h
        have hqi:q / sz < N.toNat:=Nat.div_lt_of_lt_mul (by rw [Nat.mul_comm];exact hq)
        have hqj:q % sz < sz:=Nat.mod_lt _ hsz
        have hqe:q / sz*sz+q % sz=q:=by rw [Nat.mul_comm];exact Nat.div_add_mod q sz
        have hqI:((q / sz:Nat):Int) < N:=by
         have:=Int.ofNat_lt.2 hqi
         rwa [Int.toNat_of_nonneg n0] at this
        obtain ⟨z,z1,z2,z3⟩:=x6 (q / sz) hqI (q % sz) hqj
        refine ⟨z,?_,z2,?_⟩
        · simp only [ys,x1,x2]
          rw [List.getElem?_toArray,List.getElem?_map,List.getElem?_range hq]
          simp only [Option.map_some,Option.some.injEq]
          rw [Nat.add_assoc,hqe] at z1
          rw [Array.getD_eq_getD_getElem?,z1];rfl
        · refine YB ⟨G.gY,G.lst⟩ (fun h=>by cases h) (fun k cc h sz' off n y hsz' hv=>?_) (fun k cc h sz'=>?_) _ _ _ (hr _ (Int.natCast_nonneg _) hqI _ hqj) z3
          cases h
          subst hsz'
          obtain ⟨_,hsh,hx⟩:=hv
          focus
           refine ⟨.inr ⟨rfl,_,List.getElem?_set_self ad9,rfl⟩,hsh,fun N' t' f'' ho=>?_⟩
           rw [List.getElem?_set_self ad9] at ho
           cases ho
           rw [Dc]
           exact hx _ _ _ hs
          cases h
          refine ⟨.inr ⟨rfl,_,List.getElem?_set_self ad9,rfl⟩,⟨none,0,0,rfl,rfl,Nat.le_refl _,fun h=>absurd h (Nat.lt_irrefl _)⟩,fun N' t' f'' ho=>?_⟩
          rw [List.getElem?_set_self ad9] at ho
          cases ho
          have hn2:0≤N2:=(R.ob src _ hs).2.1
          exact ⟨Int.le_refl _,Int.le_refl _,by omega,none,0,0,rfl,rfl,Nat.le_refl _,fun _=>by simpa using hn2,fun h=>absurd h (Nat.lt_irrefl _)⟩
 obtain ⟨I',β',G,R',hpk⟩:=R.XW hp
 have hk':((killed objs ctr (some src)).set dst (some (.arr ctr jC N2 t2 f2)))[key]? = some (some (.arr g sz N t f)):=by
  simp only [killed]
  rw [List.getElem?_set_ne (Ne.symm hkd),List.getElem?_set_ne (Ne.symm hne)];exact hk
 refine R'.aff hk' fun b o s c e hb hc i hi j hj=>?_
 have hN : ¬ N=0:=by omega
 rw [if_neg hN] at hpk
 have hbk:β' key=β key:=by
  have hgk:Hu objs ctr key g:=afe R hk
  obtain ⟨o',k1,k2,k3⟩:=G.obj key g hgk _ hk' rfl trivial
  exact k3
 rw [hbk] at hb
 obtain ⟨ys',hye,hy1,hy2⟩:=hpk
 cases hye
 have hlt:i*sz+j < N.toNat*sz:=by
  have:(i+1)*sz≤N.toNat*sz:=Nat.mul_le_mul_right _ (by omega)
  rw [Nat.add_mul,Nat.one_mul] at this
  omega
 obtain ⟨z,z1,z2,z3⟩:=hy2 (i*sz+j) hlt
 refine ⟨z,?_,z2,?_⟩
 · simp only [ys,hb,hc] at z1
   rw [List.getElem?_toArray,List.getElem?_map,List.getElem?_range hlt] at z1
   simp only [Option.map_some,Option.some.injEq] at z1
   rcases lF with ⟨h1,_⟩ | ⟨b',o',s',c',e',x1,x2,x3,x4,x5,x6⟩
   · omega
   · rw [hb] at x1;cases x1
     rw [hc] at x2;cases x2
     obtain ⟨z',q1,q2,_⟩:=x6 i hi j hj
     rw [← Nat.add_assoc] at z1
     rw [Array.getD_eq_getD_getElem?,q1] at z1
     simp only [Option.getD_some] at z1
     rw [q1,z1]
 · have e1:(i*sz+j) / sz=i:=by
    rw [Nat.mul_comm,Nat.mul_add_div (by omega),Nat.div_eq_of_lt hj];omega
   have e2:(i*sz+j) % sz=j:=by
    rw [Nat.mul_comm,Nat.mul_add_mod,Nat.mod_eq_of_lt hj]
   have z3:Rd w.heap I' β' _ ctr (f' (((i*sz+j) / sz:Nat):Int) ((i*sz+j) % sz)) z:=z3
   rw [e1,e2] at z3;exact z3
theorem WR {st:St} {d:D} {l:GL} : uD { st with ctr:=st.ctr+1 } d l = { uD st d l with ctr:=(uD st d l).ctr+1 }:=by
 cases l with
 | slot t=>rfl
 | sub t j=>simp only [uD];split<;>rfl
 | cell id j=>simp only [uD];split<;>rfl
theorem lW : ∀ (l:List Gh) {st st':St} {os:List aU},RS B0 h0 I0 L st a w→nY (std P) l st=some (st',os)→(∀ q∈os,q.run (std P))→RS B0 h0 I0 L st' a w
 | [],st,st',os,R,he,_=>by
  simp only [nY,Option.some.injEq,Prod.mk.injEq] at he
  obtain ⟨rfl,rfl⟩:=he;exact R
 | .freeze l :: r,st,st',os,R,he,hos=>by
  simp only [nY] at he
  split at he
  · rename_i id g sz off n hsl
    split at he
    · rename_i g' sz' N tight f cK
      split at he
      · rename_i hsz
        have hsz:=Nat.eq_of_beq_eq_true hsz;subst hsz
        split at he
        · rename_i st1 os1 he1
          simp only [Option.some.injEq,Prod.mk.injEq] at he
          obtain ⟨rfl,rfl⟩:=he
          have hg:g=g':=hos _ (List.mem_cons_self ..)
          subst hg
          refine lW r ?_ he1 (fun q hq=>hos q (List.mem_cons_of_mem _ hq))
          obtain ⟨I,β,R⟩:=R
          obtain ⟨y,hv,hfin⟩:=R.at l hsl (by simp)
          let I':IS:=I.or fun b=>∃ x,β id=some x∧x.1=b
          let β':Nat→Option (Nat × Nat × Array Value):=fun k=>if k=id then none else β k
          have hset : ∀ k,k≠id→(st.objs.set id none)[k]? = st.objs[k]?:=fun k hk=>List.getElem?_set_ne (Ne.symm hk)
          have hlt:id < st.objs.length:=(List.getElem?_eq_some_iff.1 cK).1
          obtain ⟨G,R'⟩:=R.keep (I':=I') (β':=β') (aX:=st.objs.set id none) (iU:=st.ctr+1) (by omega) (IS.vv _ _)
           (R.lt.or fun b ⟨x,hx,e⟩=>e ▸ ⟨R.jf hx,R.own id x hx⟩)
           (fun k o' hk=>by
            by_cases hki:k=id
            · subst hki;rw [List.getElem?_set_self hlt] at hk;cases hk
            · rw [hset k hki] at hk
              refine ⟨o',hk,dN.refl _,by simp [β',hki],fun x hx=>?_⟩
              rintro (h | ⟨x',hx',he⟩)
              · exact R.JU hx h
              · exact R.dist k id x x' hki hx hx' he.symm)
           (fun k x hk=>by
            simp only [β'] at hk
            split at hk
            · cases hk
            · rename_i hki;rw [hset k hki];exact ⟨hk,R.dom k x hk⟩)
          refine hfin _ I' β' (st.objs.set id none) (st.ctr+1) G R' (fun k o hk _=>?_) ?_
          · by_cases hki:k=id
            · subst hki;rw [cK] at hk;cases hk
            · rw [hset k hki];exact hk
          · obtain ⟨_,_,hx⟩:=hv
            obtain ⟨o1,o2,o3,ad,len,cap,rfl,x1,x2,x3,x4⟩:=hx _ _ _ cK
            refine ⟨ad,len,cap,rfl,x1,x2,?_,fun hp=>?_⟩
            · intro ht
              have ht:(tight && (off+n == N))=true:=ht
              simp only [Bool.and_eq_true,beq_iff_eq] at ht
              have:=x3 ht.1
              omega
            · obtain ⟨b,o,s',hb,rfl,hr⟩:=x4 (by omega)
              obtain ⟨_,_,lF⟩:=R.ob id _ cK
              rcases lF with ⟨h1,h2⟩ | ⟨b',p',s1,c,e,q1,q2,q3,q4,q5,q6⟩
              · rw [hb] at h2;cases h2
              · rw [hb] at q1;cases q1
                refine ⟨b,_,c,e,_,rfl,.inr ⟨_,hb,rfl⟩,q2,fun i hi j hj=>?_⟩
                obtain ⟨z,z1,z2,z3⟩:=q6 (off.toNat+i) (by omega) j hj
                refine ⟨z,?_,z2,?_⟩
                · rw [← z1];congr 1;rw [Nat.add_mul];omega
                · have e1:((off.toNat+i:Nat):Int)=off+(i:Int):=by omega
                  rw [e1] at z3
                  exact Rd.mono G _ _ z3
        · cases he
      · cases he
    · cases he
  · cases he
 | .thaw l key sz :: r,st,st',os,R,he,hos=>by
  simp only [nY] at he
  split at he
  · rename_i hsl hk
    refine lW r ?_ he hos
    obtain ⟨I,β,R⟩:=R
    obtain ⟨y,hv,hfin⟩:=R.at l hsl (by simp)
    cases hv
    have hp:=C9 R (key:=key) (old:=none) (.inl hk) (fun _ h=>by cases h) (sz:=sz) (n:=0) rfl false (fun _ _=>.cO) none
    obtain ⟨I',β',G,R',hd⟩:=R.XW hp
    have:=RS.tick (hfin _ I' β' _ _ G R' (fun k o hk' _=>by
     have hne:key≠k:=fun h=>by subst h;rw [hk] at hk';cases hk'
     simp only [killed]
     rw [List.getElem?_set_ne hne];exact hk') hd)
    rw [← WR] at this
    exact this
  · cases he
 | .forget key :: r,st,st',os,R,he,hos=>by
  simp only [nY] at he
  exact lW r (R.le (st':=⟨st.slots,st.objs.set key none,st.ctr+1⟩) ⟨Nat.lt_succ_self _,oZ.refl _,ru.forget _ _⟩) he hos
 | .empty key sz :: r,st,st',os,R,he,hos=>by
  simp only [nY] at he
  split at he
  · rename_i hk
    refine lW r ?_ he hos
    obtain ⟨I,β,R⟩:=R
    have hp:=C9 R (key:=key) (old:=none) (.inl hk) (fun _ h=>by cases h) (sz:=sz) (n:=0) rfl false (fun _ _=>.cO) none
    obtain ⟨I',β',G,R',hd⟩:=R.XW hp
    exact RS.tick (st:=⟨st.slots,st.objs.set key (some (.arr st.ctr sz 0 false (fun _ _=>.cO))),st.ctr⟩) ⟨I',β',R'⟩
  · cases he
 | .QE key src f' :: r,st,st',os,R,he,hos=>by
  simp only [nY] at he
  split at he
  · rename_i g sz N t f g2 jC N2 t2 f2 hk hs
    split at he
    · cases he
    · rename_i hne
      have hne:key≠src:=fun h=>hne (by rw [h];exact Nat.beq_refl _)
      split at he
      · rename_i st1 os1 he1
        simp only [Option.some.injEq,Prod.mk.injEq] at he
        obtain ⟨rfl,rfl⟩:=he
        refine lW r ?_ he1 (fun q hq=>hos q (List.mem_cons_of_mem _ hq))
        obtain ⟨I,β,R⟩:=R
        exact R.QE hk hs hne (hos _ (List.mem_cons_self ..))
      · cases he
  · cases he
 | .QF key src dst f' :: r,st,st',os,R,he,hos=>by
  simp only [nY] at he
  split at he
  · rename_i g sz N t f g2 jC N2 t2 f2 hk hs hd
    split at he
    · cases he
    · rename_i hne
      have hne:key≠src:=fun h=>hne (by rw [h];exact Nat.beq_refl _)
      split at he
      · rename_i st1 os1 he1
        simp only [Option.some.injEq,Prod.mk.injEq] at he
        obtain ⟨rfl,rfl⟩:=he
        refine lW r ?_ he1 (fun q hq=>hos q (List.mem_cons_of_mem _ hq))
        obtain ⟨I,β,R⟩:=R
        have R2:RS B0 h0 I0 L ⟨st.slots,((st.objs.set src (some (.dead st.ctr))).set dst (some (.arr st.ctr jC N2 t2 f2))).set key (some (.arr g sz N t f')),st.ctr⟩ a w:=R.QF hk hs hd hne (hos _ (List.mem_cons_self ..))
        exact R2.tick
      · cases he
  · cases he
 | .move l key :: r,st,st',os,R,he,hos=>by
  simp only [nY] at he
  split at he
  · rename_i id g sz off n hsl hk
    split at he
    · rename_i g' sz' N tight f cK
      split at he
      · rename_i hsz
        have hsz:=Nat.eq_of_beq_eq_true hsz;subst hsz
        split at he
        · rename_i st1 os1 he1
          simp only [Option.some.injEq,Prod.mk.injEq] at he
          obtain ⟨rfl,rfl⟩:=he
          have hg:g=g':=hos _ (List.mem_cons_self ..)
          subst hg
          refine lW r ?_ he1 (fun q hq=>hos q (List.mem_cons_of_mem _ hq))
          obtain ⟨I,β,R⟩:=R
          obtain ⟨y,⟨hgk,hsh,hx⟩,hfin⟩:=R.at l hsl (by simp)
          have hx:=hx _ _ _ cK
          have lF:=R.ob id _ cK
          have lD:key < (killed st.objs st.ctr (some id)).length:=by
           simp only [killed,List.length_set]
           exact (List.getElem?_eq_some_iff.1 hk).1
          have hp:Post B0 h0 I0 L I β st.objs st.ctr w ((killed st.objs st.ctr (some id)).set key (some (.arr st.ctr sz N tight f))) w (.vec key st.ctr sz off n) y:=by
           refine R.turn (X:=β id) rfl (.inl hk) (fun id' h=>⟨_,by cases h;exact cK⟩) (fun _ _ _=>rfl) (Nat.le_refl _) (fun x hx=>⟨R.jf hx,.inl ⟨id,x,rfl,hx,rfl⟩⟩) ?_ ?_
           · obtain ⟨_,h1,h2⟩:=lF
             refine ⟨h1,?_⟩
             rcases h2 with ⟨h3,h4⟩ | ⟨b,o,s,c,e,h3,h4,h5,h6,h7,h8⟩
             · exact .inl ⟨h3,h4⟩
             · exact .inr ⟨b,o,s,c,e,h3,h4,h5,h7,h8⟩
           · intro β' Dc G
             refine ⟨.inr ⟨rfl,_,List.getElem?_set_self lD,rfl⟩,hsh,fun N' t' f' ho=>?_⟩
             rw [List.getElem?_set_self lD] at ho
             cases ho
             rw [Dc];exact hx
          obtain ⟨I',β',G,R',hd⟩:=R.XW hp
          have:=RS.tick (hfin _ I' β' _ _ G R' (fun k o hk' _=>by
           have hne:key≠k:=fun h=>by subst h;rw [hk] at hk';cases hk'
           have hni:id≠k:=fun h=>by subst h;rw [cK] at hk';cases hk'
           simp only [killed]
           rw [List.getElem?_set_ne hne,List.getElem?_set_ne hni];exact hk') hd)
          rw [← WR] at this
          exact this
        · cases he
      · cases he
    · cases he
  · cases he
theorem oL {p:Pr} : ∀ {os:List aU} {q:Prop},conj p os q→(∀ x∈os,x.run p)∧q
 | [],_,h=>⟨fun x hx=>by simp at hx,h⟩
 | y :: r,q,h=>by
  obtain ⟨h1,h2⟩:=oL (os:=r) h.2
  exact ⟨fun x hx=>by
   rcases List.mem_cons.1 hx with rfl | hx
   · exact h.1
   · exact h1 x hx,h2⟩
theorem Tr.mono {c:Code} {Q Q':Exit→St→Prop} {st:St} (h:Tr P c Q st) (hq : ∀ ex st,Q ex st→Q' ex st):Tr P c Q' st :=
 fun B0 h0 I0 L a w K R hK=>h B0 h0 I0 L a w K R fun ex st' a' w' q R'=>hK ex st' a' w' (hq ex st' q) R'
theorem Tr.le {c:Code} {Q:Exit→St→Prop} {st st':St} (hl:kW st st') (h:Tr P c Q st'):Tr P c Q st :=
 fun B0 h0 I0 L a w K R hK=>h B0 h0 I0 L a w K (R.le hl) hK
theorem Tr.gh {c:Code} {Q:Exit→St→Prop} (l:List Gh) {st st':St} {os:List aU} (he:nY (std P) l st=some (st',os)) (hos : ∀ q∈os,q.run (std P)) (h:Tr P c Q st'):Tr P c Q st :=
 fun B0 h0 I0 L a w K R hK=>h B0 h0 I0 L a w K (lW l R he hos) hK
theorem Tr.seq {x y:Code} {Q:Exit→St→Prop} {st:St} (h:Tr P x (qE (Tr P y Q) Q) st):Tr P (.seq x y) Q st:=by
 intro B0 h0 I0 L a w K R hK
 refine wp_seq (h B0 h0 I0 L a w _ R fun ex st' a' w' q R'=>?_)
 cases ex with
 | normal=>exact q B0 h0 I0 L a' w' K R' hK
 | _=>exact hK _ st' a' w' q R'
theorem Tr.block {id:Nat} {c:Code} {Q:Exit→St→Prop} {st:St} (h:Tr P c (vQ id Q) st):Tr P (.block id c) Q st:=by
 intro B0 h0 I0 L a w K R hK
 refine wp_block (h B0 h0 I0 L a w _ R fun ex st' a' w' q R'=>?_)
 cases ex with
 | exit i =>
  simp only [vQ] at q
  simp only [Exit.inBlock]
  by_cases hi:i=id
  · subst hi
    rw [if_pos (Nat.beq_refl _)] at q
    rw [if_pos rfl]
    exact hK _ st' a' w' q R'
  · rw [if_neg (fun h=>hi (Nat.eq_of_beq_eq_true h))] at q
    rw [if_neg hi]
    exact hK _ st' a' w' q R'
 | _=>exact hK _ st' a' w' q R'
theorem Tr.cond {c:Operand} {x y:Code} {Q:Exit→St→Prop} {st:St} {t:Bool} {os:List aU} (hs:strip (std P) (rd (std P) st.slots c)=(.v (.bool t),os)) (hos : ∀ q∈os,q.run (std P))
  (h1:t=true→Tr P x Q st) (h2:t=false→Tr P y Q st):Tr P (.cond c x y) Q st:=by
 intro B0 h0 I0 L a w K R hK
 have hc:a.eval c = .bool t:=by
  obtain ⟨I,β,R⟩:=R
  have:=Hw (P:=P) _ _ (R.eval c) (by rw [hs];exact hos)
  rw [hs] at this;exact this
 exact wp_cond_split hc (fun h=>h1 h B0 h0 I0 L a w K R hK) (fun h=>h2 h B0 h0 I0 L a w K R hK)
theorem Lh {cx:Cx} (hT:gH P cx.tt) (hP:P.follows .mixedOrders=true) {id:Nat} {ops:Array Oper} {draw:Bool} {Q:Exit→St→Prop} {st st':St} {os:List aU}
  (he:M9 (std P) cx id ops draw st=some (st',os)) (hos : ∀ q∈os,q.run (std P)) (hQ:Q .normal st'):Tr P (.region id ops draw) Q st:=by
 intro B0 h0 I0 L a w K R hK
 unfold M9 at he
 split at he
 · cases he
 · rename_i st0 os0 he0
   split at he
   · cases he
   · rename_i st1 os1 he1
     simp only [Option.some.injEq,Prod.mk.injEq] at he
     obtain ⟨rfl,rfl⟩:=he
     have R0:=lW _ R he0 (fun q hq=>hos q (List.mem_append_left _ (List.mem_append_left _ hq)))
     have uY : ∀ q∈os1,q.run (std P):=fun q hq=>hos q (List.mem_append_left _ (List.mem_append_right _ hq))
     have hfin : ∀ a w,RS B0 h0 I0 L st1 a w→K .normal a w:=fun a w R'=>hK .normal _ a w hQ (R'.le (st':=⟨tidy st1.slots,st1.objs,st1.ctr+1⟩) ⟨Nat.lt_succ_self _,oZ.tidy _,ru.refl _⟩)
     cases draw with
     | false =>
      refine wp_region ?_
      have:=NU (ops:=ops) (Q:=K) hT ops.toList 0 (by simp) st0 st1 os1 a w R0 he1 uY hfin
      simpa using this
     | true =>
      refine adr hT hP (ig:=Q8 (std P) cx ops st1) (RS.world (w:=w) rfl ⟨rfl,rfl⟩ R0) he1 uY (fun j a h=>?_) ?_ hfin
      · unfold Q8 at h
        split at h
        · exact Yk _ _ _ _ he1 j a h
        · simp at h
      have hd:=hos (.dr ops (eU cx.bO cx.m ops.toList) (Q8 (std P) cx ops st1)) (List.mem_append_right _ (by rw [if_pos rfl];exact List.mem_singleton.2 rfl))
      exact hd
theorem Nh {cx:Cx} (hT:gH P cx.tt) (hP:P.follows .mixedOrders=true) : ∀ (c:Code) (Q:Exit→St→Prop) (st:St),wp (std P) cx c Q st→Tr P c Q st:=by
 intro c
 induction c with
 | skip=>intro Q st h B0 h0 I0 L a w K R hK;exact wp_skip (hK _ _ _ _ h R)
 | region id ops draw =>
  intro Q st h
  simp only [wp] at h
  split at h
  · rename_i st' os he
    obtain ⟨h1,h2⟩:=oL h
    exact Lh hT hP he h1 h2
  · exact h
 | seq x y ihx ihy =>
  intro Q st h
  refine Tr.seq ((ihx _ _ h).mono fun ex st' q=>?_)
  cases ex with
  | normal=>exact ihy _ _ q
  | _=>exact q
 | cond c x y ihx ihy =>
  intro Q st h
  simp only [wp] at h
  split at h
  · rename_i t os hs
    obtain ⟨h1,h2⟩:=oL h
    exact Tr.cond hs h1 (fun ht=>ihx _ _ (h2.1 ht)) (fun ht=>ihy _ _ (h2.2 ht))
  · exact h.elim
 | block id c ih=>intro Q st h;exact Tr.block (ih _ _ h)
 | exit id=>intro Q st h B0 h0 I0 L a w K R hK;exact wp_exit (hK _ _ _ _ h R)
 | ret=>intro Q st h B0 h0 I0 L a w K R hK;exact wp_ret (hK _ _ _ _ h R)
 | goto l=>intro Q st h B0 h0 I0 L a w K R hK;exact wp_goto (hK _ _ _ _ h R)
 | _=>intro Q st h;exact h
theorem least {p:Nat→Prop} (h : ∃ n,p n) : ∃ n,p n∧∀ k,p k→n≤k:=by
 obtain ⟨n,hn⟩:=h
 induction n using Nat.strongRecOn with
 | _ n ih =>
  by_cases hx : ∃ k,k < n∧p k
  · obtain ⟨k,h1,h2⟩:=hx
    exact ih k h1 h2
  · exact ⟨n,hn,fun k hk=>Nat.le_of_not_lt fun hlt=>hx ⟨k,hlt,hk⟩⟩
theorem Tr.loop {α:Type} (inv:α→St) (ok:α→Prop) (μ:α→Nat) {c:Code} {Q:Exit→St→Prop} {st:St} (x0:α) (hx0:ok x0) (hle:kW st (inv x0))
  (hr : ∀ x,ok x→Tr P c (qE (fun st'=>∃ x',ok x'∧μ x' < μ x∧kW st' (inv x')) Q) (inv x)):Tr P (.loop c) Q st:=by
 intro B0 h0 I0 L a w K R hK
 classical
 let J:Act→World→Nat→Prop:=fun a w n=>∃ x,ok x∧RS B0 h0 I0 L (inv x) a w∧μ x=n
 let M:Act→World→Nat:=fun a w=>if h : ∃ n,J a w n then Classical.choose (least h) else 0
 refine wp_loop (fun a w=>∃ n,J a w n) M ⟨_,x0,hx0,R.le hle,rfl⟩ fun a w hI=>?_
 obtain ⟨x,hx,hR,hμ⟩:=(Classical.choose_spec (least hI)).1
 have hM:M a w=μ x:=by simp only [M,dif_pos hI];exact hμ.symm
 refine hr x hx B0 h0 I0 L a w _ hR fun ex st' a' w' q R'=>?_
 cases ex with
 | normal =>
  obtain ⟨x',h1,h2,h3⟩:=q
  have hJ : ∃ n,J a' w' n:=⟨_,x',h1,R'.le h3,rfl⟩
  refine ⟨hJ,?_⟩
  rw [hM]
  refine Nat.lt_of_le_of_lt ?_ h2
  simp only [M,dif_pos hJ]
  exact (Classical.choose_spec (least hJ)).2 _ ⟨x',h1,R'.le h3,rfl⟩
 | _=>exact hK _ st' a' w' q R'
end
end Go.Vx
