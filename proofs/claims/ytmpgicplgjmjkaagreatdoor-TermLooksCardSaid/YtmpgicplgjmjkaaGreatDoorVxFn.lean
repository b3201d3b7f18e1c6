/- The evaluator's word on code holds of the Go model; loops; ghosts. -/
import Derived.Test.YtmpgicplgjmjkaaGreatDoorVxCode3
set_option linter.all false
section
namespace Go.Vx
section
variable {P:Program} {B0:Nat} {h0:Array Obj} {I0 I I':IS} {L:wU} {β β':Nat->Option (Nat×Nat×Array Value)} {slots:List D} {objs bN:List (Option Ob)} {ctr lC:Nat} {a:Act} {w:World}
def dV(d d':D):Prop:=∀ (h:Array Obj) (I:IS) (β:Nat->Option (Nat×Nat×Array Value)) (objs:List (Option Ob)) (ctr:Nat) (y:Value),Rd h I β objs ctr d y->Rd h I β objs ctr d' y
def jZ(o o':Ob):Prop:=o.like o'/\∀ (h:Array Obj) (I:IS) (β:Nat->Option (Nat×Nat×Array Value)) (objs:List (Option Ob)) (ctr k:Nat),Rob h I β objs ctr k o->Rob h I β objs ctr k o'
theorem dV.refl(d:D):dV d d:=λ_ _ _ _ _ _ h=>h
theorem dV.junk(d:D):dV d .junk:=λ_ _ _ _ _ _ _=>trivial
theorem jZ.refl(o:Ob):jZ o o:=⟨Ob.qX o,λ_ _ _ _ _ _ h=>h⟩
theorem Rob.awQ{h:Array Obj}(G:Goes h I β objs ctr h I' β' bN lC)(hc:ctr<=lC){k:Nat}{o:Ob}
  (hk : ∀ x,β k=some x->¬ I x.1->¬ I' x.1) (nS:β' k=β k) (hr:Rob h I β objs ctr k o):Rob h I' β' bN lC k o:=by
 cases o with
 | box g cs=>
  obtain⟨hg,b,o,s,c,e,h1,h2,h3,h4,h5,h6⟩:=hr;refine⟨ak,b,o,s,c,e,by rw[nS];exact h1,h2,h3,hk _ h1 h4,h5,λj d hj=>?_⟩;obtain⟨z,z1,z2,z3⟩:=h6 j d hj;exact⟨z,z1,z2,Rd.mono G _ _ z3⟩
 | arr g sz n t f=>
  obtain⟨hg,hn,hx⟩:=hr;refine⟨ak,hn,?_⟩;rcases hx with⟨h1,h2⟩|⟨b,o,s,c,e,h1,h2,h3,h4,h5,h6⟩
  . exact .inl ⟨h1,by rw[nS];exact h2⟩
  refine .inr ⟨b,o,s,c,e,by rw[nS];exact h1,h2,h3,hk _ h1 h4,h5,λi hi j hj=>?_⟩;obtain⟨z,z1,z2,z3⟩:=h6 i hi j hj;exact⟨z,z1,z2,Rd.mono G _ _ z3⟩
 | iter g s pos=>
  obtain⟨hg,hp,b,o,z,h1,h2,h3⟩:=hr;exact⟨ak,hp,b,o,z,by rw[nS];exact h1,h2,hk _ h1 h3⟩
 | dead g=>exact⟨by have:=hr.1;omega,by rw[nS];exact hr.2⟩
theorem RM.keep(R:RM B0 h0 I0 L I β slots objs ctr a w)(hc:ctr<lC)(hI:I.le I')(hI':M4 I0 L B0 w.heap.size I')
  (dP : ∀ (k:Nat) (o':Ob),bN[k]? = some (some o')->∃ o,objs[k]? = some (some o)/\jZ o o'/\β' k=β k/\∀ x,β k=some x->¬ I' x.1)
  (nS : ∀ k x,β' k=some x->β k=some x/\∃ o',bN[k]? = some (some o')) :
  Goes w.heap I β objs ctr w.heap I' β' bN lC/\RM B0 h0 I0 L I' β' slots bN lC a w:=by
 have G:Goes w.heap I β objs ctr w.heap I' β' bN lC:=by
  refine⟨hI.1,λ_ _=>rfl,hI.2,λid g hg=>.inl ?_,λid g hg o' ho' _ _=>?_⟩
  . rcases hg with h|⟨h,_⟩<;>omega
  obtain⟨o,h1,h2,h3,_⟩:=dP id o' ho';exact⟨o,h1,h2.1,h3⟩
 refine⟨G,R.len,λt d ht=>?_,R.defers,λk o' ho'=>?_,λk x hk=>(nS k x hk).2,?_,?_,R.old.trans hI,hI',R.frame,R.size,by have:=R.pos;omega,G.stay R.pos R.stay,R.wo,R.CF.mono G.gX G.same⟩
 . obtain⟨y,y1,y2⟩:=R.slot t d ht;exact⟨y,y1,Rd.mono G _ _ y2⟩
 . obtain⟨o,h1,h2,h3,h4⟩:=dP k o' ho';exact Rob.awQ G ak (λx hx _=>h4 x hx) h3 (h2.2 _ _ _ _ _ _ (R.ob k o h1))
 . exact λk k' x x' hne h1 h2=>R.dist k k' x x' hne (nS k x h1).1 (nS k' x' h2).1
 exact λk x h1=>R.own k x (nS k x h1).1
theorem RM.aex(R:RM B0 h0 I0 L I β slots objs ctr a w){ajy:List D}(hl:ajy.length=slots.length)
  (hs : ∀ (t:Nat) (d':D),ajy[t]? = some d'->∀ y,a.tmps[t]? = some y->(∀ d,slots[t]? = some d->Rd w.heap I β objs ctr d y)->Rd w.heap I β objs ctr d' y) :
  RM B0 h0 I0 L I β ajy objs ctr a w:=by
 refine⟨hl.trans R.len,λt d' ht=>?_,R.defers,R.ob,R.dom,R.dist,R.own,R.old,R.lt,R.frame,R.size,R.pos,R.stay,R.wo,R.CF⟩;have hlt:t<slots.length:=by rw[← hl];exact(gZ.1 ht).1
 obtain⟨y,y1,y2⟩:=R.slot t _ (iW hlt);refine⟨y,y1,hs t d' ht y y1 λd hd=>?_⟩;rw[iW hlt] at hd;cases hd;exact y2
def wu:List D->List D->Prop
 | [],[]=>True
 | d::r,d'::r'=>dV d d'/\wu r r'
 | _,_=>False
def yP:List (Option Ob)->List (Option Ob)->Prop
 | [],[]=>True
 | _::r,none::r'=>yP r r'
 | some o::r,some o'::r'=>jZ o o'/\yP r r'
 | _,_=>False
structure Ce (st st':St):Prop where
 ctr:st.ctr<st'.ctr
 slots:wu st.slots st'.slots
 objs:yP st.objs st'.objs
theorem wu.get : ∀ {l l':List D},wu l l'->l'.length=l.length/\∀ (t:Nat) (d d':D),l[t]? = some d->l'[t]? = some d'->dV d d'
 | [],[],_=>⟨rfl,λt d d' h=>by simp at h⟩
 | [],_::_,h=>h.elim
 | _::_,[],h=>h.elim
 | d::r,d'::r',h=>by
  obtain⟨h1,h2⟩:=wu.get h.2;refine⟨by simp[h1],λt x x' hx hx'=>?_⟩;cases t with
  | zero=>simp at hx hx';subst hx;subst hx';exact h.1
  | succ t=>simp at hx hx';exact h2 t x x' hx hx'
theorem yP.get : ∀ {l l':List (Option Ob)},yP l l'->∀ (k:Nat) (o':Ob),l'[k]? = some (some o')->∃ o,l[k]? = some (some o)/\jZ o o'
 | [],[],_=>λk o' h=>by simp at h
 | [],_::_,h=>by simp[yP] at h
 | _::_,[],h=>λk o' h=>by simp at h
 | x::r,none::r',h=>by
  intro k o' hk;have h:yP r r':=by cases x<;>exact h
  cases k with
  | zero=>simp at hk
  | succ k=>simp at hk;simpa using yP.get h k o' hk
 | some o::r,some o1::r',h=>by
  intro k o' hk;cases k with
  | zero=>simp at hk;subst hk;exact⟨o,bH,h.1⟩
  | succ k=>simp at hk;simpa using yP.get h.2 k o' hk
 | none::r,some o1::r',h=>h.elim
theorem wu.refl : ∀ (l:List D),wu l l
 | []=>trivial
 | d::r=>⟨dV.refl d,wu.refl r⟩
theorem wu.tidy : ∀ (l:List D),wu l (Go.Vx.tidy l)
 | []=>trivial
 | d::r=>by
  cases d with
  | JZ b d=>exact⟨dV.junk _,wu.tidy r⟩
  | _=>exact⟨dV.refl _,wu.tidy r⟩
theorem yP.refl : ∀ (l:List (Option Ob)),yP l l
 | []=>trivial
 | none::r=>yP.refl r
 | some o::r=>⟨jZ.refl o,yP.refl r⟩
theorem yP.forget : ∀ (l:List (Option Ob)) (k:Nat),yP l (l.set k none)
 | [],_=>trivial
 | none::r,0=>yP.refl r
 | some _::r,0=>yP.refl r
 | none::r,k+1=>yP.forget r k
 | some o::r,k+1=>⟨jZ.refl o,yP.forget r k⟩
theorem RS.le{st st':St}(R:RS B0 h0 I0 L st a w)(h:Ce st st'):RS B0 h0 I0 L st' a w:=by
 obtain⟨I,β,R⟩:=R;have ho:=yP.get h.objs;let β':Nat->Option (Nat×Nat×Array Value):=λk=>match st'.objs[k]? with
  | some (some _)=>β k
  | _=>none
 have Lh : ∀ k x,β' k=some x->β k=some x/\∃ o',st'.objs[k]? = some (some o'):=by
  intro k x hk;simp only[β'] at hk;split at hk
  . rename_i o ho;exact⟨hk,o,ho⟩
  cases hk
 obtain⟨G,R'⟩:=R.keep (I':=I) (β':=β') (bN:=st'.objs) h.ctr (IS.le.refl _) R.lt (λk o' hk=>by
  obtain⟨o,h1,h2⟩:=ho k o' hk;exact⟨o,h1,h2,by simp[β',hk],λx hx=>R.Uk hx⟩) Lh
 obtain⟨hl,hs⟩:=wu.get h.slots;refine⟨I,β',R'.aex hl λt d' ht y hy hd=>?_⟩;have hlt:t<st.slots.length:=by rw[← hl];exact(gZ.1 ht).1
 exact hs t _ _ (iW hlt) ht _ _ _ _ _ _ (hd _ (iW hlt))
theorem RS.tick{st:St}(R:RS B0 h0 I0 L st a w):RS B0 h0 I0 L { st with ctr:=st.ctr+1 } a w:=by
 obtain⟨I,β,R⟩:=R;obtain⟨G,R'⟩:=R.keep (I':=I) (β':=β) (bN:=st.objs) (lC:=st.ctr+1) ak (IS.le.refl _) R.lt (λk o' hk=>⟨o',hk,jZ.refl _,rfl,λx hx=>R.Uk hx⟩)
  (λk x hk=>⟨hk,R.dom k x hk⟩)
 exact⟨I,β,R'⟩
theorem RS.world{st:St}{w':World}(hw:w'.heap=w.heap)(hwo:j3 w w')(R:RS B0 h0 I0 L st a w):RS B0 h0 I0 L st a w':=by
 obtain⟨I,β,R⟩:=R;exact⟨I,β,R.len,λt d h=>by rw[hw];exact R.slot t d h,R.defers,λk o h=>by rw[hw];exact R.ob k o h,R.dom,R.dist,R.own,R.old,by rw[hw];exact R.lt,λb h1 h2=>by rw[hw];exact R.frame b h1 h2,by rw[hw];exact R.size,R.pos,R.stay,⟨hwo.1.trans R.wo.1,hwo.2.trans R.wo.2⟩,by rw[hw];exact R.CF⟩
theorem agL{slots:List D}{t:Nat}{d:D}(h:slots.getD t .junk=d)(hne:d≠.junk):slots[t]? = some d:=by
 cases hs:slots[t]? with
 | none=>simp[List.getD,hs] at h;exact absurd h.symm hne
 | some x=>simp[List.getD,hs] at h;rw[h]
theorem RM.afW(R:RM B0 h0 I0 L I β slots objs ctr a w){bN:List (Option Ob)}{w':World}{d:D}{y:Value}
  (h:Post B0 h0 I0 L I β objs ctr w bN w' d y) : ∃ I' β',Goes w.heap I β objs ctr w'.heap I' β' bN ctr/\RM B0 h0 I0 L I' β' slots bN ctr a w'/\Rd w'.heap I' β' bN ctr d y:=by
 obtain⟨I',β',G,dP,hdom,hdist,hown,hlt,hfr,hsz,hwo,hd⟩:=h.ex;refine⟨I',β',G,⟨R.len,λt d' ht=>?_,R.defers,dP,hdom,hdist,hown,R.old.trans ⟨G.gX,G.lst⟩,hlt,hfr,hsz,R.pos,G.stay R.pos R.stay,⟨hwo.1.trans R.wo.1,hwo.2.trans R.wo.2⟩,R.CF.mono G.gX G.same⟩,hd⟩;obtain⟨y',h1,h2⟩:=R.slot t d' ht;exact⟨y',h1,Rd.mono G _ _ h2⟩
theorem aos(R:RM B0 h0 I0 L I β slots objs ctr a w){k:Nat}{o:Ob}(h:objs[k]? = some (some o)):Qu objs ctr k o.gen:=by
 have hr:=R.ob k o h;have hg:o.gen<=ctr:=by cases o<;>exact hr.1
 rcases mK o.gen ctr with h1|h1
 . exact .inl h1
 exact .inr ⟨ak,o,h,rfl⟩
theorem RM.at{st:St}(R:RM B0 h0 I0 L I β st.slots st.objs st.ctr a w)(l:GL){d0:D}(h:Xm st l=d0)(hj:d0≠.junk) :
  ∃ y,Rd w.heap I β st.objs st.ctr d0 y/\∀ d1 I' β' bN lC,Goes w.heap I β st.objs st.ctr w.heap I' β' bN lC->RM B0 h0 I0 L I' β' st.slots bN lC a w ->
   (∀ (id:Nat) (o:Nat×List D),st.objs[id]? = some (some (.box o.1 o.2))->(∃ j,l = .cell id j)->bN[id]? = some (some (.box o.1 o.2))) ->
   Rd w.heap I' β' bN lC d1 y->RS B0 h0 I0 L (AY ⟨st.slots,bN,lC⟩ d1 l) a w:=by
 cases l with
 | slot t=>
  simp only[Xm] at h;have hs:=agL h hj;obtain⟨y,y1,y2⟩:=R.slot t _ hs;refine⟨y,y2,λd1 I' β' bN lC G R' _ hd=>⟨I',β',?_⟩⟩;refine RM.aex (slots:=st.slots) R' (by simp[AY]) λs d' hs' y' hy' hd'=>?_;simp only[AY] at hs'
  by_cases hst:t=s
  . subst hst;rw[jd (gZ.1 hs).1] at hs';cases hs';rw[y1] at hy';cases hy';exact hd
  rw[jR hst] at hs';exact hd' _ hs'
 | sub t j=>
  simp only[Xm] at h;split at h
  . rename_i k c hc;split at h
    . rename_i hjk;have hjk:=(Nat.blt_eq ..).mp hjk;have hs:=agL hc bH;obtain⟨y0,y1,ys,rfl,hsz,hx⟩:=R.slot t _ hs;obtain⟨z,z1,z2,z3⟩:=hx j hjk;subst h;refine⟨z,z3,λd1 I' β' bN lC G R' _ hd=>?_⟩;simp only[AY,hc];refine⟨I',β',RM.aex (slots:=st.slots) R' bH λs d' hs' y' hy' hd'=>?_⟩
      by_cases hst:t=s
      . subst hst;simp only at hs';rw[jd (gZ.1 hs).1] at hs';cases hs';rw[y1] at hy';cases hy';refine⟨ys,rfl,hsz,λi hi=>?_⟩;obtain⟨u,u1,u2,u3⟩:=hx i hi;refine⟨u,u1,u2,?_⟩
        by_cases hij:i=j
        . subst hij;rw[z1] at u1;cases u1;simpa using hd
        have:Nat.beq i j=false:=by
         cases hb:Nat.beq i j with
         | false=>rfl
         | true=>exact absurd (dO hb) hij
        simp only[this];exact Rd.mono G _ _ u3
      simp only at hs';rw[jR hst] at hs';exact hd' _ hs'
    exact absurd h.symm hj
  exact absurd h.symm hj
 | cell id j=>
  simp only[Xm] at h;split at h
  . rename_i g cs hc;have hs:cs[j]? = some d0:=by
     cases hg:cs[j]? with
     | none=>simp[List.getD,hg] at h;exact absurd h.symm hj
     | some x=>simp[List.getD,hg] at h;rw[h]
    obtain⟨_,b,o,s,c,e,x1,x2,x3,x4,x5,x6⟩:=R.ob id _ hc;obtain⟨z,z1,z2,z3⟩:=x6 j _ hs;refine⟨z,z3,λd1 I' β' bN lC G R' azo hd=>?_⟩;have hc':=azo id (g,cs) hc ⟨j,rfl⟩;simp only[AY,hc'];obtain⟨hg,b',o',s',c',e',q1,q2,q3,q4,q5,q6⟩:=R'.ob id _ hc';obtain⟨o2,k1,k2,k3⟩:=G.obj id g (aos R hc) _ hc' rfl trivial;rw[k3,x1] at q1;cases q1;rw[x2] at q2;cases q2;have hp:Post B0 h0 I0 L I' β' bN lC w (bN.set id (some (.box g (cs.set j d1)))) w .junk undef:=by
     refine R'.amH hc' (show g=g from rfl) ⟨hg,b,o,s,c,e,k3.trans x1,x2,by simpa using x3,q4,by simpa using q5,λi d hi=>?_⟩ (λ_=>trivial)
     by_cases hij:j=i
     . subst hij;rw[jd (gZ.1 hs).1] at hi;cases hi;exact⟨z,z1,z2,hd⟩
     rw[jR hij] at hi;exact q6 i d hi
    obtain⟨I2,β2,_,R2,_⟩:=R'.afW hp;exact⟨I2,β2,R2⟩
  exact absurd h.symm hj
theorem aso{I':IS}{β':Nat->Option (Nat×Nat×Array Value)}{bN:List (Option Ob)}{lC src g2 mD:Nat}{f2:Int->Nat->D}{dst:Option (Nat×Nat)}(hI:I.le I')
  (hsl:dst=none->∀ sz off n y,sz=mD->Rd w.heap I β objs ctr (.vec src g2 sz off n) y->∀ f',(∀ i:Int,0<=i->i<n->∀ j,j<sz->cK (std P) (f2 (off+i) j) (f' i j))->Rd w.heap I' β' bN lC (.sl sz n false f') y)
  (hmv : ∀ k c,dst=some (k,c)->∀ sz off n y,sz=mD->Rd w.heap I β objs ctr (.vec src g2 sz off n) y->Rd w.heap I' β' bN lC (.vec k c sz off n) y)
  (hnl : ∀ k c,dst=some (k,c)->∀ sz,Rd w.heap I' β' bN lC (.vec k c sz 0 0) (.slice none 0 0)) :
  ∀ (d' d:D) (y:Value),(∀ b x z,d≠.cnd b x z)->QD (std P) src g2 mD f2 dst d d'->Rd w.heap I β objs ctr d y->Rd w.heap I' β' bN lC d' y:=by
 have h0 : ∀ d d' y,cK (std P) d d'->Rd w.heap I β objs ctr d y->Rd w.heap I' β' bN lC d' y:=λd d' y ho hr=>
  Rd.mono (Goes.back _ _ _ _ _) _ _ (Rd.mono (Goes.ZQ w.heap I I' hI) _ _ (zO d d' y ho hr))
 intro d'
 induction d' with
 | cnd b x y ih1 ih2=>
  intro d z hd hr hz;exact⟨λhb=>ih1 d z hd (hr.1 hb) hz,λhb=>ih2 d z hd (hr.2 (show(!b)=true by rw[hb];rfl)) hz⟩
 | vec id' g' sz' off' n'=>
  intro d z hd hr hz;simp only[QD] at hr;split at hr
  . rename_i id g sz off n k c;split at hr
    . rename_i hck;simp only[ig] at hck;have e1:=dO hck.1.1.1;have e2:=dO hck.1.1.2;have e3:=dO hck.1.2;have e4:=dO hck.2;obtain⟨r1,r2,r3,r4⟩:=hr;have r1:g=g2:=r1;have r2:g'=c:=r2;have r3:off=off':=r3;have r4:n=n':=r4;subst e1;subst e2;subst e3;subst r1;subst r2;subst r3;subst r4;exact hmv _ _ rfl _ _ _ _ e4 hz
    exact hr.elim
  . rename_i k c;split at hr
    . rename_i hck;have e2:=dO hck;obtain⟨r2,r3,r4⟩:=hr;have r2:g'=c:=r2;have r3:off'=0:=r3;have r4:n'=0:=r4;have hz:z = .slice none 0 0:=hz;subst e2;subst r2;subst r3;subst r4;subst hz;exact hnl _ _ rfl _
    exact hr.elim
  exact hr.elim
 | sl sz' n' t' f' ih=>
  clear ih;intro d z hd hr hz;simp only[QD] at hr;split at hr
  . rename_i id g sz off n;split at hr
    . rename_i hck;simp only[ig] at hck;have e1:=dO hck.1.1;have e3:=dO hck.1.2;have e4:=dO hck.2;obtain⟨r1,r2,r3,r4⟩:=hr;have r1:g=g2:=r1;have r2:n=n':=r2;have r3:t'=false:=r3;subst e1;subst e3;subst r1;subst r2;subst r3;exact hsl rfl _ _ _ _ e4 hz _ r4
    exact hr.elim
  exact h0 _ _ _ hr hz
 | _=>intro d z hd hr hz;exact h0 _ _ _ hr hz
theorem agM{I':IS}{β':Nat->Option (Nat×Nat×Array Value)}{bN:List (Option Ob)}{lC src g2 mD:Nat}{f2:Int->Nat->D}{dst:Option (Nat×Nat)}(hI:I.le I')
  (hsl:dst=none->∀ sz off n y,sz=mD->Rd w.heap I β objs ctr (.vec src g2 sz off n) y->∀ f',(∀ i:Int,0<=i->i<n->∀ j,j<sz->cK (std P) (f2 (off+i) j) (f' i j))->Rd w.heap I' β' bN lC (.sl sz n false f') y)
  (hmv : ∀ k c,dst=some (k,c)->∀ sz off n y,sz=mD->Rd w.heap I β objs ctr (.vec src g2 sz off n) y->Rd w.heap I' β' bN lC (.vec k c sz off n) y)
  (hnl : ∀ k c,dst=some (k,c)->∀ sz,Rd w.heap I' β' bN lC (.vec k c sz 0 0) (.slice none 0 0)) :
  ∀ (d d':D) (y:Value),BK (std P) src g2 mD f2 dst d d'->Rd w.heap I β objs ctr d y->Rd w.heap I' β' bN lC d' y:=by
 intro d
 induction d with
 | cnd b x y ih1 ih2=>
  intro d' z hr hz;cases b with
  | true=>exact ih1 d' z (hr.1 rfl) (hz.1 rfl)
  | false=>exact ih2 d' z (hr.2 rfl) (hz.2 rfl)
 | _=>intro d' z hr hz;exact aso hI hsl hmv hnl d' _ z (λ_ _ _ h=>by cases h) hr hz
theorem RM.aot(R:RM B0 h0 I0 L I β slots objs ctr a w){key g sz:Nat}{N:Int}{t:Bool}{f f':Int->Nat->D}(hk:objs[key]? = some (some (.arr g sz N t f)))
  (hr : ∀ (b o:Nat) (s c:Array Value) (e:TypeId),β key=some (b,o,s)->w.heap[b]? = some (.cells c e (0,0))->∀ i:Nat,(i:Int)<N->∀ j,j<sz->∃ z,c[o+i*sz+j]? = some z/\z.oneCell'=true/\Rd w.heap I β objs ctr (f' i j) z) :
  ∃ I' β',RM B0 h0 I0 L I' β' slots (objs.set key (some (.arr g sz N t f'))) ctr a w:=by
 have pR:=R.ob key _ hk;have hp:Post B0 h0 I0 L I β objs ctr w (objs.set key (some (.arr g sz N t f'))) w .junk undef:=by
  refine R.amH hk ⟨rfl,rfl,rfl,rfl⟩ ?_ (λ_=>trivial);obtain⟨h1,h2,h3⟩:=pR;refine⟨h1,h2,?_⟩;rcases h3 with h3|⟨b,o,s,c,e,x1,x2,x3,x4,x5,x6⟩
  . exact .inl h3
  exact .inr ⟨b,o,s,c,e,x1,x2,x3,x4,x5,hr b o s c e x1 x2⟩
 obtain⟨I',β',_,R',_⟩:=R.afW hp;exact⟨I',β',R'⟩
theorem RM.afH(R:RM B0 h0 I0 L I β slots objs ctr a w){key src g sz g2 mD:Nat}{N N2:Int}{t t2:Bool}{f f' f2:Int->Nat->D}(hk:objs[key]? = some (some (.arr g sz N t f)))(hs:objs[src]? = some (some (.arr g2 mD N2 t2 f2)))(hne:key≠src)
  (hr : ∀ i:Int,0<=i->i<N->∀ j,j<sz->BK (std P) src g2 mD f2 none (f i j) (f' i j)) :
  ∃ I' β',RM B0 h0 I0 L I' β' slots ((objs.set src none).set key (some (.arr g sz N t f'))) (ctr+1) a w:=by
 let I':IS:=I.or λb=>∃ x,β src=some x/\x.1=b;let β':Nat->Option (Nat×Nat×Array Value):=λk=>if k=src then none else β k
 have hset : ∀ k,k≠src->(objs.set src none)[k]? = objs[k]?:=λk hk=>jR (Ne.symm hk);have hlt:src<objs.length:=(gZ.1 hs).1;obtain⟨G,R'⟩:=R.keep (I':=I') (β':=β') (bN:=objs.set src none) (lC:=ctr+1) ak (IS.CX _ _)
  (R.lt.or λb ⟨x,hx,e⟩=>e▸⟨R.lS hx,R.own src x hx⟩)
  (λk o' hk=>by
   by_cases hki:k=src
   . subst hki;rw[jd hlt] at hk;cases hk
   rw[hset k hki] at hk;refine⟨o',hk,jZ.refl _,by simp[β',hki],λx hx=>?_⟩;rintro(h|⟨x',hx',he⟩)
   . exact R.Uk hx h
   exact R.dist k src x x' hki hx hx' he.symm)
  (λk x hk=>by
   simp only[β'] at hk;split at hk
   . cases hk
   rename_i hki;rw[hset k hki];exact⟨hk,R.dom k x hk⟩)
 have hk':(objs.set src none)[key]? = some (some (.arr g sz N t f)):=by rw[hset key hne];exact hk
 refine R'.aot hk' λb o s c e hb hc i hi j hj=>?_;have hb:β key=some (b,o,s):=by simpa[β',hne] using hb
 obtain⟨_,n0,pR⟩:=R.ob key _ hk;rcases pR with⟨_,h2⟩|⟨b',o',s',c',e',x1,x2,x3,x4,x5,x6⟩
 . rw[hb] at h2;cases h2
 rw[hb] at x1;cases x1;rw[hc] at x2;cases x2;obtain⟨z,z1,z2,z3⟩:=x6 i hi j hj;refine⟨z,z1,z2,agM (IS.CX _ _) (λ_ sz off n y hsz hv f'' hf=>?_) (λk c h=>by cases h) (λk c h=>by cases h) _ _ _ (hr i ak hi j hj) z3⟩;subst hsz;obtain⟨ad,len,cap,rfl,y1,y2,_,y4⟩:=H6 hv hs (R.ob src _ hs);refine⟨ad,len,cap,rfl,y1,y2,(λh=>by cases h),λhp=>?_⟩;obtain⟨b,o,c,e,s,q1,rfl,q2,q3,q4,q5⟩:=y4 ak;refine⟨b,o,c,e,_,rfl,.inr ⟨_,q1,rfl⟩,q2,λi hi j hj=>?_⟩;obtain⟨z,r1,r2,r3⟩:=q5 i hi j hj;exact⟨z,r1,r2,Rd.mono (Goes.back _ _ _ _ _) _ _ (Rd.mono (Goes.ZQ w.heap I I' (IS.CX _ _)) _ _ (zO _ _ _ (hf i ak ak j hj) r3))⟩
theorem RM.afI(R:RM B0 h0 I0 L I β slots objs ctr a w){key src dst g sz g2 mD:Nat}{N N2:Int}{t t2:Bool}{f f' f2:Int->Nat->D}(hk:objs[key]? = some (some (.arr g sz N t f)))(hs:objs[src]? = some (some (.arr g2 mD N2 t2 f2)))(hd:objs[dst]? = some none)(hne:key≠src)
  (hr : ∀ i:Int,0<=i->i<N->∀ j,j<sz->BK (std P) src g2 mD f2 (some (dst,ctr)) (f i j) (f' i j)) :
  ∃ I' β',RM B0 h0 I0 L I' β' slots (((objs.set src (some (.dead ctr))).set dst (some (.arr ctr mD N2 t2 f2))).set key (some (.arr g sz N t f'))) ctr a w:=by
 have hkd:key≠dst:=λh=>by subst h;rw[hk] at hd;cases hd
 have amI:dst<(killed objs ctr (some src)).length:=by
  simp only[killed,List.length_set];exact(gZ.1 hd).1
 obtain⟨_,n0,pR⟩:=R.ob key _ hk;let ys:Array Value:=match β key with
  | some (b,o,_)=>match w.heap[b]? with
   | some (.cells c _ _)=>((List.range (N.toNat*sz)).map λq=>c.getD (o+q) undef).toArray
   | _=>#[]
  | none=>#[]
 let pk:D:=.agg (N.toNat*sz) (λq=>f' ((q/sz:Nat):Int) (q%sz));have hys:ys.size=N.toNat*sz\/N=0:=by
  rcases pR with⟨h1,_⟩|⟨b,o,s,c,e,x1,x2,x3,x4,x5,x6⟩
  . exact .inr h1
  left;simp only[ys,x1,x2];simp
 have hp:Post B0 h0 I0 L I β objs ctr w ((killed objs ctr (some src)).set dst (some (.arr ctr mD N2 t2 f2))) w (if N=0 then .junk else pk) (.agg ys):=by
  refine R.turn (X:=β src) rfl (.inl hd) (λid' h=>⟨_,by cases h;exact hs⟩) (λ_ _ _=>rfl) (iR _) (λx hx=>⟨R.lS hx,.inl ⟨src,x,rfl,hx,rfl⟩⟩) ?_ ?_
  . obtain⟨_,h1,h2⟩:=R.ob src _ hs;refine⟨h1,?_⟩;rcases h2 with⟨h3,h4⟩|⟨b,o,s,c,e,h3,h4,h5,h6,h7,h8⟩
    . exact .inl ⟨h3,h4⟩
    exact .inr ⟨b,o,s,c,e,h3,h4,h5,h7,h8⟩
  intro β' Lh G;split
  . trivial
  rename_i hN;rcases pR with⟨h1,_⟩|⟨b,o,s,c,e,x1,x2,x3,x4,x5,x6⟩
  . exact absurd h1 hN
  refine⟨ys,rfl,hys.resolve_right hN,λq hq=>?_⟩;have hsz:0<sz:=by
   rcases EM sz with h|h
   . subst h;simp at hq
   exact h
  have hqi:q/sz<N.toNat:=Nat.div_lt_of_lt_mul (by rw[Nat.mul_comm];exact hq);have hqj:q%sz<sz:=Nat.mod_lt _ hsz;have hqe:q/sz*sz+q%sz=q:=by rw[Nat.mul_comm];exact Nat.div_add_mod q sz
  have hqI:((q/sz:Nat):Int)<N:=by
   have:=Int.ofNat_lt.2 hqi
   rwa [Jv n0] at this
  obtain⟨z,z1,z2,z3⟩:=x6 (q/sz) hqI (q%sz) hqj;refine⟨z,?_,z2,?_⟩
  . simp only[ys,x1,x2];rw[Jw,qJ,aey hq];simp only[iP,aW];rw[rY,hqe] at z1;rw[aaM,z1];rfl
  refine agM ⟨G.gX,G.lst⟩ (λh=>by cases h) (λk cc h sz' off n y hsz' hv=>?_) (λk cc h sz'=>?_) _ _ _ (hr _ (Int.natCast_nonneg _) hqI _ hqj) z3;cases h;subst hsz';obtain⟨_,hsh,hx⟩:=hv
  focus
   refine⟨.inr ⟨rfl,_,jd amI,rfl⟩,hsh,λN' t' f'' ho=>?_⟩;rw[jd amI] at ho;cases ho;rw[Lh];exact hx _ _ _ hs
  cases h;refine⟨.inr ⟨rfl,_,jd amI,rfl⟩,⟨none,0,0,rfl,rfl,iR _,λh=>absurd h (Nat.lt_irrefl _)⟩,λN' t' f'' ho=>?_⟩;rw[jd amI] at ho;cases ho;have hn2:0<=N2:=(R.ob src _ hs).2.1;exact⟨nL _,nL _,ak,none,0,0,rfl,rfl,iR _,λ_=>by simpa using hn2,λh=>absurd h (Nat.lt_irrefl _)⟩
 obtain⟨I',β',G,R',hpk⟩:=R.afW hp;have hk':((killed objs ctr (some src)).set dst (some (.arr ctr mD N2 t2 f2)))[key]? = some (some (.arr g sz N t f)):=by
  simp only[killed];rw[jR (Ne.symm hkd),jR (Ne.symm hne)];exact hk
 refine R'.aot hk' λb o s c e hb hc i hi j hj=>?_;have hN : ¬ N=0:=ak;rw[if_neg hN] at hpk;have hbk:β' key=β key:=by
  have hgk:Qu objs ctr key g:=aos R hk;obtain⟨o',k1,k2,k3⟩:=G.obj key g hgk _ hk' rfl trivial;exact k3
 rw[hbk] at hb;obtain⟨ys',hye,hy1,hy2⟩:=hpk;cases hye;have hlt:i*sz+j<N.toNat*sz:=by
  have:(i+1)*sz<=N.toNat*sz:=oq _ ak;rw[kr,Tm] at this;omega
 obtain⟨z,z1,z2,z3⟩:=hy2 (i*sz+j) hlt;refine⟨z,?_,z2,?_⟩
 . simp only[ys,hb,hc] at z1;rw[Jw,qJ,aey hlt] at z1;simp only[iP,aW] at z1;rcases pR with⟨h1,_⟩|⟨b',o',s',c',e',x1,x2,x3,x4,x5,x6⟩
   . omega
   rw[hb] at x1;cases x1;rw[hc] at x2;cases x2;obtain⟨z',q1,q2,_⟩:=x6 i hi j hj;rw[← rY] at z1;rw[aaM,q1] at z1;simp only[Option.getD_some] at z1;rw[q1,z1]
 have e1:(i*sz+j)/sz=i:=by
  rw[Nat.mul_comm,Nat.mul_add_div ak,Nat.div_eq_of_lt hj];omega
 have e2:(i*sz+j)%sz=j:=by
  rw[Nat.mul_comm,Nat.mul_add_mod,VO hj]
 have z3:Rd w.heap I' β' _ ctr (f' (((i*sz+j)/sz:Nat):Int) ((i*sz+j)%sz)) z:=z3;rw[e1,e2] at z3;exact z3
theorem aez{st:St}{d:D}{l:GL} : AY { st with ctr:=st.ctr+1 } d l = { AY st d l with ctr:=(AY st d l).ctr+1 }:=by
 cases l with
 | slot t=>rfl
 | sub t j=>simp only[AY];split<;>rfl
 | cell id j=>simp only[AY];split<;>rfl
theorem qH : ∀ (l:List Gh) {st st':St} {os:List bC},RS B0 h0 I0 L st a w->uF (std P) l st=some (st',os)->(∀ q∈os,q.run (std P))->RS B0 h0 I0 L st' a w
 | [],st,st',os,R,he,_=>by
  simp only[uF,aW,bM] at he;obtain⟨rfl,rfl⟩:=he;exact R
 | .freeze l::r,st,st',os,R,he,hos=>by
  simp only[uF] at he;split at he
  . rename_i id g sz off n hsl;split at he
    . rename_i g' sz' N tight f dP;split at he
      . rename_i hsz;have hsz:=dO hsz;subst hsz;split at he
        . rename_i st1 os1 he1;simp only[aW,bM] at he;obtain⟨rfl,rfl⟩:=he;have hg:g=g':=hos _ (iO ..);subst hg;refine qH r ?_ he1 (λq hq=>hos q (gU _ hq));obtain⟨I,β,R⟩:=R;obtain⟨y,hv,hfin⟩:=R.at l hsl bH;let I':IS:=I.or λb=>∃ x,β id=some x/\x.1=b;let β':Nat->Option (Nat×Nat×Array Value):=λk=>if k=id then none else β k
          have hset : ∀ k,k≠id->(st.objs.set id none)[k]? = st.objs[k]?:=λk hk=>jR (Ne.symm hk);have hlt:id<st.objs.length:=(gZ.1 dP).1;obtain⟨G,R'⟩:=R.keep (I':=I') (β':=β') (bN:=st.objs.set id none) (lC:=st.ctr+1) ak (IS.CX _ _)
           (R.lt.or λb ⟨x,hx,e⟩=>e▸⟨R.lS hx,R.own id x hx⟩)
           (λk o' hk=>by
            by_cases hki:k=id
            . subst hki;rw[jd hlt] at hk;cases hk
            rw[hset k hki] at hk;refine⟨o',hk,jZ.refl _,by simp[β',hki],λx hx=>?_⟩;rintro(h|⟨x',hx',he⟩)
            . exact R.Uk hx h
            exact R.dist k id x x' hki hx hx' he.symm)
           (λk x hk=>by
            simp only[β'] at hk;split at hk
            . cases hk
            rename_i hki;rw[hset k hki];exact⟨hk,R.dom k x hk⟩)
          refine hfin _ I' β' (st.objs.set id none) (st.ctr+1) G R' (λk o hk _=>?_) ?_
          . by_cases hki:k=id
            . subst hki;rw[dP] at hk;cases hk
            rw[hset k hki];exact hk
          obtain⟨_,_,hx⟩:=hv;obtain⟨o1,o2,o3,ad,len,cap,rfl,x1,x2,x3,x4⟩:=hx _ _ _ dP;refine⟨ad,len,cap,rfl,x1,x2,?_,λhp=>?_⟩
          . intro ht;have ht:(tight&&(off+n==N))=true:=ht;simp only[ig,beq_iff_eq] at ht;have:=x3 ht.1;omega
          obtain⟨b,o,s',hb,rfl,hr⟩:=x4 ak;obtain⟨_,_,pR⟩:=R.ob id _ dP;rcases pR with⟨h1,h2⟩|⟨b',p',s1,c,e,q1,q2,q3,q4,q5,q6⟩
          . rw[hb] at h2;cases h2
          rw[hb] at q1;cases q1;refine⟨b,_,c,e,_,rfl,.inr ⟨_,hb,rfl⟩,q2,λi hi j hj=>?_⟩;obtain⟨z,z1,z2,z3⟩:=q6 (off.toNat+i) ak j hj;refine⟨z,?_,z2,?_⟩
          . rw[← z1];congr 1;rw[kr];omega
          have e1:((off.toNat+i:Nat):Int)=off+(i:Int):=ak;rw[e1] at z3;exact Rd.mono G _ _ z3
        cases he
      cases he
    cases he
  cases he
 | .thaw l key sz::r,st,st',os,R,he,hos=>by
  simp only[uF] at he;split at he
  . rename_i hsl hk;refine qH r ?_ he hos;obtain⟨I,β,R⟩:=R;obtain⟨y,hv,hfin⟩:=R.at l hsl bH;cases hv;have hp:=Lj R (key:=key) (old:=none) (.inl hk) (λ_ h=>by cases h) (sz:=sz) (n:=0) rfl false (λ_ _=>.dX) none;obtain⟨I',β',G,R',hd⟩:=R.afW hp;have:=RS.tick (hfin _ I' β' _ _ G R' (λk o hk' _=>by
     have hne:key≠k:=λh=>by subst h;rw[hk] at hk';cases hk'
     simp only[killed];rw[jR hne];exact hk') hd)
    rw[← aez] at this;exact this
  cases he
 | .forget key::r,st,st',os,R,he,hos=>by
  simp only[uF] at he;exact qH r (R.le (st':=⟨st.slots,st.objs.set key none,st.ctr+1⟩) ⟨Nat.lt_succ_self _,wu.refl _,yP.forget _ _⟩) he hos
 | .empty key sz::r,st,st',os,R,he,hos=>by
  simp only[uF] at he;split at he
  . rename_i hk;refine qH r ?_ he hos;obtain⟨I,β,R⟩:=R;have hp:=Lj R (key:=key) (old:=none) (.inl hk) (λ_ h=>by cases h) (sz:=sz) (n:=0) rfl false (λ_ _=>.dX) none;obtain⟨I',β',G,R',hd⟩:=R.afW hp;exact RS.tick (st:=⟨st.slots,st.objs.set key (some (.arr st.ctr sz 0 false (λ_ _=>.dX))),st.ctr⟩) ⟨I',β',R'⟩
  cases he
 | .afH key src f'::r,st,st',os,R,he,hos=>by
  simp only[uF] at he;split at he
  . rename_i g sz N t f g2 mD N2 t2 f2 hk hs;split at he
    . cases he
    rename_i hne;have hne:key≠src:=λh=>hne (by rw[h];exact kF _);split at he
    . rename_i st1 os1 he1;simp only[aW,bM] at he;obtain⟨rfl,rfl⟩:=he;refine qH r ?_ he1 (λq hq=>hos q (gU _ hq));obtain⟨I,β,R⟩:=R;exact R.afH hk hs hne (hos _ (iO ..))
    cases he
  cases he
 | .afI key src dst f'::r,st,st',os,R,he,hos=>by
  simp only[uF] at he;split at he
  . rename_i g sz N t f g2 mD N2 t2 f2 hk hs hd;split at he
    . cases he
    rename_i hne;have hne:key≠src:=λh=>hne (by rw[h];exact kF _);split at he
    . rename_i st1 os1 he1;simp only[aW,bM] at he;obtain⟨rfl,rfl⟩:=he;refine qH r ?_ he1 (λq hq=>hos q (gU _ hq));obtain⟨I,β,R⟩:=R;have R2:RS B0 h0 I0 L ⟨st.slots,((st.objs.set src (some (.dead st.ctr))).set dst (some (.arr st.ctr mD N2 t2 f2))).set key (some (.arr g sz N t f')),st.ctr⟩ a w:=R.afI hk hs hd hne (hos _ (iO ..));exact R2.tick
    cases he
  cases he
 | .move l key::r,st,st',os,R,he,hos=>by
  simp only[uF] at he;split at he
  . rename_i id g sz off n hsl hk;split at he
    . rename_i g' sz' N tight f dP;split at he
      . rename_i hsz;have hsz:=dO hsz;subst hsz;split at he
        . rename_i st1 os1 he1;simp only[aW,bM] at he;obtain⟨rfl,rfl⟩:=he;have hg:g=g':=hos _ (iO ..);subst hg;refine qH r ?_ he1 (λq hq=>hos q (gU _ hq));obtain⟨I,β,R⟩:=R;obtain⟨y,⟨hgk,hsh,hx⟩,hfin⟩:=R.at l hsl bH;have hx:=hx _ _ _ dP;have pR:=R.ob id _ dP;have oK:key<(killed st.objs st.ctr (some id)).length:=by
           simp only[killed,List.length_set];exact(gZ.1 hk).1
          have hp:Post B0 h0 I0 L I β st.objs st.ctr w ((killed st.objs st.ctr (some id)).set key (some (.arr st.ctr sz N tight f))) w (.vec key st.ctr sz off n) y:=by
           refine R.turn (X:=β id) rfl (.inl hk) (λid' h=>⟨_,by cases h;exact dP⟩) (λ_ _ _=>rfl) (iR _) (λx hx=>⟨R.lS hx,.inl ⟨id,x,rfl,hx,rfl⟩⟩) ?_ ?_
           . obtain⟨_,h1,h2⟩:=pR;refine⟨h1,?_⟩;rcases h2 with⟨h3,h4⟩|⟨b,o,s,c,e,h3,h4,h5,h6,h7,h8⟩
             . exact .inl ⟨h3,h4⟩
             exact .inr ⟨b,o,s,c,e,h3,h4,h5,h7,h8⟩
           intro β' Lh G;refine⟨.inr ⟨rfl,_,jd oK,rfl⟩,hsh,λN' t' f' ho=>?_⟩;rw[jd oK] at ho;cases ho;rw[Lh];exact hx
          obtain⟨I',β',G,R',hd⟩:=R.afW hp;have:=RS.tick (hfin _ I' β' _ _ G R' (λk o hk' _=>by
           have hne:key≠k:=λh=>by subst h;rw[hk] at hk';cases hk'
           have hni:id≠k:=λh=>by subst h;rw[dP] at hk';cases hk'
           simp only[killed];rw[jR hne,jR hni];exact hk') hd)
          rw[← aez] at this;exact this
        cases he
      cases he
    cases he
  cases he
theorem xX{p:Pr} : ∀ {os:List bC} {q:Prop},conj p os q->(∀ x∈os,x.run p)/\q
 | [],_,h=>⟨λx hx=>by simp at hx,h⟩
 | y::r,q,h=>by
  obtain⟨h1,h2⟩:=xX (os:=r) h.2;exact⟨λx hx=>by
   rcases CU.1 hx with rfl|hx
   . exact h.1
   exact h1 x hx,h2⟩
theorem Tr.mono{c:Code}{Q Q':Exit->St->Prop}{st:St}(h:Tr P c Q st)(hq : ∀ ex st,Q ex st->Q' ex st):Tr P c Q' st :=
 λB0 h0 I0 L a w K R hK=>h B0 h0 I0 L a w K R λex st' a' w' q R'=>hK ex st' a' w' (hq ex st' q) R'
theorem Tr.le{c:Code}{Q:Exit->St->Prop}{st st':St}(hl:Ce st st')(h:Tr P c Q st'):Tr P c Q st :=
 λB0 h0 I0 L a w K R hK=>h B0 h0 I0 L a w K (R.le hl) hK
theorem Tr.gh{c:Code}{Q:Exit->St->Prop}(l:List Gh){st st':St}{os:List bC}(he:uF (std P) l st=some (st',os))(hos : ∀ q∈os,q.run (std P))(h:Tr P c Q st'):Tr P c Q st :=
 λB0 h0 I0 L a w K R hK=>h B0 h0 I0 L a w K (qH l R he hos) hK
theorem Tr.seq{x y:Code}{Q:Exit->St->Prop}{st:St}(h:Tr P x (Au (Tr P y Q) Q) st):Tr P (.seq x y) Q st:=by
 intro B0 h0 I0 L a w K R hK;refine wp_seq (h B0 h0 I0 L a w _ R λex st' a' w' q R'=>?_);cases ex with
 | normal=>exact q B0 h0 I0 L a' w' K R' hK
 | _=>exact hK _ st' a' w' q R'
theorem Tr.block{id:Nat}{c:Code}{Q:Exit->St->Prop}{st:St}(h:Tr P c (Ky id Q) st):Tr P (.block id c) Q st:=by
 intro B0 h0 I0 L a w K R hK;refine wp_block (h B0 h0 I0 L a w _ R λex st' a' w' q R'=>?_);cases ex with
 | exit i=>
  simp only[Ky] at q;simp only[Exit.inBlock]
  by_cases hi:i=id
  . subst hi;rw[if_pos (kF _)] at q;rw[if_pos rfl];exact hK _ st' a' w' q R'
  rw[if_neg (λh=>hi (dO h))] at q;rw[if_neg hi];exact hK _ st' a' w' q R'
 | _=>exact hK _ st' a' w' q R'
theorem Tr.cond{c:Operand}{x y:Code}{Q:Exit->St->Prop}{st:St}{t:Bool}{os:List bC}(hs:strip (std P) (rd (std P) st.slots c)=(.v (.bool t),os))(hos : ∀ q∈os,q.run (std P))
  (h1:t=true->Tr P x Q st) (h2:t=false->Tr P y Q st):Tr P (.cond c x y) Q st:=by
 intro B0 h0 I0 L a w K R hK;have hc:a.eval c = .bool t:=by
  obtain⟨I,β,R⟩:=R;have:=Qv (P:=P) _ _ (R.eval c) (by rw[hs];exact hos);rw[hs] at this;exact this
 exact wp_cond_split hc (λh=>h1 h B0 h0 I0 L a w K R hK) (λh=>h2 h B0 h0 I0 L a w K R hK)
theorem Vn{cx:Cx}(hT:jG P cx.tt)(hP:P.follows .mixedOrders=true){id:Nat}{ops:Array Oper}{draw:Bool}{Q:Exit->St->Prop}{st st':St}{os:List bC}
  (he:Xn (std P) cx id ops draw st=some (st',os)) (hos : ∀ q∈os,q.run (std P)) (hQ:Q .normal st'):Tr P (.region id ops draw) Q st:=by
 intro B0 h0 I0 L a w K R hK;unfold Xn at he;split at he
 . cases he
 rename_i st0 os0 he0;split at he
 . cases he
 rename_i st1 os1 he1;simp only[aW,bM] at he;obtain⟨rfl,rfl⟩:=he;have R0:=qH _ R he0 (λq hq=>hos q (dW _ (dW _ hq)));have Cm : ∀ q∈os1,q.run (std P):=λq hq=>hos q (dW _ (dR _ hq));have hfin : ∀ a w,RS B0 h0 I0 L st1 a w->K .normal a w:=λa w R'=>hK .normal _ a w hQ (R'.le (st':=⟨tidy st1.slots,st1.objs,st1.ctr+1⟩) ⟨Nat.lt_succ_self _,wu.tidy _,yP.refl _⟩);cases draw with
 | false=>
  refine wp_region ?_;have:=X4 (ops:=ops) (Q:=K) hT ops.toList 0 bH st0 st1 os1 a w R0 he1 Cm hfin;simpa using this
 | true=>
  refine ams hT hP (jU:=ZR (std P) cx ops st1) (RS.world (w:=w) rfl ⟨rfl,rfl⟩ R0) he1 Cm (λj a h=>?_) ?_ hfin
  . unfold ZR at h;split at h
    . exact agG _ _ _ _ he1 j a h
    simp at h
  have hd:=hos (.dr ops (iQ cx.dB cx.m ops.toList) (ZR (std P) cx ops st1)) (dR _ (by rw[if_pos rfl];exact fQ.2 rfl));exact hd
theorem Xo{cx:Cx}(hT:jG P cx.tt)(hP:P.follows .mixedOrders=true) : ∀ (c:Code) (Q:Exit->St->Prop) (st:St),wp (std P) cx c Q st->Tr P c Q st:=by
 intro c
 induction c with
 | skip=>intro Q st h B0 h0 I0 L a w K R hK;exact wp_skip (hK _ _ _ _ h R)
 | region id ops draw=>
  intro Q st h;simp only[wp] at h;split at h
  . rename_i st' os he;obtain⟨h1,h2⟩:=xX h;exact Vn hT hP he h1 h2
  exact h
 | seq x y ihx ihy=>
  intro Q st h;refine Tr.seq ((ihx _ _ h).mono λex st' q=>?_);cases ex with
  | normal=>exact ihy _ _ q
  | _=>exact q
 | cond c x y ihx ihy=>
  intro Q st h;simp only[wp] at h;split at h
  . rename_i t os hs;obtain⟨h1,h2⟩:=xX h;exact Tr.cond hs h1 (λht=>ihx _ _ (h2.1 ht)) (λht=>ihy _ _ (h2.2 ht))
  exact h.elim
 | block id c ih=>intro Q st h;exact Tr.block (ih _ _ h)
 | exit id=>intro Q st h B0 h0 I0 L a w K R hK;exact wp_exit (hK _ _ _ _ h R)
 | ret=>intro Q st h B0 h0 I0 L a w K R hK;exact wp_ret (hK _ _ _ _ h R)
 | goto l=>intro Q st h B0 h0 I0 L a w K R hK;exact wp_goto (hK _ _ _ _ h R)
 | _=>intro Q st h;exact h
theorem least{p:Nat->Prop}(h : ∃ n,p n) : ∃ n,p n/\∀ k,p k->n<=k:=by
 obtain⟨n,hn⟩:=h
 induction n using Nat.strongRecOn with
 | _ n ih=>
  by_cases hx : ∃ k,k<n/\p k
  . obtain⟨k,h1,h2⟩:=hx;exact ih k h1 h2
  exact⟨n,hn,λk hk=>Nat.le_of_not_lt λhlt=>hx ⟨k,hlt,hk⟩⟩
theorem Tr.loop{α:Type}(inv:α->St)(ok:α->Prop)(μ:α->Nat){c:Code}{Q:Exit->St->Prop}{st:St}(x0:α)(hx0:ok x0)(hle:Ce st (inv x0))
  (hr : ∀ x,ok x->Tr P c (Au (λst'=>∃ x',ok x'/\μ x'<μ x/\Ce st' (inv x')) Q) (inv x)):Tr P (.loop c) Q st:=by
 intro B0 h0 I0 L a w K R hK
 classical
 let J:Act->World->Nat->Prop:=λa w n=>∃ x,ok x/\RS B0 h0 I0 L (inv x) a w/\μ x=n;let M:Act->World->Nat:=λa w=>if h : ∃ n,J a w n then Classical.choose (least h) else 0
 refine wp_loop (λa w=>∃ n,J a w n) M ⟨_,x0,hx0,R.le hle,rfl⟩ λa w hI=>?_;obtain⟨x,hx,hR,hμ⟩:=(aeA (least hI)).1;have hM:M a w=μ x:=by simp only[M,dif_pos hI];exact hμ.symm
 refine hr x hx B0 h0 I0 L a w _ hR λex st' a' w' q R'=>?_;cases ex with
 | normal=>
  obtain⟨x',h1,h2,h3⟩:=q;have hJ : ∃ n,J a' w' n:=⟨_,x',h1,R'.le h3,rfl⟩
  refine⟨hJ,?_⟩;rw[hM];refine Nat.lt_of_le_of_lt ?_ h2;simp only[M,dif_pos hJ];exact(aeA (least hJ)).2 _ ⟨x',h1,R'.le h3,rfl⟩
 | _=>exact hK _ st' a' w' q R'
end
end Go.Vx
end
section
namespace Go.Vx
def aX(p:Pr)(objs:List (Option Ob)):D->D->Prop
 | .vec id g sz off n,d'=>match d' with
  | .sl sz' n' t' f'=>match objs[id]? with
   | some (some (.arr g' Fg N t f))=>if Nat.beq sz sz'&&Nat.beq sz Fg then
     p.lU g g'/\p.uf n n'/\p.imp t' (p.JJ (p.yZ t (p.eq (p.add off n) N)))/\p.all2 n sz (λi j=>cK p (f (p.add off i) j) (f' i j))
    else False
   | _=>False
  | .junk=>True
  | _=>False
 | .agg k c,.agg k' c'=>if Nat.beq k k' then p.all2 1 k (λ_ j=>aX p objs (c j) (c' j)) else False
 | .fn (.func f) k c,.fn (.func f') k' c'=>p.lU f f'/\p.lU k k'/\p.all2 1 k (λ_ j=>aX p objs (c j) (c' j))
 | .fq id g j,d'=>match d' with
  | .gX sz n f i j'=>match objs[id]? with
   | some (some (.box g' cs))=>if Nat.beq j j'&&Nat.beq sz cs.length then p.lU g g'/\p.uf n 1/\p.uf i 0/\p.all2 1 sz (λi k=>cK p (cs.getD k .junk) (f i k)) else False
   | _=>False
  | .junk=>True
  | _=>False
 | d,d'=>cK p d d'
def amJ(p:Pr)(objs:List (Option Ob)):List D->(Nat->D)->Prop
 | [],_=>True
 | d::r,c=>aX p objs d (c 0)/\amJ p objs r (λj=>c (j+1))
def amK(p:Pr)(objs:List (Option Ob))(sz':Nat)(n':Int)(t':Bool)(f':Int->Nat->D):D->Prop
 | .vec id g sz off n=>match objs[id]? with
  | some (some (.arr g' Fg N t f))=>if Nat.beq sz sz'&&Nat.beq sz Fg then
    p.lU g g'/\p.uf n n'/\p.imp t' (p.JJ (p.yZ t (p.eq (p.add off n) N)))/\p.all2 n sz (λi j=>cK p (f (p.add off i) j) (f' i j))
   else False
  | _=>False
 | .dX=>p.uf n' 0
 | _=>False
def apT(p:Pr)(q:Nat):Nat->List D->(Nat->D)->Prop
 | _,[],_=>True
 | j,d::r,c=>(if Nat.beq j q then True else cK p d (c 0))/\apT p q (j+1) r (λi=>c (i+1))
def outT(p:Pr)(objs:List (Option Ob)):List D->D->Prop
 | [d],.own sz' n' t' f'=>amK p objs sz' n' t' f' d
 | [d],.CB q k c sz' n' t' f'=>match d with
  | .agg k2 c2=>if Nat.beq k2 k&&Nat.blt q k then amK p objs sz' n' t' f' (c2 q)/\apT p q 0 (cellsOf k c2) c else False
  | _=>False
 | [d],d'=>aX p objs d d'
 | a::b::r,.jO k c=>if Nat.beq k (r.length+2) then amJ p objs (a::b::r) c else False
 | [],.jO k _=>if Nat.beq k 0 then True else False
 | _,_=>False
def wG(p:Pr)(tt:TT)(objs:List (Option Ob))(slots:List D):List ResultVar->Option (List D×List bC)
 | []=>some ([],[])
 | .tmp t::r=>match wG p tt objs slots r with
  | some (ds,os)=>let s:=strip p (slots.getD t .junk);some (s.1::ds,s.2++os)
  | none=>none
 | .cell x t::r=>match iB tt t,strip p (slots.getD x .junk),wG p tt objs slots r with
  | some ti,(.fq id g j,os1),some (ds,os)=>match yX p objs ti (.fq id g j) with
   | some (d,os2)=>some (d::ds,os1++os2++os)
   | none=>none
  | _,_,_=>none
def YL(p:Pr)(tt:TT)(rs:List ResultVar)(res:D):Exit->St->Prop
 | .normal,st=>match wG p tt st.objs st.slots rs with
  | some (ds,os)=>conj p os (outT p st.objs ds res)
  | none=>False
 | .ret,st=>match wG p tt st.objs st.slots rs with
  | some (ds,os)=>conj p os (outT p st.objs ds res)
  | none=>False
 | _,_=>False
section
variable {P:Program} {h:Array Obj} {I:IS} {β:Nat->Option (Nat×Nat×Array Value)} {objs:List (Option Ob)} {ctr:Nat}
def apU:List Value->Value
 | [v]=>v
 | vs=>.tuple vs.toArray
theorem alf(pR : ∀ (k:Nat) (o:Ob),objs[k]? = some (some o)->Rob h I β objs ctr k o) : ∀ (d d':D) (y:Value),aX (std P) objs d d'->Rd h I β objs ctr d y ->
  Rd h (I.or (Blocks β)) (λ_=>none) [] 0 d' y:=by
 intro d;have h0 : ∀ d d' y,cK (std P) d d'->Rd h I β objs ctr d y->Rd h (I.or (Blocks β)) (λ_=>none) [] 0 d' y:=λd d' y ho hr=>
  Rd.mono (Goes.ZQ h I _ (IS.CX _ _)) _ _ (zO d d' y ho hr)
 induction d with
 | vec k g sz off n=>
  intro d' y ho hr;cases d' with
  | junk=>trivial
  | sl sz' n' t' f'=>
   simp only[aX] at ho;split at ho
   . rename_i g' Fg N t f dP;split at ho
     . rename_i hk;simp only[ig] at hk;have hk1:=dO hk.1;subst hk1;have hk2:=dO hk.2;subst hk2;obtain⟨o1,o2,o3,o4⟩:=ho;have o1:g=g':=o1;subst o1;have o2:n=n':=o2;subst o2;obtain⟨ad,len,cap,rfl,x1,x2,x3,x4⟩:=H6 hr dP (pR _ _ dP);refine⟨ad,len,cap,rfl,x1,x2,λht=>x3 (o3 ht),λhp=>?_⟩;obtain⟨b,o,c,e,s,y1,rfl,y2,y3,y4,y5⟩:=x4 ak;refine⟨b,o,c,e,_,rfl,.inr ⟨k,_,y1,rfl⟩,y2,λi hi j hj=>?_⟩;obtain⟨z,z1,z2,z3⟩:=y5 i hi j hj;exact⟨z,z1,z2,h0 _ _ _ (o4 i ak ak j hj) z3⟩
     exact ho.elim
   exact ho.elim
  | _=>simp[aX] at ho
 | agg k c ih=>
  intro d' y ho hr;cases d' with
  | junk=>trivial
  | agg k' c'=>
   simp only[aX] at ho;split at ho
   . rename_i hk;have hk:=dO hk;subst hk;obtain⟨ys,rfl,x1,x2⟩:=hr;refine⟨ys,rfl,x1,λj hj=>?_⟩;obtain⟨z,z1,z2,z3⟩:=x2 j hj;exact⟨z,z1,z2,ih _ _ _ (ho 0 ak ak j hj) z3⟩
   exact ho.elim
  | _=>exact h0 _ _ _ (by simpa[aX] using ho) hr
 | fn f k c ih=>
  intro d' y ho hr;cases d' with
  | junk=>trivial
  | fn f' k' c'=>
   cases f<;>cases f'<;>first
   | (
    simp only[aX] at ho;obtain⟨h1,h2,ho⟩:=ho;cases h1;cases h2;obtain⟨ys,rfl,x1,x2⟩:=hr;refine⟨ys,rfl,x1,λj hj=>?_⟩;obtain⟨z,z1,z3⟩:=x2 j hj;exact⟨z,z1,ih _ _ _ (ho 0 ak ak j hj) z3⟩)
   | exact h0 _ _ _ (by simpa[aX] using ho) hr
  | _=>exact h0 _ _ _ (by cases f<;>simpa[aX] using ho) hr
 | fq id g j=>
  intro d' y ho hr;cases d' with
  | junk=>trivial
  | gX sz n f i j'=>
   simp only[aX] at ho;split at ho
   . rename_i g' cs dP;split at ho
     . rename_i hk;have hk:=Bool.and_eq_true_iff.1 hk;have h1:=dO hk.1;have h2:=dO hk.2;subst h1 h2;obtain⟨o1,o2,o3,o4⟩:=ho;have o1:g=g':=o1;have o2:n=1:=o2;have o3:i=0:=o3;subst o1 o2 o3;obtain⟨_,_,hx⟩:=hr;obtain⟨b,o,s,hb,rfl⟩:=hx _ dP;obtain⟨_,b',o',s',c,e,q1,q2,q3,q4,q5,q6⟩:=pR _ _ dP;rw[hb] at q1;cases q1;refine⟨ak,ak,b,o,c,e,_,bH,.inr ⟨id,_,hb,rfl⟩,q2,λi' hi j' hj=>?_⟩;obtain⟨z,z1,z2,z3⟩:=q6 j' _ (iW hj);have e0:i'=0:=ak;subst e0;refine⟨z,by simpa using z1,z2,h0 _ _ _ (o4 0 ak ak j' hj) ?_⟩;have e1:cs.getD j' .junk=cs[j']:=by simp[List.getD,hj]
       rw[e1];exact z3
     exact ho.elim
   exact ho.elim
  | _=>simp[aX] at ho
 | _=>intro d' y ho hr;exact h0 _ _ _ (by simpa[aX] using ho) hr
end
theorem acR{p:Pr}{tt:TT}{objs:List (Option Ob)}{slots:List D} : ∀ {rs:List ResultVar} {ds:List D} {os:List bC},wG p tt objs slots rs=some (ds,os)->ds.length=rs.length
 | [],_,_,h=>by simp only[wG,aW,bM] at h;rw[← h.1];rfl
 | .tmp t::r,_,_,h=>by
  simp only[wG] at h;split at h
  . rename_i ds os h';simp only[aW,bM] at h;rw[← h.1];simp[acR h']
  cases h
 | .cell x t::r,_,_,h=>by
  simp only[wG] at h;split at h
  . rename_i h';split at h
    . simp only[aW,bM] at h;rw[← h.1];simp[acR h']
    cases h
  cases h
section
variable {P:Program} {B0:Nat} {h0:Array Obj} {I0 I:IS} {L:wU} {β:Nat->Option (Nat×Nat×Array Value)} {slots:List D} {objs:List (Option Ob)} {ctr:Nat} {a:Act} {w:World}
theorem asq{tt:TT}(hT:jG P tt)(R:RM B0 h0 I0 L I β slots objs ctr a w){t:TypeId}{ti:TI}(ht:iB tt t=some ti){id g j:Nat}{d:D}{os:List bC}{y:Value}
  (he:yX (std P) objs ti (.fq id g j)=some (d,os)) (hos : ∀ q∈os,q.run (std P)) (hy:Rd w.heap I β objs ctr (.fq id g j) y) : ∃ z,(do loadVar t (← asAddr y)).run P w = .ok z w/\Rd w.heap I β objs ctr d z:=by
 simp only[yX] at he;split at he
 . rename_i g' cs ho;cases hl:qO ti cs.length j (λj=>cs.getD j .junk) with
   | none=>rw[hl] at he;cases he
   | some d'=>
    simp only[hl,iP,aW,bM] at he;obtain⟨rfl,rfl⟩:=he;have hg:g=g':=hos _ (fQ.2 rfl);subst hg;obtain⟨_,_,hx⟩:=hy;obtain⟨b,o,s,hb,rfl⟩:=hx _ ho;obtain⟨_,b',o',s',c,e,q1,q2,q3,_,q5,q6⟩:=R.ob id _ ho;rw[hb] at q1;cases q1;obtain⟨z,z1,z2⟩:=OA (h:=w.heap) (I:=I) (β:=β) (objs:=objs) (ctr:=ctr) hT ht (base:=o) q2 hl (λjj hjj=>by
     have:=q6 jj (cs.getD jj .junk) (by simp[List.getD,iW hjj]);exact this)
    exact⟨z,by simp[asAddr,z1],z2⟩
 cases he
theorem afX{tt:TT}(hT:jG P tt)(R:RM B0 h0 I0 L I β slots objs ctr a w)(F:ResultVar->Sem Value)(hF : ∀ t,F (.tmp t)=pure (a.tmps.getD t undef))(hC : ∀ x t,F (.cell x t)=do loadVar t (← asAddr (a.tmps.getD x undef))) : ∀ {rs:List ResultVar} {ds:List D} {os:List bC},
  wG (std P) tt objs slots rs=some (ds,os)->(∀ q∈os,q.run (std P))->∃ vs:List Value,(rs.mapM F).run P w = .ok vs w/\vs.length=rs.length /\
   ∀ (t:Nat) (d:D),ds[t]? = some d->∃ y,vs[t]? = some y/\Rd w.heap I β objs ctr d y
 | [],_,_,h,_=>by
  simp only[wG,aW,bM] at h;obtain⟨rfl,rfl⟩:=h;exact⟨[],bH,rfl,λt d h=>by simp at h⟩
 | .tmp t::r,_,_,h,hos=>by
  simp only[wG] at h;split at h
  . rename_i ds os h';simp only[aW,bM] at h;obtain⟨rfl,rfl⟩:=h;obtain⟨vs,h1,h2,h3⟩:=afX hT R F hF hC h' (λq hq=>hos q (dR _ hq));refine⟨a.tmps.getD t undef::vs,?_,by simp[h2],λs d hd=>?_⟩
    . simp[List.mapM_cons,hF,h1]
    cases s with
    | zero=>
     simp only[lq,aW] at hd ⊢;subst hd;exact⟨_,rfl,Qv (P:=P) _ _ (R.eval (P:=P) (.tmp t)) (λq hq=>hos q (dW _ hq))⟩
    | succ s=>simpa using h3 s d (by simpa using hd)
  cases h
 | .cell x t::r,_,_,h,hos=>by
  simp only[wG] at h;split at h
  . rename_i ti id g j os1 ds os ht hs h';split at h
    . rename_i d0 os2 hl;simp only[aW,bM] at h;obtain⟨rfl,rfl⟩:=h;obtain⟨vs,h1,h2,h3⟩:=afX hT R F hF hC h' (λq hq=>hos q (dR _ hq));have hy:Rd w.heap I β objs ctr (.fq id g j) (a.tmps.getD x undef):=by
       have:=Qv (P:=P) (slots.getD x .junk) _ (R.eval (P:=P) (.tmp x)) (by rw[hs];exact λq hq=>hos q (dW _ (dW _ hq)));rw[hs] at this;exact this
      obtain⟨z,z1,z2⟩:=asq hT R ht hl (λq hq=>hos q (dW _ (dR _ hq))) hy;refine⟨z::vs,?_,by simp[h2],λs d hd=>?_⟩
      . rw[List.mapM_cons,Sem.run_bind,hC,z1];simp[h1]
      cases s with
      | zero=>
       simp only[lq,aW] at hd ⊢;subst hd;exact⟨z,rfl,z2⟩
      | succ s=>simpa using h3 s d (by simpa using hd)
    cases h
  cases h
theorem aeB{tt:TT}(hT:jG P tt)(R:RM B0 h0 I0 L I β slots objs ctr a w){fn:Func}{ds:List D}{os:List bC}(h:wG (std P) tt objs slots fn.results.toList=some (ds,os))(hos : ∀ q∈os,q.run (std P)) :
  ∃ vs:List Value,(results fn a.tmps).run P w = .ok (apU vs) w/\vs.length=ds.length/\∀ (t:Nat) (d:D),ds[t]? = some d->∃ y,vs[t]? = some y/\Rd w.heap I β objs ctr d y:=by
 unfold results;obtain⟨vs,h1,h2,h3⟩:=afX hT R (λ| .tmp t=>pure (a.tmps.getD t undef) | .cell x t=>do loadVar t (← asAddr (a.tmps.getD x undef))) (λt=>rfl) (λx t=>rfl) h hos;refine⟨vs,?_,by rw[h2,acR h],h3⟩;have e:fn.results=fn.results.toList.toArray:=bH;rw[e,List.mapM_toArray];simp only[Sem.run_bind,Sem.run_map];refine(congrArg (λr:Result (List Value)=>(r.andThen λa w'=>Result.ok a.toArray w').andThen λvs w'=>Sem.run P (pure (if h:vs.size=1 then vs[0] else Value.tuple vs)) w') h1).trans ?_;simp only[Result.andThen_ok,Sem.run_pure];congr 1
 match vs with
 | []=>rfl
 | [v]=>rfl
 | v::u::r=>
  rw[dif_neg (show ¬ (v::u::r).toArray.size=1 by simp)];rfl
end
section
variable {P:Program}
theorem agN{p:Pr}{objs:List (Option Ob)} : ∀ {ds:List D} {c:Nat->D} {j:Nat} {d:D},amJ p objs ds c->ds[j]? = some d->aX p objs d (c j)
 | [],_,_,_,_,h=>by cases h
 | x::r,c,0,d,h,hd=>by cases hd;exact h.1
 | x::r,c,j+1,d,h,hd=>agN (ds:=r) (c:=λj=>c (j+1)) h.2 (by simpa using hd)
theorem alg{h:Array Obj}{I:IS}{β:Nat->Option (Nat×Nat×Array Value)}{objs:List (Option Ob)}{ctr B:Nat}(pR : ∀ (k:Nat) (o:Ob),objs[k]? = some (some o)->Rob h I β objs ctr k o)
  (hB : ∀ k x,β k=some x->B<=x.1) {sz':Nat} {n':Int} {t':Bool} {f':Int->Nat->D} {d:D} {v:Value} (ho:amK (std P) objs sz' n' t' f' d) (hr:Rd h I β objs ctr d v):amA B h I sz' n' t' f' v:=by
 cases d with
 | dX=>
  have ho:n'=0:=ho;subst ho;cases hr;exact⟨none,0,0,rfl,rfl,iR _,λ_=>rfl,λh=>by omega⟩
 | vec k g sz off n=>
  simp only[amK] at ho;split at ho
  . rename_i g' Fg N t f dP;split at ho
    . rename_i hk;simp only[ig] at hk;have hk1:=dO hk.1;subst hk1;have hk2:=dO hk.2;subst hk2;obtain⟨o1,o2,o3,o4⟩:=ho;have o1:g=g':=o1;subst o1;have o2:n=n':=o2;subst o2;obtain⟨ad,len,cap,rfl,x1,x2,x3,x4⟩:=H6 hr dP (pR _ _ dP);refine⟨ad,len,cap,rfl,x1,x2,λht=>x3 (o3 ht),λhp=>?_⟩;obtain⟨b,o,c,e,s,y1,rfl,y2,y3,y4,y5⟩:=x4 hp;refine⟨b,o,c,e,rfl,hB k _ y1,y3,y2,y4,λi hi j hj=>?_⟩;obtain⟨z,z1,z2,z3⟩:=y5 i hi j hj;exact⟨z,z1,z2,zO _ _ _ (o4 i ak ak j hj) z3⟩
    exact ho.elim
  exact ho.elim
 | _=>exact ho.elim
theorem ajz{p:Pr}{q:Nat} : ∀ {k s:Nat} {c2 c:Nat->D},apT p q s (cellsOf k c2) c->∀ j,j<k->s+j≠q->cK p (c2 j) (c j)
 | k+1,s,c2,c,h,0,_,hne=>by
  have h1:=h.1
  rwa [if_neg (λhb=>hne (by have:=dO hb;omega))] at h1
 | k+1,s,c2,c,h,j+1,hj,hne=>ajz (c2:=λi=>c2 (i+1)) (c:=λi=>c (i+1)) h.2 j ak ak
theorem asr{h:Array Obj}{I:IS}{β:Nat->Option (Nat×Nat×Array Value)}{objs:List (Option Ob)}{ctr B:Nat}(pR : ∀ (k:Nat) (o:Ob),objs[k]? = some (some o)->Rob h I β objs ctr k o)
  (hB : ∀ k x,β k=some x->B<=x.1) {ds:List D} {res:D} {vs:List Value} (ho:outT (std P) objs ds res) (hl:vs.length=ds.length)
  (hv : ∀ (t:Nat) (d:D),ds[t]? = some d->∃ y,vs[t]? = some y/\Rd h I β objs ctr d y) :
  ∃ I':IS,I.le I'/\((∀ b,I' b->I b\/Blocks β b)/\∀ b,I'.l b->I.l b\/Blocks β b)/\Tf B h I' res (apU vs):=by
 match ds,vs,hl with
 | [],[],_=>
  refine⟨I,IS.le.refl _,⟨λ_ h=>.inl h,λ_ h=>.inl h⟩,?_⟩;cases res<;>simp[outT] at ho;subst ho;exact⟨_,rfl,rfl,λj hj=>by omega⟩
 | [d],[v],_=>
  obtain⟨y,hy,hr⟩:=hv 0 d bH;simp at hy;subst hy;have hplain:tO res=false->aX (std P) objs d res->∃ I':IS,I.le I'/\((∀ b,I' b->I b\/Blocks β b)/\∀ b,I'.l b->I.l b\/Blocks β b)/\Tf B h I' res v:=by
   intro hno ho1;refine⟨I.or (Blocks β),IS.CX _ _,⟨λ_ h=>h,λ_ h=>h⟩,?_⟩;have:=alf pR d res v ho1 hr;cases res<;>simp[tO] at hno<;>exact this
  cases res with
  | own sz' n' t' f'=>exact⟨I,IS.le.refl _,⟨λ_ h=>.inl h,λ_ h=>.inl h⟩,alg pR hB ho hr⟩
  | CB q k c sz' n' t' f'=>
   refine⟨I,IS.le.refl _,⟨λ_ h=>.inl h,λ_ h=>.inl h⟩,?_⟩;cases d with
   | agg k2 c2=>
    simp only[outT] at ho;split at ho
    . rename_i hk;simp only[ig] at hk;have hk1:=dO hk.1;subst hk1;have hk2:q<k2:=by
       have:=hk.2;simpa[Nat.blt_eq] using this
      obtain⟨ys,rfl,hs,hc⟩:=hr;obtain⟨z,z1,z2,z3⟩:=hc q hk2;refine⟨ys,rfl,hs,hk2,λj hj hne=>?_,z,z1,alg pR hB ho.1 z3⟩;obtain⟨y,y1,y2,y3⟩:=hc j hj;exact⟨y,y1,y2,zO _ _ _ (ajz ho.2 j hj ak) y3⟩
    exact ho.elim
   | _=>exact ho.elim
  | _=>exact hplain rfl ho
 | d1::d2::r,v1::v2::q,hl=>
  refine⟨I.or (Blocks β),IS.CX _ _,⟨λ_ h=>h,λ_ h=>h⟩,?_⟩;cases res with
  | jO k c=>
   simp only[outT] at ho;split at ho
   . rename_i hk;have hk:=dO hk;subst hk;refine⟨_,rfl,?_,λj hj=>?_⟩
     . simp at hl ⊢;omega
     obtain⟨d,hd⟩ : ∃ d,(d1::d2::r)[j]? = some d:=⟨_,iW (by simpa using hj)⟩
     obtain⟨y,y1,y2⟩:=hv j d hd;exact⟨y,by simpa using y1,alf pR _ _ _ (agN ho hd) y2⟩
   exact ho.elim
  | _=>simp[outT] at ho
def door(args:List D)(nt:Nat)(ctr:Nat):St:=⟨args++List.replicate (nt-args.length) .junk,List.replicate nt none,ctr⟩
theorem aqE{tt:TT}(hT:jG P tt){f:FuncId}{fn:Func}{c:Code}{args:List D}{res:D}(hf:P.funcs[f]? = some fn) (hn:(fn.name == "runtime.NumGoroutine")=false) (hb:fn.body=some c)
  (h : ∀ ctr,0<ctr->Tr P c (YL (std P) tt fn.results.toList res) (door args fn.ntmps ctr)):d9 P f args res:=by
 refine⟨⟨fn,hf,hn,by rw[hb];rfl⟩,λw I ctr vs hpos hI wJ hlen hargs=>?_⟩;refine calls_of_wp hf hb ?_;have hRS:RS w.heap.size w.heap I ⟨λ_=>none,w.os,w.output⟩ (door args fn.ntmps ctr) { tmps:=vs.toArray++Array.replicate (fn.ntmps-vs.toArray.size) undef,defers:=[] } w:=by
  have hnone : ∀ (k:Nat) (o:Ob),(List.replicate fn.ntmps (none:Option Ob))[k]? = some (some o)->False:=by
   intro k o hk;rw[aeC] at hk;split at hk<;>cases hk
  have G:Goes w.heap I (λ_=>none) [] ctr w.heap I (λ_=>none) (List.replicate fn.ntmps none) ctr:=by
   refine⟨λ_ h=>h,λ_ _=>rfl,λ_ h=>h,λid g hg=>?_,λid g _ o' ho' _ _=>(hnone id o' ho').elim⟩;rcases hg with h|⟨_,o,ho,_⟩
   . exact .inl h
   simp at ho
  refine⟨I,λ_=>none,?_,?_,rfl,λk o hk=>(hnone k o hk).elim,λk x hk=>(by cases hk),λk k' x x' _ hk=>(by cases hk),λk x hk=>(by cases hk),
   IS.le.refl _,⟨λb hb=>⟨hI b hb,.inl hb⟩,λb hb=>.inl hb⟩,λ_ _ _=>rfl,iR _,hpos,λk o hk=>(hnone k o hk).elim,⟨rfl,rfl⟩,wJ⟩
  . simp[door,hlen]
  intro t d ht;simp only[door] at ht;rcases mK t args.length with hlt|hge
  . rw[sj hlt] at ht;obtain⟨y,y1,y2⟩:=hargs t d ht;refine⟨y,?_,Rd.mono G _ _ y2⟩;rw[Xp (by simpa[hlen] using hlt)];simpa using y1
  rw[uZ hge,aeC] at ht;split at ht
  . rename_i hlt;cases ht;refine⟨undef,?_,trivial⟩;rw[Array.getElem?_append_right (by simpa[hlen] using hge)];simp only[QI,hlen,Array.getElem?_replicate];rw[if_pos hlt]
  cases ht
 refine h ctr hpos w.heap.size w.heap I ⟨λ_=>none,w.os,w.output⟩ _ w _ hRS λex st' a' w' q R=>?_;have hfin : ∀ ds os,wG (std P) tt st'.objs st'.slots fn.results.toList=some (ds,os)->conj (std P) os (outT (std P) st'.objs ds res) ->
   a'.defers=[]/\∃ v,(results fn a'.tmps).run P w' = .ok v w'/\(∃ v' I',Ending.returned v = .returned v'/\I.le I'/\I.New w.heap.size I' w'.heap.size /\
    (∀ b,b<w.heap.size->w'.heap[b]? = w.heap[b]?)/\w.heap.size<=w'.heap.size/\j3 w w'/\Tf w.heap.size w'.heap I' res v'):=by
  intro ds os hres hc;obtain⟨h1,h2⟩:=xX hc;obtain⟨J,β,R⟩:=R;obtain⟨vs',r1,r2,r3⟩:=aeB hT R hres h1;have hB : ∀ k x,β k=some x->w.heap.size<=x.1:=λk x hk=>(R.own k x hk).elim id (λ⟨_,_,h,_⟩=>by cases h);obtain⟨I',i1,i2,i3⟩:=asr R.ob hB h2 r2 r3;refine⟨R.defers,_,r1,_,I',rfl,R.old.trans i1,⟨λb hb=>?_,λb hb=>?_⟩,λb hb=>R.frame b hb (λ⟨_,_,h,_⟩=>by cases h),R.size,R.wo,i3⟩
  . rcases i2.1 b hb with h|⟨k,x,hk,rfl⟩
    . obtain⟨l1,l2⟩:=R.lt.1 b h;exact⟨l1,l2.imp id λh=>h.elim id λ⟨_,_,h,_⟩=>by cases h⟩
    exact⟨R.lS hk,.inr (hB k x hk)⟩
  rcases i2.2 b hb with h|⟨k,x,hk,rfl⟩
  . exact(R.lt.2 b h).imp id λh=>h.elim id λ⟨_,_,h,_⟩=>by cases h
  exact .inr (hB k x hk)
 cases ex with
 | normal=>
  simp only[YL] at q;split at q
  . rename_i ds os hres;exact hfin ds os hres q
  exact q.elim
 | ret=>
  simp only[YL] at q;split at q
  . rename_i ds os hres;exact hfin ds os hres q
  exact q.elim
 | _=>exact q.elim
inductive KM where
 | top
 | at (id:Nat) (off:Int)
 | nil
def nk:List KM->Nat->KM
 | [],_=>.nil
 | x::_,0=>x
 | _::r,k+1=>nk r k
def AZ:List KM->Nat->List Nat
 | [],_=>[]
 | .top::r,k=>k::AZ r (k+1)
 | .at id _::r,k=>id::AZ r (k+1)
 | .nil::r,k=>AZ r (k+1)
def aaN(p:Pr)(objs:List (Option Ob))(km:List KM)(post:List Ob):D->D->Prop
 | d,.vec k g' sz' o' n'=>match nk km k with
  | .at id off=>match d with
   | .vec id' g sz o n=>match objs[id]? with
    | some (some ob)=>match post[k]? with
     | some (.arr _ _ N _ _)=>if Nat.beq id id'&&Nat.beq sz sz'&&Nat.beq g' 1 then p.lU g ob.gen/\p.uf o off/\p.uf o' 0/\p.uf n n'/\p.uf n' N else False
     | _=>False
    | _=>False
   | _=>False
  | .nil=>match d with
   | .dX=>if Nat.beq g' 1 then p.uf o' 0/\p.uf n' 0 else False
   | _=>False
  | .top=>False
 | d,d'=>cK p d d'
def acS(p:Pr)(objs:List (Option Ob))(km:List KM)(post:List Ob):List D->List D->Prop
 | [],[]=>True
 | d::r,d'::r'=>aaN p objs km post d d'/\acS p objs km post r r'
 | _,_=>False
def Tn(p:Pr)(objs:List (Option Ob))(km:List KM)(post:List Ob)(k:Nat):Ob->Prop
 | .box g' cs'=>match nk km k,objs[k]? with
  | .top,some (some (.box g cs))=>p.lU g 0/\p.lU g' 0/\acS p objs km post cs cs'
  | _,_=>False
 | .arr g' sz' n' t' f'=>match nk km k with
  | .top=>match objs[k]? with
   | some (some (.arr g sz n t f))=>if Nat.beq sz sz' then p.lU g 0/\p.lU g' 0/\p.uf n n'/\p.XP t t'/\p.all2 n sz (λi j=>cK p (f i j) (f' i j)) else False
   | _=>False
  | .at id off=>match objs[id]? with
   | some (some (.arr _ sz n _ f))=>if Nat.beq sz sz'&&Nat.beq g' 1 then p.XP t' false/\p.cut off (p.add off n') n/\p.all2 n' sz (λi j=>cK p (f (p.add off i) j) (f' i j)) else False
   | _=>False
  | .nil=>if Nat.beq g' 1 then p.XP t' false/\p.uf n' 0 else False
 | .dead g'=>match nk km k with
  | .nil=>if Nat.beq g' 1 then True else False
  | _=>False
 | _=>False
def ajA(p:Pr)(objs:List (Option Ob))(km:List KM)(post:List Ob):Nat->List Ob->Prop
 | _,[]=>True
 | k,q::r=>Tn p objs km post k q/\ajA p objs km post (k+1) r
def Ld(p:Pr)(objs:List (Option Ob))(km:List KM)(post:List Ob):Prop:=ZT (AZ km 0)=true/\Nat.beq km.length post.length=true/\ajA p objs km post 0 post
def Qz(p:Pr):List D->D->Prop
 | [],.jO k _=>if Nat.beq k 0 then True else False
 | [d],d'=>cK p d d'
 | [a,b],.jO k c=>if Nat.beq k 2 then cK p a (c 0)/\cK p b (c 1) else False
 | _,_=>False
def LB(p:Pr)(tt:TT)(rs:List ResultVar)(post:List Ob)(res:D):Exit->St->Prop
 | .normal,st=>match wG p tt st.objs st.slots rs with
  | some (ds,os)=>conj p os (Qz p ds res/\∃ km,Ld p st.objs km post)
  | none=>False
 | .ret,st=>match wG p tt st.objs st.slots rs with
  | some (ds,os)=>conj p os (Qz p ds res/\∃ km,Ld p st.objs km post)
  | none=>False
 | _,_=>False
theorem agO : ∀ {km:List KM} {b:Nat},(AZ km b).Nodup->(∀ k id,(nk km k = .top/\k<km.length/\id=b+k\/∃ o,nk km k = .at id o)->id∈AZ km b) /\
  ∀ k k' id,k≠k'->(nk km k = .top/\k<km.length/\id=b+k\/∃ o,nk km k = .at id o)->¬ (nk km k' = .top/\k'<km.length/\id=b+k'\/∃ o,nk km k' = .at id o)
 | [],b,_=>⟨λk id h=>by rcases h with⟨_,h,_⟩|⟨o,h⟩<;>simp[nk] at h,λk k' id _ h=>by rcases h with⟨_,h,_⟩|⟨o,h⟩<;>simp[nk] at h⟩
 | x::r,b,hn=>by
  have hsub:(AZ r (b+1)).Nodup:=by
   cases x<;>simp only[AZ,List.nodup_cons] at hn<;>first|exact hn.2|exact hn
  obtain⟨h1,h2⟩:=agO (km:=r) (b:=b+1) hsub;have hsh : ∀ (k id:Nat),(nk (x::r) (k+1) = .top/\k+1<(x::r).length/\id=b+(k+1)\/∃ o,nk (x::r) (k+1) = .at id o)->(nk r k = .top/\k<r.length/\id=b+1+k\/∃ o,nk r k = .at id o):=by
   intro k id h;rcases h with⟨a1,a2,a3⟩|h
   . exact .inl ⟨a1,by simpa using a2,ak⟩
   exact .inr h
  have hz : ∀ id,(nk (x::r) 0 = .top/\0<(x::r).length/\id=b+0\/∃ o,nk (x::r) 0 = .at id o)->id∈AZ (x::r) b/\id∉AZ r (b+1):=by
   intro id h;rcases h with⟨a1,_,a3⟩|⟨o,a1⟩
   . simp only[nk] at a1;subst a1;simp only[AZ,List.nodup_cons] at hn;have:id=b:=ak;subst this;exact⟨iO ..,hn.1⟩
   simp only[nk] at a1;subst a1;simp only[AZ,List.nodup_cons] at hn;exact⟨iO ..,hn.1⟩
  have hin : ∀ id,id∈AZ r (b+1)->id∈AZ (x::r) b:=by
   intro id h;cases x<;>simp only[AZ]<;>first|exact gU _ h|exact h
  refine⟨λk id h=>?_,λk k' id hne h h'=>?_⟩
  . cases k with
    | zero=>exact(hz id h).1
    | succ k=>exact hin id (h1 k id (hsh k id h))
  cases k with
  | zero=>
   cases k' with
   | zero=>exact hne rfl
   | succ k'=>exact(hz id h).2 (h1 k' id (hsh k' id h'))
  | succ k=>
   cases k' with
   | zero=>exact(hz id h').2 (h1 k id (hsh k id h))
   | succ k'=>exact h2 k k' id ak (hsh k id h) (hsh k' id h')
theorem aeD{objs:List (Option Ob)}{km:List KM}{po:List Ob} : ∀ {post:List Ob} {b:Nat},ajA (std P) objs km po b post->∀ (k:Nat) (q:Ob),post[k]? = some q->Tn (std P) objs km po (b+k) q
 | [],_,_,k,q,hk=>by simp at hk
 | x::r,b,h,k,q,hk=>by
  cases k with
  | zero=>simp only[lq,aW] at hk;subst hk;exact h.1
  | succ k=>
   have:=aeD h.2 k q (by simpa using hk)
   rwa [show b+1+k=b+(k+1) by omega] at this
theorem ZU{objs:List (Option Ob)}{km:List KM}{po:List Ob} : ∀ {cs cs':List D},acS (std P) objs km po cs cs'->cs'.length=cs.length/\∀ (j:Nat) (d':D),cs'[j]? = some d'->∃ d,cs[j]? = some d/\aaN (std P) objs km po d d'
 | [],[],_=>⟨rfl,λj d h=>by simp at h⟩
 | [],_::_,h=>h.elim
 | _::_,[],h=>h.elim
 | d::r,d'::r',h=>by
  obtain⟨h1,h2⟩:=ZU h.2;refine⟨by simp[h1],λj x hj=>?_⟩;cases j with
  | zero=>simp only[lq,aW] at hj;subst hj;exact⟨d,rfl,h.1⟩
  | succ j=>simpa using h2 j x (by simpa using hj)
def ady(args:List D)(pre:List Ob)(nt:Nat)(ctr:Nat):St:=⟨args++List.replicate (nt-args.length) .junk,pre.map some++List.replicate nt none,ctr⟩
theorem asu{h:Array Obj}{I:IS}{β:Nat->Option (Nat×Nat×Array Value)}{objs:List (Option Ob)}{ctr B:Nat}{ds:List D}{res:D}{vs:List Value}(ho:Qz (std P) ds res)(hl:vs.length=ds.length)
  (hv : ∀ (t:Nat) (d:D),ds[t]? = some d->∃ y,vs[t]? = some y/\Rd h I β objs ctr d y):Tf B h I res (apU vs):=by
 match ds,vs,hl with
 | [],[],_=>
  cases res<;>simp[Qz] at ho;subst ho;exact⟨_,rfl,rfl,λj hj=>by omega⟩
 | [d],[v],_=>
  obtain⟨y,hy,hr⟩:=hv 0 d bH;simp at hy;subst hy;have:=zO d res _ (show cK (std P) d res from ho) hr;cases res<;>first|exact this|exact this.elim
 | [d1,d2],[v1,v2],_=>
  obtain⟨y1,hy1,hr1⟩:=hv 0 d1 bH;obtain⟨y2,hy2,hr2⟩:=hv 1 d2 bH;simp at hy1 hy2;subst hy1;subst hy2;cases res with
  | jO k c=>
   simp only[Qz] at ho;split at ho
   . rename_i hk;have hk:=dO hk;subst hk;refine⟨_,rfl,rfl,λj hj=>?_⟩
     match j,hj with
     | 0,_=>exact⟨v1,rfl,zO _ _ _ ho.1 hr1⟩
     | 1,_=>exact⟨v2,rfl,zO _ _ _ ho.2 hr2⟩
   exact ho.elim
  | _=>simp[Qz] at ho
 | _::_::_::_,_,_=>exact(by cases res<;>exact ho.elim)
theorem arV{tt:TT}(hT:jG P tt){f:FuncId}{fn:Func}{c:Code}{args:List D}{pre post:List Ob}{res:D}(hf:P.funcs[f]? = some fn) (hn:(fn.name == "runtime.NumGoroutine")=false) (hb:fn.body=some c) (hpl:post.length=pre.length)
  (h : ∀ ctr,0<ctr->Tr P c (LB (std P) tt fn.results.toList post res) (ady args pre fn.ntmps ctr)):lK P f args pre post res:=by
 refine⟨⟨fn,hf,hn,by rw[hb];rfl⟩,λw I ctr vs β hpos hI wJ hlen hargs dP hdom hdist=>?_⟩;refine calls_of_wp hf hb ?_;have amL : ∀ (k:Nat) (o:Ob),(pre.map some++List.replicate fn.ntmps (none:Option Ob))[k]? = some (some o)->pre[k]? = some o:=by
  intro k o hk;rcases mK k pre.length with hlt|hge
  . rw[sj (by simpa using hlt),qJ] at hk;cases hp:pre[k]? with
    | none=>rw[hp] at hk;cases hk
    | some o'=>rw[hp] at hk;simp only[iP,aW] at hk;rw[hk]
  rw[uZ (by simpa using hge),aeC] at hk;split at hk<;>cases hk
 have aq6 : ∀ (k:Nat) (o:Ob),pre[k]? = some o->(pre.map some++List.replicate fn.ntmps (none:Option Ob))[k]? = some (some o):=by
  intro k o hk;have hlt:=(gZ.1 hk).1;rw[sj (by simpa using hlt),qJ,hk];rfl
 have hpre : ∀ (k:Nat) (o:Ob),(pre.map some)[k]? = some (some o)->pre[k]? = some o:=by
  intro k o hk;rw[qJ] at hk;cases hp:pre[k]? with
  | none=>rw[hp] at hk;cases hk
  | some o'=>rw[hp] at hk;simp only[iP,aW] at hk;rw[hk]
 have G:Goes w.heap I β (pre.map some) ctr w.heap I β (pre.map some++List.replicate fn.ntmps none) ctr:=by
  refine⟨λ_ h=>h,λ_ _=>rfl,λ_ h=>h,λid g hg=>?_,λid g _ o' ho' _ _=>⟨o',by rw[qJ,amL id o' ho'];rfl,Ob.qX _,rfl⟩⟩;rcases hg with h|⟨h,o,ho,hgo⟩
  . exact .inl h
  exact .inr ⟨h,o,aq6 _ _ (hpre _ _ ho),hgo⟩
 have azp : ∀ (k:Nat) (o:Ob),pre[k]? = some o->Rob w.heap I β (pre.map some++List.replicate fn.ntmps none) ctr k o:=λk o hk=>Rob.mono G (λ_ _ _ hI=>⟨rfl,hI⟩) rfl (dP k o hk).2;have hblk : ∀ k x,β k=some x->x.1<w.heap.size/\¬ I x.1:=by
  intro k x hk;obtain⟨o,ho⟩:=hdom k x hk;have hr:=(dP k o ho).2;cases o with
  | box g cs=>obtain⟨_,b',o',s',c,e,h1,h2,_,h4,_⟩:=hr;rw[hk] at h1;cases h1;exact⟨(yY.1 h2).1,h4⟩
  | arr g sz n t f=>
   obtain⟨_,_,hx⟩:=hr;rcases hx with⟨_,h2⟩|⟨b',o',s',c,e,h1,h2,_,h4,_⟩
   . rw[hk] at h2;cases h2
   rw[hk] at h1;cases h1;exact⟨(yY.1 h2).1,h4⟩
  | iter g s pos=>obtain⟨_,_,b',o',z',h1,h2,h3⟩:=hr;rw[hk] at h1;cases h1;exact⟨(yY.1 h2).1,h3⟩
  | dead g=>exact absurd (hk.symm.trans hr.2) bH
 have hRS:RS w.heap.size w.heap I ⟨β,w.os,w.output⟩ (ady args pre fn.ntmps ctr) { tmps:=vs.toArray++Array.replicate (fn.ntmps-vs.toArray.size) undef,defers:=[] } w:=by
  refine⟨I,β,?_,?_,rfl,λk o hk=>azp k o (amL k o hk),λk x hk=>?_,hdist,λk x hk=>.inr ⟨k,x,hk,rfl⟩,
   IS.le.refl _,⟨λb hb=>⟨hI b hb,.inl hb⟩,λb hb=>.inl hb⟩,λ_ _ _=>rfl,iR _,hpos,λk o hk _ _=>rfl,⟨rfl,rfl⟩,wJ⟩
  . simp[ady,hlen]
  . intro t d ht;simp only[ady] at ht;rcases mK t args.length with hlt|hge
    . rw[sj hlt] at ht;obtain⟨y,y1,y2⟩:=hargs t d ht;refine⟨y,?_,Rd.mono G _ _ y2⟩;rw[Xp (by simpa[hlen] using hlt)];simpa using y1
    rw[uZ hge,aeC] at ht;split at ht
    . rename_i hlt;cases ht;refine⟨undef,?_,trivial⟩;rw[Array.getElem?_append_right (by simpa[hlen] using hge)];simp only[QI,hlen,Array.getElem?_replicate];rw[if_pos hlt]
    cases ht
  obtain⟨o,ho⟩:=hdom k x hk;exact⟨o,aq6 k o ho⟩
 refine h ctr hpos w.heap.size w.heap I ⟨β,w.os,w.output⟩ _ w _ hRS λex st' a' w' q R=>?_;have hfin : ∀ ds os,wG (std P) tt st'.objs st'.slots fn.results.toList=some (ds,os)->conj (std P) os (Qz (std P) ds res/\∃ km,Ld (std P) st'.objs km post) ->
   a'.defers=[]/\∃ v,(results fn a'.tmps).run P w' = .ok v w'/\(∃ v' I' c' β',Ending.returned v = .returned v'/\I.le I'/\((∀ b,I' b->b<w'.heap.size/\(I b\/w.heap.size<=b\/∃ k x,β k=some x/\x.1=b))/\∀ b,I'.l b->I.l b\/w.heap.size<=b\/∃ k x,β k=some x/\x.1=b) /\
    (∀ b,b<w.heap.size->(∀ k x,β k=some x->x.1≠b)->w'.heap[b]? = w.heap[b]?)/\w.heap.size<=w'.heap.size/\j3 w w' /\
    (∀ (k:Nat) (o:Ob),post[k]? = some o->Rob w'.heap I' β' (post.map some) c' k o/\(o.gen=0->β' k=β k)) /\
    (∀ k k' x x',k≠k'->β' k=some x->β' k'=some x'->x.1≠x'.1) /\
    (∀ k x,β' k=some x->(∃ o,post[k]? = some o)/\((∃ k' x',β k'=some x'/\x'.1=x.1)\/w.heap.size<=x.1))/\Tf w.heap.size w'.heap I' res v'):=by
  intro ds os hres hc;obtain⟨h1,h2,km,hnd,hkl,hend⟩:=xX hc;obtain⟨J,βc,R⟩:=R;obtain⟨vs',r1,r2,r3⟩:=aeB hT R hres h1;have hkl:=dO hkl;obtain⟨_,azq⟩:=agO (Xq hnd);have dP : ∀ (k:Nat) (q:Ob),post[k]? = some q->Tn (std P) st'.objs km post k q:=λk q hk=>by
   have:=aeD hend k q hk
   rwa [LW] at this
  let afY:Nat->Nat:=λk=>match post[k]? with
   | some (.arr _ sz _ _ _)=>sz
   | _=>0
  let Ya:Nat->Option (Nat×Nat×Array Value):=λk=>if k<post.length then match nk km k with
    | .top=>βc k
    | .at id off=>match βc id with
     | some (b,o,s)=>some (b,o+off.toNat*afY k,s)
     | none=>none
    | .nil=>none
   else none
  have ajB : ∀ k,k<post.length->nk km k = .top->Ya k=βc k:=λk h1 h2=>by simp only[Ya,if_pos h1,h2]
  have amM : ∀ k id off,k<post.length->nk km k = .at id off->(βc id=none->Ya k=none)/\∀ b o s,βc id=some (b,o,s)->Ya k=some (b,o+off.toNat*afY k,s):=λk id off h1 h2=>by
   refine⟨λh=>?_,λb o s h=>?_⟩<;>simp only[Ya,if_pos h1,h2,h]
  have ajC : ∀ k,nk km k = .nil->Ya k=none:=λk h=>by
   simp only[Ya,h];split<;>rfl
  have hsrc : ∀ k x,Ya k=some x->k<post.length/\∃ id x0,(nk km k = .top/\k<km.length/\id=0+k\/∃ o,nk km k = .at id o)/\βc id=some x0/\x0.1=x.1:=by
   intro k x hk;have hlt:k<post.length:=by
    rcases mK k post.length with h|h
    . exact h
    simp only[Ya,if_neg (show ¬ k<post.length by omega)] at hk;cases hk
   refine⟨hlt,?_⟩;cases hm:nk km k with
   | top=>exact⟨k,x,.inl ⟨rfl,ak,ak⟩,(ajB k hlt hm).symm.trans hk,rfl⟩
   | «at» id off=>
    obtain⟨a1,a2⟩:=amM k id off hlt hm;cases hb:βc id with
    | none=>rw[a1 hb] at hk;cases hk
    | some z=>
     obtain⟨b,o,s⟩:=z;rw[a2 b o s hb] at hk;cases hk;exact⟨id,_,.inr ⟨off,rfl⟩,hb,rfl⟩
   | nil=>rw[ajC k hm] at hk;cases hk
  have hcell : ∀ (d d':D) (z:Value),aaN (std P) st'.objs km post d d'->Rd w'.heap J βc st'.objs st'.ctr d z->Rd w'.heap J Ya (post.map some) (st'.ctr+2) d' z:=by
   intro d d' z hc hz
   by_cases hv : ∃ k g' sz' o' n',d' = .vec k g' sz' o' n'
   . obtain⟨k,g',sz',o',n',rfl⟩:=hv;simp only[aaN] at hc;split at hc
     . rename_i id off hm;split at hc
       . rename_i id' g sz o n;split at hc
         . rename_i ob au5;split at hc
           . rename_i gN szN N tN fN hpk;split at hc
             . rename_i hck;simp only[ig] at hck;have e1:=dO hck.1.1;have e2:=dO hck.1.2;have e3:=dO hck.2;subst e1;subst e2;subst e3;obtain⟨f1,f2,f3,f4,f5⟩:=hc;have f1:g=ob.gen:=f1;have f2:o=off:=f2;have f3:o'=0:=f3;have f4:n=n':=f4;have f5:n'=N:=f5;subst f2;subst f3;subst f4;subst f5;have hlt:k<post.length:=(gZ.1 hpk).1;have hbe:=dP k _ hpk;simp only[Tn,hm] at hbe;split at hbe
               . rename_i g1 Vo n1 t1 fn1 au6;rw[au5] at au6;cases au6;split at hbe
                 . rename_i apV;simp only[ig] at apV;have e4:=dO apV.1;have e5:=dO apV.2;subst e4;subst e5;obtain⟨b1,b2,b3⟩:=hbe;obtain⟨_,⟨a0,l0,c0,s1,s2,s3,s4⟩,hvx⟩:=hz;refine⟨.inl ak,⟨_,_,_,s1,s2,s3,s4⟩,λN' t' f' hpo=>?_⟩;rw[qJ,hpk] at hpo;simp only[iP,aW,Ob.arr.injEq] at hpo;obtain⟨_,q1,q2,q3,_⟩:=hpo;subst q1;subst q2;subst q3;have f1:g=g1:=f1;subst f1;obtain⟨o1,o2,o3,ad,len,cap,v0,v1,v2,v3,v4⟩:=hvx _ _ _ au5;refine⟨nL _,o2,ak,ad,len,cap,v0,v1,v2,(λh=>?_),λhp=>?_⟩
                   . have b1:tN=false:=b1;rw[b1] at h;cases h
                   obtain⟨b,p,s,hb,x1,x2⟩:=v4 hp;have hs:afY k=Vo:=by simp only[afY,hpk]
                   refine⟨b,_,s,(amM k _ _ hlt hm).2 b p s hb,?_,?_⟩
                   . rw[x1,hs];simp
                   rw[hs];simp;omega
                 exact hbe.elim
               exact hbe.elim
             exact hc.elim
           exact hc.elim
         exact hc.elim
       exact hc.elim
     . rename_i hm;split at hc
       . split at hc
         . rename_i hg;have e3:=dO hg;subst e3;obtain⟨f1,f2⟩:=hc;have f1:o'=0:=f1;have f2:n'=0:=f2;subst f1;subst f2;cases hz;refine⟨.inl ak,⟨none,0,0,rfl,rfl,iR _,λh=>by omega⟩,λN t f hpo=>?_⟩;rw[qJ] at hpo;cases hpk:post[k]? with
           | none=>rw[hpk] at hpo;cases hpo
           | some q=>
            rw[hpk] at hpo;simp only[iP,aW] at hpo;subst hpo;have hbe:=dP k _ hpk;simp only[Tn,hm] at hbe;have hbe:t=false/\N=0:=hbe;obtain⟨b1,b2⟩:=hbe;subst b1;subst b2;exact⟨nL _,nL _,ak,none,0,0,rfl,rfl,iR _,(λh=>by cases h),λh=>by omega⟩
         exact hc.elim
       exact hc.elim
     exact hc.elim
   have hc:cK (std P) d d':=by
    cases d'<;>first|exact hc|exact absurd ⟨_,_,_,_,_,rfl⟩ hv
   exact Rd.mono (Goes.back _ _ _ _ _) _ _ (zO _ _ _ hc hz)
  have hback : ∀ d' y,Rd w'.heap J (λ_=>none) [] 0 d' y->Rd w'.heap J Ya (post.map some) (st'.ctr+2) d' y:=λd' y hy=>Rd.mono (Goes.back _ _ _ _ _) _ _ hy;refine⟨R.defers,_,r1,_,J,st'.ctr+2,Ya,rfl,R.old,⟨λb hb=>?_,λb hb=>R.lt.2 b hb⟩,λb hb hn=>R.frame b hb (λ⟨k,x,hk,he⟩=>hn k x hk he),R.size,R.wo,λk q hk=>?_,λk k' x x' hne hk hk'=>?_,λk x hk=>?_,asu h2 r2 r3⟩
  . obtain⟨l1,l2⟩:=R.lt.1 b hb;exact⟨l1,l2⟩
  . have hlt:k<post.length:=(gZ.1 hk).1;have hbe:=dP k q hk;cases q with
    | box g' cs'=>
     simp only[Tn] at hbe;split at hbe
     . rename_i g cs hm e1;obtain⟨f1,f2,f3⟩:=hbe;have f1:g=0:=f1;have f2:g'=0:=f2;subst f1;subst f2;obtain⟨hl,hg⟩:=ZU f3;obtain⟨_,b,o,s,c,e,x1,x2,x3,x4,x5,x6⟩:=R.ob k _ e1;have hbp:=ajB k hlt hm;refine⟨⟨Nat.zero_le _,b,o,s,c,e,hbp.trans x1,x2,by rw[hl];exact x3,x4,by rw[hl];exact x5,λj d' hj=>?_⟩,λ_=>hbp.trans (R.stay k _ e1 rfl trivial)⟩;obtain⟨d,d1,d2⟩:=hg j d' hj;obtain⟨z,z1,z2,z3⟩:=x6 j d d1;exact⟨z,z1,z2,hcell _ _ _ d2 z3⟩
     exact hbe.elim
    | arr g' sz' n' t' f'=>
     simp only[Tn] at hbe;split at hbe
     . rename_i hm;split at hbe
       . rename_i g sz n t f e1;split at hbe
         . rename_i hck;have e2:=dO hck;subst e2;obtain⟨f1,f2,f3,f4,f5⟩:=hbe;have f1:g=0:=f1;have f2:g'=0:=f2;have f3:n=n':=f3;have f4:t=t':=f4;subst f1;subst f2;subst f3;subst f4;have hbp:=ajB k hlt hm;obtain⟨_,hn0,hx⟩:=R.ob k _ e1;refine⟨⟨Nat.zero_le _,hn0,?_⟩,λ_=>hbp.trans (R.stay k _ e1 rfl trivial)⟩;rcases hx with⟨x1,x2⟩|⟨b,o,s,c,e,x1,x2,x3,x4,x5,x6⟩
           . exact .inl ⟨x1,hbp.trans x2⟩
           refine .inr ⟨b,o,s,c,e,hbp.trans x1,x2,x3,x4,x5,λi hi j hj=>?_⟩;obtain⟨z,z1,z2,z3⟩:=x6 i hi j hj;exact⟨z,z1,z2,hback _ _ (zO _ _ _ (f5 i ak hi j hj) z3)⟩
         exact hbe.elim
       exact hbe.elim
     . rename_i id off hm;split at hbe
       . rename_i g sz n t f e1;split at hbe
         . rename_i hck;simp only[ig] at hck;have e2:=dO hck.1;have e3:=dO hck.2;subst e2;subst e3;obtain⟨f1,⟨f2,f3,f4⟩,f5⟩:=hbe;have f1:t'=false:=f1;subst f1;have f2:0<=off:=f2;have f3:off<=off+n':=f3;have f4:off+n'<=n:=f4;have hs:afY k=sz:=by simp only[afY,hk]
           obtain⟨a1,a2⟩:=amM k id off hlt hm;obtain⟨_,hn0,hx⟩:=R.ob id _ e1;refine⟨⟨ak,ak,?_⟩,λh=>by simp[Ob.gen] at h⟩;rcases hx with⟨x1,x2⟩|⟨b,o,s,c,e,x1,x2,x3,x4,x5,x6⟩
           . exact .inl ⟨ak,a1 x2⟩
           have hmul:off.toNat*sz+n'.toNat*sz<=n.toNat*sz:=by
            rw[← kr];exact oq _ ak
           refine .inr ⟨b,_,s,c,e,a2 b o s x1,x2,x3,x4,by rw[hs];omega,λi hi j hj=>?_⟩;obtain⟨z,z1,z2,z3⟩:=x6 (off.toNat+i) ak j hj;refine⟨z,by rw[← z1,hs];congr 1;rw[kr];omega,z2,?_⟩;have e5:((off.toNat+i:Nat):Int)=off+(i:Int):=ak;rw[e5] at z3;exact hback _ _ (zO _ _ _ (f5 i ak hi j hj) z3)
         exact hbe.elim
       exact hbe.elim
     rename_i hm;split at hbe
     . rename_i hck;have e3:=dO hck;subst e3;obtain⟨f1,f2⟩:=hbe;have f2:n'=0:=f2;subst f2;exact⟨⟨ak,nL _,.inl ⟨rfl,ajC k hm⟩⟩,λh=>by simp[Ob.gen] at h⟩
     exact hbe.elim
    | iter g s i=>exact hbe.elim
    | dead g'=>
     simp only[Tn] at hbe;split at hbe
     . rename_i hm;split at hbe
       . rename_i hck;have e3:=dO hck;subst e3;exact⟨⟨ak,ajC k hm⟩,λh=>by simp[Ob.gen] at h⟩
       exact hbe.elim
     exact hbe.elim
  . obtain⟨_,id,y,a1,a2,a3⟩:=hsrc k x hk;obtain⟨_,id',y',c1,c2,c3⟩:=hsrc k' x' hk';rw[← a3,← c3];refine R.dist id id' y y' (λe=>?_) a2 c2;subst e;exact azq k k' id hne a1 c1
  obtain⟨hlt,id,y,a1,a2,a3⟩:=hsrc k x hk;refine⟨⟨_,iW hlt⟩,?_⟩;rw[← a3];rcases R.own id y a2 with h|⟨k',x',h1',azr⟩
  . exact .inr h
  exact .inl ⟨k',x',h1',azr⟩
 cases ex with
 | normal=>
  simp only[LB] at q;split at q
  . rename_i ds os hres;exact hfin ds os hres q
  exact q.elim
 | ret=>
  simp only[LB] at q;split at q
  . rename_i ds os hres;exact hfin ds os hres q
  exact q.elim
 | _=>exact q.elim
end
end Go.Vx
end
