/- Each step of the evaluator is a step of the Go model: calls; the whole. -/
import Derived.Laws.Build
import Derived.Laws.Cover3
import Derived.Test.YtmpgicplgjmjkaaGreatDoorVxOps6a
import Derived.Laws.IdiomStrings
set_option linter.all false
namespace Go.Vx
section
variable {P:Program} {tt:TT} {B0:Nat} {h0:Array Obj} {I0 I:IS} {L:wU} {β:Nat->Option (Nat×Nat×Array Value)} {slots:List D} {objs:List (Option Ob)} {ctr:Nat} {a:Act} {w:World}
theorem LY(ctr:Nat) : ∀ (objs pre:List (Option Ob)) (k:Nat),(bX (pre++objs) (zP ctr objs pre.length))[k]? = if k<pre.length then pre[k]? else (objs[k-pre.length]?).map (λo=>o.map λ_=>Ob.dead ctr)
 | [],pre,k=>by
  simp only[zP,bX,List.append_nil];split
  . rfl
  rename_i h;rw[OC ak];simp
 | none::r,pre,k=>by
  simp only[zP];have:=LY ctr r (pre++[none]) k;rw[aan,CP] at this;have this:(bX (pre++none::r) (zP ctr r (pre.length+1)))[k]? = if k<pre.length+1 then (pre++[none])[k]? else (r[k-(pre.length+1)]?).map (λo=>o.map λ_=>Ob.dead ctr):=this
  rw[this]
  by_cases h:k<pre.length
  . rw[if_pos h,if_pos ak,sj h]
  rw[if_neg h]
  by_cases h2:k=pre.length
  . subst h2;rw[if_pos ak];simp
  rw[if_neg ak,show k-pre.length=(k-(pre.length+1))+1 by omega,rZ]
 | some o::r,pre,k=>by
  simp only[zP,bX];have e:(pre++some o::r).set pre.length (some (Ob.dead ctr))=(pre++[some (Ob.dead ctr)])++r:=bH;rw[e];have:=LY ctr r (pre++[some (Ob.dead ctr)]) k;rw[aan] at this;have this:(bX (pre++[some (Ob.dead ctr)]++r) (zP ctr r (pre.length+1)))[k]? = if k<pre.length+1 then (pre++[some (Ob.dead ctr)])[k]? else (r[k-(pre.length+1)]?).map (λo=>o.map λ_=>Ob.dead ctr):=this
  rw[this]
  by_cases h:k<pre.length
  . rw[if_pos h,if_pos ak,sj h]
  rw[if_neg h]
  by_cases h2:k=pre.length
  . subst h2;rw[if_pos ak];simp
  rw[if_neg ak,show k-pre.length=(k-(pre.length+1))+1 by omega,rZ]
theorem aeI{ctr:Nat}{objs:List (Option Ob)}{k:Nat}{o:Ob}(h:(bX objs (zP ctr objs 0))[k]? = some (some o)):o = .dead ctr:=by
 have:=LY ctr objs [] k;simp only[List.nil_append,List.length_nil] at this;rw[this,if_neg ak] at h;cases hk:objs[k-0]? with
 | none=>rw[hk] at h;cases h
 | some x=>
  rw[hk] at h;cases x with
  | none=>cases h
  | some y=>simpa using h.symm
theorem akx{ctr:Nat}{objs:List (Option Ob)}{k:Nat}{o:Ob}(h:objs[k]? = some (some o)):(bX objs (zP ctr objs 0))[k]? = some (some (.dead ctr)):=by
 have:=LY ctr objs [] k;simp only[List.nil_append,List.length_nil] at this;rw[this,if_neg ak,Nat.sub_zero,h];rfl
theorem asy(R:RM B0 h0 I0 L I β slots objs ctr a w){args va:List D}{vs:List Value}(hs:ajt objs args va)(hlen:vs.length=args.length)
  (hargs : ∀ (t:Nat) (d:D),args[t]? = some d->∃ y,vs[t]? = some y/\Rd w.heap I β objs ctr d y) :
  va.length=args.length/\∀ (t:Nat) (d:D),va[t]? = some d->∃ y,vs[t]? = some y/\Rd w.heap (I.see (Blocks β)) (λ_=>none) [] (ctr+1) d y:=by
 have key : ∀ (args va:List D),ajt objs args va->va.length=args.length/\∀ (t:Nat) (d':D),va[t]? = some d'->∃ d,args[t]? = some d/\kG objs d d':=by
  intro args
  induction args with
  | nil=>intro va h;cases va with
   | nil=>exact⟨rfl,λt d' h=>by simp at h⟩
   | cons=>exact h.elim
  | cons x r ih=>intro va h;cases va with
   | nil=>exact h.elim
   | cons x' r'=>
    obtain⟨h1,h2⟩:=ih r' h.2;refine⟨by simp[h1],λt d' ht=>?_⟩;cases t with
    | zero=>simp at ht;subst ht;exact⟨x,rfl,h.1⟩
    | succ t=>exact h2 t d' (by simpa using ht)
 obtain⟨h1,h2⟩:=key args va hs;refine⟨h1,λt d' ht=>?_⟩;obtain⟨d,hd,hsd⟩:=h2 t d' ht;obtain⟨y,y1,y2⟩:=hargs t d hd;exact⟨y,y1,hsd _ _ _ _ R.ob y y2⟩
theorem aln(R:RM B0 h0 I0 L I β slots objs ctr a w){dB:zU}{key:Nat}{o:Oper}{f:FuncId}{args:List D}{vs:List Value}{os:List bC}{d:D}{up:List (Nat×Option Ob)}{os':List bC}
  (he:EJ (std P) dB objs ctr key f args os=some (d,up,os')) (hos : ∀ q∈os',q.run (std P))
  (hlen:vs.length=args.length) (hargs : ∀ (t:Nat) (d:D),args[t]? = some d->∃ y,vs[t]? = some y/\Rd w.heap I β objs ctr d y)
  {K:Act->World->Prop} {Q:Exit->Act->World->Prop} (hrun:(execOp a.eval o).run P w=(callFunc f vs.toArray).run P w)
  (hK : ∀ y w',Post B0 h0 I0 L I β objs ctr w (bX objs up) w' d y->K (a.put o.dst y) w'):o.wp P a w K Q:=by
 have hgo:aiN P f->Calls P f vs.toArray w (λe w'=>∃ v,e = .returned v/\Post B0 h0 I0 L I β objs ctr w (bX objs up) w' d v)->o.wp P a w K Q:=by
  rintro⟨fn,hf,hn,hb⟩ hc;unfold Oper.wp;have hcf:(callFunc f vs.toArray).run P w = .ok (.enter f vs.toArray) w:=by
   simp only[callFunc,Sem.run_bind,run_program,Result.andThen_ok,hf,hn,hb,oL,if_false,Sem.run_pure]
  rw[hrun,hcf];show Calls P f vs.toArray w _;refine hc.mono ?_;rintro e w' ⟨v,rfl,hp⟩;exact hK v w' hp
 have hbare : ∀ (t:Nat) (d:D),args[t]? = some d->∃ y,vs[t]? = some y/\Rd w.heap I (λ_=>none) [] (ctr+1) d y:=λt d' ht=>by
  obtain⟨y,y1,y2⟩:=hargs t d' ht;exact⟨y,y1,Rd.mono (Goes.bare _ _ _ _ _) _ _ y2⟩
 unfold EJ at he;split at he
 . split at he
   . rename_i d0 hfn;split at he
     . cases he
     rename_i hno;simp only[aW,bM] at he;obtain⟨rfl,rfl,rfl⟩:=he;have hp:d9 P f args d0\/Ar P f args d0:=hos _ (dR _ (fQ.2 rfl));rcases hp with hp|hp
     . refine hgo hp.1 ((hp.2 w I (ctr+1) vs ak (λb hb=>(R.lt.1 b hb).1) R.CF hlen hbare).mono ?_);rintro e w' ⟨v,I',rfl,h1,h2,h3,h4,hwo,h5⟩;exact⟨v,rfl,EN R h1 h2 h3 h4 hwo (by simpa using hno) h5⟩
     obtain⟨v,hv,h5⟩:=hp w I (ctr+1) vs hlen hbare;unfold Oper.wp;rw[hrun,hv];exact hK v w (EN R (IS.le.refl _) (R.lt.same (iR _)) (λ_ _=>rfl) (iR _) (j3.refl _) (by simpa using hno) (show Tf _ _ _ d0 v by cases d0<;>first|exact h5|exact h5.elim))
   cases he
 . split at he
   . rename_i sz n tight g hfn;obtain⟨hk,rfl,rfl,rfl⟩:=OE he;have hp:d9 P f args (.own sz n tight g)\/Ar P f args (.own sz n tight g):=hos _ (dR _ (fQ.2 rfl));rcases hp with hp|hp
     . refine hgo hp.1 ((hp.2 w I (ctr+1) vs ak (λb hb=>(R.lt.1 b hb).1) R.CF hlen hbare).mono ?_);rintro e w' ⟨v,I',rfl,h1,h2,h3,h4,hwo,h5⟩;exact⟨v,rfl,ajN R h1 h2 h3 h4 hwo hk h5⟩
     obtain⟨v,hv,h5⟩:=hp w I (ctr+1) vs hlen hbare;exact h5.elim
   . rename_i q k c sz n tight g hfn;obtain⟨hk,rfl,rfl,rfl⟩:=OE he;have hp:d9 P f args (.CB q k c sz n tight g)\/Ar P f args (.CB q k c sz n tight g):=hos _ (dR _ (fQ.2 rfl));rcases hp with hp|hp
     . refine hgo hp.1 ((hp.2 w I (ctr+1) vs ak (λb hb=>(R.lt.1 b hb).1) R.CF hlen hbare).mono ?_);rintro e w' ⟨v,I',rfl,h1,h2,h3,h4,hwo,h5⟩;exact⟨v,rfl,aoz R h1 h2 h3 h4 hwo hk h5⟩
     obtain⟨v,hv,h5⟩:=hp w I (ctr+1) vs hlen hbare;exact h5.elim
   cases he
 . split at he
   . rename_i post d0 hfn;split at he
     . rename_i r hl;split at he
       . cases he
       rename_i hno;simp only[aW,bM] at he;obtain⟨rfl,rfl,rfl⟩:=he;have hp:lK P f r.args r.pre post d0:=hos _ (dR _ (fQ.2 rfl));exact hgo hp.1 (asz R hl (by simpa using hno) (λq hq=>hos q (by simp[hq])) hp hlen hargs)
     cases he
   cases he
 . split at he
   . rename_i d0 hfn;split at he
     . cases he
     rename_i hno;simp only[aW,bM] at he;obtain⟨rfl,rfl,rfl⟩:=he;have hp:VY P objs f args d0:=hos _ (dR _ (fQ.2 rfl));obtain⟨va,azv,hp,azw⟩:=hp;obtain⟨v1,v2⟩:=asy R azv hlen hargs;have hbk : ∀ b,(I b\/Blocks β b)->b<w.heap.size:=λb hb=>by
      rcases hb with hb|⟨k,x,hk,rfl⟩
      . exact(R.lt.1 b hb).1
      exact R.lS hk
     refine hgo hp.1 ((hp.2 w (I.see (Blocks β)) (ctr+1) vs ak hbk (R.CF.mono (λ_ h=>Or.inl h) (λ_ _=>rfl)) ak v2).mono ?_);rintro e w' ⟨v,I',rfl,h1,h2,h3,h4,hwo,h5⟩;have hno':tO d0=false:=by simpa using hno
     have h5:=ZW hno' h5;refine⟨v,rfl,EN R (I':=⟨λb=>I b\/I'.l b,I'.l,λb h=>.inr h⟩) ⟨λb hb=>.inl hb,λb hb=>h1.2 b hb⟩ ⟨λb hb=>?_,λb hb=>h2.2 b hb⟩ h3 h4 hwo hno' ?_⟩
     . rcases hb with hb|hb
       . exact⟨Ef (R.lt.1 b hb).1 h4,.inl hb⟩
       exact⟨(h2.1 b (I'.sub b hb)).1,(h2.2 b hb).imp (I.sub b) id⟩
     have h6:=azw _ I' ⟨λb=>I b\/I'.l b,I'.l,λb h=>.inr h⟩ _ (λ_ h=>h) h5;cases d0<;>first|exact h6|simp[tO] at hno'
   cases he
 . split at he
   . cases he
   rename_i va vos aaT;split at he
   . rename_i d0 hfn;split at he
     . cases he
     rename_i hno;simp only[aW,bM] at he;obtain⟨rfl,rfl,rfl⟩:=he;have hp:d9 P f va d0:=hos (.PE f va d0) bH;obtain⟨v1,v2⟩:=Vs R aaT (λq hq=>hos q (by simp[hq])) hlen hargs;have hbk : ∀ b,(I b\/Blocks β b)->b<w.heap.size:=λb hb=>by
      rcases hb with hb|⟨k,x,hk,rfl⟩
      . exact(R.lt.1 b hb).1
      exact R.lS hk
     refine hgo hp.1 ((hp.2 w _ (ctr+1) vs ak hbk (R.CF.mono (λ_ h=>Or.inl h) (λ_ _=>rfl)) ak v2).mono ?_);rintro e w' ⟨v,I',rfl,h1,h2,h3,h4,hwo,h5⟩;have h5:Rd w'.heap I' (λ_=>none) [] 0 d0 v:=by
      have hno':tO d0=false:=by simpa using hno
      cases d0<;>first|exact h5|simp[tO] at hno'
     refine⟨v,rfl,⟨I',λ_=>none,⟨λb hb=>h1.1 b (Or.inl hb),λb hb=>h3 b (hbk b (.inl hb)),λb hb=>h1.2 b (Or.inl hb),λid g hg=>?_,λid g hg o' ho' hg' hl=>?_⟩,λk o ho=>?_,λk x hx=>(by cases hx),λk k' x x' _ hx _=>(by cases hx),λk x hx=>(by cases hx),⟨λb hb=>?_,λb hb=>?_⟩,λb hb hL=>?_,by have:=R.size;omega,hwo,?_⟩⟩
     . rcases hg with hg|⟨rfl,o,ho,ho2⟩
       . exact .inl hg
       exact .inr ⟨rfl,_,akx ho,rfl⟩
     . rw[aeI ho'] at hl;exact hl.elim
     . rw[aeI ho];exact⟨iR _,rfl⟩
     . obtain⟨q1,q2⟩:=h2.1 b hb;refine⟨q1,?_⟩;rcases q2 with(q2|⟨k,x,hk,rfl⟩)|q2
       . exact(R.lt.1 b q2).2
       . exact .inr (R.own k x hk)
       exact .inr (.inl (QL R.size q2))
     . rcases h2.2 b hb with(q2|⟨k,x,hk,rfl⟩)|q2
       . exact R.lt.2 b q2
       . exact .inr (R.own k x hk)
       exact .inr (.inl (QL R.size q2))
     . rw[h3 b (Ef hb R.size)];exact R.frame b hb hL
     exact Rd.mono (Goes.back _ _ _ _ _) _ _ h5
   cases he
 . split at he
   . cases he
   rename_i va vos aaT;split at he
   . rename_i d0 hfn;split at he
     . cases he
     rename_i hno;simp only[aW,bM] at he;obtain⟨rfl,rfl,rfl⟩:=he;have hp:d9 P f va d0:=hos (.PE f va d0) bH;have hfl:flat (std P) d0:=hos (.flat d0) bH;obtain⟨v1,v2⟩:=Vs R aaT (λq hq=>hos q (by simp[hq])) hlen hargs;refine hgo hp.1 ((hp.2 w _ (ctr+1) vs ak (λb hb=>?_) (R.CF.mono (λ_ h=>Or.inl h) (λ_ _=>rfl)) ak v2).mono ?_)
     . rcases hb with hb|⟨k,x,hk,rfl⟩
       . exact(R.lt.1 b hb).1
       exact R.lS hk
     rintro e w' ⟨v,I',rfl,h1,h2,h3,h4,hwo,h5⟩;exact⟨v,rfl,EN R (I':=I) (IS.le.refl _) (R.lt.same h4) h3 h4 hwo (by simpa using hno) (acT (λb hb=>(R.lt.1 b hb).1) hfl h5)⟩
   cases he
 split at he
 . cases he
 rename_i va vos aaT;split at he
 . rename_i d0 hfn;split at he
   . cases he
   rename_i hno;simp only[aW,bM] at he;obtain⟨rfl,rfl,rfl⟩:=he;have hp:d9 P f va d0:=hos (.PE f va d0) bH;have hfl:flat (std P) d0:=hos (.flat d0) bH;obtain⟨v1,v2⟩:=Vs R aaT (λq hq=>hos q (by simp[hq])) hlen hargs;refine hgo hp.1 ((hp.2 w _ (ctr+1) vs ak (λb hb=>?_) (R.CF.mono (λ_ h=>Or.inl h) (λ_ _=>rfl)) ak v2).mono ?_)
   . rcases hb with hb|⟨k,x,hk,rfl⟩
     . exact(R.lt.1 b hb).1
     exact R.lS hk
   rintro e w' ⟨v,I',rfl,h1,h2,h3,h4,hwo,h5⟩;exact⟨v,rfl,EN R (I':=I) (IS.le.refl _) (R.lt.same h4) h3 h4 hwo (by simpa using hno) (acT (λb hb=>(R.lt.1 b hb).1) hfl h5)⟩
 . rename_i sz n tight g hfn;obtain⟨hk,rfl,rfl,rfl⟩:=OE he;have hp:d9 P f va (.own sz n tight g):=hos (.PE f va (.own sz n tight g)) bH;have hfl:flat (std P) (.own sz n tight g):=hos (.flat (.own sz n tight g)) bH;obtain⟨v1,v2⟩:=Vs R aaT (λq hq=>hos q (by simp[hq])) hlen hargs;refine hgo hp.1 ((hp.2 w _ (ctr+1) vs ak (λb hb=>?_) (R.CF.mono (λ_ h=>Or.inl h) (λ_ _=>rfl)) ak v2).mono ?_)
   . rcases hb with hb|⟨k,x,hk,rfl⟩
     . exact(R.lt.1 b hb).1
     exact R.lS hk
   rintro e w' ⟨v,I',rfl,h1,h2,h3,h4,hwo,h5⟩;exact⟨v,rfl,ajN R (I':=I) (IS.le.refl _) (R.lt.same h4) h3 h4 hwo hk (acT (λb hb=>(R.lt.1 b hb).1) hfl h5)⟩
 cases he
theorem ap9(R:RM B0 h0 I0 L I β slots objs ctr a w){dB:zU}{key:Nat}{o:Oper}{f:FuncId}{args:List D}{vs:List Value}{os:List bC}{d:D}{up:List (Nat×Option Ob)}{os':List bC}
  (he:aej (std P) dB key f args os=some (d,up,os')) (hos : ∀ q∈os',q.run (std P))
  (hlen:vs.length=args.length) (hargs : ∀ (t:Nat) (d:D),args[t]? = some d->∃ y,vs[t]? = some y/\Rd w.heap I β objs ctr d y)
  {K:Act->World->Prop} {Q:Exit->Act->World->Prop} (hrun:(execOp a.eval o).run P w=(callFunc f vs.toArray).run P w)
  (hK : ∀ y w',Post B0 h0 I0 L I β objs ctr w (bX objs up) w' d y->K (a.put o.dst y) w'):o.wp P a w K Q:=by
 have hgo:aiN P f->Calls P f vs.toArray w (λe w'=>∃ v,e = .returned v/\Post B0 h0 I0 L I β objs ctr w (bX objs up) w' d v)->o.wp P a w K Q:=by
  rintro⟨fn,hf,hn,hb⟩ hc;unfold Oper.wp;have hcf:(callFunc f vs.toArray).run P w = .ok (.enter f vs.toArray) w:=by
   simp only[callFunc,Sem.run_bind,run_program,Result.andThen_ok,hf,hn,hb,oL,if_false,Sem.run_pure]
  rw[hrun,hcf];show Calls P f vs.toArray w _;refine hc.mono ?_;rintro e w' ⟨v,rfl,hp⟩;exact hK v w' hp
 have hbare : ∀ (t:Nat) (d:D),args[t]? = some d->∃ y,vs[t]? = some y/\Rd w.heap I (λ_=>none) [] (ctr+1) d y:=λt d' ht=>by
  obtain⟨y,y1,y2⟩:=hargs t d' ht;exact⟨y,y1,Rd.mono (Goes.bare _ _ _ _ _) _ _ y2⟩
 unfold aej at he;split at he
 . rename_i d0 hfn;split at he
   . cases he
   rename_i hno;simp only[aW,bM] at he;obtain⟨rfl,rfl,rfl⟩:=he;have hp:d9 P f args d0:=hos _ (dR _ (fQ.2 rfl));refine hgo hp.1 ((hp.2 w I (ctr+1) vs ak (λb hb=>(R.lt.1 b hb).1) R.CF hlen hbare).mono ?_);rintro e w' ⟨v,I',rfl,h1,h2,h3,h4,hwo,h5⟩;exact⟨v,rfl,EN R h1 h2 h3 h4 hwo (by simpa using hno) h5⟩
 cases he
theorem aqa(R:RM B0 h0 I0 L I β slots objs ctr a w){dB:zU}{key:Nat}{o:Oper}{x:Operand}{f:FuncId}{args:List D}{vs:List Value}{os:List bC}{d:D}{up:List (Nat×Option Ob)}{os':List bC}
  (he:EL (std P) dB objs ctr key x f args os=some (d,up,os')) (hos : ∀ q∈os',q.run (std P))
  (hlen:vs.length=args.length) (hargs : ∀ (t:Nat) (d:D),args[t]? = some d->∃ y,vs[t]? = some y/\Rd w.heap I β objs ctr d y)
  {K:Act->World->Prop} {Q:Exit->Act->World->Prop} (hrun:(execOp a.eval o).run P w=(callFunc f vs.toArray).run P w)
  (hK : ∀ y w',Post B0 h0 I0 L I β objs ctr w (bX objs up) w' d y->K (a.put o.dst y) w'):o.wp P a w K Q:=by
 unfold EL at he;cases x with
 | tmp t=>
  simp only at he;split at he
  . exact ap9 R he hos hlen hargs hrun hK
  exact aln R he hos hlen hargs hrun hK
 | _=>exact aln R he hos hlen hargs hrun hK
theorem X5{α:Type}{c:Bool}{x:Option α}{y:α}(h:(if c=true then none else x)=some y):x=some y:=by
 cases c with
 | true=>cases h
 | false=>exact h
theorem aeJ{p:Pr}{dB:zU}{objs:List (Option Ob)}{ctr key:Nat}{f:FuncId}{args:List D}{os:List bC}{d:D}{up:List (Nat×Option Ob)}{os':List bC}
  (he:EJ p dB objs ctr key f args os=some (d,up,os')) (q:bC) (hq:q∈os) (hos : ∀ q∈os',q.run (std P)):q.run (std P):=by
 unfold EJ at he;repeat' split at he
 all_goals first
  | (cases he;done)
  | (simp only[aW,bM] at he;obtain⟨_,_,rfl⟩:=he;exact hos q (by simp[hq]))
  | (obtain⟨_,_,_,rfl⟩:=OE he;exact hos q (by simp[hq]))
theorem amW{p:Pr}{dB:zU}{objs:List (Option Ob)}{ctr key:Nat}{x:Operand}{f:FuncId}{args:List D}{os:List bC}{d:D}{up:List (Nat×Option Ob)}{os':List bC}
  (he:EL p dB objs ctr key x f args os=some (d,up,os')) (q:bC) (hq:q∈os) (hos : ∀ q∈os',q.run (std P)):q.run (std P):=by
 unfold EL at he;cases x with
 | tmp t=>
  simp only at he;split at he
  . unfold aej at he;split at he
    . split at he
      . cases he
      simp only[aW,bM] at he;obtain⟨_,_,rfl⟩:=he;exact hos q (dW _ hq)
    cases he
  exact aeJ he q hq hos
 | _=>exact aeJ he q hq hos
theorem dM{o:Oper}{K:Act->World->Prop}{Q:Exit->Act->World->Prop}{y:Value}{w':World}(h:(execOp a.eval o).run P w = .ok (.value y) w')(hk:K (a.put o.dst y) w'):o.wp P a w K Q:=by
 unfold Oper.wp;rw[h];exact hk
theorem ajP{o:Oper}{K:Act->World->Prop}{Q:Exit->Act->World->Prop}{w':World}(h:(execOp a.eval o).run P w = .ok .skip w')(hk:K (a.put o.dst undef) w'):o.wp P a w K Q:=by
 unfold Oper.wp;rw[h];exact hk
theorem lQ{os:List bC}{r:Option Y}{d:D}{u:List (Nat×Option Ob)}{os':List bC}(h:MW os r=some (d,u,os')) : ∃ os2,r=some (d,u,os2)/\os'=os++os2:=by
 unfold MW at h;cases r with
 | none=>cases h
 | some x=>
  obtain⟨d',u',os2⟩:=x;simp only[iP,aW,bM] at h;obtain⟨rfl,rfl,rfl⟩:=h;exact⟨os2,rfl,rfl⟩
theorem Ll{g:Option (Nat×Bool)}{d0:D}{r:Option Y}{d:D}{u:List (Nat×Option Ob)}{os:List bC}(h:orG g d0 r=some (d,u,os)):r=some (d,u,os)\/bC.prop False∈os:=by
 unfold orG at h;split at h
 . exact .inl h
 split at h
 . simp only[aW,bM] at h;obtain⟨_,_,rfl⟩:=h;exact .inr (fQ.2 rfl)
 cases h
theorem aaJ{g:Option (Nat×Bool)}{d0:D}{r:Option Y}{d:D}{u:List (Nat×Option Ob)}{os:List bC}(h:orG g d0 r=some (d,u,os)):r=some (d,u,os)\/u=[]:=by
 unfold orG at h;split at h
 . exact .inl h
 split at h
 . simp only[aW,bM] at h;exact .inr h.2.1.symm
 cases h
theorem uE{r:Option (D×List bC)}{d:D}{u:List (Nat×Option Ob)}{os:List bC}(h:val r=some (d,u,os)):r=some (d,os)/\u=[]:=by
 unfold val at h;cases r with
 | none=>cases h
 | some x=>
  obtain⟨d',os2⟩:=x;simp only[iP,aW,bM] at h;obtain⟨rfl,rfl,rfl⟩:=h;exact⟨rfl,rfl⟩
theorem xW{objs:List (Option Ob)}{key:Nat}{d d':D}{o:Ob}{os os':List bC}{u:List (Nat×Option Ob)}(h:zN objs key d o os=some (d',u,os')) :
  objs[key]? = some none/\d'=d/\u=[(key,some o)]/\os'=os:=by
 unfold zN at h;split at h
 . rename_i hk;simp only[aW,bM] at h;exact⟨hk,h.1.symm,h.2.1.symm,h.2.2.symm⟩
 cases h
theorem XA(hT:jG P tt){t:TypeId}{ti:TI}(ht:iB tt t=some ti){z:List D}(hz:aaU ti=some z){h:Array Obj} :
  ∃ i v,P.info? t=some i/\i.zero=some v/\i.size=ti.size/\i.bytes=ti.bytes/\z.length=ti.size/\v.cells.size=ti.size/\Cells (Rd h I β objs ctr) z v.cells:=by
 unfold aaU at hz;split at hz
 . rename_i zs hzs;split at hz
   . rename_i hc;simp only[ig] at hc;have hl:=dO hc.1;cases hz;obtain⟨i,v,h1,h2,h3,h4,h5,h6⟩:=agR hT ht hzs hl;refine⟨i,v,h1,h4,h2,h3,by simp[hl],h5,?_⟩;have:=amU (h:=h) (I:=I) (β:=β) (objs:=objs) (ctr:=ctr) hc.2;rw[← h6] at this ⊢;simpa using this
   cases hz
 cases hz
theorem ajQ(hT:jG P tt){t:TypeId}{k:IntKind}(h:aaV tt t=some k):P.underlying t=some (.int k)/\(zeroValue t).run P w = .ok (.int k 0) w:=by
 unfold aaV at h;split at h
 . rename_i ti ht;split at h
   . rename_i k1 k2 hk hz;split at h
     . rename_i hkk;simp only[ig,decide_eq_true_eq] at hkk;obtain⟨hkk,hpl⟩:=hkk;subst hkk;simp only[aW] at h;subst h;refine⟨xY hT ht hk,?_⟩;obtain⟨i,d,h1,h2,h3,h4,h5,h6,h7⟩:=hT.get ht;rw[hz] at h6;cases hzz:i.zero with
       | none=>rw[hzz] at h6;cases h6
       | some v=>
        rw[hzz] at h6;simp only[iP,aW] at h6;have hd:d = .int k1:=by
         have:=xY hT ht hk;rw[h2] at this;cases this;rfl
        have hna:=hT.plain ht h1;rw[hpl,hzz] at hna;have hv:v = .int k1 0:=by
         cases v<;>simp[Value.cells,ajx] at h6 hna<;>simp_all
        subst hv;simp[zeroValue,typeInfo,h1,hzz]
     cases h
   cases h
 cases h
theorem agT(kk kv:IntKind)(ix:Int) : ∀ (c:List MapEntry) (es:List (Int×Int)) (n:Nat),c.map (λe=>(e.key,e.val))=es.map (λx=>(Value.int kk x.1,Value.int kv x.2)) ->
  (Instr.findNow (.int kk) (.int kk ix) c n=some none/\Ou es ix=0)\/∃ m,Instr.findNow (.int kk) (.int kk ix) c n=some (some (m,.int kv (Ou es ix)))
 | [],[],n,_=>.inl ⟨rfl,rfl⟩
 | [],_::_,n,h=>by cases h
 | _::_,[],n,h=>by cases h
 | e::c,x::es,n,h=>by
  simp only[EI,List.cons.injEq,bM] at h;obtain⟨⟨h1,h2⟩,h3⟩:=h;simp only[Instr.findNow,h1,Instr.sameNow,if_true,Ou]
  by_cases hx:ix=x.1
  . rw[if_pos hx];have:(ix==x.1)=true:=by simpa using hx
    rw[this];exact .inr ⟨n,by rw[h2]⟩
  rw[if_neg hx];have:(ix==x.1)=false:=by simpa using hx
  rw[this];exact agT kk kv ix c es (n+1) h3
theorem amX(hT:jG P tt){t k e:TypeId}{ti:TI}{kk kv:IntKind}(ht:iB tt t=some ti)(hk:ti.kind = .map k e)(hkk:aaV tt k=some kk)(hkv:aaV tt e=some kv){r:Nat}{c:Array MapEntry}{cl:Nat}{es:List (Int×Int)}
  (h2:w.heap[r]? = some (.map c cl)) (h3:c.toList.map (λe=>(e.key,e.val))=es.map (λx=>(Value.int kk x.1,Value.int kv x.2))) (ix:Int) :
  (Instr.lookup t (.map (some r)) (.int kk ix) false).run P w = .ok (.int kv (Ou es ix)) w:=by
 have hu:=aoq hT ht hk;obtain⟨u1,_⟩:=ajQ (w:=w) hT hkk;obtain⟨_,u2⟩:=ajQ (w:=w) hT hkv;have hg:(getObj r).run P w = .ok (.map c cl) w:=MapKept.run_getObj_map h2;have hck : ∀ b,(Instr.checkKey b (9999+1) k (.int kk ix)).run P w = .ok () w:=by
  intro b;unfold Instr.checkKey;simp only[Sem.run_bind,run_underlying u1,Result.andThen_ok,Sem.run_pure]
 have hck : ∀ b,(Instr.checkKey b 10000 k (.int kk ix)).run P w = .ok () w:=hck;rcases agT kk kv ix c.toList es 0 h3 with⟨f1,f2⟩|⟨m,f1⟩
 . simp[Instr.lookup,run_underlying hu,hg,hck,Instr.findKey,run_underlying u1,f1,u2,f2]
 simp[Instr.lookup,run_underlying hu,hg,hck,Instr.findKey,run_underlying u1,f1]
theorem asA(R:RM B0 h0 I0 L I β slots objs ctr a w){x:Operand}{dst:Option Tmp}{ty:TypeId}{pos':String}{after:Array Edge}{guard:Option (Nat×Bool)}{id g:Nat}{b:ByteArray}{pos:Int}
  (ho:objs[id]? = some (some (.iter g b pos))) (h1:Rd w.heap I β objs ctr (.Xy id g) (a.eval x)) {K:Act->World->Prop} {Q:Exit->Act->World->Prop}
  (hK : ∀ y w',Post B0 h0 I0 L I β objs ctr w (bX objs [(id,some (.iter g b ((std P).Xl ((std P).lt pos ((std P).zH b)) ((std P).add pos ((std P).afV b pos)) pos)))]) w' (.acU ((std P).lt pos ((std P).zH b)) pos ((std P).amC b pos)) y ->
   K (a.put dst y) w'):Oper.wp P ⟨dst,.next x true,ty,pos',after,guard⟩ a w K Q:=by
 obtain⟨hgo,hsh,hx⟩:=h1;obtain⟨bk,o,z,hb,hy⟩:=hx _ _ ho;obtain⟨hgc,hp0,b',o',z',q1,q2,q3⟩:=R.ob id _ ho;rw[hb] at q1;cases q1;have azx:bk<w.heap.size:=(yY.1 q2).1;have hg:(getObj bk).run P w = .ok (.stringIter b pos.toNat) w:=by simp[getObj,Sem.run,q2]
 have hset : ∀ o',(setObj bk o').run P w = .ok () { w with heap:=w.heap.setIfInBounds bk o' }:=by intro o';simp[setObj,Sem.run,q2]
 have hp:((pos.toNat:Nat):Int)=pos:=ak
 by_cases hlt:pos.toNat<b.size
 . have hlt':pos<(b.size:Int):=ak;have hnx:(Instr.next (.pointer (some ⟨bk,0,none⟩)) true ty).run P w = .ok (.tuple #[.bool true,.int .i64 pos,.int .i32 (aaw b pos)]) { w with heap:=w.heap.setIfInBounds bk (.stringIter b (pos.toNat+(Utf8.decode b pos.toNat).2)) }:=by
    unfold Instr.next
    simp only[Sem.run_bind,Sem.run_pure,Result.andThen_ok,hg,hlt,if_true,hset,goInt,hp,aaw]
   refine dM (y:=.tuple #[.bool true,.int .i64 pos,.int .i32 (aaw b pos)]) (w':={ w with heap:=w.heap.setIfInBounds bk (.stringIter b (pos.toNat+(Utf8.decode b pos.toNat).2)) }) (by simp[execOp,hy,hnx]) (hK _ _ ?_);have hsel:(std P).Xl ((std P).lt pos ((std P).zH b)) ((std P).add pos ((std P).afV b pos)) pos=pos+LG b pos:=by simp[std,hlt']
   have aqb:(std P).lt pos ((std P).zH b)=true:=by simp[std,hlt']
   rw[hsel,aqb];refine R.write ho ⟨rfl,rfl⟩ hb (λb' hb'=>?_) bH ⟨by unfold LG;omega,bk,o,z,rfl,?_⟩ (λ_=>⟨λ_=>rfl,λh=>Bool.noConfusion h⟩) ⟨rfl,rfl⟩
   . simp[Array.getElem?_setIfInBounds,Ne.symm hb']
   have:(pos+LG b pos).toNat=pos.toNat+(Utf8.decode b pos.toNat).2:=by unfold LG;omega
   rw[this];simp[Array.getElem?_setIfInBounds,azx]
 have hlt' : ¬ pos<(b.size:Int):=ak;have hnx:(Instr.next (.pointer (some ⟨bk,0,none⟩)) true ty).run P w = .ok (.tuple #[.bool false]) w:=by
  unfold Instr.next
  simp only[Sem.run_bind,Sem.run_pure,Result.andThen_ok,hg,hlt,if_false]
 refine dM (y:=.tuple #[.bool false]) (w':=w) (by simp[execOp,hy,hnx]) (hK _ _ ?_);have hsel:(std P).Xl ((std P).lt pos ((std P).zH b)) ((std P).add pos ((std P).afV b pos)) pos=pos:=by simp[std,hlt']
 have aqb:(std P).lt pos ((std P).zH b)=false:=by simp[std,hlt']
 rw[hsel,aqb];exact R.amH ho ⟨rfl,rfl⟩ (R.ob id _ ho) (λ_=>⟨λh=>Bool.noConfusion h,λ_=>rfl⟩)
theorem M7{t:TypeId}{ms}(hu:P.underlying t=some (.interface ms))(w:World):(Op.equal t .nilIface .nilIface).run P w = .ok true w:=by
 show(Op.equalIn (9999+1) t .nilIface .nilIface).run P w=_;unfold Op.equalIn;simp only[Sem.run_bind,run_underlying hu,Result.andThen_ok,Sem.run_pure]
theorem aoA(R:RM B0 h0 I0 L I β slots objs ctr a w){t e:TypeId}(hs:P.underlying t=some (.slice e))(he:P.underlying e=some (.int .u8)){id g:Nat}{off n N:Int}{tg:Bool}{f:Int->Nat->D}(dP:objs[id]? = some (some (.arr g 1 N tg f)))
  {y:Value} (hv:Rd w.heap I β objs ctr (.vec id g 1 off n) y) (hn:0<n) (hu : ∀ i:Int,0<=i->i<n->∀ j:Nat,j<1->ajR (f (off+i) 0)) :
  ∃ w',(convert t t y).run P w = .ok y w'/\Post B0 h0 I0 L I β objs ctr w (objs.set id (some (.dead ctr))) w' (.sl 1 n false λi j=>f (off+i) j) y:=by
 obtain⟨ad,len,cap,rfl,x1,x2,x3,x4⟩:=H6 hv dP (R.ob _ _ dP);have hl:0<len:=ak;obtain⟨b,o,c,e',s,y1,rfl,y2,y3,y4,y5⟩:=x4 ak;have hblt:b<w.heap.size:=(yY.1 y2).1;have aqc:id<objs.length:=(gZ.1 dP).1;have hsh:w.shape? b=some (e',c.size):=by unfold World.shape?;rw[y2]
 have hself:(w.freeze ⟨b,c.size,none⟩ 1).heap[b]? = some (.cells c e' (c.size,c.size+1)):=by
  unfold World.freeze;rw[if_neg qZ];show(w.heap.modify b _)[b]? = _;rw[Array.getElem?_modify,if_pos rfl,y2];rfl
 have hne : ∀ q,q≠b->(w.freeze ⟨b,c.size,none⟩ 1).heap[q]? = w.heap[q]?:=λq hq=>by
  unfold World.freeze;rw[if_neg qZ];show(w.heap.modify b _)[q]? = _;rw[Array.getElem?_modify,if_neg (λh=>hq h.symm)]
 have hsz:(w.freeze ⟨b,c.size,none⟩ 1).heap.size=w.heap.size:=by
  unfold World.freeze;rw[if_neg qZ];show(w.heap.modify b _).size=_;simp
 refine⟨w.freeze ⟨b,c.size,none⟩ 1,?_,I.or (λq=>q=b),λk=>if k=id then none else β k,?_⟩
 . simp[convert,run_underlying hs,run_underlying he,markStringish,hsh]
 have hset : ∀ k,k≠id->(objs.set id (some (.dead ctr)))[k]? = objs[k]?:=λk hk=>jR (Ne.symm hk);have hIb : ∀ q,I q->q≠b:=λq hq h=>y3 (h▸hq);have G:Goes w.heap I β objs ctr (w.freeze ⟨b,c.size,none⟩ 1).heap (I.or (λq=>q=b)) (λk=>if k=id then none else β k) (objs.set id (some (.dead ctr))) ctr:=by
  refine⟨λ_ h=>.inl h,λq hq=>hne q (hIb q hq),λ_ h=>.inl h,λk g2 hg=>?_,λk g2 hg o' ho' hgo hl=>?_⟩
  . rcases hg with h|⟨h,o2,h2,h3⟩
    . exact .inl h
    by_cases hk:k=id
    . subst hk;exact .inr ⟨h,_,jd aqc,h.symm⟩
    exact .inr ⟨h,o2,by rw[hset k hk];exact h2,h3⟩
  by_cases hk:k=id
  . subst hk;rw[jd aqc] at ho';cases ho';exact hl.elim
  rw[hset k hk] at ho';exact⟨o',ho',Ob.qX _,by simp[hk]⟩
 refine⟨G,λk o' hk=>?_,λk x hk=>?_,λk k' x x' hkk h1 h2=>?_,λk x hk=>?_,?_,λq hq hL=>?_,by rw[hsz];exact R.size,⟨?_,?_⟩,?_⟩
 . by_cases hki:k=id
   . subst hki;rw[jd aqc] at hk;cases hk;exact⟨iR _,bH⟩
   rw[hset k hki] at hk;refine Rob.mono G (λq x hx hI=>?_) (by simp[hki]) (R.ob k o' hk);have hqb:q≠b:=R.dist k id _ _ hki hx y1;exact⟨hne q hqb,λh=>h.elim hI hqb⟩
 . simp only at hk;split at hk
   . cases hk
   rename_i hki;rw[hset k hki];exact R.dom k x hk
 . simp only at h1 h2;split at h1
   . cases h1
   split at h2
   . cases h2
   exact R.dist k k' x x' hkk h1 h2
 . simp only at hk;split at hk
   . cases hk
   exact R.own k x hk
 . exact(R.lt.or (f:=λq=>q=b) λq hq=>by subst hq;exact⟨hblt,R.own id _ y1⟩).grow (by rw[hsz];exact iR _)
 . rw[hne q]
   . exact R.frame q hq hL
   intro h;subst h;rcases R.own id _ y1 with h|h
   . exact absurd hq (Nat.not_lt.2 h)
   exact hL h
 . unfold World.freeze;rw[if_neg qZ]
 . unfold World.freeze;rw[if_neg qZ]
 refine⟨_,len,cap,rfl,x1,x2,λh=>Bool.noConfusion h,λ_=>⟨b,o,c,e',_,rfl,.inr rfl,hself,λi hi j hj=>?_⟩⟩;obtain⟨z,z1,z2,z3⟩:=y5 i hi j hj;refine⟨z,z1,z2,?_⟩;obtain rfl:j=0:=ak;have hq:=hu i ak ak 0 ak;revert hq z3;show Rd _ _ _ _ _ (f (off+(i:Int)) 0) z->ajR (f (off+(i:Int)) 0)->Rd _ _ _ _ _ (f (off+(i:Int)) 0) z;generalize f (off+(i:Int)) 0=d;intro z3 hq
 match d,z3,hq with
 | .v (.int .u8 q),z3,_=>exact z3
theorem aeg(hT:jG P tt)(R:RM B0 h0 I0 L I β slots objs ctr a w){dB:zU}{key:Nat}{o:Oper}{d:D}{u:List (Nat×Option Ob)}{os:List bC}
  (he:kI (std P) tt dB key objs ctr (rd (std P) slots) o=some (d,u,os)) (hos : ∀ q∈os,q.run (std P))
  {K:Act->World->Prop} {Q:Exit->Act->World->Prop}
  (hK : ∀ y w',Post B0 h0 I0 L I β objs ctr w (bX objs u) w' d y->K (a.put o.dst y) w'):o.wp P a w K Q:=by
 have st : ∀ x:Operand,(∀ q∈(strip (std P) (rd (std P) slots x)).2,q.run (std P))->Rd w.heap I β objs ctr (strip (std P) (rd (std P) slots x)).1 (a.eval x):=λx hx=>Qv _ _ (R.eval x) hx;obtain⟨dst,op,ty,pos,after,guard⟩:=o;simp only[kI,Qq,KQ,Xc,KR,wE,Qr,KS,AU,KT,qE,wF,AV,GX,KU,Qs,Qt,zV,yI,KW,yJ,KX,yK,KY,DZ,FY] at he;cases op with
 | move x=>
  simp only[aW,bM] at he;obtain⟨rfl,rfl,rfl⟩:=he;exact dM (w':=w) rfl (hK _ _ (R.still (R.eval x)))
 | assign x=>
  simp only[aW,bM] at he;obtain⟨rfl,rfl,rfl⟩:=he;exact dM (w':=w) rfl (hK _ _ (R.still (R.eval x)))
 | pick c x y=>
  simp only at he;split at he
  . rename_i t b1 b2 e1 e2 e3;simp only[aW,bM] at he;obtain⟨rfl,rfl,rfl⟩:=he;have h1:=st c (λq hq=>hos q (dW _ (dW _ hq)));rw[e1] at h1;have h1:a.eval c = .bool t:=h1;cases t with
    | true=>
     have h2:=st x (λq hq=>hos _ (dW _ (dR _ (Gs.2 ⟨q,hq,rfl⟩))) rfl);rw[e2] at h2;exact dM (y:=a.eval x) (w':=w) (by simp[execOp,h1,asBool]) (hK _ _ (R.still (show a.eval x=_ from h2)))
    | false=>
     have h2:=st y (λq hq=>hos _ (dR _ (Gs.2 ⟨q,hq,rfl⟩)) rfl);rw[e3] at h2;exact dM (y:=a.eval y) (w':=w) (by simp[execOp,h1,asBool]) (hK _ _ (R.still (show a.eval y=_ from h2)))
  cases he
 | alloc t=>
  simp only at he;split at he
  . rename_i ti ht;split at he
    . rename_i z hz;obtain⟨hk,rfl,rfl,rfl⟩:=xW he;obtain⟨i,v,h1,h2,h3,h4,h5,h6,h7⟩:=XA (h:=w.heap) (I:=I) (β:=β) (objs:=objs) (ctr:=ctr) hT ht hz;have hrun:(execOp a.eval ⟨dst,.alloc t,ty,pos,after,guard⟩).run P w = .ok (.value (.pointer (some ⟨w.heap.size,0,none⟩))) (w.alloc (.cells v.cells t)):=by simp[execOp,Instr.alloc,zeroValue,typeInfo,h1,h2,newVar,newRow]
      refine dM hrun (hK _ _ ?_);exact R.alloc rfl hk v.cells t _ rfl ⟨_,0,_,v.cells,t,rfl,bH,Beside.refl _ _ _,by rw[h7.1];omega,λj d hj=>by simpa using h7.2 j d hj⟩ (λh' β' nS G=>⟨.inr ⟨rfl,_,jd (gZ.1 hk).1,rfl⟩,⟨_,rfl⟩,λcs ho=>⟨_,_,_,nS,bH⟩⟩)
    cases he
  cases he
 | box t x=>
  simp only at he;split at he
  . rename_i ti ht;split at he
    . rename_i ds hds;obtain⟨hk,rfl,rfl,rfl⟩:=xW he;have h1:=st x hos;obtain⟨d1,d2,d3,d4,d5,d6⟩:=M5 hds h1;have hrun:(execOp a.eval ⟨dst,.box t x,ty,pos,after,guard⟩).run P w = .ok (.value (.pointer (some ⟨w.heap.size,0,none⟩))) (w.alloc (.cells (a.eval x).cells t)):=by simp[execOp,Instr.box,newVar,newRow]
      refine dM hrun (hK _ _ ?_);exact R.alloc rfl hk (a.eval x).cells t _ rfl ⟨_,0,_,(a.eval x).cells,t,rfl,bH,Beside.refl _ _ _,ak,λj d hj=>by simpa using d6 j d hj⟩ (λh' β' nS G=>⟨.inr ⟨rfl,_,jd (gZ.1 hk).1,rfl⟩,⟨_,rfl⟩,λcs ho=>⟨_,_,_,nS,bH⟩⟩)
    cases he
  cases he
 | build t parts=>
  simp only at he;have hparts : ∀ x∈parts.toList,(∀ q∈(parts.toList.map λx=>(strip (std P) (rd (std P) slots x.2)).2).flatten,q.run (std P))->Rd w.heap I β objs ctr (strip (std P) (rd (std P) slots x.2)).1 (a.eval x.2):=by
   intro x hx hq;exact st x.2 (λq hq2=>hq q (List.mem_flatten.2 ⟨_,Gs.2 ⟨x,hx,rfl⟩,hq2⟩))
  have hmap:(parts.map λ(x:Nat×Operand)=>(x.1,a.eval x.2)).toList=parts.toList.map λx=>(x.1,a.eval x.2):=bH;split at he
  . rename_i ti ht;split at he
    . rename_i z hz;obtain⟨i,v,h1,h2,h3,h4,h5,h6,h7⟩:=XA (h:=w.heap) (I:=I) (β:=β) (objs:=objs) (ctr:=ctr) hT ht hz;have hzr:(zeroValue t).run P w = .ok v w:=by simp[zeroValue,typeInfo,h1,h2]
      split at he
      . rename_i fs hk;obtain⟨gs,hu,hfs⟩:=QC hT ht hk;split at he
        . rename_i hall;split at he
          . rename_i cs TB;simp only[aW,bM] at he;obtain⟨rfl,rfl,rfl⟩:=he;obtain⟨vs',f1,f2⟩:=aaS (h:=w.heap) (I:=I) (β:=β) (objs:=objs) (ctr:=ctr) (λx=>(strip (std P) (rd (std P) slots x)).1) a.eval parts.toList (λx hx=>hparts x hx hos) z cs v.cells h7 TB;have asB:(gs.mapM (λf=>do pure (f.offset,← sizeOf f.type)):Sem (Array (Nat×Nat))).run P w = .ok (gs.map λf=>(f.offset,lG tt f.type)) w:=by
             refine ap8 _ _ gs λf hf=>?_;have hmem:(f.offset,f.type)∈fs:=by rw[hfs];exact Gs.2 ⟨f,by simpa using hf,rfl⟩
             have hsome:=aai.1 hall _ hmem;cases htf:iB tt f.type with
             | none=>simp[htf] at hsome
             | some tf=>simp only[Sem.run_bind,jr hT htf,Result.andThen_ok,Sem.run_pure,asn htf]
            have hsize:cs.length=ti.size:=by rw[TA _ _ _ TB,h5]
            have hpl:(λi:Nat=>(gs.map λf=>(f.offset,lG tt f.type))[i]?)=λi=>(fs[i]?).map λf=>(f.1,lG tt f.2):=by
             funext i;rw[hfs,qJ,Array.getElem?_map,Array.getElem?_toList,Option.map_map];rfl
            refine dM (y:=.agg vs') (w':=w) ?_ (hK _ _ (R.still ⟨vs',rfl,by rw[← f2.1,hsize],λj hj=>?_⟩))
            . have f1':Instr.fill (λi:Nat=>(gs.map λf=>(f.offset,lG tt f.type))[i]?) v.cells (parts.toList.map λx=>(x.1,a.eval x.2))=some vs':=by rw[hpl];exact f1
              simp only[execOp,Instr.build,Sem.run_bind,hzr,Result.andThen_ok,run_underlying hu,asB,hmap,f1',Sem.run_pure]
            obtain⟨x,x1,x2,x3⟩:=f2.2 j _ (iW (show j<cs.length by omega));exact⟨x,x1,x2,(show Rd w.heap I β objs ctr (cs.getD j .junk) x by rw[wI,iW (show j<cs.length by omega)];exact x3)⟩
          cases he
        cases he
      . rename_i n e hk;have hu:=F4 hT ht hk;split at he
        . rename_i te hte;split at he
          . rename_i cs TB;simp only[aW,bM] at he;obtain⟨rfl,rfl,rfl⟩:=he;obtain⟨vs',f1,f2⟩:=aaS (h:=w.heap) (I:=I) (β:=β) (objs:=objs) (ctr:=ctr) (λx=>(strip (std P) (rd (std P) slots x)).1) a.eval parts.toList (λx hx=>hparts x hx hos) z cs v.cells h7 TB;have hsize:cs.length=ti.size:=by rw[TA _ _ _ TB,h5]
            refine dM (y:=.agg vs') (w':=w) ?_ (hK _ _ (R.still ⟨vs',rfl,by rw[← f2.1,hsize],λj hj=>?_⟩))
            . simp only[execOp,Instr.build,Sem.run_bind,hzr,Result.andThen_ok,run_underlying hu,jr hT hte,hmap,f1,Sem.run_pure]
            obtain⟨x,x1,x2,x3⟩:=f2.2 j _ (iW (show j<cs.length by omega));exact⟨x,x1,x2,(show Rd w.heap I β objs ctr (cs.getD j .junk) x by rw[wI,iW (show j<cs.length by omega)];exact x3)⟩
          cases he
        cases he
      cases he
    cases he
  cases he
 | buildSlice t len parts=>
  simp only at he;split at he
  . rename_i ti ht;split at he
    . rename_i e hk;have hu:=jV hT ht hk;split at he
      . rename_i te hte;split at he
        . rename_i z hz;obtain⟨i,v,h1,h2,h3,h4,h5,h6,h7⟩:=XA (h:=w.heap) (I:=I) (β:=β) (objs:=objs) (ctr:=ctr) hT hte hz;split at he
          . rename_i cs TB;split at he
            . rename_i hle;have hle:=sw hle;have JA : ∀ q∈((parts.toList.map λx=>(strip (std P) (rd (std P) slots x.2)).2).flatten),q.run (std P):=by
               unfold afP at he;split at he
               . simp only[aW,bM] at he;obtain⟨_,_,rfl⟩:=he;exact hos
               obtain⟨_,_,_,rfl⟩:=xW he;exact hos
              have hparts : ∀ x∈parts.toList,Rd w.heap I β objs ctr (strip (std P) (rd (std P) slots x.2)).1 (a.eval x.2):=by
               intro x hx;exact st x.2 (λq hq2=>JA q (List.mem_flatten.2 ⟨_,Gs.2 ⟨x,hx,rfl⟩,hq2⟩))
              have hrep:=amV h7 len;rw[h5] at hrep;obtain⟨vs',f1,f2⟩:=aaS (h:=w.heap) (I:=I) (β:=β) (objs:=objs) (ctr:=ctr) (λx=>(strip (std P) (rd (std P) slots x)).1) a.eval parts.toList hparts _ cs _ hrep TB;have hcs:cs.length=len*te.size:=by rw[TA _ _ _ TB,ZV,h5]
              have hmap:(parts.map λ(x:Nat×Operand)=>(x.1,a.eval x.2)).toList=parts.toList.map λx=>(x.1,a.eval x.2):=bH;have hzr:(zeroValue e).run P w = .ok v w:=by simp[zeroValue,typeInfo,h1,h2]
              have hrun:(execOp a.eval ⟨dst,.buildSlice t len parts,ty,pos,after,guard⟩).run P w = .ok (.value (.slice (some ⟨w.heap.size,0,none⟩) len len)) (w.alloc (.cells vs' e)):=by
               have hbig : ¬ (len*te.size > 2 ^ 24):=ak
               by_cases h0:len*te.size=0
               . have f1':Instr.fill (λi=>some (i*te.size,te.size)) #[] (parts.toList.map λx=>(x.1,a.eval x.2))=some vs':=by
                  have e1:((Array.range (len*te.size)).map (v.cells[· % v.cells.size]!)) = #[]:=by rw[h0];simp[Array.range_zero']
                  rw[e1] at f1;exact f1
                 simp[execOp,Instr.buildSlice,run_underlying hu,jr hT hte,h0,Array.range_zero',f1',newRow]
               simp only[execOp,Instr.buildSlice,Sem.run_bind,run_underlying hu,Result.andThen_ok,jr hT hte,hbig,if_false,h0,hzr,Sem.run_pure,hmap,f1,newRow,run_newObj,World.alloc_eq]
              refine dM hrun (hK _ _ ?_);have hcells : ∀ q:Nat,q<len->∀ j,j<te.size->∃ x,vs'[q*te.size+j]? = some x/\x.oneCell'=true/\Rd w.heap I β objs ctr (amY (std P) te.size len cs q j) x:=by
               intro q hq j hj;have hlt:q*te.size+j<cs.length:=by
                rw[hcs];have:(q+1)*te.size<=len*te.size:=oq _ ak;rw[kr] at this;omega
               obtain⟨x,x1,x2,x3⟩:=f2.2 _ _ (iW hlt);refine⟨x,x1,x2,?_⟩;unfold amY;split
               . have e:cs.getD (q*te.size+j) .junk=cs[q*te.size+j]:=by simp[List.getD,iW hlt]
                 show Rd w.heap I β objs ctr (cs.getD (q*te.size+j) .junk) x;rw[e];exact x3
               have:=rows_ok (P:=P) (T:=Rd w.heap I β objs ctr) rfl len cs 0 q j ak hj x (λd hd=>by rw[iW hlt] at hd;cases hd;exact x3) hlt
               rwa [CR] at this
              unfold afP at he;split at he
              . simp only[aW,bM] at he;obtain⟨rfl,rfl,rfl⟩:=he;refine R.ajI rfl vs' e λh' I' hI hnew hblk G=>⟨_,_,_,rfl,rfl,iR _,λ_=>rfl,λ_=>⟨_,0,vs',e,_,rfl,hnew,hblk,λq hq j hj=>?_⟩⟩
                obtain⟨x,x1,x2,x3⟩:=hcells q hq j hj;exact⟨x,by rw[LW];exact x1,x2,Rd.mono G _ _ x3⟩
              obtain⟨hk,rfl,rfl,rfl⟩:=xW he;refine R.alloc rfl hk vs' e _ rfl ⟨ak,.inr ⟨_,0,_,vs',e,rfl,bH,rfl,by rw[← f2.1,hcs];simp,λq hq j hj=>?_⟩⟩ ?_
              . obtain⟨x,x1,x2,x3⟩:=hcells q ak j hj;exact⟨x,by rw[LW];exact x1,x2,x3⟩
              intro h' β' nS G;refine⟨.inr ⟨rfl,_,jd (gZ.1 hk).1,rfl⟩,⟨_,_,_,rfl,rfl,iR _,λ_=>rfl⟩,λN t' f' ho=>?_⟩;rw[jd (gZ.1 hk).1] at ho;simp only[aW,Ob.arr.injEq] at ho;obtain⟨_,_,rfl,rfl,_⟩:=ho;exact⟨ak,ak,ak,_,_,_,rfl,rfl,iR _,λ_=>by omega,λ_=>⟨_,_,_,nS,bH,by rw[← f2.1,hcs];simp⟩⟩
            cases he
          cases he
        cases he
      cases he
    cases he
  cases he
 | insert=>cases he
 | load t x=>
  simp only at he;split at he
  . rename_i ti ht;split at he
    . obtain⟨os2,he2,rfl⟩:=lQ he;obtain⟨uT,rfl⟩:=uE he2;obtain⟨z,z1,z2⟩:=ap1 hT R ht uT (λq hq=>hos q (dR _ hq)) (aof (R.eval x) (λq hq=>hos q (dW _ hq)));exact dM (y:=z) (w':=w) (by simp[execOp,z1]) (hK _ _ (R.still z2))
    obtain⟨os2,he2,rfl⟩:=lQ he;obtain⟨uT,rfl⟩:=uE he2;obtain⟨z,z1,z2⟩:=ali hT R ht uT (λq hq=>hos q (dR _ hq)) (st x (λq hq=>hos q (dW _ hq)));exact dM (y:=z) (w':=w) (by simp[execOp,z1]) (hK _ _ (R.still z2))
  cases he
 | store t x y=>
  simp only at he;split at he
  . rename_i ti ht;split at he
    . obtain⟨os2,he2,rfl⟩:=lQ he;obtain⟨w',z1,z2⟩:=aou hT R ht he2 (λq hq=>hos q (dR _ hq)) (R.eval x) (st y (λq hq=>hos q (dW _ hq)));exact ajP (w':=w') (by simp[execOp,z1]) (hK _ _ (z2 _))
    obtain⟨os2,he2,rfl⟩:=lQ he;obtain⟨w',z1,z2⟩:=apY hT R ht he2 (λq hq=>hos q (dR _ hq)) (st x (λq hq=>hos q (dW _ (dW _ hq)))) (st y (λq hq=>hos q (dW _ (dR _ hq))));exact ajP (w':=w') (by simp[execOp,z1]) (hK _ _ (z2 _))
  cases he
 | ready=>cases he
 | waits=>cases he
 | nilCheck x=>
  simp only at he;split at he<;>simp only[aW,bM,reduceCtorEq] at he
  . rename_i id g j e1;obtain⟨rfl,rfl,rfl⟩:=he;have h1:=st x hos;rw[e1] at h1;obtain⟨q,hq⟩:=h1.2.1;exact dM (y:=a.eval x) (w':=w) (by simp[execOp,hq]) (hK _ _ (R.still h1))
  . rename_i id g sz i j e1;obtain⟨rfl,rfl,rfl⟩:=he;have h1:=st x hos;rw[e1] at h1;obtain⟨q,hq⟩:=h1.2.1;exact dM (y:=a.eval x) (w':=w) (by simp[execOp,hq]) (hK _ _ (R.still h1))
  rename_i sz n f i j e1;obtain⟨rfl,rfl,rfl⟩:=he;have h1:=st x hos;rw[e1] at h1;obtain⟨_,_,b,p,c,e,fr,hq,_⟩:=id h1;exact dM (y:=a.eval x) (w':=w) (by simp[execOp,hq]) (hK _ _ (R.still h1))
 | binOp op xt x y yt=>
  by_cases hnil:ajS y=true
  . simp only[hnil,if_true] at he;have hy:y = .const .nilIface:=by
     unfold ajS at hnil;split at hnil
     . rfl
     cases hnil
    subst hy;unfold amk at he;split at he
    . rename_i e1;split at he
      . rename_i ti ht;split at he
        . rename_i hk;simp only[iP,aW,bM] at he;obtain⟨rfl,rfl,rfl⟩:=he;obtain⟨ms,hu⟩:=abH hT ht hk;have h1:=st x hos;rw[e1] at h1;have h1:a.eval x = .nilIface:=h1;refine dM (w':=w) (y:=.bool true) ?_ (hK _ _ (R.still rfl));have hev:a.eval (.const .nilIface) = .nilIface:=rfl;simp[execOp,h1,hev,eqGuard_nil_constR,binOp,M7 hu]
        . rename_i hk;simp only[iP,aW,bM] at he;obtain⟨rfl,rfl,rfl⟩:=he;obtain⟨ms,hu⟩:=abH hT ht hk;have h1:=st x hos;rw[e1] at h1;have h1:a.eval x = .nilIface:=h1;refine dM (w':=w) (y:=.bool false) ?_ (hK _ _ (R.still rfl));have hev:a.eval (.const .nilIface) = .nilIface:=rfl;simp[execOp,h1,hev,eqGuard_nil_constR,binOp,M7 hu]
        cases he
      cases he
    cases he
  simp only[hnil,if_false] at he;have he:=(Ll he).resolve_right (λhf=>hos _ hf);split at he
  . rename_i hn;rw[ig] at hn;obtain⟨os2,he2,rfl⟩:=lQ he;obtain⟨uT,rfl⟩:=uE he2;have h1:=st x (λq hq=>hos q (dW _ hq));have hy:y = .const (.slice none 0 0):=by
     have hn:=hn.1;unfold aek at hn;split at hn
     . rfl
     cases hn
    subst hy;obtain⟨e,hu⟩ : ∃ e,P.underlying xt=some (.slice e):=by
     have hn:=hn.2;unfold aq9 at hn;split at hn
     . rename_i ti ht;split at hn
       . rename_i e hk;exact⟨e,jV hT ht hk⟩
       cases hn
     cases hn
    have amP:a.eval (.const (.slice none 0 0)) = .slice none 0 0:=rfl;have run : ∀ ad len cap,a.eval x = .slice ad len cap->(op = .eql->(execOp a.eval ⟨dst,.binOp .eql xt x (.const (.slice none 0 0)) yt,ty,pos,after,guard⟩).run P w = .ok (.value (.bool ad.isNone)) w)/\(op = .neq->(execOp a.eval ⟨dst,.binOp .neq xt x (.const (.slice none 0 0)) yt,ty,pos,after,guard⟩).run P w = .ok (.value (.bool (!ad.isNone))) w):=by
     intro ad len cap hx;have hg : ∀ op,eqGuard op xt x (.const (.slice none 0 0)) (.slice ad len cap) (.slice none 0 0)=pure ():=λop=>by cases op<;>rfl
     have hq:=run_equal_slice_nil w xt e ad len cap hu;refine⟨λ_=>?_,λ_=>?_⟩
     . simp[execOp,hx,amP,binOp,hg];rw[hq];rfl
     simp[execOp,hx,amP,binOp,hg];rw[hq];cases ad<;>rfl
    have fin : ∀ ad len cap b,a.eval x = .slice ad len cap->ad.isNone=b->((op = .eql/\d = .v (.bool b))\/(op = .neq/\d = .v (.bool !b)))->∃ b,d = .v (.bool b)/\(execOp a.eval ⟨dst,.binOp op xt x (.const (.slice none 0 0)) yt,ty,pos,after,guard⟩).run P w = .ok (.value (.bool b)) w:=by
     intro ad len cap b hx hb hd;subst hb;rcases hd with⟨rfl,rfl⟩|⟨rfl,rfl⟩
     . exact⟨_,rfl,(run ad len cap hx).1 rfl⟩
     exact⟨_,rfl,(run ad len cap hx).2 rfl⟩
    have asC : ∀ {ad:Option Addr},ad.isSome=true->ad.isNone=false:=λ{ad} h=>by cases ad<;>simp at h ⊢
    obtain⟨b,rfl,hr⟩ : ∃ b,d = .v (.bool b)/\(execOp a.eval ⟨dst,.binOp op xt x (.const (.slice none 0 0)) yt,ty,pos,after,guard⟩).run P w = .ok (.value (.bool b)) w:=by
     unfold ara at uT;split at uT
     . rename_i e1;rw[e1] at h1;split at uT
       . cases uT;exact fin none 0 0 true h1 rfl (.inl ⟨rfl,rfl⟩)
       . cases uT;exact fin none 0 0 true h1 rfl (.inr ⟨rfl,rfl⟩)
       cases uT
     . rename_i n t f e1;rw[e1] at h1;obtain⟨ad,len,cap,hx,q1,q2,q3,q4⟩:=h1;have pos:0<n->ad.isNone=false:=λhn=>by
        obtain⟨b,o,c,e,fr,rfl,_⟩:=q4 ak;rfl
       split at uT
       . cases uT;exact fin ad len cap false hx (pos (hos (.EU 0 n) bH).2) (.inl ⟨rfl,rfl⟩)
       . cases uT;exact fin ad len cap false hx (pos (hos (.EU 0 n) bH).2) (.inr ⟨rfl,rfl⟩)
       cases uT
     . rename_i n e1;rw[e1] at h1;obtain⟨_,⟨ad,len,cap,hx,q1,q2,q3⟩,_⟩:=h1;have pos:0<n->ad.isNone=false:=λhn=>asC (q3 ak);split at uT
       . cases uT;exact fin ad len cap false hx (pos (hos (.EU 0 n) bH).2) (.inl ⟨rfl,rfl⟩)
       . cases uT;exact fin ad len cap false hx (pos (hos (.EU 0 n) bH).2) (.inr ⟨rfl,rfl⟩)
       cases uT
     cases uT
    exact dM (y:=.bool b) (w':=w) hr (hK _ _ (R.still rfl))
  obtain⟨os2,he2,rfl⟩:=lQ he;obtain⟨uT,rfl⟩:=uE he2;obtain⟨z,z1,z2⟩:=au9 (w:=w) hT x y uT (λq hq=>hos q (dR _ hq)) (st x (λq hq=>hos q (dW _ (dW _ hq)))) (st y (λq hq=>hos q (dW _ (dR _ hq))));refine dM (w':=w) (y:=z) ?_ (hK _ _ (R.still z2));show Sem.run P (do pure (Next.value (← (do eqGuard op xt x y (a.eval x) (a.eval y);binOp op xt (a.eval x) (a.eval y):Sem Value)))) w=_;rw[Sem.run_bind,z1];rfl
 | unOp op xt x=>
  simp only at he;split at he<;>simp only[aW,bM,reduceCtorEq] at he
  . rename_i b e1;obtain⟨rfl,rfl,rfl⟩:=he;have h1:=st x hos;rw[e1] at h1;have h1:a.eval x = .bool b:=h1;exact dM (w':=w) (y:=.bool (!b)) (by simp[execOp,h1,Op.unary]) (hK _ _ (R.still rfl))
  . rename_i k n e1;obtain⟨rfl,rfl,rfl⟩:=he;have h1:=st x (λq hq=>hos q (dW _ hq));rw[e1] at h1;have h1:a.eval x = .int k n:=h1;have hr:=hos _ (dR _ (fQ.2 rfl));exact dM (w':=w) (y:=.int k (k.wrap (0-n))) (by simp[execOp,h1,Op.unary,Op.intArith]) (hK _ _ (R.still (congrArg (Value.int k) (J9 k _ hr))))
  rename_i n e1;obtain⟨rfl,rfl,rfl⟩:=he;have h1:=st x hos;rw[e1] at h1;have h1:a.eval x = .int .i64 n:=h1;exact dM (w':=w) (y:=.int .i64 ((std P).aju .i64 (-1) n)) (by simp[execOp,h1,Op.unary,Op.intBits,std];rfl) (hK _ _ (R.still rfl))
 | convert ut t x=>
  simp only at he;split at he
  . rename_i hut;have hut:=dO hut;subst hut;split at he
    . rename_i ti ht;split at he
      . rename_i e id g sz off n hk e1;split at he
        . rename_i te g' sz' N tg f hte dP;split at he
          . rename_i hke;split at he
            . rename_i hsz;simp only[ig] at hsz;have q1:=dO hsz.1;have q2:=dO hsz.2;subst q1;subst q2;simp only[aW,bM] at he;obtain⟨rfl,rfl,rfl⟩:=he;have h1:=st x (λq hq=>hos q (dW _ hq));rw[e1] at h1;have hg:g=g':=hos (.lU g g') bH;have hn:(0:Int)<=0/\(0:Int)<n:=hos (.EU 0 n) bH;have hu : ∀ i:Int,0<=i->i<n->∀ j:Nat,j<1->ajR (f (off+i) 0):=hos (.u8s n (λi j=>f ((std P).add off i) j)) bH;subst hg;obtain⟨w',hr,hp⟩:=aoA R (jV hT ht hk) (xY hT hte hke) dP h1 hn.2 hu;exact dM (w':=w') (y:=a.eval x) (by simp[execOp,hr]) (hK _ _ hp)
            cases he
          cases he
        cases he
      cases he
    cases he
  split at he
  . rename_i ti ui ht hu;split at he<;>try simp only[aW,bM,reduceCtorEq] at he
    . rename_i k k2 k3 n hk hk2 e1;obtain⟨rfl,rfl,rfl⟩:=he;have h1:=st x hos;rw[e1] at h1;have h1:a.eval x = .int k3 n:=h1;exact dM (w':=w) (y:=.int k (k.wrap n)) (by simp[execOp,h1,convert,run_underlying (xY hT ht hk),run_underlying (xY hT hu hk2),Conv.intToInt]) (hK _ _ (R.still rfl))
    . rename_i b hk hk2 e1;obtain⟨rfl,rfl,rfl⟩:=he;have h1:=st x hos;rw[e1] at h1;have h1:a.eval x = .string b:=h1;exact dM (w':=w) (y:=.string b) (by simp[execOp,h1,convert,run_underlying (nH hT ht hk),run_underlying (nH hT hu hk2)]) (hK _ _ (R.still rfl))
    . rename_i e b hk hk2 e1;split at he
      . rename_i te hte;split at he
        . rename_i hke;simp only[aW,bM] at he;obtain⟨rfl,rfl,rfl⟩:=he;have h1:=st x hos;rw[e1] at h1;have h1:a.eval x = .string b:=h1;have hz:=run_bytes_of_string (P:=P) w ut t e b (nH hT hu hk2) (jV hT ht hk) (xY hT hte hke);refine dM (y:=.slice (some ⟨w.heap.size,0,none⟩) b.size (grownCap w b.size 0 e)) (w':=w.drew.alloc (.cells (bytesRow b (grownCap w b.size 0 e)) e ((bytesRow b (grownCap w b.size 0 e)).size,(bytesRow b (grownCap w b.size 0 e)).size+1))) (by simp[execOp,h1,hz]) (hK _ _ ?_);have hcap:=grownCap_ge w b.size 0 e;refine R.aoB (w1:=w.drew) rfl _ e _ λh' I' hI hnew hblk G=>⟨_,_,_,rfl,rfl,hcap,λh=>Bool.noConfusion h,λ_=>⟨_,0,_,e,_,rfl,hnew,hblk,λq hq j hj=>⟨.int .u8 (kY b q),?_,rfl,rfl⟩⟩⟩
          have hj:j=0:=ak;subst hj;have hq':q<b.data.size:=hq;simp only[bytesRow,LW,Nat.mul_one,OB];rw[Xp (by simpa using hq'),Array.getElem?_map,ahA hq'];simp[kY,List.getD];rw[ahA hq'];rfl
        cases he
      cases he
    rename_i e sz n tg f hk hk2 e1;split at he
    . rename_i te hte;split at he
      . rename_i hke;split at he
        . rename_i hsz;have hsz:=dO hsz;subst hsz;simp only[aW,bM] at he;obtain⟨rfl,rfl,rfl⟩:=he;have h1:=st x (λq hq=>hos q (dW _ hq));have ho : ∀ i:Int,0<=i->i<n->∀ j:Nat,j<1->ajR (f i 0):=hos _ (dR _ (fQ.2 rfl));rw[e1] at h1;obtain⟨ad,len,cap,h1,hl,hc,-,hx⟩:=h1;have hln:((List.range n.toNat).map λi:Nat=>d2i (f (i:Int) 0)).length=len:=yh;have hz:(convert ut t (.slice ad len cap)).run P w = .ok (.string (strOfNums ((List.range n.toNat).map λi:Nat=>d2i (f (i:Int) 0)))) w:=by
           by_cases hp:0<len
           . obtain⟨b,o,c,e',fr,rfl,hI,hb,hy⟩:=hx hp;refine run_convert_bytes_arg w ut e (jV hT hu hk2) (xY hT hte hke) b o len cap _ hln (λi hi=>?_) t (nH hT ht hk);obtain⟨z,z1,z2,z3⟩:=hy i ak 0 ak;have hu8:=ho i ak ak 0 ak;have hg:(((List.range n.toNat).map λi:Nat=>d2i (f (i:Int) 0)).getD i 0)=d2i (f (i:Int) 0):=by
              rw[wI,qJ,aey ak];rfl
             have hzv:z = .int .u8 (d2i (f (i:Int) 0)):=by
              revert hu8 z3;generalize f (i:Int) 0=d;intro z3 hu8
              match d,z3,hu8 with
              | .v (.int .u8 q),z3,_=>exact z3
             rw[hg,← hzv];have z1:c[o+i]? = some z:=by simpa using z1
             simp[World.cell?,hb,z1]
           have hl0:len=0:=ak;have hn0:n=0:=ak;subst hl0 hn0;cases ad with
           | none=>rw[run_convert_bytes_nil w ut e (jV hT hu hk2) (xY hT hte hke) 0 cap t (nH hT ht hk)];rfl
           | some ad=>
            rw[run_convert_bytes_string w ut t e _ 0 cap (jV hT hu hk2) (xY hT hte hke) (nH hT ht hk)];have hl:=run_loadCells_list (P:=P) w ad ([]:List Value) (λj v hj=>by simp at hj);exact run_bytesToString w ad 0 cap [] (by simpa using hl)
          exact dM (w':=w) (y:=.string ((std P).amD n (λi=>d2i (f i 0)))) (by simp only[execOp,h1,hz,Sem.run_bind,Result.andThen];rfl) (hK _ _ (R.still rfl))
        cases he
      cases he
    cases he
  cases he
 | sliceToArrayPointer=>cases he
 | makeInterface t x=>
  simp only at he;split at he
  . rename_i ti ht;split at he
    . cases he
    rename_i hk;simp only[aW,bM] at he;obtain⟨rfl,rfl,rfl⟩:=he;obtain⟨i,dd,_,g2,_,_,g5,_,_⟩:=hT.get ht;have hc:P.concrete t=true:=by
     unfold Program.concrete;rw[g2];cases dd<;>first|rfl|exact absurd g5.symm hk
    exact dM (y:=.iface t (a.eval x)) (w':=w) (by simp[execOp,run_makeInterface w t _ hc]) (hK _ _ (R.still ⟨_,rfl,st x hos⟩))
  rcases Ll he with he|hf
  . cases he
  exact(hos _ hf:False).elim
 | makeFunc fn first captured=>
  simp only at he;split at he
  . rename_i hf;have hf:=dO hf;simp only[aW,bM] at he;obtain⟨rfl,rfl,rfl⟩:=he;have avd:first = #[]:=Array.eq_empty_of_size_eq_zero hf
    refine dM (w':=w) (y:=.func fn #[] (captured.map a.eval)) (by simp[execOp,Instr.makeFunc,avd]) (hK _ _ (R.still ⟨_,rfl,bH,λj hj=>?_⟩));refine⟨a.eval captured[j],by simp[hj],?_⟩;have e1:(captured.toList.map λx=>(strip (std P) (rd (std P) slots x)).1).getD j .junk=(strip (std P) (rd (std P) slots captured[j])).1:=by simp[List.getD,hj]
    dsimp only;rw[e1];refine st _ λq hq=>hos q (List.mem_flatten.2 ⟨_,Gs.2 ⟨captured[j],bH,rfl⟩,hq⟩)
  cases he
 | makeMap=>cases he
 | makeChan=>cases he
 | makeSlice t l c=>
  simp only at he;split at he
  . rename_i ti ht;split at he
    . rename_i e hk;have hu:=jV hT ht hk;split at he
      . rename_i te hte;split at he
        . rename_i z k1 n1 k2 n2 hz e1 e2;split at he
          . cases he
          rename_i hc;simp only[Oe,not_or] at hc;have hb0:te.bytes≠0:=λh0=>hc.1 (by rw[h0];rfl);have hs0:0<te.size:=Nat.pos_of_ne_zero λh0=>hc.2 (by rw[h0];rfl);obtain⟨hk,rfl,rfl,rfl⟩:=xW he;obtain⟨i,v,h1,h2,h3,h4,h5,h6,h7⟩:=XA (h:=w.heap) (I:=I) (β:=β) (objs:=objs) (ctr:=ctr) hT hte hz;have g1:=st l (λq hq=>hos q (dW _ (dW _ hq)));rw[e1] at g1;have g1:a.eval l = .int k1 n1:=g1;have g2:=st c (λq hq=>hos q (dW _ (dR _ hq)));rw[e2] at g2;have g2:a.eval c = .int k2 n2:=g2;obtain⟨m0,m1,m2,m3⟩:0<=n1/\n1<=n2/\n2<=281474976710656/\(te.bytes:Int)*n2<=281474976710656:=hos _ (dR _ (fQ.2 rfl));have hrun:=run_make (P:=P) w t e i v hu h1 h2 k1 k2 n1 n2 m0 m1 (by rw[h4];exact m3) ak;have awU:(execOp a.eval ⟨dst,.makeSlice t l c,ty,pos,after,guard⟩).run P w = .ok (.value (.slice (some ⟨w.heap.size,0,none⟩) n1.toNat n2.toNat)) (w.alloc (.cells (madeCells v.cells (n2.toNat*i.size)) e)):=by
           simp[execOp,g1,g2,hrun]
          refine dM awU (hK _ _ ?_);have hmc:(madeCells v.cells (n2.toNat*i.size)).size=n2.toNat*te.size:=by rw[size_madeCells,h3]
          have hml:n1.toNat*te.size<=n2.toNat*te.size:=oq _ ak;refine R.alloc rfl hk _ e _ rfl ⟨m0,.inr ⟨_,0,_,madeCells v.cells (n2.toNat*i.size),e,rfl,bH,rfl,by rw[hmc];omega,λq hq j hj=>?_⟩⟩ ?_
          . have hzj:j<z.length:=ak;obtain⟨x,x1,x2,x3⟩:=h7.2 j _ (iW hzj);refine⟨x,?_,x2,(show Rd w.heap I β objs ctr (z.getD j .junk) x by rw[wI,iW hzj];exact x3)⟩;have hlt:q*te.size+j<n2.toNat*i.size:=by
             rw[h3];have:(q+1)*te.size<=n2.toNat*te.size:=oq _ ak;rw[kr] at this;omega
            have hmod:(q*te.size+j)%v.cells.size=j:=by
             rw[h6,Nat.mul_comm,Nat.mul_add_mod,VO hj]
            rw[LW];have hq2:v.cells[j]! = x:=by rw[getElem!_def,x1]
            simp only[madeCells,Array.getElem?_map,Array.getElem?_range,hlt,if_true,iP,hmod,hq2]
          intro h' β' nS G;refine⟨.inr ⟨rfl,_,jd (gZ.1 hk).1,rfl⟩,⟨_,_,_,rfl,ak,ak,λ_=>rfl⟩,λN t' f' ho=>?_⟩;rw[jd (gZ.1 hk).1] at ho;simp only[aW,Ob.arr.injEq] at ho;obtain⟨_,_,rfl,rfl,_⟩:=ho;refine⟨ak,ak,ak,_,_,_,rfl,ak,ak,λhtt=>?_,λ_=>⟨_,_,_,nS,bH,by rw[hmc];simp⟩⟩;simp[std] at htt;omega
        cases he
      cases he
    cases he
  cases he
 | slice t x lo hi mx=>
  simp only at he;replace he:=(Ll he).resolve_right (λhf=>hos _ hf);split at he
  . rename_i ti ht;obtain⟨os2,he2,rfl⟩:=lQ he;obtain⟨uT,rfl⟩:=uE he2;have opt : ∀ (y:Option Operand),(∀ q∈(y.map λx=>(strip (std P) (rd (std P) slots x)).2).getD [],q.run (std P))->((y.map λx=>(strip (std P) (rd (std P) slots x)).1)=none/\y.map a.eval=none) \/
      ∃ dl vl,(y.map λx=>(strip (std P) (rd (std P) slots x)).1)=some dl/\y.map a.eval=some vl/\Rd w.heap I β objs ctr dl vl:=by
     intro y hy;cases y with
     | none=>exact .inl ⟨rfl,rfl⟩
     | some y=>exact .inr ⟨_,_,rfl,rfl,st y hy⟩
    obtain⟨z,z1,z2⟩:=au8 hT ht uT (λq hq=>hos q (dR _ hq)) (st x (λq hq=>hos q (dW _ (dW _ (dW _ (dW _ hq))))))
     (opt lo (λq hq=>hos q (dW _ (dW _ (dW _ (dR _ hq))))))
     (opt hi (λq hq=>hos q (dW _ (dW _ (dR _ hq)))))
     (opt mx (λq hq=>hos q (dW _ (dR _ hq))))
    exact dM (y:=z) (w':=w) (by simp[execOp,z1]) (hK _ _ (R.still z2))
  cases he
 | fieldAddr t x k=>
  simp only at he;replace he:=(Ll he).resolve_right (λhf=>hos _ hf);split at he
  . rename_i ti ht;obtain⟨os2,he2,rfl⟩:=lQ he;obtain⟨uT,rfl⟩:=uE he2;obtain⟨z,z1,z2⟩:=ap7 (w:=w) hT ht uT (st x (λq hq=>hos q (dW _ hq)));exact dM (y:=z) (w':=w) (by simp[execOp,z1]) (hK _ _ (R.still z2))
  cases he
 | field t x k=>
  simp only at he;split at he
  . rename_i ti ht;split at he
    . rename_i fs hk;obtain⟨gs,hu,hfs⟩:=QC hT ht hk;split at he
      . rename_i off ft n c hf e1;obtain⟨os2,he2,rfl⟩:=lQ he;obtain⟨uT,rfl⟩:=uE he2;have h1:=st x (λq hq=>hos q (dW _ hq));rw[e1] at h1;obtain⟨ys,h1,h2,h3⟩:=h1;obtain⟨z,z1,z2⟩:=alk (w:=w) hT uT (ys:=ys) h3;rw[hfs,qJ] at hf;cases hg:gs.toList[k]? with
        | none=>rw[hg] at hf;cases hf
        | some g=>
         rw[hg] at hf;simp only[iP,aW,bM] at hf;obtain⟨rfl,rfl⟩:=hf;have hg':gs[k]? = some g:=by simpa using hg
         exact dM (y:=z) (w':=w) (by simp[execOp,h1,Instr.field,run_underlying hu,hg',asAgg,z1]) (hK _ _ (R.still z2))
      cases he
    cases he
  cases he
 | indexAddr t x i=>
  simp only at he;replace he:=(Ll he).resolve_right (λhf=>hos _ hf);split at he
  . rename_i ti ht;obtain⟨os2,he2,rfl⟩:=lQ he;obtain⟨uT,rfl⟩:=uE he2;split at uT
    . obtain⟨z,z1,z2⟩:=aoy (w:=w) hT ht uT (λq hq=>hos q (dR _ hq)) (st x (λq hq=>hos q (dW _ (dW _ hq)))) (st i (λq hq=>hos q (dW _ (dR _ hq))));exact dM (y:=z) (w':=w) (by simp[execOp,z1]) (hK _ _ (R.still z2))
    obtain⟨z,z1,z2⟩:=ap6 (w:=w) hT ht uT (λq hq=>hos q (dR _ hq)) (st x (λq hq=>hos q (dW _ (dW _ hq)))) (st i (λq hq=>hos q (dW _ (dR _ hq))));exact dM (y:=z) (w':=w) (by simp[execOp,z1]) (hK _ _ (R.still z2))
  cases he
 | index t x i=>
  simp only at he;replace he:=(Ll he).resolve_right (λhf=>hos _ hf);split at he
  . rename_i ti ht;split at he
    . rename_i n e hk;have hu:=F4 hT ht hk;split at he
      . rename_i l k c e1 e2;split at he
        . rename_i hc;simp only[ig,Ij] at hc;have hlt:=sw hc.1;obtain⟨te,hte,hsz⟩:=qY (tt:=tt) (t:=e) hc.2;have hs:(sizeOf e).run P w = .ok (lG tt e) w:=by rw[← hsz];exact jr hT hte w
          obtain⟨os2,he2,rfl⟩:=lQ he;obtain⟨uT,rfl⟩:=uE he2;have h1:=st x (λq hq=>hos q (dW _ (dW _ hq)));rw[e2] at h1;obtain⟨ys,h1,h2,h3⟩:=h1;obtain⟨kk,h4⟩:=aox e1 (st i (λq hq=>hos q (dW _ (dR _ hq))));obtain⟨z,z1,z2⟩:=alk (w:=w) hT uT (ys:=ys) h3;have hl:l<n:=ak;exact dM (y:=z) (w':=w) (by simp[execOp,h1,h4,Instr.index,asIntOf,run_underlying hu,hl,hs,z1]) (hK _ _ (R.still z2))
        cases he
      cases he
    . rename_i hk;have hu:=nH hT ht hk;split at he
      . rename_i b k n e1 e2;simp only[aW,bM] at he;obtain⟨rfl,rfl,rfl⟩:=he;have h1:=st x (λq hq=>hos q (dW _ (dW _ hq)));rw[e1] at h1;have h1:a.eval x = .string b:=h1;have h2:=st i (λq hq=>hos q (dW _ (dR _ hq)));rw[e2] at h2;have h2:a.eval i = .int k n:=h2;obtain⟨c1,c2⟩:0<=n/\n<b.size:=hos _ (dR _ (fQ.2 rfl));have c3:n.toNat<b.size:=ak;have hb:b[n.toNat]? = some b[n.toNat]:=by simp[c3]
        refine dM (y:=.int .u8 (b[n.toNat]'c3).toNat) (w':=w) (by simp[execOp,h1,h2,Instr.index,asIntOf,run_underlying hu,c1,hb]) (hK _ _ (R.still ?_));show _=_;have:b.data.toList[n.toNat]? = some (b[n.toNat]'c3):=by
         rw[Array.getElem?_toList,ahA (by simpa using c3)];rfl
        simp only[std,List.getD,this,Option.getD_some]
      cases he
    cases he
  cases he
 | lookup t x i ok=>
  simp only at he;split at he
  . rename_i ti ht;split at he
    . rename_i k e hk;split at he
      . rename_i kk kv hkk hkv;split at he
        . rename_i kk' kv' es ki ix e1 e2;split at he
          . cases he
          rename_i hok;split at he
          . rename_i hq;obtain⟨rfl,rfl,rfl⟩:=hq;simp only[aW,bM] at he;obtain⟨rfl,rfl,rfl⟩:=he;have h1:=st x (λq hq=>hos q (dW _ hq));rw[e1] at h1;obtain⟨r,c,cl,h1,_,h2,h3⟩:=h1;have h4:=st i (λq hq=>hos q (dR _ hq));rw[e2] at h4;have h4:a.eval i = .int kk ix:=h4;have hz:=amX (P:=P) (w:=w) hT ht hk hkk hkv h2 h3 ix;refine dM (w':=w) (y:=.int kv (Ou es ix)) ?_ (hK _ _ (R.still rfl));have azy:ok=false:=by simpa using hok
            simp[execOp,h1,h4,azy,hz]
          cases he
        cases he
      cases he
    cases he
  cases he
 | mapUpdate=>cases he
 | mapEntry=>cases he
 | entryStore=>cases he
 | range t x=>
  simp only at he;split at he
  . rename_i ti ht;split at he
    . rename_i b hk e1;have hu:=nH hT ht hk;obtain⟨hk,rfl,rfl,rfl⟩:=xW he;have h1:=st x hos;rw[e1] at h1;have h1:a.eval x = .string b:=h1;refine dM (w':=w.alloc (.stringIter b 0)) (y:=.pointer (some ⟨w.heap.size,0,none⟩)) (by simp[execOp,h1,Instr.range,run_underlying hu]) (hK _ _ ?_);exact R.aoC hk b
    cases he
  cases he
 | next x isS=>
  simp only at he;split at he
  . rename_i his;subst his;split at he
    . rename_i id g e1;split at he
      . rename_i g' b pos ho;simp only[aW,bM] at he;obtain⟨rfl,rfl,rfl⟩:=he;have hg:g=g':=hos _ (dR _ (fQ.2 rfl));subst hg;have h1:=st x (λq hq=>hos q (dW _ hq));rw[e1] at h1;exact asA R ho h1 hK
      cases he
    cases he
  cases he
 | entry=>cases he
 | typeAssert x xT t ok=>
  simp only at he;split at he
  . rename_i t' d1 ti e1 ht;split at he
    . rename_i hok;subst hok;split at he
      . cases he
      rename_i hk;obtain⟨i,dd,g1,g2,_,_,g5,g6,_⟩:=hT.get ht;have hni : ∀ w,dd≠.interface w:=by rintro w rfl;exact hk g5.symm
      split at he
      . rename_i hb;have hb:=dO hb;subst hb;simp only[aW,bM] at he;obtain⟨rfl,rfl,rfl⟩:=he;have h1:=st x hos;rw[e1] at h1;obtain⟨z,hz,hr⟩:=h1;refine dM (y:=.tuple #[z,.bool true]) (w':=w) ?_ (hK _ _ (R.still ⟨_,rfl,rfl,λj hj=>?_⟩))
        . simp only[execOp,hz,Instr.typeAssert,Sem.run_bind,run_underlying g2,Result.andThen_ok];cases dd<;>first|exact absurd rfl (hni _)|simp
        match j,hj with
        | 0,_=>exact⟨z,rfl,hr⟩
        | 1,_=>exact⟨_,rfl,rfl⟩
      rename_i hb;split at he
      . rename_i zc hzc;simp only[aW,bM] at he;obtain⟨rfl,rfl,rfl⟩:=he;have h1:=st x hos;rw[e1] at h1;obtain⟨z,hz,hr⟩:=h1;have hne:t'≠t:=λh=>hb (by rw[h];exact kF _);rw[hzc,Option.map_eq_some_iff] at g6;obtain⟨v,g6,_⟩:=g6;refine dM (y:=.tuple #[v,.bool false]) (w':=w) ?_ (hK _ _ (R.still ⟨_,rfl,rfl,λj hj=>?_⟩))
        . simp only[execOp,hz,Instr.typeAssert,Sem.run_bind,run_underlying g2,Result.andThen_ok];cases dd<;>first|exact absurd rfl (hni _)|simp[hne,zeroValue,typeInfo,g1,g6]
        match j,hj with
        | 0,_=>exact⟨v,rfl,trivial⟩
        | 1,_=>exact⟨_,rfl,rfl⟩
      cases he
    cases he
  cases he
 | extract x k=>
  simp only at he;split at he
  . rename_i n c e1;split at he
    . rename_i hlt;have hlt:=sw hlt;simp only[aW,bM] at he;obtain⟨rfl,rfl,rfl⟩:=he;have h1:=st x hos;rw[e1] at h1;obtain⟨ys,h1,h2,h3⟩:=h1;obtain⟨z,z1,z2⟩:=h3 k hlt;exact dM (w':=w) (y:=z) (by simp[execOp,h1,Instr.extract,z1]) (hK _ _ (R.still z2))
    cases he
  . rename_i b n r e1;split at he
    . simp only[aW,bM] at he;obtain⟨rfl,rfl,rfl⟩:=he;have h1:=st x hos;rw[e1] at h1;cases b with
      | true=>exact dM (w':=w) (y:=.bool true) (by simp[execOp,h1.1 rfl,Instr.extract]) (hK _ _ (R.still rfl))
      | false=>exact dM (w':=w) (y:=.bool false) (by simp[execOp,h1.2 rfl,Instr.extract]) (hK _ _ (R.still rfl))
    . simp only[aW,bM] at he;obtain⟨rfl,rfl,rfl⟩:=he;have h1:=st x (λq hq=>hos q (dW _ hq));have hb:b=true:=hos _ (dR _ (fQ.2 rfl));rw[e1] at h1;exact dM (w':=w) (y:=.int .i64 n) (by simp[execOp,h1.1 hb,Instr.extract]) (hK _ _ (R.still rfl))
    . simp only[aW,bM] at he;obtain⟨rfl,rfl,rfl⟩:=he;have h1:=st x (λq hq=>hos q (dW _ hq));have hb:b=true:=hos _ (dR _ (fQ.2 rfl));rw[e1] at h1;exact dM (w':=w) (y:=.int .i32 r) (by simp[execOp,h1.1 hb,Instr.extract]) (hK _ _ (R.still rfl))
    cases he
  cases he
 | call c=>
  obtain⟨callee,nR,ats⟩:=c;simp only at he;have hargs:(∀ q∈(nR.toList.map λx=>(strip (std P) (rd (std P) slots x)).2).flatten,q.run (std P))->∀ (t:Nat) (d:D),(nR.toList.map λx=>(strip (std P) (rd (std P) slots x)).1)[t]? = some d ->
    ∃ y,(nR.toList.map a.eval)[t]? = some y/\Rd w.heap I β objs ctr d y:=by
   intro hq t d ht;rw[qJ] at ht;cases hx:nR.toList[t]? with
   | none=>rw[hx] at ht;cases ht
   | some x=>
    rw[hx] at ht;simp only[iP,aW] at ht;subst ht;exact⟨a.eval x,by rw[qJ,hx];rfl,st x (λq hq2=>hq q (List.mem_flatten.2 ⟨_,Gs.2 ⟨x,VE hx,rfl⟩,hq2⟩))⟩
  cases callee with
  | invoke=>cases he
  | builtin b=>
   simp only at he;replace he:=X5 he;obtain⟨os2,he2,rfl⟩:=lQ he;have hargs:=hargs (λq hq=>hos q (dW _ hq));have JA : ∀ q∈os2,q.run (std P):=λq hq=>hos q (dR _ hq);obtain⟨consts,alo⟩ : ∃ consts,(execOp a.eval ⟨dst,.call ⟨.builtin b,nR,ats⟩,ty,pos,after,guard⟩).run P w=(builtin b ats ty consts (nR.map a.eval)).run P w:=⟨_,rfl⟩
   have hrun : ∀ (r:Result Next),(builtin b ats ty consts (nR.map a.eval)).run P w=r ->
    (execOp a.eval ⟨dst,.call ⟨.builtin b,nR,ats⟩,ty,pos,after,guard⟩).run P w=r:=λr hr=>alo.trans hr
   clear alo;obtain⟨cl⟩:=nR;obtain⟨al⟩:=ats;simp only at he2 hargs;have one : ∀ {x:D},(cl.map λx=>(strip (std P) (rd (std P) slots x)).1)=[x]->∃ v,(cl.map a.eval)=[v]/\Rd w.heap I β objs ctr x v:=by
    intro x hx
    match cl,hx with
    | [c1],hx=>
     simp only[EI,List.map_nil,List.cons.injEq,and_true] at hx;obtain⟨y,y1,y2⟩:=hargs 0 _ rfl;exact⟨_,rfl,by rw[← hx];simp at y1;rw[y1];exact y2⟩
   have two : ∀ {x y:D},(cl.map λx=>(strip (std P) (rd (std P) slots x)).1)=[x,y]->∃ v u,(cl.map a.eval)=[v,u]/\Rd w.heap I β objs ctr x v/\Rd w.heap I β objs ctr y u:=by
    intro x y hx
    match cl,hx with
    | [c1,c2],hx=>
     simp only[EI,List.map_nil,List.cons.injEq,and_true] at hx;obtain⟨y1,y2,y3⟩:=hargs 0 _ rfl;obtain⟨z1,z2,z3⟩:=hargs 1 _ rfl;simp at y2 z2;exact⟨_,_,rfl,by rw[← hx.1,y2];exact y3,by rw[← hx.2,z2];exact z3⟩
   have three : ∀ {x y z:D},(cl.map λx=>(strip (std P) (rd (std P) slots x)).1)=[x,y,z]->∃ v u t,(cl.map a.eval)=[v,u,t]/\Rd w.heap I β objs ctr x v/\Rd w.heap I β objs ctr y u/\Rd w.heap I β objs ctr z t:=by
    intro x y z hx
    match cl,hx with
    | [c1,c2,c3],hx=>
     simp only[EI,List.map_nil,List.cons.injEq,and_true] at hx;obtain⟨y1,y2,y3⟩:=hargs 0 _ rfl;obtain⟨z1,z2,z3⟩:=hargs 1 _ rfl;obtain⟨t1,t2,t3⟩:=hargs 2 _ rfl;simp at y2 z2 t2;exact⟨_,_,_,rfl,by rw[← hx.1,y2];exact y3,by rw[← hx.2.1,z2];exact z3,by rw[← hx.2.2,t2];exact t3⟩
   unfold qG at he2;split at he2
   ·
    rename_i x hx;obtain⟨v,hv,hxv⟩:=one hx;split at he2
    . rename_i t;split at he2
      . rename_i ti ht;have hlen : ∀ z:Value,(Builtin.len_ #[t] ty #[v]).run P w = .ok z w->Rd w.heap I β objs ctr d z->u=[]->Oper.wp P ⟨dst,.call ⟨.builtin .len,⟨cl⟩,⟨[t]⟩⟩,ty,pos,after,guard⟩ a w K Q:=by
         intro z hz hd hu;subst hu;refine dM (y:=z) (w':=w) (hrun _ ?_) (hK _ _ (R.still hd));simp only[builtin,XB,hv,Sem.run_bind,hz,Result.andThen_ok,Sem.run_pure]
        split at he2<;>simp only[aW,bM,reduceCtorEq] at he2
        . rename_i e sz n tg f hk;obtain⟨rfl,rfl,rfl⟩:=he2;obtain⟨ad,len,cap,rfl,x1,_⟩:=hxv;exact hlen (goInt len) (by simp[Builtin.len_,run_underlying (jV hT ht hk)]) (by rw[← x1];rfl) rfl
        . rename_i e id g sz off n hk;obtain⟨rfl,rfl,rfl⟩:=he2;obtain⟨_,⟨ad,len,cap,rfl,x1,_⟩,_⟩:=hxv;exact hlen (goInt len) (by simp[Builtin.len_,run_underlying (jV hT ht hk)]) (by rw[← x1];rfl) rfl
        . rename_i e hk;obtain⟨rfl,rfl,rfl⟩:=he2;cases hxv;exact hlen (goInt 0) (by simp[Builtin.len_,run_underlying (jV hT ht hk)]) rfl rfl
        . rename_i s hk;obtain⟨rfl,rfl,rfl⟩:=he2;cases hxv;exact hlen (goInt s.size) (by simp[Builtin.len_,run_underlying (nH hT ht hk)]) rfl rfl
        rename_i n e hk;obtain⟨rfl,rfl,rfl⟩:=he2;exact hlen (goInt n) (by simp[Builtin.len_,run_underlying (F4 hT ht hk)]) rfl rfl
      cases he2
    cases he2
   ·
    rename_i k1 n1 k2 n2 hx;obtain⟨v1,v2,hv,h1,h2⟩:=two hx;cases h1;cases h2;split at he2
    . rename_i hk;subst hk;simp only[aW,bM] at he2;obtain⟨rfl,rfl,rfl⟩:=he2;refine dM (w':=w) (hrun _ ?_) (hK _ _ (R.still rfl));simp only[builtin,XB,hv,Sem.run_bind];simp[Builtin.min_,Builtin.min2,std]
    cases he2
   ·
    rename_i k1 n1 k2 n2 hx;obtain⟨v1,v2,hv,h1,h2⟩:=two hx;cases h1;cases h2;split at he2
    . rename_i hk;subst hk;simp only[aW,bM] at he2;obtain⟨rfl,rfl,rfl⟩:=he2;refine dM (w':=w) (hrun _ ?_) (hK _ _ (R.still rfl));simp only[builtin,XB,hv,Sem.run_bind];simp[Builtin.max_,Builtin.max2,std]
    cases he2
   . rename_i k1 n1 k2 n2 k3 n3 hx;obtain⟨v1,v2,v3,hv,h1,h2,h3⟩:=three hx;cases h1;cases h2;cases h3;split at he2
     . rename_i hk;obtain⟨hk,hk'⟩:=hk;subst hk;subst hk';simp only[aW,bM] at he2;obtain⟨rfl,rfl,rfl⟩:=he2;refine dM (w':=w) (hrun _ ?_) (hK _ _ (R.still rfl));simp only[builtin,XB,hv,Sem.run_bind];simp[Builtin.min_,Builtin.min2,std]
     cases he2
   . rename_i k1 n1 k2 n2 k3 n3 hx;obtain⟨v1,v2,v3,hv,h1,h2,h3⟩:=three hx;cases h1;cases h2;cases h3;split at he2
     . rename_i hk;obtain⟨hk,hk'⟩:=hk;subst hk;subst hk';simp only[aW,bM] at he2;obtain⟨rfl,rfl,rfl⟩:=he2;refine dM (w':=w) (hrun _ ?_) (hK _ _ (R.still rfl));simp only[builtin,XB,hv,Sem.run_bind];simp[Builtin.max_,Builtin.max2,std]
     cases he2
   ·
    rename_i x y hx;obtain⟨v1,v2,hv,h1,h2⟩:=two hx;split at he2
    . rename_i t u';split at he2
      . rename_i hpl;split at he2
        . rename_i ti ht;split at he2
          . rename_i e hk;split at he2
            . rename_i te hte;split at he2
              . rename_i zs hzs;split at he2
                . cases he2
                rename_i hc;simp only[Oe,not_or,Bool.not_eq_true,Bool.not_eq_false'] at hc;have hl:=dO hc.2;obtain⟨z,w',z1,z2⟩:=aov (ty:=ty) hT R (jV hT ht hk) hpl hte hzs hl he2 JA h1 h2;refine dM (y:=z) (w':=w') (hrun _ ?_) (hK _ _ z2);simp only[builtin,XB,hv,Sem.run_bind,z1,Result.andThen_ok,Sem.run_pure]
              cases he2
            cases he2
          cases he2
        cases he2
      cases he2
    cases he2
   ·
    rename_i x y hx;obtain⟨v1,v2,hv,h1,h2⟩:=two hx;split at he2
    . rename_i t u';split at he2
      . rename_i ti ht;split at he2
        . rename_i e hk;split at he2
          . rename_i te hte;obtain⟨z,w',z1,z2⟩:=asx (ty:=ty) (u:=t) hT R (jV hT ht hk) hte he2 JA h1 h2;refine dM (y:=z) (w':=w') (hrun _ ?_) (hK _ _ z2);have hcp:Builtin.copy_ ⟨t::u'⟩ ty #[v1,v2]=Builtin.copy_ #[t,t] ty #[v1,v2]:=by simp[Builtin.copy_]
            simp only[builtin,XB,hv,Sem.run_bind];rw[hcp,z1];rfl
          cases he2
        cases he2
      cases he2
    cases he2
   cases he2
  | value f=>
   simp only at he;split at he
   . rename_i f' k caps e1;obtain⟨os1,Cm⟩ : ∃ os1,os1=(strip (std P) (rd (std P) slots f)).2++(nR.toList.map λx=>(strip (std P) (rd (std P) slots x)).2).flatten:=⟨_,rfl⟩
     have hsub : ∀ q∈os1,q.run (std P):=by
      rw[Cm] at *;intro q hq;exact amW he q hq hos
     rw[Cm] at hsub;have hargs:=hargs (λq hq=>hsub q (dR _ hq));have hf:=st f (λq hq=>hsub q (dW _ hq));rw[e1] at hf;obtain⟨ys,hf,hys,hcap⟩:=hf;refine aqa (o:=⟨dst,.call ⟨.value f,nR,ats⟩,ty,pos,after,guard⟩) R he hos (vs:=nR.toList.map a.eval++ys.toList) ?_ ?_ ?_ hK
     . simp[abI,hys]
     . intro t d ht;rcases mK t nR.toList.length with hlt|hge
       . rw[sj (by simpa using hlt)] at ht ⊢;exact hargs t d ht
       rw[uZ (by simpa using hge)] at ht ⊢;simp only[List.length_map] at ht ⊢;rw[yL] at ht;split at ht
       . rename_i hlt;cases ht;obtain⟨z,z1,z2⟩:=hcap _ hlt;exact⟨z,by simpa using z1,z2⟩
       cases ht
     have harr:(nR.toList.map a.eval++ys.toList).toArray=nR.map a.eval++ys:=Array.ext' bH;rw[harr];simp[execOp,resolve,hf,Deferred.ofValue,invoke]
   cases he
 | go=>cases he
 | defer=>cases he
 | panic=>cases he
 | send=>cases he
 | recv=>cases he
 | select=>cases he
end
end Go.Vx
