/- Two steps that may change places do: the region's any order comes to the text's order. -/
import Derived.Test.YtmpgicplgjmjkaaGreatDoorVxCode2
set_option linter.all false
namespace Go.Vx
section
variable {P:Program} {tt:TT} {B0:Nat} {h0:Array Obj} {I0:IS} {L:wU} {dB:zU} {m:Nat} {ops:Array Oper}
def Looks(p:Pr)(os:List bC)(d:D)(id G:Nat):Prop :=
 (∃ g,((∃ j,(strip p d).1 = .fq id g j)\/∃ sz i j,(strip p d).1 = .rO id g sz i j)/\(∀ q∈(strip p d).2,q∈os)/\bC.lU g G∈os)\/(ZI (X6 p d).1=true/\(∀ q∈(X6 p d).2,q∈os)/\D5 p id G os (X6 p d).1)
theorem aod{p:Pr}(d:D):(strip p (X6 p d).1).1=(strip p d).1:=by cases d<;>rfl
theorem Xd{p:Pr}{os:List bC}{d:D}{id G:Nat}(h:Looks p os d id G){b:Nat}(hb:idD (strip p d).1=some b):b=id:=by
 rcases h with⟨g,⟨j,hx⟩|⟨sz,i,j,hx⟩,_⟩|⟨h1,_,h2⟩
 . rw[hx] at hb;cases hb;rfl
 . rw[hx] at hb;cases hb
 rw[← aod] at hb;generalize (X6 p d).1=d at h1 h2 hb;unfold ZI at h1;split at h1
 . obtain⟨⟨h3,_⟩,_⟩:=h2;subst h3;cases hb;rfl
 . obtain⟨⟨h3,_⟩,_⟩:=h2;subst h3;cases hb;rfl
 cases h1
theorem aml{h:Array Obj}{I:IS}{β:Nat->Option (Nat×Nat×Array Value)}{objs:List (Option Ob)}{ctr id G:Nat}{os:List bC}(hos : ∀ q∈os,q.run (std P)) : ∀ (d:D) (y:Value),D5 (std P) id G os d->Rd h I β objs ctr d y->Qu objs ctr id G:=by
 intro d
 induction d with
 | fq id' g j=>
  intro y hp hy;obtain⟨rfl,hg⟩:=hp;have hg:g=G:=hos _ hg;subst hg;exact hy.1
 | cnd b x e ih1 ih2=>
  intro y hp hy;cases b with
  | true=>exact ih1 y hp.1 (hy.1 rfl)
  | false=>exact ih2 y hp.2 (hy.2 rfl)
 | _=>intro y hp;exact hp.elim
theorem aoe{h:Array Obj}{I:IS}{β:Nat->Option (Nat×Nat×Array Value)}{objs:List (Option Ob)}{ctr id G:Nat}{os:List bC}{d:D}{y:Value}(hos : ∀ q∈os,q.run (std P))(hl:Looks (std P) os d id G)(hy:Rd h I β objs ctr d y):Qu objs ctr id G:=by
 rcases hl with⟨g,hx,hw,he⟩|⟨_,hw,hp⟩
 . have hg:g=G:=hos _ he;subst hg;have:=Qv _ _ hy (λq hq=>hos q (hw q hq));rcases hx with⟨j,hx⟩|⟨sz,i,j,hx⟩<;>rw[hx] at this<;>exact this.1
 exact aml hos _ y hp (aof hy λq hq=>hos q (hw q hq))
theorem LU{p:Pr}{id g':Nat}{o o':List bC}{x:D}(hs : ∀ q∈o,q∈o'):D5 p id g' o x->D5 p id g' o' x:=by
 induction x with
 | fq=>exact λh=>⟨h.1,hs _ h.2⟩
 | cnd _ _ _ i1 i2=>exact λh=>⟨i1 h.1,i2 h.2⟩
 | _=>exact λh=>h.elim
theorem amm{p:Pr}{id g':Nat}{cs:List D}{ti:TI} : ∀ {a d:D} {os:List bC},Jt p id g' cs ti a=some (d,os)->D5 p id g' os a:=by
 intro a
 induction a with
 | fq id' g j=>
  intro d os h;simp only[Jt] at h;split at h
  . rename_i hid;cases hl:qO ti cs.length j (λj=>cs.getD j .junk) with
    | none=>rw[hl] at h;cases h
    | some dd=>
     rw[hl] at h;simp only[iP,aW,bM] at h;exact⟨dO hid,by rw[← h.2];exact iO ..⟩
  cases h
 | cnd b x e ih1 ih2=>
  intro d os h;simp only[Jt] at h;split at h
  . rename_i d1 o1 d2 o2 e1 e2;simp only[aW,bM] at h;obtain⟨_,rfl⟩:=h;have mono : ∀ {o o':List bC} {x:D},(∀ q∈o,q∈o')->D5 p id g' o x->D5 p id g' o' x:=by
     intro o o' x hs
     induction x with
     | fq=>exact λh=>⟨h.1,hs _ h.2⟩
     | cnd _ _ _ i1 i2=>exact λh=>⟨i1 h.1,i2 h.2⟩
     | _=>exact λh=>h.elim
    exact⟨mono (λq hq=>dW _ hq) (ih1 e1),mono (λq hq=>dR _ hq) (ih2 e2)⟩
  cases h
 | _=>intro d os h;simp[Jt] at h
theorem aog{p:Pr}{id g' n:Nat}{ds:List D} : ∀ {a:D} {c:Bool} {cs cs':List D} {os:List bC},Fe p id g' ds n c a cs=some (cs',os)->D5 p id g' os a:=by
 intro a
 induction a with
 | fq id' g j=>
  intro c cs cs' os h;simp only[Fe] at h;split at h
  . rename_i hid;simp only[ig] at hid;simp only[aW,bM] at h;exact⟨dO hid.1,by rw[← h.2];exact iO ..⟩
  cases h
 | cnd b x e ih1 ih2=>
  intro c cs cs' os h;cases x<;>simp only[Fe] at h<;>try (cases h;done)
  split at h
  . rename_i hid;simp only[ig] at hid;split at h
    . rename_i r o2 e2;simp only[aW,bM] at h;obtain⟨_,rfl⟩:=h;exact⟨⟨dO hid.1,iO ..⟩,LU (λq hq=>gU _ hq) (ih2 e2)⟩
    cases h
  cases h
 | _=>intro c cs cs' os h;simp[Fe] at h
theorem amn{p:Pr}{id g' n:Nat}{ds:List D}{a:D}{cs cs':List D}{os:List bC}(h:aaK p id g' ds n a cs=some (cs',os)):D5 p id g' os a:=by
 unfold aaK at h;split at h
 . rename_i b id' g j e;split at h
   . rename_i hid;simp only[ig] at hid;split at h
     . rename_i r o2 e2;simp only[aW,bM] at h;obtain⟨_,rfl⟩:=h;exact⟨⟨dO hid.1,iO ..⟩,LU (λq hq=>gU _ hq) (aog e2)⟩
     cases h
   cases h
 cases h
theorem Xe{p:Pr}{o:Oper}{key ctr:Nat}{objs:List (Option Ob)}{ρ:Operand->D}{own:List (Nat×Nat)}(hc:cls own o=1\/cls own o=4)
  {d:D} {u:List (Nat×Option Ob)} {os:List bC} (he:kI p tt dB key objs ctr ρ o=some (d,u,os)) :
  u=[]/\∃ t x,o.op = .load t x /\
   (((∀ b,idD (strip p (ρ x)).1=some b->b=4096)/\∀ bN key',kI p tt dB key' bN ctr ρ o=some (d,u,os)) \/
    ∃ id ob,Looks p os (ρ x) id ob.gen/\objs[id]? = some (some ob)/\((∃ b,idD (strip p (ρ x)).1=some b)->∃ g cs,ob = .box g cs) /\
     ∀ bN:List (Option Ob),∀ key',bN[id]? = some (some ob)->kI p tt dB key' bN ctr ρ o=some (d,u,os)):=by
 obtain⟨dst,op,ty,pos,after,guard⟩:=o;cases op
 case load t x=>
  simp only[kI,Qq,KQ,Xc,KR,wE,Qr,KS,AU,KT,qE,wF,AV,GX,KU,Qs,Qt,zV,yI,KW,yJ,KX,yK,KY,DZ,FY] at he ⊢;split at he
  . rename_i ti ht;split at he
    . rename_i hpk;obtain⟨os2,h2,h3⟩:=lQ he;obtain⟨h4,h5⟩:=uE h2;subst h5;refine⟨rfl,t,x,rfl,.inr ?_⟩;unfold ael at h4;split at h4
      . rename_i g' cs dP;refine⟨FZ (X6 p (ρ x)).1,.box g' cs,.inr ⟨hpk,λq hq=>by rw[h3];exact dW _ hq,LU (λq hq=>by rw[h3];exact dR _ hq) (amm h4)⟩,dP,λ_=>⟨_,_,rfl⟩,λbN key' h'=>?_⟩;rw[if_pos hpk];rw[← he];simp only[ael,dP,h']
      cases h4
    rename_i hpk;simp only[if_neg hpk];obtain⟨os2,h2,h3⟩:=lQ he;obtain⟨h4,h5⟩:=uE h2;subst h5;refine⟨rfl,t,x,rfl,?_⟩;unfold yX at h4;split at h4
    . rename_i id g j hx;split at h4
      . rename_i g' cs dP;refine .inr ⟨id,.box g' cs,.inl ⟨g,.inl ⟨j,hx⟩,?_,?_⟩,dP,λ_=>⟨_,_,rfl⟩,?_⟩
        . intro q hq;rw[h3];exact dW _ hq
        . rw[h3];refine dR _ ?_;cases hl:qO ti cs.length j (λj=>cs.getD j .junk) with
          | none=>rw[hl] at h4;cases h4
          | some dd=>rw[hl] at h4;simp only[iP,aW,bM] at h4;rw[← h4.2];exact iO ..
        intro bN key' h';rw[← he];simp only[yX,hx,dP,h']
      cases h4
    . rename_i id g sz i j hx;split at h4
      . rename_i g' sz' N tg f dP;refine .inr ⟨id,.arr g' sz' N tg f,.inl ⟨g,.inr ⟨sz,i,j,hx⟩,?_,?_⟩,dP,λ⟨_,h⟩=>(by rw[hx] at h;cases h),?_⟩
        . intro q hq;rw[h3];exact dW _ hq
        . rw[h3];refine dR _ ?_;split at h4
          . cases hl:qO ti sz j (f i) with
            | none=>rw[hl] at h4;cases h4
            | some dd=>rw[hl] at h4;simp only[iP,aW,bM] at h4;rw[← h4.2];exact iO ..
          cases h4
        intro bN key' h';rw[← he];simp only[yX,hx,dP,h']
      cases h4
    . rename_i sz n f i j hx;refine .inl ⟨λb h=>(by rw[hx] at h;cases h;rfl),λbN key'=>?_⟩;rw[← he];simp only[yX,hx]
    . rename_i hx;refine .inl ⟨λb h=>(by rw[hx] at h;cases h),λbN key'=>?_⟩;rw[← he];simp only[yX,hx]
    cases h4
  cases he
 case call c=>
  simp only[cls] at hc;obtain⟨callee,nR,ats⟩:=c;cases callee with
  | invoke=>simp at hc
  | builtin b=>cases b<;>simp at hc<;>(try (split at hc<;>simp at hc))
  | value f=>
   exfalso;cases f with
   | func f=>simp only at hc;rcases hc with hc|hc<;>(split at hc<;>simp at hc)
   | tmp x=>simp only at hc;rcases hc with hc|hc<;>(repeat' split at hc)<;>simp at hc
   | _=>simp at hc
 case convert u t x=>(rcases hc with hc|hc)<;>(simp only[cls] at hc;split at hc<;>cases hc)
 all_goals simp[cls] at hc
theorem tL{p:Pr}{o:Oper}{key ctr:Nat}{objs:List (Option Ob)}{ρ:Operand->D}{own:List (Nat×Nat)}(hc:cls own o=1\/cls own o=4)
  {d:D} {u:List (Nat×Option Ob)} {os:List bC} (he:kI p tt dB key objs ctr ρ o=some (d,u,os)) :
  u=[]/\∃ t x,o.op = .load t x /\
   ((∀ bN key',kI p tt dB key' bN ctr ρ o=some (d,u,os)) \/
    ∃ id ob,Looks p os (ρ x) id ob.gen/\objs[id]? = some (some ob) /\
     ∀ bN:List (Option Ob),∀ key',bN[id]? = some (some ob)->kI p tt dB key' bN ctr ρ o=some (d,u,os)):=by
 obtain⟨h1,t,x,h2,h3⟩:=Xe hc he;refine⟨h1,t,x,h2,?_⟩;rcases h3 with⟨_,h⟩|⟨id,ob,a,b,_,c⟩
 . exact .inl h
 exact .inr ⟨id,ob,a,b,c⟩
theorem agC{p:Pr}{o:Oper}{key ctr:Nat}{objs:List (Option Ob)}{ρ:Operand->D}{own:List (Nat×Nat)}(hc:cls own o=5)(hρ : ∀ f,ρ (.func f) = .fn (.func f) 0 (λ_=>.junk))(hown:KZ dB own key o)
  {d:D} {u:List (Nat×Option Ob)} {os:List bC} (he:kI p tt dB key objs ctr ρ o=some (d,u,os)):u=[]:=by
 obtain⟨dst,op,ty,pos,after,guard⟩:=o;cases op
 case load t x=>simp only[cls] at hc;split at hc<;>cases hc
 case call c=>
  simp only[cls] at hc;obtain⟨callee,nR,ats⟩:=c;cases callee with
  | invoke=>simp at hc
  | builtin b=>cases b<;>simp at hc<;>(try (split at hc<;>simp at hc))
  | value f=>
   cases f with
   | func f=>
    have hk:=(hown _ rfl).1 f rfl;simp only at hc;have h4:IK own (f+f)=4:=by
     split at hc
     . cases hc
     . cases hc
     . assumption
     . cases hc
     cases hc
    rw[hk] at h4;simp only[kI,FY,hρ,strip,EL] at he;unfold EJ at he;rw[h4] at he;simp only at he;repeat' split at he
    all_goals first|(cases he;done)|(simp only[aW,bM] at he;exact he.2.1.symm)
   | tmp x=>
    exfalso;simp only at hc;repeat' split at hc
    all_goals cases hc
   | _=>simp at hc
 case convert u t x=>(simp only[cls] at hc;split at hc<;>cases hc)
 all_goals simp[cls] at hc
theorem ajh{p:Pr}{o:Oper}{key ctr:Nat}{objs:List (Option Ob)}{ρ:Operand->D}{own:List (Nat×Nat)}(hc:cls own o=6)(hρ : ∀ f,ρ (.func f) = .fn (.func f) 0 (λ_=>.junk))(hown:KZ dB own key o)
  {d:D} {u:List (Nat×Option Ob)} {os:List bC} (he:kI p tt dB key objs ctr ρ o=some (d,u,os)):u=[]\/∃ ob,u=[(key,some ob)]/\ob.gen=ctr/\objs[key]? = some none:=by
 obtain⟨dst,op,ty,pos,after,guard⟩:=o;cases op
 case load t x=>simp only[cls] at hc;split at hc<;>cases hc
 case call c=>
  simp only[cls] at hc;obtain⟨callee,nR,ats⟩:=c;cases callee with
  | invoke=>simp at hc
  | builtin b=>cases b<;>simp at hc<;>(try (split at hc<;>simp at hc))
  | value f=>
   cases f with
   | func f=>
    have hk:=(hown _ rfl).1 f rfl;simp only at hc;have h4:IK own (f+f)=3:=by
     split at hc
     . cases hc
     . cases hc
     . cases hc
     . assumption
     cases hc
    rw[hk] at h4;simp only[kI,FY,hρ,strip,EL] at he;unfold EJ at he;rw[h4] at he;simp only at he;repeat' split at he
    all_goals first|(cases he;done)|(simp only[aW,bM] at he;exact .inl he.2.1.symm)|(obtain⟨h1,_,h2,_⟩:=xW he;exact .inr ⟨_,h2,rfl,h1⟩)
   | tmp x=>
    exfalso;simp only at hc;repeat' split at hc
    all_goals cases hc
   | _=>simp at hc
 case convert u t x=>(simp only[cls] at hc;split at hc<;>cases hc)
 all_goals simp[cls] at hc
theorem pass{oi oj:Oper}{own:List (Nat×Nat)}{ki kj ctr:Nat}{objs:List (Option Ob)}{X7 S9:Operand->D}{di dj:D}{ui uj:List (Nat×Option Ob)}{NW Vi:List bC}
  (hi:KZ dB own ki oi) (hj:KZ dB own kj oj)
  (hm:OU (cls own oi) (cls own oj)=true)
  (apJ : ∀ v,X7 (.const v)=Es v) (amo : ∀ v,S9 (.const v)=Es v)
  (hri : ∀ f,X7 (.func f) = .fn (.func f) 0 (λ_=>.junk)) (hrj : ∀ f,S9 (.func f) = .fn (.func f) 0 (λ_=>.junk))
  (h1:kI (std P) tt dB ki objs ctr X7 oi=some (di,ui,NW))
  (h2:kI (std P) tt dB kj (bX objs ui) ctr S9 oj=some (dj,uj,Vi))
  (hq:cls own oj=1->∀ q∈Vi,q.run (std P))
  (hg : ∀ x id g os,(∀ q∈os,q.run (std P))->Looks (std P) os (S9 x) id g->Qu objs ctr id g) :
  kI (std P) tt dB kj objs ctr S9 oj=some (dj,uj,Vi)/\kI (std P) tt dB ki (bX objs uj) ctr X7 oi=some (di,ui,NW) /\
   bX (bX objs ui) uj=bX (bX objs uj) ui:=by
 have azk:cls own oi=0\/cls own oi=1\/cls own oi=2\/cls own oi=3\/cls own oi=4\/cls own oi=5\/cls own oi=6:=by
  unfold cls;repeat' split
  all_goals simp
 have azl:cls own oj=0\/cls own oj=1\/cls own oj=2\/cls own oj=3\/cls own oj=4\/cls own oj=5\/cls own oj=6:=by
  unfold cls;repeat' split
  all_goals simp
 by_cases hi0:cls own oi=0
 . have e:ui=[]:=(Oz (bN:=objs) hi0 hri hi).2 _ _ _ h1;subst e;exact⟨h2,by rw[← (Oz hi0 hri hi).1];exact h1,rfl⟩
 by_cases hj0:cls own oj=0
 . have e:uj=[]:=(Oz (bN:=objs) hj0 hrj hj).2 _ _ _ h2;subst e;exact⟨by rw[(Oz hj0 hrj hj).1];exact h2,h1,rfl⟩
 by_cases hi6:cls own oi=6
 . have hj1:cls own oj=1:=by
    rcases azl with h|h|h|h|h|h|h<;>first|exact h|(rw[hi6,h] at hm;cases hm;done)|exact absurd h hj0
   obtain⟨e,t,x,hop,hlj⟩:=tL (.inl hj1) h2;subst e;refine⟨?_,h1,rfl⟩;rcases ajh hi6 hri hi h1 with rfl|⟨ob,rfl,hgen,hk⟩
   . exact h2
   have oK:ki<objs.length:=(gZ.1 hk).1;rcases hlj with hlj|⟨id,Vj,hx,dP,hlj⟩
   . exact hlj _ _
   refine hlj _ _ ?_
   by_cases hne:ki=id
   . subst hne;exfalso;simp only[bX] at dP;rw[jd oK] at dP;cases dP;have:=hg x ki ob.gen _ (hq hj1) hx;rcases this with h|⟨_,o',ho',_⟩
     . omega
     rw[hk] at ho';cases ho'
   simp only[bX] at dP
   rwa [jR hne] at dP
 by_cases hj6:cls own oj=6
 . have hi1:cls own oi=1:=by
    rcases azk with h|h|h|h|h|h|h<;>first|exact h|(rw[hj6,h] at hm;cases hm;done)|exact absurd h hi0
   obtain⟨e,t,x,hop,hl⟩:=tL (.inl hi1) h1;subst e;refine⟨h2,?_,rfl⟩;rcases ajh hj6 hrj hj h2 with rfl|⟨ob,rfl,hgen,hk⟩
   . exact h1
   rcases hl with hl|⟨id,Vj,_,dP,hl⟩
   . exact hl _ _
   refine hl _ _ ?_;have hne:kj≠id:=by
    intro h;subst h;simp only[bX] at hk;rw[dP] at hk;cases hk
   simp only[bX];rw[jR hne];exact dP
 have auP:cls own oi=0\/cls own oi=1\/cls own oi=2\/cls own oi=3\/cls own oi=4\/cls own oi=5:=by grind
 have auQ:cls own oj=0\/cls own oj=1\/cls own oj=2\/cls own oj=3\/cls own oj=4\/cls own oj=5:=by grind
 have quiet:(cls own oi=5\/cls own oj=5)->ui=[]/\uj=[]:=by
  intro h5;constructor
  . rcases auP with h|h|h|h|h|h
    . exact absurd h hi0
    . exact(tL (.inl h) h1).1
    . rw[h] at hm h5;rcases h5 with h5|h5
      . cases h5
      rw[h5] at hm;cases hm
    . rw[h] at hm h5;rcases h5 with h5|h5
      . cases h5
      rw[h5] at hm;cases hm
    . exact(tL (.inr h) h1).1
    exact agC h hri hi h1
  rcases auQ with h|h|h|h|h|h
  . exact absurd h hj0
  . exact(tL (.inl h) h2).1
  . rw[h] at hm h5;rcases h5 with h5|h5
    . rw[h5] at hm;cases hm
    cases h5
  . rw[h] at hm h5;rcases h5 with h5|h5
    . rw[h5] at hm;cases hm
    cases h5
  . exact(tL (.inr h) h2).1
  exact agC h hrj hj h2
 by_cases hv:cls own oi=5\/cls own oj=5
 . obtain⟨e1,e2⟩:=quiet hv;subst e1;subst e2;exact⟨h2,h1,rfl⟩
 have hci:cls own oi=0\/cls own oi=1\/cls own oi=2\/cls own oi=3\/cls own oi=4:=by
  rcases auP with h|h|h|h|h|h
  . exact .inl h
  . exact .inr (.inl h)
  . exact .inr (.inr (.inl h))
  . exact .inr (.inr (.inr (.inl h)))
  . exact .inr (.inr (.inr (.inr h)))
  exact absurd (.inl h) hv
 have hcj:cls own oj=0\/cls own oj=1\/cls own oj=2\/cls own oj=3\/cls own oj=4:=by
  rcases auQ with h|h|h|h|h|h
  . exact .inl h
  . exact .inr (.inl h)
  . exact .inr (.inr (.inl h))
  . exact .inr (.inr (.inr (.inl h)))
  . exact .inr (.inr (.inr (.inr h)))
  exact absurd (.inr h) hv
 by_cases hil:cls own oi=1\/cls own oi=4
 . obtain⟨e,t,x,hop,hl⟩:=tL hil h1;subst e;refine⟨h2,?_,rfl⟩
   by_cases hjl:cls own oj=1\/cls own oj=4
   . obtain⟨e,_⟩:=tL hjl h2;subst e;exact h1
   have hj2:cls own oj=2:=by
    rcases hcj with h|h|h|h|h
    . exact absurd h hj0
    . exact absurd (.inl h) hjl
    . exact h
    . rw[h] at hm;rcases hil with h|h<;>rw[h] at hm<;>cases hm
    exact absurd (.inr h) hjl
   rcases Js hj2 amo hrj hj h2 with⟨rfl,_⟩|⟨ob,rfl,hgen,hk,_⟩
   . exact h1
   rcases hl with hl|⟨id,Vj,_,dP,hl⟩
   . exact hl _ _
   refine hl _ _ ?_;have hne:kj≠id:=by
    intro h;subst h;simp only[bX] at hk;rw[dP] at hk;cases hk
   simp only[bX];rw[jR hne];exact dP
 have hi2:cls own oi=2:=by
  rcases hci with h|h|h|h|h
  . exact absurd h hi0
  . exact absurd (.inl h) hil
  . exact h
  . rw[h] at hm;simp[OU,hj0] at hm
  exact absurd (.inr h) hil
 rcases Js hi2 apJ hri hi h1 with⟨rfl,hl⟩|⟨ob,rfl,hgen,hk,hl⟩
 . exact⟨h2,hl _,rfl⟩
 have oK:ki<objs.length:=(gZ.1 hk).1
 by_cases hj1:cls own oj=1
 . obtain⟨e,t,x,hop,hlj⟩:=tL (.inl hj1) h2;subst e;refine⟨?_,h1,rfl⟩;rcases hlj with hlj|⟨id,Vj,hx,dP,hlj⟩
   . exact hlj _ _
   refine hlj _ _ ?_
   by_cases hne:ki=id
   . subst hne;exfalso;simp only[bX] at dP;rw[jd oK] at dP;cases dP;have:=hg x ki ob.gen _ (hq hj1) hx;rcases this with h|⟨_,o',ho',_⟩
     . omega
     rw[hk] at ho';cases ho'
   simp only[bX] at dP
   rwa [jR hne] at dP
 have hj2:cls own oj=2:=by
  rcases hcj with h|h|h|h|h
  . exact absurd h hj0
  . exact absurd h hj1
  . exact h
  . rw[h] at hm;rw[hi2] at hm;cases hm
  rw[h] at hm;rw[hi2] at hm;cases hm
 rcases Js hj2 amo hrj hj h2 with⟨rfl,hl'⟩|⟨Vj,rfl,aA8,hk',hl'⟩
 . exact⟨hl' _,h1,rfl⟩
 simp only[bX] at hk';have hne:ki≠kj:=by
  intro h;subst h;rw[jd oK] at hk';cases hk'
 rw[jR hne] at hk';refine⟨hl' _ hk',hl _ ?_,?_⟩
 . simp only[bX];rw[jR (Ne.symm hne)];exact hk
 simp only[bX];exact List.set_comm _ _ hne
theorem AX{p:Pr}{o:Oper}{key ctr:Nat}{objs:List (Option Ob)}{ρ:Operand->D}(hs:GY o=true)
  {d:D} {u:List (Nat×Option Ob)} {os:List bC} (he:kI p tt dB key objs ctr ρ o=some (d,u,os)) :
  ∃ t x y id ob Vj,o.op = .store t x y/\(∀ b,jT p ρ o=some b->b=id/\(∃ g cs,ob = .box g cs)/\∃ g cs,Vj = .box g cs)/\u=[(id,some Vj)]/\objs[id]? = some (some ob)/\Looks p os (ρ x) id ob.gen /\
   ∀ bN:List (Option Ob),∀ key',bN[id]? = some (some ob)->kI p tt dB key' bN ctr ρ o=some (d,u,os):=by
 obtain⟨dst,op,ty,pos,after,guard⟩:=o;cases op
 case store t x y=>
  simp only[kI,Qq,KQ,Xc,KR,wE,Qr,KS,AU,KT,qE,wF,AV,GX,KU,Qs,Qt,zV,yI,KW,yJ,KX,yK,KY,DZ,FY] at he ⊢;split at he
  . rename_i ti ht;split at he
    . rename_i hpk;obtain⟨os2,h2,h3⟩:=lQ he;unfold ZJ at h2;split at h2
      . rename_i ds g' cs hds dP;split at h2
        . rename_i cs' os3 hp;simp only[aW,bM] at h2;obtain⟨rfl,rfl,rfl⟩:=h2;have hu:X6 p (ρ x)=(ρ x,[]):=by
           unfold ZI at hpk;split at hpk
           . rename_i e;rw[e];rfl
           . rename_i e;rw[e];rfl
           cases hpk
          have hl:Looks p os (ρ x) (FZ (ρ x)) g':=.inr ⟨by rw[hu];exact hpk,λq hq=>(by rw[hu] at hq;cases hq),by rw[hu];exact LU (λq hq=>by rw[h3];exact dR _ hq) (amn hp)⟩;refine⟨t,x,y,FZ (ρ x),.box g' cs,_,rfl,λb hb=>⟨Xd hl hb,⟨_,_,rfl⟩,⟨_,_,rfl⟩⟩,rfl,dP,hl,λbN key' h'=>?_⟩;rw[if_pos hpk];rw[← he];simp only[ZJ,hds,dP,h']
        cases h2
      cases h2
    rename_i hpk;simp only[if_neg hpk];obtain⟨os2,h2,h3⟩:=lQ he;unfold Vk at h2;split at h2
    . cases h2
    rename_i ds hds;split at h2
    . rename_i id g j hx;split at h2
      . rename_i g' cs dP;split at h2
        . rename_i hlen;simp only[aW,bM] at h2;obtain⟨rfl,rfl,rfl⟩:=h2;refine⟨t,x,y,id,.box g' cs,_,rfl,λb hb=>⟨by simp only[jT,hx,idD] at hb;cases hb;rfl,⟨_,_,rfl⟩,⟨_,_,rfl⟩⟩,rfl,dP,.inl ⟨g,.inl ⟨j,hx⟩,λq hq=>?_,?_⟩,λbN key' h'=>?_⟩
          . rw[h3];exact dW _ (dW _ hq)
          . rw[h3];exact dR _ (fQ.2 rfl)
          rw[← he];simp only[Vk,hds,hx,dP,h']
        cases h2
      cases h2
    . rename_i id g sz i j hx;split at h2
      . rename_i g' sz' n tg f dP;split at h2
        . rename_i hlen;simp only[aW,bM] at h2;obtain⟨rfl,rfl,rfl⟩:=h2;refine⟨t,x,y,id,.arr g' sz' n tg f,_,rfl,λb hb=>(by simp only[jT,hx,idD] at hb;cases hb),rfl,dP,.inl ⟨g,.inr ⟨sz,i,j,hx⟩,λq hq=>?_,?_⟩,λbN key' h'=>?_⟩
          . rw[h3];exact dW _ (dW _ hq)
          . rw[h3];exact dR _ (fQ.2 rfl)
          rw[← he];simp only[Vk,hds,hx,dP,h']
        cases h2
      cases h2
    cases h2
  cases he
 all_goals simp[GY] at hs
def Di(objs bN:List (Option Ob)):Prop:=∀ k:Nat,bN[k]? = objs[k]?\/(∃ g cs,objs[k]? = some (some (.box g cs)))/\∃ g cs,bN[k]? = some (some (.box g cs))
theorem Di.of{objs bN:List (Option Ob)}(h:Di objs bN){k:Nat}{o:Option Ob}(hk:objs[k]? = some o)(hb : ∀ g cs,o≠some (.box g cs)):bN[k]? = some o:=by
 rcases h k with h|⟨⟨g,cs,h⟩,_⟩
 . rw[h];exact hk
 rw[hk] at h;cases h;exact absurd rfl (hb g cs)
theorem acG{p:Pr}{objs bN:List (Option Ob)}(h:Di objs bN){sz:Nat}{y:D}{r:Int×(Int->Nat->D)×List bC}(he:zM p objs sz y=some r):zM p bN sz y=some r:=by
 unfold zM at he ⊢;split at he
 . exact he
 . exact he
 . split at he
   . rename_i g' Fg _ _ f dP;rw[h.of dP (λ_ _=>by simp)];exact he
   cases he
 . exact he
 cases he
theorem Qw{p:Pr}{objs bN:List (Option Ob)}(h:Di objs bN){sz:Nat}{x y:D}{r:Int×(Int->Nat->D)×List bC}(he:afQ p objs sz x y=some r):afQ p bN sz x y=some r:=by
 unfold afQ at he ⊢;split at he
 . split at he
   . rename_i id g0 s0 off n0 _;split at he
     . rename_i _ _ _ _ f dP;rw[h.of dP (λ_ _=>by simp)];exact he
     rename_i hno;have e:zM p bN sz .dX=some r:=acG h he;split
     . rename_i _ _ _ _ f dP;rcases h id with h2|⟨⟨g,cs,h2⟩,g',cs',h3⟩
       . rw[dP] at h2;exact absurd h2.symm (hno _ _ _ _ _)
       rw[dP] at h3;cases h3
     exact e
   exact acG h he
 exact acG h he
def aoh(objs:List (Option Ob))(u:List (Nat×Option Ob)):Prop:=∀ k o,(k,o)∈u->(∀ g cs,objs[k]?≠some (some (.box g cs)))/\∀ g cs,o≠some (.box g cs)
theorem aks{p:Pr}{objs:List (Option Ob)}{ctr key sz bytes:Nat}{owned:Bool}{x y d:D}{u:List (Nat×Option Ob)}{os:List bC}(he:xq p objs ctr key sz bytes owned x y=some (d,u,os)) :
  aoh objs u/\∀ bN,Di objs bN->xq p bN ctr key sz bytes owned x y=some (d,u,os):=by
 have off1 : ∀ {k:Nat} {o o2:Option Ob},objs[k]? = some o->(∀ g cs,o≠some (.box g cs))->(∀ g cs,o2≠some (.box g cs))->(∀ g cs,objs[k]?≠some (some (.box g cs)))/\∀ g cs,o2≠some (.box g cs):=by
  intro k o o2 h1 h2 h3;exact⟨λg cs h=>h2 g cs (by rw[h1] at h;exact Xf h),h3⟩
 unfold xq at he;split at he
 . cases he
 rename_i m h os1 hs;split at he
 . split at he
   . rename_i hk;simp only[aW,bM] at he;obtain⟨rfl,rfl,rfl⟩:=he;refine⟨λk o hm=>?_,λbN hb=>?_⟩
     . simp only[fQ,bM] at hm;obtain⟨rfl,rfl⟩:=hm;exact off1 hk (λ_ _ h=>by cases h) (λ_ _ h=>by cases h)
     simp only[xq,Qw hb hs,hb.of hk (λ_ _ h=>by cases h)]
   cases he
 . split at he
   . rename_i hsz;split at he
     . rename_i how;split at he
       . rename_i hk;simp only[aW,bM] at he;obtain⟨rfl,rfl,rfl⟩:=he;refine⟨λk o hm=>?_,λbN hb=>?_⟩
         . simp only[fQ,bM] at hm;obtain⟨rfl,rfl⟩:=hm;exact off1 hk (λ_ _ h=>by cases h) (λ_ _ h=>by cases h)
         simp only[xq,Qw hb hs,hb.of hk (λ_ _ h=>by cases h),hsz,how,if_true]
       cases he
     rename_i how;simp only[aW,bM] at he;obtain⟨rfl,rfl,rfl⟩:=he;exact⟨λk o hm=>(by cases hm),λbN hb=>(by simp only[xq,Qw hb hs,hsz,if_true,if_neg how])⟩
   cases he
 . split at he
   . rename_i dP;split at he
     . rename_i hsz;split at he
       . rename_i hid;simp only[aW,bM] at he;obtain⟨rfl,rfl,rfl⟩:=he;refine⟨λk o hm=>?_,λbN hb=>?_⟩
         . simp only[fQ,bM] at hm;obtain⟨rfl,rfl⟩:=hm;rw[dO hid] at dP;exact off1 dP (λ_ _ h=>by cases h) (λ_ _ h=>by cases h)
         simp only[xq,Qw hb hs,hb.of dP (λ_ _ h=>by cases h),hsz,hid,if_true]
       rename_i hid;split at he
       . rename_i hk;simp only[aW,bM] at he;obtain⟨rfl,rfl,rfl⟩:=he;refine⟨λk o hm=>?_,λbN hb=>?_⟩
         . simp only[CU,List.mem_nil_iff,or_false,bM] at hm;rcases hm with⟨rfl,rfl⟩|⟨rfl,rfl⟩
           . exact off1 dP (λ_ _ h=>by cases h) (λ_ _ h=>by cases h)
           exact off1 hk (λ_ _ h=>by cases h) (λ_ _ h=>by cases h)
         simp only[xq,Qw hb hs,hb.of dP (λ_ _ h=>by cases h),hb.of hk (λ_ _ h=>by cases h),hsz,if_true,if_neg hid]
       cases he
     cases he
   cases he
 cases he
theorem acH{p:Pr}{o:Oper}{key ctr:Nat}{objs:List (Option Ob)}{ρ:Operand->D}(ha:isApp o=true)
  {d:D} {u:List (Nat×Option Ob)} {os:List bC} (he:kI p tt dB key objs ctr ρ o=some (d,u,os)) :
  aoh objs u/\∀ bN,Di objs bN->kI p tt dB key bN ctr ρ o=some (d,u,os):=by
 obtain⟨dst,op,ty,pos,after,guard⟩:=o;cases op with
 | call c=>
  obtain⟨callee,nR,ats⟩:=c;cases callee with
  | builtin b=>
   cases b<;>try (simp[isApp] at ha;done)
   case append=>
    simp only[isApp,Ij] at ha;simp only[kI,FY,ha,Bool.false_and,oL,if_false] at he ⊢;obtain⟨os2,h2,rfl⟩:=lQ he;generalize (nR.toList.map λx=>(strip p (ρ x)).1)=l at h2 ⊢
    match l,h2 with
    | [x,y],h2=>
     simp only[qG] at h2 ⊢;split at h2
     . rename_i t u2 apI;split at h2
       . rename_i hps;split at h2
         . rename_i ti ht;split at h2
           . rename_i e hk;split at h2
             . rename_i te hte;split at h2
               . rename_i z hz;split at h2
                 . cases h2
                 rename_i hsz;obtain⟨a1,a2⟩:=aks h2;refine⟨a1,λbN hb=>?_⟩;simp only[apI,hps,ht,hk,hte,hz,if_true,if_neg hsz,a2 bN hb,MW,iP]
               cases h2
             cases h2
           cases h2
         cases h2
       cases h2
     cases h2
    | [],h2=>simp[qG] at h2
    | [_],h2=>simp[qG] at h2
    | _::_::_::_,h2=>simp[qG] at h2
  | _=>simp[isApp] at ha
 | convert u t x=>
  simp only[isApp] at ha;simp only[kI,zV,ha,if_true] at he ⊢;split at he
  . rename_i ti ht;split at he
    . rename_i e id g sz off n hk hx;split at he
      . rename_i te g' sz' n' t' f hte dP;split at he
        . rename_i hk8;split at he
          . rename_i hsz;simp only[aW,bM] at he;obtain⟨rfl,rfl,rfl⟩:=he;refine⟨λk o hm=>?_,λbN hb=>?_⟩
            . simp only[fQ,bM] at hm;obtain⟨rfl,rfl⟩:=hm;exact⟨λg cs h=>(by rw[dP] at h;cases h),λg cs h=>(by cases h)⟩
            simp only[ht,hk,hx,hte,hb.of dP (λ_ _ h=>by cases h),hk8,hsz,if_true]
          cases he
        cases he
      cases he
    cases he
  cases he
 | _=>simp[isApp] at ha
theorem F3{objs:List (Option Ob)}{a:Nat} : ∀ {u:List (Nat×Option Ob)},(∀ k o,(k,o)∈u->k≠a)->(bX objs u)[a]? = objs[a]?:=by
 intro u
 induction u generalizing objs with
 | nil=>intro _;rfl
 | cons x u ih=>
  intro h;obtain⟨k,o⟩:=x;rw[bX,ih (λk' o' hm=>h k' o' (gU _ hm)),jR (h k o (iO ..))]
theorem ZK{a:Nat}{x:Option Ob} : ∀ {objs:List (Option Ob)} {u:List (Nat×Option Ob)},(∀ k o,(k,o)∈u->k≠a)->bX (objs.set a x) u=(bX objs u).set a x:=by
 intro objs u
 induction u generalizing objs with
 | nil=>intro _;rfl
 | cons y u ih=>
  intro h;obtain⟨k,o⟩:=y;rw[bX,bX,List.set_comm _ _ (Ne.symm (h k o (iO ..))),ih (λk' o' hm=>h k' o' (gU _ hm))]
theorem abF{a g:Nat}{cs:List D} : ∀ {objs:List (Option Ob)} {u:List (Nat×Option Ob)},(bX objs u)[a]? = some (some (.box g cs))->(∀ k o,(k,o)∈u->∀ g cs,o≠some (.box g cs))->∀ k o,(k,o)∈u->k≠a:=by
 intro objs u
 induction u generalizing objs with
 | nil=>intro _ _ k o hm;cases hm
 | cons y u ih=>
  intro h hn k o hm;obtain⟨k1,o1⟩:=y;have ih':=ih (objs:=objs.set k1 o1) h (λk' o' hm'=>hn k' o' (gU _ hm'));rcases CU.1 hm with e|hm'
  . cases e;intro hka;subst hka;rw[bX,F3 ih'] at h;rw[List.getElem?_set] at h;simp only[if_true] at h;split at h
    . exact hn _ _ (iO ..) g cs (Xf h)
    cases h
  exact ih' k o hm'
theorem Di.set{objs:List (Option Ob)}{a:Nat}{g g2:Nat}{cs cs2:List D}(h:objs[a]? = some (some (.box g cs))):Di objs (objs.set a (some (.box g2 cs2))):=by
 intro k
 by_cases hk:a=k
 . subst hk;exact .inr ⟨⟨g,cs,h⟩,g2,cs2,jd (gZ.1 h).1⟩
 exact .inl (jR hk)
theorem Di.symm{objs bN:List (Option Ob)}(h:Di objs bN):Di bN objs:=λk=>(h k).imp Eq.symm λx=>⟨x.2,x.1⟩
theorem asl{oi oj:Oper}{own:List (Nat×Nat)}{ki kj ctr:Nat}{objs:List (Option Ob)}{X7 S9:Operand->D}{di dj:D}{ui uj:List (Nat×Option Ob)}{NW Vi:List bC}
  (hi:KZ dB own ki oi) (hj:KZ dB own kj oj)
  (hf:(cls own oi=1/\GY oj=true/\∃ a b,jT (std P) X7 oi=some a/\jT (std P) S9 oj=some b/\a≠b)\/(GY oi=true/\cls own oj=1/\∃ a b,jT (std P) X7 oi=some a/\jT (std P) S9 oj=some b/\a≠b) \/
   (cls own oi=2/\GY oj=true)\/(GY oi=true/\cls own oj=2)\/((cls own oi=1\/GY oi=true)/\isApp oj=true/\∃ a,jT (std P) X7 oi=some a/\a≠4096)\/(isApp oi=true/\(cls own oj=1\/GY oj=true)/\∃ b,jT (std P) S9 oj=some b/\b≠4096))
  (apJ : ∀ v,X7 (.const v)=Es v) (amo : ∀ v,S9 (.const v)=Es v)
  (hri : ∀ f,X7 (.func f) = .fn (.func f) 0 (λ_=>.junk)) (hrj : ∀ f,S9 (.func f) = .fn (.func f) 0 (λ_=>.junk))
  (h1:kI (std P) tt dB ki objs ctr X7 oi=some (di,ui,NW))
  (h2:kI (std P) tt dB kj (bX objs ui) ctr S9 oj=some (dj,uj,Vi))
  (hq:GY oj=true->∀ q∈Vi,q.run (std P))
  (hg : ∀ x id g os,(∀ q∈os,q.run (std P))->Looks (std P) os (S9 x) id g->Qu objs ctr id g) :
  kI (std P) tt dB kj objs ctr S9 oj=some (dj,uj,Vi)/\kI (std P) tt dB ki (bX objs uj) ctr X7 oi=some (di,ui,NW) /\
   bX (bX objs ui) uj=bX (bX objs uj) ui:=by
 rcases hf with⟨c1,c2,a,b,ha,hb,hab⟩|⟨c1,c2,a,b,ha,hb,hab⟩|⟨c1,c2⟩|⟨c1,c2⟩|⟨c1,c2,a,ha,hne⟩|⟨c1,c2,b,hb,hne⟩
 . obtain⟨rfl,t,x,hop,hl⟩:=tL (.inl c1) h1;obtain⟨t',x',y',id',ob,Vj,hop',hid,rfl,dP,_,_⟩:=AX c2 h2;obtain rfl:=(hid b hb).1;refine⟨h2,?_,rfl⟩;rcases hl with hl|⟨id,obl,hx,Qx,hl⟩
   . exact hl _ _
   have e:a=id:=by
    unfold jT at ha;rw[hop] at ha;exact Xd hx ha
   subst e;refine hl _ _ ?_;simp only[bX];rw[jR (Ne.symm hab)];exact Qx
 . obtain⟨t',x',y',id',ob,Vj,hop',hid,rfl,dP,_,_⟩:=AX c1 h1;obtain rfl:=(hid a ha).1;obtain⟨rfl,t,x,hop,hl⟩:=tL (.inl c2) h2;refine⟨?_,h1,rfl⟩;rcases hl with hl|⟨id,obl,hx,Qx,hl⟩
   . exact hl _ _
   have e:b=id:=by
    unfold jT at hb;rw[hop] at hb;exact Xd hx hb
   subst e;refine hl _ _ ?_;simp only[bX] at Qx
   rwa [jR hab] at Qx
 . rcases Js c1 apJ hri hi h1 with⟨rfl,hl⟩|⟨ob,rfl,hgen,hk,hl⟩
   . exact⟨h2,hl _,rfl⟩
   have oK:ki<objs.length:=(gZ.1 hk).1;obtain⟨t',x',y',id',obs,Vj,hop',hid,rfl,dP,hx,hls⟩:=AX c2 h2;have hne:ki≠id':=by
    intro h;subst h;simp only[bX] at dP;rw[jd oK] at dP;cases dP;have:=hg x' ki ob.gen _ (hq c2) hx;rcases this with h|⟨_,o',ho',_⟩
    . omega
    rw[hk] at ho';cases ho'
   simp only[bX] at dP;rw[jR hne] at dP;refine⟨hls _ _ dP,hl _ ?_,?_⟩
   . simp only[bX];rw[jR (Ne.symm hne)];exact hk
   simp only[bX];exact List.set_comm _ _ hne
 . obtain⟨t',x',y',id',obs,Vj,hop',hid,rfl,dP,hx,hls⟩:=AX c1 h1;have hlt:id'<objs.length:=(gZ.1 dP).1;rcases Js c2 amo hrj hj h2 with⟨rfl,hl⟩|⟨ob,rfl,hgen,hk,hl⟩
   . exact⟨hl _,h1,rfl⟩
   have hne:id'≠kj:=by
    intro h;subst h;simp only[bX] at hk;rw[jd hlt] at hk;cases hk
   simp only[bX] at hk;rw[jR hne] at hk;refine⟨hl _ hk,hls _ _ ?_,?_⟩
   . simp only[bX];rw[jR (Ne.symm hne)];exact dP
   simp only[bX];exact List.set_comm _ _ hne
 . rcases c1 with c1|c1
   . obtain⟨rfl,t,x,hop,hl⟩:=Xe (.inl c1) h1;obtain⟨off,ind⟩:=acH c2 h2;unfold jT at ha;rw[hop] at ha;rcases hl with⟨h4,_⟩|⟨id,obl,hx,Qx,hbx,hl⟩
     . exact absurd (h4 a ha) hne
     obtain rfl:=Xd hx ha;obtain⟨g,cs,rfl⟩:=hbx ⟨a,ha⟩;refine⟨h2,hl _ _ ?_,rfl⟩;rw[F3 (λk o hm hk=>(off k o hm).1 g cs (by rw[hk];exact Qx))];exact Qx
   obtain⟨t',x',y',id',ob,Vj,hop',hid,rfl,dP,_,hls⟩:=AX c1 h1;obtain⟨e,⟨g,cs,rfl⟩,g2,cs2,rfl⟩:=hid a ha;obtain⟨off,ind⟩:=acH c2 h2;have hb:Di objs (objs.set id' (some (.box g2 cs2))):=Di.set dP;have hk : ∀ k o,(k,o)∈uj->k≠id':=λk o hm hk=>(off k o hm).1 g2 cs2 (by
    rw[hk];exact jd (gZ.1 dP).1)
   refine⟨ind _ hb.symm,hls _ _ ?_,?_⟩
   . rw[F3 hk];exact dP
   exact ZK hk
 obtain⟨off,ind⟩:=acH c1 h1;rcases c2 with c2|c2
 . obtain⟨rfl,t,x,hop,hl⟩:=Xe (.inl c2) h2;unfold jT at hb;rw[hop] at hb;rcases hl with⟨h4,_⟩|⟨id,obl,hx,Qx,hbx,hl⟩
   . exact absurd (h4 b hb) hne
   obtain⟨g,cs,rfl⟩:=hbx ⟨b,hb⟩;have hk:=abF Qx (λk o hm=>(off k o hm).2);rw[F3 hk] at Qx;exact⟨hl _ _ Qx,h1,rfl⟩
 obtain⟨t',x',y',id',ob,Vj,hop',hid,rfl,dP,_,hls⟩:=AX c2 h2;obtain⟨e,⟨g,cs,rfl⟩,g2,cs2,rfl⟩:=hid b hb;have hk:=abF dP (λk o hm=>(off k o hm).2);rw[F3 hk] at dP;exact⟨hls _ _ dP,ind _ (Di.set dP),(ZK hk).symm⟩
theorem ZL{p:Pr}{o:Oper}{ρ ρ':Operand->D}(h : ∀ x∈o.op.operands,ρ x=ρ' x):jT p ρ o=jT p ρ' o:=by
 unfold jT;cases hop:o.op with
 | load t x=>simp only;rw[h x (by rw[hop];simp[Op.operands])]
 | store t x y=>simp only;rw[h x (by rw[hop];simp[Op.operands])]
 | _=>rfl
theorem aem{p:Pr}{slots:List D}{dst:Option Nat}{d:D}{x:Operand}(h : ∀ t,dst=some t->x≠.tmp t):rd p (ku slots dst d) x=rd p slots x:=by
 cases dst with
 | none=>rfl
 | some t=>
  cases x with
  | tmp s=>
   have hne:t≠s:=λe=>h t rfl (e▸rfl);simp only[rd,ku,List.getD,jR hne]
  | _=>rfl
theorem agE{p:Pr}{o:Oper}{slots:List D}{dst:Option Nat}{d:D}{g:Nat×Bool}(hg:o.guard=some g)(h : ∀ t,dst=some t->t∉o.looksAt ops) :
  SX p ops (ku slots dst d) g=SX p ops slots g:=by
 unfold SX;split
 . rename_i tg htg;have:(ku slots dst d).getD tg .junk=slots.getD tg .junk:=by
    cases dst with
    | none=>rfl
    | some t=>
     have hne:t≠tg:=by
      intro e;subst e;refine h t rfl ?_;unfold Oper.looksAt;simp only[hg,CJ];right;obtain⟨gi,gb⟩:=g;simp only at htg ⊢;simp[htg]
     simp only[ku,List.getD,jR hne]
   rw[this]
 rfl
theorem Ta{o:Oper}{x:Operand}{t:Nat}(h:t∉o.looksAt ops)(hx:x∈o.op.operands):x≠.tmp t:=by
 intro e;subst e;refine h ?_;unfold Oper.looksAt;simp only[CJ,List.mem_filterMap];exact .inl ⟨_,by simpa using hx,rfl⟩
theorem akt{oi oj:Oper}{own:List (Nat×Nat)}{jU:List (Option Nat)}{i j:Nat}{st ZM sij:St}{NW Vi:List bC}{a:Act}{w:World}(R:RS B0 h0 I0 L st a w)
  (hi:KZ dB own (m+oi.dst.getD 0) oi) (hj:KZ dB own (m+oj.dst.getD 0) oj)
  (hm:OU (cls own oi) (cls own oj)=true\/acI own jU oi oj i j=true) (hAi : ∀ a,jU.getD i none=some a->jT (std P) (rd (std P) st.slots) oi=some a) (hAj : ∀ a,jU.getD j none=some a->jT (std P) (rd (std P) ZM.slots) oj=some a) (hap:oi.apart ops oj=true)
  (h1:xV (std P) tt dB m ops oi st=some (ZM,NW)) (h2:xV (std P) tt dB m ops oj ZM=some (sij,Vi)) (hq : ∀ q∈Vi,q.run (std P)) :
  ∃ stj,xV (std P) tt dB m ops oj st=some (stj,Vi)/\xV (std P) tt dB m ops oi stj=some (sij,NW)/\jT (std P) (rd (std P) stj.slots) oi=jT (std P) (rd (std P) st.slots) oi/\jT (std P) (rd (std P) ZM.slots) oj=jT (std P) (rd (std P) st.slots) oj:=by
 obtain⟨a1,a2,a3⟩:=Oper.apart_spec hap;obtain⟨di,ui,azm,di',e1,rfl,c1⟩:=Oy h1;obtain⟨dj,uj,auT,dj',e2,rfl,c2⟩:=Oy h2;simp only at e2 c2 hAj;have hoj:jT (std P) (rd (std P) (ku st.slots oi.dst di')) oj=jT (std P) (rd (std P) st.slots) oj:=ZL λx hx=>aem λt ht=>Ta (a1 t ht) hx;rw[hoj] at hAj;have hρ:kI (std P) tt dB (m+oj.dst.getD 0) (bX st.objs ui) st.ctr (rd (std P) st.slots) oj=some (dj,uj,auT):=by
  rw[← e2];refine aei λx hx=>(aem λt ht=>?_).symm;exact Ta (a1 t ht) hx
 obtain⟨I,β,R⟩:=R;have hgx : ∀ x id g os,(∀ q∈os,q.run (std P))->Looks (std P) os (rd (std P) st.slots x) id g->Qu st.objs st.ctr id g:=λx id g os hos hx=>aoe hos hx (R.eval x);obtain⟨p1,p2,p3⟩:kI (std P) tt dB (m+oj.dst.getD 0) st.objs st.ctr (rd (std P) st.slots) oj=some (dj,uj,auT)/\kI (std P) tt dB (m+oi.dst.getD 0) (bX st.objs uj) st.ctr (rd (std P) st.slots) oi=some (di,ui,azm)/\bX (bX st.objs ui) uj=bX (bX st.objs uj) ui:=by
  rcases hm with hm|hm
  rotate_left
  . refine asl hi hj ?_ (λ_=>rfl) (λ_=>rfl) (λ_=>rfl) (λ_=>rfl) e1 hρ ?_ hgx
    . have two:aen (jU.getD i none) (jU.getD j none)=true->∃ a b,jT (std P) (rd (std P) st.slots) oi=some a/\jT (std P) (rd (std P) st.slots) oj=some b/\a≠b:=by
       intro h;cases ha:jU.getD i none with
       | none=>rw[ha] at h;cases h
       | some a=>
        cases hb:jU.getD j none with
        | none=>rw[ha,hb] at h;cases h
        | some b=>
         rw[ha,hb] at h;refine⟨a,b,hAi a ha,hAj b hb,λe=>?_⟩;subst e;simp[aen,kF] at h
      unfold acI at hm;simp only[Oe,ig,beq_iff_eq] at hm;have one : ∀ {k:Nat},aeo (jU.getD k none)=true->∃ a,jU.getD k none=some a/\a≠4096:=by
       intro k h;cases ha:jU.getD k none with
       | none=>rw[ha] at h;cases h
       | some a=>exact⟨a,rfl,λe=>by rw[ha,e] at h;simp[aeo] at h⟩
      rcases hm with(((⟨⟨f1,f2⟩,f3⟩|⟨⟨f1,f2⟩,f3⟩)|⟨_,⟨f1,f2⟩|⟨f1,f2⟩⟩)|⟨⟨f1,f2⟩,f3⟩)|⟨⟨f1,f2⟩,f3⟩
      . exact .inl ⟨f1,f2,two f3⟩
      . exact .inr (.inl ⟨f1,f2,two f3⟩)
      . exact .inr (.inr (.inl ⟨f1,f2⟩))
      . exact .inr (.inr (.inr (.inl ⟨f1,f2⟩)))
      . obtain⟨a,h1,h2⟩:=one f2;exact .inr (.inr (.inr (.inr (.inl ⟨f1,f3,a,hAi a h1,h2⟩))))
      obtain⟨a,h1,h2⟩:=one f3;exact .inr (.inr (.inr (.inr (.inr ⟨f1,f2,a,hAj a h1,h2⟩))))
    intro hs;rcases c2 with⟨_,_,rfl⟩|⟨g,c,t,hg,hc,hu,_⟩
    . exact hq
    exfalso;obtain⟨_,_,_,_,_,_,_,_,hu',_⟩:=AX hs hρ;rw[hu] at hu';cases hu'
  exact pass hi hj hm (λ_=>rfl) (λ_=>rfl) (λ_=>rfl) (λ_=>rfl) e1 hρ (by
    intro hc;rcases c2 with⟨_,_,rfl⟩|⟨g,c,t,hg,_⟩
    . exact hq
    exfalso;unfold cls at hc;simp only[hg,Option.isSome_some,if_true] at hc;repeat' split at hc
    all_goals cases hc)
   hgx
 refine⟨{ slots:=ku st.slots oj.dst dj',objs:=bX st.objs uj,ctr:=st.ctr },agB p1 ?_,?_,ZL λx hx=>aem λt ht=>Ta (a3 t ht) hx,hoj⟩
 . rcases c2 with h|⟨g,c,t,hg,hc,h⟩
   . exact .inl h
   rw[agE hg a1] at hc;exact .inr ⟨g,c,t,hg,hc,h⟩
 have e:({ slots:=ku (ku st.slots oi.dst di') oj.dst dj',objs:=bX (bX st.objs ui) uj,ctr:=st.ctr } : St)
   = { slots:=ku (ku st.slots oj.dst dj') oi.dst di',objs:=bX (bX st.objs uj) ui,ctr:=st.ctr }:=by
  rw[p3];congr 1;cases hdi:oi.dst with
  | none=>rfl
  | some s=>
   cases hdj:oj.dst with
   | none=>rfl
   | some t=>
    have hne:s≠t:=λh=>a2 s hdi (by rw[hdj,h]);simp only[ku];exact List.set_comm _ _ hne
 rw[e];refine agB (st:={ slots:=ku st.slots oj.dst dj',objs:=bX st.objs uj,ctr:=st.ctr }) (by
  rw[← p2];exact aei λx hx=>aem λt ht=>Ta (a3 t ht) hx) ?_
 rcases c1 with h|⟨g,c,t,hg,hc,h⟩
 . exact .inl h
 refine .inr ⟨g,c,t,hg,?_,h⟩;show SX (std P) ops (ku st.slots oj.dst dj') g=some c;rw[agE hg a3];exact hc
theorem Qy{p:Pr}{t:Nat} : ∀ (l:List Oper) (st st':St) (os:List bC),kC p tt dB m ops l st=some (st',os)->(l.any λx=>match x.dst with
  | some s=>Nat.beq s t
  | none=>false)=false->st'.slots.getD t .junk=st.slots.getD t .junk
 | [],st,st',os,h,_=>by
  simp only[kC,aW,bM] at h;rw[h.1]
 | o::l,st,st',os,h,hn=>by
  simp only[kC] at h;split at h
  . cases h
  rename_i st1 os1 h1;split at h
  . cases h
  rename_i st2 os2 h2;simp only[aW,bM] at h;obtain⟨rfl,_⟩:=h;simp only[List.any_cons,Bool.or_eq_false_iff] at hn;rw[Qy l st1 st2 os2 h2 hn.2];obtain⟨d,u,os0,d',_,rfl,_⟩:=Oy h1;simp only;cases hd:o.dst with
  | none=>rfl
  | some s=>
   have hs:s≠t:=λe=>by
    have:=hn.1;rw[hd,e] at this;simp only[kF] at this;cases this
   simp only[ku,List.getD,jR hs]
theorem agG{p:Pr} : ∀ (l:List Oper) (st st':St) (os:List bC),kC p tt dB m ops l st=some (st',os)->∀ j a,(aaL p st'.slots l).getD j none=some a->(Tc p tt dB m ops l st).getD j none=some a
 | [],st,st',os,_,j,a,ha=>by simp[aaL] at ha
 | o::l,st,st',os,h,j,a,ha=>by
  have h0:=h;simp only[kC] at h;split at h
  . cases h
  rename_i st1 os1 h1;split at h
  . cases h
  rename_i st2 os2 h2;simp only[aW,bM] at h;obtain⟨rfl,_⟩:=h;cases j with
  | succ j=>
   simp only[aaL,Tc,h1,List.getD_cons_succ] at ha ⊢;exact agG l st1 st2 os2 h2 j a ha
  | zero=>
   simp only[aaL,Tc,List.getD_cons_zero] at ha ⊢;split at ha
   . cases ha
   rename_i hl;rw[← ha];have hl:ahx o (o::l)=false:=by simpa using hl
   unfold jT;cases hop:o.op with
   | load t x=>
    simp only;cases x with
    | tmp s=>
     simp only[ahx,hop] at hl;have:=Qy (o::l) st st2 _ h0 hl;simp only[rd,this]
    | _=>rfl
   | store t x y=>
    simp only;cases x with
    | tmp s=>
     simp only[ahx,hop] at hl;have:=Qy (o::l) st st2 _ h0 hl;simp only[rd,this]
    | _=>rfl
   | _=>rfl
def afR(p:Pr)(tt:TT)(dB:zU)(m:Nat)(ops:Array Oper)(jU:List (Option Nat))(Q:St->Prop):Nat->Array Bool->St->Prop
 | 0,listed,st=>Region.ready .any ops listed=[]/\Q st
 | fuel+1,listed,st=>(Region.ready .any ops listed=[]->Q st) /\
  ∀ i∈Region.ready .any ops listed,∃ o st' os,ops[i]? = some o/\xV p tt dB m ops o st=some (st',os)/\(∀ q∈os,q.run p)/\(∀ a,jU.getD i none=some a->jT p (rd p st.slots) o=some a)/\afR p tt dB m ops jU Q fuel (listed.setIfInBounds i true) st'
theorem aep(hT:jG P tt){jU:List (Option Nat)}{Q:St->Prop}{Q':Exit->Act->World->Prop}(hQ : ∀ st a w,RS B0 h0 I0 L st a w->Q st->Q' .normal a w) : ∀ (fuel:Nat) (listed:Array Bool) (st:St) (a:Act) (w:World),RS B0 h0 I0 L st a w ->
  afR (std P) tt dB m ops jU Q fuel listed st->wpAny P .any ops Q' fuel listed a w
 | 0,_,_,_,_,R,h=>⟨h.1,hQ _ _ _ R h.2⟩
 | fuel+1,_,_,_,_,R,h=>⟨λh0=>hQ _ _ _ R (h.1 h0),λi hi=>by
  obtain⟨o,st',os,ho,he,hos,_,hr⟩:=h.2 i hi;exact DY hT ho R he hos λa' w' R'=>aep hT hQ fuel _ st' a' w' R' hr⟩
theorem ZN{ops:Array Oper}{listed:Array Bool} : ∀ (n j:Nat) (acc:List Nat) (x:Nat),x∈acc->x∈LV ops listed n j acc
 | 0,_,_,_,h=>h
 | n+1,j,acc,x,h=>by
  unfold LV;split
  . exact h
  split
  . exact ZN n (j+1) _ x (gU _ h)
  exact ZN n (j+1) _ x h
theorem Xg{ops:Array Oper}{listed:Array Bool}{k:Nat} : ∀ (n j:Nat) (acc:List Nat),
  (∀ x∈acc,x=k\/(listed.getD x true=false/\∃ ox,ops[x]? = some ox/\∃ e∈ox.after,Region.binds .any e=true/\e.on∈LV ops listed n j acc)) ->
  ∀ x∈LV ops listed n j acc,x=k\/(listed.getD x true=false/\∃ ox,ops[x]? = some ox/\∃ e∈ox.after,Region.binds .any e=true/\e.on∈LV ops listed n j acc)
 | 0,j,acc,h=>h
 | n+1,j,acc,h=>by
  unfold LV at h ⊢;split
  . rename_i h0;simpa only[h0] using h
  rename_i oj h0;simp only[h0] at h;split
  . rename_i hc;rw[if_pos hc] at h;refine Xg n (j+1) (j::acc) λx hx=>?_;rcases CU.1 hx with rfl|hx
    . simp only[ig,Ij] at hc;obtain⟨e,e1,e2⟩:=Array.any_eq_true'.1 hc.2;simp only[ig] at e2;exact .inr ⟨hc.1,oj,h0,e,e1,e2.1,ZN _ _ _ _ (gU _ (La.1 e2.2))⟩
    exact h x hx
  rename_i hc;rw[if_neg hc] at h;exact Xg n (j+1) acc h
theorem amq(hT:jG P tt)(S:Nat->Prop){Q:St->Prop}{own:List (Nat×Nat)}{jU:List (Option Nat)}(hown : ∀ (j:Nat) (o:Oper),ops[j]? = some o->KZ dB own (m+o.dst.getD 0) o){i:Nat}{oi:Oper}(hi:ops[i]? = some oi) :
  ∀ (fuel:Nat) (listed:Array Bool) (st ZM:St) (NW:List bC) (a:Act) (w:World),RS B0 h0 I0 L st a w ->
   (∀ x,S x->listed.getD x true=false/\∃ ox,ops[x]? = some ox/\∃ e∈ox.after,Region.binds .any e=true/\(e.on=i\/S e.on)) ->
   (∀ j oj,ops[j]? = some oj->j≠i->listed.getD j true=false->(∀ e∈oj.after,Region.binds .any e=true->e.on≠i)->¬ S j->oi.apart ops oj=true/\(OU (cls own oi) (cls own oj)=true\/acI own jU oi oj i j=true)) ->
   i∈Region.ready .any ops listed->xV (std P) tt dB m ops oi st=some (ZM,NW)->(∀ q∈NW,q.run (std P))->(∀ a,jU.getD i none=some a->jT (std P) (rd (std P) st.slots) oi=some a) ->
   afR (std P) tt dB m ops jU Q fuel (listed.setIfInBounds i true) ZM->afR (std P) tt dB m ops jU Q (fuel+1) listed st:=by
 intro fuel
 induction fuel with
 | zero=>
  intro listed st ZM NW a w R _ _ hr hy hos hAi H;refine⟨λh=>(by rw[h] at hr;cases hr),λj hj=>?_⟩
  by_cases hji:j=i
  . subst hji;exact⟨oi,ZM,NW,hi,hy,hos,hAi,H⟩
  have:=ready_mono hj hji;rw[H.1] at this;cases this
 | succ fuel ih=>
  intro listed st ZM NW a w R hS hfree hr hy hos hAi H;refine⟨λh=>(by rw[h] at hr;cases hr),λj hj=>?_⟩
  by_cases hji:j=i
  . subst hji;exact⟨oi,ZM,NW,hi,hy,hos,hAi,H⟩
  obtain⟨oj',sij,Vi,azn,hyj,apK,hAj,H'⟩:=H.2 j (ready_mono hj hji);obtain⟨hjun,oj,hoj,hall⟩:=mem_ready.1 hj;have:oj'=oj:=by rw[azn] at hoj;exact Xf hoj
  subst this;have hnot : ∀ e∈oj'.after,Region.binds .any e=true->e.on≠i:=λe he hb heq=>by
   have h1:=hall e he hb;have h0:=(mem_ready.1 hr).1;rw[heq] at h1;rcases mK i listed.size with h'|h'
   . simp[h'] at h0 h1;rw[h0] at h1;cases h1
   simp[Array.getElem?_eq_none h'] at h1
  have hjS : ¬ S j:=λh=>by
   obtain⟨_,ox,hox,e,he,hb,hor⟩:=hS j h;rw[hoj] at hox;cases hox;rcases hor with h1|h1
   . exact hnot e he hb h1
   have h2:=hall e he hb;have h3:=(hS _ h1).1;rcases mK e.on listed.size with h'|h'
   . simp[h'] at h3 h2;rw[h3] at h2;cases h2
   simp[Array.getElem?_eq_none h'] at h3
  obtain⟨f1,f2⟩:=hfree j oj' hoj hji hjun hnot hjS;have hS' : ∀ x,S x->(listed.setIfInBounds j true).getD x true=false/\∃ ox,ops[x]? = some ox/\∃ e∈ox.after,Region.binds .any e=true/\(e.on=i\/S e.on):=λx hx=>by
   obtain⟨h1,h2⟩:=hS x hx;refine⟨?_,h2⟩;rw[getD_set_ne true (λh=>hjS (by rw[h];exact hx))];exact h1
  obtain⟨stj,s1,s2,s3,s4⟩:=akt R (hown i oi hi) (hown j oj' hoj) f2 hAi hAj f1 hy hyj apK;refine⟨oj',stj,Vi,hoj,s1,apK,λa ha=>s4▸hAj a ha,?_⟩;have hfree' : ∀ k ok,ops[k]? = some ok->k≠i->(listed.setIfInBounds j true).getD k true=false ->
    (∀ e∈ok.after,Region.binds .any e=true->e.on≠i)->¬ S k->oi.apart ops ok=true/\(OU (cls own oi) (cls own ok)=true\/acI own jU oi ok i k=true):=λk ok hk hki hun hno hkS=>by
   refine hfree k ok hk hki ?_ hno hkS
   by_cases hjk:j=k
   . subst hjk;exact hjun
   rw[getD_set_ne true hjk] at hun;exact hun
  obtain⟨a',w',R'⟩ : ∃ a' w',RS B0 h0 I0 L stj a' w':=alb (P:=P) (ops:=ops) (i:=j) (DY hT hoj R s1 apK λa' w' R'=>R');refine ih (listed.setIfInBounds j true) stj sij NW a' w' R' hS' hfree' (ready_mono hr (Ne.symm hji)) s2 hos (λa ha=>s3.trans (hAi a ha)) ?_;rw[Array.setIfInBounds_comm _ _ hji];exact H'
theorem ajl(hT:jG P tt){Q:St->Prop}{own:List (Nat×Nat)}{jU:List (Option Nat)}(hown : ∀ (j:Nat) (o:Oper),ops[j]? = some o->KZ dB own (m+o.dst.getD 0) o) :
  ∀ (l:List Oper) (k:Nat) (listed:Array Bool) (st st':St) (os:List bC) (a:Act) (w:World),RS B0 h0 I0 L st a w->(∀ j,l[j]? = ops[k+j]?) ->
   Region.lexFrom .any ops l.length k listed=true->Xh own jU ops l.length k listed=true->kC (std P) tt dB m ops l st=some (st',os)->(∀ q∈os,q.run (std P))->(∀ j a,jU.getD (k+j) none=some a->(Tc (std P) tt dB m ops l st).getD j none=some a)->Q st'->afR (std P) tt dB m ops jU Q l.length listed st
 | [],_,_,st,st',os,a,w,_,_,hB,_,he,_,_,hQ=>by
  simp only[kC,aW,bM] at he;obtain⟨rfl,rfl⟩:=he;exact⟨by simpa[Region.lexFrom] using hB,hQ⟩
 | o::l,k,listed,st,st',os,a,w,R,hl,hB,hL,he,hos,hA,hQ=>by
  have hk0:ops[k]? = some o:=by simpa using(hl 0).symm
  simp only[tX,Region.lexFrom,ig] at hB;obtain⟨⟨hr,hf⟩,hB'⟩:=hB;simp only[tX,Xh,ig,hk0] at hL;obtain⟨hL1,hL2⟩:=hL;simp only[kC] at he;split at he
  . cases he
  rename_i st1 os1 h1;split at he
  . cases he
  rename_i st2 os2 h2;simp only[aW,bM] at he;obtain⟨rfl,rfl⟩:=he;have Cm : ∀ q∈os1,q.run (std P):=λq hq=>hos q (dW _ hq);obtain⟨a',w',R'⟩ : ∃ a' w',RS B0 h0 I0 L st1 a' w':=alb (P:=P) (ops:=ops) (i:=k) (DY hT hk0 R h1 Cm λa' w' R'=>R');have hrest:=ajl hT hown l (k+1) _ st1 st2 os2 a' w' R' (λj=>by have:=hl (j+1);simpa[rY,Nat.add_comm 1 j] using this) hB' hL2 h2 (λq hq=>hos q (dR _ hq)) (λj b hb=>by have h:=hA (j+1) b (by rw[← hb];congr 1;omega);simpa[Tc,h1] using h) hQ;have hA0 : ∀ b,jU.getD k none=some b->jT (std P) (rd (std P) st.slots) o=some b:=λb hb=>by have h:=hA 0 b (by simpa using hb);simpa[Tc] using h
  have hfin : ∀ (wl:List Nat) (S:Nat->Prop),(∀ x,x∈wl->x=k\/S x)->(∀ x,S x->listed.getD x true=false/\∃ ox,ops[x]? = some ox/\∃ e∈ox.after,Region.binds .any e=true/\(e.on=k\/S e.on))->Vl own jU ops o k listed wl=true ->
    afR (std P) tt dB m ops jU Q (l.length+1) listed st:=by
   intro wl S hwl hS hL1;refine amq hT S hown hk0 l.length listed st st1 os1 a w R hS ?_ (by simpa using hr) h1 Cm hA0 hrest;intro j oj hoj hjk hun hno hjS;refine⟨Region.free_spec hk0 hf j oj hoj hjk hun hno,?_⟩;have hlt:j<ops.size:=(yY.1 hoj).1;have:=aai.1 hL1 j (List.mem_range.2 hlt);simp only[hoj,Oe,beq_iff_eq,Oe] at this;rcases this with((((h|h)|h)|h)|h)|h
   . exact absurd h hjk
   . rw[hun] at h;cases h
   . exfalso;obtain⟨e,he1,he2⟩:=Array.any_eq_true'.1 h;simp only[ig,beq_iff_eq] at he2;exact hno e he1 he2.1 he2.2
   . exact .inl h
   . exact .inr h
   rcases hwl j (La.1 h) with h|h
   . exact absurd h hjk
   exact absurd h hjS
  rw[Oe] at hL1;rcases hL1 with hL1|hL1
  . exact hfin [] (λ_=>False) (λx hx=>by cases hx) (λx hx=>hx.elim) hL1
  refine hfin _ (λx=>x≠k/\x∈LV ops listed l.length (k+1) [k]) (λx hx=>?_) (λx hx=>?_) hL1
  . by_cases h:x=k
    . exact .inl h
    exact .inr ⟨h,hx⟩
  rcases Xg (k:=k) l.length (k+1) [k] (λx hx=>.inl (by simpa using hx)) x hx.2 with h|⟨h,ox,hox,e,e1,e2,e3⟩
  . exact absurd h hx.1
  refine⟨h,ox,hox,e,e1,e2,?_⟩
  by_cases h':e.on=k
  . exact .inl h'
  exact .inr ⟨h',e3⟩
theorem ajm{v:Nat} : ∀ {l:List (Nat×Nat)} {f:Nat},(∀ x∈l,x.1=f->x.2=v)->(v≠0->(f,v)∈l)->IK l f=v
 | [],f,_,h2=>by
  simp only[IK]
  by_cases h:v=0
  . exact h.symm
  exact absurd (h2 h) bH
 | (k,x)::r,f,h1,h2=>by
  simp only[IK];split
  . rename_i hk;exact h1 _ (iO ..) (dO hk)
  rename_i hk;refine ajm (λy hy=>h1 y (gU _ hy)) λh=>?_;rcases CU.1 (h2 h) with e|e
  . exact absurd (by rw[← (Prod.mk.inj e).1];exact kF _) hk
  exact e
theorem aoj : ∀ {l:List (Nat×Nat)} {f:Nat},IK l f≠0->(f,IK l f)∈l
 | [],_,h=>absurd rfl h
 | (k,x)::r,f,h=>by
  simp only[IK] at h ⊢;split
  . rename_i hk;have hk:=dO hk;subst hk;exact iO ..
  rename_i hk;rw[if_neg hk] at h;exact gU _ (aoj h)
theorem amr{ops:Array Oper}{m:Nat}(j:Nat)(o:Oper)(h:ops[j]? = some o):KZ dB (iQ dB m ops.toList) (m+o.dst.getD 0) o:=by
 have hmem:o∈ops.toList:=by
  obtain⟨h1,h2⟩:=yY.1 h;exact Array.mem_toList_iff.2 (h2▸Array.getElem_mem h1)
 intro c hd;refine⟨λf hf=>ajm (λx hx e1=>?_) λhne=>?_,λx d hf hdst h7=>?_⟩
 . have afS : ∀ f':Nat,some (f'+f',dB.SY f')=some x->x.2=dB.SY f:=λf' e=>by
    have e2:=Xf e;subst e2;have e1:f'+f'=f+f:=e1;obtain rfl:f'=f:=ak;rfl
   obtain⟨o',_,he⟩:=List.mem_filterMap.1 hx;repeat' split at he
   all_goals first
   | (cases he;done)
   | exact afS _ he
   | (exfalso;have e2:=Xf he;subst e2;have e1:_=f+f:=e1;simp only at e1;omega)
   | exact afS _ he
 . refine List.mem_filterMap.2 ⟨o,hmem,?_⟩;simp only[hd,hf];rw[if_neg];intro h;exact hne (dO h)
 have h7:=dO h7;have hin:=aoj (l:=iQ dB m ops.toList) (f:=d+d+1) (by rw[h7];decide);rw[h7] at hin;have key : ∀ d':Nat,some (d'+d'+1,7)=some (d+d+1,7)->Nat.beq (dB.SY (m+d'+1024)) 7=true->Nat.beq (dB.SY (m+o.dst.getD 0+1024)) 7=true:=λd' e hb=>by
  have:=(Prod.mk.inj (Xf e)).1;obtain rfl:d'=d:=ak;rw[hdst];exact hb
 obtain⟨o',_,he⟩:=List.mem_filterMap.1 hin;repeat' split at he
 all_goals first
 | (cases he;done)
 | (exfalso;have:=(Prod.mk.inj (Xf he)).1;omega)
 | (rename_i hb;exact key _ he hb)
theorem ams(hT:jG P tt)(hP:P.follows .mixedOrders=true){jU:List (Option Nat)}{id:Nat}{st st':St}{os:List bC}{a:Act}{w:World}{Q':Exit->Act->World->Prop}(R:RS B0 h0 I0 L st a { w with drawn:=w.drawn+1 })
  (he:kC (std P) tt dB m ops ops.toList st=some (st',os)) (hos : ∀ q∈os,q.run (std P)) (hA : ∀ j a,jU.getD j none=some a->(Tc (std P) tt dB m ops ops.toList st).getD j none=some a) (hd:VX ops (iQ dB m ops.toList) jU=true) (hQ : ∀ a w,RS B0 h0 I0 L st' a w->Q' .normal a w):(Code.region id ops true).wp P Q' a w:=by
 unfold VX at hd;rw[ig] at hd;have hB:=hd.1;simp only[Region.lexB,ig] at hB;refine wp_region_any hP (aep hT (jU:=jU) (m:=m) (dB:=dB) (Q:=λs=>s=st') (λs a w R h=>hQ a w (h▸R)) _ _ st a _ R ?_);have:=ajl hT (jU:=jU) (B0:=B0) (h0:=h0) (I0:=I0) (L:=L) (m:=m) (own:=iQ dB m ops.toList) (λj o h1=>amr j o h1) (Q:=λs=>s=st') ops.toList 0 (Array.replicate ops.size false) st st' os a _ R bH
  (by simpa using hB.2) (by simpa using hd.2) he hos (λj a h=>hA j a (by simpa using h)) rfl
 simpa using this
end
end Go.Vx
