/- Regions: in whatever order the Go model runs the operations, it comes to what the evaluator says of the text's order. -/
import Derived.Test.YtmpgicplgjmjkaaGreatDoorVxOps6
set_option linter.all false
section
namespace Go.Vx
section
variable {P:Program} {tt:TT} {B0:Nat} {h0:Array Obj} {I0:IS} {L:wU} {dB:zU} {m:Nat} {ops:Array Oper}
theorem Oy{o:Oper}{st st':St}{os':List bC}{p:Pr}(h:xV p tt dB m ops o st=some (st',os')) :
  ∃ d u os d',kI p tt dB (m+o.dst.getD 0) st.objs st.ctr (rd p st.slots) o=some (d,u,os) /\
   st' = { slots:=ku st.slots o.dst d',objs:=bX st.objs u,ctr:=st.ctr } /\
   ((o.guard=none/\d'=d/\os'=os)\/∃ g c t,o.guard=some g/\SX p ops st.slots g=some c/\u=[]/\o.dst=some t/\d' = .JZ c d/\os'=os.map (bC.imp c)):=by
 unfold xV at h;split at h
 . cases h
 rename_i d u os he;split at h
 . rename_i hg;simp only[aW,bM] at h;obtain⟨rfl,rfl⟩:=h;exact⟨d,u,os,d,he,rfl,.inl ⟨hg,rfl,rfl⟩⟩
 rename_i g hg;split at h
 . rename_i c t hc hd;simp only[aW,bM] at h;obtain⟨rfl,rfl⟩:=h;exact⟨d,[],os,.JZ c d,he,by simp[hd,ku,bX],.inr ⟨g,c,t,hg,hc,rfl,hd,rfl,rfl⟩⟩
 cases h
theorem agB{o:Oper}{st:St}{p:Pr}{d d':D}{u:List (Nat×Option Ob)}{os os':List bC}(he:kI p tt dB (m+o.dst.getD 0) st.objs st.ctr (rd p st.slots) o=some (d,u,os))
  (h:(o.guard=none/\d'=d/\os'=os)\/∃ g c t,o.guard=some g/\SX p ops st.slots g=some c/\u=[]/\o.dst=some t/\d' = .JZ c d/\os'=os.map (bC.imp c)) :
  xV p tt dB m ops o st=some ({ slots:=ku st.slots o.dst d',objs:=bX st.objs u,ctr:=st.ctr },os'):=by
 unfold xV;rw[he];rcases h with⟨hg,rfl,rfl⟩|⟨g,c,t,hg,hc,rfl,hd,rfl,rfl⟩
 . simp[hg]
 simp[hg,hc,hd,ku,bX]
theorem asj{h:Array Obj}{I:IS}{β:Nat->Option (Nat×Nat×Array Value)}{objs:List (Option Ob)}{ctr:Nat}{want:Bool} : ∀ (d:D) (c:Bool) (y:Value),Xb (std P) want d=some c->Rd h I β objs ctr d y ->
  (c=true/\y = .bool want)\/(c=false/\(y = .bool (!want)\/y=undef)):=by
 intro d
 induction d with
 | v x=>
  intro c y hg hr;cases hr;cases x<;>simp[Xb] at hg;rename_i b;subst hg;cases want<;>cases b<;>simp[std]
 | JZ b d ih=>
  intro c y hg hr;simp only[Xb] at hg;cases hd:Xb (std P) want d with
  | none=>rw[hd] at hg;cases hg
  | some c'=>
   rw[hd] at hg;simp only[iP,aW] at hg;have hg:(b&&c')=c:=hg;subst hg;cases b with
   | true=>simpa using ih c' y hd (hr.1 rfl)
   | false=>exact .inr ⟨rfl,.inr (hr.2 rfl)⟩
 | _=>intro c y hg;simp[Xb] at hg
theorem DY(hT:jG P tt){o:Oper}{i:Nat}(hi:ops[i]? = some o){st st':St}{os:List bC}{a:Act}{w:World}(R:RS B0 h0 I0 L st a w)
  (he:xV (std P) tt dB m ops o st=some (st',os)) (hos : ∀ q∈os,q.run (std P)) {K:Act->World->Prop} {Q:Exit->Act->World->Prop}
  (hK : ∀ a' w',RS B0 h0 I0 L st' a' w'->K a' w'):wpOp P ops Q i K a w:=by
 obtain⟨I,β,R⟩:=R;obtain⟨d,u,os2,d',h1,rfl,h2⟩:=Oy he;unfold wpOp;rw[hi];simp only;rcases h2 with⟨hg,rfl,rfl⟩|⟨g,c,t,hg,hc,rfl,hd,rfl,rfl⟩
 . have hw:Region.wanted o (yielded ops a.tmps)=true:=by simp[Region.wanted,hg]
   rw[if_pos hw];refine .inl (aeg hT R h1 hos λy w' hp=>hK _ _ ?_);obtain⟨I',β',R'⟩:=R.put o.dst hp;exact⟨I',β',R'⟩
 obtain⟨j,want⟩:=g;obtain⟨tg,htg,aq1⟩ : ∃ tg,(ops[j]?).bind (·.dst)=some tg/\Xb (std P) want (st.slots.getD tg .junk)=some c:=by
  unfold SX at hc;simp only at hc;split at hc
  . rename_i tg htg;exact⟨tg,htg,hc⟩
  cases hc
 have hrel : ∃ y,a.tmps[tg]? = some y/\Rd w.heap I β st.objs st.ctr (st.slots.getD tg .junk) y:=by
  cases hs:st.slots[tg]? with
  | none=>simp[List.getD,hs,Xb] at aq1
  | some x=>
   obtain⟨y,h1,h2⟩:=R.slot tg x hs;exact⟨y,h1,by simpa[List.getD,hs] using h2⟩
 have hwant:Region.wanted o (yielded ops a.tmps)=c:=by
  simp only[Region.wanted,hg,yielded,htg,Option.bind_some];obtain⟨y,y1,y2⟩:=hrel;rw[y1];rcases asj _ _ _ aq1 y2 with⟨rfl,rfl⟩|⟨rfl,rfl|rfl⟩<;>cases want<;>rfl
 cases c with
 | true=>
  rw[hwant,if_pos rfl];refine .inl (aeg hT R h1 (λq hq=>hos _ (Gs.2 ⟨q,hq,rfl⟩) rfl) λy w' hp=>hK _ _ ?_);have hp':Post B0 h0 I0 L I β st.objs st.ctr w (bX st.objs []) w' (.JZ true d) y:=by
   obtain⟨I',β',G,r1,r2,r3,r4,r5,r6,r7,r9,r8⟩:=hp.ex;exact⟨I',β',G,r1,r2,r3,r4,r5,r6,r7,r9,λ_=>r8,λh=>by cases h⟩
  obtain⟨I',β',R'⟩:=R.put o.dst hp';exact⟨I',β',R'⟩
 | false=>
  rw[hwant,if_neg bH];refine hK _ _ ?_;have hp':Post B0 h0 I0 L I β st.objs st.ctr w (bX st.objs []) w (.JZ false d) undef:=R.still ⟨λh=>(by cases h),λ_=>rfl⟩;obtain⟨I',β',R'⟩:=R.put o.dst hp';exact⟨I',β',R'⟩
theorem awP{o:Oper}{a:Act}{w:World}{K:Act->World->Prop}(h:o.wp P a w K (λ_ _ _=>False)) : ∃ a' w',K a' w':=by
 unfold Oper.wp at h;generalize (execOp a.eval o).run P w=r at h;cases r with
 | ok n w'=>
  cases n<;>simp only[Oper.upon] at h
  case value v=>exact⟨_,_,h⟩
  case skip=>exact⟨_,_,h⟩
  case defer d=>exact⟨_,_,h⟩
  case enter f args=>
   obtain⟨e,w'',fr,h1,_⟩:=h [];cases e with
   | returned v=>exact⟨_,_,h1⟩
   | panicked c=>exact h1.elim
   | outgrown=>obtain⟨_,_,h2⟩:=h1;exact h2.elim
  case row r args=>
   obtain⟨v,w'',h1,_⟩:=h default [];exact⟨_,_,h1⟩
 | halt x w'=>cases x<;>simp only[Oper.upon] at h
theorem alb{i:Nat}{a:Act}{w:World}{K:Act->World->Prop}(h:wpOp P ops (λ_ _ _=>False) i K a w) : ∃ a' w',K a' w':=by
 unfold wpOp at h;split at h
 . exact⟨_,_,h⟩
 split at h
 . rcases h with h|⟨_,_,_,h⟩
   . exact awP h
   exact h.elim
 exact⟨_,_,h⟩
theorem X4(hT:jG P tt){Q:Exit->Act->World->Prop} : ∀ (l:List Oper) (k:Nat),(∀ j,l[j]? = ops[k+j]?)->∀ (st st':St) (os:List bC) (a:Act) (w:World),RS B0 h0 I0 L st a w ->
  kC (std P) tt dB m ops l st=some (st',os)->(∀ q∈os,q.run (std P))->(∀ a' w',RS B0 h0 I0 L st' a' w'->Q .normal a' w')->wpOps P ops Q ((List.range l.length).map (k + ·)) a w
 | [],k,_,st,st',os,a,w,R,he,_,hQ=>by
  simp only[kC,aW,bM] at he;obtain⟨rfl,rfl⟩:=he;exact hQ _ _ R
 | o::l,k,hl,st,st',os,a,w,R,he,hos,hQ=>by
  simp only[kC] at he;split at he
  . cases he
  rename_i st1 os1 h1;split at he
  . cases he
  rename_i st2 os2 h2;simp only[aW,bM] at he;obtain⟨rfl,rfl⟩:=he;have e:(List.range (o::l).length).map (k + ·)=k::(List.range l.length).map (k+1 + ·):=by
   rw[tX,List.range_succ_eq_map,EI,List.map_map];congr 1;apply aeh;intro x _;simp;omega
  rw[e,wpOps_cons];have ho:ops[k]? = some o:=by simpa using(hl 0).symm
  refine DY hT ho R h1 (λq hq=>hos q (dW _ hq)) λa' w' R'=>?_;exact X4 hT l (k+1) (λj=>by have:=hl (j+1);simpa[rY,Nat.add_comm 1 j] using this) st1 st2 os2 a' w' R' h2 (λq hq=>hos q (dR _ hq)) hQ
end
end Go.Vx
end
section
namespace Go.Vx
section
variable {p:Pr} {tt:TT} {dB:zU} {key ctr:Nat}
theorem aei{o:Oper}{objs:List (Option Ob)}{ρ ρ':Operand->D}(h : ∀ x∈o.op.operands,ρ x=ρ' x) :
  kI p tt dB key objs ctr ρ o=kI p tt dB key objs ctr ρ' o:=by
 obtain⟨dst,op,ty,pos,after,guard⟩:=o;have hmap : ∀ (l:List (Nat×Operand)),(∀ x∈l,ρ x.2=ρ' x.2)->(l.map λx=>(x.1,(strip p (ρ x.2)).1))=(l.map λx=>(x.1,(strip p (ρ' x.2)).1))/\(l.map λx=>(strip p (ρ x.2)).2)=(l.map λx=>(strip p (ρ' x.2)).2):=by
  intro l hl;exact⟨aeh λx hx=>by rw[hl x hx],aeh λx hx=>by rw[hl x hx]⟩
 have hargs : ∀ (l:List Operand),(∀ x∈l,ρ x=ρ' x)->(l.map λx=>(strip p (ρ x)).1)=(l.map λx=>(strip p (ρ' x)).1)/\(l.map λx=>(strip p (ρ x)).2)=(l.map λx=>(strip p (ρ' x)).2):=by
  intro l hl;exact⟨aeh λx hx=>by rw[hl x hx],aeh λx hx=>by rw[hl x hx]⟩
 cases op<;>simp only[Op.operands,List.mem_toArray,CU,List.not_mem_nil,or_false,forall_eq_or_imp,forall_eq] at h<;>simp only[kI,Qq,KQ,Xc,KR,wE,Qr,KS,AU,KT,qE,wF,AV,GX,KU,Qs,Qt,zV,yI,KW,yJ,KX,yK,KY,DZ,FY]
 case move x=>rw[h]
 case assign x=>rw[h]
 case pick c a b=>rw[h.1,h.2.1,h.2.2]
 case box t x=>rw[h]
 case build t parts=>
  obtain⟨h1,h2⟩:=hmap parts.toList (λx hx=>h _ (by simp;exact⟨x.1,by simpa using hx⟩));rw[h1,h2]
 case buildSlice t len parts=>
  obtain⟨h1,h2⟩:=hmap parts.toList (λx hx=>h _ (by simp;exact⟨x.1,by simpa using hx⟩));rw[h1,h2]
 case load t x=>rw[h]
 case store t x y=>rw[h.1,h.2]
 case nilCheck x=>rw[h]
 case makeInterface t x=>rw[h]
 case typeAssert x xT t ok=>rw[h]
 case binOp op xt x y yt=>rw[h.1,h.2]
 case unOp op xt x=>rw[h]
 case convert u t x=>rw[h]
 case makeSlice t l c=>rw[h.1,h.2]
 case slice t x lo hi mx=>
  have h1:ρ x=ρ' x:=h x bH;have h2 : ∀ y∈lo,ρ y=ρ' y:=λy hy=>h y (by cases lo<;>simp at hy ⊢;simp[hy]);have h3 : ∀ y∈hi,ρ y=ρ' y:=λy hy=>h y (by cases hi<;>simp at hy ⊢;simp[hy]);have h4 : ∀ y∈mx,ρ y=ρ' y:=λy hy=>h y (by cases mx<;>simp at hy ⊢;simp[hy]);have afN : ∀ (y:Option Operand),(∀ z∈y,ρ z=ρ' z)->(y.map λx=>(strip p (ρ x)).1)=(y.map λx=>(strip p (ρ' x)).1)/\(y.map λx=>(strip p (ρ x)).2)=(y.map λx=>(strip p (ρ' x)).2):=by
   intro y hy;cases y with
   | none=>exact⟨rfl,rfl⟩
   | some z=>simp[hy z bH]
  rw[h1,(afN lo h2).1,(afN lo h2).2,(afN hi h3).1,(afN hi h3).2,(afN mx h4).1,(afN mx h4).2]
 case fieldAddr t x k=>rw[h]
 case field t x k=>rw[h]
 case indexAddr t x i=>rw[h.1,h.2]
 case index t x i=>rw[h.1,h.2]
 case extract x k=>rw[h]
 case makeFunc fn first captured=>
  obtain⟨h1,h2⟩:=hargs captured.toList (λx hx=>h x (by simpa using .inr (by simpa using hx)));rw[h1,h2]
 case lookup t x i ok=>rw[h.1,h.2]
 case range t x=>rw[h]
 case next x s=>rw[h]
 case call c=>
  obtain⟨callee,nR,ats⟩:=c;cases callee with
  | invoke=>rfl
  | builtin b=>
   obtain⟨h1,h2⟩:=hargs nR.toList (λx hx=>h x (by simpa[Call.operands] using hx));simp only[h1,h2]
  | value f=>
   obtain⟨h1,h2⟩:=hargs nR.toList (λx hx=>h x (by simp[Call.operands];exact .inr (by simpa using hx)));have h3:ρ f=ρ' f:=h f (by simp[Call.operands]);simp only[h1,h2,h3]
theorem Oz{o:Oper}{objs bN:List (Option Ob)}{ρ:Operand->D}{own:List (Nat×Nat)}(hc:cls own o=0)(hρ : ∀ f,ρ (.func f) = .fn (.func f) 0 (λ_=>.junk))(hown:KZ dB own key o) :
  kI p tt dB key objs ctr ρ o=kI p tt dB key bN ctr ρ o/\∀ d u os,kI p tt dB key objs ctr ρ o=some (d,u,os)->u=[]:=by
 obtain⟨dst,op,ty,pos,after,guard⟩:=o;have hcall : ∀ f args os,dB.SY f=0->EJ p dB objs ctr key f args os=EJ p dB bN ctr key f args os/\∀ d u os',EJ p dB objs ctr key f args os=some (d,u,os')->u=[]:=by
  intro f args os h0;unfold EJ;rw[h0];refine⟨rfl,λd u os' h=>?_⟩;simp only at h;repeat' split at h
  all_goals first|(cases h;done)|(simp only[aW,bM] at h;exact h.2.1.symm)
 have afO : ∀ {os:List bC} {r:Option (D×List bC)} {d:D} {u:List (Nat×Option Ob)} {os':List bC},MW os (val r)=some (d,u,os')->u=[]:=by
  intro os r d u os' h;obtain⟨_,h2,_⟩:=lQ h;exact(uE h2).2
 cases op<;>simp only[cls,reduceCtorEq] at hc<;>simp only[kI,Qq,KQ,Xc,KR,wE,Qr,KS,AU,KT,qE,wF,AV,GX,KU,Qs,Qt,zV,yI,KW,yJ,KX,yK,KY,DZ,FY]
 case move x=>exact⟨trivial,λd u os h=>by simp at h;exact h.2.1⟩
 case assign x=>exact⟨trivial,λd u os h=>by simp at h;exact h.2.1⟩
 case pick c a b=>refine⟨trivial,λd u os h=>?_⟩;split at h<;>simp at h;exact h.2.1
 case build t parts=>
  refine⟨trivial,λd u os h=>?_⟩;repeat' split at h
  all_goals first|cases h;done|(simp only[aW,bM] at h;exact h.2.1.symm)
 case load t x=>split at hc<;>cases hc
 case nilCheck x=>refine⟨trivial,λd u os h=>?_⟩;split at h<;>simp at h<;>exact h.2.1
 case binOp op xt x y yt=>
  refine⟨trivial,λd u os h=>?_⟩;split at h
  . cases hn:amk op (iB tt xt) (strip p (ρ x)).1 with
    | none=>rw[hn] at h;cases h
    | some z=>rw[hn] at h;simp only[iP,aW,bM] at h;exact h.2.1.symm
  rcases aaJ h with h|h
  . split at h<;>exact afO h
  exact h
 case makeInterface t x=>
  refine⟨trivial,λd u os h=>?_⟩;split at h
  . split at h
    . cases h
    cases h;rfl
  rcases aaJ h with h|h
  . cases h
  exact h
 case makeFunc fn first captured=>
  refine⟨trivial,λd u os h=>?_⟩;split at h
  . simp only[aW,bM] at h;exact h.2.1.symm
  cases h
 case lookup t x i ok=>
  refine⟨trivial,λd u os h=>?_⟩;repeat' split at h
  all_goals first|cases h;done|(simp only[aW,bM] at h;exact h.2.1.symm)
 case unOp op xt x=>refine⟨trivial,λd u os h=>?_⟩;split at h<;>simp at h<;>exact h.2.1
 case convert ut t x=>
  have hut:Nat.beq ut t=false:=by
   cases hb:Nat.beq ut t with
   | false=>rfl
   | true=>rw[hb,if_pos rfl] at hc;cases hc
  simp only[hut,oL,if_false];refine⟨trivial,λd u os h=>?_⟩;repeat' split at h
  all_goals first|cases h;done|(simp only[aW,bM] at h;exact h.2.1.symm)
 case slice t x lo hi mx=>
  refine⟨trivial,λd u os h=>(aaJ h).elim (λh=>?_) id⟩;split at h
  . exact afO h
  cases h
 case fieldAddr t x k=>
  refine⟨trivial,λd u os h=>(aaJ h).elim (λh=>?_) id⟩;split at h
  . exact afO h
  cases h
 case field t x k=>
  refine⟨trivial,λd u os h=>?_⟩;repeat' split at h
  all_goals first|exact afO h|cases h
 case indexAddr t x i=>
  refine⟨trivial,λd u os h=>(aaJ h).elim (λh=>?_) id⟩;split at h
  . exact afO h
  cases h
 case index t x i=>
  refine⟨trivial,λd u os h=>(aaJ h).elim (λh=>?_) id⟩;repeat' split at h
  all_goals first|exact afO h|cases h;done|(simp only[aW,bM] at h;exact h.2.1.symm)
 case extract x k=>
  refine⟨trivial,λd u os h=>?_⟩;repeat' split at h
  all_goals first|cases h;done|(simp only[aW,bM] at h;exact h.2.1.symm)
 case call c=>
  obtain⟨callee,nR,ats⟩:=c;cases callee with
  | invoke=>simp at hc
  | value f=>
   cases f with
   | func f=>
    have hk:=(hown _ rfl).1 f rfl;have h0:dB.SY f=0:=by
     rw[← hk];simp only at hc;split at hc
     . assumption
     all_goals cases hc
    simp only[hρ,strip,EL];exact hcall _ _ _ h0
   | tmp x=>
    simp only at hc;split at hc
    . rename_i d;have h7:=(hown _ rfl).2 x d rfl rfl (by
       cases hb:Nat.beq (IK own (d+d+1)) 7 with
       | true=>rfl
       | false=>rw[hb] at hc;cases hc)
      have hv : ∀ f args os,EL p dB objs ctr key (.tmp x) f args os=EL p dB bN ctr key (.tmp x) f args os/\∀ d u os',EL p dB objs ctr key (.tmp x) f args os=some (d,u,os')->u=[]:=by
       intro f args os;simp only[EL,h7,if_true];refine⟨trivial,λd u os' h=>?_⟩;unfold aej at h;repeat' split at h
       all_goals first|(cases h;done)|(simp only[aW,bM] at h;exact h.2.1.symm)
      dsimp only;repeat' split
      all_goals first|exact hv _ _ _|exact⟨rfl,λd u os h=>by cases h⟩
    cases hc
   | _=>simp at hc
  | builtin b=>
   have hb:b≠.append/\b≠.copy:=by
    constructor
    . intro hb;subst hb;simp only at hc;split at hc<;>cases hc
    intro hb;subst hb;simp at hc
   have key : ∀ owned args,qG p tt objs ctr key owned b ats.toList args=qG p tt bN ctr key owned b ats.toList args/\∀ d u os,qG p tt objs ctr key owned b ats.toList args=some (d,u,os)->u=[]:=by
    intro owned args;unfold qG;split<;>first|exact absurd rfl hb.1|exact absurd rfl hb.2|skip
    all_goals
     refine⟨rfl,λd u os h=>?_⟩;repeat' split at h
     all_goals first|cases h;done|(simp only[aW,bM] at h;exact h.2.1.symm)
   refine⟨by simp only[(key _ _).1],λd u os h=>?_⟩;replace h:=X5 h;obtain⟨os2,h2,_⟩:=lQ h;exact(key _ _).2 _ _ _ h2
 case typeAssert x xT t ok=>
  refine⟨trivial,λd u os h=>?_⟩;repeat' split at h
  all_goals cases h
  all_goals rfl
 all_goals exact⟨trivial,λd u os h=>by cases h⟩
theorem abE{p:Pr}{objs:List (Option Ob)}{ctr key sz bytes:Nat}{owned:Bool}{y:D} : xq p objs ctr key sz bytes owned .dX y=(match zM p objs sz y with
 | none=>none
 | some (m,h,os)=>match objs[key]? with
  | some none=>some (.vec key ctr sz 0 m,[(key,some (.arr ctr sz m false h))],os++[bC.grow bytes m])
  | _=>none):=rfl
theorem Js{o:Oper}{objs:List (Option Ob)}{ρ:Operand->D}{own:List (Nat×Nat)}(hc:cls own o=2)(azj : ∀ v,ρ (.const v)=Es v)(hρ : ∀ f,ρ (.func f) = .fn (.func f) 0 (λ_=>.junk))(hown:KZ dB own key o)
  {d:D} {u:List (Nat×Option Ob)} {os:List bC} (he:kI p tt dB key objs ctr ρ o=some (d,u,os)) :
  (u=[]/\∀ bN:List (Option Ob),kI p tt dB key bN ctr ρ o=some (d,u,os))\/∃ ob,u=[(key,some ob)]/\ob.gen=ctr/\objs[key]? = some none/\∀ bN:List (Option Ob),bN[key]? = some none->kI p tt dB key bN ctr ρ o=some (d,u,os):=by
 have hnew : ∀ {dd:D} {ob:Ob} {oo:List bC},zN objs key dd ob oo=some (d,u,os)->ob.gen=ctr ->
   ∃ ob,u=[(key,some ob)]/\ob.gen=ctr/\objs[key]? = some none/\∀ bN:List (Option Ob),bN[key]? = some none->zN bN key dd ob oo=some (d,u,os)/\zN objs key dd ob oo=zN objs key dd ob oo:=by
  intro dd ob oo h hg;obtain⟨h1,rfl,rfl,rfl⟩:=xW h;exact⟨ob,rfl,hg,h1,λbN h'=>⟨by simp[zN,h'],rfl⟩⟩
 have hnew2 : ∀ {dd:D} {ob:Ob} {oo:List bC},zN objs key dd ob oo=some (d,u,os)->ob.gen=ctr ->
   (∃ ob,u=[(key,some ob)]/\ob.gen=ctr/\objs[key]? = some none)/\∀ bN:List (Option Ob),bN[key]? = some none->zN bN key dd ob oo=some (d,u,os):=by
  intro dd ob oo h hg;obtain⟨h1,rfl,rfl,rfl⟩:=xW h;exact⟨⟨ob,rfl,hg,h1⟩,λbN h'=>by simp[zN,h']⟩
 obtain⟨dst,op,ty,pos,after,guard⟩:=o;cases op<;>simp only[cls,reduceCtorEq,Nat.reduceEqDiff] at hc<;>simp only[kI,Qq,KQ,Xc,KR,wE,Qr,KS,AU,KT,qE,wF,AV,GX,KU,Qs,Qt,zV,yI,KW,yJ,KX,yK,KY,DZ,FY] at he ⊢
 case load t x=>split at hc<;>cases hc
 case convert u t x=>split at hc<;>cases hc
 case alloc t=>
  split at he
  . rename_i ti ht;split at he
    . rename_i z hz;obtain⟨⟨ob,h1,h2,h3⟩,h4⟩:=hnew2 he rfl;exact .inr ⟨ob,h1,h2,h3,λbN h'=>by simpa only[ht,hz] using h4 bN h'⟩
    cases he
  cases he
 case box t x=>
  split at he
  . rename_i ti ht;split at he
    . rename_i ds hds;obtain⟨⟨ob,h1,h2,h3⟩,h4⟩:=hnew2 he rfl;exact .inr ⟨ob,h1,h2,h3,λbN h'=>by simpa only[ht,hds] using h4 bN h'⟩
    cases he
  cases he
 case range t x=>
  split at he
  . rename_i ti ht;split at he
    . rename_i b hk e1;obtain⟨⟨ob,h1,h2,h3⟩,h4⟩:=hnew2 he rfl;exact .inr ⟨ob,h1,h2,h3,λbN h'=>by simpa only[ht,hk,e1] using h4 bN h'⟩
    cases he
  cases he
 case buildSlice t len parts=>
  split at he
  . rename_i ti ht;split at he
    . rename_i e hk;split at he
      . rename_i te hte;split at he
        . rename_i z hz;split at he
          . rename_i cs hcs;split at he
            . rename_i hle;unfold afP at he;split at he
              . rename_i apH;simp only[aW,bM] at he;obtain⟨rfl,rfl,rfl⟩:=he;exact .inl ⟨rfl,λbN=>by simp only[ht,hk,hte,hz,hcs,hle,if_true,afP,apH]⟩
              rename_i apH;obtain⟨⟨ob,h1,h2,h3⟩,h4⟩:=hnew2 he rfl;exact .inr ⟨ob,h1,h2,h3,λbN h'=>by simpa only[ht,hk,hte,hz,hcs,hle,if_true,afP,apH,oL,if_false] using h4 bN h'⟩
            cases he
          cases he
        cases he
      cases he
    cases he
  cases he
 case makeSlice t l c=>
  split at he
  . rename_i ti ht;split at he
    . rename_i e hk;split at he
      . rename_i te hte;split at he
        . rename_i z k1 n1 k2 n2 hz e1 e2;split at he
          . cases he
          rename_i hb;obtain⟨⟨ob,h1,h2,h3⟩,h4⟩:=hnew2 he rfl;refine .inr ⟨ob,h1,h2,h3,λbN h'=>?_⟩;have:=h4 bN h';rw[if_neg hb];exact this
        cases he
      cases he
    cases he
  cases he
 case call c=>
  obtain⟨callee,nR,ats⟩:=c;cases callee with
  | invoke=>simp at hc
  | builtin b=>
   cases b<;>(try simp at hc;done)
   case append=>
    have hn:ZG ⟨.builtin .append,nR,ats⟩=true:=by
     simp only at hc;split at hc
     . assumption
     cases hc
    obtain⟨cl⟩:=nR;have hx : ∃ r,cl = .const (.slice none 0 0)::r:=by
     match cl,hn with
     | x::r,hn=>
      simp only[ZG,aek] at hn;split at hn
      . exact⟨r,rfl⟩
      cases hn
    obtain⟨r,rfl⟩:=hx;simp only[hn,Bool.true_and] at he ⊢;have hcd:ρ (.const (.slice none 0 0)) = .dX:=azj _;split at he
    . cases he
    rename_i hv;have hv:ZH (List.map (λx=>(strip p (ρ x)).1) (Operand.const (.slice none 0 0)::r))=false:=by simpa using hv
    simp only[hv,oL,if_false] at he ⊢;obtain⟨os2,h2,rfl⟩:=lQ he;simp only[EI,hcd,strip] at h2 ⊢
    match r,h2,hv with
    | [y],h2,hv=>
     simp only[EI,List.map_nil,hcd,strip,ZH] at h2 hv ⊢;generalize hy:(strip p (ρ y)).1=yd at h2 hv ⊢;unfold qG at h2;simp only at h2;split at h2
     . rename_i t u apI;split at h2
       . rename_i hps;split at h2
         . rename_i ti ht;split at h2
           . rename_i e hk;split at h2
             . rename_i te hte;split at h2
               . rename_i z hz;split at h2
                 . cases h2
                 rename_i hsz;replace h2:=(abE ..).symm.trans h2;split at h2
                 . cases h2
                 rename_i mm hh oo hsrc;split at h2
                 . rename_i hkk;simp only[aW,bM] at h2;obtain⟨rfl,rfl,rfl⟩:=h2;refine .inr ⟨_,rfl,rfl,hkk,λbN h'=>?_⟩;have hs':zM p bN te.size yd=some (mm,hh,oo):=by
                    cases yd<;>first|exact hsrc|(simp[ZH] at hv;done)|(rename_i x;cases x<;>exact hsrc)
                   simp only[qG,apI,hps,ht,hk,hte,hz,hsz,if_true,if_false,abE,hs',h',oL,MW,iP]
                 cases h2
               cases h2
             cases h2
           cases h2
         cases h2
       cases h2
     cases h2
    | [],h2,_=>simp[qG] at h2
    | _::_::_,h2,_=>simp[qG] at h2
  | value f=>
   cases f with
   | func f=>
    have hk:=(hown _ rfl).1 f rfl;have h1:dB.SY f=1:=by
     rw[← hk];simp only at hc;split at hc
     . cases hc
     . assumption
     all_goals cases hc
    simp only[hρ,strip] at he ⊢;simp only[EL] at he ⊢;unfold EJ at he ⊢;rw[h1] at he ⊢;simp only at he ⊢;split at he
    . rename_i sz n tg g hfn;obtain⟨⟨ob,q1,q2,q3⟩,q4⟩:=hnew2 he rfl;exact .inr ⟨ob,q1,q2,q3,λbN h'=>by simpa only[hfn] using q4 bN h'⟩
    . rename_i hfn;obtain⟨⟨ob,q1,q2,q3⟩,q4⟩:=hnew2 he rfl;exact .inr ⟨ob,q1,q2,q3,λbN h'=>by simpa only[hfn] using q4 bN h'⟩
    cases he
   | tmp x=>
    exfalso;simp only at hc;repeat' split at hc
    all_goals cases hc
   | _=>simp at hc
end
end Go.Vx
end
