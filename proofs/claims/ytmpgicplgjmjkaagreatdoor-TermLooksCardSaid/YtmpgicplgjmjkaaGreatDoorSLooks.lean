/- The law on looking back, of what the functions yield. No conditions. -/
import Derived.Test.YtmpgicplgjmjkaaGreatDoorS27
set_option linter.all false
namespace Go.Vx
set_option maxRecDepth 100000
set_option maxHeartbeats 4000000
theorem agl{t:bF}(q:xG t)(n:Int) : ∃ k,BS t n=some (bF.mk t.fU t.fP t.fS k)/\xG (bF.mk t.fU t.fP t.fS k)/\(n=0->k=t.iF):=by
 have hb:=q.b;have hkb:=q.s.main.kept.len;have hkc:=q.s.main.kept.cap;have hr:ah (CQ t.fS).aK<=200:=by
  unfold CQ;split
  . simp
  omega
 have hn : -200<=aY (-200) (aP n 200)/\aY (-200) (aP n 200)<=200/\(n=0->aY (-200) (aP n 200)=0):=by unfold aY aP;(repeat' split)<;>omega
 have hk:0<=aP (aY 0 (t.iF+aY (-200) (aP n 200))) (ah (CQ t.fS).aK)/\aP (aY 0 (t.iF+aY (-200) (aP n 200))) (ah (CQ t.fS).aK)<=ah (CQ t.fS).aK/\(n=0->aP (aY 0 (t.iF+aY (-200) (aP n 200))) (ah (CQ t.fS).aK)=t.iF):=by
  generalize aY (-200) (aP n 200)=m at hn ⊢;unfold aY aP;(repeat' split)<;>omega
 refine⟨aP (aY 0 (t.iF+aY (-200) (aP n 200))) (ah (CQ t.fS).aK),Yields.eq ?_,⟨q.u,q.p,q.s,hk.1,hk.2.1⟩,hk.2.2⟩;unfold BS;refine .call q.ok (.ite (λh=>by cases h) λ_=>.chk bS ?_);unfold BM;exact .call (b:=bF.mk t.fU t.fP t.fS (aP (aY 0 (t.iF+aY (-200) (aP n 200))) (ah (CQ t.fS).aK))) (by rw[aeV];rfl) (.ret rfl)
theorem ae2(t:fI)(n:Int)(b:List Int):rV t n b=some true:=by
 refine Yields.eq ?_;unfold rV;obtain⟨o,f1,f2,f3,f4⟩:=ac7 t;refine .call VQ (.call f1 (.bind (λv=>v=true->xG o) (TJ (λ_=>(Yw o).mono λr hr h=>hr.1 h) λ_=>.ret λh=>by cases h) λv2 hv=>.ite (λ_=>.ret rfl) λk=>?_));have hk:v2=true/\ah b<=400:=by grind
 obtain⟨rfl,hb⟩:=hk;have q:=hv rfl;obtain⟨x,ex,qx,_⟩:=agl q n;obtain⟨z,ez,qz,hz⟩:=agl q 0;have hbk:o.iF=t.iF:=by
  cases f2;rfl
 refine .call aar (.call ex (.call (O8 qx vT ak) (.call (O8 q vT ak) ?_)));have e1:bF.mk o.fU o.fP o.fS t.iF=o:=by rw[← hbk]
 refine .call (b:=t) ((JG rfl).trans (by simp only[e1];exact f2)) (.call ((JG rfl).trans (MC o q t f2)) ?_);have qf:=ac6 q vT b;have q0:xG (bF.mk (fed o kP b).fU (fed o kP b).fP (fed o kP b).fS 0):=⟨qf.u,qf.p,qf.s,nL _,bW _⟩
 obtain⟨a,ea⟩:=VK (bF.mk (fed o kP b).fU (fed o kP b).fP (fed o kP b).fS 0);refine .call (b:=a) ((JG rfl).trans ea) (.call (b:=a) ((JG rfl).trans ea) (.call ((JG rfl).trans (MC _ q0 a ea)) (.call ((JG rfl).trans ez) (.ret ?_))));rw[hz rfl,hbk];simp
end Go.Vx
