/- The law on cuts, of what the functions yield. No conditions. -/
import Derived.Test.YtmpgicplgjmjkaaGreatDoorS27
set_option linter.all false
namespace Go.Vx
set_option maxRecDepth 100000
set_option maxHeartbeats 4000000
theorem atq(h w k:Int):Yields (yC h w k) (λt=>xG t/\t.fU=lT/\t.fP=dL/\t.iF=0):=by
 unfold yC;exact .bind _ (anz h w k) λs hs=>.ret ⟨⟨.inl rfl,vw,hs.1,⟨nL _,bW _⟩⟩,rfl,rfl,rfl⟩
theorem alH(x:Int):(0<=jm .i64 x 7/\jm .i64 x 7<=7)/\0<=jm .i64 x 15/\jm .i64 x 15<=15:=by
 have key : ∀ c:Nat,c<16->0<=jm .i64 x c/\jm .i64 x c<=c:=λc hc=>by
  unfold jm;have h:(BitVec.ofInt 64 x &&& BitVec.ofInt 64 (c:Int)).toNat<=c:=by
   rw[BitVec.toNat_and];refine QL Nat.and_le_right ?_;rw[BitVec.toNat_ofInt];omega
  show 0<=IntKind.wrap .i64 ((BitVec.ofInt 64 x &&& BitVec.ofInt 64 (c:Int)).toNat:Int)/\IntKind.wrap .i64 ((BitVec.ofInt 64 x &&& BitVec.ofInt 64 (c:Int)).toNat:Int)<=c;rw[wrapN ak];omega
 exact⟨key 7 ak,key 15 ak⟩
theorem arK{t:bF}(hu:t.fU=lT)(hb:t.iF=0)(d:bL):fed t d []=t:=by
 obtain⟨u,p,s,b⟩:=t;simp only at hu hb;subst hu hb;have z:aP 0 (ah (CQ s).aK)=0:=by have:=bW (CQ s).aK;unfold aP;split<;>omega
 show bF.mk ⟨[]⟩ p s (aP 0 (ah (CQ s).aK))=_;rw[z];rfl
theorem agZ(h w:Int)(b cuts:List Int):tZ h w b cuts=some true:=by
 refine Yields.eq ?_;unfold tZ;refine .call VQ (.ite (λ_=>.ret rfl) λk=>?_);have hk:ah b<=400/\ah cuts<=100:=by grind
 obtain⟨hb,hc⟩:=hk;have b0:=bW b;have c0:=bW cuts;obtain⟨n,en,q,q1,q2,q3⟩:=atq (1+jm .i64 h 7) (1+jm .i64 w 15) 20;have eF : ∀ {t:bF},xG t->∀ {x:List Int},ah x<=400->nZ t kP x=some (fed t kP x):=λqt _ hx=>O8 qt vT ak;have r1:=alH h;have r2:=alH w;refine .call aar (.chk bS (.chk bS (.call en (.call (eF q hb) (.chk bS (.chk bS (.call en ?_)))))));refine .cut (λo=>∃ v:Int,o = .go (v,fed n kP (b.take v.toNat))/\0<=v/\v<=ah b) (.loop (λz=>0<=z.1/\z.1<=ah b/\0<=z.2.1/\z.2.2=fed n kP (b.take z.1.toNat)) (λz=>(ah cuts-z.2.1).toNat) ⟨bH,b0,bH,by simp only[Int.toNat_zero,List.take_zero];exact(arK q1 q3 kP).symm⟩ ?_) ?_
 . rintro⟨v,i,x⟩ ⟨v0,v1,i0,e⟩;simp only at v0 v1 i0 e ⊢;subst e;refine .ite (λh=>?_) λ_=>.ret ⟨v,rfl,v0,v1⟩;have h:i<ah cuts:=by simpa using h
   have rc:=(alH (aB 0 cuts i)).2;have hm:0<=aP (jm .i64 (aB 0 cuts i) 15) (ah b-v)/\aP (jm .i64 (aB 0 cuts i) 15) (ah b-v)<=ah b-v:=by unfold aP;split<;>omega
   generalize aP (jm .i64 (aB 0 cuts i) 15) (ah b-v)=m at hm ⊢;have hs:ah (kU b v (v+m))=m:=by rw[dG ak ak ak];omega
   refine .chk ⟨i0,h⟩ (.chk bS (.chk bS (.chk ⟨v0,ak,ak⟩ (.call (eF (ac6 q vT _) ak) (.chk bS (.chk bS (.ret ⟨⟨cB,cB,cB,?_⟩,cB⟩)))))));simp only;rw[akM n q3];congr 1;rw[show(v+m).toNat=v.toNat+m.toNat by omega,List.take_add];unfold kU;rw[show(v+m-v).toNat=m.toNat by omega]
 rintro o ⟨v,rfl,v0,v1⟩;have hs:ah (kU b v (ah b))=ah b-v:=dG v0 v1 (nL _);have es:b.take v.toNat++kU b v (ah b)=b:=by
  have e1:kU b v (ah b)=b.drop v.toNat:=aal (by rw[zZ,kM];omega);rw[e1,List.take_append_drop]
 have q4:=ac6 q vT b;obtain⟨a,ea⟩:=VK (fed n kP b);refine .go (.chk ⟨v0,v1,nL _⟩ (.call (eF (ac6 q vT _) ak) ?_));rw[akM n q3,es];exact .call ((JG rfl).trans ea) (.call ((JG rfl).trans ea) (.call ((JG rfl).trans (MC _ q4 a ea)) (.call ((JG rfl).trans q4.ok) (.ret rfl))))
end Go.Vx
