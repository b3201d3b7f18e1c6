/- Lifted functions: what joins the plain functions that a program prints to the evaluator; conditions: none. -/
import Derived.Test.YtmpgicplgjmjkaaGreatDoorVxFn
import Derived.KernelRfl
import Derived.Scope
set_option linter.all false
namespace Go.Vx
open Go
inductive Fl (β γ:Type) where
 | go (b:β)
 | out (r:γ)
section
variable {α β γ:Type}
def chk(c:Prop)[Decidable c](k:Option α):Option α:=if c then k else none
def aA(c:Bool)(x y:Option α):Option α:=match c with
 | true=>x
 | false=>y
def aeE(k:β->Option γ):Fl β γ->Option γ
 | .go b=>k b
 | .out r=>some r
def aO(o:Option (Fl β γ))(k:β->Option γ):Option γ:=match o with
 | none=>none
 | some f=>aeE k f
def au(o:Option β)(k:β->Option γ):Option γ:=match o with
 | none=>none
 | some b=>k b
theorem jC{c:Prop}[Decidable c]{k:Option α}{r:α}(h:chk c k=some r):c/\k=some r:=by
 unfold chk at h;split at h
 . exact⟨by assumption,h⟩
 cases h
theorem anA{c:Prop}[Decidable c]{k:Option α}(h:c):chk c k=k:=if_pos h
theorem YJ{c:Bool}{x y:Option α}{r:α}(h:aA c x y=some r)(hc:c=true):x=some r:=by
 subst hc;exact h
theorem YK{c:Bool}{x y:Option α}{r:α}(h:aA c x y=some r)(hc:c=false):y=some r:=by
 subst hc;exact h
theorem HZ{o:Option (Fl β γ)}{k:β->Option γ}{r:γ}(h:aO o k=some r) : ∃ f,o=some f/\aeE k f=some r:=by
 cases o with
 | none=>cases h
 | some f=>exact⟨f,rfl,h⟩
theorem amx{o:Option β}{k:β->Option γ}{r:γ}(h:au o k=some r) : ∃ b,o=some b/\k b=some r:=by
 cases o with
 | none=>cases h
 | some f=>exact⟨f,rfl,h⟩
def wM(body:α->Option (Fl α γ)):Nat->α->Option γ
 | 0,_=>none
 | n+1,x=>match body x with
  | none=>none
  | some (.go y)=>wM body n y
  | some (.out r)=>some r
theorem Xr{body:α->Option (Fl α γ)}{r:γ} : ∀ {n m:Nat} {x:α},wM body n x=some r->n<=m->wM body m x=some r
 | 0,_,_,h,_=>by cases h
 | n+1,0,_,_,h=>by omega
 | n+1,m+1,x,h,hm=>by
  simp only[wM] at h ⊢;split at h
  . cases h
  . rename_i y hy;exact Xr h ak
  exact h
def amO(body:α->Option (Fl α γ))(n:Nat):α->Option γ :=
 Nat.rec (motive:=λ_=>α->Option γ) (λ_=>none) (λ_ ih x=>match body x with
  | none=>none
  | some (.go y)=>ih y
  | some (.out r)=>some r) n
theorem ajE(body:α->Option (Fl α γ)) : ∀ (n:Nat) (x:α),amO body n x=wM body n x
 | 0,_=>rfl
 | n+1,x=>by
  show(match body x with
   | none=>none
   | some (.go y)=>amO body n y
   | some (.out r)=>some r)=wM body (n+1) x
  simp only[wM];cases body x with
  | none=>rfl
  | some f=>
   cases f with
   | go y=>exact ajE body n _
   | out r=>rfl
open Classical in
noncomputable def aeF(body:α->Option (Fl α γ))(x:α):Option γ:=if h : ∃ r n,wM body n x=some r then some h.choose else none
theorem ajF{body:α->Option (Fl α γ)}{n:Nat}{x:α}{r:γ}(h:wM body n x=some r):aeF body x=some r:=by
 have hx : ∃ r n,wM body n x=some r:=⟨r,n,h⟩
 rw[aeF,dif_pos hx];obtain⟨m,hm⟩:=hx.choose_spec;have h1:=Xr h (Nat.le_max_left n m);have h2:=Xr hm (Nat.le_max_right n m);rw[h1] at h2;exact h2.symm
noncomputable def bZ(body:α->Option (Fl α γ))(x:α):Option γ:=match amO body 3000 x with
 | some r=>some r
 | none=>aeF body x
theorem alh(body:α->Option (Fl α γ))(x:α):bZ body x=aeF body x:=by
 unfold bZ;split
 . rename_i r h;rw[ajE] at h;exact(ajF h).symm
 rfl
attribute [irreducible] bZ
theorem Xt{body:α->Option (Fl α γ)}{n:Nat}{x:α}{r:γ}(h:wM body n x=some r):bZ body x=some r:=(alh body x).trans (ajF h)
theorem Tq{body:α->Option (Fl α γ)}{x:α}{r:γ} : bZ body x=some r ↔ ∃ n,wM body n x=some r:=by
 constructor
 . intro h;rw[alh,aeF] at h;split at h
   . rename_i hx;obtain⟨m,hm⟩:=hx.choose_spec;cases h;exact⟨m,hm⟩
   cases h
 rintro⟨n,h⟩;exact Xt h
theorem ajG(body:α->Option (Fl α γ))(x:α):bZ body x=match body x with
  | none=>none
  | some (.go y)=>bZ body y
  | some (.out r)=>some r:=by
 split
 . rename_i h;cases hl:bZ body x with
   | none=>rfl
   | some r=>
    obtain⟨n,hn⟩:=Tq.1 hl;cases n with
    | zero=>cases hn
    | succ n=>simp[wM,h] at hn
 . rename_i y h;cases hl:bZ body y with
   | none=>
    cases hx:bZ body x with
    | none=>rfl
    | some r=>
     obtain⟨n,hn⟩:=Tq.1 hx;cases n with
     | zero=>cases hn
     | succ n=>
      simp only[wM,h] at hn;rw[Xt hn] at hl;cases hl
   | some r=>
    obtain⟨n,hn⟩:=Tq.1 hl;exact Xt (n:=n+1) (by simpa only[wM,h] using hn)
 rename_i r h;exact Xt (n:=1) (by simp only[wM,h])
theorem amN{body:α->Option (Fl α γ)}(inv:α->Prop)(μ:α->Nat)(Q:γ->Prop){x:α}(hx:inv x)
  (step : ∀ x,inv x->(∃ y,body x=some (.go y)/\inv y/\μ y<μ x)\/∃ r,body x=some (.out r)/\Q r) : ∃ r,bZ body x=some r/\Q r:=by
 induction hn:μ x using Nat.strongRecOn generalizing x with
 | _ n ih=>
  rcases step x hx with⟨y,h1,h2,h3⟩|⟨r,h1,h2⟩
  . obtain⟨r,h4,h5⟩:=ih _ (hn▸h3) h2 rfl;exact⟨r,by rw[ajG,h1];exact h4,h5⟩
  exact⟨r,by rw[ajG,h1],h2⟩
end
section
variable {α:Type}
def aB(d:α)(xs:List α)(i:Int):α:=xs.getD i.toNat d
def ah(xs:List α):Int:=xs.length
def iM(xs:List α)(i:Int)(v:α):List α:=xs.set i.toNat v
def kU(xs:List α)(l h:Int):List α:=(xs.drop l.toNat).take (h-l).toNat
def jX(n:Int)(v:α):List α:=List.replicate n.toNat v
def VL(xs:List α)(off:Int)(ys:List α)(n:Int):List α:=xs.take off.toNat++ys.take n.toNat++xs.drop (off+n).toNat
theorem bW(xs:List α):0<=ah xs:=by simp[ah]
@[simp] theorem bP:ah ([]:List α)=0:=rfl
@[simp] theorem bE (x:α) (xs:List α):ah (x::xs)=ah xs+1:=by simp[ah]
@[simp] theorem cu (xs:List α) (i:Int) (v:α):ah (iM xs i v)=ah xs:=by simp[ah,iM]
@[simp] theorem bK (xs ys:List α):ah (xs++ys)=ah xs+ah ys:=by simp[ah]
theorem dK{n:Int}(v:α)(h:0<=n):ah (jX n v)=n:=by simp[ah,jX];omega
theorem dG{xs:List α}{l h:Int}(h0:0<=l)(h1:l<=h)(h2:h<=ah xs):ah (kU xs l h)=h-l:=by
 simp[ah,kU] at *;omega
theorem apW{d:α}{xs:List α}{k i:Int}{v:α}(h0:0<=k)(h1:k<ah xs)(i0:0<=i):aB d (iM xs k v) i=if i=k then v else aB d xs i:=by
 simp only[aB,iM,wI,List.getElem?_set]
 by_cases h:i=k
 . subst h;simp[ah] at h1;rw[if_pos rfl,if_pos rfl,if_pos ak];rfl
 rw[if_neg ak,if_neg h]
theorem j5{d:α}{xs:List α}{k i:Int}{v:α}(h0:0<=k)(i0:0<=i)(i1:i<ah xs):aB d (iM xs k v) i=if i=k then v else aB d xs i:=by
 by_cases h:i=k
 . rw[apW h0 ak i0]
 simp only[aB,iM,wI,List.getElem?_set];rw[if_neg ak,if_neg h]
theorem lZ{d:α}{xs ys:List α}{i:Int}(i0:0<=i):aB d (xs++ys) i=if i<ah xs then aB d xs i else aB d ys (i-ah xs):=by
 simp only[aB,ah,wI]
 by_cases h:i<(xs.length:Int)
 . rw[if_pos h,sj ak]
 rw[if_neg h,uZ ak];congr 2;omega
theorem HY(d x:α)(xs:List α):aB d (xs++[x]) (ah xs)=x:=by
 rw[lZ (bW xs),if_neg ak,Int.sub_self];rfl
theorem Kw{d:α}{n i:Int}{v:α}(i0:0<=i)(h:i<n):aB d (jX n v) i=v:=by
 simp only[aB,jX,wI,aeC];rw[if_pos ak];rfl
theorem Gx{d:α}{xs:List α}{l h i:Int}(h0:0<=l)(i0:0<=i)(i1:i<h-l):aB d (kU xs l h) i=aB d xs (l+i):=by
 simp only[aB,kU,wI,List.getElem?_take,Xu];rw[if_pos ak];congr 2;omega
@[simp] theorem nD (d x:α) (xs:List α):aB d (x::xs) 0=x:=rfl
theorem j6{d:α}{xs:List α}{x:α}{i:Int}(h:i=0):aB d (x::xs) i=x:=by subst h;rfl
theorem arE{d:α}{xs:List α}{i:Int}(h0:0<=i)(h1:i<ah xs) : ∃ h:i.toNat<xs.length,aB d xs i=xs[i.toNat]:=by
 have h:i.toNat<xs.length:=by simp[ah] at h1;omega
 exact⟨h,by simp[aB,h]⟩
theorem jB{xs ys:List α}{off n:Int}(h0:0<=off)(h1:0<=n)(h2:n<=ah ys)(h3:off+n<=ah xs):ah (VL xs off ys n)=ah xs:=by
 simp[ah,VL] at *;omega
theorem Gy{d:α}{xs ys:List α}{off n i:Int}(h0:0<=off)(h1:0<=n)(h2:n<=ah ys)(h3:off+n<=ah xs)(i0:0<=i) :
  aB d (VL xs off ys n) i=if off<=i/\i<off+n then aB d ys (i-off) else aB d xs i:=by
 simp only[ah] at h2 h3;simp only[aB,VL,wI,CP];rcases Int.lt_or_le i off with h|h
 . rw[if_neg ak,sj yh,Xv ak]
 rw[uZ yh];rcases Int.lt_or_le i (off+n) with h'|h'
 . rw[if_pos ⟨h,h'⟩,sj yh,Xv yh];congr 2;simp;omega
 rw[if_neg ak,uZ yh,Xu];congr 2;simp;omega
end
def Dj(s:ByteArray):List Int:=s.data.toList.map λb=>(b.toNat:Int)
theorem iV(s:ByteArray):ah (Dj s)=bn s:=by simp[ah,Dj,bn]
theorem VW{s:ByteArray}{i:Int} : aB 0 (Dj s) i=kY s i:=by
 simp only[aB,Dj,kY,wI,qJ];cases s.data.toList[i.toNat]?<;>rfl
inductive CV where
 | int (k:IntKind) (x:Int)
 | bool (b:Bool)
def Qg:List (Nat×CV)->Nat->D
 | [],_=>.junk
 | (k,.int q x)::r,j=>cond (Nat.beq j k) (.v (.int q x)) (Qg r j)
 | (k,.bool b)::r,j=>cond (Nat.beq j k) (.v (.bool b)) (Qg r j)
inductive FV where
 | nil (f:Nat)
 | int (r:FV) (k:IntKind) (x:Int)
 | bool (r:FV) (b:Bool)
 | str (r:FV) (s:ByteArray)
 | fn (r:FV) (v:FV)
 | box (r:FV) (n:Nat) (l:List (Nat×CV))
def V9:FV:=.nil 0
instance:Inhabited FV:=⟨V9⟩
def FV.f:FV->Nat
 | .nil f=>f
 | .int r _ _=>r.f
 | .bool r _=>r.f
 | .str r _=>r.f
 | .fn r _=>r.f
 | .box r _ _=>r.f
def FV.k:FV->Nat
 | .nil _=>0
 | .int r _ _=>r.k+1
 | .bool r _=>r.k+1
 | .str r _=>r.k+1
 | .fn r _=>r.k+1
 | .box r _ _=>r.k+1
def FV.c:FV->Nat->D
 | .nil _,_=>.junk
 | .int r k x,j=>cond (Nat.beq j r.k) (.gX 1 1 (λ_ _=>.v (.int k x)) 0 0) (r.c j)
 | .bool r b,j=>cond (Nat.beq j r.k) (.gX 1 1 (λ_ _=>.v (.bool b)) 0 0) (r.c j)
 | .str r s,j=>cond (Nat.beq j r.k) (.gX 1 1 (λ_ _=>.v (.string s)) 0 0) (r.c j)
 | .fn r v,j=>cond (Nat.beq j r.k) (.gX 1 1 (λ_ _=>.fn (.func v.f) v.k v.c) 0 0) (r.c j)
 | .box r n l,j=>cond (Nat.beq j r.k) (.gX n 1 (λ_ j=>Qg l j) 0 0) (r.c j)
structure Nv where
 get : {α:Type}->α->List α->Int->α
 len : {α:Type}->List α->Int
 set : {α:Type}->List α->Int->α->List α
 sub : {α:Type}->List α->Int->Int->List α
 rep : {α:Type}->Int->α->List α
 app : {α:Type}->List α->List α->List α
 cpy : {α:Type}->List α->Int->List α->Int->List α
 bys:ByteArray->List Int
 fF:FV->Nat
 fK:FV->Nat
 fC:FV->Nat->D
def aj:Nv:=⟨aB,ah,iM,kU,jX,λx y=>x++y,VL,Dj,FV.f,FV.k,FV.c⟩
theorem avN(n:Nat):aj.fK (.nil n)=0:=rfl
theorem avO(r:FV)(k:IntKind)(x:Int):aj.fK (.int r k x)=aj.fK r+1:=rfl
theorem avP(r:FV)(b:Bool):aj.fK (.bool r b)=aj.fK r+1:=rfl
theorem avQ(r:FV)(s:ByteArray):aj.fK (.str r s)=aj.fK r+1:=rfl
theorem avX(r:FV)(n:Nat)(l:List (Nat×CV)):aj.fK (.box r n l)=aj.fK r+1:=rfl
theorem avY(r:FV)(n:Nat)(l:List (Nat×CV)):aj.fF (.box r n l)=aj.fF r:=rfl
theorem ahs(r:FV)(n:Nat)(l:List (Nat×CV))(j:Nat):aj.fC (.box r n l) j=cond (Nat.beq j (aj.fK r)) (.gX n 1 (λ_ j=>Qg l j) 0 0) (aj.fC r j):=rfl
theorem avR(r v:FV):aj.fK (.fn r v)=aj.fK r+1:=rfl
theorem avS(n:Nat):aj.fF (.nil n)=n:=rfl
theorem avT(r:FV)(k:IntKind)(x:Int):aj.fF (.int r k x)=aj.fF r:=rfl
theorem avU(r:FV)(b:Bool):aj.fF (.bool r b)=aj.fF r:=rfl
theorem avV(r:FV)(s:ByteArray):aj.fF (.str r s)=aj.fF r:=rfl
theorem avW(r v:FV):aj.fF (.fn r v)=aj.fF r:=rfl
theorem aho(r:FV)(k:IntKind)(x:Int)(j:Nat):aj.fC (.int r k x) j=cond (Nat.beq j (aj.fK r)) (.gX 1 1 (λ_ _=>.v (.int k x)) 0 0) (aj.fC r j):=rfl
theorem ahp(r:FV)(b:Bool)(j:Nat):aj.fC (.bool r b) j=cond (Nat.beq j (aj.fK r)) (.gX 1 1 (λ_ _=>.v (.bool b)) 0 0) (aj.fC r j):=rfl
theorem ahq(r:FV)(s:ByteArray)(j:Nat):aj.fC (.str r s) j=cond (Nat.beq j (aj.fK r)) (.gX 1 1 (λ_ _=>.v (.string s)) 0 0) (aj.fC r j):=rfl
theorem ahr(r v:FV)(j:Nat):aj.fC (.fn r v) j=cond (Nat.beq j (aj.fK r)) (.gX 1 1 (λ_ _=>.fn (.func (aj.fF v)) (aj.fK v) (aj.fC v)) 0 0) (aj.fC r j):=rfl
def Aa(l:List Int):ByteArray:=strOf (ah l) (λi=>aB 0 l i)
def azs(x:Int):Prop:=-9223372036854775808<=x/\x<=9223372036854775807
instance (x:Int):Decidable (azs x):=inferInstanceAs (Decidable (_/\_))
def dY(bytes:Nat)(n:Int):Prop:=n<=140737488355328/\n*(bytes:Int)<=140737488355328
instance (b:Nat) (n:Int):Decidable (dY b n):=inferInstanceAs (Decidable (_/\_))
def jD(bytes:Nat)(l c:Int):Prop:=0<=l/\l<=c/\c<=281474976710656/\(bytes:Int)*c<=281474976710656
instance (b:Nat) (l c:Int):Decidable (jD b l c):=inferInstanceAs (Decidable (_/\_/\_/\_))
def aU(k:IntKind)(x:Int):Prop:=k.min<=x/\x<=k.max
instance (k:IntKind) (x:Int):Decidable (aU k x):=inferInstanceAs (Decidable (_/\_))
section
variable {P:Program}
theorem dV.of{d d':D}(h:d=d'):dV d d':=h▸dV.refl d
theorem jZ.arr{g sz:Nat}{n:Int}{t:Bool}{f f':Int->Nat->D}(h : ∀ i:Int,0<=i->i<n->∀ j:Nat,j<sz->dV (f i j) (f' i j)):jZ (.arr g sz n t f) (.arr g sz n t f'):=by
 refine⟨⟨rfl,rfl,rfl,rfl⟩,λh' I β objs ctr k hr=>?_⟩;obtain⟨h1,h2,h3⟩:=hr;refine⟨h1,h2,?_⟩;rcases h3 with h3|⟨b,o,s,c,e,x1,x2,x3,x4,x5,x6⟩
 . exact .inl h3
 refine .inr ⟨b,o,s,c,e,x1,x2,x3,x4,x5,λi hi j hj=>?_⟩;obtain⟨z,z1,z2,z3⟩:=x6 i hi j hj;exact⟨z,z1,z2,h i ak hi j hj _ _ _ _ _ _ z3⟩
theorem jZ.arr'{g sz:Nat}{n n':Int}{t:Bool}{f f':Int->Nat->D}(hn:n=n')(h : ∀ i:Int,0<=i->i<n->∀ j:Nat,j<sz->dV (f i j) (f' i j)):jZ (.arr g sz n t f) (.arr g sz n' t f'):=by
 subst hn;exact jZ.arr h
theorem dV.sl{sz:Nat}{n n':Int}{t:Bool}{f f':Int->Nat->D}(hn:n=n')(h : ∀ i:Int,0<=i->i<n->∀ j:Nat,j<sz->dV (f i j) (f' i j)):dV (.sl sz n t f) (.sl sz n' false f'):=by
 subst hn;rintro h' I β objs ctr y ⟨a,len,cap,rfl,hl,hc,ht,hx⟩;refine⟨a,len,cap,rfl,hl,hc,(λh=>by cases h),λhp=>?_⟩;obtain⟨b,o,c,e,fr,e1,e2,e3,e4⟩:=hx hp;refine⟨b,o,c,e,fr,e1,e2,e3,λi hi j hj=>?_⟩;obtain⟨z,z1,z2,z3⟩:=e4 i hi j hj;exact⟨z,z1,z2,h i ak ak j hj _ _ _ _ _ _ z3⟩
theorem dV.nil{sz:Nat}{n:Int}{f:Int->Nat->D}(hn:0=n):dV .dX (.sl sz n false f):=by
 subst hn;intro h' I β objs ctr y hy;cases hy;exact⟨none,0,0,rfl,rfl,iR _,(λh=>by cases h),λh=>by omega⟩
theorem dV.agg{k:Nat}{c c':Nat->D}(h : ∀ j,j<k->dV (c j) (c' j)):dV (.agg k c) (.agg k c'):=by
 rintro h' I β objs ctr y ⟨ys,rfl,x1,x2⟩;refine⟨ys,rfl,x1,λj hj=>?_⟩;obtain⟨z,z1,z2,z3⟩:=x2 j hj;exact⟨z,z1,z2,h j hj _ _ _ _ _ _ z3⟩
theorem dV.fn{f:Fn}{k:Nat}{c c':Nat->D}(h : ∀ j,j<k->dV (c j) (c' j)):dV (.fn f k c) (.fn f k c'):=by
 rintro hh I β objs ctr y ⟨ys,rfl,hs,hx⟩;refine⟨ys,rfl,hs,λj hj=>?_⟩;obtain⟨z,z1,z2⟩:=hx j hj;exact⟨z,z1,h j hj _ _ _ _ _ _ z2⟩
theorem dV.gX{sz:Nat}{n:Int}{f f':Int->Nat->D}{i:Int}{j:Nat}(h : ∀ (q:Int) (k:Nat),k<sz->dV (f q k) (f' q k)):dV (.gX sz n f i j) (.gX sz n f' i j):=by
 rintro h' I β objs ctr y ⟨h0,h1,b,o,c,e,fr,hy,hI,hb,hx⟩;refine⟨h0,h1,b,o,c,e,fr,hy,hI,hb,λq hq k hk=>?_⟩;obtain⟨z,z1,z2,z3⟩:=hx q hq k hk;exact⟨z,z1,z2,h _ k hk _ _ _ _ _ _ z3⟩
theorem dV.win{sz sz':Nat}{f f':Int->Nat->D}{j:Nat}(hs:j+sz'<=sz)(h : ∀ k,k<sz'->dV (f 0 (j+k)) (f' 0 k)):dV (.gX sz 1 f 0 j) (.gX sz' 1 f' 0 0):=by
 rintro h' I β objs ctr y ⟨h0,h1,b,o,c,e,fr,hy,hI,hb,hx⟩;refine⟨h0,h1,b,o+j,c,e,fr,by rw[hy];simp,hI,hb,λq hq k hk=>?_⟩;have hq0:q=0:=ak;subst hq0;obtain⟨z,z1,z2,z3⟩:=hx 0 ak (j+k) ak;exact⟨z,by rw[← z1];congr 1;omega,z2,h k hk _ _ _ _ _ _ z3⟩
open Classical in
noncomputable def oH{α:Type}(n:Int)(a b:Option α):Option α:=if n=0 then (if a=b then b else none) else b
theorem auZ{α:Type}{n:Int}{a b:Option α}{r:α}(h:oH n a b=some r)(hn:n=0):a=some r:=by
 unfold oH at h;rw[if_pos hn] at h;split at h
 . rename_i hab;rw[hab];exact h
 cases h
theorem au0{α:Type}{n:Int}{a b:Option α}{r:α}(h:oH n a b=some r):b=some r:=by
 unfold oH at h;split at h
 . split at h
   . exact h
   cases h
 exact h
theorem Tr.auY{tt:TT}(hT:jG P tt){t:TypeId}{ti:TI}{e:TypeId}(ht:iB tt t=some ti)(hk:ti.kind = .slice e){id:Nat}{oa od:Oper}{x a d:Nat}{yt:TypeId}{Q:Exit->St->Prop}{st:St}{sz:Nat}{n:Int}{tight:Bool}{f:Int->Nat->D}
  (ha:oa.op = .move (.tmp x)/\oa.dst=some a/\oa.guard=none) (hd:od.op = .binOp .eql t (.tmp a) (.const (.slice none 0 0)) yt/\od.dst=some d/\od.guard=none)
  (hs:st.slots.getD x .junk = .sl sz n tight f) (hal:a<st.slots.length)
  (h1:n=0->Q .normal ⟨(st.slots.set a .junk).set d (.v (.bool true)),st.objs,st.ctr⟩)
  (h2:Q .normal ⟨(st.slots.set a .junk).set d (.v (.bool false)),st.objs,st.ctr⟩):Tr P (.region id #[oa,od] false) Q st:=by
 intro B0 h0 I0 L a0 w K R hK;refine wp_region ?_;show wpOps P #[oa,od] K [0,1] a0 w;rw[wpOps_cons];obtain⟨oad,aBw,oat,oap,oaa,oag⟩:=oa;obtain⟨odd,aBx,odt,odp,oda,odg⟩:=od;obtain⟨rfl,rfl,rfl⟩:=ha;obtain⟨rfl,rfl,rfl⟩:=hd;refine DY (tt:=tt) (dB:=⟨λ_=>0,λ_ _ _ _=>none,λ_=>false⟩) (m:=0) hT (i:=0) rfl R (st':=⟨st.slots.set a (st.slots.getD x .junk),st.objs,st.ctr⟩) (os:=[]) rfl (λq hq=>by cases hq) λa1 w1 R1=>?_;rw[wpOps_cons];obtain⟨I,β,R1⟩:=R1;have hsl:(st.slots.set a (st.slots.getD x .junk))[a]? = some (.sl sz n tight f):=by rw[jd hal,hs]
 obtain⟨y,y1,ad,len,cap,rfl,x1,x2,x3,x4⟩:=R1.slot a _ hsl;have hev:a1.eval (.tmp a) = .slice ad len cap:=by
  show a1.tmps.getD a undef=_;rw[aaM,y1];rfl
 have hu:=jV hT ht hk;have hrun:(execOp a1.eval ⟨some d,.binOp .eql t (.tmp a) (.const (.slice none 0 0)) yt,odt,odp,oda,none⟩).run P w1 = .ok (.value (.bool ad.isNone)) w1:=by
  have amP:a1.eval (.const (.slice none 0 0)) = .slice none 0 0:=rfl;have hg:eqGuard .eql t (.tmp a) (.const (.slice none 0 0)) (.slice ad len cap) (.slice none 0 0)=pure ():=rfl;have hq:=run_equal_slice_nil w1 t e ad len cap hu;simp[execOp,hev,amP,binOp,hg];rw[hq];rfl
 unfold wpOp;simp only[Jw,rZ,lq];rw[if_pos (by simp[Region.wanted])];refine .inl (dM hrun ?_);have hp:Post B0 h0 I0 L I β st.objs st.ctr w1 st.objs w1 (.v (.bool ad.isNone)) (.bool ad.isNone):=R1.still rfl;obtain⟨I',β',R2⟩:=R1.put (some d) hp;have R3:RS B0 h0 I0 L ⟨(st.slots.set a .junk).set d (.v (.bool ad.isNone)),st.objs,st.ctr⟩ (a1.put (some d) (.bool ad.isNone)) w1:=by
  refine⟨I',β',R2.aex (by simp[ku]) λs d' hs' y' hy' hd'=>?_⟩;simp only[ku] at hd'
  by_cases hsd:d=s
  . subst hsd;have hlt:d<st.slots.length:=by
     have:=(gZ.1 hs').1;simpa using this
    rw[jd (by simpa using hlt)] at hs';cases hs';exact hd' _ (jd (by simpa using hlt))
  rw[jR hsd] at hs'
  by_cases hsa:a=s
  . subst hsa;rw[jd hal] at hs';cases hs';trivial
  rw[jR hsa] at hs';exact hd' _ (by rw[jR hsd,jR hsa];exact hs')
 cases ad with
 | none=>
  have hl0:len=0:=by
   rcases EM len with h|h
   . exact h
   obtain⟨_,_,_,_,_,h,_⟩:=x4 h;cases h
  exact hK _ _ _ _ (h1 ak) R3
 | some q=>exact hK _ _ _ _ h2 R3
def noGoto(Q:Exit->St->Prop):Exit->St->Prop
 | .goto _,_=>False
 | e,st=>Q e st
theorem Tr.scope{c:Code}{Q:Exit->St->Prop}{st:St}(h:Tr P c (noGoto Q) st):Tr P (.scope c) Q st:=by
 intro B0 h0 I0 L a w K R hK;refine wp_scope_straight (h B0 h0 I0 L a w _ R λex st' a' w' q R'=>?_);cases ex with
 | goto l=>exact q.elim
 | _=>exact hK _ st' a' w' q R'
theorem Vp{p:Pr}{q:Prop} : ∀ {os:List bC},conj p os True->q->conj p os q
 | [],_,h=>h
 | _::r,h,hq=>⟨h.1,Vp (os:=r) h.2 hq⟩
def AP(P:Program)(st st':St):Prop:=∃ l st1 os,uF (std P) l st=some (st1,os)/\(∀ q∈os,q.run (std P))/\Ce st1 st'
theorem AP.of{st st':St}(h:Ce st st'):AP P st st':=⟨[],st,[],rfl,λq hq=>(by cases hq),h⟩
theorem AP.by{st st' st1:St}{os:List bC}(l:List Gh)(he:uF (std P) l st=some (st1,os))(hos:conj (std P) os True)(h:Ce st1 st'):AP P st st':=⟨l,st1,os,he,(xX hos).1,h⟩
theorem Tr.ge{c:Code}{Q:Exit->St->Prop}{st st':St}(h:AP P st st')(ht:Tr P c Q st'):Tr P c Q st:=by
 obtain⟨l,st1,os,h1,h2,h3⟩:=h;exact Tr.gh l h1 h2 (Tr.le h3 ht)
def amQ(P:Program){α τ γ:Type}(inv:α->τ->St)(ok:α->τ->Prop)(o:γ)(Q:Exit->St->Prop):Fl α γ->Exit->St->Prop
 | .go y=>Au (λst'=>∃ t',ok y t'/\AP P st' (inv y t')) (λ_ _=>False)
 | .out o'=>Au (λ_=>False) (λex st'=>o'=o->Q ex st')
theorem Tr.awS{α:Type}(inv:α->St)(ok:α->Prop)(μ:α->Nat){c:Code}{Q:Exit->St->Prop}(x0:α)(hx0:ok x0)
  (hr : ∀ x,ok x->Tr P c (Au (λst'=>∃ x',ok x'/\μ x'<μ x/\AP P st' (inv x')) Q) (inv x)):Tr P (.loop c) Q (inv x0):=by
 intro B0 h0 I0 L a w K R hK
 classical
 let J:Act->World->Nat->Prop:=λa w n=>∃ x,ok x/\RS B0 h0 I0 L (inv x) a w/\μ x=n;let M:Act->World->Nat:=λa w=>if h : ∃ n,J a w n then Classical.choose (least h) else 0
 refine wp_loop (λa w=>∃ n,J a w n) M ⟨_,x0,hx0,R,rfl⟩ λa w hI=>?_;obtain⟨x,hx,hR,hμ⟩:=(aeA (least hI)).1;have hM:M a w=μ x:=by simp only[M,dif_pos hI];exact hμ.symm
 refine hr x hx B0 h0 I0 L a w _ hR λex st' a' w' q R'=>?_;cases ex with
 | normal=>
  obtain⟨x',h1,h2,l,st1,os,h3,h4,h5⟩:=q;have R2:=(qH l R' h3 h4).le h5;have hJ : ∃ n,J a' w' n:=⟨_,x',h1,R2,rfl⟩
  refine⟨hJ,?_⟩;rw[hM];refine Nat.lt_of_le_of_lt ?_ h2;simp only[M,dif_pos hJ];exact(aeA (least hJ)).2 _ ⟨x',h1,R2,rfl⟩
 | _=>exact hK _ st' a' w' q R'
theorem Tr.bZ{α τ γ:Type}{body:α->Option (Fl α γ)}(inv:α->τ->St)(ok:α->τ->Prop){c:Code}{Q:Exit->St->Prop}{st:St}{x0:α}{o:γ}(t0:τ)(h:bZ body x0=some o)(h0:ok x0 t0)(hle:AP P st (inv x0 t0))
  (step : ∀ x t f,ok x t->body x=some f->Tr P c (amQ P inv ok o Q f) (inv x t)):Tr P (.loop c) Q st:=by
 obtain⟨n,hn⟩:=Tq.1 h;refine Tr.ge hle ?_;refine Tr.awS (α:=Nat×α×τ) (λx=>inv x.2.1 x.2.2) (λx=>ok x.2.1 x.2.2/\wM body x.1 x.2.1=some o) (λx=>x.1) (n,x0,t0) ⟨h0,hn⟩ ?_;rintro⟨m,x,t⟩ ⟨ht,hm⟩;cases m with
 | zero=>cases hm
 | succ m=>
  simp only[wM] at hm;split at hm
  . cases hm
  . rename_i y hy;refine(step x t _ ht hy).mono λex st' q=>?_;cases ex with
    | normal=>
     obtain⟨t',h1,h2⟩:=q;exact⟨(m,y,t'),⟨h1,hm⟩,Nat.lt_succ_self m,h2⟩
    | _=>exact q.elim
  rename_i r hr;refine(step x t _ ht hr).mono λex st' q=>?_;cases hm;cases ex with
  | normal=>exact q.elim
  | _=>exact q rfl
structure Hid where
 c:Nat
 g:Nat->Nat
 t:Nat->Bool
def Hid.ok(h:Hid):Prop:=0<h.c/\∀ k,h.g k<h.c
def gfn:List (Nat×Nat)->Nat->Nat
 | [],_=>0
 | (k,x)::r,t=>if Nat.beq k t then x else gfn r t
def tfn:List (Nat×Bool)->Nat->Bool
 | [],_=>false
 | (k,x)::r,t=>if Nat.beq k t then x else tfn r t
def amw:List (Nat×Nat)->Nat->Prop
 | [],_=>True
 | (_,x)::r,c=>x<c/\amw r c
theorem Hid.aaH{c:Nat}{l:List (Nat×Nat)}{t:Nat->Bool}(hc:0<c)(h:amw l c):Hid.ok ⟨c,gfn l,t⟩:=by
 refine⟨hc,λk=>?_⟩
 induction l with
 | nil=>exact hc
 | cons x r ih=>
  obtain⟨h1,h2⟩:=h;simp only[gfn];split
  . exact h1
  exact ih h2
theorem Tr.auJ{α γ:Type}{A:Option (Fl α γ)}{k:α->Option γ}{r:γ}(h:aO A k=some r){a b:Code}{Q:Exit->St->Prop}{st:St}(M:α->Hid->St)(ok:α->Hid->Prop)
  (hB : ∀ x t,ok x t->k x=some r->Tr P b Q (M x t)) (hA : ∀ f,A=some f->Tr P a (amQ P M ok r Q f) st):Tr P (.seq a b) Q st:=by
 obtain⟨f,hf,hk⟩:=HZ h;refine Tr.seq ((hA f hf).mono λex st' q=>?_);cases f with
 | go x=>
  cases ex with
  | normal=>
   obtain⟨t,h1,h2⟩:=q;exact Tr.ge h2 (hB x t h1 hk)
  | _=>exact q.elim
 | out r'=>
  cases hk;cases ex with
  | normal=>exact q.elim
  | _=>exact q rfl
theorem Tr.chunk{cx:Cx}(hT:jG P cx.tt)(hP:P.follows .mixedOrders=true){c:Code}{Q:Exit->St->Prop}{st:St}(h : ∀ N,N=Q->wp (std P) cx c N st):Tr P c Q st:=Xo hT hP _ _ _ (h Q rfl)
def SQ:Nat->List (Nat×D)->Nat->List D
 | 0,_,_=>[]
 | n+1,ks,i=>(match ks with
  | []=>.junk::SQ n [] (i+1)
  | (k,d)::r=>if Nat.beq k i then d::SQ n r (i+1) else .junk::SQ n ks (i+1))
def SS:Nat->List (Nat×Ob)->Nat->List (Option Ob)
 | 0,_,_=>[]
 | n+1,ks,i=>(match ks with
  | []=>none::SS n [] (i+1)
  | (k,d)::r=>if Nat.beq k i then some d::SS n r (i+1) else none::SS n ks (i+1))
theorem wu.MX : ∀ {l l':List D},l'.length=l.length->(∀ (t:Nat) (d d':D),l[t]? = some d->l'[t]? = some d'->dV d d')->wu l l'
 | [],[],_,_=>trivial
 | [],_::_,h,_=>by simp at h
 | _::_,[],h,_=>by simp at h
 | _::_,_::_,h,hg=>⟨hg 0 _ _ rfl rfl,wu.MX (by simpa using h) λt d d' h1 h2=>hg (t+1) d d' (by simpa using h1) (by simpa using h2)⟩
theorem yP.MX : ∀ {l l':List (Option Ob)},l'.length=l.length->(∀ (t:Nat) (o':Ob),l'[t]? = some (some o')->∃ o,l[t]? = some (some o)/\jZ o o')->yP l l'
 | [],[],_,_=>trivial
 | [],_::_,h,_=>by simp at h
 | _::_,[],h,_=>by simp at h
 | x::r,none::r',h,hg=>by
  have:=yP.MX (l:=r) (l':=r') (by simpa using h) λt o' h2=>by simpa using hg (t+1) o' (by simpa using h2)
  cases x<;>exact this
 | x::r,some o'::r',h,hg=>by
  have:=yP.MX (l:=r) (l':=r') (by simpa using h) λt o' h2=>by simpa using hg (t+1) o' (by simpa using h2)
  obtain⟨o,h1,h2⟩:=hg 0 o' rfl;simp only[lq,aW] at h1;subst h1;exact⟨h2,this⟩
theorem aaO : ∀ {n:Nat} {ks:List (Nat×D)} {i t:Nat} {d:D},(SQ n ks i)[t]? = some d->d = .junk\/(i+t,d)∈ks
 | 0,_,_,_,_,h=>by simp[SQ] at h
 | n+1,[],i,0,d,h=>by simp[SQ] at h;exact .inl h.symm
 | n+1,[],i,t+1,d,h=>by
  simp only[SQ,rZ] at h;rcases aaO h with h|h
  . exact .inl h
  cases h
 | n+1,(k,e)::r,i,t,d,h=>by
  simp only[SQ] at h;split at h
  . rename_i hk;have hk:=dO hk;subst hk;cases t with
    | zero=>simp only[lq,aW] at h;subst h;exact .inr (iO ..)
    | succ t=>
     simp only[rZ] at h;rcases aaO h with h|h
     . exact .inl h
     refine .inr (gU _ ?_);have e:k+(t+1)=k+1+t:=ak;rw[e];exact h
  cases t with
  | zero=>simp only[lq,aW] at h;exact .inl h.symm
  | succ t=>
   simp only[rZ] at h;rcases aaO h with h|h
   . exact .inl h
   refine .inr ?_;have e:i+(t+1)=i+1+t:=ak;rw[e];exact h
theorem Xw : ∀ {n:Nat} {ks:List (Nat×D)} {i:Nat},(SQ n ks i).length=n
 | 0,_,_=>rfl
 | n+1,[],i=>by simp only[SQ,tX,Xw]
 | n+1,(k,e)::r,i=>by simp only[SQ];split<;>simp only[tX,Xw]
theorem aaP : ∀ {n:Nat} {ks:List (Nat×Ob)} {i t:Nat} {d:Ob},(SS n ks i)[t]? = some (some d)->(i+t,d)∈ks
 | 0,_,_,_,_,h=>by simp[SS] at h
 | n+1,[],i,0,d,h=>by simp[SS] at h
 | n+1,[],i,t+1,d,h=>by
  simp only[SS,rZ] at h;cases aaP h
 | n+1,(k,e)::r,i,t,d,h=>by
  simp only[SS] at h;split at h
  . rename_i hk;have hk:=dO hk;subst hk;cases t with
    | zero=>simp only[lq,aW] at h;subst h;exact iO ..
    | succ t=>
     simp only[rZ] at h;refine gU _ ?_;have e:k+(t+1)=k+1+t:=ak;rw[e];exact aaP h
  cases t with
  | zero=>simp at h
  | succ t=>
   simp only[rZ] at h;have e:i+(t+1)=i+1+t:=ak;rw[e];exact aaP h
theorem Xx : ∀ {n:Nat} {ks:List (Nat×Ob)} {i:Nat},(SS n ks i).length=n
 | 0,_,_=>rfl
 | n+1,[],i=>by simp only[SS,tX,Xx]
 | n+1,(k,e)::r,i=>by simp only[SS];split<;>simp only[tX,Xx]
def acK(l:List D):List (Nat×D)->Prop
 | []=>True
 | (k,d')::r=>(∃ d,l[k]? = some d/\dV d d')/\acK l r
def acL(l:List (Option Ob)):List (Nat×Ob)->Prop
 | []=>True
 | (k,o')::r=>(∃ o,l[k]? = some (some o)/\jZ o o')/\acL l r
theorem acK.get{l:List D} : ∀ {ks:List (Nat×D)},acK l ks->∀ k d',(k,d')∈ks->∃ d,l[k]? = some d/\dV d d'
 | [],_,_,_,h=>by cases h
 | _::_,h,k,d',hm=>by
  rcases CU.1 hm with e|hm
  . cases e;exact h.1
  exact acK.get h.2 k d' hm
theorem acL.get{l:List (Option Ob)} : ∀ {ks:List (Nat×Ob)},acL l ks->∀ k d',(k,d')∈ks->∃ d,l[k]? = some (some d)/\jZ d d'
 | [],_,_,_,h=>by cases h
 | _::_,h,k,d',hm=>by
  rcases CU.1 hm with e|hm
  . cases e;exact h.1
  exact acL.get h.2 k d' hm
theorem Ce.frame{st:St}{c n m:Nat}{ks:List (Nat×D)}{os:List (Nat×Ob)}(hc:st.ctr<c)(hn:st.slots.length=n)(hm:st.objs.length=m)(hs:acK st.slots ks)(ho:acL st.objs os) :
  Ce st ⟨SQ n ks 0,SS m os 0,c⟩:=by
 refine⟨hc,wu.MX (Xw.trans hn.symm) λt d d' h1 h2=>?_,yP.MX (Xx.trans hm.symm) λt o' h2=>?_⟩
 . rcases aaO h2 with rfl|h2
   . exact dV.junk _
   obtain⟨e,h3,h4⟩:=hs.get _ _ h2;rw[LW] at h3;rw[h3] at h1;cases h1;exact h4
 have:=ho.get _ _ (aaP h2)
 rwa [LW] at this
theorem dV.rO{a b c j:Nat}{i i':Int}(hi:i=i'):dV (.rO a b c i j) (.rO a b c i' j):=by subst hi;exact dV.refl _
theorem dV.vec{a b c:Nat}{o o' n n':Int}(ho:o=o')(hn:n=n'):dV (.vec a b c o n) (.vec a b c o' n'):=by subst ho;subst hn;exact dV.refl _
theorem jZ.box{g:Nat}{cs cs':List D}(h:wu cs cs'):jZ (.box g cs) (.box g cs'):=by
 refine⟨rfl,λh' I β objs ctr k hr=>?_⟩;obtain⟨hg,b,o,s,c,e,h1,h2,h3,h4,h5,h6⟩:=hr;obtain⟨hl,hd⟩:=wu.get h;refine⟨hg,b,o,s,c,e,h1,h2,by rw[hl];exact h3,h4,by rw[hl];exact h5,λj d' hj=>?_⟩;have hlt:j<cs.length:=by rw[← hl];exact(gZ.1 hj).1
 obtain⟨z,z1,z2,z3⟩:=h6 j _ (iW hlt);exact⟨z,z1,z2,hd j _ d' (iW hlt) hj _ _ _ _ _ _ z3⟩
def ghL:List (Nat×List Gh)->Nat->List Gh
 | [],_=>[]
 | (k,x)::r,t=>if Nat.beq k t then x else ghL r t
def ae9:List (Nat×QW)->Nat->Option QW
 | [],_=>none
 | (k,x)::r,t=>if Nat.beq k t then some x else ae9 r t
theorem aol{β:Type}{c:Bool}{o:Option β}{d v:β}(h:(if c=true then o else some d)=some v)(hc:c=true):o=some v:=by rwa [if_pos hc] at h
theorem dV.slE{sz:Nat}{n n':Int}{t:Bool}{f f':Int->Nat->D}(hn:n=n')(h : ∀ i:Int,0<=i->i<n->∀ j:Nat,j<sz->f i j=f' i j):dV (.sl sz n t f) (.sl sz n' false f') :=
 dV.sl hn λi i0 i1 j hj=>dV.of (h i i0 i1 j hj)
theorem jZ.ajd{g sz:Nat}{n n':Int}{t:Bool}{f f':Int->Nat->D}(hn:n=n')(h : ∀ i:Int,0<=i->i<n->∀ j:Nat,j<sz->f i j=f' i j):jZ (.arr g sz n t f) (.arr g sz n' t f') :=
 jZ.arr' hn λi i0 i1 j hj=>dV.of (h i i0 i1 j hj)
theorem bI(k:IntKind)(x:Int):cK (std P) (.v (.int k x)) (.v (.int k x)):=by
 simp only[cK,if_pos];rfl
theorem iX(x:Bool):cK (std P) (.v (.bool x)) (.v (.bool x)):=by
 simp only[cK];rfl
theorem uD(x:ByteArray):cK (std P) (.v (.string x)) (.v (.string x)):=by
 simp only[cK];rfl
theorem aiv{n:Int}{sz:Nat}{f g:Int->Nat->D}(H : ∀ (i:Int) (j:Nat),cK (std P) (g i j) (g i j))(h : ∀ i:Int,0<=i->i<n->∀ j:Nat,j<sz->f i j=g i j) :
  (std P).all2 n sz (λi j=>cK (std P) (f i j) (g i j)):=by
 intro i i0 i1 j hj;rw[h i i0 i1 j hj];exact H i j
theorem arR{off n n':Int}(h0:0<=off)(h1:0<=n')(h2:off+n'<=n):(std P).cut off ((std P).add off n') n:=⟨h0,show off<=off+n' by omega,h2⟩
theorem bJ{sz:Nat}{n:Int}{f:Int->Nat->D}(H : ∀ (i:Int) (j:Nat),cK (std P) (f i j) (f i j)):cK (std P) (.sl sz n false f) (.sl sz n false f):=by
 simp only[cK,kF,if_pos];exact⟨rfl,λh=>(by cases h),λi _ _ j _=>H i j⟩
def Jy{α:Type}(sz:Nat)(E:α->Nat->D)(d:α)(out:List (List α))(i:Int):D:=.sl sz (ah (aB [] out i)) false (λi' j'=>E (aB d (aB [] out i) i') j')
theorem acD{α:Type}{sz:Nat}{E:α->Nat->D}{d:α}{out out':List (List α)}{i i2:Int}(HE : ∀ x j,cK (std P) (E x j) (E x j))(h:aB [] out' i2=aB [] out i):cK (std P) (Jy sz E d out i) (Jy sz E d out' i2):=by
 simp only[Jy,cK,kF,if_true,h];exact⟨rfl,(λh=>by cases h),λi _ _ j _=>HE _ _⟩
theorem aq0{α:Type}(E:α->Nat->D)(d:α)(out:List (List α))(src g2 sz:Nat)(N k:Int)(HE : ∀ x j,cK (std P) (E x j) (E x j)) :
  (std P).all2 N 1 (λi _=>BK (std P) src g2 sz (λi' j'=>E (aB d (aB [] out k) i') j') none (.cnd ((std P).eq i k) (.vec src g2 sz 0 (ah (aB [] out k))) (Jy sz E d out i)) (Jy sz E d out i)):=by
 intro i i0 i1 j hj;refine⟨λhb=>?_,λ_=>acD HE rfl⟩;have hb:i=k:=by have hb:(i==k)=true:=hb;simpa using hb
 subst hb;simp only[BK,Jy,QD,kF,Bool.and_self,if_true];refine⟨rfl,rfl,rfl,λi' _ _ j' _=>?_⟩;have e:(std P).add 0 i'=i':=CR i';show cK (std P) (E (aB d (aB [] out i) ((std P).add 0 i')) j') (E (aB d (aB [] out i) i') j');rw[e];exact HE _ _
theorem aq7{src g2 sz dst c:Nat}{f2:Int->Nat->D}{n n' i k':Int}{F:D}(hn:n=n')(hk:i=k') :
  QD (std P) src g2 sz f2 (some (dst,c)) (.vec src g2 sz 0 n) (.cnd ((std P).eq i k') (.vec dst c sz 0 n') F):=by
 refine⟨λ_=>?_,λh=>?_⟩
 . simp only[QD,kF,Bool.and_self,if_true];exact⟨rfl,rfl,rfl,hn⟩
 have h:(!(i==k'))=true:=h;simp[hk] at h
theorem awI{α:Type}{E:α->Nat->D}{d:α}{out out':List (List α)}{src g2 sz dst c:Nat}{N idx k k' n n':Int}{f2:Int->Nat->D}{X:D}(HE : ∀ x j,cK (std P) (E x j) (E x j))(h1:idx=k)(h2:k'=k)(hn:n=n')(hs : ∀ i,0<=i->i<N->i≠k->aB [] out' i=aB [] out i) :
  (std P).all2 N 1 (λi j=>BK (std P) src g2 sz f2 (some (dst,c)) (QB (std P) idx 0 [.vec src g2 sz 0 n] (λi _=>.cnd ((std P).eq i k) X (Jy sz E d out i)) i j) (.cnd ((std P).eq i k') (.vec dst c sz 0 n') (Jy sz E d out' i))):=by
 intro i i0 i1 j hj;obtain rfl:j=0:=ak;subst h1;subst h2;have e:QB (std P) k' 0 [.vec src g2 sz 0 n] (λi _=>.cnd ((std P).eq i k') X (Jy sz E d out i)) i 0 = .cnd ((std P).eq i k') (.vec src g2 sz 0 n) (.cnd ((std P).eq i k') X (Jy sz E d out i)):=rfl;rw[e];refine⟨λhb=>?_,λhb=>⟨λhb'=>?_,λ_=>?_⟩⟩
 . have hb:(i==k')=true:=hb;exact aq7 hn (by simpa using hb)
 . have hb:(!(i==k'))=true:=hb;have hb':(i==k')=true:=hb';rw[hb'] at hb;cases hb
 have hb:(!(i==k'))=true:=hb;have hne:i≠k':=by simpa using hb
 refine⟨λhb'=>?_,λ_=>acD HE (hs i i0 i1 hne)⟩;have hb':(i==k')=true:=hb';rw[hb'] at hb;cases hb
theorem awH{α:Type}{E:α->Nat->D}{d:α}{out':List (List α)}{src g2 sz dst c:Nat}{N n0 k' n n':Int}{f2:Int->Nat->D}{F h:Int->Nat->D}(hN:N=n0+1)(h2:k'=n0)(hn:n=n')(hh : ∀ i,h i 0 = .vec src g2 sz 0 n)(hc : ∀ i x,BK (std P) src g2 sz f2 (some (dst,c)) (F i 0) x=QD (std P) src g2 sz f2 (some (dst,c)) (F i 0) x)(hd : ∀ i b,nP (std P) b (F i 0) (.vec src g2 sz 0 n) = .cnd b (F i 0) (.vec src g2 sz 0 n))(hs : ∀ i,0<=i->i<n0->cK (std P) (F i 0) (Jy sz E d out' i))(ht : ∀ i,QD (std P) src g2 sz f2 (some (dst,c)) (F i 0) (Jy sz E d out' i)=cK (std P) (F i 0) (Jy sz E d out' i)) :
  (std P).all2 N 1 (λi j=>BK (std P) src g2 sz f2 (some (dst,c)) (QA (std P) n0 F h i j) (.cnd ((std P).eq i k') (.vec dst c sz 0 n') (Jy sz E d out' i))):=by
 intro i i0 i1 j hj;obtain rfl:j=0:=ak;subst h2;have e:QA (std P) k' F h i 0 = .cnd ((std P).lt i k') (F i 0) (.vec src g2 sz 0 n):=by
  simp only[QA,hh];exact hd _ _
 rw[e];refine⟨λhb=>?_,λhb=>?_⟩
 . have hb:decide (i<k')=true:=hb;have hb:i<k':=by simpa using hb
   rw[hc];refine⟨λhb'=>?_,λ_=>by rw[ht];exact hs i i0 hb⟩;have hb':(i==k')=true:=hb';simp at hb';omega
 have hb:(!decide (i<k'))=true:=hb;have hb:k'<=i:=by simpa using hb
 exact aq7 hn ak
theorem aiw{tt:TT}{rs:List ResultVar}{res:D}{st:St}{ds:List D}{os:List bC}(h:wG (std P) tt st.objs st.slots rs=some (ds,os))(hos:conj (std P) os True)(ho:outT (std P) st.objs ds res):YL (std P) tt rs res .ret st:=by
 simp only[YL,h];exact Vp hos ho
theorem aom{tt:TT}{rs:List ResultVar}{post:List Ob}{res:D}{st:St}{ds:List D}{os:List bC}(h:wG (std P) tt st.objs st.slots rs=some (ds,os))(hos:conj (std P) os True)(ho:Qz (std P) ds res)(km:List KM)(he:Ld (std P) st.objs km post):LB (std P) tt rs post res .ret st:=by
 simp only[LB,h];exact Vp hos ⟨ho,km,he⟩
theorem ajr{tt:TT}{rs:List ResultVar}{post:List Ob}{res:D}{st:St}{ds:List D}{os:List bC}(h:wG (std P) tt st.objs st.slots rs=some (ds,os))(hos:conj (std P) os True)(ho:Qz (std P) ds res)(km:List KM)(he:Ld (std P) st.objs km post):LB (std P) tt rs post res .normal st:=by
 simp only[LB,h];exact Vp hos ⟨ho,km,he⟩
theorem akc{tt:TT}{rs:List ResultVar}{res:D}{st:St}{ds:List D}{os:List bC}(h:wG (std P) tt st.objs st.slots rs=some (ds,os))(hos:conj (std P) os True)(ho:outT (std P) st.objs ds res):YL (std P) tt rs res .normal st:=by
 simp only[YL,h];exact Vp hos ho
def V3(p:Pr)(cx:Cx):Nat->Code->(Exit->St->Prop)->St->Prop
 | 0,c,Q,st=>p.tr c Q st
 | n+1,.seq a b,Q,st=>wp p cx a (Au (V3 p cx n b Q) Q) st
 | _,c,Q,st=>wp p cx c Q st
theorem akv{cx:Cx}(hT:jG P cx.tt)(hP:P.follows .mixedOrders=true){Q:Exit->St->Prop} : ∀ (n:Nat) (c:Code) (st:St),V3 (std P) cx n c Q st->Tr P c Q st:=by
 intro n
 induction n with
 | zero=>intro c st h;exact h
 | succ n ih=>
  intro c st h;cases c with
  | seq a b=>
   refine Tr.seq ((Xo hT hP _ _ _ h).mono λex st' q=>?_);cases ex with
   | normal=>exact ih _ _ q
   | _=>exact q
  | _=>exact Xo hT hP _ _ _ h
theorem Tr.pre{cx:Cx}(hT:jG P cx.tt)(hP:P.follows .mixedOrders=true)(n:Nat){c:Code}{Q:Exit->St->Prop}{st:St}(h : ∀ N,N=Q->V3 (std P) cx n c N st):Tr P c Q st:=akv hT hP n _ _ (h Q rfl)
def adw:Nat->Code->Code
 | 0,c=>c
 | n+1,.seq _ b=>adw n b
 | _+1,c=>c
def adx(p:Pr)(cx:Cx)(N:Exit->St->Prop):Nat->Code->St->Prop
 | 0,_,st=>N .normal st
 | n+1,.seq a b,st=>wp p cx a (Au (adx p cx N n b) N) st
 | _+1,_,_=>False
theorem aku{cx:Cx}(hT:jG P cx.tt)(hP:P.follows .mixedOrders=true){N Q:Exit->St->Prop}(hQ : ∀ ex st,ex≠.normal->N ex st->Q ex st) : ∀ (n:Nat) (c:Code) (st:St),(∀ st',N .normal st'->Tr P (adw n c) Q st')->adx (std P) cx N n c st->Tr P c Q st:=by
 intro n
 induction n with
 | zero=>intro c st hN h;exact hN st h
 | succ n ih=>
  intro c st hN h;cases c with
  | seq a b=>
   refine Tr.seq ((Xo hT hP _ _ _ h).mono λex st' q=>?_);cases ex with
   | normal=>exact ih b st' hN q
   | _=>exact hQ _ _ (by intro e;cases e) q
  | _=>exact h.elim
theorem d9.arg{f:FuncId}{args args':List D}{res:D}(h:d9 P f args res)(hl:wu args' args):d9 P f args' res:=by
 obtain⟨h1,h2⟩:=wu.get hl;refine⟨h.1,λw I c vs hc hI wJ hlen hargs=>h.2 w I c vs hc hI wJ (hlen.trans h1.symm) λt d ht=>?_⟩;have hlt:t<args'.length:=by rw[← h1];exact(gZ.1 ht).1
 obtain⟨y,y1,y2⟩:=hargs t _ (iW hlt);exact⟨y,y1,h2 t _ d (iW hlt) ht _ _ _ _ _ _ y2⟩
theorem lK.arg{f:FuncId}{args args':List D}{pre post:List Ob}{res:D}(h:lK P f args pre post res)(hl:wu args' args):lK P f args' pre post res:=by
 obtain⟨h1,h2⟩:=wu.get hl;refine⟨h.1,λw I c vs β hc hI wJ hlen hargs=>h.2 w I c vs β hc hI wJ (hlen.trans h1.symm) λt d ht=>?_⟩;have hlt:t<args'.length:=by rw[← h1];exact(gZ.1 ht).1
 obtain⟨y,y1,y2⟩:=hargs t _ (iW hlt);exact⟨y,y1,h2 t _ d (iW hlt) ht _ _ _ _ _ _ y2⟩
theorem Ar.arg{f:FuncId}{args args':List D}{res:D}(h:Ar P f args res)(hl:wu args' args):Ar P f args' res:=by
 obtain⟨h1,h2⟩:=wu.get hl;refine λw I c vs hlen hargs=>h w I c vs (hlen.trans h1.symm) λt d ht=>?_;have hlt:t<args'.length:=by rw[← h1];exact(gZ.1 ht).1
 obtain⟨y,y1,y2⟩:=hargs t _ (iW hlt);exact⟨y,y1,h2 t _ d (iW hlt) ht _ _ _ _ _ _ y2⟩
theorem d9.sl{f:FuncId}{args:List D}{sz:Nat}{n:Int}{t:Bool}{g:Int->Nat->D}(h:d9 P f args (.own sz n t g)):d9 P f args (.sl sz n t g):=by
 refine⟨h.1,λw I c vs hc hI wJ hlen hargs=>(h.2 w I c vs hc hI wJ hlen hargs).mono ?_⟩;rintro e w' ⟨v,I',rfl,h1,h2,h3,h4,hwo,h5⟩;obtain⟨ad,len,cap,rfl,x1,x2,x3,x4⟩:=h5;rcases EM cap with hc0|hc0
 . exact⟨_,I',rfl,h1,h2,h3,h4,hwo,ad,len,cap,rfl,x1,x2,x3,λh=>by omega⟩
 obtain⟨b,o,c,e,rfl,y1,y2,y3,y4,y5⟩:=x4 hc0;have hb:b<w'.heap.size:=(yY.1 y3).1;refine⟨_,I'.or λk=>k=b,rfl,h1.trans (IS.CX _ _),⟨λk hk=>?_,λk hk=>?_⟩,h3,h4,hwo,_,len,cap,rfl,x1,x2,x3,λhp=>⟨b,o,c,e,_,rfl,.inr rfl,y3,λi hi j hj=>?_⟩⟩
 . rcases hk with hk|rfl
   . exact h2.1 k hk
   exact⟨hb,.inr y1⟩
 . rcases hk with hk|rfl
   . exact h2.2 k hk
   exact .inr y1
 obtain⟨z,z1,z2,z3⟩:=y5 i hi j hj;exact⟨z,z1,z2,Rd.mono (Goes.ZQ _ _ _ (IS.CX _ _)) _ _ z3⟩
theorem d9.slA{f:FuncId}{args:List D}{q k:Nat}{c:Nat->D}{sz:Nat}{n:Int}{t:Bool}{g:Int->Nat->D}(h:d9 P f args (.CB q k c sz n t g)):d9 P f args (.agg k λj=>if Nat.beq j q then .sl sz n t g else c j):=by
 refine⟨h.1,λw I c2 vs hc hI wJ hlen hargs=>(h.2 w I c2 vs hc hI wJ hlen hargs).mono ?_⟩;rintro e w' ⟨v,I',rfl,h1,h2,h3,h4,hwo,ys,rfl,hs,hq,hcs,z,hz,ad,len,cap,rfl,x1,x2,x3,x4⟩;have hne : ∀ j,j≠q->Nat.beq j q=false:=λj hj=>by
  cases hb:Nat.beq j q with
  | false=>rfl
  | true=>exact absurd (dO hb) hj
 rcases EM cap with hc0|hc0
 . refine⟨_,I',rfl,h1,h2,h3,h4,hwo,ys,rfl,hs,λj hj=>?_⟩
   by_cases hjq:j=q
   . subst hjq;refine⟨_,hz,rfl,?_⟩;simp only[kF,if_true];exact⟨ad,len,cap,rfl,x1,x2,x3,λh=>by omega⟩
   obtain⟨y,y1,y2,y3⟩:=hcs j hj hjq;exact⟨y,y1,y2,by simp only[hne j hjq,oL,if_false];exact y3⟩
 obtain⟨b,o,c,e,rfl,y1,y2,y3,y4,y5⟩:=x4 hc0;have hb:b<w'.heap.size:=(yY.1 y3).1;refine⟨_,I'.or λk=>k=b,rfl,h1.trans (IS.CX _ _),⟨λk hk=>?_,λk hk=>?_⟩,h3,h4,hwo,ys,rfl,hs,λj hj=>?_⟩
 . rcases hk with hk|rfl
   . exact h2.1 k hk
   exact⟨hb,.inr y1⟩
 . rcases hk with hk|rfl
   . exact h2.2 k hk
   exact .inr y1
 by_cases hjq:j=q
 . subst hjq;refine⟨_,hz,rfl,?_⟩;simp only[kF,if_true];refine⟨_,len,cap,rfl,x1,x2,x3,λhp=>⟨b,o,c,e,_,rfl,.inr rfl,y3,λi hi j hj=>?_⟩⟩;obtain⟨z,z1,z2,z3⟩:=y5 i hi j hj;exact⟨z,z1,z2,Rd.mono (Goes.ZQ _ _ _ (IS.CX _ _)) _ _ z3⟩
 obtain⟨y,y1,y2,y3⟩:=hcs j hj hjq;exact⟨y,y1,y2,by simp only[hne j hjq,oL,if_false];exact Rd.mono (Goes.ZQ _ _ _ (IS.CX _ _)) _ _ y3⟩
def tC(f:Func):Code:=match f.body with
 | some c=>c
 | none=>.skip
end
end Go.Vx
