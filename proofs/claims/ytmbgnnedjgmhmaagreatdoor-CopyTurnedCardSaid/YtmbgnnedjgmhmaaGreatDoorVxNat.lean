/- Lifted functions: what joins the plain functions that a program prints to the evaluator; conditions: none. -/
import Derived.Test.YtmbgnnedjgmhmaaGreatDoorVxFn
import Derived.KernelRfl
import Derived.Scope
import Derived.Laws.Cover3
set_option linter.all false
namespace Go.Vx
open Go
inductive Fl (β γ:Type) where
 | go (b:β)
 | out (r:γ)
section
variable {α β γ:Type}
def chk (c:Prop) [Decidable c] (k:Option α):Option α:=if c then k else none
def Z7 (c:Bool) (x y:Option α):Option α:=match c with
 | true=>x
 | false=>y
def contO (k:β→Option γ):Fl β γ→Option γ
 | .go b=>k b
 | .out r=>some r
def Zu (o:Option (Fl β γ)) (k:β→Option γ):Option γ:=match o with
 | none=>none
 | some f=>contO k f
def Z8 (o:Option β) (k:β→Option γ):Option γ:=match o with
 | none=>none
 | some b=>k b
theorem X9 {c:Prop} [Decidable c] {k:Option α} {r:α} (h:chk c k=some r):c∧k=some r:=by
 unfold chk at h
 split at h
 · exact ⟨by assumption,h⟩
 · cases h
theorem Yp {c:Prop} [Decidable c] {k:Option α} (h:c):chk c k=k:=if_pos h
theorem iteO_t {c:Bool} {x y:Option α} {r:α} (h:Z7 c x y=some r) (hc:c=true):x=some r:=by
 subst hc;exact h
theorem iteO_f {c:Bool} {x y:Option α} {r:α} (h:Z7 c x y=some r) (hc:c=false):y=some r:=by
 subst hc;exact h
theorem Z5t {o:Option (Fl β γ)} {k:β→Option γ} {r:γ} (h:Zu o k=some r) : ∃ f,o=some f∧contO k f=some r:=by
 cases o with
 | none=>cases h
 | some f=>exact ⟨f,rfl,h⟩
theorem bindO_some {o:Option β} {k:β→Option γ} {r:γ} (h:Z8 o k=some r) : ∃ b,o=some b∧k b=some r:=by
 cases o with
 | none=>cases h
 | some f=>exact ⟨f,rfl,h⟩
def Z30 (body:α→Option (Fl α γ)):Nat→α→Option γ
 | 0,_=>none
 | n+1,x=>match body x with
  | none=>none
  | some (.go y)=>Z30 body n y
  | some (.out r)=>some r
theorem loopN_mono {body:α→Option (Fl α γ)} {r:γ} : ∀ {n m:Nat} {x:α},Z30 body n x=some r→n≤m→Z30 body m x=some r
 | 0,_,_,h,_=>by cases h
 | n+1,0,_,_,h=>by omega
 | n+1,m+1,x,h,hm=>by
  simp only [Z30] at h ⊢
  split at h
  · cases h
  · rename_i y hy;exact loopN_mono h (by omega)
  · exact h
def loopR (body:α→Option (Fl α γ)) (n:Nat):α→Option γ :=
 Nat.rec (motive:=fun _=>α→Option γ) (fun _=>none) (fun _ ih x=>match body x with
  | none=>none
  | some (.go y)=>ih y
  | some (.out r)=>some r) n
theorem loopR_eq (body:α→Option (Fl α γ)) : ∀ (n:Nat) (x:α),loopR body n x=Z30 body n x
 | 0,_=>rfl
 | n+1,x=>by
  show (match body x with
   | none=>none
   | some (.go y)=>loopR body n y
   | some (.out r)=>some r)=Z30 body (n+1) x
  simp only [Z30]
  cases body x with
  | none=>rfl
  | some f =>
   cases f with
   | go y=>exact loopR_eq body n _
   | out r=>rfl
open Classical in
noncomputable def loopK (body:α→Option (Fl α γ)) (x:α):Option γ:=if h : ∃ r n,Z30 body n x=some r then some h.choose else none
theorem loopK_of {body:α→Option (Fl α γ)} {n:Nat} {x:α} {r:γ} (h:Z30 body n x=some r):loopK body x=some r:=by
 have hx : ∃ r n,Z30 body n x=some r:=⟨r,n,h⟩
 rw [loopK,dif_pos hx]
 obtain ⟨m,hm⟩:=hx.choose_spec
 have h1:=loopN_mono h (Nat.le_max_left n m)
 have h2:=loopN_mono hm (Nat.le_max_right n m)
 rw [h1] at h2
 exact h2.symm
noncomputable def loopO (body:α→Option (Fl α γ)) (x:α):Option γ:=match loopR body 3000 x with
 | some r=>some r
 | none=>loopK body x
theorem loopO_K (body:α→Option (Fl α γ)) (x:α):loopO body x=loopK body x:=by
 unfold loopO
 split
 · rename_i r h
   rw [loopR_eq] at h
   exact (loopK_of h).symm
 · rfl
attribute [irreducible] loopO
theorem loopO_of {body:α→Option (Fl α γ)} {n:Nat} {x:α} {r:γ} (h:Z30 body n x=some r):loopO body x=some r:=(loopO_K body x).trans (loopK_of h)
theorem Z80 {body:α→Option (Fl α γ)} {x:α} {r:γ} : loopO body x=some r ↔ ∃ n,Z30 body n x=some r:=by
 constructor
 · intro h
   rw [loopO_K,loopK] at h
   split at h
   · rename_i hx
     obtain ⟨m,hm⟩:=hx.choose_spec
     cases h
     exact ⟨m,hm⟩
   · cases h
 · rintro ⟨n,h⟩;exact loopO_of h
theorem loopO_eq (body:α→Option (Fl α γ)) (x:α):loopO body x=match body x with
  | none=>none
  | some (.go y)=>loopO body y
  | some (.out r)=>some r:=by
 split
 · rename_i h
   cases hl:loopO body x with
   | none=>rfl
   | some r =>
    obtain ⟨n,hn⟩:=Z80.1 hl
    cases n with
    | zero=>cases hn
    | succ n=>simp [Z30,h] at hn
 · rename_i y h
   cases hl:loopO body y with
   | none =>
    cases hx:loopO body x with
    | none=>rfl
    | some r =>
     obtain ⟨n,hn⟩:=Z80.1 hx
     cases n with
     | zero=>cases hn
     | succ n =>
      simp only [Z30,h] at hn
      rw [loopO_of hn] at hl;cases hl
   | some r =>
    obtain ⟨n,hn⟩:=Z80.1 hl
    exact loopO_of (n:=n+1) (by simpa only [Z30,h] using hn)
 · rename_i r h
   exact loopO_of (n:=1) (by simp only [Z30,h])
theorem loopO_rule {body:α→Option (Fl α γ)} (inv:α→Prop) (μ:α→Nat) (Q:γ→Prop) {x:α} (hx:inv x)
  (step : ∀ x,inv x→(∃ y,body x=some (.go y)∧inv y∧μ y < μ x)∨∃ r,body x=some (.out r)∧Q r) : ∃ r,loopO body x=some r∧Q r:=by
 induction hn:μ x using Nat.strongRecOn generalizing x with
 | _ n ih =>
  rcases step x hx with ⟨y,h1,h2,h3⟩ | ⟨r,h1,h2⟩
  · obtain ⟨r,h4,h5⟩:=ih _ (hn ▸ h3) h2 rfl
    exact ⟨r,by rw [loopO_eq,h1];exact h4,h5⟩
  · exact ⟨r,by rw [loopO_eq,h1],h2⟩
end
section
variable {α:Type}
def Z1 (d:α) (xs:List α) (i:Int):α:=xs.getD i.toNat d
def Z0 (xs:List α):Int:=xs.length
def Yc (xs:List α) (i:Int) (v:α):List α:=xs.set i.toNat v
def Xx (xs:List α) (l h:Int):List α:=(xs.drop l.toNat).take (h-l).toNat
def Z0q (n:Int) (v:α):List α:=List.replicate n.toNat v
def cpyL (xs:List α) (off:Int) (ys:List α) (n:Int):List α:=xs.take off.toNat++ys.take n.toNat++xs.drop (off+n).toNat
theorem Zc (xs:List α):0≤Z0 xs:=by simp [Z0]
@[simp] theorem Zo:Z0 ([]:List α)=0:=rfl
@[simp] theorem Zh (x:α) (xs:List α):Z0 (x :: xs)=Z0 xs+1:=by simp [Z0]
@[simp] theorem Zq (xs:List α) (i:Int) (v:α):Z0 (Yc xs i v)=Z0 xs:=by simp [Z0,Yc]
@[simp] theorem Zf (xs ys:List α):Z0 (xs++ys)=Z0 xs+Z0 ys:=by simp [Z0]
theorem Y3 {n:Int} (v:α) (h:0≤n):Z0 (Z0q n v)=n:=by simp [Z0,Z0q];omega
theorem Ye {xs:List α} {l h:Int} (h0:0≤l) (h1:l≤h) (h2:h≤Z0 xs):Z0 (Xx xs l h)=h-l:=by
 simp [Z0,Xx] at *;omega
theorem getL_set {d:α} {xs:List α} {k i:Int} {v:α} (h0:0≤k) (h1:k < Z0 xs) (i0:0≤i):Z1 d (Yc xs k v) i=if i=k then v else Z1 d xs i:=by
 simp only [Z1,Yc,List.getD_eq_getElem?_getD,List.getElem?_set]
 by_cases h:i=k
 · subst h
   simp [Z0] at h1
   rw [if_pos rfl,if_pos rfl,if_pos (by omega)];rfl
 · rw [if_neg (by omega),if_neg h]
theorem Zk {d:α} {xs:List α} {k i:Int} {v:α} (h0:0≤k) (i0:0≤i) (i1:i < Z0 xs):Z1 d (Yc xs k v) i=if i=k then v else Z1 d xs i:=by
 by_cases h:i=k
 · rw [getL_set h0 (by omega) i0]
 · simp only [Z1,Yc,List.getD_eq_getElem?_getD,List.getElem?_set]
   rw [if_neg (by omega),if_neg h]
theorem Yi {d:α} {xs ys:List α} {i:Int} (i0:0≤i):Z1 d (xs++ys) i=if i < Z0 xs then Z1 d xs i else Z1 d ys (i-Z0 xs):=by
 simp only [Z1,Z0,List.getD_eq_getElem?_getD]
 by_cases h:i < (xs.length:Int)
 · rw [if_pos h,List.getElem?_append_left (by omega)]
 · rw [if_neg h,List.getElem?_append_right (by omega)]
   congr 2;omega
theorem Qx (d x:α) (xs:List α):Z1 d (xs++[x]) (Z0 xs)=x:=by
 rw [Yi (Zc xs),if_neg (by omega),Int.sub_self];rfl
theorem Z3u {d:α} {n i:Int} {v:α} (i0:0≤i) (h:i < n):Z1 d (Z0q n v) i=v:=by
 simp only [Z1,Z0q,List.getD_eq_getElem?_getD,List.getElem?_replicate]
 rw [if_pos (by omega)];rfl
theorem Z0r {d:α} {xs:List α} {l h i:Int} (h0:0≤l) (i0:0≤i) (i1:i < h-l):Z1 d (Xx xs l h) i=Z1 d xs (l+i):=by
 simp only [Z1,Xx,List.getD_eq_getElem?_getD,List.getElem?_take,List.getElem?_drop]
 rw [if_pos (by omega)]
 congr 2;omega
@[simp] theorem Q3 (d x:α) (xs:List α):Z1 d (x :: xs) 0=x:=rfl
theorem Q0 {d:α} {xs:List α} {x:α} {i:Int} (h:i=0):Z1 d (x :: xs) i=x:=by subst h;rfl
theorem getL_cons {d:α} {x:α} {xs:List α} {i:Int} (i0:0 < i):Z1 d (x :: xs) i=Z1 d xs (i-1):=by
 simp only [Z1]
 have:i.toNat=(i-1).toNat+1:=by omega
 rw [this];rfl
theorem getL_eq {d:α} {xs:List α} {i:Int} (h0:0≤i) (h1:i < Z0 xs) : ∃ h:i.toNat < xs.length,Z1 d xs i=xs[i.toNat]:=by
 have h:i.toNat < xs.length:=by simp [Z0] at h1;omega
 exact ⟨h,by simp [Z1,h]⟩
theorem extL (d:α) {xs ys:List α} (h:Z0 xs=Z0 ys) (hg : ∀ i,0≤i→i < Z0 xs→Z1 d xs i=Z1 d ys i):xs=ys:=by
 apply List.ext_getElem (by simp only [Z0] at h;omega)
 intro k h1 h2
 have:=hg k (by omega) (by simp [Z0];omega)
 simpa [Z1,h1,h2] using this
def mkL (n:Int) (f:Int→α):List α:=(List.range n.toNat).map fun (k:Nat)=>f k
theorem lenL_mk {n:Int} (f:Int→α) (h:0≤n):Z0 (mkL n f)=n:=by simp [Z0,mkL];omega
theorem getL_mk {d:α} {n i:Int} {f:Int→α} (h0:0≤i) (h1:i < n):Z1 d (mkL n f) i=f i:=by
 have:i.toNat < n.toNat:=by omega
 simp [Z1,mkL,this,Int.toNat_of_nonneg h0]
theorem Xj {xs ys:List α} {off n:Int} (h0:0≤off) (h1:0≤n) (h2:n≤Z0 ys) (h3:off+n≤Z0 xs):Z0 (cpyL xs off ys n)=Z0 xs:=by
 simp [Z0,cpyL] at *;omega
theorem getL_cpy {d:α} {xs ys:List α} {off n i:Int} (h0:0≤off) (h1:0≤n) (h2:n≤Z0 ys) (h3:off+n≤Z0 xs) (i0:0≤i) :
  Z1 d (cpyL xs off ys n) i=if off≤i∧i < off+n then Z1 d ys (i-off) else Z1 d xs i:=by
 simp only [Z0] at h2 h3
 simp only [Z1,cpyL,List.getD_eq_getElem?_getD,List.append_assoc]
 rcases Int.lt_or_le i off with h | h
 · rw [if_neg (by omega),List.getElem?_append_left (by simp;omega),List.getElem?_take_of_lt (by omega)]
 · rw [List.getElem?_append_right (by simp;omega)]
   rcases Int.lt_or_le i (off+n) with h' | h'
   · rw [if_pos ⟨h,h'⟩,List.getElem?_append_left (by simp;omega),List.getElem?_take_of_lt (by simp;omega)]
     congr 2;simp;omega
   · rw [if_neg (by omega),List.getElem?_append_right (by simp;omega),List.getElem?_drop]
     congr 2;simp;omega
end
def Z6f (s:ByteArray):List Int:=s.data.toList.map fun b=>(b.toNat:Int)
theorem Ym (s:ByteArray):Z0 (Z6f s)=Y7 s:=by simp [Z0,Z6f,Y7]
theorem getL_bytes {s:ByteArray} {i:Int} : Z1 0 (Z6f s) i=Z0j s i:=by
 simp only [Z1,Z6f,Z0j,List.getD_eq_getElem?_getD,List.getElem?_map]
 cases s.data.toList[i.toNat]?<;>rfl
structure Nv where
 get : {α:Type}→α→List α→Int→α
 len : {α:Type}→List α→Int
 set : {α:Type}→List α→Int→α→List α
 sub : {α:Type}→List α→Int→Int→List α
 rep : {α:Type}→Int→α→List α
 app : {α:Type}→List α→List α→List α
 cpy : {α:Type}→List α→Int→List α→Int→List α
 bys:ByteArray→List Int
def nvS:Nv:=⟨Z1,Z0,Yc,Xx,Z0q,fun x y=>x++y,cpyL,Z6f⟩
def i64r (x:Int):Prop:=-9223372036854775808≤x∧x≤9223372036854775807
instance (x:Int):Decidable (i64r x):=inferInstanceAs (Decidable (_∧_))
def Yt (bytes:Nat) (n:Int):Prop:=n≤140737488355328∧n*(bytes:Int)≤140737488355328
instance (b:Nat) (n:Int):Decidable (Yt b n):=inferInstanceAs (Decidable (_∧_))
def Q1 (bytes:Nat) (l c:Int):Prop:=0≤l∧l≤c∧c≤281474976710656∧(bytes:Int)*c≤281474976710656
instance (b:Nat) (l c:Int):Decidable (Q1 b l c):=inferInstanceAs (Decidable (_∧_∧_∧_))
def inR (k:IntKind) (x:Int):Prop:=k.min≤x∧x≤k.max
instance (k:IntKind) (x:Int):Decidable (inR k x):=inferInstanceAs (Decidable (_∧_))
section
variable {P:Program}
theorem LeD.of {d d':D} (h:d=d'):LeD d d':=h ▸ LeD.refl d
theorem Qh.arr {g sz:Nat} {n:Int} {t:Bool} {f f':Int→Nat→D} (h : ∀ i:Int,0≤i→i < n→∀ j:Nat,j < sz→LeD (f i j) (f' i j)):Qh (.arr g sz n t f) (.arr g sz n t f'):=by
 refine ⟨⟨rfl,rfl,rfl,rfl⟩,fun h' I β objs ctr k hr=>?_⟩
 obtain ⟨h1,h2,h3⟩:=hr
 refine ⟨h1,h2,?_⟩
 rcases h3 with h3 | ⟨b,o,s,c,e,x1,x2,x3,x4,x5,x6⟩
 · exact .inl h3
 · refine .inr ⟨b,o,s,c,e,x1,x2,x3,x4,x5,fun i hi j hj=>?_⟩
   obtain ⟨z,z1,z2,z3⟩:=x6 i hi j hj
   exact ⟨z,z1,z2,h i (by omega) hi j hj _ _ _ _ _ _ z3⟩
theorem Qh.arr' {g sz:Nat} {n n':Int} {t:Bool} {f f':Int→Nat→D} (hn:n=n') (h : ∀ i:Int,0≤i→i < n→∀ j:Nat,j < sz→LeD (f i j) (f' i j)):Qh (.arr g sz n t f) (.arr g sz n' t f'):=by
 subst hn;exact Qh.arr h
theorem LeD.sl {sz:Nat} {n n':Int} {t:Bool} {f f':Int→Nat→D} (hn:n=n') (h : ∀ i:Int,0≤i→i < n→∀ j:Nat,j < sz→LeD (f i j) (f' i j)):LeD (.sl sz n t f) (.sl sz n' false f'):=by
 subst hn
 rintro h' I β objs ctr y ⟨a,len,cap,rfl,hl,hc,ht,hx⟩
 refine ⟨a,len,cap,rfl,hl,hc,(fun h=>by cases h),fun hp=>?_⟩
 obtain ⟨b,o,c,e,fr,e1,e2,e3,e4⟩:=hx hp
 refine ⟨b,o,c,e,fr,e1,e2,e3,fun i hi j hj=>?_⟩
 obtain ⟨z,z1,z2,z3⟩:=e4 i hi j hj
 exact ⟨z,z1,z2,h i (by omega) (by omega) j hj _ _ _ _ _ _ z3⟩
theorem LeD.nil {sz:Nat} {n:Int} {f:Int→Nat→D} (hn:0=n):LeD .nilsl (.sl sz n false f):=by
 subst hn
 intro h' I β objs ctr y hy
 cases hy
 exact ⟨none,0,0,rfl,rfl,Nat.le_refl _,(fun h=>by cases h),fun h=>by omega⟩
theorem LeD.agg {k:Nat} {c c':Nat→D} (h : ∀ j,j < k→LeD (c j) (c' j)):LeD (.agg k c) (.agg k c'):=by
 rintro h' I β objs ctr y ⟨ys,rfl,x1,x2⟩
 refine ⟨ys,rfl,x1,fun j hj=>?_⟩
 obtain ⟨z,z1,z2,z3⟩:=x2 j hj
 exact ⟨z,z1,z2,h j hj _ _ _ _ _ _ z3⟩
theorem LeD.fn {f:Fn} {k:Nat} {c c':Nat→D} (h : ∀ j,j < k→LeD (c j) (c' j)):LeD (.fn f k c) (.fn f k c'):=by
 rintro hh I β objs ctr y ⟨ys,rfl,hs,hx⟩
 refine ⟨ys,rfl,hs,fun j hj=>?_⟩
 obtain ⟨z,z1,z2⟩:=hx j hj
 exact ⟨z,z1,h j hj _ _ _ _ _ _ z2⟩
theorem LeD.imm {sz:Nat} {n:Int} {f f':Int→Nat→D} {i:Int} {j:Nat} (h : ∀ (q:Int) (k:Nat),k < sz→LeD (f q k) (f' q k)):LeD (.imm sz n f i j) (.imm sz n f' i j):=by
 rintro h' I β objs ctr y ⟨h0,h1,b,o,c,e,fr,hy,hI,hb,hx⟩
 refine ⟨h0,h1,b,o,c,e,fr,hy,hI,hb,fun q hq k hk=>?_⟩
 obtain ⟨z,z1,z2,z3⟩:=hx q hq k hk
 exact ⟨z,z1,z2,h _ k hk _ _ _ _ _ _ z3⟩
theorem LeD.win {sz sz':Nat} {f f':Int→Nat→D} {j:Nat} (hs:j+sz'≤sz) (h : ∀ k,k < sz'→LeD (f 0 (j+k)) (f' 0 k)):LeD (.imm sz 1 f 0 j) (.imm sz' 1 f' 0 0):=by
 rintro h' I β objs ctr y ⟨h0,h1,b,o,c,e,fr,hy,hI,hb,hx⟩
 refine ⟨h0,h1,b,o+j,c,e,fr,by rw [hy];simp,hI,hb,fun q hq k hk=>?_⟩
 have hq0:q=0:=by omega
 subst hq0
 obtain ⟨z,z1,z2,z3⟩:=hx 0 (by omega) (j+k) (by omega)
 exact ⟨z,by rw [← z1];congr 1;omega,z2,h k hk _ _ _ _ _ _ z3⟩
open Classical in
noncomputable def nilO {α:Type} (n:Int) (a b:Option α):Option α:=if n=0 then (if a=b then b else none) else b
theorem nilO_a {α:Type} {n:Int} {a b:Option α} {r:α} (h:nilO n a b=some r) (hn:n=0):a=some r:=by
 unfold nilO at h
 rw [if_pos hn] at h
 split at h
 · rename_i hab;rw [hab];exact h
 · cases h
theorem nilO_b {α:Type} {n:Int} {a b:Option α} {r:α} (h:nilO n a b=some r):b=some r:=by
 unfold nilO at h
 split at h
 · split at h
   · exact h
   · cases h
 · exact h
theorem nilO_eq {α:Type} {n:Int} {a b:Option α} (h:n=0→a=b):nilO n a b=b:=by
 unfold nilO
 split
 · rename_i hn;rw [if_pos (h hn)]
 · rfl
theorem Tr.nilcmp {tt:TT} (hT:Qo P tt) {t:TypeId} {ti:TI} {e:TypeId} (ht:Xv tt t=some ti) (hk:ti.kind = .slice e) {id:Nat} {oa od:Oper} {x a d:Nat} {yt:TypeId} {Q:Exit→St→Prop} {st:St} {sz:Nat} {n:Int} {tight:Bool} {f:Int→Nat→D}
  (ha:oa.op = .move (.tmp x)∧oa.dst=some a∧oa.guard=none) (hd:od.op = .binOp .eql t (.tmp a) (.const (.slice none 0 0)) yt∧od.dst=some d∧od.guard=none)
  (hs:st.slots.getD x .junk = .sl sz n tight f) (hal:a < st.slots.length)
  (h1:n=0→Q .normal ⟨(st.slots.set a .junk).set d (.v (.bool true)),st.objs,st.ctr⟩)
  (h2:Q .normal ⟨(st.slots.set a .junk).set d (.v (.bool false)),st.objs,st.ctr⟩):Tr P (.region id #[oa,od] false) Q st:=by
 intro B0 h0 I0 L a0 w K R hK
 refine wp_region ?_
 show wpOps P #[oa,od] K [0,1] a0 w
 rw [wpOps_cons]
 obtain ⟨oad,oaop,oat,oap,oaa,oag⟩:=oa
 obtain ⟨odd,odop,odt,odp,oda,odg⟩:=od
 obtain ⟨rfl,rfl,rfl⟩:=ha
 obtain ⟨rfl,rfl,rfl⟩:=hd
 refine Z2s (tt:=tt) (orc:=⟨fun _=>0,fun _ _ _ _=>none,fun _=>false⟩) (m:=0) hT (i:=0) rfl R (st':=⟨st.slots.set a (st.slots.getD x .junk),st.objs,st.ctr⟩) (os:=[]) rfl (fun q hq=>by cases hq) fun a1 w1 R1=>?_
 rw [wpOps_cons]
 obtain ⟨I,β,R1⟩:=R1
 have hsl:(st.slots.set a (st.slots.getD x .junk))[a]? = some (.sl sz n tight f):=by rw [List.getElem?_set_self hal,hs]
 obtain ⟨y,y1,ad,len,cap,rfl,x1,x2,x3,x4⟩:=R1.slot a _ hsl
 have hev:a1.eval (.tmp a) = .slice ad len cap:=by
  show a1.tmps.getD a undef=_
  rw [Array.getD_eq_getD_getElem?,y1];rfl
 have hu:=Q4 hT ht hk
 have hrun:(execOp a1.eval ⟨some d,.binOp .eql t (.tmp a) (.const (.slice none 0 0)) yt,odt,odp,oda,none⟩).run P w1 = .ok (.value (.bool ad.isNone)) w1:=by
  have hev2:a1.eval (.const (.slice none 0 0)) = .slice none 0 0:=rfl
  have hg:eqGuard .eql t (.tmp a) (.const (.slice none 0 0)) (.slice ad len cap) (.slice none 0 0)=pure ():=rfl
  have hq:=run_equal_slice_nil w1 t e ad len cap hu
  simp [execOp,hev,hev2,binOp,hg]
  rw [hq];rfl
 unfold wpOp
 simp only [List.getElem?_toArray,List.getElem?_cons_succ,List.getElem?_cons_zero]
 rw [if_pos (by simp [Region.wanted])]
 refine .inl (Y6 hrun ?_)
 have hp:Z0y B0 h0 I0 L I β st.objs st.ctr w1 st.objs w1 (.v (.bool ad.isNone)) (.bool ad.isNone):=R1.still rfl
 obtain ⟨I',β',R2⟩:=R1.put (some d) hp
 have R3:RS B0 h0 I0 L ⟨(st.slots.set a .junk).set d (.v (.bool ad.isNone)),st.objs,st.ctr⟩ (a1.put (some d) (.bool ad.isNone)) w1:=by
  refine ⟨I',β',R2.reslot (by simp [Xl]) fun s d' hs' y' hy' hd'=>?_⟩
  simp only [Xl] at hd'
  by_cases hsd:d=s
  · subst hsd
    have hlt:d < st.slots.length:=by
     have:=(List.getElem?_eq_some_iff.1 hs').1
     simpa using this
    rw [List.getElem?_set_self (by simpa using hlt)] at hs'
    cases hs'
    exact hd' _ (List.getElem?_set_self (by simpa using hlt))
  · rw [List.getElem?_set_ne hsd] at hs'
    by_cases hsa:a=s
    · subst hsa
      rw [List.getElem?_set_self hal] at hs'
      cases hs';trivial
    · rw [List.getElem?_set_ne hsa] at hs'
      exact hd' _ (by rw [List.getElem?_set_ne hsd,List.getElem?_set_ne hsa];exact hs')
 cases ad with
 | none =>
  have hl0:len=0:=by
   rcases Nat.eq_zero_or_pos len with h | h
   · exact h
   · obtain ⟨_,_,_,_,_,h,_⟩:=x4 h;cases h
  exact hK _ _ _ _ (h1 (by omega)) R3
 | some q=>exact hK _ _ _ _ h2 R3
def noGoto (Q:Exit→St→Prop):Exit→St→Prop
 | .goto _,_=>False
 | e,st=>Q e st
theorem conj_of {q:Prop} : ∀ {os:List Prop},conj os True→q→conj os q
 | [],_,h=>h
 | _ :: r,h,hq=>⟨h.1,conj_of (os:=r) h.2 hq⟩
def GeSt (P:Program) (st st':St):Prop:=∃ l st1 os,evGh (std P) l st=some (st1,os)∧(∀ q∈os,q)∧LeSt st1 st'
theorem GeSt.of {st st':St} (h:LeSt st st'):GeSt P st st':=⟨[],st,[],rfl,fun q hq=>(by cases hq),h⟩
theorem GeSt.by {st st' st1:St} {os:List Prop} (l:List Gh) (he:evGh (std P) l st=some (st1,os)) (hos:conj os True) (h:LeSt st1 st'):GeSt P st st':=⟨l,st1,os,he,(Z1l hos).1,h⟩
theorem Tr.ge {c:Code} {Q:Exit→St→Prop} {st st':St} (h:GeSt P st st') (ht:Tr P c Q st'):Tr P c Q st:=by
 obtain ⟨l,st1,os,h1,h2,h3⟩:=h
 exact Tr.gh l h1 h2 (Tr.le h3 ht)
def stepQ (P:Program) {α τ γ:Type} (inv:α→τ→St) (ok:α→τ→Prop) (o:γ) (Q:Exit→St→Prop):Fl α γ→Exit→St→Prop
 | .go y=>Z50 (fun st'=>∃ t',ok y t'∧GeSt P st' (inv y t')) (fun _ _=>False)
 | .out o'=>Z50 (fun _=>False) (fun ex st'=>o'=o→Q ex st')
theorem Tr.loopG {α:Type} (inv:α→St) (ok:α→Prop) (μ:α→Nat) {c:Code} {Q:Exit→St→Prop} (x0:α) (hx0:ok x0)
  (hr : ∀ x,ok x→Tr P c (Z50 (fun st'=>∃ x',ok x'∧μ x' < μ x∧GeSt P st' (inv x')) Q) (inv x)):Tr P (.loop c) Q (inv x0):=by
 intro B0 h0 I0 L a w K R hK
 classical
 let J:Act→World→Nat→Prop:=fun a w n=>∃ x,ok x∧RS B0 h0 I0 L (inv x) a w∧μ x=n
 let M:Act→World→Nat:=fun a w=>if h : ∃ n,J a w n then Classical.choose (Xe h) else 0
 refine wp_loop (fun a w=>∃ n,J a w n) M ⟨_,x0,hx0,R,rfl⟩ fun a w hI=>?_
 obtain ⟨x,hx,hR,hμ⟩:=(Classical.choose_spec (Xe hI)).1
 have hM:M a w=μ x:=by simp only [M,dif_pos hI];exact hμ.symm
 refine hr x hx B0 h0 I0 L a w _ hR fun ex st' a' w' q R'=>?_
 cases ex with
 | normal =>
  obtain ⟨x',h1,h2,l,st1,os,h3,h4,h5⟩:=q
  have R2:=(Qt l R' h3 h4).le h5
  have hJ : ∃ n,J a' w' n:=⟨_,x',h1,R2,rfl⟩
  refine ⟨hJ,?_⟩
  rw [hM]
  refine Nat.lt_of_le_of_lt ?_ h2
  simp only [M,dif_pos hJ]
  exact (Classical.choose_spec (Xe hJ)).2 _ ⟨x',h1,R2,rfl⟩
 | _=>exact hK _ st' a' w' q R'
theorem Tr.loopO {α τ γ:Type} {body:α→Option (Fl α γ)} (inv:α→τ→St) (ok:α→τ→Prop) {c:Code} {Q:Exit→St→Prop} {st:St} {x0:α} {o:γ} (t0:τ) (h:loopO body x0=some o) (h0:ok x0 t0) (hle:GeSt P st (inv x0 t0))
  (step : ∀ x t f,ok x t→body x=some f→Tr P c (stepQ P inv ok o Q f) (inv x t)):Tr P (.loop c) Q st:=by
 obtain ⟨n,hn⟩:=Z80.1 h
 refine Tr.ge hle ?_
 refine Tr.loopG (α:=Nat × α × τ) (fun x=>inv x.2.1 x.2.2) (fun x=>ok x.2.1 x.2.2∧Z30 body x.1 x.2.1=some o) (fun x=>x.1) (n,x0,t0) ⟨h0,hn⟩ ?_
 rintro ⟨m,x,t⟩ ⟨ht,hm⟩
 cases m with
 | zero=>cases hm
 | succ m =>
  simp only [Z30] at hm
  split at hm
  · cases hm
  · rename_i y hy
    refine (step x t _ ht hy).mono fun ex st' q=>?_
    cases ex with
    | normal =>
     obtain ⟨t',h1,h2⟩:=q
     exact ⟨(m,y,t'),⟨h1,hm⟩,Nat.lt_succ_self m,h2⟩
    | _=>exact q.elim
  · rename_i r hr
    refine (step x t _ ht hr).mono fun ex st' q=>?_
    cases hm
    cases ex with
    | normal=>exact q.elim
    | _=>exact q rfl
structure Hid where
 c:Nat
 g:Nat→Nat
 t:Nat→Bool
def Hid.ok (h:Hid):Prop:=0 < h.c∧∀ k,h.g k < h.c
def gfn:List (Nat × Nat)→Nat→Nat
 | [],_=>0
 | (k,x) :: r,t=>if Nat.beq k t then x else gfn r t
def tfn:List (Nat × Bool)→Nat→Bool
 | [],_=>false
 | (k,x) :: r,t=>if Nat.beq k t then x else tfn r t
def allLt:List (Nat × Nat)→Nat→Prop
 | [],_=>True
 | (_,x) :: r,c=>x < c∧allLt r c
theorem Hid.mk_ok {c:Nat} {l:List (Nat × Nat)} {t:Nat→Bool} (hc:0 < c) (h:allLt l c):Hid.ok ⟨c,gfn l,t⟩:=by
 refine ⟨hc,fun k=>?_⟩
 induction l with
 | nil=>exact hc
 | cons x r ih =>
  obtain ⟨h1,h2⟩:=h
  simp only [gfn]
  split
  · exact h1
  · exact ih h2
theorem Tr.cutSeq {α γ:Type} {A:Option (Fl α γ)} {k:α→Option γ} {r:γ} (h:Zu A k=some r) {a b:Code} {Q:Exit→St→Prop} {st:St} (M:α→Hid→St) (ok:α→Hid→Prop)
  (hB : ∀ x t,ok x t→k x=some r→Tr P b Q (M x t)) (hA : ∀ f,A=some f→Tr P a (stepQ P M ok r Q f) st):Tr P (.seq a b) Q st:=by
 obtain ⟨f,hf,hk⟩:=Z5t h
 refine Tr.seq ((hA f hf).mono fun ex st' q=>?_)
 cases f with
 | go x =>
  cases ex with
  | normal =>
   obtain ⟨t,h1,h2⟩:=q
   exact Tr.ge h2 (hB x t h1 hk)
  | _=>exact q.elim
 | out r' =>
  cases hk
  cases ex with
  | normal=>exact q.elim
  | _=>exact q rfl
theorem Tr.chunk {cx:Cx} (hT:Qo P cx.tt) (hP:P.follows .mixedOrders=true) {c:Code} {Q:Exit→St→Prop} {st:St} (h : ∀ N,N=Q→wp (std P) cx c N st):Tr P c Q st:=wp_sound hT hP _ _ _ (h Q rfl)
def frm:Nat→List (Nat × D)→Nat→List D
 | 0,_,_=>[]
 | n+1,ks,i=>(match ks with
  | []=>.junk :: frm n [] (i+1)
  | (k,d) :: r=>if Nat.beq k i then d :: frm n r (i+1) else .junk :: frm n ks (i+1))
def frO:Nat→List (Nat × Ob)→Nat→List (Option Ob)
 | 0,_,_=>[]
 | n+1,ks,i=>(match ks with
  | []=>none :: frO n [] (i+1)
  | (k,d) :: r=>if Nat.beq k i then some d :: frO n r (i+1) else none :: frO n ks (i+1))
theorem LeL.of_get : ∀ {l l':List D},l'.length=l.length→(∀ (t:Nat) (d d':D),l[t]? = some d→l'[t]? = some d'→LeD d d')→LeL l l'
 | [],[],_,_=>trivial
 | [],_ :: _,h,_=>by simp at h
 | _ :: _,[],h,_=>by simp at h
 | _ :: _,_ :: _,h,hg=>⟨hg 0 _ _ rfl rfl,LeL.of_get (by simpa using h) fun t d d' h1 h2=>hg (t+1) d d' (by simpa using h1) (by simpa using h2)⟩
theorem LeO.of_get : ∀ {l l':List (Option Ob)},l'.length=l.length→(∀ (t:Nat) (o':Ob),l'[t]? = some (some o')→∃ o,l[t]? = some (some o)∧Qh o o')→LeO l l'
 | [],[],_,_=>trivial
 | [],_ :: _,h,_=>by simp at h
 | _ :: _,[],h,_=>by simp at h
 | x :: r,none :: r',h,hg=>by
  have:=LeO.of_get (l:=r) (l':=r') (by simpa using h) fun t o' h2=>by simpa using hg (t+1) o' (by simpa using h2)
  cases x<;>exact this
 | x :: r,some o' :: r',h,hg=>by
  have:=LeO.of_get (l:=r) (l':=r') (by simpa using h) fun t o' h2=>by simpa using hg (t+1) o' (by simpa using h2)
  obtain ⟨o,h1,h2⟩:=hg 0 o' rfl
  simp only [List.getElem?_cons_zero,Option.some.injEq] at h1
  subst h1
  exact ⟨h2,this⟩
theorem frm_get : ∀ {n:Nat} {ks:List (Nat × D)} {i t:Nat} {d:D},(frm n ks i)[t]? = some d→d = .junk∨(i+t,d)∈ks
 | 0,_,_,_,_,h=>by simp [frm] at h
 | n+1,[],i,0,d,h=>by simp [frm] at h;exact .inl h.symm
 | n+1,[],i,t+1,d,h=>by
  simp only [frm,List.getElem?_cons_succ] at h
  rcases frm_get h with h | h
  · exact .inl h
  · cases h
 | n+1,(k,e) :: r,i,t,d,h=>by
  simp only [frm] at h
  split at h
  · rename_i hk
    have hk:=Nat.eq_of_beq_eq_true hk;subst hk
    cases t with
    | zero=>simp only [List.getElem?_cons_zero,Option.some.injEq] at h;subst h;exact .inr (List.mem_cons_self ..)
    | succ t =>
     simp only [List.getElem?_cons_succ] at h
     rcases frm_get h with h | h
     · exact .inl h
     · refine .inr (List.mem_cons_of_mem _ ?_)
       have e:k+(t+1)=k+1+t:=by omega
       rw [e];exact h
  · cases t with
    | zero=>simp only [List.getElem?_cons_zero,Option.some.injEq] at h;exact .inl h.symm
    | succ t =>
     simp only [List.getElem?_cons_succ] at h
     rcases frm_get h with h | h
     · exact .inl h
     · refine .inr ?_
       have e:i+(t+1)=i+1+t:=by omega
       rw [e];exact h
theorem frm_length : ∀ {n:Nat} {ks:List (Nat × D)} {i:Nat},(frm n ks i).length=n
 | 0,_,_=>rfl
 | n+1,[],i=>by simp only [frm,List.length_cons,frm_length]
 | n+1,(k,e) :: r,i=>by simp only [frm];split<;>simp only [List.length_cons,frm_length]
theorem frO_get : ∀ {n:Nat} {ks:List (Nat × Ob)} {i t:Nat} {d:Ob},(frO n ks i)[t]? = some (some d)→(i+t,d)∈ks
 | 0,_,_,_,_,h=>by simp [frO] at h
 | n+1,[],i,0,d,h=>by simp [frO] at h
 | n+1,[],i,t+1,d,h=>by
  simp only [frO,List.getElem?_cons_succ] at h
  cases frO_get h
 | n+1,(k,e) :: r,i,t,d,h=>by
  simp only [frO] at h
  split at h
  · rename_i hk
    have hk:=Nat.eq_of_beq_eq_true hk;subst hk
    cases t with
    | zero=>simp only [List.getElem?_cons_zero,Option.some.injEq] at h;subst h;exact List.mem_cons_self ..
    | succ t =>
     simp only [List.getElem?_cons_succ] at h
     refine List.mem_cons_of_mem _ ?_
     have e:k+(t+1)=k+1+t:=by omega
     rw [e];exact frO_get h
  · cases t with
    | zero=>simp at h
    | succ t =>
     simp only [List.getElem?_cons_succ] at h
     have e:i+(t+1)=i+1+t:=by omega
     rw [e];exact frO_get h
theorem frO_length : ∀ {n:Nat} {ks:List (Nat × Ob)} {i:Nat},(frO n ks i).length=n
 | 0,_,_=>rfl
 | n+1,[],i=>by simp only [frO,List.length_cons,frO_length]
 | n+1,(k,e) :: r,i=>by simp only [frO];split<;>simp only [List.length_cons,frO_length]
def LeKs (l:List D):List (Nat × D)→Prop
 | []=>True
 | (k,d') :: r=>(∃ d,l[k]? = some d∧LeD d d')∧LeKs l r
def LeKo (l:List (Option Ob)):List (Nat × Ob)→Prop
 | []=>True
 | (k,o') :: r=>(∃ o,l[k]? = some (some o)∧Qh o o')∧LeKo l r
theorem LeKs.get {l:List D} : ∀ {ks:List (Nat × D)},LeKs l ks→∀ k d',(k,d')∈ks→∃ d,l[k]? = some d∧LeD d d'
 | [],_,_,_,h=>by cases h
 | _ :: _,h,k,d',hm=>by
  rcases List.mem_cons.1 hm with e | hm
  · cases e;exact h.1
  · exact LeKs.get h.2 k d' hm
theorem LeKo.get {l:List (Option Ob)} : ∀ {ks:List (Nat × Ob)},LeKo l ks→∀ k d',(k,d')∈ks→∃ d,l[k]? = some (some d)∧Qh d d'
 | [],_,_,_,h=>by cases h
 | _ :: _,h,k,d',hm=>by
  rcases List.mem_cons.1 hm with e | hm
  · cases e;exact h.1
  · exact LeKo.get h.2 k d' hm
theorem LeSt.frame {st:St} {c n m:Nat} {ks:List (Nat × D)} {os:List (Nat × Ob)} (hc:st.ctr < c) (hn:st.slots.length=n) (hm:st.objs.length=m) (hs:LeKs st.slots ks) (ho:LeKo st.objs os) :
  LeSt st ⟨frm n ks 0,frO m os 0,c⟩:=by
 refine ⟨hc,LeL.of_get (frm_length.trans hn.symm) fun t d d' h1 h2=>?_,LeO.of_get (frO_length.trans hm.symm) fun t o' h2=>?_⟩
 · rcases frm_get h2 with rfl | h2
   · exact LeD.junk _
   · obtain ⟨e,h3,h4⟩:=hs.get _ _ h2
     rw [Nat.zero_add] at h3
     rw [h3] at h1;cases h1;exact h4
 · have:=ho.get _ _ (frO_get h2)
   rwa [Nat.zero_add] at this
theorem LeD.vec {a b c:Nat} {o o' n n':Int} (ho:o=o') (hn:n=n'):LeD (.vec a b c o n) (.vec a b c o' n'):=by subst ho;subst hn;exact LeD.refl _
theorem Qh.box {g:Nat} {cs cs':List D} (h:LeL cs cs'):Qh (.box g cs) (.box g cs'):=by
 refine ⟨rfl,fun h' I β objs ctr k hr=>?_⟩
 obtain ⟨hg,b,o,s,c,e,h1,h2,h3,h4,h5,h6⟩:=hr
 obtain ⟨hl,hd⟩:=LeL.get h
 refine ⟨hg,b,o,s,c,e,h1,h2,by rw [hl];exact h3,h4,by rw [hl];exact h5,fun j d' hj=>?_⟩
 have hlt:j < cs.length:=by rw [← hl];exact (List.getElem?_eq_some_iff.1 hj).1
 obtain ⟨z,z1,z2,z3⟩:=h6 j _ (List.getElem?_eq_getElem hlt)
 exact ⟨z,z1,z2,hd j _ d' (List.getElem?_eq_getElem hlt) hj _ _ _ _ _ _ z3⟩
def ghL:List (Nat × List Gh)→Nat→List Gh
 | [],_=>[]
 | (k,x) :: r,t=>if Nat.beq k t then x else ghL r t
def orcL:List (Nat × CallR)→Nat→Option CallR
 | [],_=>none
 | (k,x) :: r,t=>if Nat.beq k t then some x else orcL r t
theorem guardO {β:Type} {c:Bool} {o:Option β} {d v:β} (h:(if c=true then o else some d)=some v) (hc:c=true):o=some v:=by rwa [if_pos hc] at h
theorem LeD.slE {sz:Nat} {n n':Int} {t:Bool} {f f':Int→Nat→D} (hn:n=n') (h : ∀ i:Int,0≤i→i < n→∀ j:Nat,j < sz→f i j=f' i j):LeD (.sl sz n t f) (.sl sz n' false f') :=
 LeD.sl hn fun i i0 i1 j hj=>LeD.of (h i i0 i1 j hj)
theorem Qh.arrE {g sz:Nat} {n n':Int} {t:Bool} {f f':Int→Nat→D} (hn:n=n') (h : ∀ i:Int,0≤i→i < n→∀ j:Nat,j < sz→f i j=f' i j):Qh (.arr g sz n t f) (.arr g sz n' t f') :=
 Qh.arr' hn fun i i0 i1 j hj=>LeD.of (h i i0 i1 j hj)
theorem Zt (k:IntKind) (x:Int):Yx (std P) (.v (.int k x)) (.v (.int k x)):=by
 simp only [Yx,if_pos];rfl
theorem Z3h (x:Bool):Yx (std P) (.v (.bool x)) (.v (.bool x)):=by
 simp only [Yx];rfl
theorem out0_str (x:ByteArray):Yx (std P) (.v (.string x)) (.v (.string x)):=by
 simp only [Yx];rfl
theorem out0_all {n:Int} {sz:Nat} {f g:Int→Nat→D} (H : ∀ (i:Int) (j:Nat),Yx (std P) (g i j) (g i j)) (h : ∀ i:Int,0≤i→i < n→∀ j:Nat,j < sz→f i j=g i j) :
  (std P).all2 n sz (fun i j=>Yx (std P) (f i j) (g i j)):=by
 intro i i0 i1 j hj
 rw [h i i0 i1 j hj];exact H i j
theorem cut_end {off n n':Int} (h0:0≤off) (h1:0≤n') (h2:off+n'≤n):(std P).cut off ((std P).add off n') n:=⟨h0,show off≤off+n' by omega,h2⟩
theorem Y0 {sz:Nat} {n:Int} {f:Int→Nat→D} (H : ∀ (i:Int) (j:Nat),Yx (std P) (f i j) (f i j)):Yx (std P) (.sl sz n false f) (.sl sz n false f):=by
 simp only [Yx,Nat.beq_refl,if_pos]
 exact ⟨rfl,fun h=>(by cases h),fun i _ _ j _=>H i j⟩
def encL {α:Type} (sz:Nat) (E:α→Nat→D) (d:α) (out:List (List α)) (i:Int):D:=.sl sz (Z0 (Z1 [] out i)) false (fun i' j'=>E (Z1 d (Z1 [] out i) i') j')
theorem encL_out {α:Type} {sz:Nat} {E:α→Nat→D} {d:α} {out out':List (List α)} {i i2:Int} (HE : ∀ x j,Yx (std P) (E x j) (E x j)) (h:Z1 [] out' i2=Z1 [] out i):Yx (std P) (encL sz E d out i) (encL sz E d out' i2):=by
 simp only [encL,Yx,Nat.beq_refl,if_true,h]
 exact ⟨rfl,(fun h=>by cases h),fun i _ _ j _=>HE _ _⟩
theorem coolP {α:Type} (E:α→Nat→D) (d:α) (out:List (List α)) (src g2 sz:Nat) (N k:Int) (HE : ∀ x j,Yx (std P) (E x j) (E x j)) :
  (std P).all2 N 1 (fun i _=>Z3z (std P) src g2 sz (fun i' j'=>E (Z1 d (Z1 [] out k) i') j') none (.cnd ((std P).eq i k) (.vec src g2 sz 0 (Z0 (Z1 [] out k))) (encL sz E d out i)) (encL sz E d out i)):=by
 intro i i0 i1 j hj
 refine ⟨fun hb=>?_,fun _=>encL_out HE rfl⟩
 have hb:i=k:=by have hb:(i == k)=true:=hb;simpa using hb
 subst hb
 simp only [Z3z,encL,tgtR,Nat.beq_refl,Bool.and_self,if_true]
 refine ⟨rfl,rfl,rfl,fun i' _ _ j' _=>?_⟩
 have e:(std P).add 0 i'=i':=Int.zero_add i'
 show Yx (std P) (E (Z1 d (Z1 [] out i) ((std P).add 0 i')) j') (E (Z1 d (Z1 [] out i) i') j')
 rw [e];exact HE _ _
theorem heatV {src g2 sz dst c:Nat} {f2:Int→Nat→D} {n n' i k':Int} {F:D} (hn:n=n') (hk:i=k') :
  tgtR (std P) src g2 sz f2 (some (dst,c)) (.vec src g2 sz 0 n) (.cnd ((std P).eq i k') (.vec dst c sz 0 n') F):=by
 refine ⟨fun _=>?_,fun h=>?_⟩
 · simp only [tgtR,Nat.beq_refl,Bool.and_self,if_true]
   exact ⟨rfl,rfl,rfl,hn⟩
 · have h:(!(i == k'))=true:=h
   simp [hk] at h
theorem heatS {α:Type} {E:α→Nat→D} {d:α} {out out':List (List α)} {src g2 sz dst c:Nat} {N idx k k' n n':Int} {f2:Int→Nat→D} {X:D} (HE : ∀ x j,Yx (std P) (E x j) (E x j)) (h1:idx=k) (h2:k'=k) (hn:n=n') (hs : ∀ i,0≤i→i < N→i≠k→Z1 [] out' i=Z1 [] out i) :
  (std P).all2 N 1 (fun i j=>Z3z (std P) src g2 sz f2 (some (dst,c)) (putF (std P) idx 0 [.vec src g2 sz 0 n] (fun i _=>.cnd ((std P).eq i k) X (encL sz E d out i)) i j) (.cnd ((std P).eq i k') (.vec dst c sz 0 n') (encL sz E d out' i))):=by
 intro i i0 i1 j hj
 obtain rfl:j=0:=by omega
 subst h1;subst h2
 have e:putF (std P) k' 0 [.vec src g2 sz 0 n] (fun i _=>.cnd ((std P).eq i k') X (encL sz E d out i)) i 0 = .cnd ((std P).eq i k') (.vec src g2 sz 0 n) (.cnd ((std P).eq i k') X (encL sz E d out i)):=rfl
 rw [e]
 refine ⟨fun hb=>?_,fun hb=>⟨fun hb'=>?_,fun _=>?_⟩⟩
 · have hb:(i == k')=true:=hb
   exact heatV hn (by simpa using hb)
 · have hb:(!(i == k'))=true:=hb
   have hb':(i == k')=true:=hb'
   rw [hb'] at hb;cases hb
 · have hb:(!(i == k'))=true:=hb
   have hne:i≠k':=by simpa using hb
   refine ⟨fun hb'=>?_,fun _=>encL_out HE (hs i i0 i1 hne)⟩
   have hb':(i == k')=true:=hb'
   rw [hb'] at hb;cases hb
theorem heatA {α:Type} {E:α→Nat→D} {d:α} {out':List (List α)} {src g2 sz dst c:Nat} {N n0 k' n n':Int} {f2:Int→Nat→D} {F h:Int→Nat→D} (hN:N=n0+1) (h2:k'=n0) (hn:n=n') (hh : ∀ i,h i 0 = .vec src g2 sz 0 n) (hc : ∀ i x,Z3z (std P) src g2 sz f2 (some (dst,c)) (F i 0) x=tgtR (std P) src g2 sz f2 (some (dst,c)) (F i 0) x) (hd : ∀ i b,dsel (std P) b (F i 0) (.vec src g2 sz 0 n) = .cnd b (F i 0) (.vec src g2 sz 0 n)) (hs : ∀ i,0≤i→i < n0→Yx (std P) (F i 0) (encL sz E d out' i)) (ht : ∀ i,tgtR (std P) src g2 sz f2 (some (dst,c)) (F i 0) (encL sz E d out' i)=Yx (std P) (F i 0) (encL sz E d out' i)) :
  (std P).all2 N 1 (fun i j=>Z3z (std P) src g2 sz f2 (some (dst,c)) (catF (std P) n0 F h i j) (.cnd ((std P).eq i k') (.vec dst c sz 0 n') (encL sz E d out' i))):=by
 intro i i0 i1 j hj
 obtain rfl:j=0:=by omega
 subst h2
 have e:catF (std P) k' F h i 0 = .cnd ((std P).lt i k') (F i 0) (.vec src g2 sz 0 n):=by
  simp only [catF,hh];exact hd _ _
 rw [e]
 refine ⟨fun hb=>?_,fun hb=>?_⟩
 · have hb:decide (i < k')=true:=hb
   have hb:i < k':=by simpa using hb
   rw [hc]
   refine ⟨fun hb'=>?_,fun _=>by rw [ht];exact hs i i0 hb⟩
   have hb':(i == k')=true:=hb'
   simp at hb';omega
 · have hb:(!decide (i < k'))=true:=hb
   have hb:k'≤i:=by simpa using hb
   exact heatV hn (by omega)
theorem Qh.catL {α:Type} {E:α→Nat→D} {d:α} {g sz:Nat} {N N' n0:Int} {t:Bool} {F h:Int→Nat→D} {out':List (List α)} {n1 n2:Int→Int} {c1 c2:Int→Int→α} {t1 t2:Int→Bool} (hN:N=N')
  (HE : ∀ b x y j,LeD (dsel (std P) b (E x j) (E y j)) (E (if b=true then x else y) j))
  (hF : ∀ i,F i 0 = .sl sz (n1 i) (t1 i) (fun i' j'=>E (c1 i i') j')) (hh : ∀ i,h i 0 = .sl sz (n2 i) (t2 i) (fun i' j'=>E (c2 i i') j'))
  (e1 : ∀ i,0≤i→i < n0→n1 i=Z0 (Z1 [] out' i)∧∀ i',0≤i'→i' < n1 i→c1 i i'=Z1 d (Z1 [] out' i) i')
  (e2 : ∀ i,0≤i→n0≤i→i < N→n2 (i-n0)=Z0 (Z1 [] out' i)∧∀ i',0≤i'→i' < n2 (i-n0)→c2 (i-n0) i'=Z1 d (Z1 [] out' i) i') :
  Qh (.arr g 1 N t (catF (std P) n0 F h)) (.arr g 1 N' t (fun i _=>encL sz E d out' i)):=by
 refine Qh.arr' hN fun i i0 i1 j hj=>?_
 obtain rfl:j=0:=by omega
 show LeD (dsel (std P) (decide (i < n0)) (F i 0) (h (i-n0) 0)) _
 rw [hF,hh]
 simp only [dsel,Nat.beq_refl,if_true]
 by_cases hlt:i < n0
 · obtain ⟨a,b⟩:=e1 i i0 hlt
   have hb:decide (i < n0)=true:=by simpa using hlt
   rw [hb]
   refine LeD.sl (show n1 i=_ from a) fun i' i0' i1' j' _=>?_
   have:=HE true (c1 i i') (c2 (i-n0) i') j'
   have e:(if true=true then c1 i i' else c2 (i-n0) i')=Z1 d (Z1 [] out' i) i':=b i' i0' i1'
   rw [e] at this;exact this
 · obtain ⟨a,b⟩:=e2 i i0 (by omega) i1
   have hb:decide (i < n0)=false:=by simpa using hlt
   rw [hb]
   refine LeD.sl (show n2 (i-n0)=_ from a) fun i' i0' i1' j' _=>?_
   have:=HE false (c1 i i') (c2 (i-n0) i') j'
   have e:(if false=true then c1 i i' else c2 (i-n0) i')=Z1 d (Z1 [] out' i) i':=b i' i0' i1'
   rw [e] at this;exact this
theorem retQ_ret {tt:TT} {rs:List ResultVar} {res:D} {st:St} {ds:List D} {os:List Prop} (h:resL (std P) tt st.objs st.slots rs=some (ds,os)) (hos:conj os True) (ho:outT (std P) st.objs ds res):retQ (std P) tt rs res .ret st:=by
 simp only [retQ,h];exact conj_of hos ho
theorem lentQ_ret {tt:TT} {rs:List ResultVar} {post:List Ob} {res:D} {st:St} {ds:List D} {os:List Prop} (h:resL (std P) tt st.objs st.slots rs=some (ds,os)) (hos:conj os True) (ho:outL (std P) ds res) (km:List KM) (he:Z6e (std P) st.objs km post):lentQ (std P) tt rs post res .ret st:=by
 simp only [lentQ,h];exact conj_of hos ⟨ho,km,he⟩
theorem lentQ_normal {tt:TT} {rs:List ResultVar} {post:List Ob} {res:D} {st:St} {ds:List D} {os:List Prop} (h:resL (std P) tt st.objs st.slots rs=some (ds,os)) (hos:conj os True) (ho:outL (std P) ds res) (km:List KM) (he:Z6e (std P) st.objs km post):lentQ (std P) tt rs post res .normal st:=by
 simp only [lentQ,h];exact conj_of hos ⟨ho,km,he⟩
theorem retQ_normal {tt:TT} {rs:List ResultVar} {res:D} {st:St} {ds:List D} {os:List Prop} (h:resL (std P) tt st.objs st.slots rs=some (ds,os)) (hos:conj os True) (ho:outT (std P) st.objs ds res):retQ (std P) tt rs res .normal st:=by
 simp only [retQ,h];exact conj_of hos ho
def wpPre (p:Pr) (cx:Cx):Nat→Code→(Exit→St→Prop)→St→Prop
 | 0,c,Q,st=>p.tr c Q st
 | n+1,.seq a b,Q,st=>wp p cx a (Z50 (wpPre p cx n b Q) Q) st
 | _,c,Q,st=>wp p cx c Q st
theorem wpPre_sound {cx:Cx} (hT:Qo P cx.tt) (hP:P.follows .mixedOrders=true) {Q:Exit→St→Prop} : ∀ (n:Nat) (c:Code) (st:St),wpPre (std P) cx n c Q st→Tr P c Q st:=by
 intro n
 induction n with
 | zero=>intro c st h;exact h
 | succ n ih =>
  intro c st h
  cases c with
  | seq a b =>
   refine Tr.seq ((wp_sound hT hP _ _ _ h).mono fun ex st' q=>?_)
   cases ex with
   | normal=>exact ih _ _ q
   | _=>exact q
  | _=>exact wp_sound hT hP _ _ _ h
theorem Tr.pre {cx:Cx} (hT:Qo P cx.tt) (hP:P.follows .mixedOrders=true) (n:Nat) {c:Code} {Q:Exit→St→Prop} {st:St} (h : ∀ N,N=Q→wpPre (std P) cx n c N st):Tr P c Q st:=wpPre_sound hT hP n _ _ (h Q rfl)
def restN:Nat→Code→Code
 | 0,c=>c
 | n+1,.seq _ b=>restN n b
 | _+1,c=>c
def wpCut (p:Pr) (cx:Cx) (N:Exit→St→Prop):Nat→Code→St→Prop
 | 0,_,st=>N .normal st
 | n+1,.seq a b,st=>wp p cx a (Z50 (wpCut p cx N n b) N) st
 | _+1,_,_=>False
theorem wpCut_sound {cx:Cx} (hT:Qo P cx.tt) (hP:P.follows .mixedOrders=true) {N Q:Exit→St→Prop} (hQ : ∀ ex st,ex≠.normal→N ex st→Q ex st) : ∀ (n:Nat) (c:Code) (st:St),(∀ st',N .normal st'→Tr P (restN n c) Q st')→wpCut (std P) cx N n c st→Tr P c Q st:=by
 intro n
 induction n with
 | zero=>intro c st hN h;exact hN st h
 | succ n ih =>
  intro c st hN h
  cases c with
  | seq a b =>
   refine Tr.seq ((wp_sound hT hP _ _ _ h).mono fun ex st' q=>?_)
   cases ex with
   | normal=>exact ih b st' hN q
   | _=>exact hQ _ _ (by intro e;cases e) q
  | _=>exact h.elim
theorem Ze.arg {f:FuncId} {args args':List D} {res:D} (h:Ze P f args res) (hl:LeL args' args):Ze P f args' res:=by
 obtain ⟨h1,h2⟩:=LeL.get hl
 refine ⟨h.1,fun w I c vs hc hI hglob hlen hargs=>h.2 w I c vs hc hI hglob (hlen.trans h1.symm) fun t d ht=>?_⟩
 have hlt:t < args'.length:=by rw [← h1];exact (List.getElem?_eq_some_iff.1 ht).1
 obtain ⟨y,y1,y2⟩:=hargs t _ (List.getElem?_eq_getElem hlt)
 exact ⟨y,y1,h2 t _ d (List.getElem?_eq_getElem hlt) ht _ _ _ _ _ _ y2⟩
theorem X3.arg {f:FuncId} {args args':List D} {pre post:List Ob} {res:D} (h:X3 P f args pre post res) (hl:LeL args' args):X3 P f args' pre post res:=by
 obtain ⟨h1,h2⟩:=LeL.get hl
 refine ⟨h.1,fun w I c vs β hc hI hglob hlen hargs=>h.2 w I c vs β hc hI hglob (hlen.trans h1.symm) fun t d ht=>?_⟩
 have hlt:t < args'.length:=by rw [← h1];exact (List.getElem?_eq_some_iff.1 ht).1
 obtain ⟨y,y1,y2⟩:=hargs t _ (List.getElem?_eq_getElem hlt)
 exact ⟨y,y1,h2 t _ d (List.getElem?_eq_getElem hlt) ht _ _ _ _ _ _ y2⟩
theorem Z5b.arg {f:FuncId} {args args':List D} {res:D} (h:Z5b P f args res) (hl:LeL args' args):Z5b P f args' res:=by
 obtain ⟨h1,h2⟩:=LeL.get hl
 refine fun w I c vs hlen hargs=>h w I c vs (hlen.trans h1.symm) fun t d ht=>?_
 have hlt:t < args'.length:=by rw [← h1];exact (List.getElem?_eq_some_iff.1 ht).1
 obtain ⟨y,y1,y2⟩:=hargs t _ (List.getElem?_eq_getElem hlt)
 exact ⟨y,y1,h2 t _ d (List.getElem?_eq_getElem hlt) ht _ _ _ _ _ _ y2⟩
theorem Ze.sl {f:FuncId} {args:List D} {sz:Nat} {n:Int} {t:Bool} {g:Int→Nat→D} (h:Ze P f args (.own sz n t g)):Ze P f args (.sl sz n t g):=by
 refine ⟨h.1,fun w I c vs hc hI hglob hlen hargs=>(h.2 w I c vs hc hI hglob hlen hargs).mono ?_⟩
 rintro e w' ⟨v,I',rfl,h1,h2,h3,h4,hwo,h5⟩
 obtain ⟨ad,len,cap,rfl,x1,x2,x3,x4⟩:=h5
 rcases Nat.eq_zero_or_pos cap with hc0 | hc0
 · exact ⟨_,I',rfl,h1,h2,h3,h4,hwo,ad,len,cap,rfl,x1,x2,x3,fun h=>by omega⟩
 · obtain ⟨b,o,c,e,rfl,y1,y2,y3,y4,y5⟩:=x4 hc0
   have hb:b < w'.heap.size:=(Array.getElem?_eq_some_iff.1 y3).1
   refine ⟨_,fun k=>I' k∨k=b,rfl,fun k hk=>.inl (h1 k hk),fun k hk=>?_,h3,h4,hwo,_,len,cap,rfl,x1,x2,x3,fun hp=>⟨b,o,c,e,_,rfl,.inr rfl,y3,fun i hi j hj=>?_⟩⟩
   · rcases hk with hk | rfl
     · exact h2 k hk
     · exact ⟨hb,.inr y1⟩
   · obtain ⟨z,z1,z2,z3⟩:=y5 i hi j hj
     exact ⟨z,z1,z2,Rd.mono (Q5.ice _ _ _ (fun _ h=>.inl h)) _ _ z3⟩
def Zl (f:Func):Code:=match f.body with
 | some c=>c
 | none=>.skip
end
end Go.Vx
