/- Lifted functions: what joins the plain functions that a program prints to the evaluator; conditions: none. -/
import Derived.Test.YtckmalogclklmaaGreatDoorVxFn
import Derived.KernelRfl
import Derived.Scope
import Derived.Laws.Cover3
set_option linter.all false
namespace Go.Vx
open Go
inductive Fl (β γ:Type) where
 | go (b:β)
 | out (r:γ)
section
variable {α β γ:Type}
def chk (c:Prop) [Decidable c] (k:Option α):Option α:=if c then k else none
def ay (c:Bool) (x y:Option α):Option α:=match c with
 | true=>x
 | false=>y
def WG (k:β→Option γ):Fl β γ→Option γ
 | .go b=>k b
 | .out r=>some r
def aM (o:Option (Fl β γ)) (k:β→Option γ):Option γ:=match o with
 | none=>none
 | some f=>WG k f
def av (o:Option β) (k:β→Option γ):Option γ:=match o with
 | none=>none
 | some b=>k b
theorem dQ {c:Prop} [Decidable c] {k:Option α} {r:α} (h:chk c k=some r):c∧k=some r:=by
 unfold chk at h
 split at h
 · exact ⟨by assumption,h⟩
 · cases h
theorem aeo {c:Prop} [Decidable c] {k:Option α} (h:c):chk c k=k:=if_pos h
theorem vR {c:Bool} {x y:Option α} {r:α} (h:ay c x y=some r) (hc:c=true):x=some r:=by
 subst hc;exact h
theorem vS {c:Bool} {x y:Option α} {r:α} (h:ay c x y=some r) (hc:c=false):y=some r:=by
 subst hc;exact h
theorem zI {o:Option (Fl β γ)} {k:β→Option γ} {r:γ} (h:aM o k=some r) : ∃ f,o=some f∧WG k f=some r:=by
 cases o with
 | none=>cases h
 | some f=>exact ⟨f,rfl,h⟩
theorem adw {o:Option β} {k:β→Option γ} {r:γ} (h:av o k=some r) : ∃ b,o=some b∧k b=some r:=by
 cases o with
 | none=>cases h
 | some f=>exact ⟨f,rfl,h⟩
def pW (body:α→Option (Fl α γ)):Nat→α→Option γ
 | 0,_=>none
 | n+1,x=>match body x with
  | none=>none
  | some (.go y)=>pW body n y
  | some (.out r)=>some r
theorem Nb {body:α→Option (Fl α γ)} {r:γ} : ∀ {n m:Nat} {x:α},pW body n x=some r→n≤m→pW body m x=some r
 | 0,_,_,h,_=>by cases h
 | n+1,0,_,_,h=>by omega
 | n+1,m+1,x,h,hm=>by
  simp only [pW] at h ⊢
  split at h
  · cases h
  · rename_i y hy;exact Nb h (by omega)
  · exact h
def adM (body:α→Option (Fl α γ)) (n:Nat):α→Option γ :=
 Nat.rec (motive:=fun _=>α→Option γ) (fun _=>none) (fun _ ih x=>match body x with
  | none=>none
  | some (.go y)=>ih y
  | some (.out r)=>some r) n
theorem aaC (body:α→Option (Fl α γ)) : ∀ (n:Nat) (x:α),adM body n x=pW body n x
 | 0,_=>rfl
 | n+1,x=>by
  show (match body x with
   | none=>none
   | some (.go y)=>adM body n y
   | some (.out r)=>some r)=pW body (n+1) x
  simp only [pW]
  cases body x with
  | none=>rfl
  | some f =>
   cases f with
   | go y=>exact aaC body n _
   | out r=>rfl
open Classical in
noncomputable def WH (body:α→Option (Fl α γ)) (x:α):Option γ:=if h : ∃ r n,pW body n x=some r then some h.choose else none
theorem aaD {body:α→Option (Fl α γ)} {n:Nat} {x:α} {r:γ} (h:pW body n x=some r):WH body x=some r:=by
 have hx : ∃ r n,pW body n x=some r:=⟨r,n,h⟩
 rw [WH,dif_pos hx]
 obtain ⟨m,hm⟩:=hx.choose_spec
 have h1:=Nb h (Nat.le_max_left n m)
 have h2:=Nb hm (Nat.le_max_right n m)
 rw [h1] at h2
 exact h2.symm
noncomputable def bD (body:α→Option (Fl α γ)) (x:α):Option γ:=match adM body 3000 x with
 | some r=>some r
 | none=>WH body x
theorem ab5 (body:α→Option (Fl α γ)) (x:α):bD body x=WH body x:=by
 unfold bD
 split
 · rename_i r h
   rw [aaC] at h
   exact (aaD h).symm
 · rfl
attribute [irreducible] bD
theorem Nc {body:α→Option (Fl α γ)} {n:Nat} {x:α} {r:γ} (h:pW body n x=some r):bD body x=some r:=(ab5 body x).trans (aaD h)
theorem Ji {body:α→Option (Fl α γ)} {x:α} {r:γ} : bD body x=some r ↔ ∃ n,pW body n x=some r:=by
 constructor
 · intro h
   rw [ab5,WH] at h
   split at h
   · rename_i hx
     obtain ⟨m,hm⟩:=hx.choose_spec
     cases h
     exact ⟨m,hm⟩
   · cases h
 · rintro ⟨n,h⟩;exact Nc h
theorem aaE (body:α→Option (Fl α γ)) (x:α):bD body x=match body x with
  | none=>none
  | some (.go y)=>bD body y
  | some (.out r)=>some r:=by
 split
 · rename_i h
   cases hl:bD body x with
   | none=>rfl
   | some r =>
    obtain ⟨n,hn⟩:=Ji.1 hl
    cases n with
    | zero=>cases hn
    | succ n=>simp [pW,h] at hn
 · rename_i y h
   cases hl:bD body y with
   | none =>
    cases hx:bD body x with
    | none=>rfl
    | some r =>
     obtain ⟨n,hn⟩:=Ji.1 hx
     cases n with
     | zero=>cases hn
     | succ n =>
      simp only [pW,h] at hn
      rw [Nc hn] at hl;cases hl
   | some r =>
    obtain ⟨n,hn⟩:=Ji.1 hl
    exact Nc (n:=n+1) (by simpa only [pW,h] using hn)
 · rename_i r h
   exact Nc (n:=1) (by simp only [pW,h])
theorem adL {body:α→Option (Fl α γ)} (inv:α→Prop) (μ:α→Nat) (Q:γ→Prop) {x:α} (hx:inv x)
  (step : ∀ x,inv x→(∃ y,body x=some (.go y)∧inv y∧μ y < μ x)∨∃ r,body x=some (.out r)∧Q r) : ∃ r,bD body x=some r∧Q r:=by
 induction hn:μ x using Nat.strongRecOn generalizing x with
 | _ n ih =>
  rcases step x hx with ⟨y,h1,h2,h3⟩ | ⟨r,h1,h2⟩
  · obtain ⟨r,h4,h5⟩:=ih _ (hn ▸ h3) h2 rfl
    exact ⟨r,by rw [aaE,h1];exact h4,h5⟩
  · exact ⟨r,by rw [aaE,h1],h2⟩
end
section
variable {α:Type}
def au (d:α) (xs:List α) (i:Int):α:=xs.getD i.toNat d
def ah (xs:List α):Int:=xs.length
def eB (xs:List α) (i:Int) (v:α):List α:=xs.set i.toNat v
def jw (xs:List α) (l h:Int):List α:=(xs.drop l.toNat).take (h-l).toNat
def iG (n:Int) (v:α):List α:=List.replicate n.toNat v
def En (xs:List α) (off:Int) (ys:List α) (n:Int):List α:=xs.take off.toNat++ys.take n.toNat++xs.drop (off+n).toNat
theorem bQ (xs:List α):0≤ah xs:=by simp [ah]
@[simp] theorem aF:ah ([]:List α)=0:=rfl
@[simp] theorem aB (x:α) (xs:List α):ah (x :: xs)=ah xs+1:=by simp [ah]
@[simp] theorem aJ (xs:List α) (i:Int) (v:α):ah (eB xs i v)=ah xs:=by simp [ah,eB]
@[simp] theorem aG (xs ys:List α):ah (xs++ys)=ah xs+ah ys:=by simp [ah]
theorem bn {n:Int} (v:α) (h:0≤n):ah (iG n v)=n:=by simp [ah,iG];omega
theorem aY {xs:List α} {l h:Int} (h0:0≤l) (h1:l≤h) (h2:h≤ah xs):ah (jw xs l h)=h-l:=by
 simp [ah,jw] at *;omega
theorem agi {d:α} {xs:List α} {k i:Int} {v:α} (h0:0≤k) (h1:k < ah xs) (i0:0≤i):au d (eB xs k v) i=if i=k then v else au d xs i:=by
 simp only [au,eB,List.getD_eq_getElem?_getD,List.getElem?_set]
 by_cases h:i=k
 · subst h
   simp [ah] at h1
   rw [if_pos rfl,if_pos rfl,if_pos (by omega)];rfl
 · rw [if_neg (by omega),if_neg h]
theorem gQ {d:α} {xs:List α} {k i:Int} {v:α} (h0:0≤k) (i0:0≤i) (i1:i < ah xs):au d (eB xs k v) i=if i=k then v else au d xs i:=by
 by_cases h:i=k
 · rw [agi h0 (by omega) i0]
 · simp only [au,eB,List.getD_eq_getElem?_getD,List.getElem?_set]
   rw [if_neg (by omega),if_neg h]
theorem fI {d:α} {xs ys:List α} {i:Int} (i0:0≤i):au d (xs++ys) i=if i < ah xs then au d xs i else au d ys (i-ah xs):=by
 simp only [au,ah,List.getD_eq_getElem?_getD]
 by_cases h:i < (xs.length:Int)
 · rw [if_pos h,List.getElem?_append_left (by omega)]
 · rw [if_neg h,List.getElem?_append_right (by omega)]
   congr 2;omega
theorem qA (d x:α) (xs:List α):au d (xs++[x]) (ah xs)=x:=by
 rw [fI (bQ xs),if_neg (by omega),Int.sub_self];rfl
theorem qU {d:α} {n i:Int} {v:α} (i0:0≤i) (h:i < n):au d (iG n v) i=v:=by
 simp only [au,iG,List.getD_eq_getElem?_getD,List.getElem?_replicate]
 rw [if_pos (by omega)];rfl
theorem jT {d:α} {xs:List α} {l h i:Int} (h0:0≤l) (i0:0≤i) (i1:i < h-l):au d (jw xs l h) i=au d xs (l+i):=by
 simp only [au,jw,List.getD_eq_getElem?_getD,List.getElem?_take,List.getElem?_drop]
 rw [if_pos (by omega)]
 congr 2;omega
@[simp] theorem eO (d x:α) (xs:List α):au d (x :: xs) 0=x:=rfl
theorem eD {d:α} {xs:List α} {x:α} {i:Int} (h:i=0):au d (x :: xs) i=x:=by subst h;rfl
theorem ah0 {d:α} {xs:List α} {i:Int} (h0:0≤i) (h1:i < ah xs) : ∃ h:i.toNat < xs.length,au d xs i=xs[i.toNat]:=by
 have h:i.toNat < xs.length:=by simp [ah] at h1;omega
 exact ⟨h,by simp [au,h]⟩
theorem bV {xs ys:List α} {off n:Int} (h0:0≤off) (h1:0≤n) (h2:n≤ah ys) (h3:off+n≤ah xs):ah (En xs off ys n)=ah xs:=by
 simp [ah,En] at *;omega
theorem pz {d:α} {xs ys:List α} {off n i:Int} (h0:0≤off) (h1:0≤n) (h2:n≤ah ys) (h3:off+n≤ah xs) (i0:0≤i) :
  au d (En xs off ys n) i=if off≤i∧i < off+n then au d ys (i-off) else au d xs i:=by
 simp only [ah] at h2 h3
 simp only [au,En,List.getD_eq_getElem?_getD,List.append_assoc]
 rcases Int.lt_or_le i off with h | h
 · rw [if_neg (by omega),List.getElem?_append_left (by simp;omega),List.getElem?_take_of_lt (by omega)]
 · rw [List.getElem?_append_right (by simp;omega)]
   rcases Int.lt_or_le i (off+n) with h' | h'
   · rw [if_pos ⟨h,h'⟩,List.getElem?_append_left (by simp;omega),List.getElem?_take_of_lt (by simp;omega)]
     congr 2;simp;omega
   · rw [if_neg (by omega),List.getElem?_append_right (by simp;omega),List.getElem?_drop]
     congr 2;simp;omega
end
def DJ (s:ByteArray):List Int:=s.data.toList.map fun b=>(b.toNat:Int)
theorem bM (s:ByteArray):ah (DJ s)=cZ s:=by simp [ah,DJ,cZ]
theorem tL {s:ByteArray} {i:Int} : au 0 (DJ s) i=lC s i:=by
 simp only [au,DJ,lC,List.getD_eq_getElem?_getD,List.getElem?_map]
 cases s.data.toList[i.toNat]?<;>rfl
inductive CV where
 | int (k:IntKind) (x:Int)
 | bool (b:Bool)
def NS:List (Nat × CV)→Nat→D
 | [],_=>.junk
 | (k,.int q x) :: r,j=>cond (Nat.beq j k) (.v (.int q x)) (NS r j)
 | (k,.bool b) :: r,j=>cond (Nat.beq j k) (.v (.bool b)) (NS r j)
inductive FV where
 | nil (f:Nat)
 | int (r:FV) (k:IntKind) (x:Int)
 | bool (r:FV) (b:Bool)
 | str (r:FV) (s:ByteArray)
 | fn (r:FV) (v:FV)
 | box (r:FV) (n:Nat) (l:List (Nat × CV))
def WW:FV:=.nil 0
instance:Inhabited FV:=⟨WW⟩
def FV.f:FV→Nat
 | .nil f=>f
 | .int r _ _=>r.f
 | .bool r _=>r.f
 | .str r _=>r.f
 | .fn r _=>r.f
 | .box r _ _=>r.f
def FV.k:FV→Nat
 | .nil _=>0
 | .int r _ _=>r.k+1
 | .bool r _=>r.k+1
 | .str r _=>r.k+1
 | .fn r _=>r.k+1
 | .box r _ _=>r.k+1
def FV.c:FV→Nat→D
 | .nil _,_=>.junk
 | .int r k x,j=>cond (Nat.beq j r.k) (.gY 1 1 (fun _ _=>.v (.int k x)) 0 0) (r.c j)
 | .bool r b,j=>cond (Nat.beq j r.k) (.gY 1 1 (fun _ _=>.v (.bool b)) 0 0) (r.c j)
 | .str r s,j=>cond (Nat.beq j r.k) (.gY 1 1 (fun _ _=>.v (.string s)) 0 0) (r.c j)
 | .fn r v,j=>cond (Nat.beq j r.k) (.gY 1 1 (fun _ _=>.fn (.func v.f) v.k v.c) 0 0) (r.c j)
 | .box r n l,j=>cond (Nat.beq j r.k) (.gY n 1 (fun _ j=>NS l j) 0 0) (r.c j)
structure Nv where
 get : {α:Type}→α→List α→Int→α
 len : {α:Type}→List α→Int
 set : {α:Type}→List α→Int→α→List α
 sub : {α:Type}→List α→Int→Int→List α
 rep : {α:Type}→Int→α→List α
 app : {α:Type}→List α→List α→List α
 cpy : {α:Type}→List α→Int→List α→Int→List α
 bys:ByteArray→List Int
 fF:FV→Nat
 fK:FV→Nat
 fC:FV→Nat→D
def aj:Nv:=⟨au,ah,eB,jw,iG,fun x y=>x++y,En,DJ,FV.f,FV.k,FV.c⟩
theorem alQ (n:Nat):aj.fK (.nil n)=0:=rfl
theorem alR (r:FV) (k:IntKind) (x:Int):aj.fK (.int r k x)=aj.fK r+1:=rfl
theorem alS (r:FV) (b:Bool):aj.fK (.bool r b)=aj.fK r+1:=rfl
theorem alT (r:FV) (s:ByteArray):aj.fK (.str r s)=aj.fK r+1:=rfl
theorem al0 (r:FV) (n:Nat) (l:List (Nat × CV)):aj.fK (.box r n l)=aj.fK r+1:=rfl
theorem al1 (r:FV) (n:Nat) (l:List (Nat × CV)):aj.fF (.box r n l)=aj.fF r:=rfl
theorem YX (r:FV) (n:Nat) (l:List (Nat × CV)) (j:Nat):aj.fC (.box r n l) j=cond (Nat.beq j (aj.fK r)) (.gY n 1 (fun _ j=>NS l j) 0 0) (aj.fC r j):=rfl
theorem alU (r v:FV):aj.fK (.fn r v)=aj.fK r+1:=rfl
theorem alV (n:Nat):aj.fF (.nil n)=n:=rfl
theorem alW (r:FV) (k:IntKind) (x:Int):aj.fF (.int r k x)=aj.fF r:=rfl
theorem alX (r:FV) (b:Bool):aj.fF (.bool r b)=aj.fF r:=rfl
theorem alY (r:FV) (s:ByteArray):aj.fF (.str r s)=aj.fF r:=rfl
theorem alZ (r v:FV):aj.fF (.fn r v)=aj.fF r:=rfl
theorem YT (r:FV) (k:IntKind) (x:Int) (j:Nat):aj.fC (.int r k x) j=cond (Nat.beq j (aj.fK r)) (.gY 1 1 (fun _ _=>.v (.int k x)) 0 0) (aj.fC r j):=rfl
theorem YU (r:FV) (b:Bool) (j:Nat):aj.fC (.bool r b) j=cond (Nat.beq j (aj.fK r)) (.gY 1 1 (fun _ _=>.v (.bool b)) 0 0) (aj.fC r j):=rfl
theorem YV (r:FV) (s:ByteArray) (j:Nat):aj.fC (.str r s) j=cond (Nat.beq j (aj.fK r)) (.gY 1 1 (fun _ _=>.v (.string s)) 0 0) (aj.fC r j):=rfl
theorem YW (r v:FV) (j:Nat):aj.fC (.fn r v) j=cond (Nat.beq j (aj.fK r)) (.gY 1 1 (fun _ _=>.fn (.func (aj.fF v)) (aj.fK v) (aj.fC v)) 0 0) (aj.fC r j):=rfl
def GH (l:List Int):ByteArray:=strOf (ah l) (fun i=>au 0 l i)
def apj (x:Int):Prop:=-9223372036854775808≤x∧x≤9223372036854775807
instance (x:Int):Decidable (apj x):=inferInstanceAs (Decidable (_∧_))
def dL (bytes:Nat) (n:Int):Prop:=n≤140737488355328∧n*(bytes:Int)≤140737488355328
instance (b:Nat) (n:Int):Decidable (dL b n):=inferInstanceAs (Decidable (_∧_))
def gK (bytes:Nat) (l c:Int):Prop:=0≤l∧l≤c∧c≤281474976710656∧(bytes:Int)*c≤281474976710656
instance (b:Nat) (l c:Int):Decidable (gK b l c):=inferInstanceAs (Decidable (_∧_∧_∧_))
def aW (k:IntKind) (x:Int):Prop:=k.min≤x∧x≤k.max
instance (k:IntKind) (x:Int):Decidable (aW k x):=inferInstanceAs (Decidable (_∧_))
section
variable {P:Program}
theorem aZ.of {d d':D} (h:d=d'):aZ d d':=h ▸ aZ.refl d
theorem dN.arr {g sz:Nat} {n:Int} {t:Bool} {f f':Int→Nat→D} (h : ∀ i:Int,0≤i→i < n→∀ j:Nat,j < sz→aZ (f i j) (f' i j)):dN (.arr g sz n t f) (.arr g sz n t f'):=by
 refine ⟨⟨rfl,rfl,rfl,rfl⟩,fun h' I β objs ctr k hr=>?_⟩
 obtain ⟨h1,h2,h3⟩:=hr
 refine ⟨h1,h2,?_⟩
 rcases h3 with h3 | ⟨b,o,s,c,e,x1,x2,x3,x4,x5,x6⟩
 · exact .inl h3
 · refine .inr ⟨b,o,s,c,e,x1,x2,x3,x4,x5,fun i hi j hj=>?_⟩
   obtain ⟨z,z1,z2,z3⟩:=x6 i hi j hj
   exact ⟨z,z1,z2,h i (by omega) hi j hj _ _ _ _ _ _ z3⟩
theorem dN.arr' {g sz:Nat} {n n':Int} {t:Bool} {f f':Int→Nat→D} (hn:n=n') (h : ∀ i:Int,0≤i→i < n→∀ j:Nat,j < sz→aZ (f i j) (f' i j)):dN (.arr g sz n t f) (.arr g sz n' t f'):=by
 subst hn;exact dN.arr h
theorem aZ.sl {sz:Nat} {n n':Int} {t:Bool} {f f':Int→Nat→D} (hn:n=n') (h : ∀ i:Int,0≤i→i < n→∀ j:Nat,j < sz→aZ (f i j) (f' i j)):aZ (.sl sz n t f) (.sl sz n' false f'):=by
 subst hn
 rintro h' I β objs ctr y ⟨a,len,cap,rfl,hl,hc,ht,hx⟩
 refine ⟨a,len,cap,rfl,hl,hc,(fun h=>by cases h),fun hp=>?_⟩
 obtain ⟨b,o,c,e,fr,e1,e2,e3,e4⟩:=hx hp
 refine ⟨b,o,c,e,fr,e1,e2,e3,fun i hi j hj=>?_⟩
 obtain ⟨z,z1,z2,z3⟩:=e4 i hi j hj
 exact ⟨z,z1,z2,h i (by omega) (by omega) j hj _ _ _ _ _ _ z3⟩
theorem aZ.nil {sz:Nat} {n:Int} {f:Int→Nat→D} (hn:0=n):aZ .cO (.sl sz n false f):=by
 subst hn
 intro h' I β objs ctr y hy
 cases hy
 exact ⟨none,0,0,rfl,rfl,Nat.le_refl _,(fun h=>by cases h),fun h=>by omega⟩
theorem aZ.agg {k:Nat} {c c':Nat→D} (h : ∀ j,j < k→aZ (c j) (c' j)):aZ (.agg k c) (.agg k c'):=by
 rintro h' I β objs ctr y ⟨ys,rfl,x1,x2⟩
 refine ⟨ys,rfl,x1,fun j hj=>?_⟩
 obtain ⟨z,z1,z2,z3⟩:=x2 j hj
 exact ⟨z,z1,z2,h j hj _ _ _ _ _ _ z3⟩
theorem aZ.fn {f:Fn} {k:Nat} {c c':Nat→D} (h : ∀ j,j < k→aZ (c j) (c' j)):aZ (.fn f k c) (.fn f k c'):=by
 rintro hh I β objs ctr y ⟨ys,rfl,hs,hx⟩
 refine ⟨ys,rfl,hs,fun j hj=>?_⟩
 obtain ⟨z,z1,z2⟩:=hx j hj
 exact ⟨z,z1,h j hj _ _ _ _ _ _ z2⟩
theorem aZ.gY {sz:Nat} {n:Int} {f f':Int→Nat→D} {i:Int} {j:Nat} (h : ∀ (q:Int) (k:Nat),k < sz→aZ (f q k) (f' q k)):aZ (.gY sz n f i j) (.gY sz n f' i j):=by
 rintro h' I β objs ctr y ⟨h0,h1,b,o,c,e,fr,hy,hI,hb,hx⟩
 refine ⟨h0,h1,b,o,c,e,fr,hy,hI,hb,fun q hq k hk=>?_⟩
 obtain ⟨z,z1,z2,z3⟩:=hx q hq k hk
 exact ⟨z,z1,z2,h _ k hk _ _ _ _ _ _ z3⟩
theorem aZ.win {sz sz':Nat} {f f':Int→Nat→D} {j:Nat} (hs:j+sz'≤sz) (h : ∀ k,k < sz'→aZ (f 0 (j+k)) (f' 0 k)):aZ (.gY sz 1 f 0 j) (.gY sz' 1 f' 0 0):=by
 rintro h' I β objs ctr y ⟨h0,h1,b,o,c,e,fr,hy,hI,hb,hx⟩
 refine ⟨h0,h1,b,o+j,c,e,fr,by rw [hy];simp,hI,hb,fun q hq k hk=>?_⟩
 have hq0:q=0:=by omega
 subst hq0
 obtain ⟨z,z1,z2,z3⟩:=hx 0 (by omega) (j+k) (by omega)
 exact ⟨z,by rw [← z1];congr 1;omega,z2,h k hk _ _ _ _ _ _ z3⟩
open Classical in
noncomputable def lI {α:Type} (n:Int) (a b:Option α):Option α:=if n=0 then (if a=b then b else none) else b
theorem alb {α:Type} {n:Int} {a b:Option α} {r:α} (h:lI n a b=some r) (hn:n=0):a=some r:=by
 unfold lI at h
 rw [if_pos hn] at h
 split at h
 · rename_i hab;rw [hab];exact h
 · cases h
theorem alc {α:Type} {n:Int} {a b:Option α} {r:α} (h:lI n a b=some r):b=some r:=by
 unfold lI at h
 split at h
 · split at h
   · exact h
   · cases h
 · exact h
theorem Tr.ala {tt:TT} (hT:gH P tt) {t:TypeId} {ti:TI} {e:TypeId} (ht:d9 tt t=some ti) (hk:ti.kind = .slice e) {id:Nat} {oa od:Oper} {x a d:Nat} {yt:TypeId} {Q:Exit→St→Prop} {st:St} {sz:Nat} {n:Int} {tight:Bool} {f:Int→Nat→D}
  (ha:oa.op = .move (.tmp x)∧oa.dst=some a∧oa.guard=none) (hd:od.op = .binOp .eql t (.tmp a) (.const (.slice none 0 0)) yt∧od.dst=some d∧od.guard=none)
  (hs:st.slots.getD x .junk = .sl sz n tight f) (hal:a < st.slots.length)
  (h1:n=0→Q .normal ⟨(st.slots.set a .junk).set d (.v (.bool true)),st.objs,st.ctr⟩)
  (h2:Q .normal ⟨(st.slots.set a .junk).set d (.v (.bool false)),st.objs,st.ctr⟩):Tr P (.region id #[oa,od] false) Q st:=by
 intro B0 h0 I0 L a0 w K R hK
 refine wp_region ?_
 show wpOps P #[oa,od] K [0,1] a0 w
 rw [wpOps_cons]
 obtain ⟨oad,arq,oat,oap,oaa,oag⟩:=oa
 obtain ⟨odd,ars,odt,odp,oda,odg⟩:=od
 obtain ⟨rfl,rfl,rfl⟩:=ha
 obtain ⟨rfl,rfl,rfl⟩:=hd
 refine wF (tt:=tt) (bO:=⟨fun _=>0,fun _ _ _ _=>none,fun _=>false⟩) (m:=0) hT (i:=0) rfl R (st':=⟨st.slots.set a (st.slots.getD x .junk),st.objs,st.ctr⟩) (os:=[]) rfl (fun q hq=>by cases hq) fun a1 w1 R1=>?_
 rw [wpOps_cons]
 obtain ⟨I,β,R1⟩:=R1
 have hsl:(st.slots.set a (st.slots.getD x .junk))[a]? = some (.sl sz n tight f):=by rw [List.getElem?_set_self hal,hs]
 obtain ⟨y,y1,ad,len,cap,rfl,x1,x2,x3,x4⟩:=R1.slot a _ hsl
 have hev:a1.eval (.tmp a) = .slice ad len cap:=by
  show a1.tmps.getD a undef=_
  rw [Array.getD_eq_getD_getElem?,y1];rfl
 have hu:=iq hT ht hk
 have hrun:(execOp a1.eval ⟨some d,.binOp .eql t (.tmp a) (.const (.slice none 0 0)) yt,odt,odp,oda,none⟩).run P w1 = .ok (.value (.bool ad.isNone)) w1:=by
  have adN:a1.eval (.const (.slice none 0 0)) = .slice none 0 0:=rfl
  have hg:eqGuard .eql t (.tmp a) (.const (.slice none 0 0)) (.slice ad len cap) (.slice none 0 0)=pure ():=rfl
  have hq:=run_equal_slice_nil w1 t e ad len cap hu
  simp [execOp,hev,adN,binOp,hg]
  rw [hq];rfl
 unfold wpOp
 simp only [List.getElem?_toArray,List.getElem?_cons_succ,List.getElem?_cons_zero]
 rw [if_pos (by simp [Region.wanted])]
 refine .inl (bT hrun ?_)
 have hp:Post B0 h0 I0 L I β st.objs st.ctr w1 st.objs w1 (.v (.bool ad.isNone)) (.bool ad.isNone):=R1.still rfl
 obtain ⟨I',β',R2⟩:=R1.put (some d) hp
 have R3:RS B0 h0 I0 L ⟨(st.slots.set a .junk).set d (.v (.bool ad.isNone)),st.objs,st.ctr⟩ (a1.put (some d) (.bool ad.isNone)) w1:=by
  refine ⟨I',β',R2.WI (by simp [iD]) fun s d' hs' y' hy' hd'=>?_⟩
  simp only [iD] at hd'
  by_cases hsd:d=s
  · subst hsd
    have hlt:d < st.slots.length:=by
     have:=(List.getElem?_eq_some_iff.1 hs').1
     simpa using this
    rw [List.getElem?_set_self (by simpa using hlt)] at hs'
    cases hs'
    exact hd' _ (List.getElem?_set_self (by simpa using hlt))
  · rw [List.getElem?_set_ne hsd] at hs'
    by_cases hsa:a=s
    · subst hsa
      rw [List.getElem?_set_self hal] at hs'
      cases hs';trivial
    · rw [List.getElem?_set_ne hsa] at hs'
      exact hd' _ (by rw [List.getElem?_set_ne hsd,List.getElem?_set_ne hsa];exact hs')
 cases ad with
 | none =>
  have hl0:len=0:=by
   rcases Nat.eq_zero_or_pos len with h | h
   · exact h
   · obtain ⟨_,_,_,_,_,h,_⟩:=x4 h;cases h
  exact hK _ _ _ _ (h1 (by omega)) R3
 | some q=>exact hK _ _ _ _ h2 R3
theorem Tr.label {l:Nat} {Q:Exit→St→Prop} {st:St} (h:Q .normal st):Tr P (.label l) Q st :=
 fun B0 h0 I0 L a w K R hK=>wp_label (hK _ _ _ _ h R)
def noGoto (Q:Exit→St→Prop):Exit→St→Prop
 | .goto _,_=>False
 | e,st=>Q e st
theorem Tr.scope {c:Code} {Q:Exit→St→Prop} {st:St} (h:Tr P c (noGoto Q) st):Tr P (.scope c) Q st:=by
 intro B0 h0 I0 L a w K R hK
 refine wp_scope_straight (h B0 h0 I0 L a w _ R fun ex st' a' w' q R'=>?_)
 cases ex with
 | goto l=>exact q.elim
 | _=>exact hK _ st' a' w' q R'
theorem FN {p:Pr} {q:Prop} : ∀ {os:List aU},conj p os True→q→conj p os q
 | [],_,h=>h
 | _ :: r,h,hq=>⟨h.1,FN (os:=r) h.2 hq⟩
def iR (P:Program) (st st':St):Prop:=∃ l st1 os,nY (std P) l st=some (st1,os)∧(∀ q∈os,q.run (std P))∧kW st1 st'
theorem iR.of {st st':St} (h:kW st st'):iR P st st':=⟨[],st,[],rfl,fun q hq=>(by cases hq),h⟩
theorem iR.by {st st' st1:St} {os:List aU} (l:List Gh) (he:nY (std P) l st=some (st1,os)) (hos:conj (std P) os True) (h:kW st1 st'):iR P st st':=⟨l,st1,os,he,(oL hos).1,h⟩
theorem Tr.ge {c:Code} {Q:Exit→St→Prop} {st st':St} (h:iR P st st') (ht:Tr P c Q st'):Tr P c Q st:=by
 obtain ⟨l,st1,os,h1,h2,h3⟩:=h
 exact Tr.gh l h1 h2 (Tr.le h3 ht)
def adO (P:Program) {α τ γ:Type} (inv:α→τ→St) (ok:α→τ→Prop) (o:γ) (Q:Exit→St→Prop):Fl α γ→Exit→St→Prop
 | .go y=>qE (fun st'=>∃ t',ok y t'∧iR P st' (inv y t')) (fun _ _=>False)
 | .out o'=>qE (fun _=>False) (fun ex st'=>o'=o→Q ex st')
theorem Tr.amJ {α:Type} (inv:α→St) (ok:α→Prop) (μ:α→Nat) {c:Code} {Q:Exit→St→Prop} (x0:α) (hx0:ok x0)
  (hr : ∀ x,ok x→Tr P c (qE (fun st'=>∃ x',ok x'∧μ x' < μ x∧iR P st' (inv x')) Q) (inv x)):Tr P (.loop c) Q (inv x0):=by
 intro B0 h0 I0 L a w K R hK
 classical
 let J:Act→World→Nat→Prop:=fun a w n=>∃ x,ok x∧RS B0 h0 I0 L (inv x) a w∧μ x=n
 let M:Act→World→Nat:=fun a w=>if h : ∃ n,J a w n then Classical.choose (least h) else 0
 refine wp_loop (fun a w=>∃ n,J a w n) M ⟨_,x0,hx0,R,rfl⟩ fun a w hI=>?_
 obtain ⟨x,hx,hR,hμ⟩:=(Classical.choose_spec (least hI)).1
 have hM:M a w=μ x:=by simp only [M,dif_pos hI];exact hμ.symm
 refine hr x hx B0 h0 I0 L a w _ hR fun ex st' a' w' q R'=>?_
 cases ex with
 | normal =>
  obtain ⟨x',h1,h2,l,st1,os,h3,h4,h5⟩:=q
  have R2:=(lW l R' h3 h4).le h5
  have hJ : ∃ n,J a' w' n:=⟨_,x',h1,R2,rfl⟩
  refine ⟨hJ,?_⟩
  rw [hM]
  refine Nat.lt_of_le_of_lt ?_ h2
  simp only [M,dif_pos hJ]
  exact (Classical.choose_spec (least hJ)).2 _ ⟨x',h1,R2,rfl⟩
 | _=>exact hK _ st' a' w' q R'
theorem Tr.bD {α τ γ:Type} {body:α→Option (Fl α γ)} (inv:α→τ→St) (ok:α→τ→Prop) {c:Code} {Q:Exit→St→Prop} {st:St} {x0:α} {o:γ} (t0:τ) (h:bD body x0=some o) (h0:ok x0 t0) (hle:iR P st (inv x0 t0))
  (step : ∀ x t f,ok x t→body x=some f→Tr P c (adO P inv ok o Q f) (inv x t)):Tr P (.loop c) Q st:=by
 obtain ⟨n,hn⟩:=Ji.1 h
 refine Tr.ge hle ?_
 refine Tr.amJ (α:=Nat × α × τ) (fun x=>inv x.2.1 x.2.2) (fun x=>ok x.2.1 x.2.2∧pW body x.1 x.2.1=some o) (fun x=>x.1) (n,x0,t0) ⟨h0,hn⟩ ?_
 rintro ⟨m,x,t⟩ ⟨ht,hm⟩
 cases m with
 | zero=>cases hm
 | succ m =>
  simp only [pW] at hm
  split at hm
  · cases hm
  · rename_i y hy
    refine (step x t _ ht hy).mono fun ex st' q=>?_
    cases ex with
    | normal =>
     obtain ⟨t',h1,h2⟩:=q
     exact ⟨(m,y,t'),⟨h1,hm⟩,Nat.lt_succ_self m,h2⟩
    | _=>exact q.elim
  · rename_i r hr
    refine (step x t _ ht hr).mono fun ex st' q=>?_
    cases hm
    cases ex with
    | normal=>exact q.elim
    | _=>exact q rfl
structure Hid where
 c:Nat
 g:Nat→Nat
 t:Nat→Bool
def Hid.ok (h:Hid):Prop:=0 < h.c∧∀ k,h.g k < h.c
def xD:List (Nat × Nat)→Nat→Nat
 | [],_=>0
 | (k,x) :: r,t=>if Nat.beq k t then x else xD r t
def A8:List (Nat × Bool)→Nat→Bool
 | [],_=>false
 | (k,x) :: r,t=>if Nat.beq k t then x else A8 r t
def adv:List (Nat × Nat)→Nat→Prop
 | [],_=>True
 | (_,x) :: r,c=>x < c∧adv r c
theorem Hid.oI {c:Nat} {l:List (Nat × Nat)} {t:Nat→Bool} (hc:0 < c) (h:adv l c):Hid.ok ⟨c,xD l,t⟩:=by
 refine ⟨hc,fun k=>?_⟩
 induction l with
 | nil=>exact hc
 | cons x r ih =>
  obtain ⟨h1,h2⟩:=h
  simp only [xD]
  split
  · exact h1
  · exact ih h2
theorem Tr.KQ {α γ:Type} {A:Option (Fl α γ)} {k:α→Option γ} {r:γ} (h:aM A k=some r) {a b:Code} {Q:Exit→St→Prop} {st:St} (M:α→Hid→St) (ok:α→Hid→Prop)
  (hB : ∀ x t,ok x t→k x=some r→Tr P b Q (M x t)) (hA : ∀ f,A=some f→Tr P a (adO P M ok r Q f) st):Tr P (.seq a b) Q st:=by
 obtain ⟨f,hf,hk⟩:=zI h
 refine Tr.seq ((hA f hf).mono fun ex st' q=>?_)
 cases f with
 | go x =>
  cases ex with
  | normal =>
   obtain ⟨t,h1,h2⟩:=q
   exact Tr.ge h2 (hB x t h1 hk)
  | _=>exact q.elim
 | out r' =>
  cases hk
  cases ex with
  | normal=>exact q.elim
  | _=>exact q rfl
theorem Tr.chunk {cx:Cx} (hT:gH P cx.tt) (hP:P.follows .mixedOrders=true) {c:Code} {Q:Exit→St→Prop} {st:St} (h : ∀ N,N=Q→wp (std P) cx c N st):Tr P c Q st:=Nh hT hP _ _ _ (h Q rfl)
def xB:Nat→List (Nat × D)→Nat→List D
 | 0,_,_=>[]
 | n+1,ks,i=>(match ks with
  | []=>.junk :: xB n [] (i+1)
  | (k,d) :: r=>if Nat.beq k i then d :: xB n r (i+1) else .junk :: xB n ks (i+1))
def xC:Nat→List (Nat × Ob)→Nat→List (Option Ob)
 | 0,_,_=>[]
 | n+1,ks,i=>(match ks with
  | []=>none :: xC n [] (i+1)
  | (k,d) :: r=>if Nat.beq k i then some d :: xC n r (i+1) else none :: xC n ks (i+1))
theorem oZ.DX : ∀ {l l':List D},l'.length=l.length→(∀ (t:Nat) (d d':D),l[t]? = some d→l'[t]? = some d'→aZ d d')→oZ l l'
 | [],[],_,_=>trivial
 | [],_ :: _,h,_=>by simp at h
 | _ :: _,[],h,_=>by simp at h
 | _ :: _,_ :: _,h,hg=>⟨hg 0 _ _ rfl rfl,oZ.DX (by simpa using h) fun t d d' h1 h2=>hg (t+1) d d' (by simpa using h1) (by simpa using h2)⟩
theorem ru.DX : ∀ {l l':List (Option Ob)},l'.length=l.length→(∀ (t:Nat) (o':Ob),l'[t]? = some (some o')→∃ o,l[t]? = some (some o)∧dN o o')→ru l l'
 | [],[],_,_=>trivial
 | [],_ :: _,h,_=>by simp at h
 | _ :: _,[],h,_=>by simp at h
 | x :: r,none :: r',h,hg=>by
  have:=ru.DX (l:=r) (l':=r') (by simpa using h) fun t o' h2=>by simpa using hg (t+1) o' (by simpa using h2)
  cases x<;>exact this
 | x :: r,some o' :: r',h,hg=>by
  have:=ru.DX (l:=r) (l':=r') (by simpa using h) fun t o' h2=>by simpa using hg (t+1) o' (by simpa using h2)
  obtain ⟨o,h1,h2⟩:=hg 0 o' rfl
  simp only [List.getElem?_cons_zero,Option.some.injEq] at h1
  subst h1
  exact ⟨h2,this⟩
theorem R7 : ∀ {n:Nat} {ks:List (Nat × D)} {i t:Nat} {d:D},(xB n ks i)[t]? = some d→d = .junk∨(i+t,d)∈ks
 | 0,_,_,_,_,h=>by simp [xB] at h
 | n+1,[],i,0,d,h=>by simp [xB] at h;exact .inl h.symm
 | n+1,[],i,t+1,d,h=>by
  simp only [xB,List.getElem?_cons_succ] at h
  rcases R7 h with h | h
  · exact .inl h
  · cases h
 | n+1,(k,e) :: r,i,t,d,h=>by
  simp only [xB] at h
  split at h
  · rename_i hk
    have hk:=Nat.eq_of_beq_eq_true hk;subst hk
    cases t with
    | zero=>simp only [List.getElem?_cons_zero,Option.some.injEq] at h;subst h;exact .inr (List.mem_cons_self ..)
    | succ t =>
     simp only [List.getElem?_cons_succ] at h
     rcases R7 h with h | h
     · exact .inl h
     · refine .inr (List.mem_cons_of_mem _ ?_)
       have e:k+(t+1)=k+1+t:=by omega
       rw [e];exact h
  · cases t with
    | zero=>simp only [List.getElem?_cons_zero,Option.some.injEq] at h;exact .inl h.symm
    | succ t =>
     simp only [List.getElem?_cons_succ] at h
     rcases R7 h with h | h
     · exact .inl h
     · refine .inr ?_
       have e:i+(t+1)=i+1+t:=by omega
       rw [e];exact h
theorem Ni : ∀ {n:Nat} {ks:List (Nat × D)} {i:Nat},(xB n ks i).length=n
 | 0,_,_=>rfl
 | n+1,[],i=>by simp only [xB,List.length_cons,Ni]
 | n+1,(k,e) :: r,i=>by simp only [xB];split<;>simp only [List.length_cons,Ni]
theorem R8 : ∀ {n:Nat} {ks:List (Nat × Ob)} {i t:Nat} {d:Ob},(xC n ks i)[t]? = some (some d)→(i+t,d)∈ks
 | 0,_,_,_,_,h=>by simp [xC] at h
 | n+1,[],i,0,d,h=>by simp [xC] at h
 | n+1,[],i,t+1,d,h=>by
  simp only [xC,List.getElem?_cons_succ] at h
  cases R8 h
 | n+1,(k,e) :: r,i,t,d,h=>by
  simp only [xC] at h
  split at h
  · rename_i hk
    have hk:=Nat.eq_of_beq_eq_true hk;subst hk
    cases t with
    | zero=>simp only [List.getElem?_cons_zero,Option.some.injEq] at h;subst h;exact List.mem_cons_self ..
    | succ t =>
     simp only [List.getElem?_cons_succ] at h
     refine List.mem_cons_of_mem _ ?_
     have e:k+(t+1)=k+1+t:=by omega
     rw [e];exact R8 h
  · cases t with
    | zero=>simp at h
    | succ t =>
     simp only [List.getElem?_cons_succ] at h
     have e:i+(t+1)=i+1+t:=by omega
     rw [e];exact R8 h
theorem Nj : ∀ {n:Nat} {ks:List (Nat × Ob)} {i:Nat},(xC n ks i).length=n
 | 0,_,_=>rfl
 | n+1,[],i=>by simp only [xC,List.length_cons,Nj]
 | n+1,(k,e) :: r,i=>by simp only [xC];split<;>simp only [List.length_cons,Nj]
def UH (l:List D):List (Nat × D)→Prop
 | []=>True
 | (k,d') :: r=>(∃ d,l[k]? = some d∧aZ d d')∧UH l r
def UJ (l:List (Option Ob)):List (Nat × Ob)→Prop
 | []=>True
 | (k,o') :: r=>(∃ o,l[k]? = some (some o)∧dN o o')∧UJ l r
theorem UH.get {l:List D} : ∀ {ks:List (Nat × D)},UH l ks→∀ k d',(k,d')∈ks→∃ d,l[k]? = some d∧aZ d d'
 | [],_,_,_,h=>by cases h
 | _ :: _,h,k,d',hm=>by
  rcases List.mem_cons.1 hm with e | hm
  · cases e;exact h.1
  · exact UH.get h.2 k d' hm
theorem UJ.get {l:List (Option Ob)} : ∀ {ks:List (Nat × Ob)},UJ l ks→∀ k d',(k,d')∈ks→∃ d,l[k]? = some (some d)∧dN d d'
 | [],_,_,_,h=>by cases h
 | _ :: _,h,k,d',hm=>by
  rcases List.mem_cons.1 hm with e | hm
  · cases e;exact h.1
  · exact UJ.get h.2 k d' hm
theorem kW.frame {st:St} {c n m:Nat} {ks:List (Nat × D)} {os:List (Nat × Ob)} (hc:st.ctr < c) (hn:st.slots.length=n) (hm:st.objs.length=m) (hs:UH st.slots ks) (ho:UJ st.objs os) :
  kW st ⟨xB n ks 0,xC m os 0,c⟩:=by
 refine ⟨hc,oZ.DX (Ni.trans hn.symm) fun t d d' h1 h2=>?_,ru.DX (Nj.trans hm.symm) fun t o' h2=>?_⟩
 · rcases R7 h2 with rfl | h2
   · exact aZ.junk _
   · obtain ⟨e,h3,h4⟩:=hs.get _ _ h2
     rw [Nat.zero_add] at h3
     rw [h3] at h1;cases h1;exact h4
 · have:=ho.get _ _ (R8 h2)
   rwa [Nat.zero_add] at this
theorem aZ.kX {a b c j:Nat} {i i':Int} (hi:i=i'):aZ (.kX a b c i j) (.kX a b c i' j):=by subst hi;exact aZ.refl _
def D9 (v:D) (b:Int→Bool) (F:Int→Nat→D):Int→Nat→D:=fun i j=>match j with
 | 0=>.cnd (b i) v (F i 0)
 | j+1=>F i (j+1)
theorem aZ.vec {a b c:Nat} {o o' n n':Int} (ho:o=o') (hn:n=n'):aZ (.vec a b c o n) (.vec a b c o' n'):=by subst ho;subst hn;exact aZ.refl _
theorem dN.box {g:Nat} {cs cs':List D} (h:oZ cs cs'):dN (.box g cs) (.box g cs'):=by
 refine ⟨rfl,fun h' I β objs ctr k hr=>?_⟩
 obtain ⟨hg,b,o,s,c,e,h1,h2,h3,h4,h5,h6⟩:=hr
 obtain ⟨hl,hd⟩:=oZ.get h
 refine ⟨hg,b,o,s,c,e,h1,h2,by rw [hl];exact h3,h4,by rw [hl];exact h5,fun j d' hj=>?_⟩
 have hlt:j < cs.length:=by rw [← hl];exact (List.getElem?_eq_some_iff.1 hj).1
 obtain ⟨z,z1,z2,z3⟩:=h6 j _ (List.getElem?_eq_getElem hlt)
 exact ⟨z,z1,z2,hd j _ d' (List.getElem?_eq_getElem hlt) hj _ _ _ _ _ _ z3⟩
def ac4 {α:Type} (d:α) (o:Option α):α:=match o with
 | some v=>v
 | none=>d
theorem QH {β γ:Type} {d v:β} {o:Option β} {k:β→Option γ} {r:γ} (hv:ac4 d o=v) (h:av o k=some r):o=some v∧k v=some r:=by
 cases o with
 | none=>cases h
 | some b=>cases hv;exact ⟨rfl,h⟩
def Ae:List (Nat × List Gh)→Nat→List Gh
 | [],_=>[]
 | (k,x) :: r,t=>if Nat.beq k t then x else Ae r t
def tO:List (Nat × Ik)→Nat→Option Ik
 | [],_=>none
 | (k,x) :: r,t=>if Nat.beq k t then some x else tO r t
theorem aeV {β:Type} {c:Bool} {o:Option β} {d v:β} (h:(if c=true then o else some d)=some v) (hc:c=true):o=some v:=by rwa [if_pos hc] at h
theorem aZ.slE {sz:Nat} {n n':Int} {t:Bool} {f f':Int→Nat→D} (hn:n=n') (h : ∀ i:Int,0≤i→i < n→∀ j:Nat,j < sz→f i j=f' i j):aZ (.sl sz n t f) (.sl sz n' false f') :=
 aZ.sl hn fun i i0 i1 j hj=>aZ.of (h i i0 i1 j hj)
theorem dN.ML {g sz:Nat} {n n':Int} {t:Bool} {f f':Int→Nat→D} (hn:n=n') (h : ∀ i:Int,0≤i→i < n→∀ j:Nat,j < sz→f i j=f' i j):dN (.arr g sz n t f) (.arr g sz n' t f') :=
 dN.arr' hn fun i i0 i1 j hj=>aZ.of (h i i0 i1 j hj)
theorem ak (k:IntKind) (x:Int):bG (std P) (.v (.int k x)) (.v (.int k x)):=by
 simp only [bG,if_pos];rfl
theorem aP (x:Bool):bG (std P) (.v (.bool x)) (.v (.bool x)):=by
 simp only [bG];rfl
theorem jv (x:ByteArray):bG (std P) (.v (.string x)) (.v (.string x)):=by
 simp only [bG];rfl
theorem TL {n:Int} {sz:Nat} {f g:Int→Nat→D} (H : ∀ (i:Int) (j:Nat),bG (std P) (g i j) (g i j)) (h : ∀ i:Int,0≤i→i < n→∀ j:Nat,j < sz→f i j=g i j) :
  (std P).all2 n sz (fun i j=>bG (std P) (f i j) (g i j)):=by
 intro i i0 i1 j hj
 rw [h i i0 i1 j hj];exact H i j
theorem ahC {off n n':Int} (h0:0≤off) (h1:0≤n') (h2:off+n'≤n):(std P).cut off ((std P).add off n') n:=⟨h0,show off≤off+n' by omega,h2⟩
theorem aL {sz:Nat} {n:Int} {f:Int→Nat→D} (H : ∀ (i:Int) (j:Nat),bG (std P) (f i j) (f i j)):bG (std P) (.sl sz n false f) (.sl sz n false f):=by
 simp only [bG,Nat.beq_refl,if_pos]
 exact ⟨rfl,fun h=>(by cases h),fun i _ _ j _=>H i j⟩
def Bh {α:Type} (sz:Nat) (E:α→Nat→D) (d:α) (out:List (List α)) (i:Int):D:=.sl sz (ah (au [] out i)) false (fun i' j'=>E (au d (au [] out i) i') j')
theorem UA {α:Type} {sz:Nat} {E:α→Nat→D} {d:α} {out out':List (List α)} {i i2:Int} (HE : ∀ x j,bG (std P) (E x j) (E x j)) (h:au [] out' i2=au [] out i):bG (std P) (Bh sz E d out i) (Bh sz E d out' i2):=by
 simp only [Bh,bG,Nat.beq_refl,if_true,h]
 exact ⟨rfl,(fun h=>by cases h),fun i _ _ j _=>HE _ _⟩
theorem ahb {α:Type} (E:α→Nat→D) (d:α) (out:List (List α)) (src g2 sz:Nat) (N k:Int) (HE : ∀ x j,bG (std P) (E x j) (E x j)) :
  (std P).all2 N 1 (fun i _=>oV (std P) src g2 sz (fun i' j'=>E (au d (au [] out k) i') j') none (.cnd ((std P).eq i k) (.vec src g2 sz 0 (ah (au [] out k))) (Bh sz E d out i)) (Bh sz E d out i)):=by
 intro i i0 i1 j hj
 refine ⟨fun hb=>?_,fun _=>UA HE rfl⟩
 have hb:i=k:=by have hb:(i == k)=true:=hb;simpa using hb
 subst hb
 simp only [oV,Bh,Ea,Nat.beq_refl,Bool.and_self,if_true]
 refine ⟨rfl,rfl,rfl,fun i' _ _ j' _=>?_⟩
 have e:(std P).add 0 i'=i':=Int.zero_add i'
 show bG (std P) (E (au d (au [] out i) ((std P).add 0 i')) j') (E (au d (au [] out i) i') j')
 rw [e];exact HE _ _
theorem acg {src g2 sz dst c:Nat} {f2:Int→Nat→D} {n n' i k':Int} {F:D} (hn:n=n') (hk:i=k') :
  Ea (std P) src g2 sz f2 (some (dst,c)) (.vec src g2 sz 0 n) (.cnd ((std P).eq i k') (.vec dst c sz 0 n') F):=by
 refine ⟨fun _=>?_,fun h=>?_⟩
 · simp only [Ea,Nat.beq_refl,Bool.and_self,if_true]
   exact ⟨rfl,rfl,rfl,hn⟩
 · have h:(!(i == k'))=true:=h
   simp [hk] at h
theorem amB {α:Type} {E:α→Nat→D} {d:α} {out out':List (List α)} {src g2 sz dst c:Nat} {N idx k k' n n':Int} {f2:Int→Nat→D} {X:D} (HE : ∀ x j,bG (std P) (E x j) (E x j)) (h1:idx=k) (h2:k'=k) (hn:n=n') (hs : ∀ i,0≤i→i < N→i≠k→au [] out' i=au [] out i) :
  (std P).all2 N 1 (fun i j=>oV (std P) src g2 sz f2 (some (dst,c)) (BJ (std P) idx 0 [.vec src g2 sz 0 n] (fun i _=>.cnd ((std P).eq i k) X (Bh sz E d out i)) i j) (.cnd ((std P).eq i k') (.vec dst c sz 0 n') (Bh sz E d out' i))):=by
 intro i i0 i1 j hj
 obtain rfl:j=0:=by omega
 subst h1;subst h2
 have e:BJ (std P) k' 0 [.vec src g2 sz 0 n] (fun i _=>.cnd ((std P).eq i k') X (Bh sz E d out i)) i 0 = .cnd ((std P).eq i k') (.vec src g2 sz 0 n) (.cnd ((std P).eq i k') X (Bh sz E d out i)):=rfl
 rw [e]
 refine ⟨fun hb=>?_,fun hb=>⟨fun hb'=>?_,fun _=>?_⟩⟩
 · have hb:(i == k')=true:=hb
   exact acg hn (by simpa using hb)
 · have hb:(!(i == k'))=true:=hb
   have hb':(i == k')=true:=hb'
   rw [hb'] at hb;cases hb
 · have hb:(!(i == k'))=true:=hb
   have hne:i≠k':=by simpa using hb
   refine ⟨fun hb'=>?_,fun _=>UA HE (hs i i0 i1 hne)⟩
   have hb':(i == k')=true:=hb'
   rw [hb'] at hb;cases hb
theorem amA {α:Type} {E:α→Nat→D} {d:α} {out':List (List α)} {src g2 sz dst c:Nat} {N n0 k' n n':Int} {f2:Int→Nat→D} {F h:Int→Nat→D} (hN:N=n0+1) (h2:k'=n0) (hn:n=n') (hh : ∀ i,h i 0 = .vec src g2 sz 0 n) (hc : ∀ i x,oV (std P) src g2 sz f2 (some (dst,c)) (F i 0) x=Ea (std P) src g2 sz f2 (some (dst,c)) (F i 0) x) (hd : ∀ i b,jM (std P) b (F i 0) (.vec src g2 sz 0 n) = .cnd b (F i 0) (.vec src g2 sz 0 n)) (hs : ∀ i,0≤i→i < n0→bG (std P) (F i 0) (Bh sz E d out' i)) (ht : ∀ i,Ea (std P) src g2 sz f2 (some (dst,c)) (F i 0) (Bh sz E d out' i)=bG (std P) (F i 0) (Bh sz E d out' i)) :
  (std P).all2 N 1 (fun i j=>oV (std P) src g2 sz f2 (some (dst,c)) (sZ (std P) n0 F h i j) (.cnd ((std P).eq i k') (.vec dst c sz 0 n') (Bh sz E d out' i))):=by
 intro i i0 i1 j hj
 obtain rfl:j=0:=by omega
 subst h2
 have e:sZ (std P) k' F h i 0 = .cnd ((std P).lt i k') (F i 0) (.vec src g2 sz 0 n):=by
  simp only [sZ,hh];exact hd _ _
 rw [e]
 refine ⟨fun hb=>?_,fun hb=>?_⟩
 · have hb:decide (i < k')=true:=hb
   have hb:i < k':=by simpa using hb
   rw [hc]
   refine ⟨fun hb'=>?_,fun _=>by rw [ht];exact hs i i0 hb⟩
   have hb':(i == k')=true:=hb'
   simp at hb';omega
 · have hb:(!decide (i < k'))=true:=hb
   have hb:k'≤i:=by simpa using hb
   exact acg hn (by omega)
theorem Lp {tt:TT} {rs:List ResultVar} {res:D} {st:St} {ds:List D} {os:List aU} (h:pO (std P) tt st.objs st.slots rs=some (ds,os)) (hos:conj (std P) os True) (ho:outT (std P) st.objs ds res):Oz (std P) tt rs res .ret st:=by
 simp only [Oz,h];exact FN hos ho
theorem aeW {tt:TT} {rs:List ResultVar} {post:List Ob} {res:D} {st:St} {ds:List D} {os:List aU} (h:pO (std P) tt st.objs st.slots rs=some (ds,os)) (hos:conj (std P) os True) (ho:HY (std P) ds res) (km:List KM) (he:CZ (std P) st.objs km post):Dj (std P) tt rs post res .ret st:=by
 simp only [Dj,h];exact FN hos ⟨ho,km,he⟩
theorem aal {tt:TT} {rs:List ResultVar} {post:List Ob} {res:D} {st:St} {ds:List D} {os:List aU} (h:pO (std P) tt st.objs st.slots rs=some (ds,os)) (hos:conj (std P) os True) (ho:HY (std P) ds res) (km:List KM) (he:CZ (std P) st.objs km post):Dj (std P) tt rs post res .normal st:=by
 simp only [Dj,h];exact FN hos ⟨ho,km,he⟩
theorem aaX {tt:TT} {rs:List ResultVar} {res:D} {st:St} {ds:List D} {os:List aU} (h:pO (std P) tt st.objs st.slots rs=some (ds,os)) (hos:conj (std P) os True) (ho:outT (std P) st.objs ds res):Oz (std P) tt rs res .normal st:=by
 simp only [Oz,h];exact FN hos ho
def Lr (p:Pr) (cx:Cx):Nat→Code→(Exit→St→Prop)→St→Prop
 | 0,c,Q,st=>p.tr c Q st
 | n+1,.seq a b,Q,st=>wp p cx a (qE (Lr p cx n b Q) Q) st
 | _,c,Q,st=>wp p cx c Q st
theorem abn {cx:Cx} (hT:gH P cx.tt) (hP:P.follows .mixedOrders=true) {Q:Exit→St→Prop} : ∀ (n:Nat) (c:Code) (st:St),Lr (std P) cx n c Q st→Tr P c Q st:=by
 intro n
 induction n with
 | zero=>intro c st h;exact h
 | succ n ih =>
  intro c st h
  cases c with
  | seq a b =>
   refine Tr.seq ((Nh hT hP _ _ _ h).mono fun ex st' q=>?_)
   cases ex with
   | normal=>exact ih _ _ q
   | _=>exact q
  | _=>exact Nh hT hP _ _ _ h
theorem Tr.pre {cx:Cx} (hT:gH P cx.tt) (hP:P.follows .mixedOrders=true) (n:Nat) {c:Code} {Q:Exit→St→Prop} {st:St} (h : ∀ N,N=Q→Lr (std P) cx n c N st):Tr P c Q st:=abn hT hP n _ _ (h Q rfl)
def Ve:Nat→Code→Code
 | 0,c=>c
 | n+1,.seq _ b=>Ve n b
 | _+1,c=>c
def Vf (p:Pr) (cx:Cx) (N:Exit→St→Prop):Nat→Code→St→Prop
 | 0,_,st=>N .normal st
 | n+1,.seq a b,st=>wp p cx a (qE (Vf p cx N n b) N) st
 | _+1,_,_=>False
theorem abm {cx:Cx} (hT:gH P cx.tt) (hP:P.follows .mixedOrders=true) {N Q:Exit→St→Prop} (hQ : ∀ ex st,ex≠.normal→N ex st→Q ex st) : ∀ (n:Nat) (c:Code) (st:St),(∀ st',N .normal st'→Tr P (Ve n c) Q st')→Vf (std P) cx N n c st→Tr P c Q st:=by
 intro n
 induction n with
 | zero=>intro c st hN h;exact hN st h
 | succ n ih =>
  intro c st hN h
  cases c with
  | seq a b =>
   refine Tr.seq ((Nh hT hP _ _ _ h).mono fun ex st' q=>?_)
   cases ex with
   | normal=>exact ih b st' hN q
   | _=>exact hQ _ _ (by intro e;cases e) q
  | _=>exact h.elim
theorem dn.arg {f:FuncId} {args args':List D} {res:D} (h:dn P f args res) (hl:oZ args' args):dn P f args' res:=by
 obtain ⟨h1,h2⟩:=oZ.get hl
 refine ⟨h.1,fun w I c vs hc hI rz hlen hargs=>h.2 w I c vs hc hI rz (hlen.trans h1.symm) fun t d ht=>?_⟩
 have hlt:t < args'.length:=by rw [← h1];exact (List.getElem?_eq_some_iff.1 ht).1
 obtain ⟨y,y1,y2⟩:=hargs t _ (List.getElem?_eq_getElem hlt)
 exact ⟨y,y1,h2 t _ d (List.getElem?_eq_getElem hlt) ht _ _ _ _ _ _ y2⟩
theorem jc.arg {f:FuncId} {args args':List D} {pre post:List Ob} {res:D} (h:jc P f args pre post res) (hl:oZ args' args):jc P f args' pre post res:=by
 obtain ⟨h1,h2⟩:=oZ.get hl
 refine ⟨h.1,fun w I c vs β hc hI rz hlen hargs=>h.2 w I c vs β hc hI rz (hlen.trans h1.symm) fun t d ht=>?_⟩
 have hlt:t < args'.length:=by rw [← h1];exact (List.getElem?_eq_some_iff.1 ht).1
 obtain ⟨y,y1,y2⟩:=hargs t _ (List.getElem?_eq_getElem hlt)
 exact ⟨y,y1,h2 t _ d (List.getElem?_eq_getElem hlt) ht _ _ _ _ _ _ y2⟩
theorem tK.arg {f:FuncId} {args args':List D} {res:D} (h:tK P f args res) (hl:oZ args' args):tK P f args' res:=by
 obtain ⟨h1,h2⟩:=oZ.get hl
 refine fun w I c vs hlen hargs=>h w I c vs (hlen.trans h1.symm) fun t d ht=>?_
 have hlt:t < args'.length:=by rw [← h1];exact (List.getElem?_eq_some_iff.1 ht).1
 obtain ⟨y,y1,y2⟩:=hargs t _ (List.getElem?_eq_getElem hlt)
 exact ⟨y,y1,h2 t _ d (List.getElem?_eq_getElem hlt) ht _ _ _ _ _ _ y2⟩
theorem dn.sl {f:FuncId} {args:List D} {sz:Nat} {n:Int} {t:Bool} {g:Int→Nat→D} (h:dn P f args (.own sz n t g)):dn P f args (.sl sz n t g):=by
 refine ⟨h.1,fun w I c vs hc hI rz hlen hargs=>(h.2 w I c vs hc hI rz hlen hargs).mono ?_⟩
 rintro e w' ⟨v,I',rfl,h1,h2,h3,h4,hwo,h5⟩
 obtain ⟨ad,len,cap,rfl,x1,x2,x3,x4⟩:=h5
 rcases Nat.eq_zero_or_pos cap with hc0 | hc0
 · exact ⟨_,I',rfl,h1,h2,h3,h4,hwo,ad,len,cap,rfl,x1,x2,x3,fun h=>by omega⟩
 · obtain ⟨b,o,c,e,rfl,y1,y2,y3,y4,y5⟩:=x4 hc0
   have hb:b < w'.heap.size:=(Array.getElem?_eq_some_iff.1 y3).1
   refine ⟨_,I'.or fun k=>k=b,rfl,h1.trans (IS.vv _ _),⟨fun k hk=>?_,fun k hk=>?_⟩,h3,h4,hwo,_,len,cap,rfl,x1,x2,x3,fun hp=>⟨b,o,c,e,_,rfl,.inr rfl,y3,fun i hi j hj=>?_⟩⟩
   · rcases hk with hk | rfl
     · exact h2.1 k hk
     · exact ⟨hb,.inr y1⟩
   · rcases hk with hk | rfl
     · exact h2.2 k hk
     · exact .inr y1
   · obtain ⟨z,z1,z2,z3⟩:=y5 i hi j hj
     exact ⟨z,z1,z2,Rd.mono (Goes.QY _ _ _ (IS.vv _ _)) _ _ z3⟩
theorem dn.slA {f:FuncId} {args:List D} {q k:Nat} {c:Nat→D} {sz:Nat} {n:Int} {t:Bool} {g:Int→Nat→D} (h:dn P f args (.uq q k c sz n t g)):dn P f args (.agg k fun j=>if Nat.beq j q then .sl sz n t g else c j):=by
 refine ⟨h.1,fun w I c2 vs hc hI rz hlen hargs=>(h.2 w I c2 vs hc hI rz hlen hargs).mono ?_⟩
 rintro e w' ⟨v,I',rfl,h1,h2,h3,h4,hwo,ys,rfl,hs,hq,hcs,z,hz,ad,len,cap,rfl,x1,x2,x3,x4⟩
 have hne : ∀ j,j≠q→Nat.beq j q=false:=fun j hj=>by
  cases hb:Nat.beq j q with
  | false=>rfl
  | true=>exact absurd (Nat.eq_of_beq_eq_true hb) hj
 rcases Nat.eq_zero_or_pos cap with hc0 | hc0
 · refine ⟨_,I',rfl,h1,h2,h3,h4,hwo,ys,rfl,hs,fun j hj=>?_⟩
   by_cases hjq:j=q
   · subst hjq
     refine ⟨_,hz,rfl,?_⟩
     simp only [Nat.beq_refl,if_true]
     exact ⟨ad,len,cap,rfl,x1,x2,x3,fun h=>by omega⟩
   · obtain ⟨y,y1,y2,y3⟩:=hcs j hj hjq
     exact ⟨y,y1,y2,by simp only [hne j hjq,Bool.false_eq_true,if_false];exact y3⟩
 · obtain ⟨b,o,c,e,rfl,y1,y2,y3,y4,y5⟩:=x4 hc0
   have hb:b < w'.heap.size:=(Array.getElem?_eq_some_iff.1 y3).1
   refine ⟨_,I'.or fun k=>k=b,rfl,h1.trans (IS.vv _ _),⟨fun k hk=>?_,fun k hk=>?_⟩,h3,h4,hwo,ys,rfl,hs,fun j hj=>?_⟩
   · rcases hk with hk | rfl
     · exact h2.1 k hk
     · exact ⟨hb,.inr y1⟩
   · rcases hk with hk | rfl
     · exact h2.2 k hk
     · exact .inr y1
   · by_cases hjq:j=q
     · subst hjq
       refine ⟨_,hz,rfl,?_⟩
       simp only [Nat.beq_refl,if_true]
       refine ⟨_,len,cap,rfl,x1,x2,x3,fun hp=>⟨b,o,c,e,_,rfl,.inr rfl,y3,fun i hi j hj=>?_⟩⟩
       obtain ⟨z,z1,z2,z3⟩:=y5 i hi j hj
       exact ⟨z,z1,z2,Rd.mono (Goes.QY _ _ _ (IS.vv _ _)) _ _ z3⟩
     · obtain ⟨y,y1,y2,y3⟩:=hcs j hj hjq
       exact ⟨y,y1,y2,by simp only [hne j hjq,Bool.false_eq_true,if_false];exact Rd.mono (Goes.QY _ _ _ (IS.vv _ _)) _ _ y3⟩
def mH (f:Func):Code:=match f.body with
 | some c=>c
 | none=>.skip
end
end Go.Vx
