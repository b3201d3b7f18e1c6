/- Lifted functions: what joins the plain functions that a program prints to the evaluator; conditions: none. -/
import Derived.Test.YtmkigppfdmghnaaGreatDoorVxFn
import Derived.KernelRfl
import Derived.Scope
import Derived.Laws.Cover3
set_option linter.all false
namespace Go.Vx
open Go
inductive Fl (β γ:Type) where
 | go (b:β)
 | out (r:γ)
section
variable {α β γ:Type}
def chk (c:Prop) [Decidable c] (k:Option α):Option α:=if c then k else none
def iteO (c:Bool) (x y:Option α):Option α:=match c with
 | true=>x
 | false=>y
def contO (k:β→Option γ):Fl β γ→Option γ
 | .go b=>k b
 | .out r=>some r
def cutO (o:Option (Fl β γ)) (k:β→Option γ):Option γ:=match o with
 | none=>none
 | some f=>contO k f
def bindO (o:Option β) (k:β→Option γ):Option γ:=match o with
 | none=>none
 | some b=>k b
theorem chk_some {c:Prop} [Decidable c] {k:Option α} {r:α} (h:chk c k=some r):c∧k=some r:=by
 unfold chk at h
 split at h
 · exact ⟨by assumption,h⟩
 · cases h
theorem chk_ok {c:Prop} [Decidable c] {k:Option α} (h:c):chk c k=k:=if_pos h
theorem iteO_t {c:Bool} {x y:Option α} {r:α} (h:iteO c x y=some r) (hc:c=true):x=some r:=by
 subst hc;exact h
theorem iteO_f {c:Bool} {x y:Option α} {r:α} (h:iteO c x y=some r) (hc:c=false):y=some r:=by
 subst hc;exact h
theorem cutO_some {o:Option (Fl β γ)} {k:β→Option γ} {r:γ} (h:cutO o k=some r) : ∃ f,o=some f∧contO k f=some r:=by
 cases o with
 | none=>cases h
 | some f=>exact ⟨f,rfl,h⟩
theorem bindO_some {o:Option β} {k:β→Option γ} {r:γ} (h:bindO o k=some r) : ∃ b,o=some b∧k b=some r:=by
 cases o with
 | none=>cases h
 | some f=>exact ⟨f,rfl,h⟩
def loopN (body:α→Option (Fl α γ)):Nat→α→Option γ
 | 0,_=>none
 | n+1,x=>match body x with
  | none=>none
  | some (.go y)=>loopN body n y
  | some (.out r)=>some r
theorem loopN_mono {body:α→Option (Fl α γ)} {r:γ} : ∀ {n m:Nat} {x:α},loopN body n x=some r→n≤m→loopN body m x=some r
 | 0,_,_,h,_=>by cases h
 | n+1,0,_,_,h=>by omega
 | n+1,m+1,x,h,hm=>by
  simp only [loopN] at h ⊢
  split at h
  · cases h
  · rename_i y hy;exact loopN_mono h (by omega)
  · exact h
def loopR (body:α→Option (Fl α γ)) (n:Nat):α→Option γ :=
 Nat.rec (motive:=fun _=>α→Option γ) (fun _=>none) (fun _ ih x=>match body x with
  | none=>none
  | some (.go y)=>ih y
  | some (.out r)=>some r) n
theorem loopR_eq (body:α→Option (Fl α γ)) : ∀ (n:Nat) (x:α),loopR body n x=loopN body n x
 | 0,_=>rfl
 | n+1,x=>by
  show (match body x with
   | none=>none
   | some (.go y)=>loopR body n y
   | some (.out r)=>some r)=loopN body (n+1) x
  simp only [loopN]
  cases body x with
  | none=>rfl
  | some f =>
   cases f with
   | go y=>exact loopR_eq body n _
   | out r=>rfl
open Classical in
noncomputable def loopK (body:α→Option (Fl α γ)) (x:α):Option γ:=if h : ∃ r n,loopN body n x=some r then some h.choose else none
theorem loopK_of {body:α→Option (Fl α γ)} {n:Nat} {x:α} {r:γ} (h:loopN body n x=some r):loopK body x=some r:=by
 have hx : ∃ r n,loopN body n x=some r:=⟨r,n,h⟩
 rw [loopK,dif_pos hx]
 obtain ⟨m,hm⟩:=hx.choose_spec
 have h1:=loopN_mono h (Nat.le_max_left n m)
 have h2:=loopN_mono hm (Nat.le_max_right n m)
 rw [h1] at h2
 exact h2.symm
noncomputable def loopO (body:α→Option (Fl α γ)) (x:α):Option γ:=match loopR body 3000 x with
 | some r=>some r
 | none=>loopK body x
theorem loopO_K (body:α→Option (Fl α γ)) (x:α):loopO body x=loopK body x:=by
 unfold loopO
 split
 · rename_i r h
   rw [loopR_eq] at h
   exact (loopK_of h).symm
 · rfl
attribute [irreducible] loopO
theorem loopO_of {body:α→Option (Fl α γ)} {n:Nat} {x:α} {r:γ} (h:loopN body n x=some r):loopO body x=some r:=(loopO_K body x).trans (loopK_of h)
theorem loopO_iff {body:α→Option (Fl α γ)} {x:α} {r:γ} : loopO body x=some r ↔ ∃ n,loopN body n x=some r:=by
 constructor
 · intro h
   rw [loopO_K,loopK] at h
   split at h
   · rename_i hx
     obtain ⟨m,hm⟩:=hx.choose_spec
     cases h
     exact ⟨m,hm⟩
   · cases h
 · rintro ⟨n,h⟩;exact loopO_of h
theorem loopO_eq (body:α→Option (Fl α γ)) (x:α):loopO body x=match body x with
  | none=>none
  | some (.go y)=>loopO body y
  | some (.out r)=>some r:=by
 split
 · rename_i h
   cases hl:loopO body x with
   | none=>rfl
   | some r =>
    obtain ⟨n,hn⟩:=loopO_iff.1 hl
    cases n with
    | zero=>cases hn
    | succ n=>simp [loopN,h] at hn
 · rename_i y h
   cases hl:loopO body y with
   | none =>
    cases hx:loopO body x with
    | none=>rfl
    | some r =>
     obtain ⟨n,hn⟩:=loopO_iff.1 hx
     cases n with
     | zero=>cases hn
     | succ n =>
      simp only [loopN,h] at hn
      rw [loopO_of hn] at hl;cases hl
   | some r =>
    obtain ⟨n,hn⟩:=loopO_iff.1 hl
    exact loopO_of (n:=n+1) (by simpa only [loopN,h] using hn)
 · rename_i r h
   exact loopO_of (n:=1) (by simp only [loopN,h])
theorem loopO_rule {body:α→Option (Fl α γ)} (inv:α→Prop) (μ:α→Nat) (Q:γ→Prop) {x:α} (hx:inv x)
  (step : ∀ x,inv x→(∃ y,body x=some (.go y)∧inv y∧μ y < μ x)∨∃ r,body x=some (.out r)∧Q r) : ∃ r,loopO body x=some r∧Q r:=by
 induction hn:μ x using Nat.strongRecOn generalizing x with
 | _ n ih =>
  rcases step x hx with ⟨y,h1,h2,h3⟩ | ⟨r,h1,h2⟩
  · obtain ⟨r,h4,h5⟩:=ih _ (hn ▸ h3) h2 rfl
    exact ⟨r,by rw [loopO_eq,h1];exact h4,h5⟩
  · exact ⟨r,by rw [loopO_eq,h1],h2⟩
end
section
variable {α:Type}
def getL (d:α) (xs:List α) (i:Int):α:=xs.getD i.toNat d
def lenL (xs:List α):Int:=xs.length
def setL (xs:List α) (i:Int) (v:α):List α:=xs.set i.toNat v
def subL (xs:List α) (l h:Int):List α:=(xs.drop l.toNat).take (h-l).toNat
def repL (n:Int) (v:α):List α:=List.replicate n.toNat v
def cpyL (xs:List α) (off:Int) (ys:List α) (n:Int):List α:=xs.take off.toNat++ys.take n.toNat++xs.drop (off+n).toNat
theorem lenL_nn (xs:List α):0≤lenL xs:=by simp [lenL]
@[simp] theorem lenL_nil:lenL ([]:List α)=0:=rfl
@[simp] theorem lenL_cons (x:α) (xs:List α):lenL (x :: xs)=lenL xs+1:=by simp [lenL]
@[simp] theorem lenL_set (xs:List α) (i:Int) (v:α):lenL (setL xs i v)=lenL xs:=by simp [lenL,setL]
@[simp] theorem lenL_app (xs ys:List α):lenL (xs++ys)=lenL xs+lenL ys:=by simp [lenL]
theorem lenL_rep {n:Int} (v:α) (h:0≤n):lenL (repL n v)=n:=by simp [lenL,repL];omega
theorem lenL_sub {xs:List α} {l h:Int} (h0:0≤l) (h1:l≤h) (h2:h≤lenL xs):lenL (subL xs l h)=h-l:=by
 simp [lenL,subL] at *;omega
theorem getL_set {d:α} {xs:List α} {k i:Int} {v:α} (h0:0≤k) (h1:k < lenL xs) (i0:0≤i):getL d (setL xs k v) i=if i=k then v else getL d xs i:=by
 simp only [getL,setL,List.getD_eq_getElem?_getD,List.getElem?_set]
 by_cases h:i=k
 · subst h
   simp [lenL] at h1
   rw [if_pos rfl,if_pos rfl,if_pos (by omega)];rfl
 · rw [if_neg (by omega),if_neg h]
theorem getL_put {d:α} {xs:List α} {k i:Int} {v:α} (h0:0≤k) (i0:0≤i) (i1:i < lenL xs):getL d (setL xs k v) i=if i=k then v else getL d xs i:=by
 by_cases h:i=k
 · rw [getL_set h0 (by omega) i0]
 · simp only [getL,setL,List.getD_eq_getElem?_getD,List.getElem?_set]
   rw [if_neg (by omega),if_neg h]
theorem getL_app {d:α} {xs ys:List α} {i:Int} (i0:0≤i):getL d (xs++ys) i=if i < lenL xs then getL d xs i else getL d ys (i-lenL xs):=by
 simp only [getL,lenL,List.getD_eq_getElem?_getD]
 by_cases h:i < (xs.length:Int)
 · rw [if_pos h,List.getElem?_append_left (by omega)]
 · rw [if_neg h,List.getElem?_append_right (by omega)]
   congr 2;omega
theorem getL_rep {d:α} {n i:Int} {v:α} (i0:0≤i) (h:i < n):getL d (repL n v) i=v:=by
 simp only [getL,repL,List.getD_eq_getElem?_getD,List.getElem?_replicate]
 rw [if_pos (by omega)];rfl
theorem getL_sub {d:α} {xs:List α} {l h i:Int} (h0:0≤l) (i0:0≤i) (i1:i < h-l):getL d (subL xs l h) i=getL d xs (l+i):=by
 simp only [getL,subL,List.getD_eq_getElem?_getD,List.getElem?_take,List.getElem?_drop]
 rw [if_pos (by omega)]
 congr 2;omega
@[simp] theorem getL_zero (d x:α) (xs:List α):getL d (x :: xs) 0=x:=rfl
theorem getL_one {d:α} {xs:List α} {x:α} {i:Int} (h:i=0):getL d (x :: xs) i=x:=by subst h;rfl
theorem getL_eq {d:α} {xs:List α} {i:Int} (h0:0≤i) (h1:i < lenL xs) : ∃ h:i.toNat < xs.length,getL d xs i=xs[i.toNat]:=by
 have h:i.toNat < xs.length:=by simp [lenL] at h1;omega
 exact ⟨h,by simp [getL,h]⟩
theorem lenL_cpy {xs ys:List α} {off n:Int} (h0:0≤off) (h1:0≤n) (h2:n≤lenL ys) (h3:off+n≤lenL xs):lenL (cpyL xs off ys n)=lenL xs:=by
 simp [lenL,cpyL] at *;omega
theorem getL_cpy {d:α} {xs ys:List α} {off n i:Int} (h0:0≤off) (h1:0≤n) (h2:n≤lenL ys) (h3:off+n≤lenL xs) (i0:0≤i) :
  getL d (cpyL xs off ys n) i=if off≤i∧i < off+n then getL d ys (i-off) else getL d xs i:=by
 simp only [lenL] at h2 h3
 simp only [getL,cpyL,List.getD_eq_getElem?_getD,List.append_assoc]
 rcases Int.lt_or_le i off with h | h
 · rw [if_neg (by omega),List.getElem?_append_left (by simp;omega),List.getElem?_take_of_lt (by omega)]
 · rw [List.getElem?_append_right (by simp;omega)]
   rcases Int.lt_or_le i (off+n) with h' | h'
   · rw [if_pos ⟨h,h'⟩,List.getElem?_append_left (by simp;omega),List.getElem?_take_of_lt (by simp;omega)]
     congr 2;simp;omega
   · rw [if_neg (by omega),List.getElem?_append_right (by simp;omega),List.getElem?_drop]
     congr 2;simp;omega
end
def bytesL (s:ByteArray):List Int:=s.data.toList.map fun b=>(b.toNat:Int)
theorem lenL_bytes (s:ByteArray):lenL (bytesL s)=slenS s:=by simp [lenL,bytesL,slenS]
theorem getL_bytes {s:ByteArray} {i:Int} : getL 0 (bytesL s) i=sidxS s i:=by
 simp only [getL,bytesL,sidxS,List.getD_eq_getElem?_getD,List.getElem?_map]
 cases s.data.toList[i.toNat]?<;>rfl
inductive CV where
 | int (k:IntKind) (x:Int)
 | bool (b:Bool)
def cvL:List (Nat × CV)→Nat→D
 | [],_=>.junk
 | (k,.int q x) :: r,j=>cond (Nat.beq j k) (.v (.int q x)) (cvL r j)
 | (k,.bool b) :: r,j=>cond (Nat.beq j k) (.v (.bool b)) (cvL r j)
inductive FV where
 | nil (f:Nat)
 | int (r:FV) (k:IntKind) (x:Int)
 | bool (r:FV) (b:Bool)
 | str (r:FV) (s:ByteArray)
 | fn (r:FV) (v:FV)
 | box (r:FV) (n:Nat) (l:List (Nat × CV))
def d_FV:FV:=.nil 0
instance:Inhabited FV:=⟨d_FV⟩
def FV.f:FV→Nat
 | .nil f=>f
 | .int r _ _=>r.f
 | .bool r _=>r.f
 | .str r _=>r.f
 | .fn r _=>r.f
 | .box r _ _=>r.f
def FV.k:FV→Nat
 | .nil _=>0
 | .int r _ _=>r.k+1
 | .bool r _=>r.k+1
 | .str r _=>r.k+1
 | .fn r _=>r.k+1
 | .box r _ _=>r.k+1
def FV.c:FV→Nat→D
 | .nil _,_=>.junk
 | .int r k x,j=>cond (Nat.beq j r.k) (.imm 1 1 (fun _ _=>.v (.int k x)) 0 0) (r.c j)
 | .bool r b,j=>cond (Nat.beq j r.k) (.imm 1 1 (fun _ _=>.v (.bool b)) 0 0) (r.c j)
 | .str r s,j=>cond (Nat.beq j r.k) (.imm 1 1 (fun _ _=>.v (.string s)) 0 0) (r.c j)
 | .fn r v,j=>cond (Nat.beq j r.k) (.imm 1 1 (fun _ _=>.fn (.func v.f) v.k v.c) 0 0) (r.c j)
 | .box r n l,j=>cond (Nat.beq j r.k) (.imm n 1 (fun _ j=>cvL l j) 0 0) (r.c j)
structure Nv where
 get : {α:Type}→α→List α→Int→α
 len : {α:Type}→List α→Int
 set : {α:Type}→List α→Int→α→List α
 sub : {α:Type}→List α→Int→Int→List α
 rep : {α:Type}→Int→α→List α
 app : {α:Type}→List α→List α→List α
 cpy : {α:Type}→List α→Int→List α→Int→List α
 bys:ByteArray→List Int
 fF:FV→Nat
 fK:FV→Nat
 fC:FV→Nat→D
def nvS:Nv:=⟨getL,lenL,setL,subL,repL,fun x y=>x++y,cpyL,bytesL,FV.f,FV.k,FV.c⟩
theorem nv_kn (n:Nat):nvS.fK (.nil n)=0:=rfl
theorem nv_ki (r:FV) (k:IntKind) (x:Int):nvS.fK (.int r k x)=nvS.fK r+1:=rfl
theorem nv_kb (r:FV) (b:Bool):nvS.fK (.bool r b)=nvS.fK r+1:=rfl
theorem nv_ks (r:FV) (s:ByteArray):nvS.fK (.str r s)=nvS.fK r+1:=rfl
theorem nv_kx (r:FV) (n:Nat) (l:List (Nat × CV)):nvS.fK (.box r n l)=nvS.fK r+1:=rfl
theorem nv_fx (r:FV) (n:Nat) (l:List (Nat × CV)):nvS.fF (.box r n l)=nvS.fF r:=rfl
theorem nv_cx (r:FV) (n:Nat) (l:List (Nat × CV)) (j:Nat):nvS.fC (.box r n l) j=cond (Nat.beq j (nvS.fK r)) (.imm n 1 (fun _ j=>cvL l j) 0 0) (nvS.fC r j):=rfl
theorem nv_kf (r v:FV):nvS.fK (.fn r v)=nvS.fK r+1:=rfl
theorem nv_fn (n:Nat):nvS.fF (.nil n)=n:=rfl
theorem nv_fi (r:FV) (k:IntKind) (x:Int):nvS.fF (.int r k x)=nvS.fF r:=rfl
theorem nv_fb (r:FV) (b:Bool):nvS.fF (.bool r b)=nvS.fF r:=rfl
theorem nv_fs (r:FV) (s:ByteArray):nvS.fF (.str r s)=nvS.fF r:=rfl
theorem nv_ff (r v:FV):nvS.fF (.fn r v)=nvS.fF r:=rfl
theorem nv_ci (r:FV) (k:IntKind) (x:Int) (j:Nat):nvS.fC (.int r k x) j=cond (Nat.beq j (nvS.fK r)) (.imm 1 1 (fun _ _=>.v (.int k x)) 0 0) (nvS.fC r j):=rfl
theorem nv_cb (r:FV) (b:Bool) (j:Nat):nvS.fC (.bool r b) j=cond (Nat.beq j (nvS.fK r)) (.imm 1 1 (fun _ _=>.v (.bool b)) 0 0) (nvS.fC r j):=rfl
theorem nv_cs (r:FV) (s:ByteArray) (j:Nat):nvS.fC (.str r s) j=cond (Nat.beq j (nvS.fK r)) (.imm 1 1 (fun _ _=>.v (.string s)) 0 0) (nvS.fC r j):=rfl
theorem nv_cf (r v:FV) (j:Nat):nvS.fC (.fn r v) j=cond (Nat.beq j (nvS.fK r)) (.imm 1 1 (fun _ _=>.fn (.func (nvS.fF v)) (nvS.fK v) (nvS.fC v)) 0 0) (nvS.fC r j):=rfl
def strL (l:List Int):ByteArray:=strOf (lenL l) (fun i=>getL 0 l i)
def i64r (x:Int):Prop:=-9223372036854775808≤x∧x≤9223372036854775807
instance (x:Int):Decidable (i64r x):=inferInstanceAs (Decidable (_∧_))
def growOk (bytes:Nat) (n:Int):Prop:=n≤140737488355328∧n*(bytes:Int)≤140737488355328
instance (b:Nat) (n:Int):Decidable (growOk b n):=inferInstanceAs (Decidable (_∧_))
def makeOk (bytes:Nat) (l c:Int):Prop:=0≤l∧l≤c∧c≤281474976710656∧(bytes:Int)*c≤281474976710656
instance (b:Nat) (l c:Int):Decidable (makeOk b l c):=inferInstanceAs (Decidable (_∧_∧_∧_))
def inR (k:IntKind) (x:Int):Prop:=k.min≤x∧x≤k.max
instance (k:IntKind) (x:Int):Decidable (inR k x):=inferInstanceAs (Decidable (_∧_))
section
variable {P:Program}
theorem LeD.of {d d':D} (h:d=d'):LeD d d':=h ▸ LeD.refl d
theorem LeOb.arr {g sz:Nat} {n:Int} {t:Bool} {f f':Int→Nat→D} (h : ∀ i:Int,0≤i→i < n→∀ j:Nat,j < sz→LeD (f i j) (f' i j)):LeOb (.arr g sz n t f) (.arr g sz n t f'):=by
 refine ⟨⟨rfl,rfl,rfl,rfl⟩,fun h' I β objs ctr k hr=>?_⟩
 obtain ⟨h1,h2,h3⟩:=hr
 refine ⟨h1,h2,?_⟩
 rcases h3 with h3 | ⟨b,o,s,c,e,x1,x2,x3,x4,x5,x6⟩
 · exact .inl h3
 · refine .inr ⟨b,o,s,c,e,x1,x2,x3,x4,x5,fun i hi j hj=>?_⟩
   obtain ⟨z,z1,z2,z3⟩:=x6 i hi j hj
   exact ⟨z,z1,z2,h i (by omega) hi j hj _ _ _ _ _ _ z3⟩
theorem LeOb.arr' {g sz:Nat} {n n':Int} {t:Bool} {f f':Int→Nat→D} (hn:n=n') (h : ∀ i:Int,0≤i→i < n→∀ j:Nat,j < sz→LeD (f i j) (f' i j)):LeOb (.arr g sz n t f) (.arr g sz n' t f'):=by
 subst hn;exact LeOb.arr h
theorem LeD.sl {sz:Nat} {n n':Int} {t:Bool} {f f':Int→Nat→D} (hn:n=n') (h : ∀ i:Int,0≤i→i < n→∀ j:Nat,j < sz→LeD (f i j) (f' i j)):LeD (.sl sz n t f) (.sl sz n' false f'):=by
 subst hn
 rintro h' I β objs ctr y ⟨a,len,cap,rfl,hl,hc,ht,hx⟩
 refine ⟨a,len,cap,rfl,hl,hc,(fun h=>by cases h),fun hp=>?_⟩
 obtain ⟨b,o,c,e,fr,e1,e2,e3,e4⟩:=hx hp
 refine ⟨b,o,c,e,fr,e1,e2,e3,fun i hi j hj=>?_⟩
 obtain ⟨z,z1,z2,z3⟩:=e4 i hi j hj
 exact ⟨z,z1,z2,h i (by omega) (by omega) j hj _ _ _ _ _ _ z3⟩
theorem LeD.nil {sz:Nat} {n:Int} {f:Int→Nat→D} (hn:0=n):LeD .nilsl (.sl sz n false f):=by
 subst hn
 intro h' I β objs ctr y hy
 cases hy
 exact ⟨none,0,0,rfl,rfl,Nat.le_refl _,(fun h=>by cases h),fun h=>by omega⟩
theorem LeD.agg {k:Nat} {c c':Nat→D} (h : ∀ j,j < k→LeD (c j) (c' j)):LeD (.agg k c) (.agg k c'):=by
 rintro h' I β objs ctr y ⟨ys,rfl,x1,x2⟩
 refine ⟨ys,rfl,x1,fun j hj=>?_⟩
 obtain ⟨z,z1,z2,z3⟩:=x2 j hj
 exact ⟨z,z1,z2,h j hj _ _ _ _ _ _ z3⟩
theorem LeD.fn {f:Fn} {k:Nat} {c c':Nat→D} (h : ∀ j,j < k→LeD (c j) (c' j)):LeD (.fn f k c) (.fn f k c'):=by
 rintro hh I β objs ctr y ⟨ys,rfl,hs,hx⟩
 refine ⟨ys,rfl,hs,fun j hj=>?_⟩
 obtain ⟨z,z1,z2⟩:=hx j hj
 exact ⟨z,z1,h j hj _ _ _ _ _ _ z2⟩
theorem LeD.imm {sz:Nat} {n:Int} {f f':Int→Nat→D} {i:Int} {j:Nat} (h : ∀ (q:Int) (k:Nat),k < sz→LeD (f q k) (f' q k)):LeD (.imm sz n f i j) (.imm sz n f' i j):=by
 rintro h' I β objs ctr y ⟨h0,h1,b,o,c,e,fr,hy,hI,hb,hx⟩
 refine ⟨h0,h1,b,o,c,e,fr,hy,hI,hb,fun q hq k hk=>?_⟩
 obtain ⟨z,z1,z2,z3⟩:=hx q hq k hk
 exact ⟨z,z1,z2,h _ k hk _ _ _ _ _ _ z3⟩
theorem LeD.win {sz sz':Nat} {f f':Int→Nat→D} {j:Nat} (hs:j+sz'≤sz) (h : ∀ k,k < sz'→LeD (f 0 (j+k)) (f' 0 k)):LeD (.imm sz 1 f 0 j) (.imm sz' 1 f' 0 0):=by
 rintro h' I β objs ctr y ⟨h0,h1,b,o,c,e,fr,hy,hI,hb,hx⟩
 refine ⟨h0,h1,b,o+j,c,e,fr,by rw [hy];simp,hI,hb,fun q hq k hk=>?_⟩
 have hq0:q=0:=by omega
 subst hq0
 obtain ⟨z,z1,z2,z3⟩:=hx 0 (by omega) (j+k) (by omega)
 exact ⟨z,by rw [← z1];congr 1;omega,z2,h k hk _ _ _ _ _ _ z3⟩
open Classical in
noncomputable def nilO {α:Type} (n:Int) (a b:Option α):Option α:=if n=0 then (if a=b then b else none) else b
def noGoto (Q:Exit→St→Prop):Exit→St→Prop
 | .goto _,_=>False
 | e,st=>Q e st
theorem conj_of {q:Prop} : ∀ {os:List Prop},conj os True→q→conj os q
 | [],_,h=>h
 | _ :: r,h,hq=>⟨h.1,conj_of (os:=r) h.2 hq⟩
def GeSt (P:Program) (st st':St):Prop:=∃ l st1 os,evGh (std P) l st=some (st1,os)∧(∀ q∈os,q)∧LeSt st1 st'
theorem GeSt.of {st st':St} (h:LeSt st st'):GeSt P st st':=⟨[],st,[],rfl,fun q hq=>(by cases hq),h⟩
theorem GeSt.by {st st' st1:St} {os:List Prop} (l:List Gh) (he:evGh (std P) l st=some (st1,os)) (hos:conj os True) (h:LeSt st1 st'):GeSt P st st':=⟨l,st1,os,he,(conj_spec hos).1,h⟩
theorem Tr.ge {c:Code} {Q:Exit→St→Prop} {st st':St} (h:GeSt P st st') (ht:Tr P c Q st'):Tr P c Q st:=by
 obtain ⟨l,st1,os,h1,h2,h3⟩:=h
 exact Tr.gh l h1 h2 (Tr.le h3 ht)
def stepQ (P:Program) {α τ γ:Type} (inv:α→τ→St) (ok:α→τ→Prop) (o:γ) (Q:Exit→St→Prop):Fl α γ→Exit→St→Prop
 | .go y=>thenQ (fun st'=>∃ t',ok y t'∧GeSt P st' (inv y t')) (fun _ _=>False)
 | .out o'=>thenQ (fun _=>False) (fun ex st'=>o'=o→Q ex st')
theorem Tr.loopG {α:Type} (inv:α→St) (ok:α→Prop) (μ:α→Nat) {c:Code} {Q:Exit→St→Prop} (x0:α) (hx0:ok x0)
  (hr : ∀ x,ok x→Tr P c (thenQ (fun st'=>∃ x',ok x'∧μ x' < μ x∧GeSt P st' (inv x')) Q) (inv x)):Tr P (.loop c) Q (inv x0):=by
 intro B0 h0 I0 L a w K R hK
 classical
 let J:Act→World→Nat→Prop:=fun a w n=>∃ x,ok x∧RS B0 h0 I0 L (inv x) a w∧μ x=n
 let M:Act→World→Nat:=fun a w=>if h : ∃ n,J a w n then Classical.choose (least h) else 0
 refine wp_loop (fun a w=>∃ n,J a w n) M ⟨_,x0,hx0,R,rfl⟩ fun a w hI=>?_
 obtain ⟨x,hx,hR,hμ⟩:=(Classical.choose_spec (least hI)).1
 have hM:M a w=μ x:=by simp only [M,dif_pos hI];exact hμ.symm
 refine hr x hx B0 h0 I0 L a w _ hR fun ex st' a' w' q R'=>?_
 cases ex with
 | normal =>
  obtain ⟨x',h1,h2,l,st1,os,h3,h4,h5⟩:=q
  have R2:=(evGh_sound l R' h3 h4).le h5
  have hJ : ∃ n,J a' w' n:=⟨_,x',h1,R2,rfl⟩
  refine ⟨hJ,?_⟩
  rw [hM]
  refine Nat.lt_of_le_of_lt ?_ h2
  simp only [M,dif_pos hJ]
  exact (Classical.choose_spec (least hJ)).2 _ ⟨x',h1,R2,rfl⟩
 | _=>exact hK _ st' a' w' q R'
theorem Tr.loopO {α τ γ:Type} {body:α→Option (Fl α γ)} (inv:α→τ→St) (ok:α→τ→Prop) {c:Code} {Q:Exit→St→Prop} {st:St} {x0:α} {o:γ} (t0:τ) (h:loopO body x0=some o) (h0:ok x0 t0) (hle:GeSt P st (inv x0 t0))
  (step : ∀ x t f,ok x t→body x=some f→Tr P c (stepQ P inv ok o Q f) (inv x t)):Tr P (.loop c) Q st:=by
 obtain ⟨n,hn⟩:=loopO_iff.1 h
 refine Tr.ge hle ?_
 refine Tr.loopG (α:=Nat × α × τ) (fun x=>inv x.2.1 x.2.2) (fun x=>ok x.2.1 x.2.2∧loopN body x.1 x.2.1=some o) (fun x=>x.1) (n,x0,t0) ⟨h0,hn⟩ ?_
 rintro ⟨m,x,t⟩ ⟨ht,hm⟩
 cases m with
 | zero=>cases hm
 | succ m =>
  simp only [loopN] at hm
  split at hm
  · cases hm
  · rename_i y hy
    refine (step x t _ ht hy).mono fun ex st' q=>?_
    cases ex with
    | normal =>
     obtain ⟨t',h1,h2⟩:=q
     exact ⟨(m,y,t'),⟨h1,hm⟩,Nat.lt_succ_self m,h2⟩
    | _=>exact q.elim
  · rename_i r hr
    refine (step x t _ ht hr).mono fun ex st' q=>?_
    cases hm
    cases ex with
    | normal=>exact q.elim
    | _=>exact q rfl
structure Hid where
 c:Nat
 g:Nat→Nat
 t:Nat→Bool
def Hid.ok (h:Hid):Prop:=0 < h.c∧∀ k,h.g k < h.c
def gfn:List (Nat × Nat)→Nat→Nat
 | [],_=>0
 | (k,x) :: r,t=>if Nat.beq k t then x else gfn r t
def allLt:List (Nat × Nat)→Nat→Prop
 | [],_=>True
 | (_,x) :: r,c=>x < c∧allLt r c
theorem Hid.mk_ok {c:Nat} {l:List (Nat × Nat)} {t:Nat→Bool} (hc:0 < c) (h:allLt l c):Hid.ok ⟨c,gfn l,t⟩:=by
 refine ⟨hc,fun k=>?_⟩
 induction l with
 | nil=>exact hc
 | cons x r ih =>
  obtain ⟨h1,h2⟩:=h
  simp only [gfn]
  split
  · exact h1
  · exact ih h2
theorem Tr.chunk {cx:Cx} (hT:TTok P cx.tt) (hP:P.follows .mixedOrders=true) {c:Code} {Q:Exit→St→Prop} {st:St} (h : ∀ N,N=Q→wp (std P) cx c N st):Tr P c Q st:=wp_sound hT hP _ _ _ (h Q rfl)
def frm:Nat→List (Nat × D)→Nat→List D
 | 0,_,_=>[]
 | n+1,ks,i=>(match ks with
  | []=>.junk :: frm n [] (i+1)
  | (k,d) :: r=>if Nat.beq k i then d :: frm n r (i+1) else .junk :: frm n ks (i+1))
def frO:Nat→List (Nat × Ob)→Nat→List (Option Ob)
 | 0,_,_=>[]
 | n+1,ks,i=>(match ks with
  | []=>none :: frO n [] (i+1)
  | (k,d) :: r=>if Nat.beq k i then some d :: frO n r (i+1) else none :: frO n ks (i+1))
theorem LeL.of_get : ∀ {l l':List D},l'.length=l.length→(∀ (t:Nat) (d d':D),l[t]? = some d→l'[t]? = some d'→LeD d d')→LeL l l'
 | [],[],_,_=>trivial
 | [],_ :: _,h,_=>by simp at h
 | _ :: _,[],h,_=>by simp at h
 | _ :: _,_ :: _,h,hg=>⟨hg 0 _ _ rfl rfl,LeL.of_get (by simpa using h) fun t d d' h1 h2=>hg (t+1) d d' (by simpa using h1) (by simpa using h2)⟩
theorem LeO.of_get : ∀ {l l':List (Option Ob)},l'.length=l.length→(∀ (t:Nat) (o':Ob),l'[t]? = some (some o')→∃ o,l[t]? = some (some o)∧LeOb o o')→LeO l l'
 | [],[],_,_=>trivial
 | [],_ :: _,h,_=>by simp at h
 | _ :: _,[],h,_=>by simp at h
 | x :: r,none :: r',h,hg=>by
  have:=LeO.of_get (l:=r) (l':=r') (by simpa using h) fun t o' h2=>by simpa using hg (t+1) o' (by simpa using h2)
  cases x<;>exact this
 | x :: r,some o' :: r',h,hg=>by
  have:=LeO.of_get (l:=r) (l':=r') (by simpa using h) fun t o' h2=>by simpa using hg (t+1) o' (by simpa using h2)
  obtain ⟨o,h1,h2⟩:=hg 0 o' rfl
  simp only [List.getElem?_cons_zero,Option.some.injEq] at h1
  subst h1
  exact ⟨h2,this⟩
theorem frm_get : ∀ {n:Nat} {ks:List (Nat × D)} {i t:Nat} {d:D},(frm n ks i)[t]? = some d→d = .junk∨(i+t,d)∈ks
 | 0,_,_,_,_,h=>by simp [frm] at h
 | n+1,[],i,0,d,h=>by simp [frm] at h;exact .inl h.symm
 | n+1,[],i,t+1,d,h=>by
  simp only [frm,List.getElem?_cons_succ] at h
  rcases frm_get h with h | h
  · exact .inl h
  · cases h
 | n+1,(k,e) :: r,i,t,d,h=>by
  simp only [frm] at h
  split at h
  · rename_i hk
    have hk:=Nat.eq_of_beq_eq_true hk;subst hk
    cases t with
    | zero=>simp only [List.getElem?_cons_zero,Option.some.injEq] at h;subst h;exact .inr (List.mem_cons_self ..)
    | succ t =>
     simp only [List.getElem?_cons_succ] at h
     rcases frm_get h with h | h
     · exact .inl h
     · refine .inr (List.mem_cons_of_mem _ ?_)
       have e:k+(t+1)=k+1+t:=by omega
       rw [e];exact h
  · cases t with
    | zero=>simp only [List.getElem?_cons_zero,Option.some.injEq] at h;exact .inl h.symm
    | succ t =>
     simp only [List.getElem?_cons_succ] at h
     rcases frm_get h with h | h
     · exact .inl h
     · refine .inr ?_
       have e:i+(t+1)=i+1+t:=by omega
       rw [e];exact h
theorem frm_length : ∀ {n:Nat} {ks:List (Nat × D)} {i:Nat},(frm n ks i).length=n
 | 0,_,_=>rfl
 | n+1,[],i=>by simp only [frm,List.length_cons,frm_length]
 | n+1,(k,e) :: r,i=>by simp only [frm];split<;>simp only [List.length_cons,frm_length]
theorem frO_get : ∀ {n:Nat} {ks:List (Nat × Ob)} {i t:Nat} {d:Ob},(frO n ks i)[t]? = some (some d)→(i+t,d)∈ks
 | 0,_,_,_,_,h=>by simp [frO] at h
 | n+1,[],i,0,d,h=>by simp [frO] at h
 | n+1,[],i,t+1,d,h=>by
  simp only [frO,List.getElem?_cons_succ] at h
  cases frO_get h
 | n+1,(k,e) :: r,i,t,d,h=>by
  simp only [frO] at h
  split at h
  · rename_i hk
    have hk:=Nat.eq_of_beq_eq_true hk;subst hk
    cases t with
    | zero=>simp only [List.getElem?_cons_zero,Option.some.injEq] at h;subst h;exact List.mem_cons_self ..
    | succ t =>
     simp only [List.getElem?_cons_succ] at h
     refine List.mem_cons_of_mem _ ?_
     have e:k+(t+1)=k+1+t:=by omega
     rw [e];exact frO_get h
  · cases t with
    | zero=>simp at h
    | succ t =>
     simp only [List.getElem?_cons_succ] at h
     have e:i+(t+1)=i+1+t:=by omega
     rw [e];exact frO_get h
theorem frO_length : ∀ {n:Nat} {ks:List (Nat × Ob)} {i:Nat},(frO n ks i).length=n
 | 0,_,_=>rfl
 | n+1,[],i=>by simp only [frO,List.length_cons,frO_length]
 | n+1,(k,e) :: r,i=>by simp only [frO];split<;>simp only [List.length_cons,frO_length]
def LeKs (l:List D):List (Nat × D)→Prop
 | []=>True
 | (k,d') :: r=>(∃ d,l[k]? = some d∧LeD d d')∧LeKs l r
def LeKo (l:List (Option Ob)):List (Nat × Ob)→Prop
 | []=>True
 | (k,o') :: r=>(∃ o,l[k]? = some (some o)∧LeOb o o')∧LeKo l r
theorem LeKs.get {l:List D} : ∀ {ks:List (Nat × D)},LeKs l ks→∀ k d',(k,d')∈ks→∃ d,l[k]? = some d∧LeD d d'
 | [],_,_,_,h=>by cases h
 | _ :: _,h,k,d',hm=>by
  rcases List.mem_cons.1 hm with e | hm
  · cases e;exact h.1
  · exact LeKs.get h.2 k d' hm
theorem LeKo.get {l:List (Option Ob)} : ∀ {ks:List (Nat × Ob)},LeKo l ks→∀ k d',(k,d')∈ks→∃ d,l[k]? = some (some d)∧LeOb d d'
 | [],_,_,_,h=>by cases h
 | _ :: _,h,k,d',hm=>by
  rcases List.mem_cons.1 hm with e | hm
  · cases e;exact h.1
  · exact LeKo.get h.2 k d' hm
theorem LeSt.frame {st:St} {c n m:Nat} {ks:List (Nat × D)} {os:List (Nat × Ob)} (hc:st.ctr < c) (hn:st.slots.length=n) (hm:st.objs.length=m) (hs:LeKs st.slots ks) (ho:LeKo st.objs os) :
  LeSt st ⟨frm n ks 0,frO m os 0,c⟩:=by
 refine ⟨hc,LeL.of_get (frm_length.trans hn.symm) fun t d d' h1 h2=>?_,LeO.of_get (frO_length.trans hm.symm) fun t o' h2=>?_⟩
 · rcases frm_get h2 with rfl | h2
   · exact LeD.junk _
   · obtain ⟨e,h3,h4⟩:=hs.get _ _ h2
     rw [Nat.zero_add] at h3
     rw [h3] at h1;cases h1;exact h4
 · have:=ho.get _ _ (frO_get h2)
   rwa [Nat.zero_add] at this
theorem LeD.vec {a b c:Nat} {o o' n n':Int} (ho:o=o') (hn:n=n'):LeD (.vec a b c o n) (.vec a b c o' n'):=by subst ho;subst hn;exact LeD.refl _
theorem LeOb.box {g:Nat} {cs cs':List D} (h:LeL cs cs'):LeOb (.box g cs) (.box g cs'):=by
 refine ⟨rfl,fun h' I β objs ctr k hr=>?_⟩
 obtain ⟨hg,b,o,s,c,e,h1,h2,h3,h4,h5,h6⟩:=hr
 obtain ⟨hl,hd⟩:=LeL.get h
 refine ⟨hg,b,o,s,c,e,h1,h2,by rw [hl];exact h3,h4,by rw [hl];exact h5,fun j d' hj=>?_⟩
 have hlt:j < cs.length:=by rw [← hl];exact (List.getElem?_eq_some_iff.1 hj).1
 obtain ⟨z,z1,z2,z3⟩:=h6 j _ (List.getElem?_eq_getElem hlt)
 exact ⟨z,z1,z2,hd j _ d' (List.getElem?_eq_getElem hlt) hj _ _ _ _ _ _ z3⟩
def ghL:List (Nat × List Gh)→Nat→List Gh
 | [],_=>[]
 | (k,x) :: r,t=>if Nat.beq k t then x else ghL r t
def orcL:List (Nat × CallR)→Nat→Option CallR
 | [],_=>none
 | (k,x) :: r,t=>if Nat.beq k t then some x else orcL r t
theorem guardO {β:Type} {c:Bool} {o:Option β} {d v:β} (h:(if c=true then o else some d)=some v) (hc:c=true):o=some v:=by rwa [if_pos hc] at h
theorem LeD.slE {sz:Nat} {n n':Int} {t:Bool} {f f':Int→Nat→D} (hn:n=n') (h : ∀ i:Int,0≤i→i < n→∀ j:Nat,j < sz→f i j=f' i j):LeD (.sl sz n t f) (.sl sz n' false f') :=
 LeD.sl hn fun i i0 i1 j hj=>LeD.of (h i i0 i1 j hj)
theorem LeOb.arrE {g sz:Nat} {n n':Int} {t:Bool} {f f':Int→Nat→D} (hn:n=n') (h : ∀ i:Int,0≤i→i < n→∀ j:Nat,j < sz→f i j=f' i j):LeOb (.arr g sz n t f) (.arr g sz n' t f') :=
 LeOb.arr' hn fun i i0 i1 j hj=>LeD.of (h i i0 i1 j hj)
theorem out0_int (k:IntKind) (x:Int):out0 (std P) (.v (.int k x)) (.v (.int k x)):=by
 simp only [out0,if_pos];rfl
theorem out0_bool (x:Bool):out0 (std P) (.v (.bool x)) (.v (.bool x)):=by
 simp only [out0];rfl
theorem out0_str (x:ByteArray):out0 (std P) (.v (.string x)) (.v (.string x)):=by
 simp only [out0];rfl
theorem out0_all {n:Int} {sz:Nat} {f g:Int→Nat→D} (H : ∀ (i:Int) (j:Nat),out0 (std P) (g i j) (g i j)) (h : ∀ i:Int,0≤i→i < n→∀ j:Nat,j < sz→f i j=g i j) :
  (std P).all2 n sz (fun i j=>out0 (std P) (f i j) (g i j)):=by
 intro i i0 i1 j hj
 rw [h i i0 i1 j hj];exact H i j
theorem cut_end {off n n':Int} (h0:0≤off) (h1:0≤n') (h2:off+n'≤n):(std P).cut off ((std P).add off n') n:=⟨h0,show off≤off+n' by omega,h2⟩
theorem out0_sl {sz:Nat} {n:Int} {f:Int→Nat→D} (H : ∀ (i:Int) (j:Nat),out0 (std P) (f i j) (f i j)):out0 (std P) (.sl sz n false f) (.sl sz n false f):=by
 simp only [out0,Nat.beq_refl,if_pos]
 exact ⟨rfl,fun h=>(by cases h),fun i _ _ j _=>H i j⟩
theorem retQ_ret {tt:TT} {rs:List ResultVar} {res:D} {st:St} {ds:List D} {os:List Prop} (h:resL (std P) tt st.objs st.slots rs=some (ds,os)) (hos:conj os True) (ho:outT (std P) st.objs ds res):retQ (std P) tt rs res .ret st:=by
 simp only [retQ,h];exact conj_of hos ho
theorem lentQ_ret {tt:TT} {rs:List ResultVar} {post:List Ob} {res:D} {st:St} {ds:List D} {os:List Prop} (h:resL (std P) tt st.objs st.slots rs=some (ds,os)) (hos:conj os True) (ho:outL (std P) ds res) (km:List KM) (he:lentEnd (std P) st.objs km post):lentQ (std P) tt rs post res .ret st:=by
 simp only [lentQ,h];exact conj_of hos ⟨ho,km,he⟩
theorem lentQ_normal {tt:TT} {rs:List ResultVar} {post:List Ob} {res:D} {st:St} {ds:List D} {os:List Prop} (h:resL (std P) tt st.objs st.slots rs=some (ds,os)) (hos:conj os True) (ho:outL (std P) ds res) (km:List KM) (he:lentEnd (std P) st.objs km post):lentQ (std P) tt rs post res .normal st:=by
 simp only [lentQ,h];exact conj_of hos ⟨ho,km,he⟩
theorem retQ_normal {tt:TT} {rs:List ResultVar} {res:D} {st:St} {ds:List D} {os:List Prop} (h:resL (std P) tt st.objs st.slots rs=some (ds,os)) (hos:conj os True) (ho:outT (std P) st.objs ds res):retQ (std P) tt rs res .normal st:=by
 simp only [retQ,h];exact conj_of hos ho
def wpPre (p:Pr) (cx:Cx):Nat→Code→(Exit→St→Prop)→St→Prop
 | 0,c,Q,st=>p.tr c Q st
 | n+1,.seq a b,Q,st=>wp p cx a (thenQ (wpPre p cx n b Q) Q) st
 | _,c,Q,st=>wp p cx c Q st
theorem wpPre_sound {cx:Cx} (hT:TTok P cx.tt) (hP:P.follows .mixedOrders=true) {Q:Exit→St→Prop} : ∀ (n:Nat) (c:Code) (st:St),wpPre (std P) cx n c Q st→Tr P c Q st:=by
 intro n
 induction n with
 | zero=>intro c st h;exact h
 | succ n ih =>
  intro c st h
  cases c with
  | seq a b =>
   refine Tr.seq ((wp_sound hT hP _ _ _ h).mono fun ex st' q=>?_)
   cases ex with
   | normal=>exact ih _ _ q
   | _=>exact q
  | _=>exact wp_sound hT hP _ _ _ h
theorem Tr.pre {cx:Cx} (hT:TTok P cx.tt) (hP:P.follows .mixedOrders=true) (n:Nat) {c:Code} {Q:Exit→St→Prop} {st:St} (h : ∀ N,N=Q→wpPre (std P) cx n c N st):Tr P c Q st:=wpPre_sound hT hP n _ _ (h Q rfl)
def restN:Nat→Code→Code
 | 0,c=>c
 | n+1,.seq _ b=>restN n b
 | _+1,c=>c
def wpCut (p:Pr) (cx:Cx) (N:Exit→St→Prop):Nat→Code→St→Prop
 | 0,_,st=>N .normal st
 | n+1,.seq a b,st=>wp p cx a (thenQ (wpCut p cx N n b) N) st
 | _+1,_,_=>False
theorem wpCut_sound {cx:Cx} (hT:TTok P cx.tt) (hP:P.follows .mixedOrders=true) {N Q:Exit→St→Prop} (hQ : ∀ ex st,ex≠.normal→N ex st→Q ex st) : ∀ (n:Nat) (c:Code) (st:St),(∀ st',N .normal st'→Tr P (restN n c) Q st')→wpCut (std P) cx N n c st→Tr P c Q st:=by
 intro n
 induction n with
 | zero=>intro c st hN h;exact hN st h
 | succ n ih =>
  intro c st hN h
  cases c with
  | seq a b =>
   refine Tr.seq ((wp_sound hT hP _ _ _ h).mono fun ex st' q=>?_)
   cases ex with
   | normal=>exact ih b st' hN q
   | _=>exact hQ _ _ (by intro e;cases e) q
  | _=>exact h.elim
theorem PureFn.arg {f:FuncId} {args args':List D} {res:D} (h:PureFn P f args res) (hl:LeL args' args):PureFn P f args' res:=by
 obtain ⟨h1,h2⟩:=LeL.get hl
 refine ⟨h.1,fun w I c vs hc hI hglob hlen hargs=>h.2 w I c vs hc hI hglob (hlen.trans h1.symm) fun t d ht=>?_⟩
 have hlt:t < args'.length:=by rw [← h1];exact (List.getElem?_eq_some_iff.1 ht).1
 obtain ⟨y,y1,y2⟩:=hargs t _ (List.getElem?_eq_getElem hlt)
 exact ⟨y,y1,h2 t _ d (List.getElem?_eq_getElem hlt) ht _ _ _ _ _ _ y2⟩
theorem LentFn.arg {f:FuncId} {args args':List D} {pre post:List Ob} {res:D} (h:LentFn P f args pre post res) (hl:LeL args' args):LentFn P f args' pre post res:=by
 obtain ⟨h1,h2⟩:=LeL.get hl
 refine ⟨h.1,fun w I c vs β hc hI hglob hlen hargs=>h.2 w I c vs β hc hI hglob (hlen.trans h1.symm) fun t d ht=>?_⟩
 have hlt:t < args'.length:=by rw [← h1];exact (List.getElem?_eq_some_iff.1 ht).1
 obtain ⟨y,y1,y2⟩:=hargs t _ (List.getElem?_eq_getElem hlt)
 exact ⟨y,y1,h2 t _ d (List.getElem?_eq_getElem hlt) ht _ _ _ _ _ _ y2⟩
theorem ExtFn.arg {f:FuncId} {args args':List D} {res:D} (h:ExtFn P f args res) (hl:LeL args' args):ExtFn P f args' res:=by
 obtain ⟨h1,h2⟩:=LeL.get hl
 refine fun w I c vs hlen hargs=>h w I c vs (hlen.trans h1.symm) fun t d ht=>?_
 have hlt:t < args'.length:=by rw [← h1];exact (List.getElem?_eq_some_iff.1 ht).1
 obtain ⟨y,y1,y2⟩:=hargs t _ (List.getElem?_eq_getElem hlt)
 exact ⟨y,y1,h2 t _ d (List.getElem?_eq_getElem hlt) ht _ _ _ _ _ _ y2⟩
theorem PureFn.sl {f:FuncId} {args:List D} {sz:Nat} {n:Int} {t:Bool} {g:Int→Nat→D} (h:PureFn P f args (.own sz n t g)):PureFn P f args (.sl sz n t g):=by
 refine ⟨h.1,fun w I c vs hc hI hglob hlen hargs=>(h.2 w I c vs hc hI hglob hlen hargs).mono ?_⟩
 rintro e w' ⟨v,I',rfl,h1,h2,h3,h4,hwo,h5⟩
 obtain ⟨ad,len,cap,rfl,x1,x2,x3,x4⟩:=h5
 rcases Nat.eq_zero_or_pos cap with hc0 | hc0
 · exact ⟨_,I',rfl,h1,h2,h3,h4,hwo,ad,len,cap,rfl,x1,x2,x3,fun h=>by omega⟩
 · obtain ⟨b,o,c,e,rfl,y1,y2,y3,y4,y5⟩:=x4 hc0
   have hb:b < w'.heap.size:=(Array.getElem?_eq_some_iff.1 y3).1
   refine ⟨_,I'.or fun k=>k=b,rfl,h1.trans (IS.le_or _ _),⟨fun k hk=>?_,fun k hk=>?_⟩,h3,h4,hwo,_,len,cap,rfl,x1,x2,x3,fun hp=>⟨b,o,c,e,_,rfl,.inr rfl,y3,fun i hi j hj=>?_⟩⟩
   · rcases hk with hk | rfl
     · exact h2.1 k hk
     · exact ⟨hb,.inr y1⟩
   · rcases hk with hk | rfl
     · exact h2.2 k hk
     · exact .inr y1
   · obtain ⟨z,z1,z2,z3⟩:=y5 i hi j hj
     exact ⟨z,z1,z2,Rd.mono (Goes.ice _ _ _ (IS.le_or _ _)) _ _ z3⟩
def bodyOf (f:Func):Code:=match f.body with
 | some c=>c
 | none=>.skip
end
end Go.Vx
