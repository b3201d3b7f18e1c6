/- What the evaluator's closed words mean; contracts of functions; the types' table. -/
import Derived.Test.YtckmalogclklmaaGreatDoorVxRel
import Derived.BigCall
import Derived.Laws.BytesArg
set_option linter.all false
namespace Go.Vx
def strOf (n:Int) (g:Int→Int):ByteArray:=strOfNums ((List.range n.toNat).map fun i=>g (i:Nat))
def adI (B:Nat) (h:Array Obj) (I:IS) (sz:Nat) (n:Int) (t:Bool) (g:Int→Nat→D) (v:Value):Prop:=∃ a len cap,v = .slice a len cap∧(len:Int)=n∧len≤cap∧(t=true→cap=len) ∧
 (0 < cap→∃ b o c e,a=some ⟨b,o,none⟩∧B≤b∧¬ I b∧h[b]? = some (.cells c e (0,0))∧o+cap*sz≤c.size ∧
  ∀ i:Nat,i < len→∀ j,j < sz→∃ z,c[o+i*sz+j]? = some z∧z.oneCell'=true∧Rd h I (fun _=>none) [] 0 (g i j) z)
def Jg (B:Nat) (h:Array Obj) (I:IS):D→Value→Prop
 | .own sz n t g,v=>adI B h I sz n t g v
 | .uq q k c sz n t g,v=>∃ ys:Array Value,v = .agg ys∧ys.size=k∧q < k∧(∀ j,j < k→j≠q→∃ z,ys[j]? = some z∧z.oneCell'=true∧Rd h I (fun _=>none) [] 0 (c j) z)∧∃ z,ys[q]? = some z∧adI B h I sz n t g z
 | d,v=>Rd h I (fun _=>none) [] 0 d v
def adV (P:Program) (f:FuncId):Prop:=∃ fn,P.funcs[f]? = some fn∧(fn.name == "runtime.NumGoroutine")=false∧fn.body.isNone=false
def jc (P:Program) (f:FuncId) (args:List D) (pre post:List Ob) (res:D):Prop :=
 adV P f ∧
 ∀ (w:World) (I:IS) (c:Nat) (vs:List Value) (β:Nat→Option (Nat × Nat × Array Value)),0 < c→(∀ b,I b→b < w.heap.size)→F9 w.heap I→vs.length=args.length →
  (∀ (t:Nat) (d:D),args[t]? = some d→∃ y,vs[t]? = some y∧Rd w.heap I β (pre.map some) c d y) →
  (∀ (k:Nat) (o:Ob),pre[k]? = some o→o.gen=0∧Rob w.heap I β (pre.map some) c k o)→(∀ k x,β k=some x→∃ o,pre[k]? = some o) →
  (∀ k k' x x',k≠k'→β k=some x→β k'=some x'→x.1≠x'.1) →
  Calls P f vs.toArray w fun e w'=>∃ v I' c' β',e = .returned v∧I.le I'∧((∀ b,I' b→b < w'.heap.size∧(I b∨w.heap.size≤b∨∃ k x,β k=some x∧x.1=b))∧∀ b,I'.l b→I.l b∨w.heap.size≤b∨∃ k x,β k=some x∧x.1=b) ∧
   (∀ b,b < w.heap.size→(∀ k x,β k=some x→x.1≠b)→w'.heap[b]? = w.heap[b]?)∧w.heap.size≤w'.heap.size∧iy w w' ∧
   (∀ (k:Nat) (o:Ob),post[k]? = some o→Rob w'.heap I' β' (post.map some) c' k o∧(o.gen=0→β' k=β k)) ∧
   (∀ k k' x x',k≠k'→β' k=some x→β' k'=some x'→x.1≠x'.1) ∧
   (∀ k x,β' k=some x→(∃ o,post[k]? = some o)∧((∃ k' x',β k'=some x'∧x'.1=x.1)∨w.heap.size≤x.1))∧Jg w.heap.size w'.heap I' res v
def dn (P:Program) (f:FuncId) (args:List D) (res:D):Prop :=
 adV P f ∧
 ∀ (w:World) (I:IS) (c:Nat) (vs:List Value),0 < c→(∀ b,I b→b < w.heap.size)→F9 w.heap I→vs.length=args.length →
  (∀ (t:Nat) (d:D),args[t]? = some d→∃ y,vs[t]? = some y∧Rd w.heap I (fun _=>none) [] c d y) →
  Calls P f vs.toArray w fun e w'=>∃ v I',e = .returned v∧I.le I'∧I.New w.heap.size I' w'.heap.size ∧
   (∀ b,b < w.heap.size→w'.heap[b]? = w.heap[b]?)∧w.heap.size≤w'.heap.size∧iy w w'∧Jg w.heap.size w'.heap I' res v
def Blocks (β:Nat→Option (Nat × Nat × Array Value)) (b:Nat):Prop:=∃ k x,β k=some x∧x.1=b
def xH (d:D):Prop:=∀ (h:Array Obj) (I I':IS) (y:Value),(∀ b,I.l b→I'.l b)→Rd h I (fun _=>none) [] 0 d y→Rd h I' (fun _=>none) [] 0 d y
def iH (objs:List (Option Ob)) (d d':D):Prop:=∀ (h:Array Obj) (I:IS) (β:Nat→Option (Nat × Nat × Array Value)) (ctr:Nat),(∀ (k:Nat) (o:Ob),objs[k]? = some (some o)→Rob h I β objs ctr k o) →
 ∀ y,Rd h I β objs ctr d y→Rd h (I.see (Blocks β)) (fun _=>none) [] (ctr+1) d' y
def aan (objs:List (Option Ob)):List D→List D→Prop
 | [],[]=>True
 | d :: r,d' :: r'=>iH objs d d'∧aan objs r r'
 | _,_=>False
def Lm (P:Program) (objs:List (Option Ob)) (f:FuncId) (args:List D) (d:D):Prop:=∃ args',aan objs args args'∧dn P f args' d∧xH d
def tK (P:Program) (f:FuncId) (args:List D) (res:D):Prop :=
 ∀ (w:World) (I:IS) (c:Nat) (vs:List Value),vs.length=args.length →
  (∀ (t:Nat) (d:D),args[t]? = some d→∃ y,vs[t]? = some y∧Rd w.heap I (fun _=>none) [] c d y) →
  ∃ v,(callFunc f vs.toArray).run P w = .ok (.value v) w∧Rd w.heap I (fun _=>none) [] 0 res v
def RS (B0:Nat) (h0:Array Obj) (I0:IS) (L:p9) (st:St) (a:Act) (w:World):Prop:=∃ I β,RM B0 h0 I0 L I β st.slots st.objs st.ctr a w
def Tr (P:Program) (c:Code) (Q:Exit→St→Prop) (st:St):Prop :=
 ∀ (B0:Nat) (h0:Array Obj) (I0:IS) (L:p9) (a:Act) (w:World) (Q':Exit→Act→World→Prop),RS B0 h0 I0 L st a w →
  (∀ ex st' a' w',Q ex st'→RS B0 h0 I0 L st' a' w'→Q' ex a' w')→c.wp P Q' a w
def pE:List (Nat × Nat)→Nat→Nat
 | [],_=>0
 | (k,x) :: r,t=>if Nat.beq k t then x else pE r t
def cls (eU:List (Nat × Nat)) (o:Oper):Nat :=
 match o.op with
 | .load _ _=>if o.guard.isSome then 4 else 1
 | .alloc _=>2
 | .box _ _=>2
 | .makeSlice _ _ _=>2
 | .buildSlice _ _ _=>2
 | .range _ _=>2
 | .store _ _ _=>3
 | .next _ _=>3
 | .convert u t _=>if Nat.beq u t then 3 else 0
 | .call c=>match c.callee with
  | .builtin .append=>if QL c then 2 else 3
  | .builtin .copy=>3
  | .builtin _=>0
  | .value (.func f)=>match pE eU (f+f) with
   | 0=>0
   | 1=>2
   | 4=>5
   | _=>3
  | .value (.tmp _)=>match o.dst with
   | some d=>if Nat.beq (pE eU (d+d+1)) 7 then 0 else 3
   | none=>3
  | .value _=>3
  | .invoke _ _=>3
 | _=>0
def EC (bO:sU) (own:List (Nat × Nat)) (key:Nat) (o:Oper):Prop:=∀ c,o.op = .call c→(∀ f,c.callee = .value (.func f)→pE own (f+f)=bO.I7 f)∧∀ x d,c.callee = .value (.tmp x)→o.dst=some d→Nat.beq (pE own (d+d+1)) 7=true→Nat.beq (bO.I7 (key+1024)) 7=true
def FJ (x y:Nat):Bool:=!((x == 3 && y != 0) || (y == 3 && x != 0) || (x == 4 && y == 2) || (x == 2 && y == 4) || (x == 5 && y == 2) || (x == 2 && y == 5))
def zl (o:Oper):Bool:=match o.op with
 | .store _ _ _=>true
 | _=>false
def Wj:Option Nat→Option Nat→Bool
 | some a,some b=>!Nat.beq a b
 | _,_=>false
def isApp (o:Oper):Bool:=match o.op with
 | .call c=>match c.callee with
  | .builtin .append=>!QL c
  | _=>false
 | _=>false
def Wl:Option Nat→Bool
 | some a=>!Nat.beq a 4096
 | none=>false
def UF (eU:List (Nat × Nat)) (ig:List (Option Nat)) (oi oj:Oper) (i j:Nat):Bool :=
 (cls eU oi == 1 && zl oj && Wj (ig.getD i none) (ig.getD j none)) || (zl oi && cls eU oj == 1 && Wj (ig.getD i none) (ig.getD j none)) ||
  (!ig.isEmpty && ((cls eU oi == 2 && zl oj) || (zl oi && cls eU oj == 2))) ||
  ((cls eU oi == 1 || zl oi) && Wl (ig.getD i none) && isApp oj) || (isApp oi && (cls eU oj == 1 || zl oj) && Wl (ig.getD j none))
def Dt (ops:Array Oper) (listed:Array Bool):Nat→Nat→List Nat→List Nat
 | 0,_,acc=>acc
 | n+1,j,acc=>match ops[j]? with
  | none=>acc
  | some oj=>if !listed.getD j true && oj.after.any (fun e=>Region.binds .any e && nC acc e.on) then Dt ops listed n (j+1) (j :: acc) else Dt ops listed n (j+1) acc
def KW (eU:List (Nat × Nat)) (ig:List (Option Nat)) (ops:Array Oper) (o:Oper) (k:Nat) (listed:Array Bool) (wl:List Nat):Bool :=
 (List.range ops.size).all fun j =>
  match ops[j]? with
  | none=>true
  | some oj=>j == k || listed.getD j true || oj.after.any (fun e=>Region.binds .any e && e.on == k) || FJ (cls eU o) (cls eU oj) || UF eU ig o oj k j || nC wl j
def MX (eU:List (Nat × Nat)) (ig:List (Option Nat)) (ops:Array Oper):Nat→Nat→Array Bool→Bool
 | 0,_,_=>true
 | n+1,k,listed =>
  (match ops[k]? with
   | none=>false
   | some o=>KW eU ig ops o k listed [] || KW eU ig ops o k listed (Dt ops listed n (k+1) [k])) &&
  MX eU ig ops n (k+1) (listed.setIfInBounds k true)
def F5 (ops:Array Oper) (eU:List (Nat × Nat)) (ig:List (Option Nat)):Bool:=Region.lexB .any ops && MX eU ig ops ops.size 0 (Array.replicate ops.size false)
theorem TG {eU:List (Nat × Nat)} {ig:List (Option Nat)} {ops:Array Oper} {o:Oper} {k:Nat} {listed:Array Bool} {wl:List Nat} (h:KW eU [] ops o k listed wl=true):KW eU ig ops o k listed wl=true:=by
 unfold KW at h ⊢
 rw [List.all_eq_true] at h ⊢
 intro j hj
 have h1:=h j hj
 cases hoj:ops[j]? with
 | none=>rfl
 | some oj =>
  simp only [hoj] at h1 ⊢
  have e:UF eU [] o oj k j=false:=by simp [UF,Wj,Wl]
  rw [e,Bool.or_false] at h1
  simp only [Bool.or_eq_true] at h1 ⊢
  rcases h1 with h1 | h1
  · exact .inl (.inl h1)
  · exact .inr h1
theorem WQ {eU:List (Nat × Nat)} {ig:List (Option Nat)} {ops:Array Oper} : ∀ (n k:Nat) (listed:Array Bool),MX eU [] ops n k listed=true→MX eU ig ops n k listed=true
 | 0,_,_,_=>rfl
 | n+1,k,listed,h=>by
  simp only [MX,Bool.and_eq_true] at h ⊢
  refine ⟨?_,WQ n (k+1) _ h.2⟩
  have h1:=h.1
  cases ho:ops[k]? with
  | none=>rw [ho] at h1;exact h1
  | some o =>
   simp only [ho,Bool.or_eq_true] at h1 ⊢
   rcases h1 with h1 | h1
   · exact .inl (TG h1)
   · exact .inr (TG h1)
theorem afd {ops:Array Oper} {eU:List (Nat × Nat)} {ig:List (Option Nat)} (h:F5 ops eU []=true):F5 ops eU ig=true:=by
 unfold F5 at h ⊢
 rw [Bool.and_eq_true] at h ⊢
 exact ⟨h.1,WQ _ _ _ h.2⟩
def y8 (k:IntKind) (x y:Int):Int:=k.wrap ((BitVec.ofInt k.bits x &&& BitVec.ofInt k.bits y).toNat)
def afA (k:IntKind) (x y:Int):Int:=k.wrap ((BitVec.ofInt k.bits x ||| BitVec.ofInt k.bits y).toNat)
def Y0 (k:IntKind) (x y:Int):Int:=k.wrap ((BitVec.ofInt k.bits x ^^^ BitVec.ofInt k.bits y).toNat)
def alA (k:IntKind) (x y:Int):Int:=k.wrap ((BitVec.ofInt k.bits x &&& ~~~BitVec.ofInt k.bits y).toNat)
def Zp (k:IntKind) (x y:Int):Int:=k.wrap (x*2 ^ (min y.toNat k.bits))
def aps (k:IntKind) (x y:Int):Int:=x.fdiv (2 ^ (min y.toNat k.bits))
def bH (x y:Int):Int:=if y < x then y else x
def bR (x y:Int):Int:=if x < y then y else x
def cZ (s:ByteArray):Int:=s.size
def lC (s:ByteArray) (i:Int):Int:=(s.data.toList.getD i.toNat 0).toNat
def Dl (s:ByteArray) (l h:Int):ByteArray:=⟨⟨(s.data.toList.drop l.toNat).take (h.toNat-l.toNat)⟩⟩
theorem ae2 (s:ByteArray) (l h:Int):Dl s l h=s.extract l.toNat h.toNat:=by
 symm
 unfold Dl
 apply ByteArray.ext
 apply Array.ext'
 simp [ByteArray.data_extract,List.extract_eq_take_drop]
def EZ (a b:ByteArray):ByteArray:=a++b
def mD (a b:ByteArray):Bool:=a.toList == b.toList
def Fe (es:List (Int × Int)) (k:Int):Int:=match es with
 | []=>0
 | e :: r=>if k=e.1 then e.2 else Fe r k
def Rz (s:ByteArray) (i:Int):Int:=(Utf8.decode s i.toNat).1
def Dm (s:ByteArray) (i:Int):Int:=(Utf8.decode s i.toNat).2
noncomputable def std (P:Program):Pr where
 add x y:=x+y
 sub x y:=x-y
 mul x y:=x*y
 neg x:=0-x
 quo x y:=x.tdiv y
 rem x y:=x.tmod y
 bnd k x y:=k.wrap ((BitVec.ofInt k.bits x &&& BitVec.ofInt k.bits y).toNat)
 bor k x y:=k.wrap ((BitVec.ofInt k.bits x ||| BitVec.ofInt k.bits y).toNat)
 aao k x y:=k.wrap ((BitVec.ofInt k.bits x ^^^ BitVec.ofInt k.bits y).toNat)
 adz k x y:=k.wrap ((BitVec.ofInt k.bits x &&& ~~~BitVec.ofInt k.bits y).toNat)
 shl k x y:=k.wrap (x*2 ^ (min y.toNat k.bits))
 shr k x y:=x.fdiv (2 ^ (min y.toNat k.bits))
 wrap k x:=k.wrap x
 uf x y:=if y < x then y else x
 imax x y:=if x < y then y else x
 FP b x y:=if b then x else y
 lt x y:=decide (x < y)
 le x y:=decide (x≤y)
 eq x y:=x == y
 C8 b:=!b
 rJ a b:=a && b
 sel b x y:=if b then x else y
 aap a b:=a == b
 af4 b x y:=if b then x else y
 sG s:=s.size
 aaq s i:=(s.data.toList.getD i.toNat 0).toNat
 Z4 s l h:=Dl s l h
 af5 a b:=a++b
 seq a b:=a.toList == b.toList
 af6 es k:=Fe es k
 adA s i:=Rz s i
 XP s i:=Dm s i
 af7 g i:=Af g i
 adB n g:=strOf n g
 NZ n:=n+1
 xw i n:=0≤i∧i < n
 cut l h n:=0≤l∧l≤h∧h≤n
 rng k x:=k.min≤x∧x≤k.max
 Vb x:=x≠0
 Vd x:=0≤x
 nP x y:=x=y
 jh x y:=x=y
 U8 x y:=x < y
 NG x y:=x=y
 eqS x y:=x=y
 Bt b:=b=true
 imp b q:=b=true→q
 make bytes l c:=0≤l∧l≤c∧c≤281474976710656∧(bytes:Int)*c≤281474976710656
 grow bytes n:=n≤140737488355328∧n*(bytes:Int)≤140737488355328
 all2 n sz q:=∀ i:Int,0≤i→i < n→∀ j:Nat,j < sz→q i j
 ok f args d:=dn P f args d∨tK P f args d
 F6 f args d:=dn P f args d
 Jw f args pre post d:=jc P f args pre post d
 see objs f args d:=Lm P objs f args d
 dr ops eU ig:=F5 ops eU ig=true
 X4 b x y:=(b=true→x)∧(b=false→y)
 tr c Q st:=Tr P c Q st
noncomputable def dD (P:Program):Pr where
 add x y:=x+y
 sub x y:=x-y
 mul x y:=x*y
 neg x:=0-x
 quo x y:=x.tdiv y
 rem x y:=x.tmod y
 bnd k x y:=y8 k x y
 bor k x y:=afA k x y
 aao k x y:=Y0 k x y
 adz k x y:=alA k x y
 shl k x y:=Zp k x y
 shr k x y:=aps k x y
 wrap k x:=k.wrap x
 uf x y:=bH x y
 imax x y:=bR x y
 FP b x y:=if b then x else y
 lt x y:=decide (x < y)
 le x y:=decide (x≤y)
 eq x y:=x == y
 C8 b:=!b
 rJ a b:=a && b
 sel b x y:=if b then x else y
 aap a b:=a == b
 af4 b x y:=if b then x else y
 sG s:=cZ s
 aaq s i:=lC s i
 Z4 s l h:=Dl s l h
 af5 a b:=EZ a b
 seq a b:=mD a b
 af6 es k:=Fe es k
 adA s i:=Rz s i
 XP s i:=Dm s i
 af7 g i:=Af g i
 adB n g:=strOf n g
 NZ n:=n+1
 xw i n:=0≤i∧i < n
 cut l h n:=0≤l∧l≤h∧h≤n
 rng k x:=k.min≤x∧x≤k.max
 Vb x:=x≠0
 Vd x:=0≤x
 nP x y:=x=y
 jh x y:=x=y
 U8 x y:=x < y
 NG x y:=x=y
 eqS x y:=x=y
 Bt b:=b=true
 imp b q:=b=true→q
 make bytes l c:=0≤l∧l≤c∧c≤281474976710656∧(bytes:Int)*c≤281474976710656
 grow bytes n:=n≤140737488355328∧n*(bytes:Int)≤140737488355328
 all2 n sz q:=∀ i:Int,0≤i→i < n→∀ j:Nat,j < sz→q i j
 ok f args d:=dn P f args d∨tK P f args d
 F6 f args d:=dn P f args d
 Jw f args pre post d:=jc P f args pre post d
 see objs f args d:=Lm P objs f args d
 dr ops eU ig:=F5 ops eU ig=true
 X4 b x y:=(b=true→x)∧(b=false→y)
 tr c Q st:=Tr P c Q st
theorem bN (P:Program):std P=dD P:=rfl
def kd:TypeDesc→TK
 | .slice e=>.slice e
 | .array n e=>.array n e
 | .struct fs=>.struct (fs.toList.map fun f=>(f.offset,f.type))
 | .pointer e=>.ptr e
 | .int k=>.int k
 | .bool=>.bool
 | .string=>.string
 | .map k e=>.map k e
 | .interface _=>.iface
 | _=>.other
def UO (P:Program) (g:TypeId→Option (List EK)):List Field→Nat→Option (List EK)
 | [],_=>some []
 | f :: r,at_=>if Nat.beq f.offset at_ then
   if f.name = "_" then match P.info? f.type with
    | some i=>(UO P g r (at_+i.size)).map fun l=>List.replicate i.size .skip++l
    | none=>none
   else match g f.type with
    | some l=>(UO P g r (at_+l.length)).map fun l'=>l++l'
    | none=>none
  else none
def eqTy (P:Program):Nat→TypeId→Option (List EK)
 | 0,_=>none
 | n+1,t=>match P.info? t with
  | none=>none
  | some i=>match P.underlying t with
   | some (.int k)=>if Nat.beq i.size 1 then some [.int k] else none
   | some .bool=>if Nat.beq i.size 1 then some [.bool] else none
   | some .string=>if Nat.beq i.size 1 then some [.str] else none
   | some (.struct fs)=>if P.stoodInHeld t then none else match UO P (eqTy P n) fs.toList 0 with
    | some l=>if Nat.beq i.size l.length then some l else none
    | none=>none
   | some (.array len e)=>match eqTy P n e with
    | some l=>if Nat.beq i.size (len*l.length) then some (List.replicate len l).flatten else none
    | none=>none
   | _=>none
def lX:TypeDesc→Bool
 | .struct _=>true
 | .array _ _=>true
 | _=>false
def adR (P:Program) (t:TypeId) (d:TypeDesc):Option (List EK):=if lX d then if P.eqGuardType P.depth t then none else eqTy P 30 t else none
def aaM:Option Value→Bool
 | some (.agg _)=>false
 | _=>true
def ad8 (P:Program) (t:TypeId):Option TI :=
 match P.info? t,P.underlying t with
 | some i,some d=>some ⟨i.size,i.bytes,kd d,i.zero.map (·.cells.toList),adR P t d,aaM i.zero⟩
 | _,_=>none
def gH (P:Program) (tt:TT):Prop:=∀ t ti,d9 tt t=some ti→ad8 P t=some ti
theorem gH.of (P:Program) : ∀ tt:TT,(tt.map fun x=>ad8 P x.1)=(tt.map fun x=>some x.2)→gH P tt
 | [],_=>fun t ti h=>by simp [d9] at h
 | (k,ti) :: r,h=>by
  simp only [List.map_cons,List.cons.injEq] at h
  intro t ti' ht
  unfold d9 at ht
  split at ht
  · rename_i hk
    have:k=t:=Nat.eq_of_beq_eq_true hk
    subst this
    cases ht
    exact h.1
  · exact gH.of P r h.2 t ti' ht
theorem gH.get {P:Program} {tt:TT} (hT:gH P tt) {t:TypeId} {ti:TI} (h:d9 tt t=some ti) :
  ∃ i d,P.info? t=some i∧P.underlying t=some d∧i.size=ti.size∧i.bytes=ti.bytes∧kd d=ti.kind∧i.zero.map (·.cells.toList)=ti.zero∧adR P t d=ti.eqs:=by
 have:=hT t ti h
 unfold ad8 at this
 split at this
 · rename_i i d h1 h2
   cases this
   exact ⟨i,d,h1,h2,rfl,rfl,rfl,rfl,rfl⟩
 · cases this
theorem gH.plain {P:Program} {tt:TT} (hT:gH P tt) {t:TypeId} {ti:TI} (h:d9 tt t=some ti) {i:TypeInfo} (hi:P.info? t=some i):aaM i.zero=ti.plain:=by
 have:=hT t ti h
 unfold ad8 at this
 split at this
 · rename_i i' d h1 h2
   rw [hi] at h1
   cases h1
   cases this
   rfl
 · cases this
section
variable {P:Program} {tt:TT} (hT:gH P tt) {t:TypeId} {ti:TI} (h:d9 tt t=some ti)
include hT h
theorem gB (w:World):(sizeOf t).run P w = .ok ti.size w:=by
 obtain ⟨i,d,h1,_,h3,_⟩:=hT.get h
 simp [sizeOf,typeInfo,h1,h3]
omit hT in
theorem ail:iW tt t=ti.size:=by simp [iW,h]
theorem Bj (w:World):(isAgg t).run P w = .ok ti.agg w:=by
 obtain ⟨i,d,h1,h2,_,_,h5,_⟩:=hT.get h
 unfold isAgg TI.agg
 rw [← h5]
 cases d<;>simp [run_underlying h2,kd]
theorem iq {e:TypeId} (hk:ti.kind = .slice e):P.underlying t=some (.slice e):=by
 obtain ⟨i,d,h1,h2,_,_,h5,_⟩:=hT.get h
 rw [hk] at h5
 cases d<;>simp [kd] at h5
 subst h5;exact h2
theorem yE {n:Nat} {e:TypeId} (hk:ti.kind = .array n e):P.underlying t=some (.array n e):=by
 obtain ⟨i,d,h1,h2,_,_,h5,_⟩:=hT.get h
 rw [hk] at h5
 cases d<;>simp [kd] at h5
 obtain ⟨rfl,rfl⟩:=h5;exact h2
theorem H7 {fs:List (Nat × TypeId)} (hk:ti.kind = .struct fs) : ∃ gs:Array Field,P.underlying t=some (.struct gs)∧fs=gs.toList.map fun f=>(f.offset,f.type):=by
 obtain ⟨i,d,h1,h2,_,_,h5,_⟩:=hT.get h
 rw [hk] at h5
 cases d<;>simp [kd] at h5
 exact ⟨_,h2,h5.symm⟩
theorem jY (hk:ti.kind = .string):P.underlying t=some .string:=by
 obtain ⟨i,d,h1,h2,_,_,h5,_⟩:=hT.get h
 rw [hk] at h5
 cases d<;>simp [kd] at h5
 exact h2
theorem ae6 {k e:TypeId} (hk:ti.kind = .map k e):P.underlying t=some (.map k e):=by
 obtain ⟨i,d,h1,h2,_,_,h5,_⟩:=hT.get h
 rw [hk] at h5
 cases d<;>simp [kd] at h5
 obtain ⟨rfl,rfl⟩:=h5;exact h2
theorem TA (hk:ti.kind = .iface) : ∃ ms,P.underlying t=some (.interface ms):=by
 obtain ⟨i,d,h1,h2,_,_,h5,_⟩:=hT.get h
 rw [hk] at h5
 cases d<;>simp [kd] at h5
 exact ⟨_,h2⟩
theorem adS (hk:ti.kind = .bool):P.underlying t=some .bool:=by
 obtain ⟨i,d,h1,h2,_,_,h5,_⟩:=hT.get h
 rw [hk] at h5
 cases d<;>simp [kd] at h5
 exact h2
theorem qN {k:IntKind} (hk:ti.kind = .int k):P.underlying t=some (.int k):=by
 obtain ⟨i,d,h1,h2,_,_,h5,_⟩:=hT.get h
 rw [hk] at h5
 cases d<;>simp [kd] at h5
 subst h5;exact h2
end
section
variable {h:Array Obj} {I:IS} {β:Nat→Option (Nat × Nat × Array Value)} {objs:List (Option Ob)} {ctr:Nat}
theorem UW (v:Value):Rd h I β objs ctr (wO v) v:=by
 unfold wO
 split<;>rfl
theorem Hw {P:Program} : ∀ (d:D) (y:Value),Rd h I β objs ctr d y→(∀ q∈(strip (std P) d).2,q.run (std P))→Rd h I β objs ctr (strip (std P) d).1 y:=by
 intro d
 induction d with
 | BH b d ih =>
  intro y hy hq
  simp only [strip] at hq ⊢
  have hb:b=true:=hq _ (List.mem_cons_self ..)
  exact ih y (hy.1 hb) (fun q hq'=>hq q (List.mem_cons_of_mem _ hq'))
 | cnd b d e ih _ =>
  intro y hy hq
  simp only [strip] at hq ⊢
  have hb:b=true:=hq _ (List.mem_cons_self ..)
  exact ih y (hy.1 hb) (fun q hq'=>hq q (List.mem_cons_of_mem _ hq'))
 | _=>intro y hy _;exact hy
theorem RM.eval {P:Program} {B0:Nat} {h0:Array Obj} {I0:IS} {L:p9} {slots:List D} {a:Act} {w:World} (R:RM B0 h0 I0 L I β slots objs ctr a w) (x:Operand) :
  Rd w.heap I β objs ctr (rd (std P) slots x) (a.eval x):=by
 cases x with
 | tmp t =>
  simp only [rd,Act.eval]
  cases hs:slots[t]? with
  | none=>simp only [List.getD,hs,Option.getD];trivial
  | some d =>
   obtain ⟨y,h1,h2⟩:=R.slot t d hs
   simp only [List.getD,hs,Option.getD]
   have:a.tmps.getD t undef=y:=by
    rw [Array.getD_eq_getD_getElem?,h1];rfl
   rw [this];exact h2
 | const v=>exact UW v
 | global g =>
  show Rd w.heap I β objs ctr (gD (std P) g) (.pointer (some ⟨g,0,none⟩))
  unfold gD
  split
  · rename_i n k hg
    obtain ⟨hn,hI,hx⟩:=R.vg.1 g n k hg
    exact ⟨rfl,hI,hx⟩
  · split
    · rename_i n f hg
      obtain ⟨hn,hI,hf,c,e,fr,hx,hy⟩:=R.vg.2 g n f hg
      refine ⟨by omega,by omega,g,0,c,e,fr,by simp,hI,hx,fun i hi j hj=>⟨f j,?_,(hf j hj).1,?_⟩⟩
      · have:i=0:=by omega
        subst this
        simpa using hy j hj
      · have h:=UW (h:=w.heap) (I:=I) (β:=β) (objs:=objs) (ctr:=ctr) (f j)
        rw [(hf j hj).2] at h
        exact h
    · trivial
 | func f=>exact ⟨#[],rfl,rfl,fun j hj=>by omega⟩
end
end Go.Vx
