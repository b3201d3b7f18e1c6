/- The evaluator of the value model: what one operation of the Go model does to values that are kept apart from memory. Definitions alone; nothing is claimed here. -/
import Derived.Still
import Derived.Laws.Sem
set_option linter.all false
namespace Go.Vx
inductive D where
 | v (x:Value)
 | nilsl
 | sl (sz:Nat) (n:Int) (tight:Bool) (f:Int→Nat→D)
 | agg (k:Nat) (c:Nat→D)
 | tup (k:Nat) (c:Nat→D)
 | bref (id g j:Nat)
 | aref (id g sz:Nat) (i:Int) (j:Nat)
 | imm (sz:Nat) (n:Int) (f:Int→Nat→D) (i:Int) (j:Nat)
 | vec (id g sz:Nat) (off n:Int)
 | own (sz:Nat) (n:Int) (tight:Bool) (f:Int→Nat→D)
 | fn (f:Fn) (k:Nat) (c:Nat→D)
 | whn (b:Bool) (d:D)
 | cnd (b:Bool) (d e:D)
 | mp (kk kv:IntKind) (es:List (Int × Int))
 | iref (id g:Nat)
 | ntup (b:Bool) (i r:Int)
 | tab (g n:Nat) (k:IntKind)
 | junk
inductive Ob where
 | box (g:Nat) (cs:List D)
 | arr (g sz:Nat) (n:Int) (tight:Bool) (f:Int→Nat→D)
 | iter (g:Nat) (s:ByteArray) (pos:Int)
 | dead (g:Nat)
def Ob.gen:Ob→Nat
 | .box g _=>g
 | .arr g _ _ _ _=>g
 | .iter g _ _=>g
 | .dead g=>g
structure St where
 slots:List D
 objs:List (Option Ob)
 ctr:Nat
inductive TK where
 | slice (e:TypeId)
 | array (n:Nat) (e:TypeId)
 | struct (fs:List (Nat × TypeId))
 | ptr (e:TypeId)
 | int (k:IntKind)
 | bool
 | string
 | map (k e:TypeId)
 | iface
 | other
inductive EK where
 | int (k:IntKind)
 | bool
 | str
 | skip
structure TI where
 size:Nat
 bytes:Nat
 kind:TK
 zero:Option (List Value)
 eqs:Option (List EK)
 plain:Bool
abbrev TT:=List (Nat × TI)
def tget:TT→Nat→Option TI
 | [],_=>none
 | (k,ti) :: r,t=>if Nat.beq k t then some ti else tget r t
def TI.agg (ti:TI):Bool:=match ti.kind with
 | .struct _=>true
 | .array _ _=>true
 | _=>false
def tsize (tt:TT) (t:TypeId):Nat:=match tget tt t with
 | some ti=>ti.size
 | none=>0
structure Pr where
 add:Int→Int→Int
 sub:Int→Int→Int
 mul:Int→Int→Int
 neg:Int→Int
 quo:Int→Int→Int
 rem:Int→Int→Int
 bnd:IntKind→Int→Int→Int
 bor:IntKind→Int→Int→Int
 bxor:IntKind→Int→Int→Int
 bandn:IntKind→Int→Int→Int
 shl:IntKind→Int→Int→Int
 shr:IntKind→Int→Int→Int
 wrap:IntKind→Int→Int
 imin:Int→Int→Int
 imax:Int→Int→Int
 selI:Bool→Int→Int→Int
 lt:Int→Int→Bool
 le:Int→Int→Bool
 eq:Int→Int→Bool
 bnot:Bool→Bool
 band2:Bool→Bool→Bool
 sel:Bool→Bool→Bool→Bool
 beqB:Bool→Bool→Bool
 selS:Bool→ByteArray→ByteArray→ByteArray
 slen:ByteArray→Int
 sidx:ByteArray→Int→Int
 ssub:ByteArray→Int→Int→ByteArray
 scat:ByteArray→ByteArray→ByteArray
 seq:ByteArray→ByteArray→Bool
 mget:List (Int × Int)→Int→Int
 rdec:ByteArray→Int→Int
 rwid:ByteArray→Int→Int
 gtab:Nat→Int→Int
 bstr:Int→(Int→Int)→ByteArray
 nxt:Nat→Nat
 inb:Int→Int→Prop
 cut:Int→Int→Int→Prop
 rng:IntKind→Int→Prop
 ne0:Int→Prop
 ge0:Int→Prop
 eqI:Int→Int→Prop
 eqN:Nat→Nat→Prop
 ltN:Nat→Nat→Prop
 eqB:Bool→Bool→Prop
 eqS:ByteArray→ByteArray→Prop
 tru:Bool→Prop
 imp:Bool→Prop→Prop
 make:Nat→Int→Int→Prop
 grow:Nat→Int→Prop
 all2:Int→Nat→(Int→Nat→Prop)→Prop
 ok:FuncId→List D→D→Prop
 okv:FuncId→List D→D→Prop
 lent:FuncId→List D→List Ob→List Ob→D→Prop
 see:List (Option Ob)→FuncId→List D→D→Prop
 dr:Array Oper→List (Nat × Nat)→List (Option Nat)→Prop
 ifb:Bool→Prop→Prop→Prop
 tr:Code→(Exit→St→Prop)→St→Prop
def conj:List Prop→Prop→Prop
 | [],q=>q
 | x :: r,q=>x∧conj r q
def cellD:Value→D
 | .slice none 0 0=>.nilsl
 | x=>.v x
def d2i:D→Int
 | .v (.int _ x)=>x
 | _=>0
def isU8:D→Prop
 | .v (.int .u8 _)=>True
 | _=>False
def dsel (p:Pr) (b:Bool):D→D→D
 | .v (.int k x),.v (.int k' y)=>if k=k' then .v (.int k (p.selI b x y)) else .junk
 | .v (.bool x),.v (.bool y)=>.v (.bool (p.sel b x y))
 | .v (.string x),.v (.string y)=>.v (.string (p.selS b x y))
 | .sl sz n t f,.sl sz' n' t' f'=>if Nat.beq sz sz' then .sl sz (p.selI b n n') (p.sel b t t') (fun i j=>dsel p b (f i j) (f' i j)) else .junk
 | .agg k c,.agg k' c'=>if Nat.beq k k' then .agg k (fun j=>dsel p b (c j) (c' j)) else .junk
 | .nilsl,.nilsl=>.nilsl
 | .junk,_=>.junk
 | x,y=>.cnd b x y
def strip (p:Pr):D→D × List Prop
 | .whn b d=>let r:=strip p d;(r.1,p.tru b :: r.2)
 | .cnd b d _=>let r:=strip p d;(r.1,p.tru b :: r.2)
 | d=>(d,[])
def oneD:D→Bool
 | .v x=>x.oneCell'
 | .nilsl=>true
 | .sl _ _ _ _=>true
 | .bref _ _ _=>true
 | .aref _ _ _ _ _=>true
 | .imm _ _ _ _ _=>true
 | .vec _ _ _ _ _=>true
 | .fn _ _ _=>true
 | .mp _ _ _=>true
 | .iref _ _=>true
 | .tab _ _ _=>true
 | _=>false
def cellsOf:Nat→(Nat→D)→List D
 | 0,_=>[]
 | n+1,c=>c 0 :: cellsOf n (fun j=>c (j+1))
def dcells (ti:TI):D→Option (List D)
 | .agg k c=>if ti.agg && Nat.beq k ti.size then some (cellsOf k c) else none
 | d=>if !ti.agg && oneD d && Nat.beq ti.size 1 then some [d] else none
def writeAt:List D→Nat→List D→List D
 | cs,_,[]=>cs
 | [],_,_=>[]
 | _ :: cs,0,d :: ds=>d :: writeAt cs 0 ds
 | c :: cs,j+1,ds=>c :: writeAt cs j ds
def eqCell (p:Pr):EK→D→D→Option Bool
 | .int k,.v (.int k1 a),.v (.int k2 b)=>if k1=k then if k2=k then some (p.eq a b) else none else none
 | .bool,.v (.bool a),.v (.bool b)=>some (p.beqB a b)
 | .str,.v (.string a),.v (.string b)=>some (p.seq a b)
 | .skip,_,_=>some true
 | _,_,_=>none
def eqAll (p:Pr):List EK→(Nat→D)→(Nat→D)→Option Bool
 | [],_,_=>some true
 | e :: r,c,c'=>match eqCell p e (c 0) (c' 0),eqAll p r (fun j=>c (j+1)) (fun j=>c' (j+1)) with
  | some b,some b'=>some (p.band2 b b')
  | _,_=>none
def bin (p:Pr) (op:BinOp) (xt:Option TI):D→D→Option (D × List Prop)
 | .agg k c,.agg k' c' =>
  match xt with
  | some ti=>match ti.eqs with
   | some l=>if Nat.beq k l.length && Nat.beq k' l.length then match op,eqAll p l c c' with
    | .eql,some b=>some (.v (.bool b),[])
    | .neq,some b=>some (.v (.bool (p.bnot b)),[])
    | _,_=>none
    else none
   | none=>none
  | none=>none
 | .v (.int k a),.v (.int k' b) =>
  match op with
  | .shl=>some (.v (.int k (p.shl k a b)),[p.ge0 b])
  | .shr=>some (.v (.int k (p.shr k a b)),[p.ge0 b])
  | op=>if k=k' then
   match op with
   | .add=>some (.v (.int k (p.add a b)),[p.rng k (p.add a b)])
   | .sub=>some (.v (.int k (p.sub a b)),[p.rng k (p.sub a b)])
   | .mul=>some (.v (.int k (p.mul a b)),[p.rng k (p.mul a b)])
   | .quo=>some (.v (.int k (p.quo a b)),[p.ne0 b,p.rng k (p.quo a b)])
   | .rem=>some (.v (.int k (p.rem a b)),[p.ne0 b])
   | .and=>some (.v (.int k (p.bnd k a b)),[])
   | .or=>some (.v (.int k (p.bor k a b)),[])
   | .xor=>some (.v (.int k (p.bxor k a b)),[])
   | .andNot=>some (.v (.int k (p.bandn k a b)),[])
   | .eql=>some (.v (.bool (p.eq a b)),[])
   | .neq=>some (.v (.bool (p.bnot (p.eq a b))),[])
   | .lss=>some (.v (.bool (p.lt a b)),[])
   | .leq=>some (.v (.bool (p.le a b)),[])
   | .gtr=>some (.v (.bool (p.lt b a)),[])
   | .geq=>some (.v (.bool (p.le b a)),[])
   | _=>none
   else none
 | .v (.bool a),.v (.bool b) =>
  match xt with
  | some ti=>match ti.kind with
   | .bool=>match op with
    | .eql=>some (.v (.bool (p.beqB a b)),[])
    | .neq=>some (.v (.bool (p.bnot (p.beqB a b))),[])
    | _=>none
   | _=>none
  | none=>none
 | .v (.string a),.v (.string b) =>
  match op with
  | .add=>some (.v (.string (p.scat a b)),[p.rng .i64 (p.add (p.slen a) (p.slen b))])
  | .eql=>some (.v (.bool (p.seq a b)),[])
  | .neq=>some (.v (.bool (p.bnot (p.seq a b))),[])
  | _=>none
 | _,_=>none
abbrev Y:=D × List (Nat × Option Ob) × List Prop
def val (r:Option (D × List Prop)):Option Y:=r.map fun (d,os)=>(d,[],os)
def owe (os:List Prop) (r:Option Y):Option Y:=r.map fun (d,u,os')=>(d,u,os++os')
def ldCells (ti:TI) (len j:Nat) (c:Nat→D):Option D :=
 if ti.agg then if Nat.ble (j+ti.size) len then some (.agg ti.size (fun jj=>c (j+jj))) else none
 else if Nat.ble (j+1) len then some (c j) else none
def loadD (p:Pr) (objs:List (Option Ob)) (ti:TI):D→Option (D × List Prop)
 | .bref id g j=>match objs[id]? with
  | some (some (.box g' cs))=>(ldCells ti cs.length j (fun j=>cs.getD j .junk)).map fun d=>(d,[p.eqN g g'])
  | _=>none
 | .aref id g sz i j=>match objs[id]? with
  | some (some (.arr g' sz' _ _ f))=>if Nat.beq sz sz' then (ldCells ti sz j (f i)).map fun d=>(d,[p.eqN g g']) else none
  | _=>none
 | .imm sz _ f i j=>(ldCells ti sz j (f i)).map fun d=>(d,[])
 | _=>none
def putF (p:Pr) (i:Int) (j:Nat) (ds:List D) (f:Int→Nat→D):Int→Nat→D:=fun i' j' =>
 if Nat.ble j j' && Nat.blt j' (j+ds.length) then dsel p (p.eq i' i) (ds.getD (j'-j) .junk) (f i' j') else f i' j'
def storeD (p:Pr) (objs:List (Option Ob)) (ti:TI) (a x:D):Option Y :=
 match dcells ti x with
 | none=>none
 | some ds=>match a with
  | .bref id g j=>match objs[id]? with
   | some (some (.box g' cs))=>if Nat.ble (j+ds.length) cs.length then some (.junk,[(id,some (.box g' (writeAt cs j ds)))],[p.eqN g g']) else none
   | _=>none
  | .aref id g sz i j=>match objs[id]? with
   | some (some (.arr g' sz' n t f)) =>
    if Nat.beq sz sz' && Nat.ble (j+ds.length) sz then some (.junk,[(id,some (.arr g' sz' n t (putF p i j ds f)))],[p.eqN g g']) else none
   | _=>none
  | _=>none
def isPick:D→Bool
 | .cnd _ (.bref _ _ _) (.bref _ _ _)=>true
 | .cnd _ (.bref _ _ _) (.cnd _ _ _)=>true
 | _=>false
def unW (p:Pr):D→D × List Prop
 | .whn b d=>(d,[p.tru b])
 | d=>(d,[])
def PickAt (p:Pr) (id G:Nat) (os:List Prop):D→Prop
 | .bref id' g _=>id'=id∧p.eqN g G∈os
 | .cnd _ x e=>PickAt p id G os x∧PickAt p id G os e
 | _=>False
def pickA (p:Pr) (i:Int) (id g sz:Nat):Nat→Nat→Nat→D
 | 0,_,j=>.bref id g j
 | n+1,k,j=>.cnd (p.eq i (k:Int)) (.bref id g j) (pickA p i id g sz n (k+1) (j+sz))
def loadA (p:Pr) (id g':Nat) (cs:List D) (ti:TI):D→Option (D × List Prop)
 | .bref id' g j=>if Nat.beq id' id then (ldCells ti cs.length j (fun j=>cs.getD j .junk)).map fun d=>(d,[p.eqN g g']) else none
 | .cnd b x e=>match loadA p id g' cs ti x,loadA p id g' cs ti e with
  | some (d,os),some (d',os')=>some (dsel p b d d',os++os')
  | _,_=>none
 | _=>none
def pickId:D→Nat
 | .bref id _ _=>id
 | .cnd _ x _=>pickId x
 | _=>0
def loadP (p:Pr) (objs:List (Option Ob)) (ti:TI) (a:D):Option (D × List Prop):=match objs[pickId a]? with
 | some (some (.box g' cs))=>loadA p (pickId a) g' cs ti a
 | _=>none
def selAt (p:Pr) (b:Bool):List D→Nat→List D→List D
 | cs,_,[]=>cs
 | [],_,_=>[]
 | c :: cs,0,d :: ds=>dsel p b d c :: selAt p b cs 0 ds
 | c :: cs,j+1,ds=>c :: selAt p b cs j ds
def putP (p:Pr) (id g':Nat) (ds:List D) (n:Nat):Bool→D→List D→Option (List D × List Prop)
 | c,.bref id' g j,cs=>if Nat.beq id' id && Nat.ble (j+ds.length) n then some (selAt p c cs j ds,[p.eqN g g']) else none
 | c,.cnd b (.bref id' g j) e,cs=>if Nat.beq id' id && Nat.ble (j+ds.length) n then match putP p id g' ds n (p.band2 c (p.bnot b)) e (selAt p (p.band2 c b) cs j ds) with
  | some (r,os)=>some (r,p.eqN g g' :: os)
  | none=>none
  else none
 | _,_,_=>none
def putP0 (p:Pr) (id g':Nat) (ds:List D) (n:Nat):D→List D→Option (List D × List Prop)
 | .cnd b (.bref id' g j) e,cs=>if Nat.beq id' id && Nat.ble (j+ds.length) n then match putP p id g' ds n (p.bnot b) e (selAt p b cs j ds) with
  | some (r,os)=>some (r,p.eqN g g' :: os)
  | none=>none
  else none
 | _,_=>none
def storeP (p:Pr) (objs:List (Option Ob)) (ti:TI) (a x:D):Option Y:=match dcells ti x,objs[pickId a]? with
 | some ds,some (some (.box g' cs))=>match putP0 p (pickId a) g' ds cs.length a cs with
  | some (cs',os)=>some (.junk,[(pickId a,some (.box g' cs'))],os)
  | none=>none
 | _,_=>none
def lit? : D→Option Nat
 | .v (.int _ (.ofNat n))=>some n
 | _=>none
def indexD (p:Pr) (tt:TT) (ti:TI) (x i:D):Option (D × List Prop) :=
 match ti.kind with
 | .slice e=>match i with
  | .v (.int _ ix)=>match x with
   | .vec id g sz off n=>if Nat.beq (tsize tt e) sz && !Nat.beq sz 0 then some (.aref id g sz (p.add off ix) 0,[p.inb ix n]) else none
   | .sl sz n _ f=>if Nat.beq (tsize tt e) sz && !Nat.beq sz 0 then some (.imm sz n f ix 0,[p.inb ix n]) else none
   | _=>none
  | _=>none
 | .array n e=>match x with
  | .tab g m k=>match i with
   | .v (.int _ ix)=>if Nat.blt 1 n && Nat.beq (tsize tt e) 1 && Nat.beq m n then some (.imm 1 (n:Int) (fun i _=>.v (.int k (p.gtab g i))) ix 0,[p.inb ix (n:Int)]) else none
   | _=>none
  | _=>match lit? i with
   | some l=>if Nat.blt l n && !Nat.beq (tsize tt e) 0 then
    match x with
    | .bref id g j=>some (.bref id g (j+l*tsize tt e),[])
    | .aref id g sz i j=>some (.aref id g sz i (j+l*tsize tt e),[])
    | .imm sz n f i j=>some (.imm sz n f i (j+l*tsize tt e),[])
    | _=>none
    else none
   | none=>none
 | _=>none
def indexP (p:Pr) (tt:TT) (ti:TI) (x i:D):Option (D × List Prop) :=
 match ti.kind with
 | .array (m+1) e=>match x,i with
  | .bref id g j,.v (.int _ ix)=>if Nat.ble m 8 && !Nat.beq (tsize tt e) 0 then some (pickA p ix id g (tsize tt e) m 0 j,[p.inb ix ((m+1:Nat):Int)]) else none
  | _,_=>none
 | _=>none
def fieldD (tt:TT) (ti:TI) (x:D) (k:Nat):Option (D × List Prop) :=
 match ti.kind with
 | .struct fs=>match fs[k]? with
  | some (off,ft)=>if Nat.beq (tsize tt ft) 0 then none else match x with
   | .bref id g j=>some (.bref id g (j+off),[])
   | .aref id g sz i j=>some (.aref id g sz i (j+off),[])
   | .imm sz n f i j=>some (.imm sz n f i (j+off),[])
   | _=>none
  | none=>none
 | _=>none
def partD (tt:TT) (t:TypeId) (k:Nat) (c:Nat→D) (off:Nat):Option (D × List Prop) :=
 match tget tt t with
 | some ti=>(ldCells ti k off c).map fun d=>(d,[])
 | none=>none
def bound (p:Pr) (dflt:Int):Option D→Option Int
 | none=>some dflt
 | some (.v (.int _ i))=>some i
 | _=>none
def cutD (p:Pr) (tt:TT) (ti:TI) (x:D) (lo hi mx:Option D):Option (D × List Prop) :=
 match ti.kind with
 | .slice e=>if Nat.beq (tsize tt e) 0 then none else match x with
  | .vec id g sz off n=>if Nat.beq (tsize tt e) sz then
   match mx,bound p 0 lo,bound p n hi with
   | none,some l,some h=>some (.vec id g sz (p.add off l) (p.sub h l),[p.cut l h n])
   | some (.v (.int _ m)),some l,some h=>match hi with
    | some _=>some (.vec id g sz (p.add off l) (p.sub h l),[p.cut l h n,p.cut h m n])
    | none=>none
   | _,_,_=>none
   else none
  | .sl sz n t f=>if Nat.beq (tsize tt e) sz then
   match mx,bound p 0 lo,bound p n hi with
   | none,some l,some h=>some (.sl sz (p.sub h l) (p.band2 t (p.eq h n)) (fun i j=>f (p.add l i) j),[p.cut l h n])
   | some (.v (.int _ m)),some l,some h=>match hi with
    | some _=>some (.sl sz (p.sub h l) (p.eq m h) (fun i j=>f (p.add l i) j),[p.cut l h n,p.cut h m n])
    | none=>none
   | _,_,_=>none
   else none
  | .nilsl=>match mx,bound p 0 lo,bound p 0 hi with
   | none,some l,some h=>some (.nilsl,[p.eqI l 0,p.eqI h 0])
   | _,_,_=>none
  | _=>none
 | .string=>match x with
  | .v (.string s)=>match mx,bound p 0 lo,bound p (p.slen s) hi with
   | none,some l,some h=>some (.v (.string (p.ssub s l h)),[p.cut l h (p.slen s)])
   | _,_,_=>none
  | _=>none
 | _=>none
def srcD (p:Pr) (objs:List (Option Ob)) (sz:Nat):D→Option (Int × (Int→Nat→D) × List Prop)
 | .nilsl=>some (0,fun _ _=>.junk,[])
 | .sl sz' n _ f=>if Nat.beq sz sz' then some (n,f,[]) else none
 | .vec id g sz' off n=>match objs[id]? with
  | some (some (.arr g' sz'' _ _ f))=>if Nat.beq sz sz' && Nat.beq sz sz'' then some (n,fun i j=>f (p.add off i) j,[p.eqN g g']) else none
  | _=>none
 | .v (.string s)=>if Nat.beq sz 1 then some (p.slen s,fun i _=>.v (.int .u8 (p.sidx s i)),[]) else none
 | _=>none
def catF (p:Pr) (n:Int) (f h:Int→Nat→D):Int→Nat→D:=fun i j=>dsel p (p.lt i n) (f i j) (h (p.sub i n) j)
def appendD (p:Pr) (objs:List (Option Ob)) (ctr key:Nat) (sz bytes:Nat) (owned:Bool) (x y:D):Option Y :=
 match srcD p objs sz y with
 | none=>none
 | some (m,h,os)=>match x with
  | .nilsl=>match objs[key]? with
   | some none=>some (.vec key ctr sz 0 m,[(key,some (.arr ctr sz m false h))],os++[p.grow bytes m])
   | _=>none
  | .sl sz' n t f=>if Nat.beq sz sz' then
    if owned then match objs[key]? with
     | some none=>some (.vec key ctr sz 0 m,[(key,some (.arr ctr sz m false h))],os++[p.grow bytes m,p.eqI n 0,p.tru t])
     | _=>none
    else some (.sl sz (p.add n m) false (catF p n f h),[],os++[p.grow bytes (p.add n m),p.tru t])
   else none
  | .vec id g sz' off n=>match objs[id]? with
   | some (some (.arr g' sz'' _ _ f)) =>
    if Nat.beq sz sz' && Nat.beq sz sz'' then
     if Nat.beq id key then
      some (.vec key ctr sz 0 (p.add n m),[(key,some (.arr ctr sz (p.add n m) false (catF p n (fun i j=>f (p.add off i) j) h)))],os++[p.eqN g g',p.ltN g ctr,p.grow bytes (p.add n m)])
     else match objs[key]? with
      | some none=>some (.vec key ctr sz 0 (p.add n m),[(id,some (.dead ctr)),(key,some (.arr ctr sz (p.add n m) false (catF p n (fun i j=>f (p.add off i) j) h)))],os++[p.eqN g g',p.grow bytes (p.add n m)])
      | _=>none
    else none
   | _=>none
  | _=>none
def copyD (p:Pr) (objs:List (Option Ob)) (sz:Nat) (x y:D):Option Y :=
 match srcD p objs sz y with
 | none=>none
 | some (m,h,os)=>match x with
  | .vec id g sz' off n=>match objs[id]? with
   | some (some (.arr g' sz'' N t f)) =>
    if Nat.beq sz sz' && Nat.beq sz sz'' then
     some (.v (.int .i64 (p.imin m n)),[(id,some (.arr g' sz'' N t (fun i j=>dsel p (p.band2 (p.le off i) (p.lt i (p.add off (p.imin m n)))) (h (p.sub i off) j) (f i j))))],os++[p.eqN g g'])
    else none
   | _=>none
  | _=>none
def fillD (place:Nat→Option (Nat × Nat)) (tis:Nat→Option TI):List (Nat × D)→List D→Option (List D)
 | [],cs=>some cs
 | (i,d) :: r,cs=>match place i,tis i with
  | some (off,size),some ti=>match dcells ti d with
   | some ds=>if Nat.beq ds.length size && Nat.ble (off+size) cs.length then fillD place tis r (writeAt cs off ds) else none
   | none=>none
  | _,_=>none
def replD (n:Nat) (cs:List D):List D:=match n with
 | 0=>[]
 | n+1=>cs++replD n cs
def rowsF (p:Pr) (sz:Nat):Nat→List D→Int→Int→Nat→D
 | 0,_,_,_,_=>.junk
 | 1,cs,_,_,j=>cs.getD j .junk
 | n+2,cs,at_,i,j=>dsel p (p.eq i at_) (cs.getD j .junk) (rowsF p sz (n+1) (cs.drop sz) (at_+1) i j)
def anyFn:List D→Bool
 | []=>false
 | .fn _ _ _ :: _=>true
 | _ :: r=>anyFn r
def rowsG (sz:Nat) (cs:List D) (i:Int) (j:Nat):D:=match i with
 | .ofNat q=>cs.getD (q*sz+j) .junk
 | .negSucc _=>.junk
def rowsX (p:Pr) (sz n:Nat) (cs:List D):Int→Nat→D:=if anyFn cs && !Nat.beq sz 1 then rowsG sz cs else rowsF p sz n cs 0
def newD (objs:List (Option Ob)) (key:Nat) (d:D) (o:Ob) (os:List Prop):Option Y :=
 match objs[key]? with
 | some none=>some (d,[(key,some o)],os)
 | _=>none
def layD (ice:Bool) (objs:List (Option Ob)) (key ctr sz:Nat) (n:Int) (f:Int→Nat→D) (os:List Prop):Option Y :=
 if ice then some (.sl sz n true f,[],os) else newD objs key (.vec key ctr sz 0 n) (.arr ctr sz n true f) os
inductive CallR where
 | plain (d:D)
 | own (sz:Nat) (n:Int) (tight:Bool) (g:Int→Nat→D)
 | lent (post:List Ob) (d:D)
structure Orc where
 knd:FuncId→Nat
 fn:Nat→FuncId→List D→List Ob→Option CallR
 fresh:Nat→Bool
def Orc.ice (orc:Orc):Option Nat→Bool
 | some t=>orc.fresh t
 | none=>false
def clo (p:Pr):D→Prop
 | .v _=>True
 | .nilsl=>True
 | .sl sz n _ f=>p.all2 n sz (fun i j=>clo p (f i j))
 | .agg k c=>p.all2 1 k (fun _ j=>clo p (c j))
 | .tup k c=>p.all2 1 k (fun _ j=>clo p (c j))
 | .fn _ k c=>p.all2 1 k (fun _ j=>clo p (c j))
 | .imm sz n f _ _=>p.all2 n sz (fun i j=>clo p (f i j))
 | .whn _ d=>clo p d
 | .mp _ _ _=>True
 | .ntup _ _ _=>True
 | .tab _ _ _=>True
 | .junk=>True
 | _=>False
def cloL (p:Pr):List D→List Prop
 | []=>[]
 | d :: r=>clo p d :: cloL p r
def cloOb (p:Pr):Ob→List Prop
 | .box _ cs=>cloL p cs
 | .arr _ sz n _ f=>[p.all2 n sz (fun i j=>clo p (f i j))]
 | .iter _ _ _=>[]
 | .dead _=>[]
def flat (p:Pr):D→Prop
 | .v _=>True
 | .nilsl=>True
 | .agg k c=>p.all2 1 k (fun _ j=>flat p (c j))
 | .tup k c=>p.all2 1 k (fun _ j=>flat p (c j))
 | .fn _ k c=>p.all2 1 k (fun _ j=>flat p (c j))
 | .own sz n _ f=>p.all2 n sz (fun i j=>flat p (f i j))
 | .junk=>True
 | _=>False
def memN:List Nat→Nat→Bool
 | [],_=>false
 | x :: r,y=>if Nat.beq x y then true else memN r y
def idxN:List Nat→Nat→Nat
 | [],_=>0
 | x :: r,y=>if Nat.beq x y then 0 else idxN r y+1
def addN (l:List Nat) (id:Nat):List Nat:=if memN l id then l else l++[id]
def refIds1:D→List Nat→List Nat
 | .bref id _ _,l=>addN l id
 | .aref id _ _ _ _,l=>addN l id
 | .vec id _ _ _ _,l=>addN l id
 | _,l=>l
def refCells:List D→List Nat→List Nat
 | [],l=>l
 | d :: r,l=>refCells r (refIds1 d l)
def refIdsD:D→List Nat→List Nat
 | .agg k c,l=>refCells (cellsOf k c) l
 | d,l=>refIds1 d l
def refIds:List D→List Nat→List Nat
 | [],l=>l
 | d :: r,l=>refIds r (refIdsD d l)
def winOf:List D→Nat→Nat
 | [],_=>0
 | .bref id _ j :: r,x=>if Nat.beq id x then j else winOf r x
 | _ :: r,x=>winOf r x
def ren1 (ids:List Nat) (win:Nat→Nat):D→D
 | .bref id _ j=>if Nat.ble (win id) j then .bref (idxN ids id) 0 (j-win id) else .junk
 | .aref id _ sz i j=>.aref (idxN ids id) 0 sz i j
 | .vec id _ sz off n=>.vec (idxN ids id) 0 sz off n
 | d=>d
def isNilN:List Nat→Bool
 | []=>true
 | _ :: _=>false
def ren (ids:List Nat) (win:Nat→Nat):D→D
 | .agg k c=>if isNilN (refCells (cellsOf k c) []) then .agg k c else .agg k (fun j=>ren1 ids win (c j))
 | d=>ren1 ids win d
def setG (g:Nat):Ob→Ob
 | .box _ cs=>.box g cs
 | .arr _ sz n t f=>.arr g sz n t f
 | .iter _ s i=>.iter g s i
 | .dead _=>.dead g
def owe1 (p:Pr) (objs:List (Option Ob)):D→Prop
 | .bref id g _=>match objs[id]? with
  | some (some o)=>p.eqN g o.gen
  | _=>False
 | .aref id g _ _ _=>match objs[id]? with
  | some (some o)=>p.eqN g o.gen
  | _=>False
 | .vec id g _ _ _=>match objs[id]? with
  | some (some o)=>p.eqN g o.gen
  | _=>False
 | d=>clo p d
def oweL (p:Pr) (objs:List (Option Ob)):List D→List Prop
 | []=>[]
 | d :: r=>owe1 p objs d :: oweL p objs r
def lendOwe (p:Pr) (objs:List (Option Ob)):List D→List Prop
 | []=>[]
 | d :: r=>(match d with
  | .agg k c=>if isNilN (refCells (cellsOf k c) []) then [clo p (.agg k c)] else oweL p objs (cellsOf k c)
  | d=>[owe1 p objs d])++lendOwe p objs r
def lendC (p:Pr) (objs:List (Option Ob)) (ctr:Nat):List D→Nat→Option (List D × List (Nat × Int × Ob) × List Prop)
 | [],_=>some ([],[],[])
 | .vec id g sz off n :: r,k=>match off,objs[id]? with
  | .ofNat 0,some (some (.arr g' sz' _ _ f))=>if Nat.beq sz sz' then match lendC p objs ctr r (k+1) with
   | some (cs,is,os)=>some (.vec k 0 sz 0 n :: cs,(id,0,.arr 0 sz n false f) :: is,p.eqN g g' :: p.ltN g ctr :: p.all2 n sz (fun i j=>clo p (f i j)) :: os)
   | none=>none
   else none
  | _,_=>none
 | d :: r,k=>match lendC p objs ctr r k with
  | some (cs,is,os)=>some (d :: cs,is,clo p d :: os)
  | none=>none
def lendT (p:Pr) (objs:List (Option Ob)) (ctr:Nat) (win:Nat→Nat):List Nat→List Ob→Nat→Option (List Ob × List (Nat × Int × Ob) × List Prop)
 | [],_,_=>some ([],[],[])
 | id :: r,.box _ cs' :: qs,k=>match objs[id]? with
  | some (some (.box _ cs))=>if Nat.ble (win id+cs'.length) cs.length then match lendC p objs ctr ((cs.drop (win id)).take cs'.length) k with
   | some (c1,i1,o1)=>match lendT p objs ctr win r qs (k+i1.length) with
    | some (ts,is,os)=>some (.box 0 c1 :: ts,i1++is,o1++os)
    | none=>none
   | none=>none
   else none
  | _=>none
 | id :: r,.arr _ _ _ _ _ :: qs,k=>match objs[id]? with
  | some (some (.arr _ sz n t f))=>match lendT p objs ctr win r qs k with
   | some (ts,is,os)=>some (.arr 0 sz n t f :: ts,is,p.all2 n sz (fun i j=>clo p (f i j)) :: os)
   | none=>none
  | _=>none
 | id :: r,.dead _ :: qs,k=>match objs[id]? with
  | some (some (.arr _ sz n t f))=>match lendT p objs ctr win r qs k with
   | some (ts,is,os)=>some (.arr 0 sz n t f :: ts,is,p.all2 n sz (fun i j=>clo p (f i j)) :: os)
   | none=>none
  | _=>none
 | _ :: _,_,_=>none
def backC (p:Pr) (ctr top:Nat) (all:List Nat):List D→Option (List D × List Prop)
 | []=>some ([],[])
 | .vec k g sz o n :: r=>match all[k]?,backC p ctr top all r with
  | some id,some (cs,os)=>if Nat.ble top k && Nat.beq g 1 then some (.vec id ctr sz o n :: cs,os) else none
  | _,_=>none
 | d :: r=>match backC p ctr top all r with
  | some (cs,os)=>some (d :: cs,clo p d :: os)
  | none=>none
def backT (p:Pr) (objs:List (Option Ob)) (ctr top:Nat) (all:List Nat) (win:Nat→Nat):List Nat→List Ob→Option (List (Nat × Option Ob) × List Prop)
 | [],_=>some ([],[])
 | id :: r,.box g' cs' :: qs=>match objs[id]? with
  | some (some (.box g cs))=>if Nat.beq g' 0 && Nat.ble (win id+cs'.length) cs.length then match backC p ctr top all cs' with
   | some (c1,o1)=>match backT p objs ctr top all win r qs with
    | some (u,os)=>some ((id,some (.box g (writeAt cs (win id) c1))) :: u,o1++os)
    | none=>none
   | none=>none
   else none
  | _=>none
 | id :: r,.arr g' sz' n' t' f' :: qs=>match objs[id]? with
  | some (some (.arr g sz n t _))=>if Nat.beq sz sz' && Nat.beq g' 0 then match backT p objs ctr top all win r qs with
   | some (u,os)=>some ((id,some (.arr g sz n t f')) :: u,p.eqI n n' :: p.eqB t t' :: p.all2 n sz (fun i j=>clo p (f' i j)) :: os)
   | none=>none
   else none
  | _=>none
 | id :: r,.dead g' :: qs=>match objs[id]? with
  | some (some (.arr _ _ _ _ _))=>if Nat.beq g' 1 then match backT p objs ctr top all win r qs with
   | some (u,os)=>some ((id,some (.dead ctr)) :: u,os)
   | none=>none
   else none
  | _=>none
 | _ :: _,_=>none
def backI (p:Pr) (ctr:Nat):List (Nat × Int × Ob)→List Ob→Option (List (Nat × Option Ob) × List Prop)
 | [],[]=>some ([],[])
 | (id,_,.arr _ sz _ _ _) :: r,.arr g' sz' n' _ f' :: qs=>if Nat.beq sz sz' && Nat.beq g' 1 then match backI p ctr r qs with
  | some (u,os)=>some ((id,some (.arr ctr sz n' false f')) :: u,p.all2 n' sz (fun i j=>clo p (f' i j)) :: os)
  | none=>none
  else none
 | _,_=>none
def nodupN:List Nat→Bool
 | []=>true
 | x :: r=>!memN r x && nodupN r
def fstL:List (Nat × Int × Ob)→List Nat
 | []=>[]
 | x :: r=>x.1 :: fstL r
def sndL:List (Nat × Int × Ob)→List Ob
 | []=>[]
 | x :: r=>x.2.2 :: sndL r
structure LentR where
 ids:List Nat
 args:List D
 pre:List Ob
 u:List (Nat × Option Ob)
 os:List Prop
def lentD (p:Pr) (objs:List (Option Ob)) (ctr:Nat) (args:List D) (post:List Ob):Option LentR :=
 match lendT p objs ctr (winOf args) (refIds args []) post (refIds args []).length with
 | none=>none
 | some (ts,is,os1)=>match backT p objs ctr (refIds args []).length (refIds args []++fstL is) (winOf args) (refIds args []) post,backI p ctr is (post.drop (refIds args []).length) with
  | some (u1,os2),some (u2,os3)=>if nodupN (refIds args []++fstL is) then
    some ⟨refIds args []++fstL is,args.map (ren (refIds args []) (winOf args)),ts++sndL is,u1++u2,lendOwe p objs args++os1++os2++os3⟩
   else none
  | _,_=>none
def viewV (p:Pr) (objs:List (Option Ob)):D→Option (D × List Prop)
 | .vec id g sz off n=>match objs[id]? with
  | some (some (.arr g' sz' N t f))=>if Nat.beq sz sz' then match off with
   | .ofNat 0=>some (.sl sz n false f,[p.eqN g g'])
   | _=>some (.sl sz n (p.band2 t (p.eq (p.add off n) N)) (fun i j=>f (p.add off i) j),[p.eqN g g'])
   else none
  | _=>none
 | d=>some (d,[])
def viewCs (p:Pr) (objs:List (Option Ob)):List D→Option (List D × List Prop)
 | []=>some ([],[])
 | d :: r=>match viewV p objs d,viewCs p objs r with
  | some (d',os),some (r',os')=>some (d' :: r',os++os')
  | _,_=>none
def viewD1 (p:Pr) (objs:List (Option Ob)):D→Option (D × List Prop)
 | .vec id g sz off n=>match objs[id]? with
  | some (some (.arr g' sz' N t f))=>if Nat.beq sz sz' then some (.sl sz n (p.band2 t (p.eq (p.add off n) N)) (fun i j=>f (p.add off i) j),[p.eqN g g']) else none
  | _=>none
 | .bref id g j=>match objs[id]? with
  | some (some (.box g' cs))=>match viewCs p objs cs with
   | some (cs',os)=>some (.imm cs'.length 1 (fun _ jj=>cs'.getD jj .junk) 0 j,p.eqN g g' :: os)
   | none=>none
  | _=>none
 | .agg k c=>if isNilN (refCells (cellsOf k c) []) then some (.agg k c,[]) else match viewCs p objs (cellsOf k c) with
  | some (cs',os)=>some (.agg k (fun j=>cs'.getD j .junk),os)
  | none=>none
 | d=>some (d,[])
def viewFs (p:Pr) (objs:List (Option Ob)):List D→Option (List D × List Prop)
 | []=>some ([],[])
 | d :: r=>match viewD1 p objs d,viewFs p objs r with
  | some (d',os),some (r',os')=>some (d' :: r',os++os')
  | _,_=>none
def viewD (p:Pr) (objs:List (Option Ob)):D→Option (D × List Prop)
 | .fn f k c=>if isNilN (refCells (cellsOf k c) []) then some (.fn f k c,[]) else match viewFs p objs (cellsOf k c) with
  | some (cs',os)=>some (.fn f k (fun j=>cs'.getD j .junk),os)
  | none=>none
 | d=>viewD1 p objs d
def viewL (p:Pr) (objs:List (Option Ob)):List D→Option (List D × List Prop)
 | []=>some ([],[])
 | d :: r=>match viewD p objs d,viewL p objs r with
  | some (d',os),some (r',os')=>some (d' :: r',os++os')
  | _,_=>none
def isOwnD:D→Bool
 | .own _ _ _ _=>true
 | _=>false
def deadAll (ctr:Nat):List (Option Ob)→Nat→List (Nat × Option Ob)
 | [],_=>[]
 | some _ :: r,k=>(k,some (.dead ctr)) :: deadAll ctr r (k+1)
 | none :: r,k=>deadAll ctr r (k+1)
def callD (p:Pr) (orc:Orc) (objs:List (Option Ob)) (ctr key:Nat) (f:FuncId) (args:List D) (os:List Prop):Option Y :=
 match orc.knd f with
 | 0=>match orc.fn key f args [] with
  | some (.plain d)=>if isOwnD d then none else some (d,[],os++[p.ok f args d])
  | _=>none
 | 1=>match orc.fn key f args [] with
  | some (.own sz n tight g)=>newD objs key (.vec key ctr sz 0 n) (.arr ctr sz n tight g) (os++[p.ok f args (.own sz n tight g)])
  | _=>none
 | 2=>match orc.fn key f [] [] with
  | some (.lent post d)=>match lentD p objs ctr args post with
   | some r=>if isOwnD d then none else some (d,r.u,os++r.os++[p.lent f r.args r.pre post d])
   | none=>none
  | _=>none
 | 8=>match orc.fn key f args [] with
  | some (.plain d)=>if isOwnD d then none else some (d,[],os++[p.see objs f args d])
  | _=>none
 | 6=>match viewL p objs args with
  | none=>none
  | some (va,vs)=>match orc.fn key f va [] with
   | some (.plain d)=>if isOwnD d then none else some (d,deadAll ctr objs 0,os++vs++[p.okv f va d])
   | _=>none
 | 4=>match viewL p objs args with
  | none=>none
  | some (va,vs)=>match orc.fn key f va [] with
   | some (.plain d)=>if isOwnD d then none else some (d,[],os++vs++[flat p d,p.okv f va d])
   | _=>none
 | _=>match viewL p objs args with
  | none=>none
  | some (va,vs)=>match orc.fn key f va [] with
   | some (.plain d)=>if isOwnD d then none else some (d,[],os++vs++[flat p d,p.okv f va d])
   | some (.own sz n tight g)=>newD objs key (.vec key ctr sz 0 n) (.arr ctr sz n tight g) (os++vs++[flat p (.own sz n tight g),p.okv f va (.own sz n tight g)])
   | _=>none
def callV (p:Pr) (orc:Orc) (key:Nat) (f:FuncId) (args:List D) (os:List Prop):Option Y :=
 match orc.fn key f [] [] with
 | some (.plain d)=>if isOwnD d then none else some (d,[],os++[p.okv f args d])
 | _=>none
def callF (p:Pr) (orc:Orc) (objs:List (Option Ob)) (ctr key:Nat) (x:Operand) (f:FuncId) (args:List D) (os:List Prop):Option Y :=
 match x with
 | .tmp _=>if Nat.beq (orc.knd (key+1024)) 7 then callV p orc key f args os else callD p orc objs ctr key f args os
 | _=>callD p orc objs ctr key f args os
def plainSrc (tt:TT) (u:TypeId):Bool:=match tget tt u with
 | some ti=>match ti.kind with
  | .slice _=>true
  | .string=>true
  | _=>false
 | none=>false
def builtinD (p:Pr) (tt:TT) (objs:List (Option Ob)) (ctr key:Nat) (owned:Bool) (b:Builtin) (ats:List TypeId) (args:List D):Option Y :=
 match b,args with
 | .len,[x]=>match ats with
  | [t]=>match tget tt t with
   | some ti=>match ti.kind,x with
    | .slice _,.sl _ n _ _=>some (.v (.int .i64 n),[],[])
    | .slice _,.vec _ _ _ _ n=>some (.v (.int .i64 n),[],[])
    | .slice _,.nilsl=>some (.v (.int .i64 0),[],[])
    | .string,.v (.string s)=>some (.v (.int .i64 (p.slen s)),[],[])
    | .array n _,_=>some (.v (.int .i64 (n:Int)),[],[])
    | _,_=>none
   | none=>none
  | _=>none
 | .min,[.v (.int k a),.v (.int k' b)]=>if k=k' then some (.v (.int k (p.imin a b)),[],[]) else none
 | .max,[.v (.int k a),.v (.int k' b)]=>if k=k' then some (.v (.int k (p.imax a b)),[],[]) else none
 | .min,[.v (.int k a),.v (.int k' b),.v (.int k'' c)]=>if k=k'∧k=k'' then some (.v (.int k (p.imin (p.imin a b) c)),[],[]) else none
 | .max,[.v (.int k a),.v (.int k' b),.v (.int k'' c)]=>if k=k'∧k=k'' then some (.v (.int k (p.imax (p.imax a b) c)),[],[]) else none
 | .append,[x,y]=>match ats with
  | [t,u]=>if plainSrc tt u then match tget tt t with
   | some ti=>match ti.kind with
    | .slice e=>match tget tt e with
     | some te=>match te.zero with
      | some z=>if Nat.beq te.bytes 0 || !Nat.beq z.length te.size then none else appendD p objs ctr key te.size te.bytes owned x y
      | none=>none
     | none=>none
    | _=>none
   | _=>none
   else none
  | _=>none
 | .copy,[x,y]=>match ats with
  | t :: _=>match tget tt t with
   | some ti=>match ti.kind with
    | .slice e=>match tget tt e with
     | some te=>copyD p objs te.size x y
     | none=>none
    | _=>none
   | _=>none
  | _=>none
 | _,_=>none
def isNilC:Operand→Bool
 | .const .nilIface=>true
 | _=>false
def nilEq (op:BinOp) (xt:Option TI):D→Option D
 | .v .nilIface=>match xt with
  | some ti=>match ti.kind,op with
   | .iface,.eql=>some (.v (.bool true))
   | .iface,.neq=>some (.v (.bool false))
   | _,_=>none
  | none=>none
 | _=>none
def orG (g:Option (Nat × Bool)) (d:D):Option Y→Option Y
 | some y=>some y
 | none=>match g with
  | some _=>some (d,[],[False])
  | none=>none
def intsD (tt:TT) (t:TypeId):Option IntKind:=match tget tt t with
 | some ti=>match ti.kind,ti.zero with
  | .int k,some [.int k' (.ofNat 0)]=>if k=k' && ti.plain then some k else none
  | _,_=>none
 | none=>none
def zeroD (ti:TI):Option (List D):=match ti.zero with
 | some z=>if Nat.beq z.length ti.size && z.all (·.oneCell') then some (z.map cellD) else none
 | none=>none
def isNilS:Operand→Bool
 | .const (.slice none 0 0)=>true
 | _=>false
def nilApp (c:Call):Bool:=match c.callee,c.args.toList with
 | .builtin .append,x :: _=>isNilS x
 | _,_=>false
def anyVec:List D→Bool
 | []=>false
 | .vec _ _ _ _ _ :: _=>true
 | _ :: r=>anyVec r
def evOp (p:Pr) (tt:TT) (orc:Orc) (key:Nat) (objs:List (Option Ob)) (ctr:Nat) (ρ:Operand→D) (o:Oper):Option Y :=
 let s (x:Operand):D:=(strip p (ρ x)).1
 let w (x:Operand):List Prop:=(strip p (ρ x)).2
 match o.op with
 | .move x=>some (ρ x,[],[])
 | .assign x=>some (ρ x,[],[])
 | .pick c a b=>match s c,s a,s b with
  | .v (.bool t),.v (.bool x),.v (.bool y)=>some (.v (.bool (p.sel t x y)),[],w c++(w a).map (p.imp t)++(w b).map (p.imp (p.bnot t)))
  | _,_,_=>none
 | .alloc t=>match tget tt t with
  | some ti=>match zeroD ti with
   | some z=>newD objs key (.bref key ctr 0) (.box ctr z) []
   | none=>none
  | none=>none
 | .box t x=>match tget tt t with
  | some ti=>match dcells ti (s x) with
   | some ds=>newD objs key (.bref key ctr 0) (.box ctr ds) (w x)
   | none=>none
  | none=>none
 | .build t parts=>match tget tt t with
  | some ti=>match zeroD ti with
   | some z=>match ti.kind with
    | .struct fs=>if fs.all (fun f=>(tget tt f.2).isSome) then
      match fillD (fun i=>(fs[i]?).map fun f=>(f.1,tsize tt f.2)) (fun i=>(fs[i]?).bind fun f=>tget tt f.2) (parts.toList.map fun x=>(x.1,s x.2)) z with
      | some cs=>some (.agg ti.size (fun j=>cs.getD j .junk),[],(parts.toList.map fun x=>w x.2).flatten)
      | none=>none
     else none
    | .array _ e=>match tget tt e with
     | some te=>match fillD (fun i=>some (i*te.size,te.size)) (fun _=>some te) (parts.toList.map fun x=>(x.1,s x.2)) z with
      | some cs=>some (.agg ti.size (fun j=>cs.getD j .junk),[],(parts.toList.map fun x=>w x.2).flatten)
      | none=>none
     | none=>none
    | _=>none
   | none=>none
  | none=>none
 | .buildSlice t len parts=>match tget tt t with
  | some ti=>match ti.kind with
   | .slice e=>match tget tt e with
    | some te=>match zeroD te with
     | some z=>match fillD (fun i=>some (i*te.size,te.size)) (fun _=>some te) (parts.toList.map fun x=>(x.1,s x.2)) (replD len z) with
      | some cs=>if Nat.ble (len*te.size) 4096 then layD (orc.ice o.dst) objs key ctr te.size (len:Int) (rowsX p te.size len cs) ((parts.toList.map fun x=>w x.2).flatten) else none
      | none=>none
     | none=>none
    | none=>none
   | _=>none
  | none=>none
 | .load t a=>match tget tt t with
  | some ti=>if isPick (unW p (ρ a)).1 then owe (unW p (ρ a)).2 (val (loadP p objs ti (unW p (ρ a)).1)) else owe (w a) (val (loadD p objs ti (s a)))
  | none=>none
 | .store t a x=>match tget tt t with
  | some ti=>if isPick (ρ a) then owe (w x) (storeP p objs ti (ρ a) (s x)) else owe (w a++w x) (storeD p objs ti (s a) (s x))
  | none=>none
 | .nilCheck x=>match s x with
  | .bref id g j=>some (.bref id g j,[],w x)
  | .aref id g sz i j=>some (.aref id g sz i j,[],w x)
  | .imm sz n f i j=>some (.imm sz n f i j,[],w x)
  | _=>none
 | .binOp op xt x y _=>if isNilC y then (nilEq op (tget tt xt) (s x)).map (fun d=>(d,[],w x)) else orG o.guard (.v (.bool false)) (owe (w x++w y) (val (bin p op (tget tt xt) (s x) (s y))))
 | .makeInterface _ _=>orG o.guard .junk none
 | .makeFunc fn first captured=>if Nat.beq first.size 0 then some (.fn fn captured.size (fun j=>(captured.toList.map s).getD j .junk),[],(captured.toList.map w).flatten) else none
 | .lookup t x i ok=>match tget tt t with
  | some ti=>match ti.kind with
   | .map k e=>match intsD tt k,intsD tt e with
    | some kk,some kv=>match s x,s i with
     | .mp kk' kv' es,.v (.int ki ix)=>if ok then none else if kk=kk'∧kv=kv'∧kk=ki then some (.v (.int kv (p.mget es ix)),[],w x++w i) else none
     | _,_=>none
    | _,_=>none
   | _=>none
  | none=>none
 | .range t x=>match tget tt t with
  | some ti=>match ti.kind,s x with
   | .string,.v (.string b)=>newD objs key (.iref key ctr) (.iter ctr b 0) (w x)
   | _,_=>none
  | none=>none
 | .next x isS=>if isS then match s x with
  | .iref id g=>match objs[id]? with
   | some (some (.iter g' b pos))=>some (.ntup (p.lt pos (p.slen b)) pos (p.rdec b pos),[(id,some (.iter g' b (p.selI (p.lt pos (p.slen b)) (p.add pos (p.rwid b pos)) pos)))],w x++[p.eqN g g'])
   | _=>none
  | _=>none
  else none
 | .unOp op _ x=>match op,s x with
  | .not,.v (.bool b)=>some (.v (.bool (p.bnot b)),[],w x)
  | .neg,.v (.int k a)=>some (.v (.int k (p.neg a)),[],w x++[p.rng k (p.neg a)])
  | .xor,.v (.int .i64 a)=>some (.v (.int .i64 (p.bxor .i64 (-1) a)),[],w x)
  | _,_=>none
 | .convert u t x=>match tget tt t,tget tt u with
  | some ti,some ui=>match ti.kind,ui.kind,s x with
   | .int k,.int _,.v (.int _ a)=>some (.v (.int k (p.wrap k a)),[],w x)
   | .string,.string,.v (.string a)=>some (.v (.string a),[],w x)
   | .slice e,.string,.v (.string a)=>match tget tt e with
    | some te=>match te.kind with
     | .int .u8=>some (.sl 1 (p.slen a) false (fun i _=>.v (.int .u8 (p.sidx a i))),[],w x)
     | _=>none
    | none=>none
   | .string,.slice e,.sl sz n _ f=>match tget tt e with
    | some te=>match te.kind with
     | .int .u8=>if Nat.beq sz 1 then some (.v (.string (p.bstr n (fun i=>d2i (f i 0)))),[],w x++[p.all2 n 1 (fun i _=>isU8 (f i 0))]) else none
     | _=>none
    | none=>none
   | _,_,_=>none
  | _,_=>none
 | .makeSlice t l c=>match tget tt t with
  | some ti=>match ti.kind with
   | .slice e=>match tget tt e with
    | some te=>match zeroD te,s l,s c with
     | some z,.v (.int _ a),.v (.int _ b) =>
      if Nat.beq te.bytes 0 || Nat.beq te.size 0 then none else
      newD objs key (.vec key ctr te.size 0 a) (.arr ctr te.size a (p.eq a b) (fun _ j=>z.getD j .junk)) (w l++w c++[p.make te.bytes a b])
     | _,_,_=>none
    | none=>none
   | _=>none
  | none=>none
 | .slice t x lo hi mx=>match tget tt t with
  | some ti=>owe (w x++(lo.map w).getD []++(hi.map w).getD []++(mx.map w).getD []) (val (cutD p tt ti (s x) (lo.map s) (hi.map s) (mx.map s)))
  | none=>none
 | .fieldAddr t x k=>match tget tt t with
  | some ti=>owe (w x) (val (fieldD tt ti (s x) k))
  | none=>none
 | .field t x k=>match tget tt t with
  | some ti=>match ti.kind with
   | .struct fs=>match fs[k]?,s x with
    | some (off,ft),.agg n c=>owe (w x) (val (partD tt ft n c off))
    | _,_=>none
   | _=>none
  | none=>none
 | .indexAddr t x i=>match tget tt t with
  | some ti=>owe (w x++w i) (val (if orc.ice o.dst then indexP p tt ti (s x) (s i) else indexD p tt ti (s x) (s i)))
  | none=>none
 | .index t x i=>match tget tt t with
  | some ti=>match ti.kind with
   | .array n e=>match lit? (s i),s x with
    | some l,.agg k c=>if Nat.blt l n && !Nat.beq (tsize tt e) 0 then owe (w x++w i) (val (partD tt e k c (l*tsize tt e))) else none
    | _,_=>none
   | .string=>match s x,s i with
    | .v (.string b),.v (.int _ ix)=>some (.v (.int .u8 (p.sidx b ix)),[],w x++w i++[p.inb ix (p.slen b)])
    | _,_=>none
   | _=>none
  | none=>none
 | .extract x k=>match s x with
  | .tup n c=>if Nat.blt k n then some (c k,[],w x) else none
  | .ntup b i r=>match k with
   | 0=>some (.v (.bool b),[],w x)
   | 1=>some (.v (.int .i64 i),[],w x++[p.tru b])
   | 2=>some (.v (.int .i32 r),[],w x++[p.tru b])
   | _=>none
  | _=>none
 | .call c=>match c.callee with
  | .builtin b=>if nilApp c && anyVec (c.args.toList.map s) then none else owe ((c.args.toList.map w).flatten) (builtinD p tt objs ctr key (match o.dst with | some t=>orc.fresh t | none=>false) b c.argTypes.toList (c.args.toList.map s))
  | .value f=>match s f with
   | .fn (.func f') k caps=>callF p orc objs ctr key f f' (c.args.toList.map s++cellsOf k caps) (w f++(c.args.toList.map w).flatten)
   | _=>none
  | _=>none
 | _=>none
def gKind:Nat→Option (Nat × IntKind):=fun g=>if Nat.beq g 0 then some (256,.u8) else if Nat.beq g 1 then some (31,.i64) else if Nat.beq g 5 then some (10,.i64) else if Nat.beq g 6 then some (8,.i64) else none
def gtabS:Nat→Int→Int:=fun g i=>match g with | 0=>if i=9∨i=10∨i=11∨i=12∨i=13∨i=32 then 1 else 0 | 1=>([9670,9618,9225,9228,9229,9226,176,177,9252,9227,9496,9488,9484,9492,9532,9146,9147,9472,9148,9149,9500,9508,9524,9516,9474,8804,8805,960,8800,163,183]:List Int).getD i.toNat 0 | 5=>([0,1,2,4,8,16,0,32,64,128]:List Int).getD i.toNat 0 | 6=>([3,4,264,16,0,32,64,128]:List Int).getD i.toNat 0 | _=>0
def gCells:Nat→Option (Nat × (Nat→Value)):=fun g=>if Nat.beq g 2 then some (48,fun j=>match j with | 0=>.bool false | 1=>.int .i64 4 | 2=>.bool false | 3=>.int .i64 8 | 4=>.bool false | 5=>.int .i64 20 | 6=>.bool true | 7=>.int .i64 1 | 8=>.bool true | 9=>.int .i64 5 | 10=>.bool true | 11=>.int .i64 6 | 12=>.bool true | 13=>.int .i64 7 | 14=>.bool true | 15=>.int .i64 9 | 16=>.bool true | 17=>.int .i64 25 | 18=>.bool true | 19=>.int .i64 45 | 20=>.bool true | 21=>.int .i64 47 | 22=>.bool true | 23=>.int .i64 66 | 24=>.bool true | 25=>.int .i64 1000 | 26=>.bool true | 27=>.int .i64 1002 | 28=>.bool true | 29=>.int .i64 1003 | 30=>.bool true | 31=>.int .i64 1004 | 32=>.bool true | 33=>.int .i64 1006 | 34=>.bool true | 35=>.int .i64 1015 | 36=>.bool true | 37=>.int .i64 1047 | 38=>.bool true | 39=>.int .i64 1048 | 40=>.bool true | 41=>.int .i64 1049 | 42=>.bool true | 43=>.int .i64 2004 | 44=>.bool true | 45=>.int .i64 2500 | 46=>.bool true | 47=>.int .i64 2501 | _=>.bool false) else none
def gD (_:Pr) (g:Nat):D:=match gKind g with
 | some (n,k)=>.tab g n k
 | none=>match gCells g with
  | some (n,f)=>.imm n 1 (fun _ j=>.v (f j)) 0 0
  | none=>.junk
def rd (p:Pr) (slots:List D):Operand→D
 | .tmp t=>slots.getD t .junk
 | .const v=>cellD v
 | .func f=>.fn (.func f) 0 (fun _=>.junk)
 | .global g=>gD p g
def putSlot (slots:List D):Option Nat→D→List D
 | some t,d=>slots.set t d
 | none,_=>slots
def putObjs:List (Option Ob)→List (Nat × Option Ob)→List (Option Ob)
 | objs,[]=>objs
 | objs,(k,o) :: r=>putObjs (objs.set k o) r
def gval (p:Pr) (want:Bool):D→Option Bool
 | .v (.bool b)=>some (if want then b else p.bnot b)
 | .whn c d=>(gval p want d).map (p.band2 c)
 | _=>none
def gcond (p:Pr) (ops:Array Oper) (slots:List D) (g:Nat × Bool):Option Bool :=
 match (ops[g.1]?).bind (·.dst) with
 | some t=>gval p g.2 (slots.getD t .junk)
 | none=>none
def evStep (p:Pr) (tt:TT) (orc:Orc) (m:Nat) (ops:Array Oper) (o:Oper) (st:St):Option (St × List Prop) :=
 match evOp p tt orc (m+o.dst.getD 0) st.objs st.ctr (rd p st.slots) o with
 | none=>none
 | some (d,u,os)=>match o.guard with
  | none=>some ({ st with slots:=putSlot st.slots o.dst d,objs:=putObjs st.objs u },os)
  | some g=>match gcond p ops st.slots g,u,o.dst with
   | some c,[],some t=>some ({ st with slots:=st.slots.set t (.whn c d) },os.map (p.imp c))
   | _,_,_=>none
def idD:D→Option Nat
 | .bref id _ _=>some id
 | .aref id _ _ _ _=>some id
 | .imm _ _ _ _ _=>some 4096
 | _=>none
def objOfR (p:Pr) (ρ:Operand→D) (o:Oper):Option Nat:=match o.op with
 | .load _ x=>idD (strip p (ρ x)).1
 | .store _ x _=>idD (strip p (ρ x)).1
 | _=>none
def adRun (p:Pr) (tt:TT) (orc:Orc) (m:Nat) (ops:Array Oper):List Oper→St→List (Option Nat)
 | [],_=>[]
 | o :: l,st=>objOfR p (rd p st.slots) o :: match evStep p tt orc m ops o st with
  | some (st',_)=>adRun p tt orc m ops l st'
  | none=>[]
def evSteps (p:Pr) (tt:TT) (orc:Orc) (m:Nat) (ops:Array Oper):List Oper→St→Option (St × List Prop)
 | [],st=>some (st,[])
 | o :: r,st=>match evStep p tt orc m ops o st with
  | none=>none
  | some (st',os)=>match evSteps p tt orc m ops r st' with
   | none=>none
   | some (st'',os')=>some (st'',os++os')
inductive GL where
 | slot (t:Nat)
 | sub (t j:Nat)
 | cell (id j:Nat)
def glGet (st:St):GL→D
 | .slot t=>st.slots.getD t .junk
 | .sub t j=>match st.slots.getD t .junk with
  | .agg k c=>if Nat.blt j k then c j else .junk
  | _=>.junk
 | .cell id j=>match st.objs[id]? with
  | some (some (.box _ cs))=>cs.getD j .junk
  | _=>.junk
def glSet (st:St) (d:D):GL→St
 | .slot t=>{ st with slots:=st.slots.set t d }
 | .sub t j=>match st.slots.getD t .junk with
  | .agg k c=>{ st with slots:=st.slots.set t (.agg k (fun i=>if Nat.beq i j then d else c i)) }
  | _=>st
 | .cell id j=>match st.objs[id]? with
  | some (some (.box g cs))=>{ st with objs:=st.objs.set id (some (.box g (cs.set j d))) }
  | _=>st
def out0 (p:Pr):D→D→Prop
 | _,.junk=>True
 | .v (.int k x),.v (.int k' y)=>if k=k' then p.eqI x y else False
 | .v (.bool x),.v (.bool y)=>p.eqB x y
 | .v (.string x),.v (.string y)=>p.eqS x y
 | .v .nilIface,.v .nilIface=>True
 | .nilsl,.nilsl=>True
 | .nilsl,.sl _ n _ _=>p.eqI n 0
 | .sl sz n t f,.sl sz' n' t' f'=>if Nat.beq sz sz' then p.eqI n n'∧p.imp t' (p.tru t)∧p.all2 n sz (fun i j=>out0 p (f i j) (f' i j)) else False
 | .agg k c,.agg k' c'=>if Nat.beq k k' then p.all2 1 k (fun _ j=>out0 p (c j) (c' j)) else False
 | .tup k c,.tup k' c'=>if Nat.beq k k' then p.all2 1 k (fun _ j=>out0 p (c j) (c' j)) else False
 | .fn (.func f) k c,.fn (.func f') k' c'=>p.eqN f f'∧p.eqN k k'∧p.all2 1 k (fun _ j=>out0 p (c j) (c' j))
 | .imm sz n f i j,.imm sz' n' f' i' j'=>if Nat.beq sz sz' && Nat.beq j j' then p.eqI n n'∧p.eqI i i'∧p.all2 n sz (fun i j=>out0 p (f i j) (f' i j)) else False
 | _,_=>False
def tgtR (p:Pr) (src g2 sz2:Nat) (f2:Int→Nat→D) (dst:Option (Nat × Nat)) (d:D):D→Prop
 | .cnd b x y=>p.imp b (tgtR p src g2 sz2 f2 dst d x)∧p.imp (p.bnot b) (tgtR p src g2 sz2 f2 dst d y)
 | .vec id' g' sz' off' n'=>match d,dst with
  | .vec id g sz off n,some (k,c)=>if Nat.beq id src && Nat.beq id' k && Nat.beq sz sz' && Nat.beq sz sz2 then p.eqN g g2∧p.eqN g' c∧p.eqI off off'∧p.eqI n n' else False
  | _,_=>False
 | .sl sz' n' t' f'=>match d,dst with
  | .vec id g sz off n,none=>if Nat.beq id src && Nat.beq sz sz' && Nat.beq sz sz2 then p.eqN g g2∧p.eqI n n'∧p.eqB t' false∧p.all2 n sz (fun i j=>out0 p (f2 (p.add off i) j) (f' i j)) else False
  | _,_=>out0 p d (.sl sz' n' t' f')
 | d'=>out0 p d d'
def remapR (p:Pr) (src g2 sz2:Nat) (f2:Int→Nat→D) (dst:Option (Nat × Nat)):D→D→Prop
 | .cnd b x y,d'=>p.imp b (remapR p src g2 sz2 f2 dst x d')∧p.imp (p.bnot b) (remapR p src g2 sz2 f2 dst y d')
 | d,d'=>tgtR p src g2 sz2 f2 dst d d'
inductive Gh where
 | freeze (l:GL)
 | thaw (l:GL) (key sz:Nat)
 | move (l:GL) (key:Nat)
 | forget (key:Nat)
 | empty (key sz:Nat)
 | cool (key src:Nat) (f:Int→Nat→D)
 | heat (key src dst:Nat) (f:Int→Nat→D)
def evGh (p:Pr):List Gh→St→Option (St × List Prop)
 | [],st=>some (st,[])
 | .freeze l :: r,st=>match glGet st l with
  | .vec id g sz off n=>match st.objs[id]? with
   | some (some (.arr g' sz' N tight f))=>if Nat.beq sz sz' then
    match evGh p r (glSet { st with objs:=st.objs.set id none,ctr:=p.nxt st.ctr } (.sl sz n (p.band2 tight (p.eq (p.add off n) N)) (fun i j=>f (p.add off i) j)) l) with
    | some (st',os)=>some (st',p.eqN g g' :: os)
    | none=>none
    else none
   | _=>none
  | _=>none
 | .thaw l key sz :: r,st=>match glGet st l,st.objs[key]? with
  | .nilsl,some none=>evGh p r (glSet { st with objs:=st.objs.set key (some (.arr st.ctr sz 0 false (fun _ _=>.junk))),ctr:=p.nxt st.ctr } (.vec key st.ctr sz 0 0) l)
  | _,_=>none
 | .forget key :: r,st=>evGh p r { st with objs:=st.objs.set key none,ctr:=p.nxt st.ctr }
 | .empty key sz :: r,st=>match st.objs[key]? with
  | some none=>evGh p r { st with objs:=st.objs.set key (some (.arr st.ctr sz 0 false (fun _ _=>.junk))),ctr:=p.nxt st.ctr }
  | _=>none
 | .cool key src f' :: r,st=>match st.objs[key]?,st.objs[src]? with
  | some (some (.arr g sz N t f)),some (some (.arr g2 sz2 _ _ f2))=>if Nat.beq key src then none else
   match evGh p r { st with objs:=(st.objs.set src none).set key (some (.arr g sz N t f')),ctr:=p.nxt st.ctr } with
   | some (st',os)=>some (st',p.all2 N sz (fun i j=>remapR p src g2 sz2 f2 none (f i j) (f' i j)) :: os)
   | none=>none
  | _,_=>none
 | .heat key src dst f' :: r,st=>match st.objs[key]?,st.objs[src]?,st.objs[dst]? with
  | some (some (.arr g sz N t f)),some (some (.arr g2 sz2 N2 t2 f2)),some none=>if Nat.beq key src then none else
   match evGh p r { st with objs:=((st.objs.set src (some (.dead st.ctr))).set dst (some (.arr st.ctr sz2 N2 t2 f2))).set key (some (.arr g sz N t f')),ctr:=p.nxt st.ctr } with
   | some (st',os)=>some (st',p.all2 N sz (fun i j=>remapR p src g2 sz2 f2 (some (dst,st.ctr)) (f i j) (f' i j)) :: os)
   | none=>none
  | _,_,_=>none
 | .move l key :: r,st=>match glGet st l,st.objs[key]? with
  | .vec id g sz off n,some none=>match st.objs[id]? with
   | some (some (.arr g' sz' N tight f))=>if Nat.beq sz sz' then
    match evGh p r (glSet { st with objs:=(st.objs.set id (some (.dead st.ctr))).set key (some (.arr st.ctr sz N tight f)),ctr:=p.nxt st.ctr } (.vec key st.ctr sz off n) l) with
    | some (st',os)=>some (st',p.eqN g g' :: os)
    | none=>none
    else none
   | _=>none
  | _,_=>none
structure Cx where
 tt:TT
 orc:Orc
 m:Nat
 gh:Nat→List Gh
def owners (orc:Orc) (m:Nat) (ops:List Oper):List (Nat × Nat) :=
 ops.filterMap fun o=>match o.op with
  | .call c=>match c.callee with
   | .value (.func f)=>if Nat.beq (orc.knd f) 0 then none else some (f+f,orc.knd f)
   | .value (.tmp _)=>match o.dst with
    | some d=>if Nat.beq (orc.knd (m+d+1024)) 7 then some (d+d+1,7) else none
    | none=>none
   | _=>none
  | _=>none
def tidy:List D→List D
 | []=>[]
 | .whn _ _ :: r=>.junk :: tidy r
 | d :: r=>d :: tidy r
def lateB (o:Oper) (l:List Oper):Bool:=match o.op with
 | .load _ (.tmp t)=>l.any fun x=>match x.dst with
  | some s=>Nat.beq s t
  | none=>false
 | .store _ (.tmp t) _=>l.any fun x=>match x.dst with
  | some s=>Nat.beq s t
  | none=>false
 | _=>false
def adFin (p:Pr) (slots:List D):List Oper→List (Option Nat)
 | []=>[]
 | o :: l=>(if lateB o (o :: l) then none else objOfR p (rd p slots) o) :: adFin p slots l
def farRun (p:Pr) (cx:Cx) (ops:Array Oper) (st:St):List (Option Nat):=if cx.orc.fresh 999 then adFin p st.slots ops.toList else []
def evRegion (p:Pr) (cx:Cx) (id:Nat) (ops:Array Oper) (draw:Bool) (st:St):Option (St × List Prop) :=
 match evGh p (cx.gh id) st with
 | none=>none
 | some (st0,os0)=>match evSteps p cx.tt cx.orc cx.m ops ops.toList st0 with
  | none=>none
  | some (st',os)=>some ({ st' with slots:=tidy st'.slots,ctr:=p.nxt st'.ctr },os0++os++(if draw then [p.dr ops (owners cx.orc cx.m ops.toList) (farRun p cx ops st')] else []))
def thenQ (N:St→Prop) (Q:Exit→St→Prop):Exit→St→Prop
 | .normal,st=>N st
 | e,st=>Q e st
def inBlockQ (id:Nat) (Q:Exit→St→Prop):Exit→St→Prop
 | .exit i,st=>if Nat.beq i id then Q .normal st else Q (.exit i) st
 | e,st=>Q e st
def wp (p:Pr) (cx:Cx):Code→(Exit→St→Prop)→St→Prop
 | .skip,Q,st=>Q .normal st
 | .region id ops draw,Q,st=>match evRegion p cx id ops draw st with
  | some (st',os)=>conj os (Q .normal st')
  | none=>p.tr (.region id ops draw) Q st
 | .seq a b,Q,st=>wp p cx a (thenQ (wp p cx b Q) Q) st
 | .cond c a b,Q,st=>match strip p (rd p st.slots c) with
  | (.v (.bool t),os)=>conj os (p.ifb t (wp p cx a Q st) (wp p cx b Q st))
  | _=>False
 | .block id b,Q,st=>wp p cx b (inBlockQ id Q) st
 | .exit id,Q,st=>Q (.exit id) st
 | .ret,Q,st=>Q .ret st
 | c,Q,st=>p.tr c Q st
end Go.Vx
