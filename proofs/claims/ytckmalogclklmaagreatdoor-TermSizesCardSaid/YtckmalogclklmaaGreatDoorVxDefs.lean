/- The evaluator of the value model: what one operation of the Go model does to values that are kept apart from memory. Definitions alone; nothing is claimed here. -/
import Derived.Still
import Derived.Laws.Sem
set_option linter.all false
namespace Go.Vx
inductive D where
 | v (x:Value)
 | cO
 | sl (sz:Nat) (n:Int) (tight:Bool) (f:Int→Nat→D)
 | agg (k:Nat) (c:Nat→D)
 | gX (k:Nat) (c:Nat→D)
 | dI (id g j:Nat)
 | kX (id g sz:Nat) (i:Int) (j:Nat)
 | gY (sz:Nat) (n:Int) (f:Int→Nat→D) (i:Int) (j:Nat)
 | vec (id g sz:Nat) (off n:Int)
 | own (sz:Nat) (n:Int) (tight:Bool) (f:Int→Nat→D)
 | fn (f:Fn) (k:Nat) (c:Nat→D)
 | BH (b:Bool) (d:D)
 | cnd (b:Bool) (d e:D)
 | mp (kk kv:IntKind) (es:List (Int × Int))
 | M5 (id g:Nat)
 | UL (b:Bool) (i r:Int)
 | tab (g n:Nat) (k:IntKind)
 | Ac (t:TypeId) (d:D)
 | uq (q k:Nat) (c:Nat→D) (sz:Nat) (n:Int) (tight:Bool) (f:Int→Nat→D)
 | junk
inductive Ob where
 | box (g:Nat) (cs:List D)
 | arr (g sz:Nat) (n:Int) (tight:Bool) (f:Int→Nat→D)
 | iter (g:Nat) (s:ByteArray) (pos:Int)
 | dead (g:Nat)
def Ob.gen:Ob→Nat
 | .box g _=>g
 | .arr g _ _ _ _=>g
 | .iter g _ _=>g
 | .dead g=>g
structure St where
 slots:List D
 objs:List (Option Ob)
 ctr:Nat
inductive TK where
 | slice (e:TypeId)
 | array (n:Nat) (e:TypeId)
 | struct (fs:List (Nat × TypeId))
 | ptr (e:TypeId)
 | int (k:IntKind)
 | bool
 | string
 | map (k e:TypeId)
 | iface
 | other
inductive EK where
 | int (k:IntKind)
 | bool
 | str
 | skip
structure TI where
 size:Nat
 bytes:Nat
 kind:TK
 zero:Option (List Value)
 eqs:Option (List EK)
 plain:Bool
abbrev TT:=List (Nat × TI)
def d9:TT→Nat→Option TI
 | [],_=>none
 | (k,ti) :: r,t=>if Nat.beq k t then some ti else d9 r t
def TI.agg (ti:TI):Bool:=match ti.kind with
 | .struct _=>true
 | .array _ _=>true
 | _=>false
def iW (tt:TT) (t:TypeId):Nat:=match d9 tt t with
 | some ti=>ti.size
 | none=>0
structure Pr where
 add:Int→Int→Int
 sub:Int→Int→Int
 mul:Int→Int→Int
 neg:Int→Int
 quo:Int→Int→Int
 rem:Int→Int→Int
 bnd:IntKind→Int→Int→Int
 bor:IntKind→Int→Int→Int
 aao:IntKind→Int→Int→Int
 adz:IntKind→Int→Int→Int
 shl:IntKind→Int→Int→Int
 shr:IntKind→Int→Int→Int
 wrap:IntKind→Int→Int
 uf:Int→Int→Int
 imax:Int→Int→Int
 FP:Bool→Int→Int→Int
 lt:Int→Int→Bool
 le:Int→Int→Bool
 eq:Int→Int→Bool
 C8:Bool→Bool
 rJ:Bool→Bool→Bool
 sel:Bool→Bool→Bool→Bool
 aap:Bool→Bool→Bool
 af4:Bool→ByteArray→ByteArray→ByteArray
 sG:ByteArray→Int
 aaq:ByteArray→Int→Int
 Z4:ByteArray→Int→Int→ByteArray
 af5:ByteArray→ByteArray→ByteArray
 seq:ByteArray→ByteArray→Bool
 af6:List (Int × Int)→Int→Int
 adA:ByteArray→Int→Int
 XP:ByteArray→Int→Int
 af7:Nat→Int→Int
 adB:Int→(Int→Int)→ByteArray
 NZ:Nat→Nat
 xw:Int→Int→Prop
 cut:Int→Int→Int→Prop
 rng:IntKind→Int→Prop
 Vb:Int→Prop
 Vd:Int→Prop
 nP:Int→Int→Prop
 jh:Nat→Nat→Prop
 U8:Nat→Nat→Prop
 NG:Bool→Bool→Prop
 eqS:ByteArray→ByteArray→Prop
 Bt:Bool→Prop
 imp:Bool→Prop→Prop
 make:Nat→Int→Int→Prop
 grow:Nat→Int→Prop
 all2:Int→Nat→(Int→Nat→Prop)→Prop
 ok:FuncId→List D→D→Prop
 F6:FuncId→List D→D→Prop
 Jw:FuncId→List D→List Ob→List Ob→D→Prop
 see:List (Option Ob)→FuncId→List D→D→Prop
 dr:Array Oper→List (Nat × Nat)→List (Option Nat)→Prop
 X4:Bool→Prop→Prop→Prop
 tr:Code→(Exit→St→Prop)→St→Prop
inductive aU where
 | prop (q:Prop)
 | xw (i n:Int)
 | cut (l h n:Int)
 | rng (k:IntKind) (x:Int)
 | Vb (x:Int)
 | Vd (x:Int)
 | nP (x y:Int)
 | jh (x y:Nat)
 | U8 (x y:Nat)
 | NG (x y:Bool)
 | Bt (b:Bool)
 | imp (b:Bool) (o:aU)
 | make (b:Nat) (l c:Int)
 | grow (b:Nat) (n:Int)
 | lG (d:D)
 | UM (n:Int) (sz:Nat) (f:Int→Nat→D)
 | u8s (n:Int) (f:Int→Nat→D)
 | flat (d:D)
 | ok (f:FuncId) (args:List D) (d:D)
 | F6 (f:FuncId) (args:List D) (d:D)
 | Jw (f:FuncId) (args:List D) (pre post:List Ob) (d:D)
 | see (objs:List (Option Ob)) (f:FuncId) (args:List D) (d:D)
 | dr (ops:Array Oper) (own:List (Nat × Nat)) (ig:List (Option Nat))
def wO:Value→D
 | .slice none 0 0=>.cO
 | x=>.v x
def d2i:D→Int
 | .v (.int _ x)=>x
 | _=>0
def aas:D→Prop
 | .v (.int .u8 _)=>True
 | _=>False
def jM (p:Pr) (b:Bool):D→D→D
 | .v (.int k x),.v (.int k' y)=>if k=k' then .v (.int k (p.FP b x y)) else .junk
 | .v (.bool x),.v (.bool y)=>.v (.bool (p.sel b x y))
 | .v (.string x),.v (.string y)=>.v (.string (p.af4 b x y))
 | .sl sz n t f,.sl sz' n' t' f'=>if Nat.beq sz sz' then .sl sz (p.FP b n n') (p.sel b t t') (fun i j=>jM p b (f i j) (f' i j)) else .junk
 | .agg k c,.agg k' c'=>if Nat.beq k k' then .agg k (fun j=>jM p b (c j) (c' j)) else .junk
 | .cO,.cO=>.cO
 | .junk,_=>.junk
 | x,y=>.cnd b x y
def strip (p:Pr):D→D × List aU
 | .BH b d=>let r:=strip p d;(r.1,aU.Bt b :: r.2)
 | .cnd b d _=>let r:=strip p d;(r.1,aU.Bt b :: r.2)
 | d=>(d,[])
def af8:D→Bool
 | .v x=>x.oneCell'
 | .cO=>true
 | .sl _ _ _ _=>true
 | .dI _ _ _=>true
 | .kX _ _ _ _ _=>true
 | .gY _ _ _ _ _=>true
 | .vec _ _ _ _ _=>true
 | .fn _ _ _=>true
 | .mp _ _ _=>true
 | .M5 _ _=>true
 | .tab _ _ _=>true
 | .Ac _ _=>true
 | _=>false
def cellsOf:Nat→(Nat→D)→List D
 | 0,_=>[]
 | n+1,c=>c 0 :: cellsOf n (fun j=>c (j+1))
def DZ (ti:TI):D→Option (List D)
 | .agg k c=>if ti.agg && Nat.beq k ti.size then some (cellsOf k c) else none
 | d=>if !ti.agg && af8 d && Nat.beq ti.size 1 then some [d] else none
def kJ:List D→Nat→List D→List D
 | cs,_,[]=>cs
 | [],_,_=>[]
 | _ :: cs,0,d :: ds=>d :: kJ cs 0 ds
 | c :: cs,j+1,ds=>c :: kJ cs j ds
def aeY (p:Pr):EK→D→D→Option Bool
 | .int k,.v (.int k1 a),.v (.int k2 b)=>if k1=k then if k2=k then some (p.eq a b) else none else none
 | .bool,.v (.bool a),.v (.bool b)=>some (p.aap a b)
 | .str,.v (.string a),.v (.string b)=>some (p.seq a b)
 | .skip,_,_=>some true
 | _,_,_=>none
def Y9 (p:Pr):List EK→(Nat→D)→(Nat→D)→Option Bool
 | [],_,_=>some true
 | e :: r,c,c'=>match aeY p e (c 0) (c' 0),Y9 p r (fun j=>c (j+1)) (fun j=>c' (j+1)) with
  | some b,some b'=>some (p.rJ b b')
  | _,_=>none
def bin (p:Pr) (op:BinOp) (xt:Option TI):D→D→Option (D × List aU)
 | .agg k c,.agg k' c' =>
  match xt with
  | some ti=>match ti.eqs with
   | some l=>if Nat.beq k l.length && Nat.beq k' l.length then match op,Y9 p l c c' with
    | .eql,some b=>some (.v (.bool b),[])
    | .neq,some b=>some (.v (.bool (p.C8 b)),[])
    | _,_=>none
    else none
   | none=>none
  | none=>none
 | .v (.int k a),.v (.int k' b) =>
  match op with
  | .shl=>some (.v (.int k (p.shl k a b)),[aU.Vd b])
  | .shr=>some (.v (.int k (p.shr k a b)),[aU.Vd b])
  | op=>if k=k' then
   match op with
   | .add=>some (.v (.int k (p.add a b)),[aU.rng k (p.add a b)])
   | .sub=>some (.v (.int k (p.sub a b)),[aU.rng k (p.sub a b)])
   | .mul=>some (.v (.int k (p.mul a b)),[aU.rng k (p.mul a b)])
   | .quo=>some (.v (.int k (p.quo a b)),[aU.Vb b,aU.rng k (p.quo a b)])
   | .rem=>some (.v (.int k (p.rem a b)),[aU.Vb b])
   | .and=>some (.v (.int k (p.bnd k a b)),[])
   | .or=>some (.v (.int k (p.bor k a b)),[])
   | .xor=>some (.v (.int k (p.aao k a b)),[])
   | .andNot=>some (.v (.int k (p.adz k a b)),[])
   | .eql=>some (.v (.bool (p.eq a b)),[])
   | .neq=>some (.v (.bool (p.C8 (p.eq a b))),[])
   | .lss=>some (.v (.bool (p.lt a b)),[])
   | .leq=>some (.v (.bool (p.le a b)),[])
   | .gtr=>some (.v (.bool (p.lt b a)),[])
   | .geq=>some (.v (.bool (p.le b a)),[])
   | _=>none
   else none
 | .v (.bool a),.v (.bool b) =>
  match xt with
  | some ti=>match ti.kind with
   | .bool=>match op with
    | .eql=>some (.v (.bool (p.aap a b)),[])
    | .neq=>some (.v (.bool (p.C8 (p.aap a b))),[])
    | _=>none
   | _=>none
  | none=>none
 | .v (.string a),.v (.string b) =>
  match op with
  | .add=>some (.v (.string (p.af5 a b)),[aU.rng .i64 (p.add (p.sG a) (p.sG b))])
  | .eql=>some (.v (.bool (p.seq a b)),[])
  | .neq=>some (.v (.bool (p.C8 (p.seq a b))),[])
  | _=>none
 | _,_=>none
abbrev Y:=D × List (Nat × Option Ob) × List aU
def val (r:Option (D × List aU)):Option Y:=r.map fun (d,os)=>(d,[],os)
def DW (os:List aU) (r:Option Y):Option Y:=r.map fun (d,u,os')=>(d,u,os++os')
def l5 (ti:TI) (len j:Nat) (c:Nat→D):Option D :=
 if ti.agg then if Nat.ble (j+ti.size) len then some (.agg ti.size (fun jj=>c (j+jj))) else none
 else if Nat.ble (j+1) len then some (c j) else none
def rH (p:Pr) (objs:List (Option Ob)) (ti:TI):D→Option (D × List aU)
 | .dI id g j=>match objs[id]? with
  | some (some (.box g' cs))=>(l5 ti cs.length j (fun j=>cs.getD j .junk)).map fun d=>(d,[aU.jh g g'])
  | _=>none
 | .kX id g sz i j=>match objs[id]? with
  | some (some (.arr g' sz' _ _ f))=>if Nat.beq sz sz' then (l5 ti sz j (f i)).map fun d=>(d,[aU.jh g g']) else none
  | _=>none
 | .gY sz _ f i j=>(l5 ti sz j (f i)).map fun d=>(d,[])
 | .junk=>some (.junk,[aU.prop False])
 | _=>none
def BJ (p:Pr) (i:Int) (j:Nat) (ds:List D) (f:Int→Nat→D):Int→Nat→D:=fun i' j' =>
 if Nat.ble j j' && Nat.blt j' (j+ds.length) then jM p (p.eq i' i) (ds.getD (j'-j) .junk) (f i' j') else f i' j'
def KU (p:Pr) (objs:List (Option Ob)) (ti:TI) (a x:D):Option Y :=
 match DZ ti x with
 | none=>none
 | some ds=>match a with
  | .dI id g j=>match objs[id]? with
   | some (some (.box g' cs))=>if Nat.ble (j+ds.length) cs.length then some (.junk,[(id,some (.box g' (kJ cs j ds)))],[aU.jh g g']) else none
   | _=>none
  | .kX id g sz i j=>match objs[id]? with
   | some (some (.arr g' sz' n t f)) =>
    if Nat.beq sz sz' && Nat.ble (j+ds.length) sz then some (.junk,[(id,some (.arr g' sz' n t (BJ p i j ds f)))],[aU.jh g g']) else none
   | _=>none
  | _=>none
def QN:D→Bool
 | .cnd _ (.dI _ _ _) (.dI _ _ _)=>true
 | .cnd _ (.dI _ _ _) (.cnd _ _ _)=>true
 | _=>false
def NW (p:Pr):D→D × List aU
 | .BH b d=>(d,[aU.Bt b])
 | d=>(d,[])
def wI (p:Pr) (id G:Nat) (os:List aU):D→Prop
 | .dI id' g _=>id'=id∧aU.jh g G∈os
 | .cnd _ x e=>wI p id G os x∧wI p id G os e
 | _=>False
def Za (p:Pr) (i:Int) (id g sz:Nat):Nat→Nat→Nat→D
 | 0,_,j=>.dI id g j
 | n+1,k,j=>.cnd (p.eq i (k:Int)) (.dI id g j) (Za p i id g sz n (k+1) (j+sz))
def Bd (p:Pr) (id g':Nat) (cs:List D) (ti:TI):D→Option (D × List aU)
 | .dI id' g j=>if Nat.beq id' id then (l5 ti cs.length j (fun j=>cs.getD j .junk)).map fun d=>(d,[aU.jh g g']) else none
 | .cnd b x e=>match Bd p id g' cs ti x,Bd p id g' cs ti e with
  | some (d,os),some (d',os')=>some (jM p b d d',os++os')
  | _,_=>none
 | _=>none
def yB:D→Nat
 | .dI id _ _=>id
 | .cnd _ x _=>yB x
 | _=>0
def V9 (p:Pr) (objs:List (Option Ob)) (ti:TI) (a:D):Option (D × List aU):=match objs[yB a]? with
 | some (some (.box g' cs))=>Bd p (yB a) g' cs ti a
 | _=>none
def qL (p:Pr) (b:Bool):List D→Nat→List D→List D
 | cs,_,[]=>cs
 | [],_,_=>[]
 | c :: cs,0,d :: ds=>jM p b d c :: qL p b cs 0 ds
 | c :: cs,j+1,ds=>c :: qL p b cs j ds
def xJ (p:Pr) (id g':Nat) (ds:List D) (n:Nat):Bool→D→List D→Option (List D × List aU)
 | c,.dI id' g j,cs=>if Nat.beq id' id && Nat.ble (j+ds.length) n then some (qL p c cs j ds,[aU.jh g g']) else none
 | c,.cnd b (.dI id' g j) e,cs=>if Nat.beq id' id && Nat.ble (j+ds.length) n then match xJ p id g' ds n (p.rJ c (p.C8 b)) e (qL p (p.rJ c b) cs j ds) with
  | some (r,os)=>some (r,aU.jh g g' :: os)
  | none=>none
  else none
 | _,_,_=>none
def RX (p:Pr) (id g':Nat) (ds:List D) (n:Nat):D→List D→Option (List D × List aU)
 | .cnd b (.dI id' g j) e,cs=>if Nat.beq id' id && Nat.ble (j+ds.length) n then match xJ p id g' ds n (p.C8 b) e (qL p b cs j ds) with
  | some (r,os)=>some (r,aU.jh g g' :: os)
  | none=>none
  else none
 | _,_=>none
def QS (p:Pr) (objs:List (Option Ob)) (ti:TI) (a x:D):Option Y:=match DZ ti x,objs[yB a]? with
 | some ds,some (some (.box g' cs))=>match RX p (yB a) g' ds cs.length a cs with
  | some (cs',os)=>some (.junk,[(yB a,some (.box g' cs'))],os)
  | none=>none
 | _,_=>none
def adC : D→Option Nat
 | .v (.int _ (.ofNat n))=>some n
 | _=>none
def aat (p:Pr) (tt:TT) (ti:TI) (x i:D):Option (D × List aU) :=
 match ti.kind with
 | .slice e=>match i with
  | .v (.int _ ix)=>match x with
   | .vec id g sz off n=>if Nat.beq (iW tt e) sz && !Nat.beq sz 0 then some (.kX id g sz (p.add off ix) 0,[aU.xw ix n]) else none
   | .sl sz n _ f=>if Nat.beq (iW tt e) sz && !Nat.beq sz 0 then some (.gY sz n f ix 0,[aU.xw ix n]) else none
   | _=>none
  | _=>none
 | .array n e=>match x with
  | .tab g m k=>match i with
   | .v (.int _ ix)=>if Nat.blt 1 n && Nat.beq (iW tt e) 1 && Nat.beq m n then some (.gY 1 (n:Int) (fun i _=>.v (.int k (p.af7 g i))) ix 0,[aU.xw ix (n:Int)]) else none
   | _=>none
  | _=>match adC i with
   | some l=>if Nat.blt l n && !Nat.beq (iW tt e) 0 then
    match x with
    | .dI id g j=>some (.dI id g (j+l*iW tt e),[])
    | .kX id g sz i j=>some (.kX id g sz i (j+l*iW tt e),[])
    | .gY sz n f i j=>some (.gY sz n f i (j+l*iW tt e),[])
    | _=>none
    else none
   | none=>none
 | _=>none
def aau (p:Pr) (tt:TT) (ti:TI) (x i:D):Option (D × List aU) :=
 match ti.kind with
 | .array (m+1) e=>match x,i with
  | .dI id g j,.v (.int _ ix)=>if Nat.ble m 8 && !Nat.beq (iW tt e) 0 then some (Za p ix id g (iW tt e) m 0 j,[aU.xw ix ((m+1:Nat):Int)]) else none
  | _,_=>none
 | _=>none
def aav (tt:TT) (ti:TI) (x:D) (k:Nat):Option (D × List aU) :=
 match ti.kind with
 | .struct fs=>match fs[k]? with
  | some (off,ft)=>if Nat.beq (iW tt ft) 0 then none else match x with
   | .dI id g j=>some (.dI id g (j+off),[])
   | .kX id g sz i j=>some (.kX id g sz i (j+off),[])
   | .gY sz n f i j=>some (.gY sz n f i (j+off),[])
   | _=>none
  | none=>none
 | _=>none
def Zb (tt:TT) (t:TypeId) (k:Nat) (c:Nat→D) (off:Nat):Option (D × List aU) :=
 match d9 tt t with
 | some ti=>(l5 ti k off c).map fun d=>(d,[])
 | none=>none
def bound (p:Pr) (dflt:Int):Option D→Option Int
 | none=>some dflt
 | some (.v (.int _ i))=>some i
 | _=>none
def af9 (p:Pr) (tt:TT) (ti:TI) (x:D) (lo hi mx:Option D):Option (D × List aU) :=
 match ti.kind with
 | .slice e=>if Nat.beq (iW tt e) 0 then none else match x with
  | .vec id g sz off n=>if Nat.beq (iW tt e) sz then
   match mx,bound p 0 lo,bound p n hi with
   | none,some l,some h=>some (.vec id g sz (p.add off l) (p.sub h l),[aU.cut l h n])
   | some (.v (.int _ m)),some l,some h=>match hi with
    | some _=>some (.vec id g sz (p.add off l) (p.sub h l),[aU.cut l h n,aU.cut h m n])
    | none=>none
   | _,_,_=>none
   else none
  | .sl sz n t f=>if Nat.beq (iW tt e) sz then
   match mx,bound p 0 lo,bound p n hi with
   | none,some l,some h=>some (.sl sz (p.sub h l) (p.rJ t (p.eq h n)) (fun i j=>f (p.add l i) j),[aU.cut l h n])
   | some (.v (.int _ m)),some l,some h=>match hi with
    | some _=>some (.sl sz (p.sub h l) (p.eq m h) (fun i j=>f (p.add l i) j),[aU.cut l h n,aU.cut h m n])
    | none=>none
   | _,_,_=>none
   else none
  | .cO=>match mx,bound p 0 lo,bound p 0 hi with
   | none,some l,some h=>some (.cO,[aU.nP l 0,aU.nP h 0])
   | _,_,_=>none
  | _=>none
 | .string=>match x with
  | .v (.string s)=>match mx,bound p 0 lo,bound p (p.sG s) hi with
   | none,some l,some h=>some (.v (.string (p.Z4 s l h)),[aU.cut l h (p.sG s)])
   | _,_,_=>none
  | _=>none
 | _=>none
def sM (p:Pr) (objs:List (Option Ob)) (sz:Nat):D→Option (Int × (Int→Nat→D) × List aU)
 | .cO=>some (0,fun _ _=>.cO,[])
 | .sl sz' n _ f=>if Nat.beq sz sz' then some (n,f,[]) else none
 | .vec id g sz' off n=>match objs[id]? with
  | some (some (.arr g' xK _ _ f))=>if Nat.beq sz sz' && Nat.beq sz xK then some (n,fun i j=>f (p.add off i) j,[aU.jh g g']) else none
  | _=>none
 | .v (.string s)=>if Nat.beq sz 1 then some (p.sG s,fun i _=>.v (.int .u8 (p.aaq s i)),[]) else none
 | _=>none
def sZ (p:Pr) (n:Int) (f h:Int→Nat→D):Int→Nat→D:=fun i j=>jM p (p.lt i n) (f i j) (h (p.sub i n) j)
def XJ (p:Pr) (objs:List (Option Ob)) (sz:Nat) (x y:D):Option (Int × (Int→Nat→D) × List aU):=match x with
 | .vec id _ _ off _=>match y with
  | .cO=>match objs[id]? with
   | some (some (.arr _ _ _ _ f))=>some (0,fun i j=>f (p.add off i) j,[])
   | _=>sM p objs sz .cO
  | y=>sM p objs sz y
 | _=>sM p objs sz y
def qz (p:Pr) (objs:List (Option Ob)) (ctr key:Nat) (sz bytes:Nat) (owned:Bool) (x y:D):Option Y :=
 match XJ p objs sz x y with
 | none=>none
 | some (m,h,os)=>match x with
  | .cO=>match objs[key]? with
   | some none=>some (.vec key ctr sz 0 m,[(key,some (.arr ctr sz m false h))],os++[aU.grow bytes m])
   | _=>none
  | .sl sz' n t f=>if Nat.beq sz sz' then
    if owned then match objs[key]? with
     | some none=>some (.vec key ctr sz 0 m,[(key,some (.arr ctr sz m false h))],os++[aU.grow bytes m,aU.nP n 0,aU.Bt t])
     | _=>none
    else some (.sl sz (p.add n m) false (sZ p n f h),[],os++[aU.grow bytes (p.add n m),aU.Bt t])
   else none
  | .vec id g sz' off n=>match objs[id]? with
   | some (some (.arr g' xK _ _ f)) =>
    if Nat.beq sz sz' && Nat.beq sz xK then
     if Nat.beq id key then
      some (.vec key ctr sz 0 (p.add n m),[(key,some (.arr ctr sz (p.add n m) false (sZ p n (fun i j=>f (p.add off i) j) h)))],os++[aU.jh g g',aU.U8 g ctr,aU.grow bytes (p.add n m)])
     else match objs[key]? with
      | some none=>some (.vec key ctr sz 0 (p.add n m),[(id,some (.dead ctr)),(key,some (.arr ctr sz (p.add n m) false (sZ p n (fun i j=>f (p.add off i) j) h)))],os++[aU.jh g g',aU.grow bytes (p.add n m)])
      | _=>none
    else none
   | _=>none
  | _=>none
def adD (p:Pr) (objs:List (Option Ob)) (sz:Nat) (x y:D):Option Y :=
 match sM p objs sz y with
 | none=>none
 | some (m,h,os)=>match x with
  | .vec id g sz' off n=>match objs[id]? with
   | some (some (.arr g' xK N t f)) =>
    if Nat.beq sz sz' && Nat.beq sz xK then
     some (.v (.int .i64 (p.uf m n)),[(id,some (.arr g' xK N t (fun i j=>jM p (p.rJ (p.le off i) (p.lt i (p.add off (p.uf m n)))) (h (p.sub i off) j) (f i j))))],os++[aU.jh g g'])
    else none
   | _=>none
  | _=>none
def Du (place:Nat→Option (Nat × Nat)) (tis:Nat→Option TI):List (Nat × D)→List D→Option (List D)
 | [],cs=>some cs
 | (i,d) :: r,cs=>match place i,tis i with
  | some (off,size),some ti=>match DZ ti d with
   | some ds=>if Nat.beq ds.length size && Nat.ble (off+size) cs.length then Du place tis r (kJ cs off ds) else none
   | none=>none
  | _,_=>none
def Fv (n:Nat) (cs:List D):List D:=match n with
 | 0=>[]
 | n+1=>cs++Fv n cs
def Wv (p:Pr) (sz:Nat):Nat→List D→Int→Int→Nat→D
 | 0,_,_,_,_=>.cO
 | 1,cs,_,_,j=>cs.getD j .junk
 | n+2,cs,at_,i,j=>jM p (p.eq i at_) (cs.getD j .junk) (Wv p sz (n+1) (cs.drop sz) (at_+1) i j)
def ahm:List D→Bool
 | []=>false
 | .fn _ _ _ :: _=>true
 | _ :: r=>ahm r
def amH (sz:Nat) (cs:List D) (i:Int) (j:Nat):D:=match i with
 | .ofNat q=>cs.getD (q*sz+j) .junk
 | .negSucc _=>.junk
def adE (p:Pr) (sz n:Nat) (cs:List D):Int→Nat→D:=if ahm cs && !Nat.beq sz 1 then amH sz cs else Wv p sz n cs 0
def sN (objs:List (Option Ob)) (key:Nat) (d:D) (o:Ob) (os:List aU):Option Y :=
 match objs[key]? with
 | some none=>some (d,[(key,some o)],os)
 | _=>none
def XI (QY:Bool) (objs:List (Option Ob)) (key ctr sz:Nat) (n:Int) (f:Int→Nat→D) (os:List aU):Option Y :=
 if QY then some (.sl sz n true f,[],os) else sN objs key (.vec key ctr sz 0 n) (.arr ctr sz n true f) os
inductive Ik where
 | plain (d:D)
 | own (sz:Nat) (n:Int) (tight:Bool) (g:Int→Nat→D)
 | uq (q k:Nat) (c:Nat→D) (sz:Nat) (n:Int) (tight:Bool) (g:Int→Nat→D)
 | Jw (post:List Ob) (d:D)
structure sU where
 I7:FuncId→Nat
 fn:Nat→FuncId→List D→List (Option Ob)→Option Ik
 fresh:Nat→Bool
def sU.QY (bO:sU):Option Nat→Bool
 | some t=>bO.fresh t
 | none=>false
def lG (p:Pr):D→Prop
 | .v _=>True
 | .cO=>True
 | .sl sz n _ f=>p.all2 n sz (fun i j=>lG p (f i j))
 | .agg k c=>p.all2 1 k (fun _ j=>lG p (c j))
 | .gX k c=>p.all2 1 k (fun _ j=>lG p (c j))
 | .fn _ k c=>p.all2 1 k (fun _ j=>lG p (c j))
 | .gY sz n f _ _=>p.all2 n sz (fun i j=>lG p (f i j))
 | .BH _ d=>lG p d
 | .Ac _ d=>lG p d
 | .mp _ _ _=>True
 | .UL _ _ _=>True
 | .tab _ _ _=>True
 | .junk=>True
 | _=>False
def aga (p:Pr):List D→List aU
 | []=>[]
 | d :: r=>aU.lG d :: aga p r
def Zc (p:Pr):Ob→List aU
 | .box _ cs=>aga p cs
 | .arr _ sz n _ f=>[aU.UM n sz f]
 | .iter _ _ _=>[]
 | .dead _=>[]
def flat (p:Pr):D→Prop
 | .v _=>True
 | .cO=>True
 | .agg k c=>p.all2 1 k (fun _ j=>flat p (c j))
 | .gX k c=>p.all2 1 k (fun _ j=>flat p (c j))
 | .fn _ k c=>p.all2 1 k (fun _ j=>flat p (c j))
 | .own sz n _ f=>p.all2 n sz (fun i j=>flat p (f i j))
 | .Ac _ d=>flat p d
 | .junk=>True
 | _=>False
def aU.run (p:Pr):aU→Prop
 | .prop q=>q
 | .xw i n=>p.xw i n
 | .cut l h n=>p.cut l h n
 | .rng k x=>p.rng k x
 | .Vb x=>p.Vb x
 | .Vd x=>p.Vd x
 | .nP x y=>p.nP x y
 | .jh x y=>p.jh x y
 | .U8 x y=>p.U8 x y
 | .NG x y=>p.NG x y
 | .Bt b=>p.Bt b
 | .imp b o=>p.imp b (o.run p)
 | .make b l c=>p.make b l c
 | .grow b n=>p.grow b n
 | .lG d=>Go.Vx.lG p d
 | .UM n sz f=>p.all2 n sz (fun i j=>Go.Vx.lG p (f i j))
 | .u8s n f=>p.all2 n 1 (fun i _=>aas (f i 0))
 | .flat d=>Go.Vx.flat p d
 | .ok f args d=>p.ok f args d
 | .F6 f args d=>p.F6 f args d
 | .Jw f args pre post d=>p.Jw f args pre post d
 | .see objs f args d=>p.see objs f args d
 | .dr ops own ig=>p.dr ops own ig
def conj (p:Pr):List aU→Prop→Prop
 | [],q=>q
 | x :: r,q=>x.run p∧conj p r q
def nC:List Nat→Nat→Bool
 | [],_=>false
 | x :: r,y=>if Nat.beq x y then true else nC r y
def HZ:List Nat→Nat→Nat
 | [],_=>0
 | x :: r,y=>if Nat.beq x y then 0 else HZ r y+1
def addN (l:List Nat) (id:Nat):List Nat:=if nC l id then l else l++[id]
def FL:D→List Nat→List Nat
 | .dI id _ _,l=>addN l id
 | .kX id _ _ _ _,l=>addN l id
 | .vec id _ _ _ _,l=>addN l id
 | _,l=>l
def nZ:List D→List Nat→List Nat
 | [],l=>l
 | d :: r,l=>nZ r (FL d l)
def FM:D→List Nat→List Nat
 | .agg k c,l=>nZ (cellsOf k c) l
 | d,l=>FL d l
def pQ:List D→List Nat→List Nat
 | [],l=>l
 | d :: r,l=>pQ r (FM d l)
def RZ:List D→Nat→Nat
 | [],_=>0
 | .dI id _ j :: r,x=>if Nat.beq id x then j else RZ r x
 | _ :: r,x=>RZ r x
def XQ (ids:List Nat) (win:Nat→Nat):D→D
 | .dI id _ j=>if Nat.ble (win id) j then .dI (HZ ids id) 0 (j-win id) else .junk
 | .kX id _ sz i j=>.kX (HZ ids id) 0 sz i j
 | .vec id _ sz off n=>.vec (HZ ids id) 0 sz off n
 | d=>d
def H6:List Nat→Bool
 | []=>true
 | _ :: _=>false
def ren (ids:List Nat) (win:Nat→Nat):D→D
 | .agg k c=>if H6 (nZ (cellsOf k c) []) then .agg k c else .agg k (fun j=>XQ ids win (c j))
 | d=>XQ ids win d
def apd (g:Nat):Ob→Ob
 | .box _ cs=>.box g cs
 | .arr _ sz n t f=>.arr g sz n t f
 | .iter _ s i=>.iter g s i
 | .dead _=>.dead g
def QZ (p:Pr) (objs:List (Option Ob)):D→aU
 | .dI id g _=>match objs[id]? with
  | some (some o)=>aU.jh g o.gen
  | _=>aU.prop False
 | .kX id g _ _ _=>match objs[id]? with
  | some (some o)=>aU.jh g o.gen
  | _=>aU.prop False
 | .vec id g _ _ _=>match objs[id]? with
  | some (some o)=>aU.jh g o.gen
  | _=>aU.prop False
 | d=>aU.lG d
def agb (p:Pr) (objs:List (Option Ob)):List D→List aU
 | []=>[]
 | d :: r=>QZ p objs d :: agb p objs r
def KY (p:Pr) (objs:List (Option Ob)):List D→List aU
 | []=>[]
 | d :: r=>(match d with
  | .agg k c=>if H6 (nZ (cellsOf k c) []) then [aU.lG (.agg k c)] else agb p objs (cellsOf k c)
  | d=>[QZ p objs d])++KY p objs r
def Jc (p:Pr) (objs:List (Option Ob)) (ctr:Nat):List D→Nat→Option (List D × List (Nat × Int × Ob) × List aU)
 | [],_=>some ([],[],[])
 | .vec id g sz off n :: r,k=>match off,objs[id]? with
  | .ofNat 0,some (some (.arr g' sz' _ _ f))=>if Nat.beq sz sz' then match Jc p objs ctr r (k+1) with
   | some (cs,is,os)=>some (.vec k 0 sz 0 n :: cs,(id,0,.arr 0 sz n false f) :: is,aU.jh g g' :: aU.U8 g ctr :: aU.UM n sz f :: os)
   | none=>none
   else none
  | _,_=>none
 | d :: r,k=>match Jc p objs ctr r k with
  | some (cs,is,os)=>some (d :: cs,is,aU.lG d :: os)
  | none=>none
def Bf (p:Pr) (objs:List (Option Ob)) (ctr:Nat) (win:Nat→Nat):List Nat→List Ob→Nat→Option (List Ob × List (Nat × Int × Ob) × List aU)
 | [],_,_=>some ([],[],[])
 | id :: r,.box _ cs' :: qs,k=>match objs[id]? with
  | some (some (.box _ cs))=>if Nat.ble (win id+cs'.length) cs.length then match Jc p objs ctr ((cs.drop (win id)).take cs'.length) k with
   | some (c1,i1,o1)=>match Bf p objs ctr win r qs (k+i1.length) with
    | some (ts,is,os)=>some (.box 0 c1 :: ts,i1++is,o1++os)
    | none=>none
   | none=>none
   else none
  | _=>none
 | id :: r,.arr _ _ _ _ _ :: qs,k=>match objs[id]? with
  | some (some (.arr _ sz n t f))=>match Bf p objs ctr win r qs k with
   | some (ts,is,os)=>some (.arr 0 sz n t f :: ts,is,aU.UM n sz f :: os)
   | none=>none
  | _=>none
 | id :: r,.dead _ :: qs,k=>match objs[id]? with
  | some (some (.arr _ sz n t f))=>match Bf p objs ctr win r qs k with
   | some (ts,is,os)=>some (.arr 0 sz n t f :: ts,is,aU.UM n sz f :: os)
   | none=>none
  | _=>none
 | _ :: _,_,_=>none
def Jd (p:Pr) (ctr top:Nat) (all:List Nat):List D→Option (List D × List aU)
 | []=>some ([],[])
 | .vec k g sz o n :: r=>match all[k]?,Jd p ctr top all r with
  | some id,some (cs,os)=>if Nat.ble top k && Nat.beq g 1 then some (.vec id ctr sz o n :: cs,os) else none
  | _,_=>none
 | d :: r=>match Jd p ctr top all r with
  | some (cs,os)=>some (d :: cs,aU.lG d :: os)
  | none=>none
def Bg (p:Pr) (objs:List (Option Ob)) (ctr top:Nat) (all:List Nat) (win:Nat→Nat):List Nat→List Ob→Option (List (Nat × Option Ob) × List aU)
 | [],_=>some ([],[])
 | id :: r,.box g' cs' :: qs=>match objs[id]? with
  | some (some (.box g cs))=>if Nat.beq g' 0 && Nat.ble (win id+cs'.length) cs.length then match Jd p ctr top all cs' with
   | some (c1,o1)=>match Bg p objs ctr top all win r qs with
    | some (u,os)=>some ((id,some (.box g (kJ cs (win id) c1))) :: u,o1++os)
    | none=>none
   | none=>none
   else none
  | _=>none
 | id :: r,.arr g' sz' n' t' f' :: qs=>match objs[id]? with
  | some (some (.arr g sz n t _))=>if Nat.beq sz sz' && Nat.beq g' 0 then match Bg p objs ctr top all win r qs with
   | some (u,os)=>some ((id,some (.arr g sz n t f')) :: u,aU.nP n n' :: aU.NG t t' :: aU.UM n sz f' :: os)
   | none=>none
   else none
  | _=>none
 | id :: r,.dead g' :: qs=>match objs[id]? with
  | some (some (.arr _ _ _ _ _))=>if Nat.beq g' 1 then match Bg p objs ctr top all win r qs with
   | some (u,os)=>some ((id,some (.dead ctr)) :: u,os)
   | none=>none
   else none
  | _=>none
 | _ :: _,_=>none
def wZ (p:Pr) (ctr:Nat):List (Nat × Int × Ob)→List Ob→Option (List (Nat × Option Ob) × List aU)
 | [],[]=>some ([],[])
 | (id,_,.arr _ sz _ _ _) :: r,.arr g' sz' n' _ f' :: qs=>if Nat.beq sz sz' && Nat.beq g' 1 then match wZ p ctr r qs with
  | some (u,os)=>some ((id,some (.arr ctr sz n' false f')) :: u,aU.UM n' sz f' :: os)
  | none=>none
  else none
 | _,_=>none
def Q0:List Nat→Bool
 | []=>true
 | x :: r=>!nC r x && Q0 r
def jA:List (Nat × Int × Ob)→List Nat
 | []=>[]
 | x :: r=>x.1 :: jA r
def uZ:List (Nat × Int × Ob)→List Ob
 | []=>[]
 | x :: r=>x.2.2 :: uZ r
structure ahn where
 ids:List Nat
 args:List D
 pre:List Ob
 u:List (Nat × Option Ob)
 os:List aU
def adF (p:Pr) (objs:List (Option Ob)) (ctr:Nat) (args:List D) (post:List Ob):Option ahn :=
 match Bf p objs ctr (RZ args) (pQ args []) post (pQ args []).length with
 | none=>none
 | some (ts,is,os1)=>match Bg p objs ctr (pQ args []).length (pQ args []++jA is) (RZ args) (pQ args []) post,wZ p ctr is (post.drop (pQ args []).length) with
  | some (u1,os2),some (u2,os3)=>if Q0 (pQ args []++jA is) then
    some ⟨pQ args []++jA is,args.map (ren (pQ args []) (RZ args)),ts++uZ is,u1++u2,KY p objs args++os1++os2++os3⟩
   else none
  | _,_=>none
def Zd (p:Pr) (objs:List (Option Ob)):D→Option (D × List aU)
 | .vec id g sz off n=>match objs[id]? with
  | some (some (.arr g' sz' N t f))=>if Nat.beq sz sz' then match off with
   | .ofNat 0=>some (.sl sz n false f,[aU.jh g g'])
   | _=>some (.sl sz n (p.rJ t (p.eq (p.add off n) N)) (fun i j=>f (p.add off i) j),[aU.jh g g'])
   else none
  | _=>none
 | d=>some (d,[])
def KZ (p:Pr) (objs:List (Option Ob)):List D→Option (List D × List aU)
 | []=>some ([],[])
 | d :: r=>match Zd p objs d,KZ p objs r with
  | some (d',os),some (r',os')=>some (d' :: r',os++os')
  | _,_=>none
def Q5 (p:Pr) (objs:List (Option Ob)):D→Option (D × List aU)
 | .vec id g sz off n=>match objs[id]? with
  | some (some (.arr g' sz' N t f))=>if Nat.beq sz sz' then some (.sl sz n (p.rJ t (p.eq (p.add off n) N)) (fun i j=>f (p.add off i) j),[aU.jh g g']) else none
  | _=>none
 | .dI id g j=>match objs[id]? with
  | some (some (.box g' cs))=>match KZ p objs cs with
   | some (cs',os)=>some (.gY cs'.length 1 (fun _ jj=>cs'.getD jj .junk) 0 j,aU.jh g g' :: os)
   | none=>none
  | _=>none
 | .agg k c=>if H6 (nZ (cellsOf k c) []) then some (.agg k c,[]) else match KZ p objs (cellsOf k c) with
  | some (cs',os)=>some (.agg k (fun j=>cs'.getD j .junk),os)
  | none=>none
 | d=>some (d,[])
def Q7 (p:Pr) (objs:List (Option Ob)):List D→Option (List D × List aU)
 | []=>some ([],[])
 | d :: r=>match Q5 p objs d,Q7 p objs r with
  | some (d',os),some (r',os')=>some (d' :: r',os++os')
  | _,_=>none
def Ze (p:Pr) (objs:List (Option Ob)):D→Option (D × List aU)
 | .fn f k c=>if H6 (nZ (cellsOf k c) []) then some (.fn f k c,[]) else match Q7 p objs (cellsOf k c) with
  | some (cs',os)=>some (.fn f k (fun j=>cs'.getD j .junk),os)
  | none=>none
 | d=>Q5 p objs d
def M6 (p:Pr) (objs:List (Option Ob)):List D→Option (List D × List aU)
 | []=>some ([],[])
 | d :: r=>match Ze p objs d,M6 p objs r with
  | some (d',os),some (r',os')=>some (d' :: r',os++os')
  | _,_=>none
def nK:D→Bool
 | .own _ _ _ _=>true
 | .uq _ _ _ _ _ _ _=>true
 | _=>false
def sO (ctr:Nat):List (Option Ob)→Nat→List (Nat × Option Ob)
 | [],_=>[]
 | some _ :: r,k=>(k,some (.dead ctr)) :: sO ctr r (k+1)
 | none :: r,k=>sO ctr r (k+1)
def yS (p:Pr) (bO:sU) (objs:List (Option Ob)) (ctr key:Nat) (f:FuncId) (args:List D) (os:List aU):Option Y :=
 match bO.I7 f with
 | 0=>match bO.fn key f args [] with
  | some (.plain d)=>if nK d then none else some (d,[],os++[aU.ok f args d])
  | _=>none
 | 1=>match bO.fn key f args [] with
  | some (.own sz n tight g)=>sN objs key (.vec key ctr sz 0 n) (.arr ctr sz n tight g) (os++[aU.ok f args (.own sz n tight g)])
  | some (.uq q k c sz n tight g)=>sN objs key (.agg k (fun j=>if Nat.beq j q then .vec key ctr sz 0 n else c j)) (.arr ctr sz n tight g) (os++[aU.ok f args (.uq q k c sz n tight g)])
  | _=>none
 | 2=>match bO.fn key f args objs with
  | some (.Jw post d)=>match adF p objs ctr args post with
   | some r=>if nK d then none else some (d,r.u,os++r.os++[aU.Jw f r.args r.pre post d])
   | none=>none
  | _=>none
 | 8=>match bO.fn key f args [] with
  | some (.plain d)=>if nK d then none else some (d,[],os++[aU.see objs f args d])
  | _=>none
 | 6=>match M6 p objs args with
  | none=>none
  | some (va,vs)=>match bO.fn key f va [] with
   | some (.plain d)=>if nK d then none else some (d,sO ctr objs 0,os++vs++[aU.F6 f va d])
   | _=>none
 | 4=>match M6 p objs args with
  | none=>none
  | some (va,vs)=>match bO.fn key f va [] with
   | some (.plain d)=>if nK d then none else some (d,[],os++vs++[aU.flat d,aU.F6 f va d])
   | _=>none
 | _=>match M6 p objs args with
  | none=>none
  | some (va,vs)=>match bO.fn key f va [] with
   | some (.plain d)=>if nK d then none else some (d,[],os++vs++[aU.flat d,aU.F6 f va d])
   | some (.own sz n tight g)=>sN objs key (.vec key ctr sz 0 n) (.arr ctr sz n tight g) (os++vs++[aU.flat (.own sz n tight g),aU.F6 f va (.own sz n tight g)])
   | _=>none
def V7 (p:Pr) (bO:sU) (key:Nat) (f:FuncId) (args:List D) (os:List aU):Option Y :=
 match bO.fn key f [] [] with
 | some (.plain d)=>if nK d then none else some (d,[],os++[aU.F6 f args d])
 | _=>none
def yT (p:Pr) (bO:sU) (objs:List (Option Ob)) (ctr key:Nat) (x:Operand) (f:FuncId) (args:List D) (os:List aU):Option Y :=
 match x with
 | .tmp _=>if Nat.beq (bO.I7 (key+1024)) 7 then V7 p bO key f args os else yS p bO objs ctr key f args os
 | _=>yS p bO objs ctr key f args os
def M7 (tt:TT) (u:TypeId):Bool:=match d9 tt u with
 | some ti=>match ti.kind with
  | .slice _=>true
  | .string=>true
  | _=>false
 | none=>false
def lV (p:Pr) (tt:TT) (objs:List (Option Ob)) (ctr key:Nat) (owned:Bool) (b:Builtin) (ats:List TypeId) (args:List D):Option Y :=
 match b,args with
 | .len,[x]=>match ats with
  | [t]=>match d9 tt t with
   | some ti=>match ti.kind,x with
    | .slice _,.sl _ n _ _=>some (.v (.int .i64 n),[],[])
    | .slice _,.vec _ _ _ _ n=>some (.v (.int .i64 n),[],[])
    | .slice _,.cO=>some (.v (.int .i64 0),[],[])
    | .string,.v (.string s)=>some (.v (.int .i64 (p.sG s)),[],[])
    | .array n _,_=>some (.v (.int .i64 (n:Int)),[],[])
    | _,_=>none
   | none=>none
  | _=>none
 | .min,[.v (.int k a),.v (.int k' b)]=>if k=k' then some (.v (.int k (p.uf a b)),[],[]) else none
 | .max,[.v (.int k a),.v (.int k' b)]=>if k=k' then some (.v (.int k (p.imax a b)),[],[]) else none
 | .min,[.v (.int k a),.v (.int k' b),.v (.int k'' c)]=>if k=k'∧k=k'' then some (.v (.int k (p.uf (p.uf a b) c)),[],[]) else none
 | .max,[.v (.int k a),.v (.int k' b),.v (.int k'' c)]=>if k=k'∧k=k'' then some (.v (.int k (p.imax (p.imax a b) c)),[],[]) else none
 | .append,[x,y]=>match ats with
  | [t,u]=>if M7 tt u then match d9 tt t with
   | some ti=>match ti.kind with
    | .slice e=>match d9 tt e with
     | some te=>match te.zero with
      | some z=>if Nat.beq te.bytes 0 || !Nat.beq z.length te.size then none else qz p objs ctr key te.size te.bytes owned x y
      | none=>none
     | none=>none
    | _=>none
   | _=>none
   else none
  | _=>none
 | .copy,[x,y]=>match ats with
  | t :: _=>match d9 tt t with
   | some ti=>match ti.kind with
    | .slice e=>match d9 tt e with
     | some te=>adD p objs te.size x y
     | none=>none
    | _=>none
   | _=>none
  | _=>none
 | _,_=>none
def aaw:Operand→Bool
 | .const .nilIface=>true
 | _=>false
def V8:Operand→Bool
 | .const (.slice none 0 0)=>true
 | _=>false
def aho:Option TI→Bool
 | some ti=>match ti.kind with
  | .slice _=>true
  | _=>false
 | none=>false
def ahp (op:BinOp):D→Option (D × List aU)
 | .cO=>match op with
  | .eql=>some (.v (.bool true),[])
  | .neq=>some (.v (.bool false),[])
  | _=>none
 | .sl _ n _ _=>match op with
  | .eql=>some (.v (.bool false),[aU.xw 0 n])
  | .neq=>some (.v (.bool true),[aU.xw 0 n])
  | _=>none
 | .vec _ _ _ _ n=>match op with
  | .eql=>some (.v (.bool false),[aU.xw 0 n])
  | .neq=>some (.v (.bool true),[aU.xw 0 n])
  | _=>none
 | _=>none
def adi (op:BinOp) (xt:Option TI):D→Option D
 | .v .nilIface=>match xt with
  | some ti=>match ti.kind,op with
   | .iface,.eql=>some (.v (.bool true))
   | .iface,.neq=>some (.v (.bool false))
   | _,_=>none
  | none=>none
 | _=>none
def Tv (g:Option (Nat × Bool)) (d:D):Option Y→Option Y
 | some y=>some y
 | none=>match g with
  | some _=>some (d,[],[aU.prop False])
  | none=>none
def R4 (tt:TT) (t:TypeId):Option IntKind:=match d9 tt t with
 | some ti=>match ti.kind,ti.zero with
  | .int k,some [.int k' (.ofNat 0)]=>if k=k' && ti.plain then some k else none
  | _,_=>none
 | none=>none
def R5 (ti:TI):Option (List D):=match ti.zero with
 | some z=>if Nat.beq z.length ti.size && z.all (·.oneCell') then some (z.map wO) else none
 | none=>none
def ahq (d:D) (b:Bool):D:=.gX 2 fun j=>match j with
 | 0=>d
 | _=>.v (.bool b)
def QL (c:Call):Bool:=match c.callee,c.args.toList with
 | .builtin .append,x :: _=>V8 x
 | _,_=>false
def QM:List D→Bool
 | []=>false
 | .vec _ _ _ _ _ :: _=>true
 | _ :: r=>QM r
def Ho (p:Pr) (ρ:Operand→D) (c:Operand) (a:Operand) (b:Operand):Option Y :=
 let s (x:Operand):D:=(strip p (ρ x)).1
 let w (x:Operand):List aU:=(strip p (ρ x)).2
 match s c,s a,s b with
  | .v (.bool t),.v (.bool x),.v (.bool y)=>some (.v (.bool (p.sel t x y)),[],w c++(w a).map (aU.imp t)++(w b).map (aU.imp (p.C8 t)))
  | _,_,_=>none
def CK (tt:TT) (key:Nat) (objs:List (Option Ob)) (ctr:Nat) (t:TypeId):Option Y :=
 match d9 tt t with
  | some ti=>match R5 ti with
   | some z=>sN objs key (.dI key ctr 0) (.box ctr z) []
   | none=>none
  | none=>none
def MR (p:Pr) (tt:TT) (key:Nat) (objs:List (Option Ob)) (ctr:Nat) (ρ:Operand→D) (t:TypeId) (x:Operand):Option Y :=
 let s (x:Operand):D:=(strip p (ρ x)).1
 let w (x:Operand):List aU:=(strip p (ρ x)).2
 match d9 tt t with
  | some ti=>match DZ ti (s x) with
   | some ds=>sN objs key (.dI key ctr 0) (.box ctr ds) (w x)
   | none=>none
  | none=>none
def CO (p:Pr) (tt:TT) (ρ:Operand→D) (t:TypeId) (parts:Array (Nat × Operand)):Option Y :=
 let s (x:Operand):D:=(strip p (ρ x)).1
 let w (x:Operand):List aU:=(strip p (ρ x)).2
 match d9 tt t with
  | some ti=>match R5 ti with
   | some z=>match ti.kind with
    | .struct fs=>if fs.all (fun f=>(d9 tt f.2).isSome) then
      match Du (fun i=>(fs[i]?).map fun f=>(f.1,iW tt f.2)) (fun i=>(fs[i]?).bind fun f=>d9 tt f.2) (parts.toList.map fun x=>(x.1,s x.2)) z with
      | some cs=>some (.agg ti.size (fun j=>cs.getD j .junk),[],(parts.toList.map fun x=>w x.2).flatten)
      | none=>none
     else none
    | .array _ e=>match d9 tt e with
     | some te=>match Du (fun i=>some (i*te.size,te.size)) (fun _=>some te) (parts.toList.map fun x=>(x.1,s x.2)) z with
      | some cs=>some (.agg ti.size (fun j=>cs.getD j .junk),[],(parts.toList.map fun x=>w x.2).flatten)
      | none=>none
     | none=>none
    | _=>none
   | none=>none
  | none=>none
def pJ (p:Pr) (tt:TT) (bO:sU) (key:Nat) (objs:List (Option Ob)) (ctr:Nat) (ρ:Operand→D) (o:Oper) (t:TypeId) (len:Nat) (parts:Array (Nat × Operand)):Option Y :=
 let s (x:Operand):D:=(strip p (ρ x)).1
 let w (x:Operand):List aU:=(strip p (ρ x)).2
 match d9 tt t with
  | some ti=>match ti.kind with
   | .slice e=>match d9 tt e with
    | some te=>match R5 te with
     | some z=>match Du (fun i=>some (i*te.size,te.size)) (fun _=>some te) (parts.toList.map fun x=>(x.1,s x.2)) (Fv len z) with
      | some cs=>if Nat.ble (len*te.size) 4096 then XI (bO.QY o.dst) objs key ctr te.size (len:Int) (adE p te.size len cs) ((parts.toList.map fun x=>w x.2).flatten) else none
      | none=>none
     | none=>none
    | none=>none
   | _=>none
  | none=>none
def Hq (p:Pr) (tt:TT) (objs:List (Option Ob)) (ρ:Operand→D) (t:TypeId) (a:Operand):Option Y :=
 let s (x:Operand):D:=(strip p (ρ x)).1
 let w (x:Operand):List aU:=(strip p (ρ x)).2
 match d9 tt t with
  | some ti=>if QN (NW p (ρ a)).1 then DW (NW p (ρ a)).2 (val (V9 p objs ti (NW p (ρ a)).1)) else DW (w a) (val (rH p objs ti (s a)))
  | none=>none
def CP (p:Pr) (tt:TT) (objs:List (Option Ob)) (ρ:Operand→D) (t:TypeId) (a:Operand) (x:Operand):Option Y :=
 let s (x:Operand):D:=(strip p (ρ x)).1
 let w (x:Operand):List aU:=(strip p (ρ x)).2
 match d9 tt t with
  | some ti=>if QN (ρ a) then DW (w x) (QS p objs ti (ρ a) (s x)) else DW (w a++w x) (KU p objs ti (s a) (s x))
  | none=>none
def uw (p:Pr) (ρ:Operand→D) (x:Operand):Option Y :=
 let s (x:Operand):D:=(strip p (ρ x)).1
 let w (x:Operand):List aU:=(strip p (ρ x)).2
 match s x with
  | .dI id g j=>some (.dI id g j,[],w x)
  | .kX id g sz i j=>some (.kX id g sz i j,[],w x)
  | .gY sz n f i j=>some (.gY sz n f i j,[],w x)
  | _=>none
def CQ (p:Pr) (tt:TT) (ρ:Operand→D) (o:Oper) (op:BinOp) (xt:TypeId) (x:Operand) (y:Operand):Option Y :=
 let s (x:Operand):D:=(strip p (ρ x)).1
 let w (x:Operand):List aU:=(strip p (ρ x)).2
 if aaw y then (adi op (d9 tt xt) (s x)).map (fun d=>(d,[],w x)) else Tv o.guard (.v (.bool false)) (if V8 y && aho (d9 tt xt) then DW (w x) (val (ahp op (s x))) else DW (w x++w y) (val (bin p op (d9 tt xt) (s x) (s y))))
def lU (p:Pr) (tt:TT) (ρ:Operand→D) (o:Oper) (t:TypeId) (x:Operand):Option Y :=
 let s (x:Operand):D:=(strip p (ρ x)).1
 let w (x:Operand):List aU:=(strip p (ρ x)).2
 match d9 tt t with
  | some ti=>match ti.kind with
   | .iface=>none
   | _=>some (.Ac t (s x),[],w x)
  | none=>Tv o.guard .junk none
def pK (p:Pr) (tt:TT) (ρ:Operand→D) (x:Operand) (t:TypeId) (ok:Bool):Option Y :=
 let s (x:Operand):D:=(strip p (ρ x)).1
 let w (x:Operand):List aU:=(strip p (ρ x)).2
 match s x,d9 tt t with
  | .Ac t' d,some ti=>if ok then match ti.kind with
   | .iface=>none
   | _=>if Nat.beq t' t then some (ahq d true,[],w x) else match ti.zero with
    | some _=>some (ahq .junk false,[],w x)
    | none=>none
   else none
  | _,_=>none
def uy (p:Pr) (ρ:Operand→D) (fn:Fn) (first:Array Operand) (captured:Array Operand):Option Y :=
 let s (x:Operand):D:=(strip p (ρ x)).1
 let w (x:Operand):List aU:=(strip p (ρ x)).2
 if Nat.beq first.size 0 then some (.fn fn captured.size (fun j=>(captured.toList.map s).getD j .junk),[],(captured.toList.map w).flatten) else none
def zk (p:Pr) (tt:TT) (ρ:Operand→D) (t:TypeId) (x:Operand) (i:Operand) (ok:Bool):Option Y :=
 let s (x:Operand):D:=(strip p (ρ x)).1
 let w (x:Operand):List aU:=(strip p (ρ x)).2
 match d9 tt t with
  | some ti=>match ti.kind with
   | .map k e=>match R4 tt k,R4 tt e with
    | some kk,some kv=>match s x,s i with
     | .mp kk' kv' es,.v (.int ki ix)=>if ok then none else if kk=kk'∧kv=kv'∧kk=ki then some (.v (.int kv (p.af6 es ix)),[],w x++w i) else none
     | _,_=>none
    | _,_=>none
   | _=>none
  | none=>none
def CR (p:Pr) (tt:TT) (key:Nat) (objs:List (Option Ob)) (ctr:Nat) (ρ:Operand→D) (t:TypeId) (x:Operand):Option Y :=
 let s (x:Operand):D:=(strip p (ρ x)).1
 let w (x:Operand):List aU:=(strip p (ρ x)).2
 match d9 tt t with
  | some ti=>match ti.kind,s x with
   | .string,.v (.string b)=>sN objs key (.M5 key ctr) (.iter ctr b 0) (w x)
   | _,_=>none
  | none=>none
def Hr (p:Pr) (objs:List (Option Ob)) (ρ:Operand→D) (x:Operand) (isS:Bool):Option Y :=
 let s (x:Operand):D:=(strip p (ρ x)).1
 let w (x:Operand):List aU:=(strip p (ρ x)).2
 if isS then match s x with
  | .M5 id g=>match objs[id]? with
   | some (some (.iter g' b pos))=>some (.UL (p.lt pos (p.sG b)) pos (p.adA b pos),[(id,some (.iter g' b (p.FP (p.lt pos (p.sG b)) (p.add pos (p.XP b pos)) pos)))],w x++[aU.jh g g'])
   | _=>none
  | _=>none
  else none
def Ht (p:Pr) (ρ:Operand→D) (op:UnOp) (x:Operand):Option Y :=
 let s (x:Operand):D:=(strip p (ρ x)).1
 let w (x:Operand):List aU:=(strip p (ρ x)).2
 match op,s x with
  | .not,.v (.bool b)=>some (.v (.bool (p.C8 b)),[],w x)
  | .neg,.v (.int k a)=>some (.v (.int k (p.neg a)),[],w x++[aU.rng k (p.neg a)])
  | .xor,.v (.int .i64 a)=>some (.v (.int .i64 (p.aao .i64 (-1) a)),[],w x)
  | _,_=>none
def wG (p:Pr) (tt:TT) (objs:List (Option Ob)) (ctr:Nat) (ρ:Operand→D) (u:TypeId) (t:TypeId) (x:Operand):Option Y :=
 let s (x:Operand):D:=(strip p (ρ x)).1
 let w (x:Operand):List aU:=(strip p (ρ x)).2
 if Nat.beq u t then match d9 tt t with
  | some ti=>match ti.kind,s x with
   | .slice e,.vec id g sz off n=>match d9 tt e,objs[id]? with
    | some te,some (some (.arr g' sz' _ _ f))=>match te.kind with
     | .int .u8=>if Nat.beq sz 1 && Nat.beq sz' 1 then some (.sl 1 n false (fun i j=>f (p.add off i) j),[(id,some (.dead ctr))],w x++[aU.jh g g',aU.xw 0 n,aU.u8s n (fun i j=>f (p.add off i) j)]) else none
     | _=>none
    | _,_=>none
   | _,_=>none
  | none=>none
 else match d9 tt t,d9 tt u with
  | some ti,some ui=>match ti.kind,ui.kind,s x with
   | .int k,.int _,.v (.int _ a)=>some (.v (.int k (p.wrap k a)),[],w x)
   | .string,.string,.v (.string a)=>some (.v (.string a),[],w x)
   | .slice e,.string,.v (.string a)=>match d9 tt e with
    | some te=>match te.kind with
     | .int .u8=>some (.sl 1 (p.sG a) false (fun i _=>.v (.int .u8 (p.aaq a i))),[],w x)
     | _=>none
    | none=>none
   | .string,.slice e,.sl sz n _ f=>match d9 tt e with
    | some te=>match te.kind with
     | .int .u8=>if Nat.beq sz 1 then some (.v (.string (p.adB n (fun i=>d2i (f i 0)))),[],w x++[aU.u8s n f]) else none
     | _=>none
    | none=>none
   | _,_,_=>none
  | _,_=>none
def qW (p:Pr) (tt:TT) (key:Nat) (objs:List (Option Ob)) (ctr:Nat) (ρ:Operand→D) (t:TypeId) (l:Operand) (c:Operand):Option Y :=
 let s (x:Operand):D:=(strip p (ρ x)).1
 let w (x:Operand):List aU:=(strip p (ρ x)).2
 match d9 tt t with
  | some ti=>match ti.kind with
   | .slice e=>match d9 tt e with
    | some te=>match R5 te,s l,s c with
     | some z,.v (.int _ a),.v (.int _ b) =>
      if Nat.beq te.bytes 0 || Nat.beq te.size 0 then none else
      sN objs key (.vec key ctr te.size 0 a) (.arr ctr te.size a (p.eq a b) (fun _ j=>z.getD j .junk)) (w l++w c++[aU.make te.bytes a b])
     | _,_,_=>none
    | none=>none
   | _=>none
  | none=>none
def CS (p:Pr) (tt:TT) (ρ:Operand→D) (t:TypeId) (x:Operand) (lo:Option Operand) (hi:Option Operand) (mx:Option Operand):Option Y :=
 let s (x:Operand):D:=(strip p (ρ x)).1
 let w (x:Operand):List aU:=(strip p (ρ x)).2
 match d9 tt t with
  | some ti=>DW (w x++(lo.map w).getD []++(hi.map w).getD []++(mx.map w).getD []) (val (af9 p tt ti (s x) (lo.map s) (hi.map s) (mx.map s)))
  | none=>none
def qX (p:Pr) (tt:TT) (ρ:Operand→D) (t:TypeId) (x:Operand) (k:Nat):Option Y :=
 let s (x:Operand):D:=(strip p (ρ x)).1
 let w (x:Operand):List aU:=(strip p (ρ x)).2
 match d9 tt t with
  | some ti=>DW (w x) (val (aav tt ti (s x) k))
  | none=>none
def CU (p:Pr) (tt:TT) (ρ:Operand→D) (t:TypeId) (x:Operand) (k:Nat):Option Y :=
 let s (x:Operand):D:=(strip p (ρ x)).1
 let w (x:Operand):List aU:=(strip p (ρ x)).2
 match d9 tt t with
  | some ti=>match ti.kind with
   | .struct fs=>match fs[k]?,s x with
    | some (off,ft),.agg n c=>DW (w x) (val (Zb tt ft n c off))
    | _,_=>none
   | _=>none
  | none=>none
def qY (p:Pr) (tt:TT) (bO:sU) (ρ:Operand→D) (o:Oper) (t:TypeId) (x:Operand) (i:Operand):Option Y :=
 let s (x:Operand):D:=(strip p (ρ x)).1
 let w (x:Operand):List aU:=(strip p (ρ x)).2
 match d9 tt t with
  | some ti=>DW (w x++w i) (val (if bO.QY o.dst then aau p tt ti (s x) (s i) else aat p tt ti (s x) (s i)))
  | none=>none
def CW (p:Pr) (tt:TT) (ρ:Operand→D) (t:TypeId) (x:Operand) (i:Operand):Option Y :=
 let s (x:Operand):D:=(strip p (ρ x)).1
 let w (x:Operand):List aU:=(strip p (ρ x)).2
 match d9 tt t with
  | some ti=>match ti.kind with
   | .array n e=>match adC (s i),s x with
    | some l,.agg k c=>if Nat.blt l n && !Nat.beq (iW tt e) 0 then DW (w x++w i) (val (Zb tt e k c (l*iW tt e))) else none
    | _,_=>none
   | .string=>match s x,s i with
    | .v (.string b),.v (.int _ ix)=>some (.v (.int .u8 (p.aaq b ix)),[],w x++w i++[aU.xw ix (p.sG b)])
    | _,_=>none
   | _=>none
  | none=>none
def wH (p:Pr) (ρ:Operand→D) (x:Operand) (k:Nat):Option Y :=
 let s (x:Operand):D:=(strip p (ρ x)).1
 let w (x:Operand):List aU:=(strip p (ρ x)).2
 match s x with
  | .gX n c=>if Nat.blt k n then some (c k,[],w x) else none
  | .UL b i r=>match k with
   | 0=>some (.v (.bool b),[],w x)
   | 1=>some (.v (.int .i64 i),[],w x++[aU.Bt b])
   | 2=>some (.v (.int .i32 r),[],w x++[aU.Bt b])
   | _=>none
  | _=>none
def Ba (p:Pr) (tt:TT) (bO:sU) (key:Nat) (objs:List (Option Ob)) (ctr:Nat) (ρ:Operand→D) (o:Oper) (c:Call):Option Y :=
 let s (x:Operand):D:=(strip p (ρ x)).1
 let w (x:Operand):List aU:=(strip p (ρ x)).2
 match c.callee with
  | .builtin b=>if QL c && QM (c.args.toList.map s) then none else DW ((c.args.toList.map w).flatten) (lV p tt objs ctr key (match o.dst with | some t=>bO.fresh t | none=>false) b c.argTypes.toList (c.args.toList.map s))
  | .value f=>match s f with
   | .fn (.func f') k caps=>yT p bO objs ctr key f f' (c.args.toList.map s++cellsOf k caps) (w f++(c.args.toList.map w).flatten)
   | _=>none
  | _=>none
def iT (p:Pr) (tt:TT) (bO:sU) (key:Nat) (objs:List (Option Ob)) (ctr:Nat) (ρ:Operand→D) (o:Oper):Option Y:=match o.op with
 | .move x=>some (ρ x,[],[])
 | .assign x=>some (ρ x,[],[])
 | .pick c a b=>Ho p ρ c a b
 | .alloc t=>CK tt key objs ctr t
 | .box t x=>MR p tt key objs ctr ρ t x
 | .build t parts=>CO p tt ρ t parts
 | .buildSlice t len parts=>pJ p tt bO key objs ctr ρ o t len parts
 | .load t a=>Hq p tt objs ρ t a
 | .store t a x=>CP p tt objs ρ t a x
 | .nilCheck x=>uw p ρ x
 | .binOp op xt x y _=>CQ p tt ρ o op xt x y
 | .makeInterface t x=>lU p tt ρ o t x
 | .typeAssert x _ t ok=>pK p tt ρ x t ok
 | .makeFunc fn first captured=>uy p ρ fn first captured
 | .lookup t x i ok=>zk p tt ρ t x i ok
 | .range t x=>CR p tt key objs ctr ρ t x
 | .next x isS=>Hr p objs ρ x isS
 | .unOp op _ x=>Ht p ρ op x
 | .convert u t x=>wG p tt objs ctr ρ u t x
 | .makeSlice t l c=>qW p tt key objs ctr ρ t l c
 | .slice t x lo hi mx=>Tv o.guard .junk (CS p tt ρ t x lo hi mx)
 | .fieldAddr t x k=>Tv o.guard .junk (qX p tt ρ t x k)
 | .field t x k=>CU p tt ρ t x k
 | .indexAddr t x i=>Tv o.guard .junk (qY p tt bO ρ o t x i)
 | .index t x i=>Tv o.guard .junk (CW p tt ρ t x i)
 | .extract x k=>wH p ρ x k
 | .call c=>Ba p tt bO key objs ctr ρ o c
 | _=>none
def acH:Nat→Option (Nat × IntKind):=fun g=>if Nat.beq g 0 then some (256,.u8) else if Nat.beq g 7 then some (31,.i64) else if Nat.beq g 11 then some (10,.i64) else if Nat.beq g 12 then some (8,.i64) else none
def Af:Nat→Int→Int:=fun g i=>match g with | 0=>if i=9∨i=10∨i=11∨i=12∨i=13∨i=32 then 1 else 0 | 7=>([9670,9618,9225,9228,9229,9226,176,177,9252,9227,9496,9488,9484,9492,9532,9146,9147,9472,9148,9149,9500,9508,9524,9516,9474,8804,8805,960,8800,163,183]:List Int).getD i.toNat 0 | 11=>([0,1,2,4,8,16,0,32,64,128]:List Int).getD i.toNat 0 | 12=>([3,4,264,16,0,32,64,128]:List Int).getD i.toNat 0 | _=>0
def rU:Nat→Option (Nat × (Nat→Value)):=fun g=>if Nat.beq g 1 then some (48,fun j=>match j with | 0=>.bool false | 1=>.int .i64 4 | 2=>.bool false | 3=>.int .i64 8 | 4=>.bool false | 5=>.int .i64 20 | 6=>.bool true | 7=>.int .i64 1 | 8=>.bool true | 9=>.int .i64 5 | 10=>.bool true | 11=>.int .i64 6 | 12=>.bool true | 13=>.int .i64 7 | 14=>.bool true | 15=>.int .i64 9 | 16=>.bool true | 17=>.int .i64 25 | 18=>.bool true | 19=>.int .i64 45 | 20=>.bool true | 21=>.int .i64 47 | 22=>.bool true | 23=>.int .i64 66 | 24=>.bool true | 25=>.int .i64 1000 | 26=>.bool true | 27=>.int .i64 1002 | 28=>.bool true | 29=>.int .i64 1003 | 30=>.bool true | 31=>.int .i64 1004 | 32=>.bool true | 33=>.int .i64 1006 | 34=>.bool true | 35=>.int .i64 1015 | 36=>.bool true | 37=>.int .i64 1047 | 38=>.bool true | 39=>.int .i64 1048 | 40=>.bool true | 41=>.int .i64 1049 | 42=>.bool true | 43=>.int .i64 2004 | 44=>.bool true | 45=>.int .i64 2500 | 46=>.bool true | 47=>.int .i64 2501 | _=>.bool false) else none
def gD (_:Pr) (g:Nat):D:=match acH g with
 | some (n,k)=>.tab g n k
 | none=>match rU g with
  | some (n,f)=>.gY n 1 (fun _ j=>.v (f j)) 0 0
  | none=>.junk
def rd (p:Pr) (slots:List D):Operand→D
 | .tmp t=>slots.getD t .junk
 | .const v=>wO v
 | .func f=>.fn (.func f) 0 (fun _=>.junk)
 | .global g=>gD p g
def iD (slots:List D):Option Nat→D→List D
 | some t,d=>slots.set t d
 | none,_=>slots
def bF:List (Option Ob)→List (Nat × Option Ob)→List (Option Ob)
 | objs,[]=>objs
 | objs,(k,o) :: r=>bF (objs.set k o) r
def MQ (p:Pr) (want:Bool):D→Option Bool
 | .v (.bool b)=>some (if want then b else p.C8 b)
 | .BH c d=>(MQ p want d).map (p.rJ c)
 | _=>none
def I6 (p:Pr) (ops:Array Oper) (slots:List D) (g:Nat × Bool):Option Bool :=
 match (ops[g.1]?).bind (·.dst) with
 | some t=>MQ p g.2 (slots.getD t .junk)
 | none=>none
def qJ (p:Pr) (tt:TT) (bO:sU) (m:Nat) (ops:Array Oper) (o:Oper) (st:St):Option (St × List aU) :=
 match iT p tt bO (m+o.dst.getD 0) st.objs st.ctr (rd p st.slots) o with
 | none=>none
 | some (d,u,os)=>match o.guard with
  | none=>some ({ st with slots:=iD st.slots o.dst d,objs:=bF st.objs u },os)
  | some g=>match I6 p ops st.slots g,u,o.dst with
   | some c,[],some t=>some ({ st with slots:=st.slots.set t (.BH c d) },os.map (aU.imp c))
   | _,_,_=>none
def Z9:D→Option Nat
 | .dI id _ _=>some id
 | .gY _ _ _ _ _=>some 4096
 | _=>none
def gZ (p:Pr) (ρ:Operand→D) (o:Oper):Option Nat:=match o.op with
 | .load _ x=>Z9 (strip p (ρ x)).1
 | .store _ x _=>Z9 (strip p (ρ x)).1
 | _=>none
def Ja (p:Pr) (tt:TT) (bO:sU) (m:Nat) (ops:Array Oper):List Oper→St→List (Option Nat)
 | [],_=>[]
 | o :: l,st=>gZ p (rd p st.slots) o :: match qJ p tt bO m ops o st with
  | some (st',_)=>Ja p tt bO m ops l st'
  | none=>[]
def iE (p:Pr) (tt:TT) (bO:sU) (m:Nat) (ops:Array Oper):List Oper→St→Option (St × List aU)
 | [],st=>some (st,[])
 | o :: r,st=>match qJ p tt bO m ops o st with
  | none=>none
  | some (st',os)=>match iE p tt bO m ops r st' with
   | none=>none
   | some (ape,os')=>some (ape,os++os')
inductive GL where
 | slot (t:Nat)
 | sub (t j:Nat)
 | cell (id j:Nat)
def M8 (st:St):GL→D
 | .slot t=>st.slots.getD t .junk
 | .sub t j=>match st.slots.getD t .junk with
  | .agg k c=>if Nat.blt j k then c j else .junk
  | _=>.junk
 | .cell id j=>match st.objs[id]? with
  | some (some (.box _ cs))=>cs.getD j .junk
  | _=>.junk
def uD (st:St) (d:D):GL→St
 | .slot t=>{ st with slots:=st.slots.set t d }
 | .sub t j=>match st.slots.getD t .junk with
  | .agg k c=>{ st with slots:=st.slots.set t (.agg k (fun i=>if Nat.beq i j then d else c i)) }
  | _=>st
 | .cell id j=>match st.objs[id]? with
  | some (some (.box g cs))=>{ st with objs:=st.objs.set id (some (.box g (cs.set j d))) }
  | _=>st
def bG (p:Pr):D→D→Prop
 | _,.junk=>True
 | .v (.int k x),.v (.int k' y)=>if k=k' then p.nP x y else False
 | .v (.bool x),.v (.bool y)=>p.NG x y
 | .v (.string x),.v (.string y)=>p.eqS x y
 | .v .nilIface,.v .nilIface=>True
 | .cO,.cO=>True
 | .cO,.sl _ n _ _=>p.nP n 0
 | .sl sz n t f,.sl sz' n' t' f'=>if Nat.beq sz sz' then p.nP n n'∧p.imp t' (p.Bt t)∧p.all2 n sz (fun i j=>bG p (f i j) (f' i j)) else False
 | .agg k c,.agg k' c'=>if Nat.beq k k' then p.all2 1 k (fun _ j=>bG p (c j) (c' j)) else False
 | .gX k c,.gX k' c'=>if Nat.beq k k' then p.all2 1 k (fun _ j=>bG p (c j) (c' j)) else False
 | .fn (.func f) k c,.fn (.func f') k' c'=>p.jh f f'∧p.jh k k'∧p.all2 1 k (fun _ j=>bG p (c j) (c' j))
 | .gY sz n f i j,.gY sz' n' f' i' j'=>if Nat.beq sz sz' && Nat.beq j j' then p.nP n n'∧p.nP i i'∧p.all2 n sz (fun i j=>bG p (f i j) (f' i j)) else False
 | .Ac t d,.Ac t' d'=>p.jh t t'∧bG p d d'
 | _,_=>False
def Ea (p:Pr) (src g2 jC:Nat) (f2:Int→Nat→D) (dst:Option (Nat × Nat)) (d:D):D→Prop
 | .cnd b x y=>p.imp b (Ea p src g2 jC f2 dst d x)∧p.imp (p.C8 b) (Ea p src g2 jC f2 dst d y)
 | .vec id' g' sz' off' n'=>match d,dst with
  | .vec id g sz off n,some (k,c)=>if Nat.beq id src && Nat.beq id' k && Nat.beq sz sz' && Nat.beq sz jC then p.jh g g2∧p.jh g' c∧p.nP off off'∧p.nP n n' else False
  | .cO,some (k,c)=>if Nat.beq id' k then p.jh g' c∧p.nP off' 0∧p.nP n' 0 else False
  | _,_=>False
 | .sl sz' n' t' f'=>match d,dst with
  | .vec id g sz off n,none=>if Nat.beq id src && Nat.beq sz sz' && Nat.beq sz jC then p.jh g g2∧p.nP n n'∧p.NG t' false∧p.all2 n sz (fun i j=>bG p (f2 (p.add off i) j) (f' i j)) else False
  | _,_=>bG p d (.sl sz' n' t' f')
 | d'=>bG p d d'
def oV (p:Pr) (src g2 jC:Nat) (f2:Int→Nat→D) (dst:Option (Nat × Nat)):D→D→Prop
 | .cnd b x y,d'=>p.imp b (oV p src g2 jC f2 dst x d')∧p.imp (p.C8 b) (oV p src g2 jC f2 dst y d')
 | d,d'=>Ea p src g2 jC f2 dst d d'
inductive Gh where
 | freeze (l:GL)
 | thaw (l:GL) (key sz:Nat)
 | move (l:GL) (key:Nat)
 | forget (key:Nat)
 | empty (key sz:Nat)
 | QE (key src:Nat) (f:Int→Nat→D)
 | QF (key src dst:Nat) (f:Int→Nat→D)
def nY (p:Pr):List Gh→St→Option (St × List aU)
 | [],st=>some (st,[])
 | .freeze l :: r,st=>match M8 st l with
  | .vec id g sz off n=>match st.objs[id]? with
   | some (some (.arr g' sz' N tight f))=>if Nat.beq sz sz' then
    match nY p r (uD { st with objs:=st.objs.set id none,ctr:=p.NZ st.ctr } (.sl sz n (p.rJ tight (p.eq (p.add off n) N)) (fun i j=>f (p.add off i) j)) l) with
    | some (st',os)=>some (st',aU.jh g g' :: os)
    | none=>none
    else none
   | _=>none
  | _=>none
 | .thaw l key sz :: r,st=>match M8 st l,st.objs[key]? with
  | .cO,some none=>nY p r (uD { st with objs:=st.objs.set key (some (.arr st.ctr sz 0 false (fun _ _=>.cO))),ctr:=p.NZ st.ctr } (.vec key st.ctr sz 0 0) l)
  | _,_=>none
 | .forget key :: r,st=>nY p r { st with objs:=st.objs.set key none,ctr:=p.NZ st.ctr }
 | .empty key sz :: r,st=>match st.objs[key]? with
  | some none=>nY p r { st with objs:=st.objs.set key (some (.arr st.ctr sz 0 false (fun _ _=>.cO))),ctr:=p.NZ st.ctr }
  | _=>none
 | .QE key src f' :: r,st=>match st.objs[key]?,st.objs[src]? with
  | some (some (.arr g sz N t f)),some (some (.arr g2 jC _ _ f2))=>if Nat.beq key src then none else
   match nY p r { st with objs:=(st.objs.set src none).set key (some (.arr g sz N t f')),ctr:=p.NZ st.ctr } with
   | some (st',os)=>some (st',aU.prop (p.all2 N sz (fun i j=>oV p src g2 jC f2 none (f i j) (f' i j))) :: os)
   | none=>none
  | _,_=>none
 | .QF key src dst f' :: r,st=>match st.objs[key]?,st.objs[src]?,st.objs[dst]? with
  | some (some (.arr g sz N t f)),some (some (.arr g2 jC N2 t2 f2)),some none=>if Nat.beq key src then none else
   match nY p r { st with objs:=((st.objs.set src (some (.dead st.ctr))).set dst (some (.arr st.ctr jC N2 t2 f2))).set key (some (.arr g sz N t f')),ctr:=p.NZ st.ctr } with
   | some (st',os)=>some (st',aU.prop (p.all2 N sz (fun i j=>oV p src g2 jC f2 (some (dst,st.ctr)) (f i j) (f' i j))) :: os)
   | none=>none
  | _,_,_=>none
 | .move l key :: r,st=>match M8 st l,st.objs[key]? with
  | .vec id g sz off n,some none=>match st.objs[id]? with
   | some (some (.arr g' sz' N tight f))=>if Nat.beq sz sz' then
    match nY p r (uD { st with objs:=(st.objs.set id (some (.dead st.ctr))).set key (some (.arr st.ctr sz N tight f)),ctr:=p.NZ st.ctr } (.vec key st.ctr sz off n) l) with
    | some (st',os)=>some (st',aU.jh g g' :: os)
    | none=>none
    else none
   | _=>none
  | _,_=>none
structure Cx where
 tt:TT
 bO:sU
 m:Nat
 gh:Nat→List Gh
def eU (bO:sU) (m:Nat) (ops:List Oper):List (Nat × Nat) :=
 ops.filterMap fun o=>match o.op with
  | .call c=>match c.callee with
   | .value (.func f)=>if Nat.beq (bO.I7 f) 0 then none else some (f+f,bO.I7 f)
   | .value (.tmp _)=>match o.dst with
    | some d=>if Nat.beq (bO.I7 (m+d+1024)) 7 then some (d+d+1,7) else none
    | none=>none
   | _=>none
  | _=>none
def tidy:List D→List D
 | []=>[]
 | .BH _ _ :: r=>.junk :: tidy r
 | d :: r=>d :: tidy r
def Y7 (o:Oper) (l:List Oper):Bool:=match o.op with
 | .load _ (.tmp t)=>l.any fun x=>match x.dst with
  | some s=>Nat.beq s t
  | none=>false
 | .store _ (.tmp t) _=>l.any fun x=>match x.dst with
  | some s=>Nat.beq s t
  | none=>false
 | _=>false
def RY (p:Pr) (slots:List D):List Oper→List (Option Nat)
 | []=>[]
 | o :: l=>(if Y7 o (o :: l) then none else gZ p (rd p slots) o) :: RY p slots l
def Q8 (p:Pr) (cx:Cx) (ops:Array Oper) (st:St):List (Option Nat):=if cx.bO.fresh 999 then RY p st.slots ops.toList else []
def M9 (p:Pr) (cx:Cx) (id:Nat) (ops:Array Oper) (draw:Bool) (st:St):Option (St × List aU) :=
 match nY p (cx.gh id) st with
 | none=>none
 | some (st0,os0)=>match iE p cx.tt cx.bO cx.m ops ops.toList st0 with
  | none=>none
  | some (st',os)=>some ({ st' with slots:=tidy st'.slots,ctr:=p.NZ st'.ctr },os0++os++(if draw then [aU.dr ops (eU cx.bO cx.m ops.toList) (Q8 p cx ops st')] else []))
def qE (N:St→Prop) (Q:Exit→St→Prop):Exit→St→Prop
 | .normal,st=>N st
 | e,st=>Q e st
def vQ (id:Nat) (Q:Exit→St→Prop):Exit→St→Prop
 | .exit i,st=>if Nat.beq i id then Q .normal st else Q (.exit i) st
 | e,st=>Q e st
def wp (p:Pr) (cx:Cx):Code→(Exit→St→Prop)→St→Prop
 | .skip,Q,st=>Q .normal st
 | .region id ops draw,Q,st=>match M9 p cx id ops draw st with
  | some (st',os)=>conj p os (Q .normal st')
  | none=>p.tr (.region id ops draw) Q st
 | .seq a b,Q,st=>wp p cx a (qE (wp p cx b Q) Q) st
 | .cond c a b,Q,st=>match strip p (rd p st.slots c) with
  | (.v (.bool t),os)=>conj p os (p.X4 t (wp p cx a Q st) (wp p cx b Q st))
  | _=>False
 | .block id b,Q,st=>wp p cx b (vQ id Q) st
 | .exit id,Q,st=>Q (.exit id) st
 | .ret,Q,st=>Q .ret st
 | .goto l,Q,st=>Q (.goto l) st
 | c,Q,st=>p.tr c Q st
end Go.Vx
