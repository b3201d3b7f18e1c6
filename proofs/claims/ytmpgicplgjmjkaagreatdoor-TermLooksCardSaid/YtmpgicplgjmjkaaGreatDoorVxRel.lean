/- The evaluator of the value model: what one operation of the Go model does to values that are kept apart from memory. Definitions alone; nothing is claimed here. -/
import Derived.Still
import Derived.Laws.Sem
import Derived.OwnWalk
import Derived.Laws.CopyOwn
set_option linter.all false
section
namespace Go.Vx
theorem ak{p:Prop}(h:p:=by omega):p:=h
theorem cB{p:Prop}(h:p:=by simp only;omega):p:=h
theorem bH{p:Prop}(h:p:=by simp):p:=h
theorem yh{p:Prop}(h:p:=by simp;omega):p:=h
theorem qZ{p:Prop}(h:p:=by decide):p:=h
def aW:=@Option.some.injEq
def bM:=@Prod.mk.injEq
def dO:=@Nat.eq_of_beq_eq_true
def dW:=@List.mem_append_left
def dR:=@List.mem_append_right
def gZ:=@List.getElem?_eq_some_iff
def gU:=@List.mem_cons_of_mem
def fQ:=@List.mem_singleton
def iW:=@List.getElem?_eq_getElem
def jd:=@List.getElem?_set_self
def iO:=@List.mem_cons_self
def ig:=@Bool.and_eq_true
def lq:=@List.getElem?_cons_zero
def iP:=@Option.map_some
def jR:=@List.getElem?_set_ne
def iR:=@Nat.le_refl
def sj:=@List.getElem?_append_left
def oq:=@Nat.mul_le_mul_right
def uZ:=@List.getElem?_append_right
def rZ:=@List.getElem?_cons_succ
def wI:=@List.getD_eq_getElem?_getD
def oL:=@Bool.false_eq_true
def sw:=@Nat.le_of_ble_eq_true
def kF:=@Nat.beq_refl
def yY:=@Array.getElem?_eq_some_iff
def kr:=@Nat.add_mul
def qJ:=@List.getElem?_map
def mK:=@Nat.lt_or_ge
def tX:=@List.length_cons
def nL:=@Int.le_refl
def F8:=@List.length_eq_zero_iff
def rY:=@Nat.add_assoc
def zZ:=@List.length_drop
def CP:=@List.append_assoc
def Ef:=@Nat.lt_of_lt_of_le
def EM:=@Nat.eq_zero_or_pos
def Jw:=@List.getElem?_toArray
def Jz:=@List.getElem?_of_mem
def CJ:=@List.mem_append
def Ia:=@Array.length_toList
def Jv:=@Int.toNat_of_nonneg
def OC:=@List.getElem?_eq_none
def Ij:=@Bool.not_eq_true'
def CU:=@List.mem_cons
def Xp:=@Array.getElem?_append_left
def H9:=@List.length_take
def EI:=@List.map_cons
def CR:=@Int.zero_add
def Xv:=@List.getElem?_take_of_lt
def aaM:=@Array.getD_eq_getD_getElem?
def Gs:=@List.mem_map
def VE:=@List.mem_of_getElem?
def QI:=@List.size_toArray
def Oe:=@Bool.or_eq_true
def aal:=@List.take_of_length_le
def Xu:=@List.getElem?_drop
def ac5:=@List.drop_eq_getElem_cons
def LW:=@Nat.zero_add
def Tt:=@Nat.min_eq_left
def ahB:=@List.eq_nil_of_length_eq_zero
def aeC:=@List.getElem?_replicate
def aaQ:=@Array.getElem?_push
def VO:=@Nat.mod_eq_of_lt
def XB:=@List.map_toArray
def aan:=@List.length_append
def OB:=@Nat.add_zero
def Xf:=@Option.some.inj
def aeA:=@Classical.choose_spec
def ade:=@Nat.pow_le_pow_right
def ahA:=@Array.getElem?_eq_getElem
def aai:=@List.all_eq_true
def aak:=@List.cons_append
def QL:=@Nat.le_trans
def ac3:=@List.length_pos_iff
def ada:=@Nat.testBit_two_pow
def aeh:=@List.map_congr_left
def aey:=@List.getElem?_range
def adb:=@BitVec.toNat_ofNat
def Tm:=@Nat.one_mul
def aam:=@List.drop_drop
inductive D where
 | v (x:Value)
 | dX
 | sl (sz:Nat) (n:Int) (tight:Bool) (f:Int->Nat->D)
 | agg (k:Nat) (c:Nat->D)
 | jO (k:Nat) (c:Nat->D)
 | fq (id g j:Nat)
 | rO (id g sz:Nat) (i:Int) (j:Nat)
 | gX (sz:Nat) (n:Int) (f:Int->Nat->D) (i:Int) (j:Nat)
 | vec (id g sz:Nat) (off n:Int)
 | own (sz:Nat) (n:Int) (tight:Bool) (f:Int->Nat->D)
 | fn (f:Fn) (k:Nat) (c:Nat->D)
 | JZ (b:Bool) (d:D)
 | cnd (b:Bool) (d e:D)
 | mp (kk kv:IntKind) (es:List (Int×Int))
 | Xy (id g:Nat)
 | acU (b:Bool) (i r:Int)
 | tab (g n:Nat) (k:IntKind)
 | II (t:TypeId) (d:D)
 | CB (q k:Nat) (c:Nat->D) (sz:Nat) (n:Int) (tight:Bool) (f:Int->Nat->D)
 | junk
inductive Ob where
 | box (g:Nat) (cs:List D)
 | arr (g sz:Nat) (n:Int) (tight:Bool) (f:Int->Nat->D)
 | iter (g:Nat) (s:ByteArray) (pos:Int)
 | dead (g:Nat)
def Ob.gen:Ob->Nat
 | .box g _=>g
 | .arr g _ _ _ _=>g
 | .iter g _ _=>g
 | .dead g=>g
structure St where
 slots:List D
 objs:List (Option Ob)
 ctr:Nat
inductive TK where
 | slice (e:TypeId)
 | array (n:Nat) (e:TypeId)
 | struct (fs:List (Nat×TypeId))
 | ptr (e:TypeId)
 | int (k:IntKind)
 | bool
 | string
 | map (k e:TypeId)
 | iface
 | other
inductive EK where
 | int (k:IntKind)
 | bool
 | str
 | skip
structure TI where
 size:Nat
 bytes:Nat
 kind:TK
 zero:Option (List Value)
 eqs:Option (List EK)
 plain:Bool
abbrev TT:=List (Nat×TI)
def iB:TT->Nat->Option TI
 | [],_=>none
 | (k,ti)::r,t=>if Nat.beq k t then some ti else iB r t
def TI.agg(ti:TI):Bool:=match ti.kind with
 | .struct _=>true
 | .array _ _=>true
 | _=>false
def lG(tt:TT)(t:TypeId):Nat:=match iB tt t with
 | some ti=>ti.size
 | none=>0
structure Pr where
 add:Int->Int->Int
 sub:Int->Int->Int
 mul:Int->Int->Int
 neg:Int->Int
 quo:Int->Int->Int
 rem:Int->Int->Int
 bnd:IntKind->Int->Int->Int
 bor:IntKind->Int->Int->Int
 aju:IntKind->Int->Int->Int
 amB:IntKind->Int->Int->Int
 shl:IntKind->Int->Int->Int
 shr:IntKind->Int->Int->Int
 wrap:IntKind->Int->Int
 wT:Int->Int->Int
 imax:Int->Int->Int
 Xl:Bool->Int->Int->Int
 lt:Int->Int->Bool
 le:Int->Int->Bool
 eq:Int->Int->Bool
 Le:Bool->Bool
 yZ:Bool->Bool->Bool
 sel:Bool->Bool->Bool->Bool
 ajv:Bool->Bool->Bool
 apO:Bool->ByteArray->ByteArray->ByteArray
 zH:ByteArray->Int
 ajw:ByteArray->Int->Int
 aje:ByteArray->Int->Int->ByteArray
 apP:ByteArray->ByteArray->ByteArray
 seq:ByteArray->ByteArray->Bool
 apQ:List (Int×Int)->Int->Int
 amC:ByteArray->Int->Int
 afV:ByteArray->Int->Int
 apR:Nat->Int->Int
 amD:Int->(Int->Int)->ByteArray
 X8:Nat->Nat
 EU:Int->Int->Prop
 cut:Int->Int->Int->Prop
 rng:IntKind->Int->Prop
 ne0:Int->Prop
 ge0:Int->Prop
 uf:Int->Int->Prop
 lU:Nat->Nat->Prop
 ltN:Nat->Nat->Prop
 XP:Bool->Bool->Prop
 eqS:ByteArray->ByteArray->Prop
 JJ:Bool->Prop
 imp:Bool->Prop->Prop
 make:Nat->Int->Int->Prop
 grow:Nat->Int->Prop
 all2:Int->Nat->(Int->Nat->Prop)->Prop
 ok:FuncId->List D->D->Prop
 PE:FuncId->List D->D->Prop
 TV:FuncId->List D->List Ob->List Ob->D->Prop
 see:List (Option Ob)->FuncId->List D->D->Prop
 dr:Array Oper->List (Nat×Nat)->List (Option Nat)->Prop
 ifb:Bool->Prop->Prop->Prop
 tr:Code->(Exit->St->Prop)->St->Prop
inductive bC where
 | prop (q:Prop)
 | EU (i n:Int)
 | cut (l h n:Int)
 | rng (k:IntKind) (x:Int)
 | ne0 (x:Int)
 | ge0 (x:Int)
 | uf (x y:Int)
 | lU (x y:Nat)
 | ltN (x y:Nat)
 | XP (x y:Bool)
 | JJ (b:Bool)
 | imp (b:Bool) (o:bC)
 | make (b:Nat) (l c:Int)
 | grow (b:Nat) (n:Int)
 | pW (d:D)
 | acY (n:Int) (sz:Nat) (f:Int->Nat->D)
 | u8s (n:Int) (f:Int->Nat->D)
 | flat (d:D)
 | ok (f:FuncId) (args:List D) (d:D)
 | PE (f:FuncId) (args:List D) (d:D)
 | TV (f:FuncId) (args:List D) (pre post:List Ob) (d:D)
 | see (objs:List (Option Ob)) (f:FuncId) (args:List D) (d:D)
 | dr (ops:Array Oper) (own:List (Nat×Nat)) (jU:List (Option Nat))
def Es:Value->D
 | .slice none 0 0=>.dX
 | x=>.v x
def d2i:D->Int
 | .v (.int _ x)=>x
 | _=>0
def ajR:D->Prop
 | .v (.int .u8 _)=>True
 | _=>False
def nP(p:Pr)(b:Bool):D->D->D
 | .v (.int k x),.v (.int k' y)=>if k=k' then .v (.int k (p.Xl b x y)) else .junk
 | .v (.bool x),.v (.bool y)=>.v (.bool (p.sel b x y))
 | .v (.string x),.v (.string y)=>.v (.string (p.apO b x y))
 | .sl sz n t f,.sl sz' n' t' f'=>if Nat.beq sz sz' then .sl sz (p.Xl b n n') (p.sel b t t') (λi j=>nP p b (f i j) (f' i j)) else .junk
 | .agg k c,.agg k' c'=>if Nat.beq k k' then .agg k (λj=>nP p b (c j) (c' j)) else .junk
 | .dX,.dX=>.dX
 | .junk,_=>.junk
 | x,y=>.cnd b x y
def strip(p:Pr):D->D×List bC
 | .JZ b d=>let r:=strip p d;(r.1,bC.JJ b::r.2)
 | .cnd b d _=>let r:=strip p d;(r.1,bC.JJ b::r.2)
 | d=>(d,[])
def apX:D->Bool
 | .v x=>x.oneCell'
 | .dX=>true
 | .sl _ _ _ _=>true
 | .fq _ _ _=>true
 | .rO _ _ _ _ _=>true
 | .gX _ _ _ _ _=>true
 | .vec _ _ _ _ _=>true
 | .fn _ _ _=>true
 | .mp _ _ _=>true
 | .Xy _ _=>true
 | .tab _ _ _=>true
 | .II _ _=>true
 | _=>false
def cellsOf:Nat->(Nat->D)->List D
 | 0,_=>[]
 | n+1,c=>c 0::cellsOf n (λj=>c (j+1))
def M6(ti:TI):D->Option (List D)
 | .agg k c=>if ti.agg&&Nat.beq k ti.size then some (cellsOf k c) else none
 | d=>if !ti.agg&&apX d&&Nat.beq ti.size 1 then some [d] else none
def oD:List D->Nat->List D->List D
 | cs,_,[]=>cs
 | [],_,_=>[]
 | _::cs,0,d::ds=>d::oD cs 0 ds
 | c::cs,j+1,ds=>c::oD cs j ds
def aor(p:Pr):EK->D->D->Option Bool
 | .int k,.v (.int k1 a),.v (.int k2 b)=>if k1=k then if k2=k then some (p.eq a b) else none else none
 | .bool,.v (.bool a),.v (.bool b)=>some (p.ajv a b)
 | .str,.v (.string a),.v (.string b)=>some (p.seq a b)
 | .skip,_,_=>some true
 | _,_,_=>none
def ahz(p:Pr):List EK->(Nat->D)->(Nat->D)->Option Bool
 | [],_,_=>some true
 | e::r,c,c'=>match aor p e (c 0) (c' 0),ahz p r (λj=>c (j+1)) (λj=>c' (j+1)) with
  | some b,some b'=>some (p.yZ b b')
  | _,_=>none
def bin(p:Pr)(op:BinOp)(xt:Option TI):D->D->Option (D×List bC)
 | .agg k c,.agg k' c'=>
  match xt with
  | some ti=>match ti.eqs with
   | some l=>if Nat.beq k l.length&&Nat.beq k' l.length then match op,ahz p l c c' with
    | .eql,some b=>some (.v (.bool b),[])
    | .neq,some b=>some (.v (.bool (p.Le b)),[])
    | _,_=>none
    else none
   | none=>none
  | none=>none
 | .v (.int k a),.v (.int k' b)=>
  match op with
  | .shl=>some (.v (.int k (p.shl k a b)),[bC.ge0 b])
  | .shr=>some (.v (.int k (p.shr k a b)),[bC.ge0 b])
  | op=>if k=k' then
   match op with
   | .add=>some (.v (.int k (p.add a b)),[bC.rng k (p.add a b)])
   | .sub=>some (.v (.int k (p.sub a b)),[bC.rng k (p.sub a b)])
   | .mul=>some (.v (.int k (p.mul a b)),[bC.rng k (p.mul a b)])
   | .quo=>some (.v (.int k (p.quo a b)),[bC.ne0 b,bC.rng k (p.quo a b)])
   | .rem=>some (.v (.int k (p.rem a b)),[bC.ne0 b])
   | .and=>some (.v (.int k (p.bnd k a b)),[])
   | .or=>some (.v (.int k (p.bor k a b)),[])
   | .xor=>some (.v (.int k (p.aju k a b)),[])
   | .andNot=>some (.v (.int k (p.amB k a b)),[])
   | .eql=>some (.v (.bool (p.eq a b)),[])
   | .neq=>some (.v (.bool (p.Le (p.eq a b))),[])
   | .lss=>some (.v (.bool (p.lt a b)),[])
   | .leq=>some (.v (.bool (p.le a b)),[])
   | .gtr=>some (.v (.bool (p.lt b a)),[])
   | .geq=>some (.v (.bool (p.le b a)),[])
   | _=>none
   else none
 | .v (.bool a),.v (.bool b)=>
  match xt with
  | some ti=>match ti.kind with
   | .bool=>match op with
    | .eql=>some (.v (.bool (p.ajv a b)),[])
    | .neq=>some (.v (.bool (p.Le (p.ajv a b))),[])
    | _=>none
   | _=>none
  | none=>none
 | .v (.string a),.v (.string b)=>
  match op with
  | .add=>some (.v (.string (p.apP a b)),[bC.rng .i64 (p.add (p.zH a) (p.zH b))])
  | .eql=>some (.v (.bool (p.seq a b)),[])
  | .neq=>some (.v (.bool (p.Le (p.seq a b))),[])
  | _=>none
 | _,_=>none
abbrev Y:=D×List (Nat×Option Ob)×List bC
def val(r:Option (D×List bC)):Option Y:=r.map λ(d,os)=>(d,[],os)
def MW(os:List bC)(r:Option Y):Option Y:=r.map λ(d,u,os')=>(d,u,os++os')
def qO(ti:TI)(len j:Nat)(c:Nat->D):Option D :=
 if ti.agg then if Nat.ble (j+ti.size) len then some (.agg ti.size (λjj=>c (j+jj))) else none
 else if Nat.ble (j+1) len then some (c j) else none
def yX(p:Pr)(objs:List (Option Ob))(ti:TI):D->Option (D×List bC)
 | .fq id g j=>match objs[id]? with
  | some (some (.box g' cs))=>(qO ti cs.length j (λj=>cs.getD j .junk)).map λd=>(d,[bC.lU g g'])
  | _=>none
 | .rO id g sz i j=>match objs[id]? with
  | some (some (.arr g' sz' _ _ f))=>if Nat.beq sz sz' then (qO ti sz j (f i)).map λd=>(d,[bC.lU g g']) else none
  | _=>none
 | .gX sz _ f i j=>(qO ti sz j (f i)).map λd=>(d,[])
 | .junk=>some (.junk,[bC.prop False])
 | _=>none
def QB(p:Pr)(i:Int)(j:Nat)(ds:List D)(f:Int->Nat->D):Int->Nat->D:=λi' j'=>
 if Nat.ble j j'&&Nat.blt j' (j+ds.length) then nP p (p.eq i' i) (ds.getD (j'-j) .junk) (f i' j') else f i' j'
def Vk(p:Pr)(objs:List (Option Ob))(ti:TI)(a x:D):Option Y :=
 match M6 ti x with
 | none=>none
 | some ds=>match a with
  | .fq id g j=>match objs[id]? with
   | some (some (.box g' cs))=>if Nat.ble (j+ds.length) cs.length then some (.junk,[(id,some (.box g' (oD cs j ds)))],[bC.lU g g']) else none
   | _=>none
  | .rO id g sz i j=>match objs[id]? with
   | some (some (.arr g' sz' n t f))=>
    if Nat.beq sz sz'&&Nat.ble (j+ds.length) sz then some (.junk,[(id,some (.arr g' sz' n t (QB p i j ds f)))],[bC.lU g g']) else none
   | _=>none
  | _=>none
def ZI:D->Bool
 | .cnd _ (.fq _ _ _) (.fq _ _ _)=>true
 | .cnd _ (.fq _ _ _) (.cnd _ _ _)=>true
 | _=>false
def X6(p:Pr):D->D×List bC
 | .JZ b d=>(d,[bC.JJ b])
 | d=>(d,[])
def D5(p:Pr)(id G:Nat)(os:List bC):D->Prop
 | .fq id' g _=>id'=id/\bC.lU g G∈os
 | .cnd _ x e=>D5 p id G os x/\D5 p id G os e
 | _=>False
def ahC(p:Pr)(i:Int)(id g sz:Nat):Nat->Nat->Nat->D
 | 0,_,j=>.fq id g j
 | n+1,k,j=>.cnd (p.eq i (k:Int)) (.fq id g j) (ahC p i id g sz n (k+1) (j+sz))
def Jt(p:Pr)(id g':Nat)(cs:List D)(ti:TI):D->Option (D×List bC)
 | .fq id' g j=>if Nat.beq id' id then (qO ti cs.length j (λj=>cs.getD j .junk)).map λd=>(d,[bC.lU g g']) else none
 | .cnd b x e=>match Jt p id g' cs ti x,Jt p id g' cs ti e with
  | some (d,os),some (d',os')=>some (nP p b d d',os++os')
  | _,_=>none
 | _=>none
def FZ:D->Nat
 | .fq id _ _=>id
 | .cnd _ x _=>FZ x
 | _=>0
def ael(p:Pr)(objs:List (Option Ob))(ti:TI)(a:D):Option (D×List bC):=match objs[FZ a]? with
 | some (some (.box g' cs))=>Jt p (FZ a) g' cs ti a
 | _=>none
def xZ(p:Pr)(b:Bool):List D->Nat->List D->List D
 | cs,_,[]=>cs
 | [],_,_=>[]
 | c::cs,0,d::ds=>nP p b d c::xZ p b cs 0 ds
 | c::cs,j+1,ds=>c::xZ p b cs j ds
def Fe(p:Pr)(id g':Nat)(ds:List D)(n:Nat):Bool->D->List D->Option (List D×List bC)
 | c,.fq id' g j,cs=>if Nat.beq id' id&&Nat.ble (j+ds.length) n then some (xZ p c cs j ds,[bC.lU g g']) else none
 | c,.cnd b (.fq id' g j) e,cs=>if Nat.beq id' id&&Nat.ble (j+ds.length) n then match Fe p id g' ds n (p.yZ c (p.Le b)) e (xZ p (p.yZ c b) cs j ds) with
  | some (r,os)=>some (r,bC.lU g g'::os)
  | none=>none
  else none
 | _,_,_=>none
def aaK(p:Pr)(id g':Nat)(ds:List D)(n:Nat):D->List D->Option (List D×List bC)
 | .cnd b (.fq id' g j) e,cs=>if Nat.beq id' id&&Nat.ble (j+ds.length) n then match Fe p id g' ds n (p.Le b) e (xZ p b cs j ds) with
  | some (r,os)=>some (r,bC.lU g g'::os)
  | none=>none
  else none
 | _,_=>none
def ZJ(p:Pr)(objs:List (Option Ob))(ti:TI)(a x:D):Option Y:=match M6 ti x,objs[FZ a]? with
 | some ds,some (some (.box g' cs))=>match aaK p (FZ a) g' ds cs.length a cs with
  | some (cs',os)=>some (.junk,[(FZ a,some (.box g' cs'))],os)
  | none=>none
 | _,_=>none
def amT:D->Option Nat
 | .v (.int _ (.ofNat n))=>some n
 | _=>none
def ajK(p:Pr)(tt:TT)(ti:TI)(x i:D):Option (D×List bC) :=
 match ti.kind with
 | .slice e=>match i with
  | .v (.int _ ix)=>match x with
   | .vec id g sz off n=>if Nat.beq (lG tt e) sz && !Nat.beq sz 0 then some (.rO id g sz (p.add off ix) 0,[bC.EU ix n]) else none
   | .sl sz n _ f=>if Nat.beq (lG tt e) sz && !Nat.beq sz 0 then some (.gX sz n f ix 0,[bC.EU ix n]) else none
   | _=>none
  | _=>none
 | .array n e=>match x with
  | .tab g m k=>match i with
   | .v (.int _ ix)=>if Nat.blt 1 n&&Nat.beq (lG tt e) 1&&Nat.beq m n then some (.gX 1 (n:Int) (λi _=>.v (.int k (p.apR g i))) ix 0,[bC.EU ix (n:Int)]) else none
   | _=>none
  | _=>match amT i with
   | some l=>if Nat.blt l n && !Nat.beq (lG tt e) 0 then
    match x with
    | .fq id g j=>some (.fq id g (j+l*lG tt e),[])
    | .rO id g sz i j=>some (.rO id g sz i (j+l*lG tt e),[])
    | .gX sz n f i j=>some (.gX sz n f i (j+l*lG tt e),[])
    | _=>none
    else none
   | none=>none
 | _=>none
def ajL(p:Pr)(tt:TT)(ti:TI)(x i:D):Option (D×List bC) :=
 match ti.kind with
 | .array (m+1) e=>match x,i with
  | .fq id g j,.v (.int _ ix)=>if Nat.ble m 8 && !Nat.beq (lG tt e) 0 then some (ahC p ix id g (lG tt e) m 0 j,[bC.EU ix ((m+1:Nat):Int)]) else none
  | _,_=>none
 | _=>none
def ajM(tt:TT)(ti:TI)(x:D)(k:Nat):Option (D×List bC) :=
 match ti.kind with
 | .struct fs=>match fs[k]? with
  | some (off,ft)=>if Nat.beq (lG tt ft) 0 then none else match x with
   | .fq id g j=>some (.fq id g (j+off),[])
   | .rO id g sz i j=>some (.rO id g sz i (j+off),[])
   | .gX sz n f i j=>some (.gX sz n f i (j+off),[])
   | _=>none
  | none=>none
 | _=>none
def ahD(tt:TT)(t:TypeId)(k:Nat)(c:Nat->D)(off:Nat):Option (D×List bC) :=
 match iB tt t with
 | some ti=>(qO ti k off c).map λd=>(d,[])
 | none=>none
def bound(p:Pr)(dflt:Int):Option D->Option Int
 | none=>some dflt
 | some (.v (.int _ i))=>some i
 | _=>none
def ap5(p:Pr)(tt:TT)(ti:TI)(x:D)(lo hi mx:Option D):Option (D×List bC) :=
 match ti.kind with
 | .slice e=>if Nat.beq (lG tt e) 0 then none else match x with
  | .vec id g sz off n=>if Nat.beq (lG tt e) sz then
   match mx,bound p 0 lo,bound p n hi with
   | none,some l,some h=>some (.vec id g sz (p.add off l) (p.sub h l),[bC.cut l h n])
   | some (.v (.int _ m)),some l,some h=>match hi with
    | some _=>some (.vec id g sz (p.add off l) (p.sub h l),[bC.cut l h n,bC.cut h m n])
    | none=>none
   | _,_,_=>none
   else none
  | .sl sz n t f=>if Nat.beq (lG tt e) sz then
   match mx,bound p 0 lo,bound p n hi with
   | none,some l,some h=>some (.sl sz (p.sub h l) (p.yZ t (p.eq h n)) (λi j=>f (p.add l i) j),[bC.cut l h n])
   | some (.v (.int _ m)),some l,some h=>match hi with
    | some _=>some (.sl sz (p.sub h l) (p.eq m h) (λi j=>f (p.add l i) j),[bC.cut l h n,bC.cut h m n])
    | none=>none
   | _,_,_=>none
   else none
  | .dX=>match mx,bound p 0 lo,bound p 0 hi with
   | none,some l,some h=>some (.dX,[bC.uf l 0,bC.uf h 0])
   | _,_,_=>none
  | _=>none
 | .string=>match x with
  | .v (.string s)=>match mx,bound p 0 lo,bound p (p.zH s) hi with
   | none,some l,some h=>some (.v (.string (p.aje s l h)),[bC.cut l h (p.zH s)])
   | _,_,_=>none
  | _=>none
 | _=>none
def zM(p:Pr)(objs:List (Option Ob))(sz:Nat):D->Option (Int×(Int->Nat->D)×List bC)
 | .dX=>some (0,λ_ _=>.dX,[])
 | .sl sz' n _ f=>if Nat.beq sz sz' then some (n,f,[]) else none
 | .vec id g sz' off n=>match objs[id]? with
  | some (some (.arr g' Fg _ _ f))=>if Nat.beq sz sz'&&Nat.beq sz Fg then some (n,λi j=>f (p.add off i) j,[bC.lU g g']) else none
  | _=>none
 | .v (.string s)=>if Nat.beq sz 1 then some (p.zH s,λi _=>.v (.int .u8 (p.ajw s i)),[]) else none
 | _=>none
def QA(p:Pr)(n:Int)(f h:Int->Nat->D):Int->Nat->D:=λi j=>nP p (p.lt i n) (f i j) (h (p.sub i n) j)
def afQ(p:Pr)(objs:List (Option Ob))(sz:Nat)(x y:D):Option (Int×(Int->Nat->D)×List bC):=match x with
 | .vec id _ _ off _=>match y with
  | .dX=>match objs[id]? with
   | some (some (.arr _ _ _ _ f))=>some (0,λi j=>f (p.add off i) j,[])
   | _=>zM p objs sz .dX
  | y=>zM p objs sz y
 | _=>zM p objs sz y
def xq(p:Pr)(objs:List (Option Ob))(ctr key:Nat)(sz bytes:Nat)(owned:Bool)(x y:D):Option Y :=
 match afQ p objs sz x y with
 | none=>none
 | some (m,h,os)=>match x with
  | .dX=>match objs[key]? with
   | some none=>some (.vec key ctr sz 0 m,[(key,some (.arr ctr sz m false h))],os++[bC.grow bytes m])
   | _=>none
  | .sl sz' n t f=>if Nat.beq sz sz' then
    if owned then match objs[key]? with
     | some none=>some (.vec key ctr sz 0 m,[(key,some (.arr ctr sz m false h))],os++[bC.grow bytes m,bC.uf n 0,bC.JJ t])
     | _=>none
    else some (.sl sz (p.add n m) false (QA p n f h),[],os++[bC.grow bytes (p.add n m),bC.JJ t])
   else none
  | .vec id g sz' off n=>match objs[id]? with
   | some (some (.arr g' Fg _ _ f))=>
    if Nat.beq sz sz'&&Nat.beq sz Fg then
     if Nat.beq id key then
      some (.vec key ctr sz 0 (p.add n m),[(key,some (.arr ctr sz (p.add n m) false (QA p n (λi j=>f (p.add off i) j) h)))],os++[bC.lU g g',bC.ltN g ctr,bC.grow bytes (p.add n m)])
     else match objs[key]? with
      | some none=>some (.vec key ctr sz 0 (p.add n m),[(id,some (.dead ctr)),(key,some (.arr ctr sz (p.add n m) false (QA p n (λi j=>f (p.add off i) j) h)))],os++[bC.lU g g',bC.grow bytes (p.add n m)])
      | _=>none
    else none
   | _=>none
  | _=>none
def amS(p:Pr)(objs:List (Option Ob))(sz:Nat)(x y:D):Option Y :=
 match zM p objs sz y with
 | none=>none
 | some (m,h,os)=>match x with
  | .vec id g sz' off n=>match objs[id]? with
   | some (some (.arr g' Fg N t f))=>
    if Nat.beq sz sz'&&Nat.beq sz Fg then
     some (.v (.int .i64 (p.wT m n)),[(id,some (.arr g' Fg N t (λi j=>nP p (p.yZ (p.le off i) (p.lt i (p.add off (p.wT m n)))) (h (p.sub i off) j) (f i j))))],os++[bC.lU g g'])
    else none
   | _=>none
  | _=>none
def LX(place:Nat->Option (Nat×Nat))(tis:Nat->Option TI):List (Nat×D)->List D->Option (List D)
 | [],cs=>some cs
 | (i,d)::r,cs=>match place i,tis i with
  | some (off,size),some ti=>match M6 ti d with
   | some ds=>if Nat.beq ds.length size&&Nat.ble (off+size) cs.length then LX place tis r (oD cs off ds) else none
   | none=>none
  | _,_=>none
def OD(n:Nat)(cs:List D):List D:=match n with
 | 0=>[]
 | n+1=>cs++OD n cs
def aeH(p:Pr)(sz:Nat):Nat->List D->Int->Int->Nat->D
 | 0,_,_,_,_=>.dX
 | 1,cs,_,_,j=>cs.getD j .junk
 | n+2,cs,at_,i,j=>nP p (p.eq i at_) (cs.getD j .junk) (aeH p sz (n+1) (cs.drop sz) (at_+1) i j)
def arj:List D->Bool
 | []=>false
 | .fn _ _ _::_=>true
 | _::r=>arj r
def awV(sz:Nat)(cs:List D)(i:Int)(j:Nat):D:=match i with
 | .ofNat q=>cs.getD (q*sz+j) .junk
 | .negSucc _=>.junk
def amY(p:Pr)(sz n:Nat)(cs:List D):Int->Nat->D:=if arj cs && !Nat.beq sz 1 then awV sz cs else aeH p sz n cs 0
def zN(objs:List (Option Ob))(key:Nat)(d:D)(o:Ob)(os:List bC):Option Y :=
 match objs[key]? with
 | some none=>some (d,[(key,some o)],os)
 | _=>none
def afP(ZQ:Bool)(objs:List (Option Ob))(key ctr sz:Nat)(n:Int)(f:Int->Nat->D)(os:List bC):Option Y :=
 if ZQ then some (.sl sz n true f,[],os) else zN objs key (.vec key ctr sz 0 n) (.arr ctr sz n true f) os
inductive QW where
 | plain (d:D)
 | own (sz:Nat) (n:Int) (tight:Bool) (g:Int->Nat->D)
 | CB (q k:Nat) (c:Nat->D) (sz:Nat) (n:Int) (tight:Bool) (g:Int->Nat->D)
 | TV (post:List Ob) (d:D)
structure zU where
 SY:FuncId->Nat
 fn:Nat->FuncId->List D->List (Option Ob)->Option QW
 fresh:Nat->Bool
def zU.ZQ(dB:zU):Option Nat->Bool
 | some t=>dB.fresh t
 | none=>false
def pW(p:Pr):D->Prop
 | .v _=>True
 | .dX=>True
 | .sl sz n _ f=>p.all2 n sz (λi j=>pW p (f i j))
 | .agg k c=>p.all2 1 k (λ_ j=>pW p (c j))
 | .jO k c=>p.all2 1 k (λ_ j=>pW p (c j))
 | .fn _ k c=>p.all2 1 k (λ_ j=>pW p (c j))
 | .gX sz n f _ _=>p.all2 n sz (λi j=>pW p (f i j))
 | .JZ _ d=>pW p d
 | .II _ d=>pW p d
 | .mp _ _ _=>True
 | .acU _ _ _=>True
 | .tab _ _ _=>True
 | .junk=>True
 | _=>False
def aqj(p:Pr):List D->List bC
 | []=>[]
 | d::r=>bC.pW d::aqj p r
def ahG(p:Pr):Ob->List bC
 | .box _ cs=>aqj p cs
 | .arr _ sz n _ f=>[bC.acY n sz f]
 | .iter _ _ _=>[]
 | .dead _=>[]
def flat(p:Pr):D->Prop
 | .v _=>True
 | .dX=>True
 | .agg k c=>p.all2 1 k (λ_ j=>flat p (c j))
 | .jO k c=>p.all2 1 k (λ_ j=>flat p (c j))
 | .fn _ k c=>p.all2 1 k (λ_ j=>flat p (c j))
 | .own sz n _ f=>p.all2 n sz (λi j=>flat p (f i j))
 | .II _ d=>flat p d
 | .junk=>True
 | _=>False
def bC.run(p:Pr):bC->Prop
 | .prop q=>q
 | .EU i n=>p.EU i n
 | .cut l h n=>p.cut l h n
 | .rng k x=>p.rng k x
 | .ne0 x=>p.ne0 x
 | .ge0 x=>p.ge0 x
 | .uf x y=>p.uf x y
 | .lU x y=>p.lU x y
 | .ltN x y=>p.ltN x y
 | .XP x y=>p.XP x y
 | .JJ b=>p.JJ b
 | .imp b o=>p.imp b (o.run p)
 | .make b l c=>p.make b l c
 | .grow b n=>p.grow b n
 | .pW d=>Go.Vx.pW p d
 | .acY n sz f=>p.all2 n sz (λi j=>Go.Vx.pW p (f i j))
 | .u8s n f=>p.all2 n 1 (λi _=>ajR (f i 0))
 | .flat d=>Go.Vx.flat p d
 | .ok f args d=>p.ok f args d
 | .PE f args d=>p.PE f args d
 | .TV f args pre post d=>p.TV f args pre post d
 | .see objs f args d=>p.see objs f args d
 | .dr ops own jU=>p.dr ops own jU
def conj(p:Pr):List bC->Prop->Prop
 | [],q=>q
 | x::r,q=>x.run p/\conj p r q
def Kz:List Nat->Nat->Bool
 | [],_=>false
 | x::r,y=>if Nat.beq x y then true else Kz r y
def QE:List Nat->Nat->Nat
 | [],_=>0
 | x::r,y=>if Nat.beq x y then 0 else QE r y+1
def addN(l:List Nat)(id:Nat):List Nat:=if Kz l id then l else l++[id]
def OW:D->List Nat->List Nat
 | .fq id _ _,l=>addN l id
 | .rO id _ _ _ _,l=>addN l id
 | .vec id _ _ _ _,l=>addN l id
 | _,l=>l
def uG:List D->List Nat->List Nat
 | [],l=>l
 | d::r,l=>uG r (OW d l)
def OX:D->List Nat->List Nat
 | .agg k c,l=>uG (cellsOf k c) l
 | d,l=>OW d l
def wH:List D->List Nat->List Nat
 | [],l=>l
 | d::r,l=>wH r (OX d l)
def aaW:List D->Nat->Nat
 | [],_=>0
 | .fq id _ j::r,x=>if Nat.beq id x then j else aaW r x
 | _::r,x=>aaW r x
def af0(ids:List Nat)(win:Nat->Nat):D->D
 | .fq id _ j=>if Nat.ble (win id) j then .fq (QE ids id) 0 (j-win id) else .junk
 | .rO id _ sz i j=>.rO (QE ids id) 0 sz i j
 | .vec id _ sz off n=>.vec (QE ids id) 0 sz off n
 | d=>d
def QF:List Nat->Bool
 | []=>true
 | _::_=>false
def ren(ids:List Nat)(win:Nat->Nat):D->D
 | .agg k c=>if QF (uG (cellsOf k c) []) then .agg k c else .agg k (λj=>af0 ids win (c j))
 | d=>af0 ids win d
def azz(g:Nat):Ob->Ob
 | .box _ cs=>.box g cs
 | .arr _ sz n t f=>.arr g sz n t f
 | .iter _ s i=>.iter g s i
 | .dead _=>.dead g
def Z7(p:Pr)(objs:List (Option Ob)):D->bC
 | .fq id g _=>match objs[id]? with
  | some (some o)=>bC.lU g o.gen
  | _=>bC.prop False
 | .rO id g _ _ _=>match objs[id]? with
  | some (some o)=>bC.lU g o.gen
  | _=>bC.prop False
 | .vec id g _ _ _=>match objs[id]? with
  | some (some o)=>bC.lU g o.gen
  | _=>bC.prop False
 | d=>bC.pW d
def aqg(p:Pr)(objs:List (Option Ob)):List D->List bC
 | []=>[]
 | d::r=>Z7 p objs d::aqg p objs r
def Vu(p:Pr)(objs:List (Option Ob)):List D->List bC
 | []=>[]
 | d::r=>(match d with
  | .agg k c=>if QF (uG (cellsOf k c) []) then [bC.pW (.agg k c)] else aqg p objs (cellsOf k c)
  | d=>[Z7 p objs d])++Vu p objs r
def TD(p:Pr)(objs:List (Option Ob))(ctr:Nat):List D->Nat->Option (List D×List (Nat×Int×Ob)×List bC)
 | [],_=>some ([],[],[])
 | .vec id g sz off n::r,k=>match off,objs[id]? with
  | .ofNat 0,some (some (.arr g' sz' _ _ f))=>if Nat.beq sz sz' then match TD p objs ctr r (k+1) with
   | some (cs,is,os)=>some (.vec k 0 sz 0 n::cs,(id,0,.arr 0 sz n false f)::is,bC.lU g g'::bC.ltN g ctr::bC.acY n sz f::os)
   | none=>none
   else none
  | _,_=>none
 | d::r,k=>match TD p objs ctr r k with
  | some (cs,is,os)=>some (d::cs,is,bC.pW d::os)
  | none=>none
def JB(p:Pr)(objs:List (Option Ob))(ctr:Nat)(win:Nat->Nat):List Nat->List Ob->Nat->Option (List Ob×List (Nat×Int×Ob)×List bC)
 | [],_,_=>some ([],[],[])
 | id::r,.box _ cs'::qs,k=>match objs[id]? with
  | some (some (.box _ cs))=>if Nat.ble (win id+cs'.length) cs.length then match TD p objs ctr ((cs.drop (win id)).take cs'.length) k with
   | some (c1,i1,o1)=>match JB p objs ctr win r qs (k+i1.length) with
    | some (ts,is,os)=>some (.box 0 c1::ts,i1++is,o1++os)
    | none=>none
   | none=>none
   else none
  | _=>none
 | id::r,.arr _ _ _ _ _::qs,k=>match objs[id]? with
  | some (some (.arr _ sz n t f))=>match JB p objs ctr win r qs k with
   | some (ts,is,os)=>some (.arr 0 sz n t f::ts,is,bC.acY n sz f::os)
   | none=>none
  | _=>none
 | id::r,.dead _::qs,k=>match objs[id]? with
  | some (some (.arr _ sz n t f))=>match JB p objs ctr win r qs k with
   | some (ts,is,os)=>some (.arr 0 sz n t f::ts,is,bC.acY n sz f::os)
   | none=>none
  | _=>none
 | _::_,_,_=>none
def TF(p:Pr)(ctr top:Nat)(all:List Nat):List D->Option (List D×List bC)
 | []=>some ([],[])
 | .vec k g sz o n::r=>match all[k]?,TF p ctr top all r with
  | some id,some (cs,os)=>if Nat.ble top k&&Nat.beq g 1 then some (.vec id ctr sz o n::cs,os) else none
  | _,_=>none
 | d::r=>match TF p ctr top all r with
  | some (cs,os)=>some (d::cs,bC.pW d::os)
  | none=>none
def JC(p:Pr)(objs:List (Option Ob))(ctr top:Nat)(all:List Nat)(win:Nat->Nat):List Nat->List Ob->Option (List (Nat×Option Ob)×List bC)
 | [],_=>some ([],[])
 | id::r,.box g' cs'::qs=>match objs[id]? with
  | some (some (.box g cs))=>if Nat.beq g' 0&&Nat.ble (win id+cs'.length) cs.length then match TF p ctr top all cs' with
   | some (c1,o1)=>match JC p objs ctr top all win r qs with
    | some (u,os)=>some ((id,some (.box g (oD cs (win id) c1)))::u,o1++os)
    | none=>none
   | none=>none
   else none
  | _=>none
 | id::r,.arr g' sz' n' t' f'::qs=>match objs[id]? with
  | some (some (.arr g sz n t _))=>if Nat.beq sz sz'&&Nat.beq g' 0 then match JC p objs ctr top all win r qs with
   | some (u,os)=>some ((id,some (.arr g sz n t f'))::u,bC.uf n n'::bC.XP t t'::bC.acY n sz f'::os)
   | none=>none
   else none
  | _=>none
 | id::r,.dead g'::qs=>match objs[id]? with
  | some (some (.arr _ _ _ _ _))=>if Nat.beq g' 1 then match JC p objs ctr top all win r qs with
   | some (u,os)=>some ((id,some (.dead ctr))::u,os)
   | none=>none
   else none
  | _=>none
 | _::_,_=>none
def EO(p:Pr)(ctr:Nat):List (Nat×Int×Ob)->List Ob->Option (List (Nat×Option Ob)×List bC)
 | [],[]=>some ([],[])
 | (id,_,.arr _ sz _ _ _)::r,.arr g' sz' n' _ f'::qs=>if Nat.beq sz sz'&&Nat.beq g' 1 then match EO p ctr r qs with
  | some (u,os)=>some ((id,some (.arr ctr sz n' false f'))::u,bC.acY n' sz f'::os)
  | none=>none
  else none
 | _,_=>none
def ZT:List Nat->Bool
 | []=>true
 | x::r=>!Kz r x&&ZT r
def mg:List (Nat×Int×Ob)->List Nat
 | []=>[]
 | x::r=>x.1::mg r
def CG:List (Nat×Int×Ob)->List Ob
 | []=>[]
 | x::r=>x.2.2::CG r
structure arf where
 ids:List Nat
 args:List D
 pre:List Ob
 u:List (Nat×Option Ob)
 os:List bC
def am2(p:Pr)(objs:List (Option Ob))(ctr:Nat)(args:List D)(post:List Ob):Option arf :=
 match JB p objs ctr (aaW args) (wH args []) post (wH args []).length with
 | none=>none
 | some (ts,is,os1)=>match JC p objs ctr (wH args []).length (wH args []++mg is) (aaW args) (wH args []) post,EO p ctr is (post.drop (wH args []).length) with
  | some (u1,os2),some (u2,os3)=>if ZT (wH args []++mg is) then
    some ⟨wH args []++mg is,args.map (ren (wH args []) (aaW args)),ts++CG is,u1++u2,Vu p objs args++os1++os2++os3⟩
   else none
  | _,_=>none
def ahE(p:Pr)(objs:List (Option Ob)):D->Option (D×List bC)
 | .vec id g sz off n=>match objs[id]? with
  | some (some (.arr g' sz' N t f))=>if Nat.beq sz sz' then match off with
   | .ofNat 0=>some (.sl sz n false f,[bC.lU g g'])
   | _=>some (.sl sz n (p.yZ t (p.eq (p.add off n) N)) (λi j=>f (p.add off i) j),[bC.lU g g'])
   else none
  | _=>none
 | d=>some (d,[])
def Vt(p:Pr)(objs:List (Option Ob)):List D->Option (List D×List bC)
 | []=>some ([],[])
 | d::r=>match ahE p objs d,Vt p objs r with
  | some (d',os),some (r',os')=>some (d'::r',os++os')
  | _,_=>none
def ZY(p:Pr)(objs:List (Option Ob)):D->Option (D×List bC)
 | .vec id g sz off n=>match objs[id]? with
  | some (some (.arr g' sz' N t f))=>if Nat.beq sz sz' then some (.sl sz n (p.yZ t (p.eq (p.add off n) N)) (λi j=>f (p.add off i) j),[bC.lU g g']) else none
  | _=>none
 | .fq id g j=>match objs[id]? with
  | some (some (.box g' cs))=>match Vt p objs cs with
   | some (cs',os)=>some (.gX cs'.length 1 (λ_ jj=>cs'.getD jj .junk) 0 j,bC.lU g g'::os)
   | none=>none
  | _=>none
 | .agg k c=>if QF (uG (cellsOf k c) []) then some (.agg k c,[]) else match Vt p objs (cellsOf k c) with
  | some (cs',os)=>some (.agg k (λj=>cs'.getD j .junk),os)
  | none=>none
 | d=>some (d,[])
def Z0(p:Pr)(objs:List (Option Ob)):List D->Option (List D×List bC)
 | []=>some ([],[])
 | d::r=>match ZY p objs d,Z0 p objs r with
  | some (d',os),some (r',os')=>some (d'::r',os++os')
  | _,_=>none
def ahF(p:Pr)(objs:List (Option Ob)):D->Option (D×List bC)
 | .fn f k c=>if QF (uG (cellsOf k c) []) then some (.fn f k c,[]) else match Z0 p objs (cellsOf k c) with
  | some (cs',os)=>some (.fn f k (λj=>cs'.getD j .junk),os)
  | none=>none
 | d=>ZY p objs d
def XC(p:Pr)(objs:List (Option Ob)):List D->Option (List D×List bC)
 | []=>some ([],[])
 | d::r=>match ahF p objs d,XC p objs r with
  | some (d',os),some (r',os')=>some (d'::r',os++os')
  | _,_=>none
def tO:D->Bool
 | .own _ _ _ _=>true
 | .CB _ _ _ _ _ _ _=>true
 | _=>false
def zP(ctr:Nat):List (Option Ob)->Nat->List (Nat×Option Ob)
 | [],_=>[]
 | some _::r,k=>(k,some (.dead ctr))::zP ctr r (k+1)
 | none::r,k=>zP ctr r (k+1)
def EJ(p:Pr)(dB:zU)(objs:List (Option Ob))(ctr key:Nat)(f:FuncId)(args:List D)(os:List bC):Option Y :=
 match dB.SY f with
 | 0=>match dB.fn key f args [] with
  | some (.plain d)=>if tO d then none else some (d,[],os++[bC.ok f args d])
  | _=>none
 | 1=>match dB.fn key f args [] with
  | some (.own sz n tight g)=>zN objs key (.vec key ctr sz 0 n) (.arr ctr sz n tight g) (os++[bC.ok f args (.own sz n tight g)])
  | some (.CB q k c sz n tight g)=>zN objs key (.agg k (λj=>if Nat.beq j q then .vec key ctr sz 0 n else c j)) (.arr ctr sz n tight g) (os++[bC.ok f args (.CB q k c sz n tight g)])
  | _=>none
 | 2=>match dB.fn key f args objs with
  | some (.TV post d)=>match am2 p objs ctr args post with
   | some r=>if tO d then none else some (d,r.u,os++r.os++[bC.TV f r.args r.pre post d])
   | none=>none
  | _=>none
 | 8=>match dB.fn key f args [] with
  | some (.plain d)=>if tO d then none else some (d,[],os++[bC.see objs f args d])
  | _=>none
 | 6=>match XC p objs args with
  | none=>none
  | some (va,vs)=>match dB.fn key f va [] with
   | some (.plain d)=>if tO d then none else some (d,zP ctr objs 0,os++vs++[bC.PE f va d])
   | _=>none
 | 4=>match XC p objs args with
  | none=>none
  | some (va,vs)=>match dB.fn key f va [] with
   | some (.plain d)=>if tO d then none else some (d,[],os++vs++[bC.flat d,bC.PE f va d])
   | _=>none
 | _=>match XC p objs args with
  | none=>none
  | some (va,vs)=>match dB.fn key f va [] with
   | some (.plain d)=>if tO d then none else some (d,[],os++vs++[bC.flat d,bC.PE f va d])
   | some (.own sz n tight g)=>zN objs key (.vec key ctr sz 0 n) (.arr ctr sz n tight g) (os++vs++[bC.flat (.own sz n tight g),bC.PE f va (.own sz n tight g)])
   | _=>none
def aej(p:Pr)(dB:zU)(key:Nat)(f:FuncId)(args:List D)(os:List bC):Option Y :=
 match dB.fn key f [] [] with
 | some (.plain d)=>if tO d then none else some (d,[],os++[bC.PE f args d])
 | _=>none
def EL(p:Pr)(dB:zU)(objs:List (Option Ob))(ctr key:Nat)(x:Operand)(f:FuncId)(args:List D)(os:List bC):Option Y :=
 match x with
 | .tmp _=>if Nat.beq (dB.SY (key+1024)) 7 then aej p dB key f args os else EJ p dB objs ctr key f args os
 | _=>EJ p dB objs ctr key f args os
def Xz(tt:TT)(u:TypeId):Bool:=match iB tt u with
 | some ti=>match ti.kind with
  | .slice _=>true
  | .string=>true
  | _=>false
 | none=>false
def qG(p:Pr)(tt:TT)(objs:List (Option Ob))(ctr key:Nat)(owned:Bool)(b:Builtin)(ats:List TypeId)(args:List D):Option Y :=
 match b,args with
 | .len,[x]=>match ats with
  | [t]=>match iB tt t with
   | some ti=>match ti.kind,x with
    | .slice _,.sl _ n _ _=>some (.v (.int .i64 n),[],[])
    | .slice _,.vec _ _ _ _ n=>some (.v (.int .i64 n),[],[])
    | .slice _,.dX=>some (.v (.int .i64 0),[],[])
    | .string,.v (.string s)=>some (.v (.int .i64 (p.zH s)),[],[])
    | .array n _,_=>some (.v (.int .i64 (n:Int)),[],[])
    | _,_=>none
   | none=>none
  | _=>none
 | .min,[.v (.int k a),.v (.int k' b)]=>if k=k' then some (.v (.int k (p.wT a b)),[],[]) else none
 | .max,[.v (.int k a),.v (.int k' b)]=>if k=k' then some (.v (.int k (p.imax a b)),[],[]) else none
 | .min,[.v (.int k a),.v (.int k' b),.v (.int k'' c)]=>if k=k'/\k=k'' then some (.v (.int k (p.wT (p.wT a b) c)),[],[]) else none
 | .max,[.v (.int k a),.v (.int k' b),.v (.int k'' c)]=>if k=k'/\k=k'' then some (.v (.int k (p.imax (p.imax a b) c)),[],[]) else none
 | .append,[x,y]=>match ats with
  | [t,u]=>if Xz tt u then match iB tt t with
   | some ti=>match ti.kind with
    | .slice e=>match iB tt e with
     | some te=>match te.zero with
      | some z=>if Nat.beq te.bytes 0 || !Nat.beq z.length te.size then none else xq p objs ctr key te.size te.bytes owned x y
      | none=>none
     | none=>none
    | _=>none
   | _=>none
   else none
  | _=>none
 | .copy,[x,y]=>match ats with
  | t::_=>match iB tt t with
   | some ti=>match ti.kind with
    | .slice e=>match iB tt e with
     | some te=>amS p objs te.size x y
     | none=>none
    | _=>none
   | _=>none
  | _=>none
 | _,_=>none
def ajS:Operand->Bool
 | .const .nilIface=>true
 | _=>false
def aek:Operand->Bool
 | .const (.slice none 0 0)=>true
 | _=>false
def aq9:Option TI->Bool
 | some ti=>match ti.kind with
  | .slice _=>true
  | _=>false
 | none=>false
def ara(op:BinOp):D->Option (D×List bC)
 | .dX=>match op with
  | .eql=>some (.v (.bool true),[])
  | .neq=>some (.v (.bool false),[])
  | _=>none
 | .sl _ n _ _=>match op with
  | .eql=>some (.v (.bool false),[bC.EU 0 n])
  | .neq=>some (.v (.bool true),[bC.EU 0 n])
  | _=>none
 | .vec _ _ _ _ n=>match op with
  | .eql=>some (.v (.bool false),[bC.EU 0 n])
  | .neq=>some (.v (.bool true),[bC.EU 0 n])
  | _=>none
 | _=>none
def amk(op:BinOp)(xt:Option TI):D->Option D
 | .v .nilIface=>match xt with
  | some ti=>match ti.kind,op with
   | .iface,.eql=>some (.v (.bool true))
   | .iface,.neq=>some (.v (.bool false))
   | _,_=>none
  | none=>none
 | _=>none
def orG(g:Option (Nat×Bool))(d:D):Option Y->Option Y
 | some y=>some y
 | none=>match g with
  | some _=>some (d,[],[bC.prop False])
  | none=>none
def aaV(tt:TT)(t:TypeId):Option IntKind:=match iB tt t with
 | some ti=>match ti.kind,ti.zero with
  | .int k,some [.int k' (.ofNat 0)]=>if k=k'&&ti.plain then some k else none
  | _,_=>none
 | none=>none
def aaU(ti:TI):Option (List D):=match ti.zero with
 | some z=>if Nat.beq z.length ti.size&&z.all (·.oneCell') then some (z.map Es) else none
 | none=>none
def ark(d:D)(b:Bool):D:=.jO 2 λj=>match j with
 | 0=>d
 | _=>.v (.bool b)
def ZG(c:Call):Bool:=match c.callee,c.args.toList with
 | .builtin .append,x::_=>aek x
 | _,_=>false
def ZH:List D->Bool
 | []=>false
 | .vec _ _ _ _ _::_=>true
 | _::r=>ZH r
def Qq(p:Pr)(ρ:Operand->D)(c:Operand)(a:Operand)(b:Operand):Option Y :=
 let s (x:Operand):D:=(strip p (ρ x)).1;let w (x:Operand):List bC:=(strip p (ρ x)).2
 match s c,s a,s b with
  | .v (.bool t),.v (.bool x),.v (.bool y)=>some (.v (.bool (p.sel t x y)),[],w c++(w a).map (bC.imp t)++(w b).map (bC.imp (p.Le t)))
  | _,_,_=>none
def KQ(tt:TT)(key:Nat)(objs:List (Option Ob))(ctr:Nat)(t:TypeId):Option Y :=
 match iB tt t with
  | some ti=>match aaU ti with
   | some z=>zN objs key (.fq key ctr 0) (.box ctr z) []
   | none=>none
  | none=>none
def Xc(p:Pr)(tt:TT)(key:Nat)(objs:List (Option Ob))(ctr:Nat)(ρ:Operand->D)(t:TypeId)(x:Operand):Option Y :=
 let s (x:Operand):D:=(strip p (ρ x)).1;let w (x:Operand):List bC:=(strip p (ρ x)).2
 match iB tt t with
  | some ti=>match M6 ti (s x) with
   | some ds=>zN objs key (.fq key ctr 0) (.box ctr ds) (w x)
   | none=>none
  | none=>none
def KR(p:Pr)(tt:TT)(ρ:Operand->D)(t:TypeId)(parts:Array (Nat×Operand)):Option Y :=
 let s (x:Operand):D:=(strip p (ρ x)).1;let w (x:Operand):List bC:=(strip p (ρ x)).2
 match iB tt t with
  | some ti=>match aaU ti with
   | some z=>match ti.kind with
    | .struct fs=>if fs.all (λf=>(iB tt f.2).isSome) then
      match LX (λi=>(fs[i]?).map λf=>(f.1,lG tt f.2)) (λi=>(fs[i]?).bind λf=>iB tt f.2) (parts.toList.map λx=>(x.1,s x.2)) z with
      | some cs=>some (.agg ti.size (λj=>cs.getD j .junk),[],(parts.toList.map λx=>w x.2).flatten)
      | none=>none
     else none
    | .array _ e=>match iB tt e with
     | some te=>match LX (λi=>some (i*te.size,te.size)) (λ_=>some te) (parts.toList.map λx=>(x.1,s x.2)) z with
      | some cs=>some (.agg ti.size (λj=>cs.getD j .junk),[],(parts.toList.map λx=>w x.2).flatten)
      | none=>none
     | none=>none
    | _=>none
   | none=>none
  | none=>none
def wE(p:Pr)(tt:TT)(dB:zU)(key:Nat)(objs:List (Option Ob))(ctr:Nat)(ρ:Operand->D)(o:Oper)(t:TypeId)(len:Nat)(parts:Array (Nat×Operand)):Option Y :=
 let s (x:Operand):D:=(strip p (ρ x)).1;let w (x:Operand):List bC:=(strip p (ρ x)).2
 match iB tt t with
  | some ti=>match ti.kind with
   | .slice e=>match iB tt e with
    | some te=>match aaU te with
     | some z=>match LX (λi=>some (i*te.size,te.size)) (λ_=>some te) (parts.toList.map λx=>(x.1,s x.2)) (OD len z) with
      | some cs=>if Nat.ble (len*te.size) 4096 then afP (dB.ZQ o.dst) objs key ctr te.size (len:Int) (amY p te.size len cs) ((parts.toList.map λx=>w x.2).flatten) else none
      | none=>none
     | none=>none
    | none=>none
   | _=>none
  | none=>none
def Qr(p:Pr)(tt:TT)(objs:List (Option Ob))(ρ:Operand->D)(t:TypeId)(a:Operand):Option Y :=
 let s (x:Operand):D:=(strip p (ρ x)).1;let w (x:Operand):List bC:=(strip p (ρ x)).2
 match iB tt t with
  | some ti=>if ZI (X6 p (ρ a)).1 then MW (X6 p (ρ a)).2 (val (ael p objs ti (X6 p (ρ a)).1)) else MW (w a) (val (yX p objs ti (s a)))
  | none=>none
def KS(p:Pr)(tt:TT)(objs:List (Option Ob))(ρ:Operand->D)(t:TypeId)(a:Operand)(x:Operand):Option Y :=
 let s (x:Operand):D:=(strip p (ρ x)).1;let w (x:Operand):List bC:=(strip p (ρ x)).2
 match iB tt t with
  | some ti=>if ZI (ρ a) then MW (w x) (ZJ p objs ti (ρ a) (s x)) else MW (w a++w x) (Vk p objs ti (s a) (s x))
  | none=>none
def AU(p:Pr)(ρ:Operand->D)(x:Operand):Option Y :=
 let s (x:Operand):D:=(strip p (ρ x)).1;let w (x:Operand):List bC:=(strip p (ρ x)).2
 match s x with
  | .fq id g j=>some (.fq id g j,[],w x)
  | .rO id g sz i j=>some (.rO id g sz i j,[],w x)
  | .gX sz n f i j=>some (.gX sz n f i j,[],w x)
  | _=>none
def KT(p:Pr)(tt:TT)(ρ:Operand->D)(o:Oper)(op:BinOp)(xt:TypeId)(x:Operand)(y:Operand):Option Y :=
 let s (x:Operand):D:=(strip p (ρ x)).1;let w (x:Operand):List bC:=(strip p (ρ x)).2
 if ajS y then (amk op (iB tt xt) (s x)).map (λd=>(d,[],w x)) else orG o.guard (.v (.bool false)) (if aek y&&aq9 (iB tt xt) then MW (w x) (val (ara op (s x))) else MW (w x++w y) (val (bin p op (iB tt xt) (s x) (s y))))
def qE(p:Pr)(tt:TT)(ρ:Operand->D)(o:Oper)(t:TypeId)(x:Operand):Option Y :=
 let s (x:Operand):D:=(strip p (ρ x)).1;let w (x:Operand):List bC:=(strip p (ρ x)).2
 match iB tt t with
  | some ti=>match ti.kind with
   | .iface=>none
   | _=>some (.II t (s x),[],w x)
  | none=>orG o.guard .junk none
def wF(p:Pr)(tt:TT)(ρ:Operand->D)(x:Operand)(t:TypeId)(ok:Bool):Option Y :=
 let s (x:Operand):D:=(strip p (ρ x)).1;let w (x:Operand):List bC:=(strip p (ρ x)).2
 match s x,iB tt t with
  | .II t' d,some ti=>if ok then match ti.kind with
   | .iface=>none
   | _=>if Nat.beq t' t then some (ark d true,[],w x) else match ti.zero with
    | some _=>some (ark .junk false,[],w x)
    | none=>none
   else none
  | _,_=>none
def AV(p:Pr)(ρ:Operand->D)(fn:Fn)(first:Array Operand)(captured:Array Operand):Option Y :=
 let s (x:Operand):D:=(strip p (ρ x)).1;let w (x:Operand):List bC:=(strip p (ρ x)).2
 if Nat.beq first.size 0 then some (.fn fn captured.size (λj=>(captured.toList.map s).getD j .junk),[],(captured.toList.map w).flatten) else none
def GX(p:Pr)(tt:TT)(ρ:Operand->D)(t:TypeId)(x:Operand)(i:Operand)(ok:Bool):Option Y :=
 let s (x:Operand):D:=(strip p (ρ x)).1;let w (x:Operand):List bC:=(strip p (ρ x)).2
 match iB tt t with
  | some ti=>match ti.kind with
   | .map k e=>match aaV tt k,aaV tt e with
    | some kk,some kv=>match s x,s i with
     | .mp kk' kv' es,.v (.int ki ix)=>if ok then none else if kk=kk'/\kv=kv'/\kk=ki then some (.v (.int kv (p.apQ es ix)),[],w x++w i) else none
     | _,_=>none
    | _,_=>none
   | _=>none
  | none=>none
def KU(p:Pr)(tt:TT)(key:Nat)(objs:List (Option Ob))(ctr:Nat)(ρ:Operand->D)(t:TypeId)(x:Operand):Option Y :=
 let s (x:Operand):D:=(strip p (ρ x)).1;let w (x:Operand):List bC:=(strip p (ρ x)).2
 match iB tt t with
  | some ti=>match ti.kind,s x with
   | .string,.v (.string b)=>zN objs key (.Xy key ctr) (.iter ctr b 0) (w x)
   | _,_=>none
  | none=>none
def Qs(p:Pr)(objs:List (Option Ob))(ρ:Operand->D)(x:Operand)(isS:Bool):Option Y :=
 let s (x:Operand):D:=(strip p (ρ x)).1;let w (x:Operand):List bC:=(strip p (ρ x)).2
 if isS then match s x with
  | .Xy id g=>match objs[id]? with
   | some (some (.iter g' b pos))=>some (.acU (p.lt pos (p.zH b)) pos (p.amC b pos),[(id,some (.iter g' b (p.Xl (p.lt pos (p.zH b)) (p.add pos (p.afV b pos)) pos)))],w x++[bC.lU g g'])
   | _=>none
  | _=>none
  else none
def Qt(p:Pr)(ρ:Operand->D)(op:UnOp)(x:Operand):Option Y :=
 let s (x:Operand):D:=(strip p (ρ x)).1;let w (x:Operand):List bC:=(strip p (ρ x)).2
 match op,s x with
  | .not,.v (.bool b)=>some (.v (.bool (p.Le b)),[],w x)
  | .neg,.v (.int k a)=>some (.v (.int k (p.neg a)),[],w x++[bC.rng k (p.neg a)])
  | .xor,.v (.int .i64 a)=>some (.v (.int .i64 (p.aju .i64 (-1) a)),[],w x)
  | _,_=>none
def zV(p:Pr)(tt:TT)(objs:List (Option Ob))(ctr:Nat)(ρ:Operand->D)(u:TypeId)(t:TypeId)(x:Operand):Option Y :=
 let s (x:Operand):D:=(strip p (ρ x)).1;let w (x:Operand):List bC:=(strip p (ρ x)).2
 if Nat.beq u t then match iB tt t with
  | some ti=>match ti.kind,s x with
   | .slice e,.vec id g sz off n=>match iB tt e,objs[id]? with
    | some te,some (some (.arr g' sz' _ _ f))=>match te.kind with
     | .int .u8=>if Nat.beq sz 1&&Nat.beq sz' 1 then some (.sl 1 n false (λi j=>f (p.add off i) j),[(id,some (.dead ctr))],w x++[bC.lU g g',bC.EU 0 n,bC.u8s n (λi j=>f (p.add off i) j)]) else none
     | _=>none
    | _,_=>none
   | _,_=>none
  | none=>none
 else match iB tt t,iB tt u with
  | some ti,some ui=>match ti.kind,ui.kind,s x with
   | .int k,.int _,.v (.int _ a)=>some (.v (.int k (p.wrap k a)),[],w x)
   | .string,.string,.v (.string a)=>some (.v (.string a),[],w x)
   | .slice e,.string,.v (.string a)=>match iB tt e with
    | some te=>match te.kind with
     | .int .u8=>some (.sl 1 (p.zH a) false (λi _=>.v (.int .u8 (p.ajw a i))),[],w x)
     | _=>none
    | none=>none
   | .string,.slice e,.sl sz n _ f=>match iB tt e with
    | some te=>match te.kind with
     | .int .u8=>if Nat.beq sz 1 then some (.v (.string (p.amD n (λi=>d2i (f i 0)))),[],w x++[bC.u8s n f]) else none
     | _=>none
    | none=>none
   | _,_,_=>none
  | _,_=>none
def yI(p:Pr)(tt:TT)(key:Nat)(objs:List (Option Ob))(ctr:Nat)(ρ:Operand->D)(t:TypeId)(l:Operand)(c:Operand):Option Y :=
 let s (x:Operand):D:=(strip p (ρ x)).1;let w (x:Operand):List bC:=(strip p (ρ x)).2
 match iB tt t with
  | some ti=>match ti.kind with
   | .slice e=>match iB tt e with
    | some te=>match aaU te,s l,s c with
     | some z,.v (.int _ a),.v (.int _ b)=>
      if Nat.beq te.bytes 0||Nat.beq te.size 0 then none else
      zN objs key (.vec key ctr te.size 0 a) (.arr ctr te.size a (p.eq a b) (λ_ j=>z.getD j .junk)) (w l++w c++[bC.make te.bytes a b])
     | _,_,_=>none
    | none=>none
   | _=>none
  | none=>none
def KW(p:Pr)(tt:TT)(ρ:Operand->D)(t:TypeId)(x:Operand)(lo:Option Operand)(hi:Option Operand)(mx:Option Operand):Option Y :=
 let s (x:Operand):D:=(strip p (ρ x)).1;let w (x:Operand):List bC:=(strip p (ρ x)).2
 match iB tt t with
  | some ti=>MW (w x++(lo.map w).getD []++(hi.map w).getD []++(mx.map w).getD []) (val (ap5 p tt ti (s x) (lo.map s) (hi.map s) (mx.map s)))
  | none=>none
def yJ(p:Pr)(tt:TT)(ρ:Operand->D)(t:TypeId)(x:Operand)(k:Nat):Option Y :=
 let s (x:Operand):D:=(strip p (ρ x)).1;let w (x:Operand):List bC:=(strip p (ρ x)).2
 match iB tt t with
  | some ti=>MW (w x) (val (ajM tt ti (s x) k))
  | none=>none
def KX(p:Pr)(tt:TT)(ρ:Operand->D)(t:TypeId)(x:Operand)(k:Nat):Option Y :=
 let s (x:Operand):D:=(strip p (ρ x)).1;let w (x:Operand):List bC:=(strip p (ρ x)).2
 match iB tt t with
  | some ti=>match ti.kind with
   | .struct fs=>match fs[k]?,s x with
    | some (off,ft),.agg n c=>MW (w x) (val (ahD tt ft n c off))
    | _,_=>none
   | _=>none
  | none=>none
def yK(p:Pr)(tt:TT)(dB:zU)(ρ:Operand->D)(o:Oper)(t:TypeId)(x:Operand)(i:Operand):Option Y :=
 let s (x:Operand):D:=(strip p (ρ x)).1;let w (x:Operand):List bC:=(strip p (ρ x)).2
 match iB tt t with
  | some ti=>MW (w x++w i) (val (if dB.ZQ o.dst then ajL p tt ti (s x) (s i) else ajK p tt ti (s x) (s i)))
  | none=>none
def KY(p:Pr)(tt:TT)(ρ:Operand->D)(t:TypeId)(x:Operand)(i:Operand):Option Y :=
 let s (x:Operand):D:=(strip p (ρ x)).1;let w (x:Operand):List bC:=(strip p (ρ x)).2
 match iB tt t with
  | some ti=>match ti.kind with
   | .array n e=>match amT (s i),s x with
    | some l,.agg k c=>if Nat.blt l n && !Nat.beq (lG tt e) 0 then MW (w x++w i) (val (ahD tt e k c (l*lG tt e))) else none
    | _,_=>none
   | .string=>match s x,s i with
    | .v (.string b),.v (.int _ ix)=>some (.v (.int .u8 (p.ajw b ix)),[],w x++w i++[bC.EU ix (p.zH b)])
    | _,_=>none
   | _=>none
  | none=>none
def DZ(p:Pr)(ρ:Operand->D)(x:Operand)(k:Nat):Option Y :=
 let s (x:Operand):D:=(strip p (ρ x)).1;let w (x:Operand):List bC:=(strip p (ρ x)).2
 match s x with
  | .jO n c=>if Nat.blt k n then some (c k,[],w x) else none
  | .acU b i r=>match k with
   | 0=>some (.v (.bool b),[],w x)
   | 1=>some (.v (.int .i64 i),[],w x++[bC.JJ b])
   | 2=>some (.v (.int .i32 r),[],w x++[bC.JJ b])
   | _=>none
  | _=>none
def FY(p:Pr)(tt:TT)(dB:zU)(key:Nat)(objs:List (Option Ob))(ctr:Nat)(ρ:Operand->D)(o:Oper)(c:Call):Option Y :=
 let s (x:Operand):D:=(strip p (ρ x)).1;let w (x:Operand):List bC:=(strip p (ρ x)).2
 match c.callee with
  | .builtin b=>if ZG c&&ZH (c.args.toList.map s) then none else MW ((c.args.toList.map w).flatten) (qG p tt objs ctr key (match o.dst with|some t=>dB.fresh t|none=>false) b c.argTypes.toList (c.args.toList.map s))
  | .value f=>match s f with
   | .fn (.func f') k caps=>EL p dB objs ctr key f f' (c.args.toList.map s++cellsOf k caps) (w f++(c.args.toList.map w).flatten)
   | _=>none
  | _=>none
def kI(p:Pr)(tt:TT)(dB:zU)(key:Nat)(objs:List (Option Ob))(ctr:Nat)(ρ:Operand->D)(o:Oper):Option Y:=match o.op with
 | .move x=>some (ρ x,[],[])
 | .assign x=>some (ρ x,[],[])
 | .pick c a b=>Qq p ρ c a b
 | .alloc t=>KQ tt key objs ctr t
 | .box t x=>Xc p tt key objs ctr ρ t x
 | .build t parts=>KR p tt ρ t parts
 | .buildSlice t len parts=>wE p tt dB key objs ctr ρ o t len parts
 | .load t a=>Qr p tt objs ρ t a
 | .store t a x=>KS p tt objs ρ t a x
 | .nilCheck x=>AU p ρ x
 | .binOp op xt x y _=>KT p tt ρ o op xt x y
 | .makeInterface t x=>qE p tt ρ o t x
 | .typeAssert x _ t ok=>wF p tt ρ x t ok
 | .makeFunc fn first captured=>AV p ρ fn first captured
 | .lookup t x i ok=>GX p tt ρ t x i ok
 | .range t x=>KU p tt key objs ctr ρ t x
 | .next x isS=>Qs p objs ρ x isS
 | .unOp op _ x=>Qt p ρ op x
 | .convert u t x=>zV p tt objs ctr ρ u t x
 | .makeSlice t l c=>yI p tt key objs ctr ρ t l c
 | .slice t x lo hi mx=>orG o.guard .junk (KW p tt ρ t x lo hi mx)
 | .fieldAddr t x k=>orG o.guard .junk (yJ p tt ρ t x k)
 | .field t x k=>KX p tt ρ t x k
 | .indexAddr t x i=>orG o.guard .junk (yK p tt dB ρ o t x i)
 | .index t x i=>orG o.guard .junk (KY p tt ρ t x i)
 | .extract x k=>DZ p ρ x k
 | .call c=>FY p tt dB key objs ctr ρ o c
 | _=>none
def alX:Nat->Option (Nat×IntKind):=λg=>if Nat.beq g 0 then some (256,.u8) else if Nat.beq g 4 then some (31,.i64) else if Nat.beq g 8 then some (10,.i64) else if Nat.beq g 9 then some (8,.i64) else if Nat.beq g 12 then some (20,.u64) else none
def xA:Nat->Int->Int:=λg i=>match g with|0=>if i=9\/i=10\/i=11\/i=12\/i=13\/i=32 then 1 else 0|4=>([9670,9618,9225,9228,9229,9226,176,177,9252,9227,9496,9488,9484,9492,9532,9146,9147,9472,9148,9149,9500,9508,9524,9516,9474,8804,8805,960,8800,163,183]:List Int).getD i.toNat 0|8=>([0,1,2,4,8,16,0,32,64,128]:List Int).getD i.toNat 0|9=>([3,4,264,16,0,32,64,128]:List Int).getD i.toNat 0|12=>([1,10,100,1000,10000,100000,1000000,10000000,100000000,1000000000,10000000000,100000000000,1000000000000,10000000000000,100000000000000,1000000000000000,10000000000000000,100000000000000000,1000000000000000000,10000000000000000000]:List Int).getD i.toNat 0|_=>0
def zA:Nat->Option (Nat×(Nat->Value)):=λg=>if Nat.beq g 1 then some (48,λj=>match j with|0=>.bool false|1=>.int .i64 4|2=>.bool false|3=>.int .i64 8|4=>.bool false|5=>.int .i64 20|6=>.bool true|7=>.int .i64 1|8=>.bool true|9=>.int .i64 5|10=>.bool true|11=>.int .i64 6|12=>.bool true|13=>.int .i64 7|14=>.bool true|15=>.int .i64 9|16=>.bool true|17=>.int .i64 25|18=>.bool true|19=>.int .i64 45|20=>.bool true|21=>.int .i64 47|22=>.bool true|23=>.int .i64 66|24=>.bool true|25=>.int .i64 1000|26=>.bool true|27=>.int .i64 1002|28=>.bool true|29=>.int .i64 1003|30=>.bool true|31=>.int .i64 1004|32=>.bool true|33=>.int .i64 1006|34=>.bool true|35=>.int .i64 1015|36=>.bool true|37=>.int .i64 1047|38=>.bool true|39=>.int .i64 1048|40=>.bool true|41=>.int .i64 1049|42=>.bool true|43=>.int .i64 2004|44=>.bool true|45=>.int .i64 2500|46=>.bool true|47=>.int .i64 2501|_=>.bool false) else none
def gD(_:Pr)(g:Nat):D:=match alX g with
 | some (n,k)=>.tab g n k
 | none=>match zA g with
  | some (n,f)=>.gX n 1 (λ_ j=>.v (f j)) 0 0
  | none=>.junk
def rd(p:Pr)(slots:List D):Operand->D
 | .tmp t=>slots.getD t .junk
 | .const v=>Es v
 | .func f=>.fn (.func f) 0 (λ_=>.junk)
 | .global g=>gD p g
def ku(slots:List D):Option Nat->D->List D
 | some t,d=>slots.set t d
 | none,_=>slots
def bX:List (Option Ob)->List (Nat×Option Ob)->List (Option Ob)
 | objs,[]=>objs
 | objs,(k,o)::r=>bX (objs.set k o) r
def Xb(p:Pr)(want:Bool):D->Option Bool
 | .v (.bool b)=>some (if want then b else p.Le b)
 | .JZ c d=>(Xb p want d).map (p.yZ c)
 | _=>none
def SX(p:Pr)(ops:Array Oper)(slots:List D)(g:Nat×Bool):Option Bool :=
 match (ops[g.1]?).bind (·.dst) with
 | some t=>Xb p g.2 (slots.getD t .junk)
 | none=>none
def xV(p:Pr)(tt:TT)(dB:zU)(m:Nat)(ops:Array Oper)(o:Oper)(st:St):Option (St×List bC) :=
 match kI p tt dB (m+o.dst.getD 0) st.objs st.ctr (rd p st.slots) o with
 | none=>none
 | some (d,u,os)=>match o.guard with
  | none=>some ({ st with slots:=ku st.slots o.dst d,objs:=bX st.objs u },os)
  | some g=>match SX p ops st.slots g,u,o.dst with
   | some c,[],some t=>some ({ st with slots:=st.slots.set t (.JZ c d) },os.map (bC.imp c))
   | _,_,_=>none
def idD:D->Option Nat
 | .fq id _ _=>some id
 | .gX _ _ _ _ _=>some 4096
 | _=>none
def jT(p:Pr)(ρ:Operand->D)(o:Oper):Option Nat:=match o.op with
 | .load _ x=>idD (strip p (ρ x)).1
 | .store _ x _=>idD (strip p (ρ x)).1
 | _=>none
def Tc(p:Pr)(tt:TT)(dB:zU)(m:Nat)(ops:Array Oper):List Oper->St->List (Option Nat)
 | [],_=>[]
 | o::l,st=>jT p (rd p st.slots) o::match xV p tt dB m ops o st with
  | some (st',_)=>Tc p tt dB m ops l st'
  | none=>[]
def kC(p:Pr)(tt:TT)(dB:zU)(m:Nat)(ops:Array Oper):List Oper->St->Option (St×List bC)
 | [],st=>some (st,[])
 | o::r,st=>match xV p tt dB m ops o st with
  | none=>none
  | some (st',os)=>match kC p tt dB m ops r st' with
   | none=>none
   | some (azB,os')=>some (azB,os++os')
inductive GL where
 | slot (t:Nat)
 | sub (t j:Nat)
 | cell (id j:Nat)
def Xm(st:St):GL->D
 | .slot t=>st.slots.getD t .junk
 | .sub t j=>match st.slots.getD t .junk with
  | .agg k c=>if Nat.blt j k then c j else .junk
  | _=>.junk
 | .cell id j=>match st.objs[id]? with
  | some (some (.box _ cs))=>cs.getD j .junk
  | _=>.junk
def AY(st:St)(d:D):GL->St
 | .slot t=>{ st with slots:=st.slots.set t d }
 | .sub t j=>match st.slots.getD t .junk with
  | .agg k c=>{ st with slots:=st.slots.set t (.agg k (λi=>if Nat.beq i j then d else c i)) }
  | _=>st
 | .cell id j=>match st.objs[id]? with
  | some (some (.box g cs))=>{ st with objs:=st.objs.set id (some (.box g (cs.set j d))) }
  | _=>st
def cK(p:Pr):D->D->Prop
 | _,.junk=>True
 | .v (.int k x),.v (.int k' y)=>if k=k' then p.uf x y else False
 | .v (.bool x),.v (.bool y)=>p.XP x y
 | .v (.string x),.v (.string y)=>p.eqS x y
 | .v .nilIface,.v .nilIface=>True
 | .dX,.dX=>True
 | .dX,.sl _ n _ _=>p.uf n 0
 | .sl sz n t f,.sl sz' n' t' f'=>if Nat.beq sz sz' then p.uf n n'/\p.imp t' (p.JJ t)/\p.all2 n sz (λi j=>cK p (f i j) (f' i j)) else False
 | .agg k c,.agg k' c'=>if Nat.beq k k' then p.all2 1 k (λ_ j=>cK p (c j) (c' j)) else False
 | .jO k c,.jO k' c'=>if Nat.beq k k' then p.all2 1 k (λ_ j=>cK p (c j) (c' j)) else False
 | .fn (.func f) k c,.fn (.func f') k' c'=>p.lU f f'/\p.lU k k'/\p.all2 1 k (λ_ j=>cK p (c j) (c' j))
 | .gX sz n f i j,.gX sz' n' f' i' j'=>if Nat.beq sz sz'&&Nat.beq j j' then p.uf n n'/\p.uf i i'/\p.all2 n sz (λi j=>cK p (f i j) (f' i j)) else False
 | .II t d,.II t' d'=>p.lU t t'/\cK p d d'
 | _,_=>False
def QD(p:Pr)(src g2 mD:Nat)(f2:Int->Nat->D)(dst:Option (Nat×Nat))(d:D):D->Prop
 | .cnd b x y=>p.imp b (QD p src g2 mD f2 dst d x)/\p.imp (p.Le b) (QD p src g2 mD f2 dst d y)
 | .vec id' g' sz' off' n'=>match d,dst with
  | .vec id g sz off n,some (k,c)=>if Nat.beq id src&&Nat.beq id' k&&Nat.beq sz sz'&&Nat.beq sz mD then p.lU g g2/\p.lU g' c/\p.uf off off'/\p.uf n n' else False
  | .dX,some (k,c)=>if Nat.beq id' k then p.lU g' c/\p.uf off' 0/\p.uf n' 0 else False
  | _,_=>False
 | .sl sz' n' t' f'=>match d,dst with
  | .vec id g sz off n,none=>if Nat.beq id src&&Nat.beq sz sz'&&Nat.beq sz mD then p.lU g g2/\p.uf n n'/\p.XP t' false/\p.all2 n sz (λi j=>cK p (f2 (p.add off i) j) (f' i j)) else False
  | _,_=>cK p d (.sl sz' n' t' f')
 | d'=>cK p d d'
def BK(p:Pr)(src g2 mD:Nat)(f2:Int->Nat->D)(dst:Option (Nat×Nat)):D->D->Prop
 | .cnd b x y,d'=>p.imp b (BK p src g2 mD f2 dst x d')/\p.imp (p.Le b) (BK p src g2 mD f2 dst y d')
 | d,d'=>QD p src g2 mD f2 dst d d'
inductive Gh where
 | freeze (l:GL)
 | thaw (l:GL) (key sz:Nat)
 | move (l:GL) (key:Nat)
 | forget (key:Nat)
 | empty (key sz:Nat)
 | afH (key src:Nat) (f:Int->Nat->D)
 | afI (key src dst:Nat) (f:Int->Nat->D)
def uF(p:Pr):List Gh->St->Option (St×List bC)
 | [],st=>some (st,[])
 | .freeze l::r,st=>match Xm st l with
  | .vec id g sz off n=>match st.objs[id]? with
   | some (some (.arr g' sz' N tight f))=>if Nat.beq sz sz' then
    match uF p r (AY { st with objs:=st.objs.set id none,ctr:=p.X8 st.ctr } (.sl sz n (p.yZ tight (p.eq (p.add off n) N)) (λi j=>f (p.add off i) j)) l) with
    | some (st',os)=>some (st',bC.lU g g'::os)
    | none=>none
    else none
   | _=>none
  | _=>none
 | .thaw l key sz::r,st=>match Xm st l,st.objs[key]? with
  | .dX,some none=>uF p r (AY { st with objs:=st.objs.set key (some (.arr st.ctr sz 0 false (λ_ _=>.dX))),ctr:=p.X8 st.ctr } (.vec key st.ctr sz 0 0) l)
  | _,_=>none
 | .forget key::r,st=>uF p r { st with objs:=st.objs.set key none,ctr:=p.X8 st.ctr }
 | .empty key sz::r,st=>match st.objs[key]? with
  | some none=>uF p r { st with objs:=st.objs.set key (some (.arr st.ctr sz 0 false (λ_ _=>.dX))),ctr:=p.X8 st.ctr }
  | _=>none
 | .afH key src f'::r,st=>match st.objs[key]?,st.objs[src]? with
  | some (some (.arr g sz N t f)),some (some (.arr g2 mD _ _ f2))=>if Nat.beq key src then none else
   match uF p r { st with objs:=(st.objs.set src none).set key (some (.arr g sz N t f')),ctr:=p.X8 st.ctr } with
   | some (st',os)=>some (st',bC.prop (p.all2 N sz (λi j=>BK p src g2 mD f2 none (f i j) (f' i j)))::os)
   | none=>none
  | _,_=>none
 | .afI key src dst f'::r,st=>match st.objs[key]?,st.objs[src]?,st.objs[dst]? with
  | some (some (.arr g sz N t f)),some (some (.arr g2 mD N2 t2 f2)),some none=>if Nat.beq key src then none else
   match uF p r { st with objs:=((st.objs.set src (some (.dead st.ctr))).set dst (some (.arr st.ctr mD N2 t2 f2))).set key (some (.arr g sz N t f')),ctr:=p.X8 st.ctr } with
   | some (st',os)=>some (st',bC.prop (p.all2 N sz (λi j=>BK p src g2 mD f2 (some (dst,st.ctr)) (f i j) (f' i j)))::os)
   | none=>none
  | _,_,_=>none
 | .move l key::r,st=>match Xm st l,st.objs[key]? with
  | .vec id g sz off n,some none=>match st.objs[id]? with
   | some (some (.arr g' sz' N tight f))=>if Nat.beq sz sz' then
    match uF p r (AY { st with objs:=(st.objs.set id (some (.dead st.ctr))).set key (some (.arr st.ctr sz N tight f)),ctr:=p.X8 st.ctr } (.vec key st.ctr sz off n) l) with
    | some (st',os)=>some (st',bC.lU g g'::os)
    | none=>none
    else none
   | _=>none
  | _,_=>none
structure Cx where
 tt:TT
 dB:zU
 m:Nat
 gh:Nat->List Gh
def iQ(dB:zU)(m:Nat)(ops:List Oper):List (Nat×Nat) :=
 ops.filterMap λo=>match o.op with
  | .call c=>match c.callee with
   | .value (.func f)=>if Nat.beq (dB.SY f) 0 then none else some (f+f,dB.SY f)
   | .value (.tmp _)=>match o.dst with
    | some d=>if Nat.beq (dB.SY (m+d+1024)) 7 then some (d+d+1,7) else none
    | none=>none
   | _=>none
  | _=>none
def tidy:List D->List D
 | []=>[]
 | .JZ _ _::r=>.junk::tidy r
 | d::r=>d::tidy r
def ahx(o:Oper)(l:List Oper):Bool:=match o.op with
 | .load _ (.tmp t)=>l.any λx=>match x.dst with
  | some s=>Nat.beq s t
  | none=>false
 | .store _ (.tmp t) _=>l.any λx=>match x.dst with
  | some s=>Nat.beq s t
  | none=>false
 | _=>false
def aaL(p:Pr)(slots:List D):List Oper->List (Option Nat)
 | []=>[]
 | o::l=>(if ahx o (o::l) then none else jT p (rd p slots) o)::aaL p slots l
def ZR(p:Pr)(cx:Cx)(ops:Array Oper)(st:St):List (Option Nat):=if cx.dB.fresh 999 then aaL p st.slots ops.toList else []
def Xn(p:Pr)(cx:Cx)(id:Nat)(ops:Array Oper)(draw:Bool)(st:St):Option (St×List bC) :=
 match uF p (cx.gh id) st with
 | none=>none
 | some (st0,os0)=>match kC p cx.tt cx.dB cx.m ops ops.toList st0 with
  | none=>none
  | some (st',os)=>some ({ st' with slots:=tidy st'.slots,ctr:=p.X8 st'.ctr },os0++os++(if draw then [bC.dr ops (iQ cx.dB cx.m ops.toList) (ZR p cx ops st')] else []))
def Au(N:St->Prop)(Q:Exit->St->Prop):Exit->St->Prop
 | .normal,st=>N st
 | e,st=>Q e st
def Ky(id:Nat)(Q:Exit->St->Prop):Exit->St->Prop
 | .exit i,st=>if Nat.beq i id then Q .normal st else Q (.exit i) st
 | e,st=>Q e st
def wp(p:Pr)(cx:Cx):Code->(Exit->St->Prop)->St->Prop
 | .skip,Q,st=>Q .normal st
 | .region id ops draw,Q,st=>match Xn p cx id ops draw st with
  | some (st',os)=>conj p os (Q .normal st')
  | none=>p.tr (.region id ops draw) Q st
 | .seq a b,Q,st=>wp p cx a (Au (wp p cx b Q) Q) st
 | .cond c a b,Q,st=>match strip p (rd p st.slots c) with
  | (.v (.bool t),os)=>conj p os (p.ifb t (wp p cx a Q st) (wp p cx b Q st))
  | _=>False
 | .block id b,Q,st=>wp p cx b (Ky id Q) st
 | .exit id,Q,st=>Q (.exit id) st
 | .ret,Q,st=>Q .ret st
 | .goto l,Q,st=>Q (.goto l) st
 | c,Q,st=>p.tr c Q st
end Go.Vx
end
section
namespace Go.Vx
def Qu(objs:List (Option Ob))(ctr id g:Nat):Prop:=g<ctr\/(g=ctr/\∃ o,objs[id]? = some (some o)/\o.gen=g)
def Beside(s c:Array Value)(o n:Nat):Prop:=c.size=s.size/\∀ i,(i<o\/o+n<=i)->c[i]? = s[i]?
theorem Beside.refl(c:Array Value)(o n:Nat):Beside c c o n:=⟨rfl,λ_ _=>rfl⟩
structure IS where
 i:Nat->Prop
 l:Nat->Prop
 sub : ∀ b,l b->i b
instance:CoeFun IS (λ_=>Nat->Prop):=⟨IS.i⟩
def IS.all(f:Nat->Prop):IS:=⟨f,f,λ_ h=>h⟩
def IS.or(I:IS)(f:Nat->Prop):IS:=⟨λb=>I b\/f b,λb=>I.l b\/f b,λb h=>h.imp (I.sub b) id⟩
def IS.see(I:IS)(f:Nat->Prop):IS:=⟨λb=>I b\/f b,I.l,λb h=>.inl (I.sub b h)⟩
instance:Coe (Nat->Prop) IS:=⟨IS.all⟩
def IS.le(I I':IS):Prop:=(∀ b,I b->I' b)/\∀ b,I.l b->I'.l b
theorem IS.le.refl(I:IS):I.le I:=⟨λ_ h=>h,λ_ h=>h⟩
theorem IS.CX(I:IS)(f:Nat->Prop):I.le (I.or f):=⟨λ_ h=>.inl h,λ_ h=>.inl h⟩
theorem IS.au1(I:IS)(f:Nat->Prop):I.le (I.see f):=⟨λ_ h=>.inl h,λ_ h=>h⟩
theorem IS.le.trans{I J K:IS}(h:I.le J)(k:J.le K):I.le K:=⟨λb x=>k.1 b (h.1 b x),λb x=>k.2 b (h.2 b x)⟩
def IS.New(I:IS)(n:Nat)(I':IS)(n':Nat):Prop:=(∀ b,I' b->b<n'/\(I b\/n<=b))/\∀ b,I'.l b->I.l b\/n<=b
section
variable (h:Array Obj) (I:IS) (β:Nat->Option (Nat×Nat×Array Value)) (objs:List (Option Ob)) (ctr:Nat)
def Rd:D->Value->Prop
 | .v x,y=>y=x
 | .dX,y=>y = .slice none 0 0
 | .sl sz n t f,y=>∃ a len cap,y = .slice a len cap/\(len:Int)=n/\len<=cap/\(t=true->cap=len) /\
  (0<len->∃ b o c e fr,a=some ⟨b,o,none⟩/\I.l b/\h[b]? = some (.cells c e fr) /\
   ∀ i:Nat,i<len->∀ j,j<sz->∃ z,c[o+i*sz+j]? = some z/\z.oneCell'=true/\Rd (f i j) z)
 | .agg k c,y=>∃ ys:Array Value,y = .agg ys/\ys.size=k/\∀ j,j<k->∃ z,ys[j]? = some z/\z.oneCell'=true/\Rd (c j) z
 | .jO k c,y=>∃ ys:Array Value,y = .tuple ys/\ys.size=k/\∀ j,j<k->∃ z,ys[j]? = some z/\Rd (c j) z
 | .fq id g j,y=>Qu objs ctr id g/\(∃ q,y = .pointer (some q))/\∀ cs,objs[id]? = some (some (.box g cs))->∃ b o s,β id=some (b,o,s)/\y = .pointer (some ⟨b,o+j,none⟩)
 | .rO id g sz i j,y=>Qu objs ctr id g/\(∃ q,y = .pointer (some q))/\∀ N t f,objs[id]? = some (some (.arr g sz N t f)) ->
  0<=i/\i<N/\∃ b o s,β id=some (b,o,s)/\y = .pointer (some ⟨b,o+i.toNat*sz+j,none⟩)
 | .gX sz n f i j,y=>0<=i/\i<n/\∃ b o c e fr,y = .pointer (some ⟨b,o+i.toNat*sz+j,none⟩)/\I b/\h[b]? = some (.cells c e fr) /\
  ∀ i':Nat,(i':Int)<n->∀ j',j'<sz->∃ z,c[o+i'*sz+j']? = some z/\z.oneCell'=true/\Rd (f i' j') z
 | .vec id g sz off n,y=>Qu objs ctr id g/\(∃ a l c,y = .slice a l c/\(l:Int)=n/\l<=c/\(0<l->a.isSome=true))/\∀ N t f,objs[id]? = some (some (.arr g sz N t f)) ->
  0<=off/\0<=n/\off+n<=N/\∃ a len cap,y = .slice a len cap/\(len:Int)=n/\len<=cap/\(t=true->off+cap<=N) /\
   (0<cap->∃ b o s,β id=some (b,o,s)/\a=some ⟨b,o+off.toNat*sz,none⟩/\o+off.toNat*sz+cap*sz<=s.size)
 | .own _ _ _ _,_=>False
 | .fn f k c,y=>∃ ys:Array Value,y = .func f #[] ys/\ys.size=k/\∀ j,j<k->∃ z,ys[j]? = some z/\Rd (c j) z
 | .JZ b d,y=>(b=true->Rd d y)/\(b=false->y=undef)
 | .cnd b d e,y=>(b=true->Rd d y)/\(b=false->Rd e y)
 | .mp kk kv es,y=>∃ r c cl,y = .map (some r)/\I r/\h[r]? = some (.map c cl)/\c.toList.map (λe=>(e.key,e.val))=es.map (λx=>(Value.int kk x.1,Value.int kv x.2))
 | .Xy id g,y=>Qu objs ctr id g/\(∃ q,y = .pointer (some q))/\∀ s pos,objs[id]? = some (some (.iter g s pos))->∃ b o z,β id=some (b,o,z)/\y = .pointer (some ⟨b,0,none⟩)
 | .acU b i r,y=>(b=true->y = .tuple #[.bool true,.int .i64 i,.int .i32 r])/\(b=false->y = .tuple #[.bool false])
 | .tab g n k,y=>y = .pointer (some ⟨g,0,none⟩)/\I g/\∃ c e fr,h[g]? = some (.cells c e fr)/\∀ i:Nat,i<n->c[i]? = some (.int k (xA g i))
 | .II t d,y=>∃ z,y = .iface t z/\Rd d z
 | .CB _ _ _ _ _ _ _,_=>False
 | .junk,_=>True
def Rob(k:Nat):Ob->Prop
 | .box g cs=>g<=ctr/\∃ b o s c e,β k=some (b,o,s)/\h[b]? = some (.cells c e (0,0))/\Beside s c o cs.length/\¬ I b/\o+cs.length<=s.size /\
  ∀ (j:Nat) (d:D),cs[j]? = some d->∃ z,c[o+j]? = some z/\z.oneCell'=true/\Rd h I β objs ctr d z
 | .arr g sz n _ f=>g<=ctr/\0<=n/\((n=0/\β k=none)\/∃ b o s c e,β k=some (b,o,s)/\h[b]? = some (.cells c e (0,0))/\c.size=s.size/\¬ I b/\o+n.toNat*sz<=s.size /\
  ∀ i:Nat,(i:Int)<n->∀ j,j<sz->∃ z,c[o+i*sz+j]? = some z/\z.oneCell'=true/\Rd h I β objs ctr (f i j) z)
 | .iter g s pos=>g<=ctr/\0<=pos/\∃ b o z,β k=some (b,o,z)/\h[b]? = some (.stringIter s pos.toNat)/\¬ I b
 | .dead g=>g<=ctr/\β k=none
end
def PK(h:Array Obj)(I:IS):Prop:=(∀ g n k,alX g=some (n,k)->0<n/\I g/\∃ c e fr,h[g]? = some (.cells c e fr)/\c.size=n/\∀ i:Nat,i<n->c[i]? = some (.int k (xA g i))) /\
 ∀ g n f,zA g=some (n,f)->0<n/\I g/\(∀ j,j<n->(f j).oneCell'=true/\Es (f j) = .v (f j))/\∃ c e fr,h[g]? = some (.cells c e fr)/\∀ i:Nat,i<n->c[i]? = some (f i)
theorem PK.mono{h h':Array Obj}{I I':IS}(hI : ∀ b,I b->I' b)(hs : ∀ b,I b->h'[b]? = h[b]?)(H:PK h I):PK h' I':=by
 refine⟨λg n k hg=>?_,λg n f hg=>?_⟩
 . obtain⟨h0,h1,h2⟩:=H.1 g n k hg;exact⟨h0,hI g h1,by rw[hs g h1];exact h2⟩
 obtain⟨h0,h1,h2,h3⟩:=H.2 g n f hg;exact⟨h0,hI g h1,h2,by rw[hs g h1];exact h3⟩
def Ob.like:Ob->Ob->Prop
 | .box g _,.box g' _=>g=g'
 | .arr g sz n t _,.arr g' sz' n' t' _=>g=g'/\sz=sz'/\n=n'/\t=t'
 | .iter g s _,.iter g' s' _=>g=g'/\s=s'
 | .dead g,.dead g'=>g=g'
 | _,_=>False
def Ob.live:Ob->Prop
 | .dead _=>False
 | _=>True
theorem Ob.qX(o:Ob):o.like o:=by cases o<;>simp[Ob.like]
structure Goes (h:Array Obj) (I:IS) (β:Nat->Option (Nat×Nat×Array Value)) (objs:List (Option Ob)) (ctr:Nat)
  (h':Array Obj) (I':IS) (β':Nat->Option (Nat×Nat×Array Value)) (bN:List (Option Ob)) (lC:Nat):Prop where
 gX : ∀ b,I b->I' b
 same : ∀ b,I b->h'[b]? = h[b]?
 lst : ∀ b,I.l b->I'.l b
 gen : ∀ id g,Qu objs ctr id g->Qu bN lC id g
 obj : ∀ id g,Qu objs ctr id g->∀ o',bN[id]? = some (some o')->o'.gen=g->o'.live->∃ o,objs[id]? = some (some o)/\o.like o'/\β' id=β id
theorem Goes.refl(h I β objs ctr):Goes h I β objs ctr h I β objs ctr :=
 ⟨λ_ x=>x,λ_ _=>rfl,λ_ x=>x,λ_ _ x=>x,λ_ _ _ o' ho _ _=>⟨o',ho,Ob.qX _,rfl⟩⟩
theorem Rd.mono{h I β objs ctr h' I' β' bN lC}(G:Goes h I β objs ctr h' I' β' bN lC) :
  ∀ (d:D) (y:Value),Rd h I β objs ctr d y->Rd h' I' β' bN lC d y:=by
 intro d
 induction d with
 | v x=>exact λy hy=>hy
 | dX=>exact λy hy=>hy
 | sl sz n t f ih=>
  rintro y ⟨a,len,cap,rfl,hl,hc,ht,hcells⟩;refine⟨a,len,cap,rfl,hl,hc,ht,λhp=>?_⟩;obtain⟨b,o,c,e,fr,rfl,hI,hb,hx⟩:=hcells hp;refine⟨b,o,c,e,fr,rfl,G.lst b hI,by rw[G.same b (I.sub b hI)];exact hb,λi hi j hj=>?_⟩;obtain⟨z,h1,h2,h3⟩:=hx i hi j hj;exact⟨z,h1,h2,ih _ _ _ h3⟩
 | agg k c ih=>
  rintro y ⟨ys,rfl,hs,hx⟩;refine⟨ys,rfl,hs,λj hj=>?_⟩;obtain⟨z,h1,h2,h3⟩:=hx j hj;exact⟨z,h1,h2,ih _ _ h3⟩
 | jO k c ih=>
  rintro y ⟨ys,rfl,hs,hx⟩;refine⟨ys,rfl,hs,λj hj=>?_⟩;obtain⟨z,h1,h3⟩:=hx j hj;exact⟨z,h1,ih _ _ h3⟩
 | fq id g j=>
  rintro y ⟨hg,hsh,hx⟩;refine⟨G.gen _ _ hg,hsh,λcs' ho'=>?_⟩;obtain⟨o,ho,hl,nS⟩:=G.obj id g hg _ ho' rfl trivial;cases o<;>simp[Ob.like] at hl;subst hl;obtain⟨b,o,s,hb,hy⟩:=hx _ ho;exact⟨b,o,s,by rw[nS];exact hb,hy⟩
 | rO id g sz i j=>
  rintro y ⟨hg,hsh,hx⟩;refine⟨G.gen _ _ hg,hsh,λN t f ho'=>?_⟩;obtain⟨o,ho,hl,nS⟩:=G.obj id g hg _ ho' rfl trivial;cases o<;>simp[Ob.like] at hl;obtain⟨rfl,rfl,rfl,rfl⟩:=hl;obtain⟨h0,h1,b,o,s,hb,hy⟩:=hx _ _ _ ho;exact⟨h0,h1,b,o,s,by rw[nS];exact hb,hy⟩
 | gX sz n f i j ih=>
  rintro y ⟨h0,h1,b,o,c,e,fr,hy,hI,hb,hx⟩;refine⟨h0,h1,b,o,c,e,fr,hy,G.gX b hI,by rw[G.same b hI];exact hb,λi hi j hj=>?_⟩;obtain⟨z,h1,h2,h3⟩:=hx i hi j hj;exact⟨z,h1,h2,ih _ _ _ h3⟩
 | vec id g sz off n=>
  rintro y ⟨hg,hsh,hx⟩;refine⟨G.gen _ _ hg,hsh,λN t f ho'=>?_⟩;obtain⟨o,ho,hl,nS⟩:=G.obj id g hg _ ho' rfl trivial;cases o<;>simp[Ob.like] at hl;obtain⟨rfl,rfl,rfl,rfl⟩:=hl;obtain⟨h0,h1,h2,a,len,cap,hy,h3,h4,h5,h6⟩:=hx _ _ _ ho;refine⟨h0,h1,h2,a,len,cap,hy,h3,h4,h5,λhp=>?_⟩;obtain⟨b,o,s,hb,hr⟩:=h6 hp;exact⟨b,o,s,by rw[nS];exact hb,hr⟩
 | own=>exact λy hy=>hy
 | CB=>exact λy hy=>hy
 | fn f k c ih=>
  rintro y ⟨ys,rfl,hs,hx⟩;refine⟨ys,rfl,hs,λj hj=>?_⟩;obtain⟨z,h1,h3⟩:=hx j hj;exact⟨z,h1,ih _ _ h3⟩
 | JZ b d ih=>exact λy hy=>⟨λhb=>ih y (hy.1 hb),hy.2⟩
 | cnd b d e ih1 ih2=>exact λy hy=>⟨λhb=>ih1 y (hy.1 hb),λhb=>ih2 y (hy.2 hb)⟩
 | mp kk kv es=>
  rintro y ⟨r,c,cl,rfl,hr,hb,he⟩;exact⟨r,c,cl,rfl,G.gX r hr,by rw[G.same r hr];exact hb,he⟩
 | Xy id g=>
  rintro y ⟨hg,hsh,hx⟩;refine⟨G.gen _ _ hg,hsh,λs pos ho'=>?_⟩;obtain⟨o,ho,hl,nS⟩:=G.obj id g hg _ ho' rfl trivial;cases o<;>simp[Ob.like] at hl;obtain⟨rfl,rfl⟩:=hl;obtain⟨b,o,z,hb,hy⟩:=hx _ _ ho;exact⟨b,o,z,by rw[nS];exact hb,hy⟩
 | acU b i r=>exact λy hy=>hy
 | tab g n k=>exact λy ⟨h1,h2,h3⟩=>⟨h1,G.gX g h2,by rw[G.same g h2];exact h3⟩
 | II t d ih=>exact λy ⟨z,h1,h2⟩=>⟨z,h1,ih _ h2⟩
 | junk=>exact λy _=>trivial
structure wU where
 blk:Nat->Option (Nat×Nat×Array Value)
 os:Os:=default
 out:Array (Nat×ByteArray):=#[]
def j3(w w':World):Prop:=w'.os=w.os/\w'.output=w.output
theorem j3.refl(w:World):j3 w w:=⟨rfl,rfl⟩
theorem j3.trans{a b c:World}(h:j3 a b)(k:j3 b c):j3 a c:=⟨k.1.trans h.1,k.2.trans h.2⟩
def wU.has(L:wU)(b:Nat):Prop:=∃ k z,L.blk k=some z/\z.1=b
instance:CoeFun wU (λ_=>Nat->Prop):=⟨wU.has⟩
def M4(I0:IS)(L:Nat->Prop)(B0 n:Nat)(I:IS):Prop:=(∀ b,I b->b<n/\(I0 b\/B0<=b\/L b))/\∀ b,I.l b->I0.l b\/B0<=b\/L b
theorem M4.grow{I0 I:IS}{L:Nat->Prop}{B0 n n':Nat}(h:M4 I0 L B0 n I)(hn:n<=n'):M4 I0 L B0 n' I:=⟨λb hb=>⟨Ef (h.1 b hb).1 hn,(h.1 b hb).2⟩,h.2⟩
theorem M4.same{I0 I:IS}{L:Nat->Prop}{B0 n n':Nat}(h:M4 I0 L B0 n I)(hn:n<=n'):I.New n I n':=⟨λb hb=>⟨Ef (h.1 b hb).1 hn,.inl hb⟩,λ_ hb=>.inl hb⟩
theorem M4.or{I0 I:IS}{L:Nat->Prop}{B0 n:Nat}{f:Nat->Prop}(h:M4 I0 L B0 n I)(hf : ∀ b,f b->b<n/\(B0<=b\/L b)):M4 I0 L B0 n (I.or f) :=
 ⟨λb hb=>hb.elim (h.1 b) (λx=>⟨(hf b x).1,.inr (hf b x).2⟩),λb hb=>hb.elim (h.2 b) (λx=>.inr (hf b x).2)⟩
theorem M4.push{I0 I:IS}{L:Nat->Prop}{B0 n:Nat}(h:M4 I0 L B0 n I)(hB:B0<=n):M4 I0 L B0 (n+1) (I.or (λb=>b=n)) :=
 ⟨λb hb=>hb.elim (λhb=>⟨Nat.lt_succ_of_lt (h.1 b hb).1,(h.1 b hb).2⟩) (λhb=>⟨ak,.inr (.inl ak)⟩),λb hb=>hb.elim (h.2 b) (λhb=>.inr (.inl ak))⟩
theorem M4.new{I0 I I':IS}{L:Nat->Prop}{B0 n n':Nat}(h:M4 I0 L B0 n I)(hB:B0<=n)(k:I.New n I' n'):M4 I0 L B0 n' I' :=
 ⟨λb hb=>⟨(k.1 b hb).1,(k.1 b hb).2.elim (λx=>(h.1 b x).2) (λx=>.inr (.inl (QL hB x)))⟩,λb hb=>(k.2 b hb).elim (h.2 b) (λx=>.inr (.inl (QL hB x)))⟩
structure RM (B0:Nat) (h0:Array Obj) (I0:IS) (L:wU) (I:IS) (β:Nat->Option (Nat×Nat×Array Value)) (slots:List D) (objs:List (Option Ob)) (ctr:Nat) (a:Act) (w:World):Prop where
 len:slots.length=a.tmps.size
 slot : ∀ (t:Nat) (d:D),slots[t]? = some d->∃ y,a.tmps[t]? = some y/\Rd w.heap I β objs ctr d y
 defers:a.defers=[]
 ob : ∀ (k:Nat) (o:Ob),objs[k]? = some (some o)->Rob w.heap I β objs ctr k o
 dom : ∀ k x,β k=some x->∃ o,objs[k]? = some (some o)
 dist : ∀ k k' x x',k≠k'->β k=some x->β k'=some x'->x.1≠x'.1
 own : ∀ k x,β k=some x->B0<=x.1\/L x.1
 old:I0.le I
 lt:M4 I0 L B0 w.heap.size I
 frame : ∀ b,b<B0->¬ L b->w.heap[b]? = h0[b]?
 size:B0<=w.heap.size
 pos:0<ctr
 stay : ∀ (k:Nat) (o:Ob),objs[k]? = some (some o)->o.gen=0->o.live->β k=L.blk k
 wo:w.os=L.os/\w.output=L.out
 CF:PK w.heap I
structure Post (B0:Nat) (h0:Array Obj) (I0:IS) (L:wU) (I:IS) (β:Nat->Option (Nat×Nat×Array Value)) (objs:List (Option Ob)) (ctr:Nat) (w:World)
  (bN:List (Option Ob)) (w':World) (d:D) (y:Value):Prop where
 ex : ∃ I' β',Goes w.heap I β objs ctr w'.heap I' β' bN ctr /\
  (∀ (k:Nat) (o:Ob),bN[k]? = some (some o)->Rob w'.heap I' β' bN ctr k o) /\
  (∀ k x,β' k=some x->∃ o,bN[k]? = some (some o)) /\
  (∀ k k' x x',k≠k'->β' k=some x->β' k'=some x'->x.1≠x'.1) /\
  (∀ k x,β' k=some x->B0<=x.1\/L x.1) /\
  M4 I0 L B0 w'.heap.size I' /\
  (∀ b,b<B0->¬ L b->w'.heap[b]? = h0[b]?) /\
  B0<=w'.heap.size/\j3 w w'/\Rd w'.heap I' β' bN ctr d y
section
variable {B0:Nat} {h0:Array Obj} {I0 I:IS} {L:wU} {β:Nat->Option (Nat×Nat×Array Value)} {slots:List D} {objs:List (Option Ob)} {ctr:Nat} {a:Act} {w:World}
theorem Goes.stay{h h':Array Obj}{I':IS}{β':Nat->Option (Nat×Nat×Array Value)}{bN:List (Option Ob)}{lC:Nat}(G:Goes h I β objs ctr h' I' β' bN lC)(hp:0<ctr)
  (hs : ∀ (k:Nat) (o:Ob),objs[k]? = some (some o)->o.gen=0->o.live->β k=L.blk k) : ∀ (k:Nat) (o:Ob),bN[k]? = some (some o)->o.gen=0->o.live->β' k=L.blk k:=by
 intro k o' ho' hg hl;obtain⟨o,h1,h2,h3⟩:=G.obj k 0 (.inl hp) o' ho' hg hl;rw[h3];refine hs k o h1 ?_ ?_
 . rw[← hg];cases o<;>cases o'<;>simp[Ob.like] at h2<;>simp[Ob.gen,h2]
 cases o<;>cases o'<;>simp[Ob.like,Ob.live] at *
theorem aky(dst:Option Nat)(d:D):(ku slots dst d).length=slots.length:=by
 cases dst<;>simp[ku]
theorem RM.put(R:RM B0 h0 I0 L I β slots objs ctr a w){bN:List (Option Ob)}{w':World}{d:D}{y:Value}(dst:Option Nat)
  (h:Post B0 h0 I0 L I β objs ctr w bN w' d y) : ∃ I' β',RM B0 h0 I0 L I' β' (ku slots dst d) bN ctr (a.put dst y) w':=by
 obtain⟨I',β',G,dP,hdom,hdist,hown,hlt,hfr,hsz,hwo,hd⟩:=h.ex;refine⟨I',β',?_,?_,?_,dP,hdom,hdist,hown,R.old.trans ⟨G.gX,G.lst⟩,hlt,hfr,hsz,R.pos,G.stay R.pos R.stay,⟨hwo.1.trans R.wo.1,hwo.2.trans R.wo.2⟩,R.CF.mono G.gX G.same⟩
 . rw[aky,R.len];cases dst<;>simp[Act.put]
 . intro t d' ht;cases dst with
   | none=>obtain⟨y',h1,h2⟩:=R.slot t d' ht;exact⟨y',h1,Rd.mono G _ _ h2⟩
   | some s=>
    simp only[ku] at ht
    by_cases hts:s=t
    . subst hts;have hlt:s<slots.length:=by
       rcases mK s slots.length with h|h
       . exact h
       rw[OC (by simpa using h)] at ht;cases ht
      rw[jd hlt] at ht;cases ht;refine⟨y,?_,hd⟩;simp[Act.put,R.len▸hlt]
    rw[jR hts] at ht;obtain⟨y',h1,h2⟩:=R.slot t d' ht;exact⟨y',by simp[Act.put,Array.getElem?_setIfInBounds_ne hts,h1],Rd.mono G _ _ h2⟩
 cases dst<;>simp[Act.put,R.defers]
theorem RM.still(R:RM B0 h0 I0 L I β slots objs ctr a w){d:D}{y:Value}(h:Rd w.heap I β objs ctr d y):Post B0 h0 I0 L I β objs ctr w objs w d y :=
 ⟨I,β,Goes.refl _ _ _ _ _,R.ob,R.dom,R.dist,R.own,R.lt,R.frame,R.size,j3.refl _,h⟩
theorem Rob.mono{h h':Array Obj}{I':IS}{β':Nat->Option (Nat×Nat×Array Value)}{bN:List (Option Ob)}(G:Goes h I β objs ctr h' I' β' bN ctr){k:Nat}{o:Ob}
  (hk : ∀ b x,β k=some (b,x)->¬ I b->h'[b]? = h[b]?/\¬ I' b) (nS:β' k=β k) (hr:Rob h I β objs ctr k o):Rob h' I' β' bN ctr k o:=by
 cases o with
 | box g cs=>
  obtain⟨hg,b,o,s,c,e,h1,h2,h3,h4,h5,h6⟩:=hr;obtain⟨k1,k2⟩:=hk b _ h1 h4;refine⟨hg,b,o,s,c,e,by rw[nS];exact h1,by rw[k1];exact h2,h3,k2,h5,λj d hj=>?_⟩;obtain⟨z,z1,z2,z3⟩:=h6 j d hj;exact⟨z,z1,z2,Rd.mono G _ _ z3⟩
 | arr g sz n t f=>
  obtain⟨hg,hn,hx⟩:=hr;refine⟨hg,hn,?_⟩;rcases hx with⟨h1,h2⟩|⟨b,o,s,c,e,h1,h2,h3,h4,h5,h6⟩
  . exact .inl ⟨h1,by rw[nS];exact h2⟩
  obtain⟨k1,k2⟩:=hk b _ h1 h4;refine .inr ⟨b,o,s,c,e,by rw[nS];exact h1,by rw[k1];exact h2,h3,k2,h5,λi hi j hj=>?_⟩;obtain⟨z,z1,z2,z3⟩:=h6 i hi j hj;exact⟨z,z1,z2,Rd.mono G _ _ z3⟩
 | iter g s pos=>
  obtain⟨hg,hp,b,o,z,h1,h2,h3⟩:=hr;obtain⟨k1,k2⟩:=hk b _ h1 h3;exact⟨hg,hp,b,o,z,by rw[nS];exact h1,by rw[k1];exact h2,k2⟩
 | dead g=>exact⟨hr.1,by rw[nS];exact hr.2⟩
theorem RM.lS(R:RM B0 h0 I0 L I β slots objs ctr a w){k:Nat}{x:Nat×Nat×Array Value}(hk:β k=some x):x.1<w.heap.size:=by
 obtain⟨o,ho⟩:=R.dom k x hk;have hr:=R.ob k o ho;obtain⟨b,p,s⟩:=x;cases o with
 | box g cs=>
  obtain⟨_,b',o',s',c,e,h1,h2,_⟩:=hr;rw[hk] at h1;cases h1;exact(yY.1 h2).1
 | arr g sz n t f=>
  obtain⟨_,_,hx⟩:=hr;rcases hx with⟨_,h2⟩|⟨b',o',s',c,e,h1,h2,_⟩
  . rw[hk] at h2;cases h2
  rw[hk] at h1;cases h1;exact(yY.1 h2).1
 | iter g s pos=>obtain⟨_,_,b',o',z',h1,h2,_⟩:=hr;rw[hk] at h1;cases h1;exact(yY.1 h2).1
 | dead g=>exact absurd (hk.symm.trans hr.2) bH
theorem RM.Uk(R:RM B0 h0 I0 L I β slots objs ctr a w){k:Nat}{x:Nat×Nat×Array Value}(hk:β k=some x) : ¬ I x.1:=by
 obtain⟨o,ho⟩:=R.dom k x hk;have hr:=R.ob k o ho;cases o with
 | box g cs=>obtain⟨_,b',o',s',c,e,h1,h2,_,h4,_⟩:=hr;rw[hk] at h1;cases h1;exact h4
 | arr g sz n t f=>
  obtain⟨_,_,hx⟩:=hr;rcases hx with⟨_,h2⟩|⟨b',o',s',c,e,h1,h2,_,h4,_⟩
  . rw[hk] at h2;cases h2
  rw[hk] at h1;cases h1;exact h4
 | iter g s pos=>obtain⟨_,_,b',o',z',h1,_,h3⟩:=hr;rw[hk] at h1;cases h1;exact h3
 | dead g=>exact absurd (hk.symm.trans hr.2) bH
def am7(T:D->Value->Prop)(h:Array Obj)(X:Option (Nat×Nat×Array Value)):Ob->Prop
 | .box _ cs=>∃ b o s c e,X=some (b,o,s)/\h[b]? = some (.cells c e (0,0))/\Beside s c o cs.length/\o+cs.length<=s.size/\∀ (j:Nat) (d:D),cs[j]? = some d->∃ z,c[o+j]? = some z/\z.oneCell'=true/\T d z
 | .arr _ sz n _ f=>0<=n/\((n=0/\X=none)\/∃ b o s c e,X=some (b,o,s)/\h[b]? = some (.cells c e (0,0))/\c.size=s.size/\o+n.toNat*sz<=s.size /\
  ∀ i:Nat,(i:Int)<n->∀ j,j<sz->∃ z,c[o+i*sz+j]? = some z/\z.oneCell'=true/\T (f i j) z)
 | .iter _ s pos=>0<=pos/\∃ b o z,X=some (b,o,z)/\h[b]? = some (.stringIter s pos.toNat)
 | .dead _=>False
def killed(objs:List (Option Ob))(ctr:Nat):Option Nat->List (Option Ob)
 | some id=>objs.set id (some (.dead ctr))
 | none=>objs
theorem RM.turn(R:RM B0 h0 I0 L I β slots objs ctr a w){w':World}{key:Nat}{old:Option Nat}{o:Ob}{X:Option (Nat×Nat×Array Value)}{d:D}{y:Value}
  (hgen:o.gen=ctr)
  (hkey:objs[key]? = some none\/old=some key/\∃ ob,objs[key]? = some (some ob)/\ob.gen<ctr)
  (hold : ∀ id,old=some id->∃ ob,objs[id]? = some (some ob))
  (hheap : ∀ b,b<w.heap.size->(∀ id x,old=some id->β id=some x->x.1≠b)->w'.heap[b]? = w.heap[b]?)
  (hsize:w.heap.size<=w'.heap.size)
  (hX : ∀ x,X=some x->x.1<w'.heap.size/\((∃ id z,old=some id/\β id=some z/\z.1=x.1)\/w.heap.size<=x.1\/(¬ I x.1/\B0<=x.1/\∀ k z,β k=some z->z.1≠x.1)))
  (ho:am7 (Rd w.heap I β objs ctr) w'.heap X o)
  (hd : ∀ β',β' key=X->Goes w.heap I β objs ctr w'.heap I β' ((killed objs ctr old).set key (some o)) ctr->Rd w'.heap I β' ((killed objs ctr old).set key (some o)) ctr d y)
  (hwo:j3 w w':=by first|exact⟨rfl,rfl⟩|assumption) :
  Post B0 h0 I0 L I β objs ctr w ((killed objs ctr old).set key (some o)) w' d y:=by
 have oK:key<objs.length:=by
  rcases mK key objs.length with h|h
  . exact h
  have hn:objs[key]? = none:=OC (by simpa using h);rcases hkey with hk|⟨_,ob,hk,_⟩<;>rw[hn] at hk<;>cases hk
 have hlen:(killed objs ctr old).length=objs.length:=by cases old<;>simp[killed]
 have hgk : ∀ g,Qu objs ctr key g->g<ctr:=by
  rintro g (h|⟨hg,o',ho',hgo⟩)
  . exact h
  rcases hkey with hk|⟨_,ob,hk,hlt⟩
  . rw[hk] at ho';cases ho'
  rw[hk] at ho';cases ho';omega
 have look : ∀ k,k≠key->(some k≠old)->((killed objs ctr old).set key (some o))[k]? = objs[k]?:=by
  intro k h1 h2;rw[jR (Ne.symm h1)];cases old with
  | none=>rfl
  | some id=>simp only[killed];rw[jR (λh=>h2 (by rw[h]))]
 have aaX:((killed objs ctr old).set key (some o))[key]? = some (some o):=jd (by rw[hlen];exact oK);have af2 : ∀ id,old=some id->id≠key->((killed objs ctr old).set key (some o))[id]? = some (some (.dead ctr)):=by
  rintro id rfl h1;rw[jR (Ne.symm h1)];obtain⟨ob,dP⟩:=hold id rfl;exact jd (gZ.1 dP).1
 let β':Nat->Option (Nat×Nat×Array Value):=λk=>if k=key then X else if some k=old then none else β k
 have Lh : ∀ k,k≠key->some k≠old->β' k=β k:=λk h1 h2=>by simp[β',h1,h2]
 have TH:β' key=X:=by simp[β']
 have aaY : ∀ k,k≠key->some k=old->β' k=none:=λk h1 h2=>by simp[β',h1,h2]
 have hsame : ∀ b,I b->w'.heap[b]? = w.heap[b]?:=by
  intro b hb;refine hheap b (R.lt.1 b hb).1 λid x _ hx hxb=>?_;exact R.Uk hx (hxb▸hb)
 have G:Goes w.heap I β objs ctr w'.heap I β' ((killed objs ctr old).set key (some o)) ctr:=by
  refine⟨λ_ x=>x,hsame,λ_ x=>x,λid g hg=>?_,λid g hg o' ho' hgo hlv=>?_⟩
  . rcases hg with hg|⟨rfl,o',ho',hgo⟩
    . exact .inl hg
    refine .inr ⟨rfl,?_⟩
    by_cases h1:id=key
    . subst h1;exact⟨o,aaX,hgen⟩
    by_cases h2:some id=old
    . exact⟨_,af2 id h2.symm h1,rfl⟩
    exact⟨o',by rw[look id h1 h2];exact ho',hgo⟩
  by_cases h1:id=key
  . subst h1;rw[aaX] at ho';cases ho';have:=hgk g hg;omega
  by_cases h2:some id=old
  . rw[af2 id h2.symm h1] at ho';cases ho';exact hlv.elim
  rw[look id h1 h2] at ho';exact⟨o',ho',Ob.qX _,Lh id h1 h2⟩
 have hXI : ∀ x,X=some x->¬ I x.1:=by
  intro x hx hI;rcases(hX x hx).2 with⟨id,z,_,hz,he⟩|hge|hf
  . exact R.Uk hz (he▸hI)
  . have:=(R.lt.1 _ hI).1;omega
  exact hf.1 hI
 have hXd : ∀ x,X=some x->∀ k z,k≠key->some k≠old->β k=some z->x.1≠z.1:=by
  intro x hx k z h1 h2 hz;rcases(hX x hx).2 with⟨id,z',ho',hz',he⟩|hge|hf
  . rw[← he];exact R.dist id k z' z (λh=>h2 (by rw[← h,ho'])) hz' hz
  . have:=R.lS hz;omega
  exact Ne.symm (hf.2.2 k z hz)
 have hXo : ∀ x,X=some x->B0<=x.1\/L x.1:=by
  intro x hx;rcases(hX x hx).2 with⟨id,z,_,hz,he⟩|hge|hf
  . rw[← he];exact R.own id z hz
  . have:=R.size;exact .inl ak
  exact .inl hf.2.1
 refine⟨I,β',G,?_,?_,?_,?_,?_,?_,?_,hwo,hd β' TH G⟩
 . intro k o' ho'
   by_cases h1:k=key
   . subst h1;rw[aaX] at ho';cases ho';cases o with
     | box g cs=>
      obtain⟨b,p,s,c,e,x1,x2,x3,x4,x5⟩:=ho;refine⟨by simp[Ob.gen] at hgen;omega,b,p,s,c,e,TH.trans x1,x2,x3,hXI _ x1,x4,λj d hj=>?_⟩;obtain⟨z,z1,z2,z3⟩:=x5 j d hj;exact⟨z,z1,z2,Rd.mono G _ _ z3⟩
     | arr g sz n t f=>
      refine⟨by simp[Ob.gen] at hgen;omega,ho.1,?_⟩;rcases ho.2 with⟨x1,x2⟩|⟨b,p,s,c,e,x1,x2,x3,x4,x5⟩
      . exact .inl ⟨x1,TH.trans x2⟩
      refine .inr ⟨b,p,s,c,e,TH.trans x1,x2,x3,hXI _ x1,x4,λi hi j hj=>?_⟩;obtain⟨z,z1,z2,z3⟩:=x5 i hi j hj;exact⟨z,z1,z2,Rd.mono G _ _ z3⟩
     | iter g s pos=>
      obtain⟨x0,b,p,z,x1,x2⟩:=ho;exact⟨by simp[Ob.gen] at hgen;omega,x0,b,p,z,TH.trans x1,x2,hXI _ x1⟩
     | dead g=>exact ho.elim
   by_cases h2:some k=old
   . rw[af2 k h2.symm h1] at ho';cases ho';exact⟨iR _,aaY k h1 h2⟩
   rw[look k h1 h2] at ho';refine Rob.mono G (λb x hb hI=>⟨?_,hI⟩) (Lh k h1 h2) (R.ob k o' ho');refine hheap b (R.lS hb) λid z hid hz hzb=>?_;exact R.dist id k z _ (λh=>h2 (by rw[← h,hid])) hz hb hzb
 . intro k x hk
   by_cases h1:k=key
   . subst h1;exact⟨o,aaX⟩
   by_cases h2:some k=old
   . rw[aaY k h1 h2] at hk;cases hk
   rw[Lh k h1 h2] at hk;rw[look k h1 h2];exact R.dom k x hk
 . intro k k' x x' hne hk hk'
   by_cases h1:k=key
   . subst h1;rw[TH] at hk;have h1':k'≠k:=Ne.symm hne
     by_cases h2:some k'=old
     . rw[aaY k' h1' h2] at hk';cases hk'
     rw[Lh k' h1' h2] at hk';exact hXd x hk k' x' h1' h2 hk'
   by_cases h2:some k=old
   . rw[aaY k h1 h2] at hk;cases hk
   rw[Lh k h1 h2] at hk
   by_cases h3:k'=key
   . subst h3;rw[TH] at hk';exact Ne.symm (hXd x' hk' k x h1 h2 hk)
   by_cases h4:some k'=old
   . rw[aaY k' h3 h4] at hk';cases hk'
   rw[Lh k' h3 h4] at hk';exact R.dist k k' x x' hne hk hk'
 . intro k x hk
   by_cases h1:k=key
   . subst h1;rw[TH] at hk;exact hXo x hk
   by_cases h2:some k=old
   . rw[aaY k h1 h2] at hk;cases hk
   rw[Lh k h1 h2] at hk;exact R.own k x hk
 . exact R.lt.grow ak
 . intro b hb hL;rw[← R.frame b hb hL];refine hheap b (Ef hb R.size) λid x hid hx hxb=>?_;rcases R.own id x hx with h|h
   . omega
   exact hL (hxb▸h)
 have:=R.size;omega
theorem RM.alloc(R:RM B0 h0 I0 L I β slots objs ctr a w){w1:World}(hw1:w1.heap=w.heap){key:Nat}(hkey:objs[key]? = some none)(c:Array Value)(e:TypeId)(o:Ob){d:D}{y:Value}
  (hgen:o.gen=ctr) (ho:am7 (Rd w.heap I β objs ctr) (w.heap.push (.cells c e)) (some (w.heap.size,0,c)) o)
  (hd : ∀ h' β',β' key=some (w.heap.size,0,c)->Goes w.heap I β objs ctr h' I β' (objs.set key (some o)) ctr->Rd h' I β' (objs.set key (some o)) ctr d y)
  (hwo:j3 w w1:=by first|exact⟨rfl,rfl⟩|assumption) :
  Post B0 h0 I0 L I β objs ctr w (objs.set key (some o)) (w1.alloc (.cells c e)) d y:=by
 have hheap:(w1.alloc (.cells c e)).heap=w.heap.push (.cells c e):=by simp[World.alloc,hw1]
 refine R.turn (old:=none) (X:=some (w.heap.size,0,c)) hgen (.inl hkey) (λ_ h=>by cases h) ?_ ?_ ?_ (by rw[hheap];exact ho) (λβ' h1 h2=>hd _ β' h1 h2) ⟨hwo.1,hwo.2⟩
 . intro b hb _;rw[hheap,aaQ,if_neg ak]
 . rw[hheap];simp
 intro x hx;cases hx;rw[hheap];exact⟨bH,.inr (.inl (iR _))⟩
theorem RM.aoC(R:RM B0 h0 I0 L I β slots objs ctr a w){key:Nat}(hkey:objs[key]? = some none)(s:ByteArray) :
  Post B0 h0 I0 L I β objs ctr w (objs.set key (some (.iter ctr s 0))) (w.alloc (.stringIter s 0)) (.Xy key ctr) (.pointer (some ⟨w.heap.size,0,none⟩)):=by
 have hheap:(w.alloc (.stringIter s 0)).heap=w.heap.push (.stringIter s 0):=rfl;refine R.turn (old:=none) (X:=some (w.heap.size,0,#[])) rfl (.inl hkey) (λ_ h=>by cases h) ?_ ?_ ?_ ?_ (λβ' h1 G=>⟨.inr ⟨rfl,_,jd (gZ.1 hkey).1,rfl⟩,⟨_,rfl⟩,λs' pos' ho=>⟨_,_,_,h1,rfl⟩⟩) ⟨rfl,rfl⟩
 . intro b hb _;rw[hheap,aaQ,if_neg ak]
 . rw[hheap];simp
 . intro x hx;cases hx;rw[hheap];exact⟨bH,.inr (.inl (iR _))⟩
 rw[hheap];exact⟨nL _,_,_,_,rfl,bH⟩
theorem RM.write(R:RM B0 h0 I0 L I β slots objs ctr a w){w':World}{id:Nat}{o o':Ob}{b p:Nat}{s:Array Value}{d:D}{y:Value}
  (ho:objs[id]? = some (some o)) (hl:o.like o') (hb:β id=some (b,p,s))
  (hheap : ∀ b',b'≠b->w'.heap[b']? = w.heap[b']?) (hsize:w'.heap.size=w.heap.size)
  (hn:am7 (Rd w.heap I β objs ctr) w'.heap (some (b,p,s)) o')
  (hd:Goes w.heap I β objs ctr w'.heap I β (objs.set id (some o')) ctr->Rd w'.heap I β (objs.set id (some o')) ctr d y)
  (hwo:j3 w w':=by first|exact⟨rfl,rfl⟩|assumption) :
  Post B0 h0 I0 L I β objs ctr w (objs.set id (some o')) w' d y:=by
 have hlt:id<objs.length:=(gZ.1 ho).1;have JD:(objs.set id (some o'))[id]? = some (some o'):=jd hlt;have look : ∀ k,k≠id->(objs.set id (some o'))[k]? = objs[k]?:=λk hk=>jR (Ne.symm hk);have hgen:o'.gen=o.gen:=by cases o<;>cases o'<;>simp[Ob.like] at hl<;>simp[Ob.gen,hl]
 have hnI : ¬ I b:=R.Uk hb;have G:Goes w.heap I β objs ctr w'.heap I β (objs.set id (some o')) ctr:=by
  refine⟨λ_ x=>x,λb' hb'=>hheap b' (λh=>hnI (h▸hb')),λ_ x=>x,λk g hg=>?_,λk g hg o1 ho1 hgo _=>?_⟩
  . rcases hg with hg|⟨hg,o1,ho1,hgo⟩
    . exact .inl hg
    refine .inr ⟨hg,?_⟩
    by_cases h1:k=id
    . subst h1;rw[ho] at ho1;cases ho1;exact⟨o',JD,ak⟩
    exact⟨o1,by rw[look k h1];exact ho1,hgo⟩
  by_cases h1:k=id
  . subst h1;rw[JD] at ho1;cases ho1;exact⟨o,ho,hl,rfl⟩
  rw[look k h1] at ho1;exact⟨o1,ho1,Ob.qX _,rfl⟩
 refine⟨I,β,G,?_,?_,R.dist,R.own,?_,?_,?_,hwo,hd G⟩
 . intro k o1 ho1
   by_cases h1:k=id
   . subst h1;rw[JD] at ho1;cases ho1;have hg:o.gen<=ctr:=by
      have hr:=R.ob k o ho;cases o<;>exact hr.1
     cases o' with
     | box g cs=>
      obtain⟨b1,p1,s1,c,e,x1,x2,x3,x4,x5⟩:=hn;cases x1;refine⟨(show(Ob.box g cs).gen<=ctr by rw[hgen];exact hg),b,p,s,c,e,hb,x2,x3,hnI,x4,λj d hj=>?_⟩;obtain⟨z,z1,z2,z3⟩:=x5 j d hj;exact⟨z,z1,z2,Rd.mono G _ _ z3⟩
     | arr g sz n t f=>
      refine⟨(show(Ob.arr g sz n t f).gen<=ctr by rw[hgen];exact hg),hn.1,?_⟩;rcases hn.2 with⟨x1,x2⟩|⟨b1,p1,s1,c,e,x1,x2,x3,x4,x5⟩
      . cases x2
      cases x1;refine .inr ⟨b,p,s,c,e,hb,x2,x3,hnI,x4,λi hi j hj=>?_⟩;obtain⟨z,z1,z2,z3⟩:=x5 i hi j hj;exact⟨z,z1,z2,Rd.mono G _ _ z3⟩
     | iter g s1 pos=>
      obtain⟨x0,b1,p1,z1,x1,x2⟩:=hn;cases x1;exact⟨(show(Ob.iter g s1 pos).gen<=ctr by rw[hgen];exact hg),x0,b,p,s,hb,x2,hnI⟩
     | dead g=>exact hn.elim
   rw[look k h1] at ho1;refine Rob.mono G (λb' x hb' hI=>⟨?_,hI⟩) rfl (R.ob k o1 ho1);exact hheap b' (R.dist k id _ _ h1 hb' hb)
 . intro k x hk
   by_cases h1:k=id
   . subst h1;exact⟨o',JD⟩
   rw[look k h1];exact R.dom k x hk
 . rw[hsize];exact R.lt
 . intro b' hb' hL;rw[← R.frame b' hb' hL];refine hheap b' λh=>?_;subst h;rcases R.own id _ hb with h|h
   . simp at h;omega
   exact hL h
 rw[hsize];exact R.size
theorem RM.ajI(R:RM B0 h0 I0 L I β slots objs ctr a w){w1:World}(hw1:w1.heap=w.heap)(c:Array Value)(e:TypeId){d:D}{y:Value}
  (hd : ∀ h' (I':IS),(∀ b,I b->I' b)->I'.l w.heap.size->h'[w.heap.size]? = some (.cells c e (0,0))->Goes w.heap I β objs ctr h' I' β objs ctr->Rd h' I' β objs ctr d y)
  (hwo:j3 w w1:=by first|exact⟨rfl,rfl⟩|assumption) :
  Post B0 h0 I0 L I β objs ctr w objs (w1.alloc (.cells c e)) d y:=by
 have hheap:(w1.alloc (.cells c e)).heap=w.heap.push (.cells c e):=by simp[World.alloc,hw1]
 have hold : ∀ b,b<w.heap.size->(w.heap.push (.cells c e))[b]? = w.heap[b]?:=by
  intro b hb;rw[aaQ,if_neg ak]
 have G:Goes w.heap I β objs ctr (w.heap.push (.cells c e)) (I.or (λb=>b=w.heap.size)) β objs ctr :=
  ⟨λ_ x=>.inl x,λb hb=>hold b (R.lt.1 b hb).1,λ_ x=>.inl x,λ_ _ x=>x,λ_ _ _ o' ho' _ _=>⟨o',ho',Ob.qX _,rfl⟩⟩
 refine⟨I.or (λb=>b=w.heap.size),β,by rw[hheap];exact G,?_,R.dom,R.dist,R.own,?_,?_,?_,⟨hwo.1,hwo.2⟩,?_⟩
 . intro k o ho;rw[hheap];refine Rob.mono G (λb x hb hI=>?_) rfl (R.ob k o ho);have hlt:=R.lS hb;refine⟨hold b hlt,λh=>?_⟩;rcases h with h|h
   . exact hI h
   simp at hlt;omega
 . rw[hheap,Array.size_push];exact R.lt.push R.size
 . intro b hb hL;rw[hheap,hold b (Ef hb R.size)];exact R.frame b hb hL
 . rw[hheap];have:=R.size;simp;omega
 rw[hheap];exact hd _ _ (λ_ x=>.inl x) (.inr rfl) bH G
theorem RM.aoB(R:RM B0 h0 I0 L I β slots objs ctr a w){w1:World}(hw1:w1.heap=w.heap)(c:Array Value)(e:TypeId)(fr:Nat×Nat){d:D}{y:Value}
  (hd : ∀ h' (I':IS),(∀ b,I b->I' b)->I'.l w.heap.size->h'[w.heap.size]? = some (.cells c e fr)->Goes w.heap I β objs ctr h' I' β objs ctr->Rd h' I' β objs ctr d y)
  (hwo:j3 w w1:=by first|exact⟨rfl,rfl⟩|assumption) :
  Post B0 h0 I0 L I β objs ctr w objs (w1.alloc (.cells c e fr)) d y:=by
 have hheap:(w1.alloc (.cells c e fr)).heap=w.heap.push (.cells c e fr):=by simp[World.alloc,hw1]
 have hold : ∀ b,b<w.heap.size->(w.heap.push (.cells c e fr))[b]? = w.heap[b]?:=by
  intro b hb;rw[aaQ,if_neg ak]
 have G:Goes w.heap I β objs ctr (w.heap.push (.cells c e fr)) (I.or (λb=>b=w.heap.size)) β objs ctr :=
  ⟨λ_ x=>.inl x,λb hb=>hold b (R.lt.1 b hb).1,λ_ x=>.inl x,λ_ _ x=>x,λ_ _ _ o' ho' _ _=>⟨o',ho',Ob.qX _,rfl⟩⟩
 refine⟨I.or (λb=>b=w.heap.size),β,by rw[hheap];exact G,?_,R.dom,R.dist,R.own,?_,?_,?_,⟨hwo.1,hwo.2⟩,?_⟩
 . intro k o ho;rw[hheap];refine Rob.mono G (λb x hb hI=>?_) rfl (R.ob k o ho);have hlt:=R.lS hb;refine⟨hold b hlt,λh=>?_⟩;rcases h with h|h
   . exact hI h
   simp at hlt;omega
 . rw[hheap,Array.size_push];exact R.lt.push R.size
 . intro b hb hL;rw[hheap,hold b (Ef hb R.size)];exact R.frame b hb hL
 . rw[hheap];have:=R.size;simp;omega
 rw[hheap];exact hd _ _ (λ_ x=>.inl x) (.inr rfl) bH G
theorem RM.amH(R:RM B0 h0 I0 L I β slots objs ctr a w){id:Nat}{o o':Ob}{d:D}{y:Value}
  (ho:objs[id]? = some (some o)) (hl:o.like o') (hr:Rob w.heap I β objs ctr id o')
  (hd:Goes w.heap I β objs ctr w.heap I β (objs.set id (some o')) ctr->Rd w.heap I β (objs.set id (some o')) ctr d y) :
  Post B0 h0 I0 L I β objs ctr w (objs.set id (some o')) w d y:=by
 have hlt:id<objs.length:=(gZ.1 ho).1;have JD:(objs.set id (some o'))[id]? = some (some o'):=jd hlt;have look : ∀ k,k≠id->(objs.set id (some o'))[k]? = objs[k]?:=λk hk=>jR (Ne.symm hk);have hgen:o'.gen=o.gen:=by cases o<;>cases o'<;>simp[Ob.like] at hl<;>simp[Ob.gen,hl]
 have G:Goes w.heap I β objs ctr w.heap I β (objs.set id (some o')) ctr:=by
  refine⟨λ_ x=>x,λ_ _=>rfl,λ_ x=>x,λk g hg=>?_,λk g hg o1 ho1 hgo _=>?_⟩
  . rcases hg with hg|⟨hg,o1,ho1,hgo⟩
    . exact .inl hg
    refine .inr ⟨hg,?_⟩
    by_cases h1:k=id
    . subst h1;rw[ho] at ho1;cases ho1;exact⟨o',JD,ak⟩
    exact⟨o1,by rw[look k h1];exact ho1,hgo⟩
  by_cases h1:k=id
  . subst h1;rw[JD] at ho1;cases ho1;exact⟨o,ho,hl,rfl⟩
  rw[look k h1] at ho1;exact⟨o1,ho1,Ob.qX _,rfl⟩
 refine⟨I,β,G,?_,?_,R.dist,R.own,R.lt,R.frame,R.size,j3.refl _,hd G⟩
 . intro k o1 ho1
   by_cases h1:k=id
   . subst h1;rw[JD] at ho1;cases ho1;exact Rob.mono G (λb x _ hI=>⟨rfl,hI⟩) rfl hr
   rw[look k h1] at ho1;exact Rob.mono G (λb x _ hI=>⟨rfl,hI⟩) rfl (R.ob k o1 ho1)
 intro k x hk
 by_cases h1:k=id
 . subst h1;exact⟨o',JD⟩
 rw[look k h1];exact R.dom k x hk
theorem Ob.aql{o o':Ob}(h:o.like o'):o.gen=o'.gen:=by
 cases o<;>cases o'<;>simp[Ob.like] at h<;>simp[Ob.gen,h]
theorem Ob.aoE{o o':Ob}(h:o.like o')(hl:o'.live):o.live:=by
 cases o<;>cases o'<;>simp[Ob.like,Ob.live] at *
theorem Ob.am8{o o' o'':Ob}(h:o.like o')(h':o'.like o''):o.like o'':=by
 cases o<;>cases o'<;>cases o''<;>simp[Ob.like] at *<;>simp_all
theorem Goes.trans{h1 h2 h3:Array Obj}{I1 I2 I3:IS}{β1 β2 β3:Nat->Option (Nat×Nat×Array Value)}{o1 o2 o3:List (Option Ob)}{c1 c2 c3:Nat}
  (G:Goes h1 I1 β1 o1 c1 h2 I2 β2 o2 c2) (G':Goes h2 I2 β2 o2 c2 h3 I3 β3 o3 c3):Goes h1 I1 β1 o1 c1 h3 I3 β3 o3 c3:=by
 refine⟨λb hb=>G'.gX b (G.gX b hb),λb hb=>(G'.same b (G.gX b hb)).trans (G.same b hb),λb hb=>G'.lst b (G.lst b hb),λid g hg=>G'.gen id g (G.gen id g hg),λid g hg o'' ho hgo hl=>?_⟩;obtain⟨o',a1,a2,a3⟩:=G'.obj id g (G.gen id g hg) o'' ho hgo hl;obtain⟨o,b1,b2,b3⟩:=G.obj id g hg o' a1 ((Ob.aql a2).trans hgo) (Ob.aoE a2 hl);exact⟨o,b1,Ob.am8 b2 a2,a3.trans b3⟩
theorem Post.after{I1:IS}{w1 w':World}{bN:List (Option Ob)}{d:D}{y:Value}(hwo:j3 w w1)(G:Goes w.heap I β objs ctr w1.heap I1 β objs ctr)
  (h:Post B0 h0 I0 L I1 β objs ctr w1 bN w' d y):Post B0 h0 I0 L I β objs ctr w bN w' d y:=by
 obtain⟨I',β',G',r1,r2,r3,r4,r5,r6,r7,r8,r9⟩:=h.ex;exact⟨I',β',G.trans G',r1,r2,r3,r4,r5,r6,r7,hwo.trans r8,r9⟩
theorem RM.grow(R:RM B0 h0 I0 L I β slots objs ctr a w){I1:IS}{w1:World}(h1:I.le I1)(h2:I.New w.heap.size I1 w1.heap.size)
  (h3 : ∀ b,b<w.heap.size->w1.heap[b]? = w.heap[b]?) (h4:w.heap.size<=w1.heap.size) (hwo:j3 w w1) :
  Goes w.heap I β objs ctr w1.heap I1 β objs ctr/\RM B0 h0 I0 L I1 β slots objs ctr a w1:=by
 have G:Goes w.heap I β objs ctr w1.heap I1 β objs ctr :=
  ⟨h1.1,λb hb=>h3 b (R.lt.1 b hb).1,h1.2,λ_ _ x=>x,λ_ _ _ o' ho' _ _=>⟨o',ho',Ob.qX _,rfl⟩⟩
 refine⟨G,R.len,λt d ht=>?_,R.defers,λk o ho=>?_,R.dom,R.dist,R.own,R.old.trans h1,R.lt.new R.size h2,λb hb hL=>?_,by have:=R.size;omega,R.pos,G.stay R.pos R.stay,⟨hwo.1.trans R.wo.1,hwo.2.trans R.wo.2⟩,R.CF.mono G.gX G.same⟩
 . obtain⟨y,y1,y2⟩:=R.slot t d ht;exact⟨y,y1,Rd.mono G _ _ y2⟩
 . refine Rob.mono G (λb x hb hI=>?_) rfl (R.ob k o ho);have hlt:=R.lS hb;refine⟨h3 b hlt,λh=>?_⟩;rcases(h2.1 b h).2 with h|h
   . exact hI h
   simp at hlt;omega
 rw[h3 b (Ef hb R.size)];exact R.frame b hb hL
end
end Go.Vx
end
