/- What is built and made; then: each step of the evaluator is a step of the Go model. -/
import Derived.Test.YtckmalogclklmaaGreatDoorVxOps4
set_option linter.all false
namespace Go.Vx
section
variable {P:Program} {tt:TT} {h:Array Obj} {I:IS} {β:Nat→Option (Nat × Nat × Array Value)} {objs:List (Option Ob)} {ctr:Nat}
def Cells (T:D→Value→Prop) (cs:List D) (vs:Array Value):Prop :=
 cs.length=vs.size∧∀ (j:Nat) (d:D),cs[j]? = some d→∃ z,vs[j]? = some z∧z.oneCell'=true∧T d z
theorem adT {zs:List Value} (h1:zs.all (·.oneCell')=true):Cells (Rd h I β objs ctr) (zs.map wO) zs.toArray:=by
 refine ⟨by simp,fun j d hj=>?_⟩
 rw [List.getElem?_map] at hj
 cases hz:zs[j]? with
 | none=>rw [hz] at hj;cases hj
 | some z =>
  rw [hz] at hj
  simp only [Option.map_some,Option.some.injEq] at hj
  subst hj
  exact ⟨z,by simpa using hz,List.all_eq_true.1 h1 z (List.mem_of_getElem? hz),UW z⟩
theorem foldl_set (vs:List Value) : ∀ (off k:Nat) (cs:Array Value),((vs.zipIdx k).foldl (fun cs (x:Value × Nat)=>cs.setIfInBounds (off+x.2) x.1) cs).size=cs.size ∧
  ∀ q,off+k+vs.length≤cs.size→((vs.zipIdx k).foldl (fun cs (x:Value × Nat)=>cs.setIfInBounds (off+x.2) x.1) cs)[q]? = if off+k≤q∧q < off+k+vs.length then vs[q-(off+k)]? else cs[q]?:=by
 induction vs with
 | nil=>intro off k cs;exact ⟨rfl,fun q _=>by rw [if_neg (by simp only [List.length_nil];omega)];rfl⟩
 | cons v vs ih =>
  intro off k cs
  simp only [List.zipIdx_cons,List.foldl_cons]
  obtain ⟨i1,i2⟩:=ih off (k+1) (cs.setIfInBounds (off+k) v)
  refine ⟨by rw [i1];simp,fun q hq=>?_⟩
  rw [i2 q (by simp at hq ⊢;omega)]
  by_cases h1:off+(k+1)≤q∧q < off+(k+1)+vs.length
  · rw [if_pos h1,if_pos (by simp;omega)]
    rw [show q-(off+k)=q-(off+(k+1))+1 by omega,List.getElem?_cons_succ]
  · rw [if_neg h1]
    by_cases h2:q=off+k
    · subst h2
      have hlt:off+k < cs.size:=by simp at hq;omega
      rw [if_pos (by simp)]
      simp [hlt]
    · rw [if_neg (by simp;omega),Array.getElem?_setIfInBounds_ne (Ne.symm h2)]
theorem Sd {place:Nat→Option (Nat × Nat)} {tis:Nat→Option TI} (ρ:Operand→D) (v:Operand→Value) :
  ∀ (parts:List (Nat × Operand)),(∀ x∈parts,Rd h I β objs ctr (ρ x.2) (v x.2))→∀ (cs cs':List D) (vs:Array Value),Cells (Rd h I β objs ctr) cs vs →
   Du place tis (parts.map fun x=>(x.1,ρ x.2)) cs=some cs' →
   ∃ vs',Instr.fill place vs (parts.map fun x=>(x.1,v x.2))=some vs'∧Cells (Rd h I β objs ctr) cs' vs'
 | [],_,cs,cs',vs,hc,he=>by
  simp only [List.map_nil,Du,Option.some.injEq] at he
  subst he
  exact ⟨vs,rfl,hc⟩
 | (i,x) :: r,hx,cs,cs',vs,hc,he=>by
  simp only [List.map_cons,Du] at he
  split at he
  · rename_i off size ti hp ht
    split at he
    · rename_i ds hds
      split at he
      · rename_i hcond
        simp only [Bool.and_eq_true] at hcond
        have h1:=Nat.eq_of_beq_eq_true hcond.1
        have h2:=Nat.le_of_ble_eq_true hcond.2
        obtain ⟨d1,d2,_,_,d5,d6⟩:=D6 (y:=v x) hds (hx (i,x) (List.mem_cons_self ..))
        have hsz:(v x).cells.size=size:=by omega
        obtain ⟨f1,f2⟩:=foldl_set (v x).cells.toList off 0 vs
        have amK:(v x).cells.zipIdx.foldl (fun cs (x:Value × Nat)=>cs.setIfInBounds (off+x.2) x.1) vs=((v x).cells.toList.zipIdx 0).foldl (fun cs (x:Value × Nat)=>cs.setIfInBounds (off+x.2) x.1) vs:=by
         rw [← Array.foldl_toList,Array.toList_zipIdx]
        have hnew:Cells (Rd h I β objs ctr) (kJ cs off ds) ((v x).cells.zipIdx.foldl (fun cs (x:Value × Nat)=>cs.setIfInBounds (off+x.2) x.1) vs):=by
         rw [amK]
         refine ⟨by rw [f1,nk _ _ _ (by omega),hc.1],fun j d hj=>?_⟩
         have hle:off+0+(v x).cells.toList.length≤vs.size:=by simp only [Array.length_toList];have:=hc.1;omega
         rw [f2 j hle]
         rw [yD _ _ _ _ (by omega)] at hj
         split at hj
         · rename_i hin
           rw [if_pos (by simp only [Array.length_toList];omega)]
           obtain ⟨z,z1,z2,z3⟩:=d6 _ _ hj
           exact ⟨z,by simpa using z1,z2,z3⟩
         · rename_i hout
           rw [if_neg (by simp only [Array.length_toList];omega)]
           exact hc.2 j d hj
        obtain ⟨vs',g1,g2⟩:=Sd ρ v r (fun y hy=>hx y (List.mem_cons_of_mem _ hy)) _ cs' _ hnew he
        refine ⟨vs',?_,g2⟩
        have hno:((v x).cells.size≠size || off+(v x).cells.size > vs.size)=false:=by
         have:=hc.1
         simp [hsz];omega
        simp only [List.map_cons,Instr.fill,hp,hno,Bool.false_eq_true,if_false]
        exact g1
      · cases he
    · cases he
  · cases he
theorem Yv (cs:List D) (hp:0 < cs.length) : ∀ (n k:Nat),(Fv n cs)[k]? = if k < n*cs.length then cs[k % cs.length]? else none
 | 0,k=>by simp [Fv]
 | n+1,k=>by
  simp only [Fv]
  rcases Nat.lt_or_ge k cs.length with hk | hk
  · rw [List.getElem?_append_left hk,if_pos (by rw [Nat.add_mul];omega),Nat.mod_eq_of_lt hk]
  · rw [List.getElem?_append_right hk,Yv cs hp n]
    have e1:(k-cs.length) % cs.length=k % cs.length:=by
     conv=>rhs;rw [← Nat.sub_add_cancel hk,Nat.add_mod_right]
    have e2:(k-cs.length < n*cs.length) ↔ (k < (n+1)*cs.length):=by rw [Nat.add_mul];omega
    simp only [e1,e2]
theorem Rh (n:Nat) (cs:List D):(Fv n cs).length=n*cs.length:=by
 induction n with
 | zero=>simp [Fv]
 | succ n ih=>simp [Fv,ih,Nat.add_mul];omega
theorem adU {zd:List D} {z:Array Value} (hz:Cells (Rd h I β objs ctr) zd z) (n:Nat) :
  Cells (Rd h I β objs ctr) (Fv n zd) ((Array.range (n*zd.length)).map (z[· % z.size]!)):=by
 refine ⟨by simp [Rh],fun j d hj=>?_⟩
 have hjl:j < n*zd.length:=by
  have:=(List.getElem?_eq_some_iff.1 hj).1
  rwa [Rh] at this
 have hp:0 < zd.length:=Nat.pos_of_ne_zero (fun h0=>by rw [h0] at hjl;simp at hjl)
 rw [Yv _ hp,if_pos hjl] at hj
 obtain ⟨q,q1,q2,q3⟩:=hz.2 _ _ hj
 refine ⟨q,?_,q2,q3⟩
 rw [hz.1] at q1
 have hq:z[j % z.size]! = q:=by rw [getElem!_def,q1]
 simp only [Array.getElem?_map,Array.getElem?_range,hjl,if_true,Option.map_some,hq]
theorem rows_ok {P:Program} {sz:Nat} {T:D→Value→Prop} (hT:T=Rd h I β objs ctr) : ∀ (n:Nat) (cs:List D) (at_:Int) (i:Nat) (j:Nat),i < n→j < sz→∀ (z:Value),
  (∀ d,cs[i*sz+j]? = some d→T d z)→i*sz+j < cs.length→T (Wv (std P) sz n cs at_ (at_+i) j) z
 | 0,_,_,_,_,hi,_,_,_,_=>by omega
 | 1,cs,at_,i,j,hi,hj,z,hz,hl=>by
  obtain rfl:i=0:=by omega
  simp only [Wv]
  simp only [Nat.zero_mul,Nat.zero_add] at hz hl
  exact hz _ (by simp [List.getD,List.getElem?_eq_getElem hl])
 | n+2,cs,at_,i,j,hi,hj,z,hz,hl=>by
  simp only [Wv]
  subst hT
  cases i with
  | zero =>
   simp only [Nat.zero_mul,Nat.zero_add] at hz hl
   refine l6 _ _ _ _ (fun _=>hz _ (by simp [List.getD,List.getElem?_eq_getElem hl])) (fun hf=>by simp [std] at hf)
  | succ i =>
   refine l6 _ _ _ _ (fun ht=>by simp [std] at ht;omega) (fun _=>?_)
   have e:at_+((i+1:Nat):Int)=at_+1+(i:Int):=by omega
   rw [e]
   have e2:(i+1)*sz+j=sz+(i*sz+j):=by rw [Nat.add_mul];omega
   refine rows_ok rfl (n+1) (cs.drop sz) (at_+1) i j (by omega) hj z (fun d hd=>hz d ?_) ?_
   · rw [e2,← List.getElem?_drop];exact hd
   · rw [List.length_drop];omega
theorem Jl {place:Nat→Option (Nat × Nat)} {tis:Nat→Option TI} : ∀ (parts:List (Nat × D)) (cs cs':List D),Du place tis parts cs=some cs'→cs'.length=cs.length
 | [],cs,cs',he=>by
  simp only [Du,Option.some.injEq] at he
  rw [he]
 | (i,x) :: r,cs,cs',he=>by
  simp only [Du] at he
  split at he
  · split at he
    · split at he
      · rename_i hcond
        simp only [Bool.and_eq_true] at hcond
        have h1:=Nat.eq_of_beq_eq_true hcond.1
        have h2:=Nat.le_of_ble_eq_true hcond.2
        rw [Jl r _ _ he,nk _ _ _ (by omega)]
      · cases he
    · cases he
  · cases he
theorem agt {α β:Type} {P:Program} {w:World} (f:α→Sem β) (g:α→β) (xs:Array α) (hf : ∀ x∈xs,(f x).run P w = .ok (g x) w):(xs.mapM f).run P w = .ok (xs.map g) w:=by
 have hl : ∀ l:List α,(∀ x∈l,(f x).run P w = .ok (g x) w)→(l.mapM f).run P w = .ok (l.map g) w:=by
  intro l
  induction l with
  | nil=>intro _;simp
  | cons x l ih =>
   intro h
   simp only [List.mapM_cons,Sem.run_bind,h x (List.mem_cons_self ..),Result.andThen_ok,ih (fun y hy=>h y (List.mem_cons_of_mem _ hy)),Sem.run_pure,List.map_cons]
 rw [Array.mapM_eq_mapM_toList,Sem.run_map,hl xs.toList (fun x hx=>hf x (by simpa using hx))]
 exact congrArg (fun q=>Result.ok q w) (Array.ext' (by simp))
end
end Go.Vx
