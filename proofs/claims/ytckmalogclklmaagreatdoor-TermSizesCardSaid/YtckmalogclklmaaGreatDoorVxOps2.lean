/- Slices that grow, are copied, are made: each step of the evaluator is a step of the Go model. -/
import Derived.Test.YtckmalogclklmaaGreatDoorVxOps1
set_option linter.all false
namespace Go.Vx
section
variable {P:Program} {tt:TT} {h:Array Obj} {I:IS} {β:Nat→Option (Nat × Nat × Array Value)} {objs:List (Option Ob)} {ctr:Nat}
theorem aaF {c:Array Value} {o len sz:Nat} {T:Nat→Nat→Value→Prop} (hc : ∀ i:Nat,i < len→∀ j,j < sz→∃ z,c[o+i*sz+j]? = some z∧z.oneCell'=true∧T i j z) :
  ∃ news:List Value,news.length=len*sz∧(∀ (k:Nat) (u:Value),news[k]? = some u→c[o+k]? = some u)∧(∀ u∈news,u.oneCell'=true) ∧
   ∀ i:Nat,i < len→∀ j,j < sz→∃ z,news[i*sz+j]? = some z∧z.oneCell'=true∧T i j z:=by
 have hin : ∀ i j,i < len→j < sz→i*sz+j < len*sz:=by
  intro i j hi hj
  have:(i+1)*sz≤len*sz:=Nat.mul_le_mul_right _ hi
  rw [Nat.add_mul,Nat.one_mul] at this
  omega
 have hk : ∀ k,k < len*sz→∃ z,c[o+k]? = some z∧z.oneCell'=true:=by
  intro k hk
  have hsz:0 < sz:=Nat.pos_of_ne_zero (fun h0=>by subst h0;simp at hk)
  obtain ⟨z,z1,z2,_⟩:=hc (k / sz) ((Nat.div_lt_iff_lt_mul hsz).2 hk) (k % sz) (Nat.mod_lt _ hsz)
  have e:o+k / sz*sz+k % sz=o+k:=by rw [Nat.add_assoc,Nat.mul_comm (k / sz) sz,Nat.div_add_mod]
  exact ⟨z,by rw [← e];exact z1,z2⟩
 have hget : ∀ k,k < len*sz→((List.range (len*sz)).map fun k=>c.getD (o+k) undef)[k]? = c[o+k]?:=by
  intro k hkl
  obtain ⟨z,z1,_⟩:=hk k hkl
  rw [List.getElem?_map,List.getElem?_range hkl,z1]
  simp [z1]
 refine ⟨(List.range (len*sz)).map fun k=>c.getD (o+k) undef,by simp,fun k u hu=>?_,fun u hu=>?_,fun i hi j hj=>?_⟩
 · have hkl:k < len*sz:=by have:=(List.getElem?_eq_some_iff.1 hu).1;simpa using this
   rw [← hget k hkl];exact hu
 · obtain ⟨k,hku⟩:=List.getElem?_of_mem hu
   have hkl:k < len*sz:=by have:=(List.getElem?_eq_some_iff.1 hku).1;simpa using this
   obtain ⟨z,z1,z2⟩:=hk k hkl
   rw [hget k hkl,z1] at hku
   cases hku;exact z2
 · obtain ⟨z,z1,z2,z3⟩:=hc i hi j hj
   exact ⟨z,by rw [hget _ (hin i j hi hj),← Nat.add_assoc];exact z1,z2,z3⟩
theorem Lc {w:World} {b o len cap sz:Nat} {c:Array Value} {e:TypeId} {fr:Nat × Nat} (hb:w.heap[b]? = some (.cells c e fr)) {news:List Value} (hl:news.length=len*sz)
  (hn : ∀ (k:Nat) (u:Value),news[k]? = some u→c[o+k]? = some u) (n:Nat) (hnl:n≤len) :
  (Builtin.firstCells sz n (.slice (some ⟨b,o,none⟩) len cap)).run P w = .ok (news.take (n*sz)).toArray w:=by
 refine run_firstCells_some (P:=P) w sz n ⟨b,o,none⟩ len cap (news.take (n*sz)) ?_ ?_
 · rw [List.length_take,hl]
   exact Nat.min_eq_left (Nat.mul_le_mul_right _ hnl)
 · intro j v hj
   rw [List.getElem?_take] at hj
   split at hj
   · rw [Addr.add_lit,cell_of_row w b _ c e fr hb];exact hn _ _ hj
   · cases hj
theorem qM (w:World) (sz:Nat) (a:Option Addr) (len cap:Nat):(Builtin.firstCells sz 0 (.slice a len cap)).run P w = .ok #[] w:=by
 cases a with
 | none=>simp [Builtin.firstCells]
 | some b=>simp [Builtin.firstCells,loadCells,loadCellsFrom]
structure Src (P:Program) (T:D→Value→Prop) (hp:Array Obj) (sz:Nat) (m:Int) (f:Int→Nat→D) (y:Value) (mN:Nat) (news:List Value):Prop where
 eq:(mN:Int)=m
 lenOf : ∀ w:World,(Builtin.lenOf y).run P w = .ok mN w
 len:news.length=mN*sz
 one : ∀ u∈news,u.oneCell'=true
 first : ∀ w:World,w.heap=hp→∀ n,n≤mN→(Builtin.firstCells sz n y).run P w = .ok (news.take (n*sz)).toArray w
 cell : ∀ i:Nat,i < mN→∀ j,j < sz→∃ z,news[i*sz+j]? = some z∧z.oneCell'=true∧T (f i j) z
section
variable {B0:Nat} {h0:Array Obj} {I0:IS} {L:p9} {slots:List D} {a:Act} {w:World}
theorem src_ok (R:RM B0 h0 I0 L I β slots objs ctr a w) {sz:Nat} {x:D} {m:Int} {f:Int→Nat→D} {os:List aU} {y:Value}
  (he:sM (std P) objs sz x=some (m,f,os)) (hos : ∀ q∈os,q.run (std P)) (hy:Rd w.heap I β objs ctr x y) :
  ∃ mN news,Src P (Rd w.heap I β objs ctr) w.heap sz m f y mN news:=by
 cases x with
 | cO =>
  simp only [sM,Option.some.injEq,Prod.mk.injEq] at he
  obtain ⟨rfl,rfl,rfl⟩:=he
  cases hy
  refine ⟨0,[],rfl,fun _=>by simp [Builtin.lenOf],by simp,by simp,fun w' _ n hn=>?_,fun i hi=>by omega⟩
  obtain rfl:n=0:=by omega
  simp [qM]
 | sl sz' n t g =>
  simp only [sM] at he
  split at he
  · rename_i hs
    have hs:=Nat.eq_of_beq_eq_true hs
    subst hs
    simp only [Option.some.injEq,Prod.mk.injEq] at he
    obtain ⟨rfl,rfl,rfl⟩:=he
    obtain ⟨ad,len,cap,rfl,x1,x2,x3,x4⟩:=hy
    rcases Nat.eq_zero_or_pos len with hl | hl
    · subst hl
      refine ⟨0,[],x1,fun _=>by simp [Builtin.lenOf],by simp,by simp,fun w' _ n hn=>?_,fun i hi=>by omega⟩
      obtain rfl:n=0:=by omega
      simp [qM]
    · obtain ⟨b,o,c,e,fr,rfl,_,hb,hc⟩:=x4 hl
      obtain ⟨news,n1,n2,n3,n4⟩:=aaF hc
      exact ⟨len,news,x1,fun _=>by simp [Builtin.lenOf],n1,n3,fun w' hw n hn=>Lc (by rw [hw];exact hb) n1 n2 n hn,n4⟩
  · cases he
 | vec id g sz' off n =>
  simp only [sM] at he
  split at he
  · rename_i g' xK N t f' ho
    split at he
    · rename_i hc
      simp only [Bool.and_eq_true] at hc
      have e1:=Nat.eq_of_beq_eq_true hc.1
      have e2:=Nat.eq_of_beq_eq_true hc.2
      subst e1;subst e2
      simp only [Option.some.injEq,Prod.mk.injEq] at he
      obtain ⟨rfl,rfl,rfl⟩:=he
      have hg:g=g':=hos _ (List.mem_singleton.2 rfl)
      subst hg
      obtain ⟨_,_,hx⟩:=hy
      obtain ⟨i0,i1,i2,ad,len,cap,rfl,x1,x2,x3,x4⟩:=hx _ _ _ ho
      rcases Nat.eq_zero_or_pos len with hl | hl
      · subst hl
        refine ⟨0,[],x1,fun _=>by simp [Builtin.lenOf],by simp,by simp,fun w' _ n hn=>?_,fun i hi=>by omega⟩
        obtain rfl:n=0:=by omega
        simp [qM]
      · obtain ⟨b,o,s,hb,rfl,_⟩:=x4 (by omega)
        obtain ⟨_,n0,hq⟩:=R.ob id _ ho
        rcases hq with ⟨q1,_⟩ | ⟨b',o',s',c,e,q1,q2,q3,_,q5,q6⟩
        · omega
        · rw [hb] at q1;cases q1
          obtain ⟨news,n1,n2,n3,n4⟩:=aaF (c:=c) (o:=o+off.toNat*sz) (len:=len) (sz:=sz) (T:=fun i j z=>Rd w.heap I β objs ctr (f' (off+i) j) z) (fun i hi j hj=>by
           obtain ⟨z,z1,z2,z3⟩:=q6 (off.toNat+i) (by omega) j hj
           refine ⟨z,by rw [← z1];congr 1;rw [Nat.add_mul];omega,z2,?_⟩
           have:((off.toNat+i:Nat):Int)=off+i:=by omega
           rw [this] at z3;exact z3)
          exact ⟨len,news,x1,fun _=>by simp [Builtin.lenOf],n1,n3,fun w' hw n hn=>Lc (by rw [hw];exact q2) n1 n2 n hn,n4⟩
    · cases he
  · cases he
 | v x =>
  cases x<;>simp only [sM] at he<;>try cases he
  rename_i s
  split at he
  · rename_i hs
    have hs:=Nat.eq_of_beq_eq_true hs
    subst hs
    simp only [Option.some.injEq,Prod.mk.injEq] at he
    obtain ⟨rfl,rfl,rfl⟩:=he
    cases hy
    refine ⟨s.size,s.data.toList.map fun b=>.int .u8 b.toNat,by simp [std],fun _=>by simp [Builtin.lenOf],by simp,by simp [Value.oneCell'],fun w' _ n hn=>?_,fun i hi j hj=>?_⟩
    · simp only [Builtin.firstCells,Sem.run_pure,Nat.mul_one]
      congr 1
      apply Array.ext'
      simp
    · obtain rfl:j=0:=by omega
      have hi':i < s.data.toList.length:=by simpa using hi
      refine ⟨.int .u8 (s.data.toList[i]'hi').toNat,?_,rfl,?_⟩
      · simp only [Nat.mul_one,Nat.add_zero,List.getElem?_map,List.getElem?_eq_getElem hi',Option.map_some]
      · show _=_
        have e1:s.data[i]? = some (s.data[i]'(by simpa using hi')):=Array.getElem?_eq_getElem (by simpa using hi')
        simp [std,List.getD,e1]
  · cases he
 | _=>simp [sM] at he
end
theorem agp (hT:gH P tt) {u:TypeId} (hu:M7 tt u=true):(∃ e,P.underlying u=some (.slice e))∨P.underlying u=some .string:=by
 unfold M7 at hu
 split at hu
 · rename_i ti ht
   split at hu
   · rename_i e hk
     exact .inl ⟨_,iq hT ht hk⟩
   · rename_i hk
     exact .inr (jY hT ht hk)
   · cases hu
 · cases hu
theorem Oa {w w':World} {t u ty e:TypeId} {i:TypeInfo} (ht:P.underlying t=some (.slice e)) (hu:(∃ e,P.underlying u=some (.slice e))∨P.underlying u=some .string) (hi:P.info? e=some i)
  {ad:Option Addr} {len cap mN:Nat} {news:List Value} {T:D→Value→Prop} {m:Int} {f:Int→Nat→D} {y:Value} (S:Src P T w.heap i.size m f y mN news) (hroom:len+mN≤cap)
  (hst : ∀ b,ad=some b→(storeCells (b.add (len*i.size)) news).run P w = .ok () w') (hnone:ad=none→w'=w) :
  (Builtin.append_ #[t,u] ty #[.slice ad len cap,y]).run P w = .ok (.slice ad (len+mN) cap) w':=by
 have hf:=S.first w rfl mN (Nat.le_refl _)
 have hl:=S.lenOf w
 rw [List.take_of_length_le (by rw [S.len];exact Nat.le_refl _)] at hf
 rcases hu with ⟨e',hu⟩ | hu
 · cases ad with
   | none=>rw [hnone rfl];simp [Builtin.append_,run_underlying ht,run_underlying hu,sizeOf,typeInfo,hi,hl,hf,hroom]
   | some b=>simp [Builtin.append_,run_underlying ht,run_underlying hu,sizeOf,typeInfo,hi,hl,hf,hroom,hst b rfl]
 · cases ad with
   | none=>rw [hnone rfl];simp [Builtin.append_,run_underlying ht,run_underlying hu,sizeOf,typeInfo,hi,hl,hf,hroom]
   | some b=>simp [Builtin.append_,run_underlying ht,run_underlying hu,sizeOf,typeInfo,hi,hl,hf,hroom,hst b rfl]
theorem Ld {w:World} {t u ty e:TypeId} {i:TypeInfo} {z:Value} (ht:P.underlying t=some (.slice e)) (hu:(∃ e,P.underlying u=some (.slice e))∨P.underlying u=some .string) (hi:P.info? e=some i) (hz:i.zero=some z)
  {ad:Option Addr} {len cap mN:Nat} {olds news:List Value} {T:D→Value→Prop} {m:Int} {f:Int→Nat→D} {y:Value} (S:Src P T w.heap i.size m f y mN news) (hgrow:cap < len+mN)
  (hold : ∀ w':World,w'.heap=w.heap→(Builtin.firstCells i.size len (.slice ad len cap)).run P w' = .ok olds.toArray w')
  (h63:len+mN≤140737488355328) (hb:(len+mN)*i.bytes≤140737488355328) :
  (Builtin.append_ #[t,u] ty #[.slice ad len cap,y]).run P w = .ok (.slice (some ⟨w.heap.size,0,none⟩) (len+mN) (grownCap w (len+mN) cap e))
   (w.drew.alloc (.cells (olds.toArray++news.toArray++Builtin.zeroCells z.cells (grownCap w (len+mN) cap e-(len+mN))) e)):=by
 have hl:=S.lenOf w
 have hf:=S.first w.drew rfl mN (Nat.le_refl _)
 rw [List.take_of_length_le (by rw [S.len];exact Nat.le_refl _)] at hf
 have ho:=hold w.drew rfl
 have hn : ¬ (len+mN≤cap):=by omega
 have h63' : ¬ (9223372036854775807 < ((len:Int)+(mN:Int))):=by omega
 have hfit:=growslice_fits hgrow hb
 have h48' : ¬ (281474976710656 < Builtin.nextslicecap (len+mN) cap*i.bytes):=by omega
 rcases hu with ⟨e',hu⟩ | hu
 · simp [Builtin.append_,run_underlying ht,run_underlying hu,sizeOf,typeInfo,zeroValue,hi,hz,hl,hn,h63',h48',Question.forced,hf,ho,newRow,grownCap]
   congr 2;apply Array.ext';simp [List.append_assoc]
 · simp [Builtin.append_,run_underlying ht,run_underlying hu,sizeOf,typeInfo,zeroValue,hi,hz,hl,hn,h63',h48',Question.forced,hf,ho,newRow,grownCap]
   congr 2;apply Array.ext';simp [List.append_assoc]
theorem Yt {T:D→Value→Prop} (hT:T=Rd h I β objs ctr) {hp:Array Obj} {sz:Nat} {n m:Int} {f g:Int→Nat→D} {y1 y2:Value} {nN mN:Nat} {olds news:List Value}
  (S1:Src P T hp sz n f y1 nN olds) (S2:Src P T hp sz m g y2 mN news) (rest:Array Value) (i:Nat) (hi:(i:Int) < n+m) (j:Nat) (hj:j < sz) :
  ∃ z,(olds.toArray++news.toArray++rest)[i*sz+j]? = some z∧z.oneCell'=true∧T (sZ (std P) n f g i j) z:=by
 have hn:=S1.eq
 have hm:=S2.eq
 have hl1:=S1.len
 have hl2:=S2.len
 rcases Nat.lt_or_ge i nN with hlt | hge
 · obtain ⟨z,z1,z2,z3⟩:=S1.cell i hlt j hj
   have hk:i*sz+j < olds.length:=(List.getElem?_eq_some_iff.1 z1).1
   refine ⟨z,?_,z2,?_⟩
   · rw [Array.append_assoc,Array.getElem?_append_left (by simpa using hk)];simpa using z1
   · subst hT
     exact l6 _ _ _ _ (fun _=>z3) (fun hf=>by simp [std] at hf;omega)
 · obtain ⟨z,z1,z2,z3⟩:=S2.cell (i-nN) (by omega) j hj
   have hk:(i-nN)*sz+j < news.length:=(List.getElem?_eq_some_iff.1 z1).1
   have e:i*sz+j-olds.length=(i-nN)*sz+j:=by
    rw [hl1,Nat.sub_mul]
    have:nN*sz≤i*sz:=Nat.mul_le_mul_right _ hge
    omega
   have hge':olds.length≤i*sz+j:=by
    rw [hl1]
    have:nN*sz≤i*sz:=Nat.mul_le_mul_right _ hge
    omega
   refine ⟨z,?_,z2,?_⟩
   · rw [Array.append_assoc,Array.getElem?_append_right (by simpa using hge')]
     rw [Array.getElem?_append_left (by simp only [List.size_toArray];omega)]
     simp only [List.size_toArray,e]
     simpa using z1
   · subst hT
     refine l6 _ _ _ _ (fun ht=>by simp [std] at ht;omega) (fun _=>?_)
     have:((std P).sub (i:Int) n)=((i-nN:Nat):Int):=by simp [std];omega
     rw [this];exact z3
section
variable {B0:Nat} {h0:Array Obj} {I0:IS} {L:p9} {slots:List D} {a:Act} {w:World}
theorem Yu (hT:gH P tt) {e:TypeId} {te:TI} (hte:d9 tt e=some te) {zs:List Value} (hz:te.zero=some zs) (hl:zs.length=te.size) :
  ∃ i z,P.info? e=some i∧i.size=te.size∧i.bytes=te.bytes∧i.zero=some z∧z.cells.size=te.size∧z.cells.toList=zs:=by
 obtain ⟨i,d,h1,_,h3,h4,_,h6,_⟩:=hT.get hte
 rw [hz] at h6
 cases hzz:i.zero with
 | none=>rw [hzz] at h6;cases h6
 | some z =>
  rw [hzz] at h6
  simp only [Option.map_some,Option.some.injEq] at h6
  exact ⟨i,z,h1,h3,h4,hzz,by rw [← hl,← h6];simp,h6⟩
theorem agq (R:RM B0 h0 I0 L I β slots objs ctr a w) {key:Nat} {old:Option Nat}
  (hkey:objs[key]? = some none∨old=some key∧∃ ob,objs[key]? = some (some ob)∧ob.gen < ctr)
  (hold : ∀ id,old=some id→∃ ob,objs[id]? = some (some ob))
  {sz:Nat} {n m:Int} {f g:Int→Nat→D} {y1 y2:Value} {nN mN:Nat} {olds news:List Value}
  (S1:Src P (Rd w.heap I β objs ctr) w.heap sz n f y1 nN olds) (S2:Src P (Rd w.heap I β objs ctr) w.heap sz m g y2 mN news) (rest:Array Value) (e:TypeId) (cap:Nat)
  (hcap:nN+mN≤cap) (hrest:rest.size=(cap-(nN+mN))*sz) {F:Int→Nat→D}
  (hF : ∀ i:Nat,(i:Int) < n+m→∀ j,j < sz→∃ z,(olds.toArray++news.toArray++rest)[i*sz+j]? = some z∧z.oneCell'=true∧Rd w.heap I β objs ctr (F i j) z) :
  Post B0 h0 I0 L I β objs ctr w ((killed objs ctr old).set key (some (.arr ctr sz (n+m) false F))) (w.drew.alloc (.cells (olds.toArray++news.toArray++rest) e)) (.vec key ctr sz 0 (n+m))
   (.slice (some ⟨w.heap.size,0,none⟩) (nN+mN) cap):=by
 have hn:=S1.eq
 have hm:=S2.eq
 have hl1:=S1.len
 have hl2:=S2.len
 have hheap:(w.drew.alloc (.cells (olds.toArray++news.toArray++rest) e)).heap=w.heap.push (.cells (olds.toArray++news.toArray++rest) e):=rfl
 have hcs:(olds.toArray++news.toArray++rest).size=cap*sz:=by
  simp only [Array.size_append,List.size_toArray,hl1,hl2,hrest]
  rw [← Nat.add_mul,← Nat.add_mul,Nat.add_sub_cancel' hcap]
 refine R.turn (X:=some (w.heap.size,0,olds.toArray++news.toArray++rest)) rfl hkey hold ?_ (by rw [hheap];simp) ?_ ?_ ?_
 · intro b hb _
   rw [hheap,Array.getElem?_push,if_neg (by omega)]
 · intro x hx
   cases hx
   rw [hheap];exact ⟨by simp,.inr (.inl (Nat.le_refl _))⟩
 · refine ⟨by omega,.inr ⟨_,0,olds.toArray++news.toArray++rest,olds.toArray++news.toArray++rest,e,rfl,by rw [hheap,Array.getElem?_push,if_pos rfl],rfl,?_,fun i hi j hj=>?_⟩⟩
   · rw [hcs,Nat.zero_add]
     exact Nat.mul_le_mul_right _ (by omega)
   · obtain ⟨z,z1,z2,z3⟩:=hF i hi j hj
     exact ⟨z,by simpa using z1,z2,z3⟩
 · intro β' kC G
   refine ⟨.inr ⟨rfl,.arr ctr sz (n+m) false F,?_,rfl⟩,⟨_,_,_,rfl,by omega,hcap,fun _=>rfl⟩,fun N t f' ho=>?_⟩
   · refine List.getElem?_set_self ?_
     have lD:key < objs.length:=by
      rcases Nat.lt_or_ge key objs.length with h | h
      · exact h
      · have hn:objs[key]? = none:=List.getElem?_eq_none (by simpa using h)
        rcases hkey with hk | ⟨_,ob,hk,_⟩<;>rw [hn] at hk<;>cases hk
     cases old<;>simpa [killed] using lD
   · have lD:key < (killed objs ctr old).length:=by
      have lD:key < objs.length:=by
       rcases Nat.lt_or_ge key objs.length with h | h
       · exact h
       · have hn:objs[key]? = none:=List.getElem?_eq_none (by simpa using h)
         rcases hkey with hk | ⟨_,ob,hk,_⟩<;>rw [hn] at hk<;>cases hk
      cases old<;>simpa [killed] using lD
     rw [List.getElem?_set_self lD] at ho
     cases ho
     refine ⟨by omega,by omega,by omega,_,_,_,rfl,by omega,hcap,fun hf=>(by cases hf),fun _=>⟨_,0,_,kC,by simp,?_⟩⟩
     rw [hcs];simp
theorem C9 (R:RM B0 h0 I0 L I β slots objs ctr a w) {key:Nat} {old:Option Nat}
  (hkey:objs[key]? = some none∨old=some key∧∃ ob,objs[key]? = some (some ob)∧ob.gen < ctr)
  (hold : ∀ id,old=some id→∃ ob,objs[id]? = some (some ob)) {sz:Nat} {n:Int} (hn:n=0) (t:Bool) (F:Int→Nat→D) (ad:Option Addr) :
  Post B0 h0 I0 L I β objs ctr w ((killed objs ctr old).set key (some (.arr ctr sz n t F))) w (.vec key ctr sz 0 n) (.slice ad 0 0):=by
 subst hn
 have lD:key < (killed objs ctr old).length:=by
  have lD:key < objs.length:=by
   rcases Nat.lt_or_ge key objs.length with h | h
   · exact h
   · have hn:objs[key]? = none:=List.getElem?_eq_none (by simpa using h)
     rcases hkey with hk | ⟨_,ob,hk,_⟩<;>rw [hn] at hk<;>cases hk
  cases old<;>simpa [killed] using lD
 refine R.turn (X:=none) rfl hkey hold (fun _ _ _=>rfl) (Nat.le_refl _) (fun x hx=>by cases hx) ⟨by omega,.inl ⟨rfl,rfl⟩⟩ ?_
 intro β' kC G
 refine ⟨.inr ⟨rfl,_,List.getElem?_set_self lD,rfl⟩,⟨_,_,_,rfl,rfl,Nat.le_refl _,fun h=>absurd h (by omega)⟩,fun N t' f' ho=>?_⟩
 rw [List.getElem?_set_self lD] at ho
 cases ho
 exact ⟨by omega,by omega,by omega,_,_,_,rfl,rfl,Nat.le_refl _,fun _=>by omega,fun h=>absurd h (by omega)⟩
theorem ab7 (R:RM B0 h0 I0 L I β slots objs ctr a w) {sz:Nat} {x1 x:D} {m:Int} {f:Int→Nat→D} {os:List aU} {y:Value}
  (he:XJ (std P) objs sz x1 x=some (m,f,os)) (hos : ∀ q∈os,q.run (std P)) (hy:Rd w.heap I β objs ctr x y) :
  ∃ mN news,Src P (Rd w.heap I β objs ctr) w.heap sz m f y mN news:=by
 unfold XJ at he
 split at he
 · split at he
   · split at he
     · simp only [Option.some.injEq,Prod.mk.injEq] at he
       obtain ⟨rfl,rfl,rfl⟩:=he
       cases hy
       refine ⟨0,[],rfl,fun _=>by simp [Builtin.lenOf],by simp,by simp,fun w' _ n hn=>?_,fun i hi=>by omega⟩
       obtain rfl:n=0:=by omega
       simp [qM]
     · exact src_ok R he hos hy
   · exact src_ok R he hos hy
 · exact src_ok R he hos hy
theorem ae0 (hT:gH P tt) (R:RM B0 h0 I0 L I β slots objs ctr a w) {t u ty e:TypeId} {te:TI} {zs:List Value} (ht:P.underlying t=some (.slice e)) (hu:M7 tt u=true)
  (hte:d9 tt e=some te) (hz:te.zero=some zs) (hzl:zs.length=te.size) {key:Nat} {owned:Bool} {x1 x2 d:D} {up:List (Nat × Option Ob)} {os:List aU} {y1 y2:Value}
  (he:qz (std P) objs ctr key te.size te.bytes owned x1 x2=some (d,up,os)) (hos : ∀ q∈os,q.run (std P)) (hy1:Rd w.heap I β objs ctr x1 y1) (hy2:Rd w.heap I β objs ctr x2 y2) :
  ∃ y w',(Builtin.append_ #[t,u] ty #[y1,y2]).run P w = .ok y w'∧Post B0 h0 I0 L I β objs ctr w (bF objs up) w' d y:=by
 obtain ⟨i,z,hi,hsz,hby,hzz,hzs,_⟩:=Yu hT hte hz hzl
 have hu:=agp hT hu
 unfold qz at he
 split at he
 · cases he
 · rename_i m g os2 hsrc
   have XL : ∀ {y1:Value} {n:Int} {f:Int→Nat→D} {ad:Option Addr} {len cap:Nat} {olds:List Value} (F:Int→Nat→D) (old:Option Nat),(∀ q∈os2,q.run (std P))→y1 = .slice ad len cap→len≤cap →
     Src P (Rd w.heap I β objs ctr) w.heap te.size n f y1 len olds→(std P).grow te.bytes (n+m) →
     (objs[key]? = some none∨old=some key∧∃ ob,objs[key]? = some (some ob)∧ob.gen < ctr)→(∀ id,old=some id→∃ ob,objs[id]? = some (some ob)) →
     (∀ mN news,Src P (Rd w.heap I β objs ctr) w.heap te.size m g y2 mN news→∀ rest:Array Value,∀ i:Nat,(i:Int) < n+m→∀ j,j < te.size→∃ z,(olds.toArray++news.toArray++rest)[i*te.size+j]? = some z∧z.oneCell'=true∧Rd w.heap I β objs ctr (F i j) z) →
     (∀ mN news,Src P (Rd w.heap I β objs ctr) w.heap te.size m g y2 mN news→len+mN≤cap →
      ∃ w',(∀ b,ad=some b→(storeCells (b.add (len*te.size)) news).run P w = .ok () w')∧(ad=none→w'=w) ∧
       Post B0 h0 I0 L I β objs ctr w ((killed objs ctr old).set key (some (.arr ctr te.size (n+m) false F))) w' (.vec key ctr te.size 0 (n+m)) (.slice ad (len+mN) cap)) →
     ∃ y w',(Builtin.append_ #[t,u] ty #[y1,y2]).run P w = .ok y w'∧Post B0 h0 I0 L I β objs ctr w ((killed objs ctr old).set key (some (.arr ctr te.size (n+m) false F))) w' (.vec key ctr te.size 0 (n+m)) y:=by
    intro y1 n f ad len cap olds F old Bn hy hlc S1 hgrow hkey hold hF hin
    subst hy
    obtain ⟨mN,news,S2⟩:=ab7 R hsrc Bn hy2
    have e1:=S1.eq
    have e2:=S2.eq
    rcases Nat.lt_or_ge cap (len+mN) with hlt | hge
    · have hb:(len+mN)*i.bytes≤140737488355328:=by
       have:=hgrow.2
       rw [hby,← e1,← e2] at *
       have h2:(((len+mN)*te.bytes:Nat):Int)≤140737488355328:=by push_cast;exact this
       omega
      have h1:len+mN≤140737488355328:=by have:=hgrow.1;omega
      rw [← hsz] at S1 S2
      have hrun:=Ld (ty:=ty) ht hu hi hzz S2 hlt (olds:=olds) (fun w' hw'=>by
       have:=S1.first w' hw' len (Nat.le_refl _)
       rwa [List.take_of_length_le (by rw [S1.len];exact Nat.le_refl _)] at this) h1 hb
      rw [hsz] at S1 S2
      refine ⟨_,_,hrun,agq R hkey hold S1 S2 _ e _ (grownCap_ge w _ _ e) ?_ (hF mN news S2 _)⟩
      rw [size_zeroCells,hzs]
    · obtain ⟨w',hs1,hs2,hp⟩:=hin mN news S2 hge
      rw [← hsz] at S2 hs1
      exact ⟨_,w',Oa (ty:=ty) ht hu hi S2 hge hs1 hs2,hp⟩
   split at he
   ·
    split at he
    · rename_i hk
      simp only [Option.some.injEq,Prod.mk.injEq] at he
      obtain ⟨rfl,rfl,rfl⟩:=he
      cases hy1
      have Bn : ∀ q∈os2,q.run (std P):=fun q hq=>hos q (List.mem_append_left _ hq)
      have hg:(std P).grow te.bytes m:=hos _ (List.mem_append_right _ (List.mem_singleton.2 rfl))
      have S1:Src P (Rd w.heap I β objs ctr) w.heap te.size 0 (fun _ _=>.cO) (.slice none 0 0) 0 []:=by
       refine ⟨rfl,fun _=>by simp [Builtin.lenOf],by simp,by simp,fun w' _ n hn=>?_,fun i hi=>by omega⟩
       obtain rfl:n=0:=by omega
       simp [qM]
      have:=XL (y1:=.slice none 0 0) (n:=0) (ad:=none) (len:=0) (cap:=0) (olds:=[]) g none Bn rfl (Nat.le_refl _) S1 (by rwa [Int.zero_add]) (.inl hk) (fun _ h=>by cases h) (fun mN news S2 rest i hi j hj=>by
       obtain ⟨z,z1,z2,z3⟩:=S2.cell i (by have:=S2.eq;omega) j hj
       have hkl:i*te.size+j < news.length:=(List.getElem?_eq_some_iff.1 z1).1
       refine ⟨z,?_,z2,z3⟩
       rw [show (([]:List Value).toArray++news.toArray)=news.toArray by simp,Array.getElem?_append_left (by simpa using hkl)]
       simpa using z1) (fun mN news S2 hle=>by
       have hm0:mN=0:=by omega
       subst hm0
       refine ⟨w,fun b hb=>(by cases hb),fun _=>rfl,?_⟩
       have:=S2.eq
       exact C9 R (.inl hk) (fun _ h=>by cases h) (by omega) _ _ _)
      simpa only [Int.zero_add,killed,bF] using this
    · cases he
   ·
    rename_i sz' n tight f
    split at he
    · rename_i hs
      have hs:=Nat.eq_of_beq_eq_true hs
      subst hs
      have hsrc1:sM (std P) objs te.size (.sl te.size n tight f)=some (n,f,[]):=by simp [sM]
      obtain ⟨nN,olds,S1⟩:=src_ok R hsrc1 (by simp) hy1
      obtain ⟨ad,len,cap,rfl,x1,x2,x3,x4⟩:=hy1
      have hnl:nN=len:=by have:=S1.eq;omega
      subst hnl
      split at he
      ·
       split at he
       · rename_i hk
         simp only [Option.some.injEq,Prod.mk.injEq] at he
         obtain ⟨rfl,rfl,rfl⟩:=he
         have Bn : ∀ q∈os2,q.run (std P):=fun q hq=>hos q (List.mem_append_left _ hq)
         have hg:(std P).grow te.bytes m:=hos (.grow te.bytes m) (List.mem_append_right _ (by simp))
         have hn0:n=0:=hos (.nP n 0) (List.mem_append_right _ (by simp [std]))
         have htt:tight=true:=hos (.Bt tight) (List.mem_append_right _ (by simp [std]))
         have hc:=x3 htt
         subst hn0
         have hn0:nN=0:=by omega
         subst hn0
         have hcap:cap=0:=by omega
         subst hcap
         have hol:olds=[]:=List.eq_nil_of_length_eq_zero (by rw [S1.len];simp)
         subst hol
         have:=XL (n:=0) (ad:=ad) (len:=0) (cap:=0) (olds:=[]) g none Bn rfl (Nat.le_refl _) S1 (by rwa [Int.zero_add]) (.inl hk) (fun _ h=>by cases h) (fun mN news S2 rest i hi j hj=>by
          obtain ⟨z,z1,z2,z3⟩:=S2.cell i (by have:=S2.eq;omega) j hj
          have hkl:i*te.size+j < news.length:=(List.getElem?_eq_some_iff.1 z1).1
          refine ⟨z,?_,z2,z3⟩
          rw [show (([]:List Value).toArray++news.toArray)=news.toArray by simp,Array.getElem?_append_left (by simpa using hkl)]
          simpa using z1) (fun mN news S2 hle=>by
          have hm0:mN=0:=by omega
          subst hm0
          have hnw:news=[]:=List.eq_nil_of_length_eq_zero (by rw [S2.len];simp)
          subst hnw
          refine ⟨w,fun b hb=>by simp [storeCells],fun _=>rfl,?_⟩
          have:=S2.eq
          exact C9 R (.inl hk) (fun _ h=>by cases h) (by omega) _ _ _)
         simpa only [Int.zero_add,killed,bF] using this
       · cases he
      · simp only [Option.some.injEq,Prod.mk.injEq] at he
        obtain ⟨rfl,rfl,rfl⟩:=he
        have Bn : ∀ q∈os2,q.run (std P):=fun q hq=>hos q (List.mem_append_left _ hq)
        have hg:(std P).grow te.bytes (n+m):=hos (.grow te.bytes (n+m)) (List.mem_append_right _ (by simp [std]))
        have htt:tight=true:=hos (.Bt tight) (List.mem_append_right _ (by simp [std]))
        have hc:nN=cap:=(x3 htt).symm
        subst hc
        obtain ⟨mN,news,S2⟩:=ab7 R hsrc Bn hy2
        have e1:=S1.eq
        have e2:=S2.eq
        rcases Nat.eq_zero_or_pos mN with hm0 | hm0
        · subst hm0
          have hnw:news=[]:=List.eq_nil_of_length_eq_zero (by rw [S2.len];simp)
          subst hnw
          rw [← hsz] at S2
          refine ⟨_,w,Oa (ty:=ty) ht hu hi S2 (Nat.le_refl _) (fun b _=>by simp [storeCells]) (fun _=>rfl),R.still ?_⟩
          refine ⟨ad,nN,nN,by simp,by simp [std];omega,Nat.le_refl _,fun h=>(by cases h),fun hp=>?_⟩
          obtain ⟨b,o,c,e',fr,q1,q2,q3,q4⟩:=x4 hp
          refine ⟨b,o,c,e',fr,q1,q2,q3,fun i hi j hj=>?_⟩
          obtain ⟨z,z1,z2,z3⟩:=q4 i hi j hj
          exact ⟨z,z1,z2,l6 _ _ _ _ (fun _=>z3) (fun hf=>by simp [std] at hf;omega)⟩
        · have hb:(nN+mN)*i.bytes≤140737488355328:=by
           have:=hg.2
           rw [hby]
           have h2:(((nN+mN)*te.bytes:Nat):Int)≤140737488355328:=by push_cast;rw [e1,e2];exact this
           omega
          have h1:nN+mN≤140737488355328:=by have:=hg.1;omega
          rw [← hsz] at S1 S2
          have hrun:=Ld (ty:=ty) ht hu hi hzz S2 (show nN < nN+mN by omega) (olds:=olds) (fun w' hw'=>by
           have:=S1.first w' hw' nN (Nat.le_refl _)
           rwa [List.take_of_length_le (by rw [S1.len];exact Nat.le_refl _)] at this) h1 hb
          rw [hsz] at S1 S2
          refine ⟨_,_,hrun,R.aaG (w1:=w.drew) rfl _ e fun h' I' hI1 hI2 hh G=>?_⟩
          refine ⟨_,nN+mN,_,rfl,by simp [std];omega,grownCap_ge w _ _ e,fun h=>(by cases h),fun hp=>?_⟩
          refine ⟨_,0,_,e,_,rfl,hI2,hh,fun i hi j hj=>?_⟩
          obtain ⟨z,z1,z2,z3⟩:=Yt rfl S1 S2 _ i (by omega) j hj
          exact ⟨z,by simpa using z1,z2,Rd.mono G _ _ z3⟩
    · cases he
   ·
    rename_i id gg sz' off n
    split at he
    · rename_i g' xK N tight f ho
      split at he
      · rename_i hc
        simp only [Bool.and_eq_true] at hc
        have s1:=Nat.eq_of_beq_eq_true hc.1
        have s2:=Nat.eq_of_beq_eq_true hc.2
        subst s1;subst s2
        have hsrc1:sM (std P) objs te.size (.vec id gg te.size off n)=some (n,fun i j=>f ((std P).add off i) j,[.jh gg g']):=by simp [sM,ho]
        have main : ∀ old:Option Nat,old=some id→gg=g'→(∀ q∈os2,q.run (std P))→(std P).grow te.bytes (n+m) →
          (objs[key]? = some none∨old=some key∧∃ ob,objs[key]? = some (some ob)∧ob.gen < ctr) →
          ∃ y w',(Builtin.append_ #[t,u] ty #[y1,y2]).run P w = .ok y w'∧Post B0 h0 I0 L I β objs ctr w ((killed objs ctr old).set key (some (.arr ctr te.size (n+m) false (sZ (std P) n (fun i j=>f ((std P).add off i) j) g)))) w' (.vec key ctr te.size 0 (n+m)) y:=by
         intro old hold hgg Bn hg hkey
         subst hgg
         obtain ⟨nN,olds,S1⟩:=src_ok R hsrc1 (by simp [std,aU.run]) hy1
         obtain ⟨_,_,hx⟩:=hy1
         obtain ⟨i0,i1,i2,ad,len,cap,rfl,x1,x2,x3,x4⟩:=hx _ _ _ ho
         have hnl:nN=len:=by have:=S1.eq;omega
         subst hnl
         refine XL _ old Bn rfl x2 S1 hg hkey (fun id' h'=>by rw [hold] at h';cases h';exact ⟨_,ho⟩) (fun mN news S2 rest i hi j hj=>Yt rfl S1 S2 rest i hi j hj) (fun mN news S2 hle=>?_)
         have e1:=S1.eq
         have e2:=S2.eq
         rcases Nat.eq_zero_or_pos cap with hc0 | hc0
         · have hm0:mN=0:=by omega
           have hn0:nN=0:=by omega
           subst hm0;subst hn0;subst hc0
           have hnw:news=[]:=List.eq_nil_of_length_eq_zero (by rw [S2.len];simp)
           subst hnw
           exact ⟨w,fun b _=>by simp [storeCells],fun _=>rfl,C9 R hkey (fun id' h'=>by rw [hold] at h';cases h';exact ⟨_,ho⟩) (by omega) _ _ _⟩
         · obtain ⟨b,o,s,hb,rfl,hfit⟩:=x4 hc0
           obtain ⟨_,n0,hq⟩:=R.ob id _ ho
           rcases hq with ⟨q1,q2⟩ | ⟨b',o',s',c,e',q1,q2,q3,_,q5,q6⟩
           · rw [hb] at q2;cases q2
           · rw [hb] at q1;cases q1
             have hml:(nN+mN)*te.size≤cap*te.size:=Nat.mul_le_mul_right _ hle
             rw [Nat.add_mul] at hml
             have hst:=run_storeCells_at P b (o+off.toNat*te.size+nN*te.size) e' news 0 c w q2 (by rw [S2.len];omega) S2.one
             refine ⟨_,fun bb hbb=>by cases hbb;rw [Addr.add_lit];exact hst,fun h=>(by cases h),?_⟩
             have hsz':(c.toList.take (o+off.toNat*te.size+nN*te.size+0)++news++c.toList.drop (o+off.toNat*te.size+nN*te.size+0+news.length)).toArray.size=c.size:=by
              simp [S2.len];omega
             have hrow:=setRow_heap w b c (c.toList.take (o+off.toNat*te.size+nN*te.size+0)++news++c.toList.drop (o+off.toNat*te.size+nN*te.size+0+news.length)).toArray e' (0,0) q2
             refine R.turn (X:=some (b,o+off.toNat*te.size,s)) rfl hkey (fun id' h'=>by rw [hold] at h';cases h';exact ⟨_,ho⟩) ?_ (by simp) ?_ ?_ ?_
             · intro b2 _ hne
               exact setRow_other w b b2 _ (fun h=>hne id _ hold hb h.symm)
             · intro x hx
               cases hx
               exact ⟨by have:=R.jf hb;simpa using this,.inl ⟨id,_,hold,hb,rfl⟩⟩
             · refine ⟨by omega,.inr ⟨b,_,s,_,e',rfl,hrow,by omega,?_,fun i hi j hj=>?_⟩⟩
               · have:(n+m).toNat=nN+mN:=by omega
                 rw [this,Nat.add_mul];omega
               · have hjj : ∀ q:Nat,q*te.size+j < (q+1)*te.size:=by intro q;rw [Nat.add_mul,Nat.one_mul];omega
                 rcases Nat.lt_or_ge i nN with hlt | hge
                 · obtain ⟨z,z1,z2,z3⟩:=q6 (off.toNat+i) (by omega) j hj
                   have hlt2:i*te.size+j < nN*te.size:=Nat.lt_of_lt_of_le (hjj i) (Nat.mul_le_mul_right _ hlt)
                   refine ⟨z,?_,z2,?_⟩
                   · simp only [Nat.add_zero,List.getElem?_toArray]
                     rw [List.append_assoc,List.getElem?_append_left (by simp;omega),List.getElem?_take_of_lt (by omega)]
                     rw [← z1,Nat.add_mul]
                     simp [Nat.add_assoc]
                   · refine l6 _ _ _ _ (fun _=>?_) (fun hf=>by simp [std] at hf;omega)
                     have:((off.toNat+i:Nat):Int)=(std P).add off i:=by simp [std];omega
                     rw [this] at z3;exact z3
                 · obtain ⟨z,z1,z2,z3⟩:=S2.cell (i-nN) (by omega) j hj
                   have hkl:(i-nN)*te.size+j < news.length:=(List.getElem?_eq_some_iff.1 z1).1
                   have hmul:(i-nN)*te.size=i*te.size-nN*te.size:=Nat.sub_mul ..
                   have apk:nN*te.size≤i*te.size:=Nat.mul_le_mul_right _ hge
                   refine ⟨z,?_,z2,?_⟩
                   · simp only [Nat.add_zero,List.getElem?_toArray]
                     rw [List.append_assoc,List.getElem?_append_right (by simp;omega)]
                     simp only [List.length_take,Array.length_toList]
                     rw [Nat.min_eq_left (by omega),List.getElem?_append_left (by omega)]
                     rw [← z1];congr 1;omega
                   · refine l6 _ _ _ _ (fun ht=>by simp [std] at ht;omega) (fun _=>?_)
                     have:((std P).sub (i:Int) n)=((i-nN:Nat):Int):=by simp [std];omega
                     rw [this];exact z3
             · intro β' kC G
               have lD:key < (killed objs ctr old).length:=by
                have lD:key < objs.length:=by
                 rcases Nat.lt_or_ge key objs.length with h | h
                 · exact h
                 · have hn:objs[key]? = none:=List.getElem?_eq_none (by simpa using h)
                   rcases hkey with hk | ⟨_,ob,hk,_⟩<;>rw [hn] at hk<;>cases hk
                cases old<;>simpa [killed] using lD
               refine ⟨.inr ⟨rfl,_,List.getElem?_set_self lD,rfl⟩,⟨_,_,_,rfl,by omega,hle,fun _=>rfl⟩,fun N' t' f' ho'=>?_⟩
               rw [List.getElem?_set_self lD] at ho'
               cases ho'
               exact ⟨by omega,by omega,by omega,_,_,_,rfl,by omega,hle,fun h=>(by cases h),fun _=>⟨b,_,s,kC,by simp,by simp;omega⟩⟩
        split at he
        · rename_i hid
          have hid:=Nat.eq_of_beq_eq_true hid
          subst hid
          simp only [Option.some.injEq,Prod.mk.injEq] at he
          obtain ⟨rfl,rfl,rfl⟩:=he
          have hgg:gg=g':=hos (.jh gg g') (List.mem_append_right _ (by simp [std]))
          have hlt:gg < ctr:=hos (.U8 gg ctr) (List.mem_append_right _ (by simp [std]))
          have:=main (some id) rfl hgg (fun q hq=>hos q (List.mem_append_left _ hq)) (hos (.grow te.bytes (n+m)) (List.mem_append_right _ (by simp [std]))) (.inr ⟨rfl,_,ho,by simpa [Ob.gen,← hgg] using hlt⟩)
          simp only [killed,List.set_set] at this
          exact this
        · split at he
          · rename_i hk
            simp only [Option.some.injEq,Prod.mk.injEq] at he
            obtain ⟨rfl,rfl,rfl⟩:=he
            have hgg:gg=g':=hos (.jh gg g') (List.mem_append_right _ (by simp [std]))
            exact main (some id) rfl hgg (fun q hq=>hos q (List.mem_append_left _ hq)) (hos (.grow te.bytes (n+m)) (List.mem_append_right _ (by simp [std]))) (.inl hk)
          · cases he
      · cases he
    · cases he
   · cases he
end
end
end Go.Vx
