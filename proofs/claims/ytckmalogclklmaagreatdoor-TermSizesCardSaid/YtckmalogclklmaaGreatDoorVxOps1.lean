/- Loads, stores and choices: each step of the evaluator is a step of the Go model. -/
import Derived.Test.YtckmalogclklmaaGreatDoorVxStd
import Derived.Laws.AppendOwn
set_option linter.all false
namespace Go.Vx
section
variable {P:Program} {tt:TT} {h:Array Obj} {I:IS} {β:Nat→Option (Nat × Nat × Array Value)} {objs:List (Option Ob)} {ctr:Nat}
theorem l6 (b:Bool) : ∀ (d1 d2:D) (y:Value),(b=true→Rd h I β objs ctr d1 y)→(b=false→Rd h I β objs ctr d2 y)→Rd h I β objs ctr (jM (std P) b d1 d2) y:=by
 intro d1
 induction d1 with
 | v x =>
  intro d2 y h1 h2
  cases d2 with
  | v x' =>
   cases x<;>cases x'<;>simp only [jM]<;>try (first | trivial | exact ⟨h1,h2⟩)
   · cases b
     · simpa [std] using h2 rfl
     · simpa [std] using h1 rfl
   · split
     · rename_i hk
       subst hk
       cases b
       · simpa [std] using h2 rfl
       · simpa [std] using h1 rfl
     · trivial
   · cases b
     · simpa [std] using h2 rfl
     · simpa [std] using h1 rfl
  | _=>cases x<;>simp only [jM]<;>first | trivial | exact ⟨h1,h2⟩
 | cO =>
  intro d2 y h1 h2
  cases d2<;>simp only [jM]<;>try (first | trivial | exact ⟨h1,h2⟩)
  cases b
  · exact h2 rfl
  · exact h1 rfl
 | sl sz n t f ih =>
  intro d2 y h1 h2
  cases d2 with
  | sl sz' n' t' f' =>
   simp only [jM]
   split
   · rename_i hs
     have hs:=Nat.eq_of_beq_eq_true hs
     subst hs
     cases b
     · obtain ⟨a,len,cap,rfl,x1,x2,x3,x4⟩:=h2 rfl
       refine ⟨a,len,cap,rfl,by simpa [std] using x1,x2,by simpa [std] using x3,fun hp=>?_⟩
       obtain ⟨bb,o,c,e,fr,z1,z2,z3,z4⟩:=x4 hp
       refine ⟨bb,o,c,e,fr,z1,z2,z3,fun i hi j hj=>?_⟩
       obtain ⟨z,q1,q2,q3⟩:=z4 i hi j hj
       exact ⟨z,q1,q2,ih _ _ _ _ (fun hb=>by cases hb) (fun _=>q3)⟩
     · obtain ⟨a,len,cap,rfl,x1,x2,x3,x4⟩:=h1 rfl
       refine ⟨a,len,cap,rfl,by simpa [std] using x1,x2,by simpa [std] using x3,fun hp=>?_⟩
       obtain ⟨bb,o,c,e,fr,z1,z2,z3,z4⟩:=x4 hp
       refine ⟨bb,o,c,e,fr,z1,z2,z3,fun i hi j hj=>?_⟩
       obtain ⟨z,q1,q2,q3⟩:=z4 i hi j hj
       exact ⟨z,q1,q2,ih _ _ _ _ (fun _=>q3) (fun hb=>by cases hb)⟩
   · trivial
  | _=>simp only [jM];first | trivial | exact ⟨h1,h2⟩
 | agg k c ih =>
  intro d2 y h1 h2
  cases d2 with
  | agg k' c' =>
   simp only [jM]
   split
   · rename_i hs
     have hs:=Nat.eq_of_beq_eq_true hs
     subst hs
     cases b
     · obtain ⟨ys,rfl,x1,x2⟩:=h2 rfl
       refine ⟨ys,rfl,x1,fun j hj=>?_⟩
       obtain ⟨z,q1,q2,q3⟩:=x2 j hj
       exact ⟨z,q1,q2,ih _ _ _ (fun hb=>by cases hb) (fun _=>q3)⟩
     · obtain ⟨ys,rfl,x1,x2⟩:=h1 rfl
       refine ⟨ys,rfl,x1,fun j hj=>?_⟩
       obtain ⟨z,q1,q2,q3⟩:=x2 j hj
       exact ⟨z,q1,q2,ih _ _ _ (fun _=>q3) (fun hb=>by cases hb)⟩
   · trivial
  | _=>simp only [jM];first | trivial | exact ⟨h1,h2⟩
 | _ =>
  intro d2 y h1 h2
  cases d2<;>simp only [jM]<;>first | trivial | exact ⟨h1,h2⟩
theorem abo : ∀ (d:D) (y:Value),af8 d=true→Rd h I β objs ctr d y→y.oneCell'=true:=by
 intro d y hd hy
 cases d<;>simp [af8] at hd
 case v x=>cases hy;exact hd
 case mp=>obtain ⟨r,c,cl,rfl,_⟩:=hy;rfl
 case tab=>obtain ⟨rfl,_⟩:=hy;rfl
 case M5=>obtain ⟨_,⟨q,rfl⟩,_⟩:=hy;rfl
 case cO=>cases hy;rfl
 case sl=>obtain ⟨a,len,cap,rfl,_⟩:=hy;rfl
 case dI=>obtain ⟨_,⟨q,rfl⟩,_⟩:=hy;rfl
 case kX=>obtain ⟨_,⟨q,rfl⟩,_⟩:=hy;rfl
 case gY=>obtain ⟨_,_,b,o,c,e,fr,rfl,_⟩:=hy;rfl
 case vec=>obtain ⟨_,⟨a,l,c,rfl,_⟩,_⟩:=hy;rfl
 case fn=>obtain ⟨ys,rfl,_⟩:=hy;rfl
 case Ac=>obtain ⟨z,rfl,_⟩:=hy;rfl
theorem cells_one {y:Value} (hy:y.oneCell'=true):y.cells = #[y]:=by
 cases y<;>simp [Value.oneCell'] at hy<;>rfl
theorem qZ : ∀ (k:Nat) (c:Nat→D) (j:Nat),(cellsOf k c)[j]? = if j < k then some (c j) else none
 | 0,c,j=>by simp [cellsOf]
 | k+1,c,j=>by
  cases j with
  | zero=>simp [cellsOf]
  | succ j=>simp only [cellsOf,List.getElem?_cons_succ,qZ k];simp
theorem Tz (k:Nat) (c:Nat→D):(cellsOf k c).length=k:=by
 induction k generalizing c with
 | zero=>rfl
 | succ k ih=>simp [cellsOf,ih]
theorem D6 {ti:TI} {d:D} {ds:List D} {y:Value} (hd:DZ ti d=some ds) (hy:Rd h I β objs ctr d y) :
  y.cells.size=ti.size∧ds.length=ti.size∧(ti.agg=false→y.oneCell'=true)∧(ti.agg=true→∃ ys,y = .agg ys) ∧
  (∀ u∈y.cells.toList,u.oneCell'=true) ∧
  ∀ (j:Nat) (dj:D),ds[j]? = some dj→∃ z,y.cells[j]? = some z∧z.oneCell'=true∧Rd h I β objs ctr dj z:=by
 cases d with
 | agg k c =>
  simp only [DZ] at hd
  split at hd
  · rename_i hc
    simp only [Bool.and_eq_true] at hc
    obtain ⟨ha,hk⟩:=hc
    have hk:=Nat.eq_of_beq_eq_true hk
    cases hd
    obtain ⟨ys,rfl,x1,x2⟩:=hy
    subst hk
    refine ⟨x1,Tz _ _,fun hf=>(by rw [ha] at hf;cases hf),fun _=>⟨ys,rfl⟩,?_,fun j dj hj=>?_⟩
    · intro u hu
      obtain ⟨j,hj⟩:=List.getElem?_of_mem hu
      have hjl:j < ys.size:=by
       have:=(List.getElem?_eq_some_iff.1 hj).1
       simpa [Value.cells] using this
      obtain ⟨z,z1,z2,_⟩:=x2 j (by omega)
      have:ys[j]? = some u:=by simpa [Value.cells] using hj
      rw [this] at z1;cases z1;exact z2
    · rw [qZ] at hj
      split at hj
      · rename_i hlt
        cases hj
        obtain ⟨z,z1,z2,z3⟩:=x2 j hlt
        exact ⟨z,z1,z2,z3⟩
      · cases hj
  · cases hd
 | _ =>
  simp only [DZ] at hd
  split at hd
  · rename_i hc
    simp only [Bool.and_eq_true,Bool.not_eq_true'] at hc
    obtain ⟨⟨ha,ho⟩,hk⟩:=hc
    have hk:=Nat.eq_of_beq_eq_true hk
    cases hd
    have h1:=abo _ _ ho hy
    rw [cells_one h1]
    refine ⟨by simp [hk],by simp [hk],fun _=>h1,fun ht=>by (rw [ha] at ht;cases ht),by simp [h1],fun j dj hj=>?_⟩
    cases j with
    | zero=>simp at hj;subst hj;exact ⟨y,by simp,h1,hy⟩
    | succ j=>simp at hj
  · cases hd
theorem nk : ∀ (cs:List D) (j:Nat) (ds:List D),j+ds.length≤cs.length→(kJ cs j ds).length=cs.length
 | cs,j,[],_=>by cases cs<;>cases j<;>simp [kJ]
 | [],j,d :: ds,h=>by simp at h
 | c :: cs,0,d :: ds,h=>by simp only [kJ,List.length_cons];rw [nk cs 0 ds (by simp at h ⊢;omega)]
 | c :: cs,j+1,d :: ds,h=>by simp only [kJ,List.length_cons];rw [nk cs j (d :: ds) (by simp at h ⊢;omega)]
theorem yD : ∀ (cs:List D) (j:Nat) (ds:List D) (k:Nat),j+ds.length≤cs.length →
  (kJ cs j ds)[k]? = if j≤k∧k < j+ds.length then ds[k-j]? else cs[k]?
 | cs,j,[],k,_=>by
  have : ¬ (j≤k∧k < j+([]:List D).length):=by simp only [List.length_nil];omega
  rw [if_neg this]
  cases cs<;>cases j<;>simp [kJ]
 | [],j,d :: ds,k,h=>by simp at h
 | c :: cs,0,d :: ds,k,h=>by
  cases k with
  | zero=>simp [kJ]
  | succ k =>
   simp only [kJ,List.getElem?_cons_succ]
   rw [yD cs 0 ds k (by simp at h ⊢;omega)]
   simp
 | c :: cs,j+1,d :: ds,k,h=>by
  cases k with
  | zero=>simp [kJ]
  | succ k =>
   simp only [kJ,List.getElem?_cons_succ]
   rw [yD cs j (d :: ds) k (by simp at h ⊢;omega)]
   have e:(j+1≤k+1∧k+1 < j+1+(d :: ds).length) ↔ (j≤k∧k < j+(d :: ds).length):=by omega
   simp only [e]
   congr 2
   omega
theorem Fz (hT:gH P tt) {t:TypeId} {ti:TI} (ht:d9 tt t=some ti) {w:World} {b base:Nat} {c:Array Value} {e:TypeId} {fr:Nat × Nat} (hb:w.heap[b]? = some (.cells c e fr))
  {len j:Nat} {cell:Nat→D} {d:D} (hl:l5 ti len j cell=some d)
  (hc : ∀ jj,jj < len→∃ z,c[base+jj]? = some z∧z.oneCell'=true∧Rd h I β objs ctr (cell jj) z) :
  ∃ y,(loadVar t ⟨b,base+j,none⟩).run P w = .ok y w∧Rd h I β objs ctr d y:=by
 unfold l5 at hl
 split at hl
 · rename_i ha
   split at hl
   · rename_i hle
     have hle:=Nat.le_of_ble_eq_true hle
     cases hl
     have hcell : ∀ jj,jj < ti.size→w.cell? ((⟨b,base+j,none⟩:Addr).add jj)=some (c.getD (base+j+jj) undef):=by
      intro jj hjj
      obtain ⟨z,z1,_,_⟩:=hc (j+jj) (by omega)
      rw [Addr.add_lit,cell_of_row w b _ c e fr hb,Array.getD_eq_getD_getElem?,Nat.add_assoc,z1]
      rfl
     have hrun:=run_loadCells (P:=P) w ⟨b,base+j,none⟩ ti.size (fun jj=>c.getD (base+j+jj) undef) hcell
     refine ⟨.agg ((List.range ti.size).map fun jj=>c.getD (base+j+jj) undef).toArray,?_,_,rfl,by simp,fun jj hjj=>?_⟩
     · simp [loadVar,Bj hT ht,ha,gB hT ht,hrun]
     · obtain ⟨z,z1,z2,z3⟩:=hc (j+jj) (by omega)
       refine ⟨z,?_,z2,z3⟩
       have:c.getD (base+j+jj) undef=z:=by
        rw [Array.getD_eq_getD_getElem?,Nat.add_assoc,z1];rfl
       simp only [List.getElem?_toArray,List.getElem?_map,List.getElem?_range hjj,Option.map_some]
       rw [this]
   · cases hl
 · rename_i ha
   split at hl
   · rename_i hle
     have hle:=Nat.le_of_ble_eq_true hle
     cases hl
     obtain ⟨z,z1,z2,z3⟩:=hc j (by omega)
     refine ⟨z,?_,z3⟩
     have hcell:w.cell? ⟨b,base+j,none⟩=some z:=by rw [cell_of_row w b _ c e fr hb,z1]
     have hff:ti.agg=false:=by simpa using ha
     simp [loadVar,Bj hT ht,hff,hcell]
   · cases hl
theorem setRow_other (w:World) (g k:Nat) (cs:Array Value) (hk:k≠g):(w.setRow g cs).heap[k]? = w.heap[k]?:=by
 simp [World.setRow,Array.getElem?_modify,Ne.symm hk]
theorem JR (hT:gH P tt) {t:TypeId} {ti:TI} (ht:d9 tt t=some ti) {w:World} {b base:Nat} {c:Array Value} {e:TypeId} (hb:w.heap[b]? = some (.cells c e (0,0)))
  {d:D} {ds:List D} {y:Value} (hd:DZ ti d=some ds) (hy:Rd h I β objs ctr d y) (hfit:base+ti.size≤c.size) :
  ∃ w' c',(storeVar t ⟨b,base,none⟩ y).run P w = .ok () w'∧w'.heap[b]? = some (.cells c' e (0,0))∧c'.size=c.size∧w'.heap.size=w.heap.size∧iy w w' ∧
   (∀ k,k≠b→w'.heap[k]? = w.heap[k]?) ∧
   (∀ k,¬ (base≤k∧k < base+ti.size)→c'[k]? = c[k]?) ∧
   ∀ (j:Nat) (dj:D),ds[j]? = some dj→∃ z,c'[base+j]? = some z∧z.oneCell'=true∧Rd h I β objs ctr dj z:=by
 obtain ⟨h1,h2,_,_,h5,h6⟩:=D6 hd hy
 have hrun:=run_storeCells_at P b base e y.cells.toList 0 c w hb (by simp [h1];omega) h5
 have hsz:(c.toList.take (base+0)++y.cells.toList++c.toList.drop (base+0+y.cells.toList.length)).toArray.size=c.size:=by
  simp [h1];omega
 refine ⟨_,_,?_,setRow_heap w b c _ e (0,0) hb,hsz,by simp,⟨rfl,rfl⟩,fun k hk=>setRow_other w b k _ hk,?_,?_⟩
 · simp [storeVar,gB hT ht,h1,hrun]
 · intro k hk
   simp only [Nat.add_zero,List.getElem?_toArray]
   rw [List.append_assoc]
   rcases Nat.lt_or_ge k base with hlt | hge
   · rw [List.getElem?_append_left (by simp;omega),List.getElem?_take_of_lt hlt];simp
   · rw [List.getElem?_append_right (by simp;omega)]
     rw [List.getElem?_append_right (by simp [h1];omega)]
     simp only [List.length_take,Array.length_toList,h1,List.getElem?_drop]
     rw [Nat.min_eq_left (by omega)]
     rw [show base+ti.size+(k-base-ti.size)=k by omega]
     simp
 · intro j dj hj
   obtain ⟨z,z1,z2,z3⟩:=h6 j dj hj
   have hjl:j < ds.length:=(List.getElem?_eq_some_iff.1 hj).1
   refine ⟨z,?_,z2,z3⟩
   simp only [Nat.add_zero,List.getElem?_toArray]
   rw [List.append_assoc,List.getElem?_append_right (by simp;omega)]
   simp only [List.length_take,Array.length_toList]
   rw [Nat.min_eq_left (by omega),List.getElem?_append_left (by simp [h1];omega)]
   rw [show base+j-base=j by omega]
   simpa using z1
end
section
variable {P:Program} {tt:TT} {B0:Nat} {h0:Array Obj} {I0 I:IS} {L:p9} {β:Nat→Option (Nat × Nat × Array Value)} {slots:List D} {objs:List (Option Ob)} {ctr:Nat} {a:Act} {w:World}
theorem ab6 (hT:gH P tt) (R:RM B0 h0 I0 L I β slots objs ctr a w) {t:TypeId} {ti:TI} (ht:d9 tt t=some ti) {x d:D} {os:List aU} {y:Value}
  (he:rH (std P) objs ti x=some (d,os)) (hos : ∀ q∈os,q.run (std P)) (hy:Rd w.heap I β objs ctr x y) :
  ∃ z,(Instr.loadAt t y).run P w = .ok z w∧Rd w.heap I β objs ctr d z:=by
 cases x with
 | dI id g j =>
  simp only [rH] at he
  split at he
  · rename_i g' cs ho
    cases hl:l5 ti cs.length j (fun j=>cs.getD j .junk) with
    | none=>rw [hl] at he;cases he
    | some d' =>
     simp only [hl,Option.map_some,Option.some.injEq,Prod.mk.injEq] at he
     obtain ⟨rfl,rfl⟩:=he
     have hg:g=g':=hos _ (List.mem_singleton.2 rfl)
     subst hg
     obtain ⟨_,_,hx⟩:=hy
     obtain ⟨b,o,s,hb,rfl⟩:=hx _ ho
     obtain ⟨_,b',o',s',c,e,q1,q2,q3,_,q5,q6⟩:=R.ob id _ ho
     rw [hb] at q1;cases q1
     obtain ⟨z,z1,z2⟩:=Fz (h:=w.heap) (I:=I) (β:=β) (objs:=objs) (ctr:=ctr) hT ht (base:=o) q2 hl (fun jj hjj=>by
      have:=q6 jj (cs.getD jj .junk) (by simp [List.getD,List.getElem?_eq_getElem hjj])
      exact this)
     exact ⟨z,by simp [Instr.loadAt,Instr.sureAddr,z1],z2⟩
  · cases he
 | kX id g sz i j =>
  simp only [rH] at he
  split at he
  · rename_i g' sz' N t' f ho
    split at he
    · rename_i hs
      have hs:=Nat.eq_of_beq_eq_true hs
      subst hs
      cases hl:l5 ti sz j (f i) with
      | none=>rw [hl] at he;cases he
      | some d' =>
       simp only [hl,Option.map_some,Option.some.injEq,Prod.mk.injEq] at he
       obtain ⟨rfl,rfl⟩:=he
       have hg:g=g':=hos _ (List.mem_singleton.2 rfl)
       subst hg
       obtain ⟨_,_,hx⟩:=hy
       obtain ⟨i0,i1,b,o,s,hb,rfl⟩:=hx _ _ _ ho
       obtain ⟨_,n0,hq⟩:=R.ob id _ ho
       rcases hq with ⟨q1,_⟩ | ⟨b',o',s',c,e,q1,q2,q3,_,q5,q6⟩
       · omega
       · rw [hb] at q1;cases q1
         obtain ⟨z,z1,z2⟩:=Fz (h:=w.heap) (I:=I) (β:=β) (objs:=objs) (ctr:=ctr) hT ht (base:=o+i.toNat*sz) q2 hl (fun jj hjj=>by
          have:=q6 i.toNat (by omega) jj hjj
          rwa [Int.toNat_of_nonneg i0] at this)
         exact ⟨z,by simp [Instr.loadAt,Instr.sureAddr,z1],z2⟩
    · cases he
  · cases he
 | gY sz n f i j =>
  simp only [rH] at he
  cases hl:l5 ti sz j (f i) with
  | none=>rw [hl] at he;cases he
  | some d' =>
   simp only [hl,Option.map_some,Option.some.injEq,Prod.mk.injEq] at he
   obtain ⟨rfl,rfl⟩:=he
   obtain ⟨i0,i1,b,o,c,e,fr,rfl,hI,q2,q6⟩:=hy
   obtain ⟨z,z1,z2⟩:=Fz (h:=w.heap) (I:=I) (β:=β) (objs:=objs) (ctr:=ctr) hT ht (base:=o+i.toNat*sz) q2 hl (fun jj hjj=>by
    have:=q6 i.toNat (by omega) jj hjj
    rwa [Int.toNat_of_nonneg i0] at this)
   exact ⟨z,by simp [Instr.loadAt,Instr.sureAddr,z1],z2⟩
 | junk =>
  simp only [rH,Option.some.injEq,Prod.mk.injEq] at he
  exact (hos (.prop False) (by rw [← he.2];exact List.mem_singleton.2 rfl):False).elim
 | _=>simp [rH] at he
theorem agj (hT:gH P tt) (R:RM B0 h0 I0 L I β slots objs ctr a w) {t:TypeId} {ti:TI} (ht:d9 tt t=some ti) {x1 x2 d:D} {u:List (Nat × Option Ob)} {os:List aU} {y1 y2:Value}
  (he:KU (std P) objs ti x1 x2=some (d,u,os)) (hos : ∀ q∈os,q.run (std P)) (hy1:Rd w.heap I β objs ctr x1 y1) (hy2:Rd w.heap I β objs ctr x2 y2) :
  ∃ w',(Instr.storeAt t y1 y2).run P w = .ok () w'∧∀ y,Post B0 h0 I0 L I β objs ctr w (bF objs u) w' d y:=by
 unfold KU at he
 split at he
 · cases he
 · rename_i ds hds
   have hlen:ds.length=ti.size:=(D6 hds hy2).2.1
   split at he
   · rename_i id g j
     split at he
     · rename_i g' cs ho
       split at he
       · rename_i hle
         have hle:=Nat.le_of_ble_eq_true hle
         simp only [Option.some.injEq,Prod.mk.injEq] at he
         obtain ⟨rfl,rfl,rfl⟩:=he
         have hg:g=g':=hos _ (List.mem_singleton.2 rfl)
         subst hg
         obtain ⟨_,_,hx⟩:=hy1
         obtain ⟨b,o,s,hb,rfl⟩:=hx _ ho
         obtain ⟨_,b',o',s',c,e,q1,q2,q3,_,q5,q6⟩:=R.ob id _ ho
         rw [hb] at q1;cases q1
         obtain ⟨w',c',z1,z2,z3,z4,zo,z5,z6,z7⟩:=JR hT ht (base:=o+j) q2 hds hy2 (by have:=q3.1;omega)
         refine ⟨w',by simp [Instr.storeAt,Instr.sureAddr,z1],fun y=>?_⟩
         refine R.write (o':=.box g (kJ cs j ds)) ho rfl hb z5 z4 ⟨b,o,s,c',e,rfl,z2,⟨z3.trans q3.1,fun k hk=>(z6 k (by rw [nk _ _ _ hle] at hk;omega)).trans (q3.2 k (by rw [nk _ _ _ hle] at hk;exact hk))⟩,by rw [nk _ _ _ hle];exact q5,fun k dk hk=>?_⟩ (fun _=>trivial)
         rw [yD _ _ _ _ hle] at hk
         split at hk
         · rename_i hin
           obtain ⟨z,r1,r2,r3⟩:=z7 _ _ hk
           exact ⟨z,by rw [show o+k=o+j+(k-j) by omega];exact r1,r2,r3⟩
         · rename_i hout
           obtain ⟨z,r1,r2,r3⟩:=q6 _ _ hk
           exact ⟨z,by rw [z6 (o+k) (by omega)];exact r1,r2,r3⟩
       · cases he
     · cases he
   · rename_i id g sz i j
     split at he
     · rename_i g' sz' N tight f ho
       split at he
       · rename_i hc
         simp only [Bool.and_eq_true] at hc
         have hs:=Nat.eq_of_beq_eq_true hc.1
         have hle:=Nat.le_of_ble_eq_true hc.2
         subst hs
         simp only [Option.some.injEq,Prod.mk.injEq] at he
         obtain ⟨rfl,rfl,rfl⟩:=he
         have hg:g=g':=hos _ (List.mem_singleton.2 rfl)
         subst hg
         obtain ⟨_,_,hx⟩:=hy1
         obtain ⟨i0,i1,b,o,s,hb,rfl⟩:=hx _ _ _ ho
         obtain ⟨_,n0,hq⟩:=R.ob id _ ho
         rcases hq with ⟨q1,_⟩ | ⟨b',o',s',c,e,q1,q2,q3,_,q5,q6⟩
         · omega
         · rw [hb] at q1;cases q1
           have hin : ∀ k:Nat,(k:Int) < N→k*sz+sz≤N.toNat*sz:=by
            intro k hk
            have:k+1≤N.toNat:=by omega
            calc k*sz+sz=(k+1)*sz:=by rw [Nat.add_mul,Nat.one_mul]
             _≤N.toNat*sz:=Nat.mul_le_mul_right _ this
           have hi2:=hin i.toNat (by omega)
           obtain ⟨w',c',z1,z2,z3,z4,zo,z5,z6,z7⟩:=JR hT ht (base:=o+i.toNat*sz+j) q2 hds hy2 (by omega)
           refine ⟨w',by simp [Instr.storeAt,Instr.sureAddr,z1],fun y=>?_⟩
           refine R.write (o':=.arr g sz N tight (BJ (std P) i j ds f)) ho ⟨rfl,rfl,rfl,rfl⟩ hb z5 z4 ⟨n0,.inr ⟨b,o,s,c',e,rfl,z2,by omega,q5,fun k hk jj hjj=>?_⟩⟩ (fun _=>trivial)
           have hk2:=hin k hk
           obtain ⟨z,r1,r2,r3⟩:=q6 k hk jj hjj
           by_cases hki:(k:Int)=i
           · have hkt:i.toNat=k:=by omega
             by_cases agk:j≤jj∧jj < j+ds.length
             · obtain ⟨dj,hdj⟩ : ∃ dj,ds[jj-j]? = some dj:=⟨ds[jj-j]'(by omega),List.getElem?_eq_getElem (by omega)⟩
               obtain ⟨z,r1,r2,r3⟩:=z7 _ _ hdj
               refine ⟨z,by rw [← hkt,show o+i.toNat*sz+jj=o+i.toNat*sz+j+(jj-j) by omega];exact r1,r2,?_⟩
               have e1:Nat.ble j jj=true:=by simpa using agk.1
               have e2:Nat.blt jj (j+ds.length)=true:=by simpa using agk.2
               simp only [BJ,e1,e2,Bool.and_self,if_true]
               refine l6 _ _ _ _ (fun _=>?_) (fun hf=>by simp [std,hki] at hf)
               rw [List.getD_eq_getElem?_getD,hdj];exact r3
             · refine ⟨z,by rw [z6 _ (by rw [← hkt];omega)];exact r1,r2,?_⟩
               have:(Nat.ble j jj && Nat.blt jj (j+ds.length))=false:=by
                rw [Bool.and_eq_false_iff]
                rcases Nat.lt_or_ge jj j with h | h
                · left
                  cases hb:Nat.ble j jj
                  · rfl
                  · exact absurd (Nat.le_of_ble_eq_true hb) (by omega)
                · right
                  cases hb:Nat.blt jj (j+ds.length)
                  · rfl
                  · exact absurd (Nat.le_of_ble_eq_true hb) (by omega)
               simp only [BJ,this,Bool.false_eq_true,if_false]
               exact r3
           · have hne:k≠i.toNat:=by omega
             have hout : ¬ (o+i.toNat*sz+j≤o+k*sz+jj∧o+k*sz+jj < o+i.toNat*sz+j+ti.size):=by
              rcases Nat.lt_or_ge k i.toNat with h | h
              · have:(k+1)*sz≤i.toNat*sz:=Nat.mul_le_mul_right _ h
                rw [Nat.add_mul,Nat.one_mul] at this
                omega
              · have:(i.toNat+1)*sz≤k*sz:=Nat.mul_le_mul_right _ (by omega)
                rw [Nat.add_mul,Nat.one_mul] at this
                omega
             refine ⟨z,by rw [z6 _ hout];exact r1,r2,?_⟩
             simp only [BJ]
             split
             · exact l6 _ _ _ _ (fun ht=>by simp [std] at ht;exact absurd ht hki) (fun _=>r3)
             · exact r3
       · cases he
     · cases he
   · cases he
theorem agl (hT:gH P tt) (R:RM B0 h0 I0 L I β slots objs ctr a w) {t:TypeId} {ti:TI} (ht:d9 tt t=some ti) {id g':Nat} {cs:List D} (ho:objs[id]? = some (some (.box g' cs))) :
  ∀ {x d:D} {os:List aU} {y:Value},Bd (std P) id g' cs ti x=some (d,os)→(∀ q∈os,q.run (std P))→Rd w.heap I β objs ctr x y →
  ∃ z,(Instr.loadAt t y).run P w = .ok z w∧Rd w.heap I β objs ctr d z:=by
 intro x
 induction x with
 | dI id' g j =>
  intro d os y he hos hy
  simp only [Bd] at he
  split at he
  · rename_i hid
    have hid:=Nat.eq_of_beq_eq_true hid
    subst hid
    exact ab6 hT R ht (by simp only [rH,ho];exact he) hos hy
  · cases he
 | cnd b x e ih1 ih2 =>
  intro d os y he hos hy
  simp only [Bd] at he
  split at he
  · rename_i d1 o1 d2 o2 e1 e2
    simp only [Option.some.injEq,Prod.mk.injEq] at he
    obtain ⟨rfl,rfl⟩:=he
    cases b with
    | true =>
     obtain ⟨z,z1,z2⟩:=ih1 e1 (fun q hq=>hos q (List.mem_append_left _ hq)) (hy.1 rfl)
     exact ⟨z,z1,l6 _ _ _ _ (fun _=>z2) (fun h=>by cases h)⟩
    | false =>
     obtain ⟨z,z1,z2⟩:=ih2 e2 (fun q hq=>hos q (List.mem_append_right _ hq)) (hy.2 rfl)
     exact ⟨z,z1,l6 _ _ _ _ (fun h=>by cases h) (fun _=>z2)⟩
  · cases he
 | _=>intro d os y he;simp [Bd] at he
theorem aeP {h:Array Obj} {d:D} {y:Value} (hy:Rd h I β objs ctr d y) (hos : ∀ q∈(NW (std P) d).2,q.run (std P)):Rd h I β objs ctr (NW (std P) d).1 y:=by
 cases d with
 | BH b d=>exact hy.1 (hos _ (List.mem_singleton.2 rfl))
 | _=>exact hy
theorem agm (hT:gH P tt) (R:RM B0 h0 I0 L I β slots objs ctr a w) {t:TypeId} {ti:TI} (ht:d9 tt t=some ti) {x d:D} {os:List aU} {y:Value}
  (he:V9 (std P) objs ti x=some (d,os)) (hos : ∀ q∈os,q.run (std P)) (hy:Rd w.heap I β objs ctr x y) :
  ∃ z,(Instr.loadAt t y).run P w = .ok z w∧Rd w.heap I β objs ctr d z:=by
 unfold V9 at he
 split at he
 · rename_i g' cs ho
   exact agl hT R ht ho he hos hy
 · cases he
theorem Jj {p:Pr} {b:Bool} : ∀ (cs:List D) (j:Nat) (ds:List D),(qL p b cs j ds).length=cs.length
 | cs,j,[]=>by cases cs<;>cases j<;>simp [qL]
 | [],j,d :: ds=>by cases j<;>simp [qL]
 | c :: cs,0,d :: ds=>by simp only [qL,List.length_cons];rw [Jj cs 0 ds]
 | c :: cs,j+1,d :: ds=>by simp only [qL,List.length_cons];rw [Jj cs j (d :: ds)]
theorem Jk {p:Pr} {b:Bool} : ∀ (cs:List D) (j:Nat) (ds:List D) (k:Nat) (d:D),(qL p b cs j ds)[k]? = some d →
  (j≤k∧k < j+ds.length∧∃ d1 c,ds[k-j]? = some d1∧cs[k]? = some c∧d=jM p b d1 c)∨(¬ (j≤k∧k < j+ds.length)∧cs[k]? = some d)
 | cs,j,[],k,d,h=>by
  refine .inr ⟨by simp only [List.length_nil];omega,?_⟩
  cases cs<;>cases j<;>simpa [qL] using h
 | [],j,d1 :: ds,k,d,h=>by cases j<;>simp [qL] at h
 | c :: cs,0,d1 :: ds,k,d,h=>by
  cases k with
  | zero =>
   simp only [qL,List.getElem?_cons_zero,Option.some.injEq] at h
   exact .inl ⟨by omega,by simp,d1,c,rfl,rfl,h.symm⟩
  | succ k =>
   simp only [qL,List.getElem?_cons_succ] at h
   rcases Jk cs 0 ds k d h with ⟨h1,h2,e1,e2,h3,h4,h5⟩ | ⟨h1,h2⟩
   · exact .inl ⟨by omega,by simp only [List.length_cons];omega,e1,e2,by simpa using h3,by simpa using h4,h5⟩
   · exact .inr ⟨by simp only [List.length_cons];omega,by simpa using h2⟩
 | c :: cs,j+1,d1 :: ds,k,d,h=>by
  cases k with
  | zero =>
   simp only [qL,List.getElem?_cons_zero,Option.some.injEq] at h
   exact .inr ⟨by omega,by simpa using h⟩
  | succ k =>
   simp only [qL,List.getElem?_cons_succ] at h
   rcases Jk cs j (d1 :: ds) k d h with ⟨h1,h2,e1,e2,h3,h4,h5⟩ | ⟨h1,h2⟩
   · exact .inl ⟨by omega,by omega,e1,e2,by rw [← h3];congr 1;omega,by simpa using h4,h5⟩
   · exact .inr ⟨by omega,by simpa using h2⟩
def XU (jj:Nat):D→Prop
 | .dI _ _ j=>j=jj
 | .cnd b x e=>(b=true→XU jj x)∧(b=false→XU jj e)
 | _=>False
theorem aib {h:Array Obj} {id g' n jj:Nat} {ds:List D} {zs:Nat→Value} (hds : ∀ k d,ds[k]? = some d→Rd h I β objs ctr d (zs (jj+k))) :
  ∀ (x:D) (c:Bool) (cs cs':List D) (os:List aU),cs.length=n→xJ (std P) id g' ds n c x cs=some (cs',os)→(c=true→XU jj x) →
   (∀ k d,cs[k]? = some d→(c=true→¬ (jj≤k∧k < jj+ds.length))→Rd h I β objs ctr d (zs k)) →
   cs'.length=n∧∀ k d,cs'[k]? = some d→Rd h I β objs ctr d (zs k):=by
 intro x
 induction x with
 | dI id' g j =>
  intro c cs cs' os hn he hat hin
  simp only [xJ] at he
  split at he
  · simp only [Option.some.injEq,Prod.mk.injEq] at he
    obtain ⟨rfl,rfl⟩:=he
    refine ⟨by rw [Jj,hn],fun k d hk=>?_⟩
    rcases Jk _ _ _ _ _ hk with ⟨h1,h2,d1,c1,h3,h4,rfl⟩ | ⟨h1,h2⟩
    · refine l6 _ _ _ _ (fun hc=>?_) (fun hc=>hin k c1 h4 (fun hc'=>by rw [hc] at hc';cases hc'))
      have e:j=jj:=hat hc
      subst e
      have:=hds _ _ h3
      rwa [show j+(k-j)=k by omega] at this
    · exact hin k d h2 (fun hc=>by have e:j=jj:=hat hc;subst e;exact h1)
  · cases he
 | cnd b x e ih1 ih2 =>
  intro c cs cs' os hn he hat hin
  cases x<;>simp only [xJ] at he<;>try (cases he;done)
  rename_i id' g j
  split at he
  · split at he
    · rename_i r o2 e2
      simp only [Option.some.injEq,Prod.mk.injEq] at he
      obtain ⟨rfl,rfl⟩:=he
      refine ih2 _ _ _ _ (by rw [Jj,hn]) e2 (fun hc=>?_) (fun k d hk hout=>?_)
      · simp only [std,Bool.and_eq_true,Bool.not_eq_true'] at hc
        exact (hat hc.1).2 hc.2
      · rcases Jk _ _ _ _ _ hk with ⟨h1,h2,d1,c1,h3,h4,rfl⟩ | ⟨h1,h2⟩
        · refine l6 _ _ _ _ (fun hc=>?_) (fun hc=>hin k c1 h4 (fun hc'=>?_))
          · simp only [std,Bool.and_eq_true] at hc
            have e:j=jj:=(hat hc.1).1 hc.2
            subst e
            have:=hds _ _ h3
            rwa [show j+(k-j)=k by omega] at this
          · refine hout ?_
            simp only [std] at hc ⊢
            rw [hc'] at hc ⊢
            simp only [Bool.true_and] at hc ⊢
            rw [hc];rfl
        · refine hin k d h2 (fun hc=>?_)
          cases hb:b with
          | true=>have e:j=jj:=(hat hc).1 hb;subst e;exact h1
          | false=>exact hout (by simp [std,hc,hb])
    · cases he
  · cases he
 | _=>intro c cs cs' os hn he;simp [xJ] at he
theorem agn {h:Array Obj} {id g' n jj:Nat} {ds:List D} {zs:Nat→Value} (hds : ∀ k d,ds[k]? = some d→Rd h I β objs ctr d (zs (jj+k)))
  {x:D} {cs cs':List D} {os:List aU} (hn:cs.length=n) (he:RX (std P) id g' ds n x cs=some (cs',os)) (hat:XU jj x)
  (hin : ∀ k d,cs[k]? = some d→¬ (jj≤k∧k < jj+ds.length)→Rd h I β objs ctr d (zs k)) :
  cs'.length=n∧∀ k d,cs'[k]? = some d→Rd h I β objs ctr d (zs k):=by
 unfold RX at he
 split at he
 · rename_i b id' g j e
   refine aib (P:=P) (id:=id) (g':=g') hds (.cnd b (.dI id' g j) e) true cs cs' os hn ?_ (fun _=>hat) (fun k d hk ho=>hin k d hk (ho rfl))
   simp only [xJ]
   simp only [std,Bool.true_and] at he ⊢
   exact he
 · cases he
theorem aic {id g' n:Nat} {g0:List D} (ho:objs[id]? = some (some (.box g' g0))) {ds:List D} {b o:Nat} {s:Array Value} (hb:β id=some (b,o,s)) {h:Array Obj} :
  ∀ (x:D) (c:Bool) (cs cs':List D) (os:List aU) (y:Value),xJ (std P) id g' ds n c x cs=some (cs',os)→(∀ q∈os,q.run (std P))→Rd h I β objs ctr x y →
   ∃ jj,XU jj x∧jj+ds.length≤n∧y = .pointer (some ⟨b,o+jj,none⟩):=by
 intro x
 induction x with
 | dI id' g j =>
  intro c cs cs' os y he hos hy
  simp only [xJ] at he
  split at he
  · rename_i hc
    simp only [Bool.and_eq_true] at hc
    have hid:=Nat.eq_of_beq_eq_true hc.1
    subst hid
    simp only [Option.some.injEq,Prod.mk.injEq] at he
    obtain ⟨rfl,rfl⟩:=he
    have hg:g=g':=hos _ (List.mem_singleton.2 rfl)
    subst hg
    obtain ⟨_,_,hx⟩:=hy
    obtain ⟨b',o',s',hb',rfl⟩:=hx _ ho
    rw [hb] at hb';cases hb'
    exact ⟨j,rfl,Nat.le_of_ble_eq_true hc.2,rfl⟩
  · cases he
 | cnd b' x e ih1 ih2 =>
  intro c cs cs' os y he hos hy
  cases x<;>simp only [xJ] at he<;>try (cases he;done)
  rename_i id' g j
  split at he
  · rename_i hc
    simp only [Bool.and_eq_true] at hc
    have hid:=Nat.eq_of_beq_eq_true hc.1
    subst hid
    split at he
    · rename_i r o2 e2
      simp only [Option.some.injEq,Prod.mk.injEq] at he
      obtain ⟨rfl,rfl⟩:=he
      have hg:g=g':=hos _ (List.mem_cons_self ..)
      subst hg
      cases hb2:b' with
      | true =>
       obtain ⟨_,_,hx⟩:=hy.1 hb2
       obtain ⟨b'',o',s',hb',rfl⟩:=hx _ ho
       rw [hb] at hb';cases hb'
       exact ⟨j,⟨fun _=>rfl,fun h=>by cases h⟩,Nat.le_of_ble_eq_true hc.2,rfl⟩
      | false =>
       obtain ⟨jj,h1,h2,h3⟩:=ih2 _ _ _ _ _ e2 (fun q hq=>hos q (List.mem_cons_of_mem _ hq)) (hy.2 hb2)
       exact ⟨jj,⟨fun h=>(by cases h),fun _=>h1⟩,h2,h3⟩
    · cases he
  · cases he
 | _=>intro c cs cs' os y he;simp [xJ] at he
theorem aeZ (hT:gH P tt) (R:RM B0 h0 I0 L I β slots objs ctr a w) {t:TypeId} {ti:TI} (ht:d9 tt t=some ti) {x1 x2 d:D} {u:List (Nat × Option Ob)} {os:List aU} {y1 y2:Value}
  (he:QS (std P) objs ti x1 x2=some (d,u,os)) (hos : ∀ q∈os,q.run (std P)) (hy1:Rd w.heap I β objs ctr x1 y1) (hy2:Rd w.heap I β objs ctr x2 y2) :
  ∃ w',(Instr.storeAt t y1 y2).run P w = .ok () w'∧∀ y,Post B0 h0 I0 L I β objs ctr w (bF objs u) w' d y:=by
 unfold QS at he
 split at he
 · rename_i ds g' cs hds ho
   split at he
   · rename_i cs' os2 hp
     simp only [Option.some.injEq,Prod.mk.injEq] at he
     obtain ⟨rfl,rfl,rfl⟩:=he
     have hlen:ds.length=ti.size:=(D6 hds hy2).2.1
     generalize hid:yB x1=id at *
     obtain ⟨_,b,o,s,c,e,q1,q2,q3,_,q5,q6⟩:=R.ob id _ ho
     obtain ⟨jj,hat,hle,rfl⟩ : ∃ jj,XU jj x1∧jj+ds.length≤cs.length∧y1 = .pointer (some ⟨b,o+jj,none⟩):=by
      have hp2:=hp
      unfold RX at hp2
      split at hp2
      · rename_i bb id' g j e'
        refine aic (P:=P) (n:=cs.length) (ds:=ds) ho q1 (.cnd bb (.dI id' g j) e') true cs cs' os2 y1 ?_ hos hy1
        simp only [xJ]
        simp only [std,Bool.true_and] at hp2 ⊢
        exact hp2
      · cases hp2
     obtain ⟨w',c',z1,z2,z3,z4,zo,z5,z6,z7⟩:=JR hT ht (base:=o+jj) q2 hds hy2 (by have:=q3.1;omega)
     have hz : ∀ k,k < cs.length→∃ z,c'[o+k]? = some z∧z.oneCell'=true∧(∀ d1,jj≤k→ds[k-jj]? = some d1→Rd w.heap I β objs ctr d1 z)∧(∀ c1,¬ (jj≤k∧k < jj+ds.length)→cs[k]? = some c1→Rd w.heap I β objs ctr c1 z):=by
      intro k hk
      by_cases hin:jj≤k∧k < jj+ds.length
      · obtain ⟨z,r1,r2,r3⟩:=z7 _ _ (List.getElem?_eq_getElem (show k-jj < ds.length by omega))
        refine ⟨z,by rw [show o+k=o+jj+(k-jj) by omega];exact r1,r2,fun d1 _ hd=>?_,fun c1 h=>absurd hin h⟩
        rw [List.getElem?_eq_getElem (by omega)] at hd
        cases hd;exact r3
      · obtain ⟨z,r1,r2,r3⟩:=q6 _ _ (List.getElem?_eq_getElem hk)
        refine ⟨z,by rw [z6 (o+k) (by omega)];exact r1,r2,fun d1 hj hd=>?_,fun c1 _ hc=>?_⟩
        · have:=(List.getElem?_eq_some_iff.1 hd).1;omega
        · rw [List.getElem?_eq_getElem hk] at hc;cases hc;exact r3
     obtain ⟨l1,l2⟩:=agn (P:=P) (h:=w.heap) (I:=I) (β:=β) (objs:=objs) (ctr:=ctr) (zs:=fun k=>(c'[o+k]?).getD undef) (jj:=jj) (fun k d1 hk=>by
      have hkl:=(List.getElem?_eq_some_iff.1 hk).1
      obtain ⟨z,r1,r2,r3,r4⟩:=hz (jj+k) (by omega)
      simp only [r1,Option.getD_some]
      exact r3 d1 (by omega) (by rw [show jj+k-jj=k by omega];exact hk)) rfl hp hat (fun k c1 hk hout=>by
      have hkl:=(List.getElem?_eq_some_iff.1 hk).1
      obtain ⟨z,r1,r2,r3,r4⟩:=hz k hkl
      simp only [r1,Option.getD_some]
      exact r4 c1 hout hk)
     refine ⟨w',by simp [Instr.storeAt,Instr.sureAddr,z1],fun y=>?_⟩
     refine R.write (o':=.box g' cs') ho rfl q1 z5 z4 ⟨b,o,s,c',e,rfl,z2,⟨z3.trans q3.1,fun k hk=>(z6 k (by rw [l1] at hk;omega)).trans (q3.2 k (by rw [l1] at hk;exact hk))⟩,by rw [l1];exact q5,fun k dk hk=>?_⟩ (fun _=>trivial)
     have hkl:k < cs.length:=by rw [← l1];exact (List.getElem?_eq_some_iff.1 hk).1
     obtain ⟨z,r1,r2,r3,r4⟩:=hz k hkl
     have:=l2 k dk hk
     simp only [r1,Option.getD_some] at this
     exact ⟨z,r1,r2,this⟩
   · cases he
 · cases he
end
end Go.Vx
