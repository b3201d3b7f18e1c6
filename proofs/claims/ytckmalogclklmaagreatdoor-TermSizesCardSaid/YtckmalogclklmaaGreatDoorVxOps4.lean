/- Indices, fields, arithmetic, what is made and called: each step of the evaluator is a step of the Go model. -/
import Derived.Test.YtckmalogclklmaaGreatDoorVxOps3
import Derived.Test.YtckmalogclklmaaGreatDoorVxEq
import Derived.Laws.MakeOwn
set_option linter.all false
namespace Go.Vx
section
variable {P:Program} {tt:TT} {h:Array Obj} {I:IS} {β:Nat→Option (Nat × Nat × Array Value)} {objs:List (Option Ob)} {ctr:Nat} {w:World}
theorem ae3 {d:D} {l:Nat} (hl:adC d=some l) {y:Value} (hy:Rd h I β objs ctr d y) : ∃ k,y = .int k (l:Int):=by
 unfold adC at hl
 split at hl
 · cases hl;cases hy;exact ⟨_,rfl⟩
 · cases hl
theorem aaH {ix:Int} {id g sz:Nat} {y:Value} : ∀ (n k j:Nat),(k:Int)≤ix→ix≤((k+n:Nat):Int)→Rd h I β objs ctr (.dI id g (j+(ix.toNat-k)*sz)) y→Rd h I β objs ctr (Za (std P) ix id g sz n k j) y
 | 0,k,j,h1,h2,hr=>by
  have e:ix.toNat-k=0:=by omega
  rw [e] at hr;simpa [Za] using hr
 | n+1,k,j,h1,h2,hr=>by
  refine ⟨fun hb=>?_,fun hb=>aaH n (k+1) (j+sz) ?_ (by omega) ?_⟩
  · simp only [std,beq_iff_eq] at hb
    have e:ix.toNat-k=0:=by omega
    rw [e] at hr;simpa using hr
  · simp only [std,beq_eq_false_iff_ne,ne_eq] at hb;omega
  · simp only [std,beq_eq_false_iff_ne,ne_eq] at hb
    have e:j+sz+(ix.toNat-(k+1))*sz=j+(ix.toNat-k)*sz:=by
     have:ix.toNat-k=(ix.toNat-(k+1))+1:=by omega
     rw [this,Nat.add_mul,Nat.one_mul];omega
    rw [e];exact hr
theorem agr (hT:gH P tt) {t:TypeId} {ti:TI} (ht:d9 tt t=some ti) {x i d:D} {os:List aU} {y1 y2:Value}
  (he:aat (std P) tt ti x i=some (d,os)) (hos : ∀ q∈os,q.run (std P)) (hy1:Rd h I β objs ctr x y1) (hy2:Rd h I β objs ctr i y2) :
  ∃ z,(Instr.indexAt t y1 y2).run P w = .ok z w∧Rd h I β objs ctr d z:=by
 unfold aat at he
 split at he
 · rename_i e hk
   have hu:=iq hT ht hk
   split at he
   · rename_i k ix
     cases hy2
     split at he
     · rename_i id g sz off n
       split at he
       · rename_i hc
         simp only [Bool.and_eq_true,Bool.not_eq_true'] at hc
         have hse:=Nat.eq_of_beq_eq_true hc.1
         obtain ⟨te,hte,hsz⟩:=mg (tt:=tt) (t:=e) (by rw [hse];exact hc.2)
         have hs:(sizeOf e).run P w = .ok sz w:=by rw [← hse,← hsz];exact gB hT hte w
         simp only [Option.some.injEq,Prod.mk.injEq] at he
         obtain ⟨rfl,rfl⟩:=he
         obtain ⟨c1,c2⟩:0≤ix∧ix < n:=hos _ (List.mem_singleton.2 rfl)
         obtain ⟨hg,⟨ad,len,cap,rfl,z1,z2,z3⟩,hx⟩:=hy1
         have hs3:=z3 (by omega)
         cases ad with
         | none=>cases hs3
         | some q =>
          have c2':ix < (len:Int):=by omega
          refine ⟨.pointer (some (q.add (ix.toNat*sz))),by simp [Instr.indexAt,asIntOf,run_underlying hu,c1,c2',hs],hg,⟨_,rfl⟩,fun N t f ho=>?_⟩
          obtain ⟨i0,i1,i2,a',len',cap',heq,q1,q2,q3,q4⟩:=hx _ _ _ ho
          cases heq
          obtain ⟨b,o,s,r1,r2,r3⟩:=q4 (by omega)
          cases r2
          refine ⟨by simp [std];omega,by simp [std];omega,b,o,s,r1,?_⟩
          have e1:((std P).add off ix).toNat=off.toNat+ix.toNat:=by simp [std];omega
          rw [Addr.add_lit,e1,Nat.add_mul]
          simp [Nat.add_assoc]
       · cases he
     · rename_i sz n tight f
       split at he
       · rename_i hc
         simp only [Bool.and_eq_true,Bool.not_eq_true'] at hc
         have hse:=Nat.eq_of_beq_eq_true hc.1
         obtain ⟨te,hte,hsz⟩:=mg (tt:=tt) (t:=e) (by rw [hse];exact hc.2)
         have hs:(sizeOf e).run P w = .ok sz w:=by rw [← hse,← hsz];exact gB hT hte w
         simp only [Option.some.injEq,Prod.mk.injEq] at he
         obtain ⟨rfl,rfl⟩:=he
         obtain ⟨c1,c2⟩:0≤ix∧ix < n:=hos _ (List.mem_singleton.2 rfl)
         obtain ⟨ad,len,cap,rfl,z1,z2,z3,z4⟩:=hy1
         obtain ⟨b,o,c,e',fr,rfl,q2,q3,q4⟩:=z4 (by omega)
         have c2':ix < (len:Int):=by omega
         refine ⟨.pointer (some ⟨b,o+ix.toNat*sz,none⟩),by simp [Instr.indexAt,asIntOf,run_underlying hu,c1,c2',hs,Addr.add_lit],c1,c2,b,o,c,e',fr,by simp,I.sub _ q2,q3,fun i hi j hj=>q4 i (by omega) j hj⟩
       · cases he
     · cases he
   · cases he
 · rename_i n e hk
   have hu:=yE hT ht hk
   split at he
   · rename_i g m k
     split at he
     · rename_i k2 ix
       split at he
       · rename_i hc
         simp only [Bool.and_eq_true] at hc
         have hn1:=Nat.le_of_ble_eq_true hc.1.1
         have hse:=Nat.eq_of_beq_eq_true hc.1.2
         have hmn:=Nat.eq_of_beq_eq_true hc.2
         subst hmn
         obtain ⟨te,hte,hsz⟩:=mg (tt:=tt) (t:=e) (by rw [hse];rfl)
         have hs:(sizeOf e).run P w = .ok 1 w:=by rw [← hse,← hsz];exact gB hT hte w
         simp only [Option.some.injEq,Prod.mk.injEq] at he
         obtain ⟨rfl,rfl⟩:=he
         obtain ⟨c1,c2⟩:0≤ix∧ix < (m:Int):=hos _ (List.mem_singleton.2 rfl)
         cases hy2
         obtain ⟨rfl,r1,c,e',fr,r2,r3⟩:=hy1
         refine ⟨.pointer (some ((⟨g,0,none⟩:Addr).add (ix.toNat*1))),by simp [Instr.indexAt,asIntOf,run_underlying hu,Instr.sureAddr,hs,c1,c2],c1,c2,g,0,c,e',fr,by rw [Addr.add_lit];simp,r1,r2,fun i hi j hj=>⟨_,?_,rfl,rfl⟩⟩
         have:0+i*1+j=i:=by omega
         rw [this];exact r3 i (by omega)
       · cases he
     · cases he
   split at he
   · rename_i l hl
     obtain ⟨k,rfl⟩:=ae3 hl hy2
     split at he
     · rename_i hc
       simp only [Bool.and_eq_true,Bool.not_eq_true'] at hc
       have hlt:=Nat.le_of_ble_eq_true hc.1
       obtain ⟨te,hte,hsz⟩:=mg (tt:=tt) (t:=e) hc.2
       have hs:(sizeOf e).run P w = .ok (iW tt e) w:=by rw [← hsz];exact gB hT hte w
       have hrun : ∀ q:Addr,(Instr.indexAt t (.pointer (some q)) (.int k (l:Int))).run P w = .ok (.pointer (some (q.add (l*iW tt e)))) w:=by
        intro q
        have h1:l < n:=by omega
        simp [Instr.indexAt,asIntOf,run_underlying hu,Instr.sureAddr,hs,h1]
       split at he<;>simp only [Option.some.injEq,Prod.mk.injEq,reduceCtorEq] at he
       · obtain ⟨rfl,rfl⟩:=he
         obtain ⟨hg,⟨q,rfl⟩,hx⟩:=hy1
         refine ⟨_,hrun q,hg,⟨_,rfl⟩,fun cs ho=>?_⟩
         obtain ⟨b,o,s,r1,r2⟩:=hx _ ho
         cases r2
         exact ⟨b,o,s,r1,by rw [Addr.add_lit,Nat.add_assoc]⟩
       · obtain ⟨rfl,rfl⟩:=he
         obtain ⟨hg,⟨q,rfl⟩,hx⟩:=hy1
         refine ⟨_,hrun q,hg,⟨_,rfl⟩,fun N t f ho=>?_⟩
         obtain ⟨i0,i1,b,o,s,r1,r2⟩:=hx _ _ _ ho
         cases r2
         exact ⟨i0,i1,b,o,s,r1,by rw [Addr.add_lit,Nat.add_assoc]⟩
       · obtain ⟨rfl,rfl⟩:=he
         obtain ⟨i0,i1,b,o,c,e',fr,rfl,r1,r2,r3⟩:=hy1
         exact ⟨_,hrun _,i0,i1,b,o,c,e',fr,by rw [Addr.add_lit,Nat.add_assoc],r1,r2,r3⟩
     · cases he
   · cases he
 · cases he
theorem ae4 (hT:gH P tt) {t:TypeId} {ti:TI} (ht:d9 tt t=some ti) {x i d:D} {os:List aU} {y1 y2:Value}
  (he:aau (std P) tt ti x i=some (d,os)) (hos : ∀ q∈os,q.run (std P)) (hy1:Rd h I β objs ctr x y1) (hy2:Rd h I β objs ctr i y2) :
  ∃ z,(Instr.indexAt t y1 y2).run P w = .ok z w∧Rd h I β objs ctr d z:=by
 unfold aau at he
 split at he
 · rename_i m e hk
   have hu:=yE hT ht hk
   split at he
   · rename_i id g j ik ix
     split at he
     · rename_i hc
       simp only [Bool.and_eq_true,Bool.not_eq_true'] at hc
       obtain ⟨te,hte,hsz⟩:=mg (tt:=tt) (t:=e) hc.2
       have hs:(sizeOf e).run P w = .ok (iW tt e) w:=by rw [← hsz];exact gB hT hte w
       simp only [Option.some.injEq,Prod.mk.injEq] at he
       obtain ⟨rfl,rfl⟩:=he
       obtain ⟨c1,c2⟩:0≤ix∧ix < ((m+1:Nat):Int):=hos _ (List.mem_singleton.2 rfl)
       cases hy2
       obtain ⟨hg,⟨q,rfl⟩,hx⟩:=hy1
       refine ⟨.pointer (some (q.add (ix.toNat*iW tt e))),by simp [Instr.indexAt,asIntOf,run_underlying hu,Instr.sureAddr,hs,c1];intro h3;omega,?_⟩
       refine aaH m 0 j (by omega) (by omega) ?_
       refine ⟨hg,⟨_,rfl⟩,fun cs ho=>?_⟩
       obtain ⟨b,o,s,r1,r2⟩:=hx _ ho
       cases r2
       exact ⟨b,o,s,r1,by rw [Addr.add_lit,Nat.add_assoc];simp⟩
     · cases he
   · cases he
 · cases he
theorem ags (hT:gH P tt) {t:TypeId} {ti:TI} (ht:d9 tt t=some ti) {x d:D} {k:Nat} {os:List aU} {y:Value}
  (he:aav tt ti x k=some (d,os)) (hy:Rd h I β objs ctr x y) :
  ∃ z,(Instr.fieldAt t y k).run P w = .ok z w∧Rd h I β objs ctr d z:=by
 unfold aav at he
 split at he
 · rename_i fs hk
   obtain ⟨gs,hu,hfs⟩:=H7 hT ht hk
   split at he
   · rename_i off ft hf
     split at he
     · cases he
     · rename_i hz
       obtain ⟨te,hte,hsz⟩:=mg (tt:=tt) (t:=ft) (Bool.eq_false_iff.2 hz)
       have hz':iW tt ft≠0:=fun h0=>hz (by rw [h0];rfl)
       have hs:(sizeOf ft).run P w = .ok (iW tt ft) w:=by rw [← hsz];exact gB hT hte w
       rw [hfs,List.getElem?_map] at hf
       cases hg:gs.toList[k]? with
       | none=>rw [hg] at hf;cases hf
       | some g =>
        rw [hg] at hf
        simp only [Option.map_some,Option.some.injEq,Prod.mk.injEq] at hf
        obtain ⟨rfl,rfl⟩:=hf
        have hg':gs[k]? = some g:=by simpa using hg
        have hrun : ∀ q:Addr,(Instr.fieldAt t (.pointer (some q)) k).run P w = .ok (.pointer (some (q.add g.offset))) w:=by
         intro q
         simp [Instr.fieldAt,run_underlying hu,hg',Instr.sureAddr,fieldPlace,hs,hz']
        split at he<;>simp only [Option.some.injEq,Prod.mk.injEq,reduceCtorEq] at he
        · obtain ⟨rfl,rfl⟩:=he
          obtain ⟨hg,⟨q,rfl⟩,hx⟩:=hy
          refine ⟨_,hrun q,hg,⟨_,rfl⟩,fun cs ho=>?_⟩
          obtain ⟨b,o,s,r1,r2⟩:=hx _ ho
          cases r2
          exact ⟨b,o,s,r1,by rw [Addr.add_lit,Nat.add_assoc]⟩
        · obtain ⟨rfl,rfl⟩:=he
          obtain ⟨hg,⟨q,rfl⟩,hx⟩:=hy
          refine ⟨_,hrun q,hg,⟨_,rfl⟩,fun N t f ho=>?_⟩
          obtain ⟨i0,i1,b,o,s,r1,r2⟩:=hx _ _ _ ho
          cases r2
          exact ⟨i0,i1,b,o,s,r1,by rw [Addr.add_lit,Nat.add_assoc]⟩
        · obtain ⟨rfl,rfl⟩:=he
          obtain ⟨i0,i1,b,o,c,e',fr,rfl,r1,r2,r3⟩:=hy
          exact ⟨_,hrun _,i0,i1,b,o,c,e',fr,by rw [Addr.add_lit,Nat.add_assoc],r1,r2,r3⟩
   · cases he
 · cases he
theorem ab8 (hT:gH P tt) {t:TypeId} {k off:Nat} {c:Nat→D} {d:D} {os:List aU} {ys:Array Value} (he:Zb tt t k c off=some (d,os))
  (hx : ∀ j,j < k→∃ z,ys[j]? = some z∧z.oneCell'=true∧Rd h I β objs ctr (c j) z) :
  ∃ z,(part t ys off).run P w = .ok z w∧Rd h I β objs ctr d z:=by
 unfold Zb at he
 split at he
 · rename_i ti ht
   cases hl:l5 ti k off c with
   | none=>rw [hl] at he;cases he
   | some d' =>
    rw [hl] at he
    simp only [Option.map_some,Option.some.injEq,Prod.mk.injEq] at he
    obtain ⟨rfl,rfl⟩:=he
    unfold l5 at hl
    split at hl
    · rename_i ha
      split at hl
      · rename_i hle
        have hle:=Nat.le_of_ble_eq_true hle
        cases hl
        refine ⟨.agg (ys.extract off (off+ti.size)),by simp [part,Bj hT ht,ha,gB hT ht],_,rfl,?_,fun j hj=>?_⟩
        · rcases Nat.eq_zero_or_pos ti.size with h0 | h0
          · simp [h0];omega
          · obtain ⟨z,z1,_⟩:=hx (off+ti.size-1) (by omega)
            have:=(Array.getElem?_eq_some_iff.1 z1).1
            simp;omega
        · obtain ⟨z,z1,z2,z3⟩:=hx (off+j) (by omega)
          refine ⟨z,?_,z2,z3⟩
          have:=(Array.getElem?_eq_some_iff.1 z1).1
          rw [Array.getElem?_extract,if_pos (by omega)];exact z1
      · cases hl
    · rename_i ha
      split at hl
      · rename_i hle
        have hle:=Nat.le_of_ble_eq_true hle
        cases hl
        obtain ⟨z,z1,z2,z3⟩:=hx off (by omega)
        have hff:ti.agg=false:=by simpa using ha
        exact ⟨z,by simp [part,Bj hT ht,hff,z1],z3⟩
      · cases hl
 · cases he
theorem run_equalIn_bool (n:Nat) {t:TypeId} (ht:P.underlying t=some .bool) (a b:Bool) (w:World):(Op.equalIn (n+1) t (.bool a) (.bool b)).run P w = .ok (a == b) w:=by
 simp only [Op.equalIn,Sem.run_bind,run_underlying ht,Result.andThen_ok,Sem.run_pure]
theorem run_equal_bool {t:TypeId} (ht:P.underlying t=some .bool) (a b:Bool) (w:World):(Op.equal t (.bool a) (.bool b)).run P w = .ok (a == b) w :=
 run_equalIn_bool 9999 ht a b w
theorem alk (hT:gH P tt) {op:BinOp} {xt:TypeId} {x y d:D} {os:List aU} {v1 v2:Value} (x' y':Operand)
  (he:bin (std P) op (d9 tt xt) x y=some (d,os)) (hos : ∀ q∈os,q.run (std P)) (h1:Rd h I β objs ctr x v1) (h2:Rd h I β objs ctr y v2) :
  ∃ z,(do eqGuard op xt x' y' v1 v2;binOp op xt v1 v2:Sem Value).run P w = .ok z w∧Rd h I β objs ctr d z:=by
 cases x with
 | agg k c =>
  cases y with
  | agg k' c' =>
   simp only [bin] at he
   split at he
   · rename_i ti ht
     split at he
     · rename_i l hl
       split at he
       · rename_i hk
         simp only [Bool.and_eq_true] at hk
         have hk1:=Nat.eq_of_beq_eq_true hk.1
         have hk2:=Nat.eq_of_beq_eq_true hk.2
         subst hk1;subst hk2
         obtain ⟨ys,rfl,s1,x1⟩:=h1
         obtain ⟨zs,rfl,s2,x2⟩:=h2
         obtain ⟨i,dd,i1,i2,_,_,_,_,i3⟩:=hT.get ht
         rw [hl] at i3
         unfold adR at i3
         split at i3
         · rename_i hagg
           split at i3
           · cases i3
           · rename_i hgd
             have hg:(eqGuard op xt x' y' (.agg ys) (.agg zs)).run P w = .ok () w:=run_eqGuard_agg w op xt x' y' ys zs (by simpa using hgd)
             have hfy:Fits P xt (.agg ys) ys.toList:=⟨dd,i2,by rw [hagg];simp⟩
             have hfz:Fits P xt (.agg zs) zs.toList:=⟨dd,i2,by rw [hagg];simp⟩
             split at he<;>simp only [Option.some.injEq,Prod.mk.injEq,reduceCtorEq] at he
             · rename_i b hb
               obtain ⟨rfl,rfl⟩:=he
               have hk:=UQ (vs:=ys.toList) (us:=zs.toList) hb (by simpa using s1) (by simpa using s2) (fun j hj=>by obtain ⟨z,z1,_,z3⟩:=x1 j hj;exact ⟨z,by simpa using z1,z3⟩) (fun j hj=>by obtain ⟨z,z1,_,z3⟩:=x2 j hj;exact ⟨z,by simpa using z1,z3⟩)
               have:=WB w 30 xt l i3 9970 _ _ _ _ b hfy hfz hk
               exact ⟨.bool b,by simp [hg,run_eql_struct,this],rfl⟩
             · rename_i b hb
               obtain ⟨rfl,rfl⟩:=he
               have hk:=UQ (vs:=ys.toList) (us:=zs.toList) hb (by simpa using s1) (by simpa using s2) (fun j hj=>by obtain ⟨z,z1,_,z3⟩:=x1 j hj;exact ⟨z,by simpa using z1,z3⟩) (fun j hj=>by obtain ⟨z,z1,_,z3⟩:=x2 j hj;exact ⟨z,by simpa using z1,z3⟩)
               have:=WB w 30 xt l i3 9970 _ _ _ _ b hfy hfz hk
               exact ⟨.bool (!b),by simp [hg,run_neq_struct,this],rfl⟩
         · cases i3
       · cases he
     · cases he
   · cases he
  | _=>simp [bin] at he
 | v a =>
  cases y with
  | v b =>
   cases h1;cases h2
   cases v1 with
   | int k a =>
    cases v2 with
    | int k' b =>
     have hg:(eqGuard op xt x' y' (.int k a) (.int k' b)).run P w = .ok () w:=by
      unfold eqGuard;cases op<;>simp
     have key : ∀ z,(binOp op xt (.int k a) (.int k' b)).run P w = .ok z w→(do eqGuard op xt x' y' (.int k a) (.int k' b);binOp op xt (.int k a) (.int k' b):Sem Value).run P w = .ok z w:=by
      intro z hz;simp [hg,hz]
     cases op<;>simp only [bin] at he
     case shl =>
      simp only [Option.some.injEq,Prod.mk.injEq] at he
      obtain ⟨rfl,rfl⟩:=he
      have hb:0≤b:=hos _ (List.mem_singleton.2 rfl)
      exact ⟨_,key _ (by simp [binOp,Op.shift,Int.not_lt.2 hb];rfl),rfl⟩
     case shr =>
      simp only [Option.some.injEq,Prod.mk.injEq] at he
      obtain ⟨rfl,rfl⟩:=he
      have hb:0≤b:=hos _ (List.mem_singleton.2 rfl)
      exact ⟨_,key _ (by simp [binOp,Op.shift,Int.not_lt.2 hb];rfl),rfl⟩
     case add =>
      split at he
      · rename_i hk
        subst hk
        simp only [Option.some.injEq,Prod.mk.injEq] at he
        obtain ⟨rfl,rfl⟩:=he
        have hr:=hos _ (List.mem_singleton.2 rfl)
        exact ⟨_,key _ (by simp [binOp,Op.intArith];rfl),congrArg (Value.int k) (CB k _ hr)⟩
      · cases he
     case sub =>
      split at he
      · rename_i hk
        subst hk
        simp only [Option.some.injEq,Prod.mk.injEq] at he
        obtain ⟨rfl,rfl⟩:=he
        have hr:=hos _ (List.mem_singleton.2 rfl)
        exact ⟨_,key _ (by simp [binOp,Op.intArith];rfl),congrArg (Value.int k) (CB k _ hr)⟩
      · cases he
     case mul =>
      split at he
      · rename_i hk
        subst hk
        simp only [Option.some.injEq,Prod.mk.injEq] at he
        obtain ⟨rfl,rfl⟩:=he
        have hr:=hos _ (List.mem_singleton.2 rfl)
        exact ⟨_,key _ (by simp [binOp,Op.intArith];rfl),congrArg (Value.int k) (CB k _ hr)⟩
      · cases he
     case quo =>
      split at he
      · rename_i hk
        subst hk
        simp only [Option.some.injEq,Prod.mk.injEq] at he
        obtain ⟨rfl,rfl⟩:=he
        have h0:b≠0:=hos _ (List.mem_cons_self ..)
        have hr:=hos _ (List.mem_cons_of_mem _ (List.mem_singleton.2 rfl))
        exact ⟨_,key _ (by simp [binOp,Op.intDiv,h0];rfl),congrArg (Value.int k) (CB k _ hr)⟩
      · cases he
     case rem =>
      split at he
      · rename_i hk
        subst hk
        simp only [Option.some.injEq,Prod.mk.injEq] at he
        obtain ⟨rfl,rfl⟩:=he
        have h0:b≠0:=hos _ (List.mem_cons_self ..)
        exact ⟨_,key _ (by simp [binOp,Op.intDiv,h0];rfl),rfl⟩
      · cases he
     case and =>
      split at he
      · rename_i hk
        subst hk
        simp only [Option.some.injEq,Prod.mk.injEq] at he
        obtain ⟨rfl,rfl⟩:=he
        exact ⟨_,key _ (by simp [binOp,Op.intBits];rfl),by simp [Rd,std]⟩
      · cases he
     case or =>
      split at he
      · rename_i hk
        subst hk
        simp only [Option.some.injEq,Prod.mk.injEq] at he
        obtain ⟨rfl,rfl⟩:=he
        exact ⟨_,key _ (by simp [binOp,Op.intBits];rfl),by simp [Rd,std]⟩
      · cases he
     case xor =>
      split at he
      · rename_i hk
        subst hk
        simp only [Option.some.injEq,Prod.mk.injEq] at he
        obtain ⟨rfl,rfl⟩:=he
        exact ⟨_,key _ (by simp [binOp,Op.intBits];rfl),by simp [Rd,std]⟩
      · cases he
     case andNot =>
      split at he
      · rename_i hk
        subst hk
        simp only [Option.some.injEq,Prod.mk.injEq] at he
        obtain ⟨rfl,rfl⟩:=he
        exact ⟨_,key _ (by simp [binOp,Op.intBits];rfl),by simp [Rd,std]⟩
      · cases he
     case eql =>
      split at he
      · rename_i hk
        subst hk
        simp only [Option.some.injEq,Prod.mk.injEq] at he
        obtain ⟨rfl,rfl⟩:=he
        exact ⟨_,key _ (by simp [binOp,Op.intCmp];rfl),by simp [Rd,std]⟩
      · cases he
     case neq =>
      split at he
      · rename_i hk
        subst hk
        simp only [Option.some.injEq,Prod.mk.injEq] at he
        obtain ⟨rfl,rfl⟩:=he
        exact ⟨_,key _ (by simp [binOp,Op.intCmp];rfl),by simp [Rd,std];rfl⟩
      · cases he
     case lss =>
      split at he
      · rename_i hk
        subst hk
        simp only [Option.some.injEq,Prod.mk.injEq] at he
        obtain ⟨rfl,rfl⟩:=he
        exact ⟨_,key _ (by simp [binOp,Op.intCmp];rfl),by simp [Rd,std]⟩
      · cases he
     case leq =>
      split at he
      · rename_i hk
        subst hk
        simp only [Option.some.injEq,Prod.mk.injEq] at he
        obtain ⟨rfl,rfl⟩:=he
        exact ⟨_,key _ (by simp [binOp,Op.intCmp];rfl),by simp [Rd,std]⟩
      · cases he
     case gtr =>
      split at he
      · rename_i hk
        subst hk
        simp only [Option.some.injEq,Prod.mk.injEq] at he
        obtain ⟨rfl,rfl⟩:=he
        exact ⟨_,key _ (by simp [binOp,Op.intCmp];rfl),by simp [Rd,std]⟩
      · cases he
     case geq =>
      split at he
      · rename_i hk
        subst hk
        simp only [Option.some.injEq,Prod.mk.injEq] at he
        obtain ⟨rfl,rfl⟩:=he
        exact ⟨_,key _ (by simp [binOp,Op.intCmp];rfl),by simp [Rd,std]⟩
      · cases he
     all_goals (split at he<;>cases he)
    | _=>simp [bin] at he
   | bool a =>
    cases v2 with
    | bool b =>
     have hg:(eqGuard op xt x' y' (.bool a) (.bool b)).run P w = .ok () w:=by
      unfold eqGuard;cases op<;>simp
     simp only [bin] at he
     split at he
     · rename_i ti ht
       split at he
       · rename_i hk
         have hu:=adS hT ht hk
         split at he<;>simp only [Option.some.injEq,Prod.mk.injEq,reduceCtorEq] at he
         · obtain ⟨rfl,rfl⟩:=he
           exact ⟨.bool (a == b),by simp [hg,binOp,run_equal_bool hu],rfl⟩
         · obtain ⟨rfl,rfl⟩:=he
           exact ⟨.bool (!(a == b)),by simp [hg,binOp,run_equal_bool hu],rfl⟩
       · cases he
     · cases he
    | _=>simp [bin] at he
   | string a =>
    cases v2 with
    | string b =>
     have hg:(eqGuard op xt x' y' (.string a) (.string b)).run P w = .ok () w:=by
      unfold eqGuard;cases op<;>simp
     cases op<;>simp only [bin,Option.some.injEq,Prod.mk.injEq,reduceCtorEq] at he
     · obtain ⟨rfl,rfl⟩:=he
       obtain ⟨r1,r2⟩:IntKind.i64.min≤(a.size:Int)+b.size∧(a.size:Int)+b.size≤IntKind.i64.max:=hos _ (List.mem_singleton.2 rfl)
       have r0:IntKind.i64.max=9223372036854775807:=rfl
       have r3 : ¬ (9223372036854775807 < (a.size:Int)+b.size):=by omega
       exact ⟨.string (a++b),by simp [hg,binOp,Op.stringOp,r3],rfl⟩
     · obtain ⟨rfl,rfl⟩:=he
       exact ⟨.bool (a.toList == b.toList),by simp [hg,binOp,Op.stringOp],rfl⟩
     · obtain ⟨rfl,rfl⟩:=he
       exact ⟨.bool (!(a.toList == b.toList)),by simp [hg,binOp,Op.stringOp],rfl⟩
    | _=>simp [bin] at he
   | _=>simp [bin] at he
  | _=>cases a<;>simp [bin] at he
 | _=>simp [bin] at he
end
end Go.Vx
