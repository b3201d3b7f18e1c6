/- Indices, fields, arithmetic, what is made and called: each step of the evaluator is a step of the Go model. -/
import Derived.Test.YtmpgicplgjmjkaaGreatDoorVxOps3
import Derived.Laws.MakeOwn
set_option linter.all false
section
namespace Go.Vx
section
variable {P:Program} {tt:TT} {h:Array Obj} {I:IS} {β:Nat->Option (Nat×Nat×Array Value)} {objs:List (Option Ob)} {ctr:Nat} {w:World}
theorem aox{d:D}{l:Nat}(hl:amT d=some l){y:Value}(hy:Rd h I β objs ctr d y) : ∃ k,y = .int k (l:Int):=by
 unfold amT at hl;split at hl
 . cases hl;cases hy;exact⟨_,rfl⟩
 cases hl
theorem ajJ{ix:Int}{id g sz:Nat}{y:Value} : ∀ (n k j:Nat),(k:Int)<=ix->ix<=((k+n:Nat):Int)->Rd h I β objs ctr (.fq id g (j+(ix.toNat-k)*sz)) y->Rd h I β objs ctr (ahC (std P) ix id g sz n k j) y
 | 0,k,j,h1,h2,hr=>by
  have e:ix.toNat-k=0:=ak;rw[e] at hr;simpa[ahC] using hr
 | n+1,k,j,h1,h2,hr=>by
  refine⟨λhb=>?_,λhb=>ajJ n (k+1) (j+sz) ?_ ak ?_⟩
  . simp only[std,beq_iff_eq] at hb;have e:ix.toNat-k=0:=ak;rw[e] at hr;simpa using hr
  . simp only[std,beq_eq_false_iff_ne,ne_eq] at hb;omega
  simp only[std,beq_eq_false_iff_ne,ne_eq] at hb;have e:j+sz+(ix.toNat-(k+1))*sz=j+(ix.toNat-k)*sz:=by
   have:ix.toNat-k=(ix.toNat-(k+1))+1:=ak;rw[this,kr,Tm];omega
  rw[e];exact hr
theorem ap6(hT:jG P tt){t:TypeId}{ti:TI}(ht:iB tt t=some ti){x i d:D}{os:List bC}{y1 y2:Value}
  (he:ajK (std P) tt ti x i=some (d,os)) (hos : ∀ q∈os,q.run (std P)) (hy1:Rd h I β objs ctr x y1) (hy2:Rd h I β objs ctr i y2) :
  ∃ z,(Instr.indexAt t y1 y2).run P w = .ok z w/\Rd h I β objs ctr d z:=by
 unfold ajK at he;split at he
 . rename_i e hk;have hu:=jV hT ht hk;split at he
   . rename_i k ix;cases hy2;split at he
     . rename_i id g sz off n;split at he
       . rename_i hc;simp only[ig,Ij] at hc;have hse:=dO hc.1;obtain⟨te,hte,hsz⟩:=qY (tt:=tt) (t:=e) (by rw[hse];exact hc.2);have hs:(sizeOf e).run P w = .ok sz w:=by rw[← hse,← hsz];exact jr hT hte w
         simp only[aW,bM] at he;obtain⟨rfl,rfl⟩:=he;obtain⟨c1,c2⟩:0<=ix/\ix<n:=hos _ (fQ.2 rfl);obtain⟨hg,⟨ad,len,cap,rfl,z1,z2,z3⟩,hx⟩:=hy1;have hs3:=z3 ak;cases ad with
         | none=>cases hs3
         | some q=>
          have c2':ix<(len:Int):=ak;refine⟨.pointer (some (q.add (ix.toNat*sz))),by simp[Instr.indexAt,asIntOf,run_underlying hu,c1,c2',hs],hg,⟨_,rfl⟩,λN t f ho=>?_⟩;obtain⟨i0,i1,i2,a',len',cap',heq,q1,q2,q3,q4⟩:=hx _ _ _ ho;cases heq;obtain⟨b,o,s,r1,r2,r3⟩:=q4 ak;cases r2;refine⟨by simp[std];omega,by simp[std];omega,b,o,s,r1,?_⟩;have e1:((std P).add off ix).toNat=off.toNat+ix.toNat:=by simp[std];omega
          rw[Addr.add_lit,e1,kr];simp[rY]
       cases he
     . rename_i sz n tight f;split at he
       . rename_i hc;simp only[ig,Ij] at hc;have hse:=dO hc.1;obtain⟨te,hte,hsz⟩:=qY (tt:=tt) (t:=e) (by rw[hse];exact hc.2);have hs:(sizeOf e).run P w = .ok sz w:=by rw[← hse,← hsz];exact jr hT hte w
         simp only[aW,bM] at he;obtain⟨rfl,rfl⟩:=he;obtain⟨c1,c2⟩:0<=ix/\ix<n:=hos _ (fQ.2 rfl);obtain⟨ad,len,cap,rfl,z1,z2,z3,z4⟩:=hy1;obtain⟨b,o,c,e',fr,rfl,q2,q3,q4⟩:=z4 ak;have c2':ix<(len:Int):=ak;refine⟨.pointer (some ⟨b,o+ix.toNat*sz,none⟩),by simp[Instr.indexAt,asIntOf,run_underlying hu,c1,c2',hs,Addr.add_lit],c1,c2,b,o,c,e',fr,bH,I.sub _ q2,q3,λi hi j hj=>q4 i ak j hj⟩
       cases he
     cases he
   cases he
 . rename_i n e hk;have hu:=F4 hT ht hk;split at he
   . rename_i g m k;split at he
     . rename_i k2 ix;split at he
       . rename_i hc;simp only[ig] at hc;have hn1:=sw hc.1.1;have hse:=dO hc.1.2;have hmn:=dO hc.2;subst hmn;obtain⟨te,hte,hsz⟩:=qY (tt:=tt) (t:=e) (by rw[hse];rfl);have hs:(sizeOf e).run P w = .ok 1 w:=by rw[← hse,← hsz];exact jr hT hte w
         simp only[aW,bM] at he;obtain⟨rfl,rfl⟩:=he;obtain⟨c1,c2⟩:0<=ix/\ix<(m:Int):=hos _ (fQ.2 rfl);cases hy2;obtain⟨rfl,r1,c,e',fr,r2,r3⟩:=hy1;refine⟨.pointer (some ((⟨g,0,none⟩:Addr).add (ix.toNat*1))),by simp[Instr.indexAt,asIntOf,run_underlying hu,Instr.sureAddr,hs,c1,c2],c1,c2,g,0,c,e',fr,by rw[Addr.add_lit];simp,r1,r2,λi hi j hj=>⟨_,?_,rfl,rfl⟩⟩;have:0+i*1+j=i:=ak;rw[this];exact r3 i ak
       cases he
     cases he
   split at he
   . rename_i l hl;obtain⟨k,rfl⟩:=aox hl hy2;split at he
     . rename_i hc;simp only[ig,Ij] at hc;have hlt:=sw hc.1;obtain⟨te,hte,hsz⟩:=qY (tt:=tt) (t:=e) hc.2;have hs:(sizeOf e).run P w = .ok (lG tt e) w:=by rw[← hsz];exact jr hT hte w
       have hrun : ∀ q:Addr,(Instr.indexAt t (.pointer (some q)) (.int k (l:Int))).run P w = .ok (.pointer (some (q.add (l*lG tt e)))) w:=by
        intro q;have h1:l<n:=ak;simp[Instr.indexAt,asIntOf,run_underlying hu,Instr.sureAddr,hs,h1]
       split at he<;>simp only[aW,bM,reduceCtorEq] at he
       . obtain⟨rfl,rfl⟩:=he;obtain⟨hg,⟨q,rfl⟩,hx⟩:=hy1;refine⟨_,hrun q,hg,⟨_,rfl⟩,λcs ho=>?_⟩;obtain⟨b,o,s,r1,r2⟩:=hx _ ho;cases r2;exact⟨b,o,s,r1,by rw[Addr.add_lit,rY]⟩
       . obtain⟨rfl,rfl⟩:=he;obtain⟨hg,⟨q,rfl⟩,hx⟩:=hy1;refine⟨_,hrun q,hg,⟨_,rfl⟩,λN t f ho=>?_⟩;obtain⟨i0,i1,b,o,s,r1,r2⟩:=hx _ _ _ ho;cases r2;exact⟨i0,i1,b,o,s,r1,by rw[Addr.add_lit,rY]⟩
       obtain⟨rfl,rfl⟩:=he;obtain⟨i0,i1,b,o,c,e',fr,rfl,r1,r2,r3⟩:=hy1;exact⟨_,hrun _,i0,i1,b,o,c,e',fr,by rw[Addr.add_lit,rY],r1,r2,r3⟩
     cases he
   cases he
 cases he
theorem aoy(hT:jG P tt){t:TypeId}{ti:TI}(ht:iB tt t=some ti){x i d:D}{os:List bC}{y1 y2:Value}
  (he:ajL (std P) tt ti x i=some (d,os)) (hos : ∀ q∈os,q.run (std P)) (hy1:Rd h I β objs ctr x y1) (hy2:Rd h I β objs ctr i y2) :
  ∃ z,(Instr.indexAt t y1 y2).run P w = .ok z w/\Rd h I β objs ctr d z:=by
 unfold ajL at he;split at he
 . rename_i m e hk;have hu:=F4 hT ht hk;split at he
   . rename_i id g j ik ix;split at he
     . rename_i hc;simp only[ig,Ij] at hc;obtain⟨te,hte,hsz⟩:=qY (tt:=tt) (t:=e) hc.2;have hs:(sizeOf e).run P w = .ok (lG tt e) w:=by rw[← hsz];exact jr hT hte w
       simp only[aW,bM] at he;obtain⟨rfl,rfl⟩:=he;obtain⟨c1,c2⟩:0<=ix/\ix<((m+1:Nat):Int):=hos _ (fQ.2 rfl);cases hy2;obtain⟨hg,⟨q,rfl⟩,hx⟩:=hy1;refine⟨.pointer (some (q.add (ix.toNat*lG tt e))),by simp[Instr.indexAt,asIntOf,run_underlying hu,Instr.sureAddr,hs,c1];intro h3;omega,?_⟩;refine ajJ m 0 j ak ak ?_;refine⟨hg,⟨_,rfl⟩,λcs ho=>?_⟩;obtain⟨b,o,s,r1,r2⟩:=hx _ ho;cases r2;exact⟨b,o,s,r1,by rw[Addr.add_lit,rY];simp⟩
     cases he
   cases he
 cases he
theorem ap7(hT:jG P tt){t:TypeId}{ti:TI}(ht:iB tt t=some ti){x d:D}{k:Nat}{os:List bC}{y:Value}
  (he:ajM tt ti x k=some (d,os)) (hy:Rd h I β objs ctr x y) :
  ∃ z,(Instr.fieldAt t y k).run P w = .ok z w/\Rd h I β objs ctr d z:=by
 unfold ajM at he;split at he
 . rename_i fs hk;obtain⟨gs,hu,hfs⟩:=QC hT ht hk;split at he
   . rename_i off ft hf;split at he
     . cases he
     rename_i hz;obtain⟨te,hte,hsz⟩:=qY (tt:=tt) (t:=ft) (Bool.eq_false_iff.2 hz);have hz':lG tt ft≠0:=λh0=>hz (by rw[h0];rfl);have hs:(sizeOf ft).run P w = .ok (lG tt ft) w:=by rw[← hsz];exact jr hT hte w
     rw[hfs,qJ] at hf;cases hg:gs.toList[k]? with
     | none=>rw[hg] at hf;cases hf
     | some g=>
      rw[hg] at hf;simp only[iP,aW,bM] at hf;obtain⟨rfl,rfl⟩:=hf;have hg':gs[k]? = some g:=by simpa using hg
      have hrun : ∀ q:Addr,(Instr.fieldAt t (.pointer (some q)) k).run P w = .ok (.pointer (some (q.add g.offset))) w:=by
       intro q;simp[Instr.fieldAt,run_underlying hu,hg',Instr.sureAddr,fieldPlace,hs,hz']
      split at he<;>simp only[aW,bM,reduceCtorEq] at he
      . obtain⟨rfl,rfl⟩:=he;obtain⟨hg,⟨q,rfl⟩,hx⟩:=hy;refine⟨_,hrun q,hg,⟨_,rfl⟩,λcs ho=>?_⟩;obtain⟨b,o,s,r1,r2⟩:=hx _ ho;cases r2;exact⟨b,o,s,r1,by rw[Addr.add_lit,rY]⟩
      . obtain⟨rfl,rfl⟩:=he;obtain⟨hg,⟨q,rfl⟩,hx⟩:=hy;refine⟨_,hrun q,hg,⟨_,rfl⟩,λN t f ho=>?_⟩;obtain⟨i0,i1,b,o,s,r1,r2⟩:=hx _ _ _ ho;cases r2;exact⟨i0,i1,b,o,s,r1,by rw[Addr.add_lit,rY]⟩
      obtain⟨rfl,rfl⟩:=he;obtain⟨i0,i1,b,o,c,e',fr,rfl,r1,r2,r3⟩:=hy;exact⟨_,hrun _,i0,i1,b,o,c,e',fr,by rw[Addr.add_lit,rY],r1,r2,r3⟩
   cases he
 cases he
theorem alk(hT:jG P tt){t:TypeId}{k off:Nat}{c:Nat->D}{d:D}{os:List bC}{ys:Array Value}(he:ahD tt t k c off=some (d,os))
  (hx : ∀ j,j<k->∃ z,ys[j]? = some z/\z.oneCell'=true/\Rd h I β objs ctr (c j) z) :
  ∃ z,(part t ys off).run P w = .ok z w/\Rd h I β objs ctr d z:=by
 unfold ahD at he;split at he
 . rename_i ti ht;cases hl:qO ti k off c with
   | none=>rw[hl] at he;cases he
   | some d'=>
    rw[hl] at he;simp only[iP,aW,bM] at he;obtain⟨rfl,rfl⟩:=he;unfold qO at hl;split at hl
    . rename_i ha;split at hl
      . rename_i hle;have hle:=sw hle;cases hl;refine⟨.agg (ys.extract off (off+ti.size)),by simp[part,Ju hT ht,ha,jr hT ht],_,rfl,?_,λj hj=>?_⟩
        . rcases EM ti.size with h0|h0
          . simp[h0];omega
          obtain⟨z,z1,_⟩:=hx (off+ti.size-1) ak;have:=(yY.1 z1).1;simp;omega
        obtain⟨z,z1,z2,z3⟩:=hx (off+j) ak;refine⟨z,?_,z2,z3⟩;have:=(yY.1 z1).1;rw[Array.getElem?_extract,if_pos ak];exact z1
      cases hl
    rename_i ha;split at hl
    . rename_i hle;have hle:=sw hle;cases hl;obtain⟨z,z1,z2,z3⟩:=hx off ak;have hff:ti.agg=false:=by simpa using ha
      exact⟨z,by simp[part,Ju hT ht,hff,z1],z3⟩
    cases hl
 cases he
theorem run_equalIn_bool(n:Nat){t:TypeId}(ht:P.underlying t=some .bool)(a b:Bool)(w:World):(Op.equalIn (n+1) t (.bool a) (.bool b)).run P w = .ok (a==b) w:=by
 simp only[Op.equalIn,Sem.run_bind,run_underlying ht,Result.andThen_ok,Sem.run_pure]
theorem run_equal_bool{t:TypeId}(ht:P.underlying t=some .bool)(a b:Bool)(w:World):(Op.equal t (.bool a) (.bool b)).run P w = .ok (a==b) w :=
 run_equalIn_bool 9999 ht a b w
theorem au9(hT:jG P tt){op:BinOp}{xt:TypeId}{x y d:D}{os:List bC}{v1 v2:Value}(x' y':Operand)
  (he:bin (std P) op (iB tt xt) x y=some (d,os)) (hos : ∀ q∈os,q.run (std P)) (h1:Rd h I β objs ctr x v1) (h2:Rd h I β objs ctr y v2) :
  ∃ z,(do eqGuard op xt x' y' v1 v2;binOp op xt v1 v2:Sem Value).run P w = .ok z w/\Rd h I β objs ctr d z:=by
 cases x with
 | agg k c=>
  cases y with
  | agg k' c'=>
   simp only[bin] at he;split at he
   . rename_i ti ht;split at he
     . rename_i l hl;split at he
       . rename_i hk;simp only[ig] at hk;have hk1:=dO hk.1;have hk2:=dO hk.2;subst hk1;subst hk2;obtain⟨ys,rfl,s1,x1⟩:=h1;obtain⟨zs,rfl,s2,x2⟩:=h2;obtain⟨i,dd,i1,i2,_,_,_,_,i3⟩:=hT.get ht;rw[hl] at i3;unfold amE at i3;split at i3
         . rename_i hagg;split at i3
           . cases i3
           rename_i hgd;have hg:(eqGuard op xt x' y' (.agg ys) (.agg zs)).run P w = .ok () w:=run_eqGuard_agg w op xt x' y' ys zs (by simpa using hgd);have hfy:Fits P xt (.agg ys) ys.toList:=⟨dd,i2,by rw[hagg];simp⟩
           have hfz:Fits P xt (.agg zs) zs.toList:=⟨dd,i2,by rw[hagg];simp⟩
           split at he<;>simp only[aW,bM,reduceCtorEq] at he
           . rename_i b hb;obtain⟨rfl,rfl⟩:=he;have hk:=acQ (vs:=ys.toList) (us:=zs.toList) hb (by simpa using s1) (by simpa using s2) (λj hj=>by obtain⟨z,z1,_,z3⟩:=x1 j hj;exact⟨z,by simpa using z1,z3⟩) (λj hj=>by obtain⟨z,z1,_,z3⟩:=x2 j hj;exact⟨z,by simpa using z1,z3⟩);have:=aew w 30 xt l i3 9970 _ _ _ _ b hfy hfz hk;exact⟨.bool b,by simp[hg,run_eql_struct,this],rfl⟩
           rename_i b hb;obtain⟨rfl,rfl⟩:=he;have hk:=acQ (vs:=ys.toList) (us:=zs.toList) hb (by simpa using s1) (by simpa using s2) (λj hj=>by obtain⟨z,z1,_,z3⟩:=x1 j hj;exact⟨z,by simpa using z1,z3⟩) (λj hj=>by obtain⟨z,z1,_,z3⟩:=x2 j hj;exact⟨z,by simpa using z1,z3⟩);have:=aew w 30 xt l i3 9970 _ _ _ _ b hfy hfz hk;exact⟨.bool (!b),by simp[hg,run_neq_struct,this],rfl⟩
         cases i3
       cases he
     cases he
   cases he
  | _=>simp[bin] at he
 | v a=>
  cases y with
  | v b=>
   cases h1;cases h2;cases v1 with
   | int k a=>
    cases v2 with
    | int k' b=>
     have hg:(eqGuard op xt x' y' (.int k a) (.int k' b)).run P w = .ok () w:=by
      unfold eqGuard;cases op<;>simp
     have key : ∀ z,(binOp op xt (.int k a) (.int k' b)).run P w = .ok z w->(do eqGuard op xt x' y' (.int k a) (.int k' b);binOp op xt (.int k a) (.int k' b):Sem Value).run P w = .ok z w:=by
      intro z hz;simp[hg,hz]
     cases op<;>simp only[bin] at he
     case shl=>
      simp only[aW,bM] at he;obtain⟨rfl,rfl⟩:=he;have hb:0<=b:=hos _ (fQ.2 rfl);exact⟨_,key _ (by simp[binOp,Op.shift,Int.not_lt.2 hb];rfl),rfl⟩
     case shr=>
      simp only[aW,bM] at he;obtain⟨rfl,rfl⟩:=he;have hb:0<=b:=hos _ (fQ.2 rfl);exact⟨_,key _ (by simp[binOp,Op.shift,Int.not_lt.2 hb];rfl),rfl⟩
     case add=>
      split at he
      . rename_i hk;subst hk;simp only[aW,bM] at he;obtain⟨rfl,rfl⟩:=he;have hr:=hos _ (fQ.2 rfl);exact⟨_,key _ (by simp[binOp,Op.intArith];rfl),congrArg (Value.int k) (J9 k _ hr)⟩
      cases he
     case sub=>
      split at he
      . rename_i hk;subst hk;simp only[aW,bM] at he;obtain⟨rfl,rfl⟩:=he;have hr:=hos _ (fQ.2 rfl);exact⟨_,key _ (by simp[binOp,Op.intArith];rfl),congrArg (Value.int k) (J9 k _ hr)⟩
      cases he
     case mul=>
      split at he
      . rename_i hk;subst hk;simp only[aW,bM] at he;obtain⟨rfl,rfl⟩:=he;have hr:=hos _ (fQ.2 rfl);exact⟨_,key _ (by simp[binOp,Op.intArith];rfl),congrArg (Value.int k) (J9 k _ hr)⟩
      cases he
     case quo=>
      split at he
      . rename_i hk;subst hk;simp only[aW,bM] at he;obtain⟨rfl,rfl⟩:=he;have h0:b≠0:=hos _ (iO ..);have hr:=hos _ (gU _ (fQ.2 rfl));exact⟨_,key _ (by simp[binOp,Op.intDiv,h0];rfl),congrArg (Value.int k) (J9 k _ hr)⟩
      cases he
     case rem=>
      split at he
      . rename_i hk;subst hk;simp only[aW,bM] at he;obtain⟨rfl,rfl⟩:=he;have h0:b≠0:=hos _ (iO ..);exact⟨_,key _ (by simp[binOp,Op.intDiv,h0];rfl),rfl⟩
      cases he
     case and=>
      split at he
      . rename_i hk;subst hk;simp only[aW,bM] at he;obtain⟨rfl,rfl⟩:=he;exact⟨_,key _ (by simp[binOp,Op.intBits];rfl),by simp[Rd,std]⟩
      cases he
     case or=>
      split at he
      . rename_i hk;subst hk;simp only[aW,bM] at he;obtain⟨rfl,rfl⟩:=he;exact⟨_,key _ (by simp[binOp,Op.intBits];rfl),by simp[Rd,std]⟩
      cases he
     case xor=>
      split at he
      . rename_i hk;subst hk;simp only[aW,bM] at he;obtain⟨rfl,rfl⟩:=he;exact⟨_,key _ (by simp[binOp,Op.intBits];rfl),by simp[Rd,std]⟩
      cases he
     case andNot=>
      split at he
      . rename_i hk;subst hk;simp only[aW,bM] at he;obtain⟨rfl,rfl⟩:=he;exact⟨_,key _ (by simp[binOp,Op.intBits];rfl),by simp[Rd,std]⟩
      cases he
     case eql=>
      split at he
      . rename_i hk;subst hk;simp only[aW,bM] at he;obtain⟨rfl,rfl⟩:=he;exact⟨_,key _ (by simp[binOp,Op.intCmp];rfl),by simp[Rd,std]⟩
      cases he
     case neq=>
      split at he
      . rename_i hk;subst hk;simp only[aW,bM] at he;obtain⟨rfl,rfl⟩:=he;exact⟨_,key _ (by simp[binOp,Op.intCmp];rfl),by simp[Rd,std];rfl⟩
      cases he
     case lss=>
      split at he
      . rename_i hk;subst hk;simp only[aW,bM] at he;obtain⟨rfl,rfl⟩:=he;exact⟨_,key _ (by simp[binOp,Op.intCmp];rfl),by simp[Rd,std]⟩
      cases he
     case leq=>
      split at he
      . rename_i hk;subst hk;simp only[aW,bM] at he;obtain⟨rfl,rfl⟩:=he;exact⟨_,key _ (by simp[binOp,Op.intCmp];rfl),by simp[Rd,std]⟩
      cases he
     case gtr=>
      split at he
      . rename_i hk;subst hk;simp only[aW,bM] at he;obtain⟨rfl,rfl⟩:=he;exact⟨_,key _ (by simp[binOp,Op.intCmp];rfl),by simp[Rd,std]⟩
      cases he
     case geq=>
      split at he
      . rename_i hk;subst hk;simp only[aW,bM] at he;obtain⟨rfl,rfl⟩:=he;exact⟨_,key _ (by simp[binOp,Op.intCmp];rfl),by simp[Rd,std]⟩
      cases he
     all_goals (split at he<;>cases he)
    | _=>simp[bin] at he
   | bool a=>
    cases v2 with
    | bool b=>
     have hg:(eqGuard op xt x' y' (.bool a) (.bool b)).run P w = .ok () w:=by
      unfold eqGuard;cases op<;>simp
     simp only[bin] at he;split at he
     . rename_i ti ht;split at he
       . rename_i hk;have hu:=amG hT ht hk;split at he<;>simp only[aW,bM,reduceCtorEq] at he
         . obtain⟨rfl,rfl⟩:=he;exact⟨.bool (a==b),by simp[hg,binOp,run_equal_bool hu],rfl⟩
         obtain⟨rfl,rfl⟩:=he;exact⟨.bool (!(a==b)),by simp[hg,binOp,run_equal_bool hu],rfl⟩
       cases he
     cases he
    | _=>simp[bin] at he
   | string a=>
    cases v2 with
    | string b=>
     have hg:(eqGuard op xt x' y' (.string a) (.string b)).run P w = .ok () w:=by
      unfold eqGuard;cases op<;>simp
     cases op<;>simp only[bin,aW,bM,reduceCtorEq] at he
     . obtain⟨rfl,rfl⟩:=he;obtain⟨r1,r2⟩:IntKind.i64.min<=(a.size:Int)+b.size/\(a.size:Int)+b.size<=IntKind.i64.max:=hos _ (fQ.2 rfl);have r0:IntKind.i64.max=9223372036854775807:=rfl;have r3 : ¬ (9223372036854775807<(a.size:Int)+b.size):=ak;exact⟨.string (a++b),by simp[hg,binOp,Op.stringOp,r3],rfl⟩
     . obtain⟨rfl,rfl⟩:=he;exact⟨.bool (a.toList==b.toList),by simp[hg,binOp,Op.stringOp],rfl⟩
     obtain⟨rfl,rfl⟩:=he;exact⟨.bool (!(a.toList==b.toList)),by simp[hg,binOp,Op.stringOp],rfl⟩
    | _=>simp[bin] at he
   | _=>simp[bin] at he
  | _=>cases a<;>simp[bin] at he
 | _=>simp[bin] at he
end
end Go.Vx
end
section
namespace Go.Vx
section
variable {P:Program} {tt:TT} {h:Array Obj} {I:IS} {β:Nat->Option (Nat×Nat×Array Value)} {objs:List (Option Ob)} {ctr:Nat}
def Cells(T:D->Value->Prop)(cs:List D)(vs:Array Value):Prop :=
 cs.length=vs.size/\∀ (j:Nat) (d:D),cs[j]? = some d->∃ z,vs[j]? = some z/\z.oneCell'=true/\T d z
theorem amU{zs:List Value}(h1:zs.all (·.oneCell')=true):Cells (Rd h I β objs ctr) (zs.map Es) zs.toArray:=by
 refine⟨bH,λj d hj=>?_⟩;rw[qJ] at hj;cases hz:zs[j]? with
 | none=>rw[hz] at hj;cases hj
 | some z=>
  rw[hz] at hj;simp only[iP,aW] at hj;subst hj;exact⟨z,by simpa using hz,aai.1 h1 z (VE hz),acO z⟩
theorem foldl_set(vs:List Value) : ∀ (off k:Nat) (cs:Array Value),((vs.zipIdx k).foldl (λcs (x:Value×Nat)=>cs.setIfInBounds (off+x.2) x.1) cs).size=cs.size /\
  ∀ q,off+k+vs.length<=cs.size->((vs.zipIdx k).foldl (λcs (x:Value×Nat)=>cs.setIfInBounds (off+x.2) x.1) cs)[q]? = if off+k<=q/\q<off+k+vs.length then vs[q-(off+k)]? else cs[q]?:=by
 induction vs with
 | nil=>intro off k cs;exact⟨rfl,λq _=>by rw[if_neg (by simp only[List.length_nil];omega)];rfl⟩
 | cons v vs ih=>
  intro off k cs;simp only[List.zipIdx_cons,List.foldl_cons];obtain⟨i1,i2⟩:=ih off (k+1) (cs.setIfInBounds (off+k) v);refine⟨by rw[i1];simp,λq hq=>?_⟩;rw[i2 q (by simp at hq ⊢;omega)]
  by_cases h1:off+(k+1)<=q/\q<off+(k+1)+vs.length
  . rw[if_pos h1,if_pos yh];rw[show q-(off+k)=q-(off+(k+1))+1 by omega,rZ]
  rw[if_neg h1]
  by_cases h2:q=off+k
  . subst h2;have hlt:off+k<cs.size:=by simp at hq;omega
    rw[if_pos bH];simp[hlt]
  rw[if_neg yh,Array.getElem?_setIfInBounds_ne (Ne.symm h2)]
theorem aaS{place:Nat->Option (Nat×Nat)}{tis:Nat->Option TI}(ρ:Operand->D)(v:Operand->Value) :
  ∀ (parts:List (Nat×Operand)),(∀ x∈parts,Rd h I β objs ctr (ρ x.2) (v x.2))->∀ (cs cs':List D) (vs:Array Value),Cells (Rd h I β objs ctr) cs vs ->
   LX place tis (parts.map λx=>(x.1,ρ x.2)) cs=some cs' ->
   ∃ vs',Instr.fill place vs (parts.map λx=>(x.1,v x.2))=some vs'/\Cells (Rd h I β objs ctr) cs' vs'
 | [],_,cs,cs',vs,hc,he=>by
  simp only[List.map_nil,LX,aW] at he;subst he;exact⟨vs,rfl,hc⟩
 | (i,x)::r,hx,cs,cs',vs,hc,he=>by
  simp only[EI,LX] at he;split at he
  . rename_i off size ti hp ht;split at he
    . rename_i ds hds;split at he
      . rename_i hcond;simp only[ig] at hcond;have h1:=dO hcond.1;have h2:=sw hcond.2;obtain⟨d1,d2,_,_,d5,d6⟩:=M5 (y:=v x) hds (hx (i,x) (iO ..));have hsz:(v x).cells.size=size:=ak;obtain⟨f1,f2⟩:=foldl_set (v x).cells.toList off 0 vs;have awT:(v x).cells.zipIdx.foldl (λcs (x:Value×Nat)=>cs.setIfInBounds (off+x.2) x.1) vs=((v x).cells.toList.zipIdx 0).foldl (λcs (x:Value×Nat)=>cs.setIfInBounds (off+x.2) x.1) vs:=by
         rw[← Array.foldl_toList,Array.toList_zipIdx]
        have hnew:Cells (Rd h I β objs ctr) (oD cs off ds) ((v x).cells.zipIdx.foldl (λcs (x:Value×Nat)=>cs.setIfInBounds (off+x.2) x.1) vs):=by
         rw[awT];refine⟨by rw[f1,su _ _ _ ak,hc.1],λj d hj=>?_⟩;have hle:off+0+(v x).cells.toList.length<=vs.size:=by simp only[Ia];have:=hc.1;omega
         rw[f2 j hle];rw[F5 _ _ _ _ ak] at hj;split at hj
         . rename_i hin;rw[if_pos (by simp only[Ia];omega)];obtain⟨z,z1,z2,z3⟩:=d6 _ _ hj;exact⟨z,by simpa using z1,z2,z3⟩
         rename_i hout;rw[if_neg (by simp only[Ia];omega)];exact hc.2 j d hj
        obtain⟨vs',g1,g2⟩:=aaS ρ v r (λy hy=>hx y (gU _ hy)) _ cs' _ hnew he;refine⟨vs',?_,g2⟩;have hno:((v x).cells.size≠size||off+(v x).cells.size > vs.size)=false:=by
         have:=hc.1;simp[hsz];omega
        simp only[EI,Instr.fill,hp,hno,oL,if_false];exact g1
      cases he
    cases he
  cases he
theorem agS(cs:List D)(hp:0<cs.length) : ∀ (n k:Nat),(OD n cs)[k]? = if k<n*cs.length then cs[k%cs.length]? else none
 | 0,k=>by simp[OD]
 | n+1,k=>by
  simp only[OD];rcases mK k cs.length with hk|hk
  . rw[sj hk,if_pos (by rw[kr];omega),VO hk]
  rw[uZ hk,agS cs hp n];have e1:(k-cs.length)%cs.length=k%cs.length:=by
   conv=>rhs;rw[← Nat.sub_add_cancel hk,Nat.add_mod_right]
  have e2:(k-cs.length<n*cs.length)↔(k<(n+1)*cs.length):=by rw[kr];omega
  simp only[e1,e2]
theorem ZV(n:Nat)(cs:List D):(OD n cs).length=n*cs.length:=by
 induction n with
 | zero=>simp[OD]
 | succ n ih=>simp[OD,ih,kr];omega
theorem amV{zd:List D}{z:Array Value}(hz:Cells (Rd h I β objs ctr) zd z)(n:Nat) :
  Cells (Rd h I β objs ctr) (OD n zd) ((Array.range (n*zd.length)).map (z[· % z.size]!)):=by
 refine⟨by simp[ZV],λj d hj=>?_⟩;have hjl:j<n*zd.length:=by
  have:=(gZ.1 hj).1
  rwa [ZV] at this
 have hp:0<zd.length:=Nat.pos_of_ne_zero (λh0=>by rw[h0] at hjl;simp at hjl);rw[agS _ hp,if_pos hjl] at hj;obtain⟨q,q1,q2,q3⟩:=hz.2 _ _ hj;refine⟨q,?_,q2,q3⟩;rw[hz.1] at q1;have hq:z[j%z.size]! = q:=by rw[getElem!_def,q1]
 simp only[Array.getElem?_map,Array.getElem?_range,hjl,if_true,iP,hq]
theorem rows_ok{P:Program}{sz:Nat}{T:D->Value->Prop}(hT:T=Rd h I β objs ctr) : ∀ (n:Nat) (cs:List D) (at_:Int) (i:Nat) (j:Nat),i<n->j<sz->∀ (z:Value),
  (∀ d,cs[i*sz+j]? = some d->T d z)->i*sz+j<cs.length->T (aeH (std P) sz n cs at_ (at_+i) j) z
 | 0,_,_,_,_,hi,_,_,_,_=>by omega
 | 1,cs,at_,i,j,hi,hj,z,hz,hl=>by
  obtain rfl:i=0:=ak;simp only[aeH];simp only[Nat.zero_mul,LW] at hz hl;exact hz _ (by simp[List.getD,iW hl])
 | n+2,cs,at_,i,j,hi,hj,z,hz,hl=>by
  simp only[aeH];subst hT;cases i with
  | zero=>
   simp only[Nat.zero_mul,LW] at hz hl;refine qP _ _ _ _ (λ_=>hz _ (by simp[List.getD,iW hl])) (λhf=>by simp[std] at hf)
  | succ i=>
   refine qP _ _ _ _ (λht=>by simp[std] at ht;omega) (λ_=>?_);have e:at_+((i+1:Nat):Int)=at_+1+(i:Int):=ak;rw[e];have e2:(i+1)*sz+j=sz+(i*sz+j):=by rw[kr];omega
   refine rows_ok rfl (n+1) (cs.drop sz) (at_+1) i j ak hj z (λd hd=>hz d ?_) ?_
   . rw[e2,← Xu];exact hd
   rw[zZ];omega
theorem TA{place:Nat->Option (Nat×Nat)}{tis:Nat->Option TI} : ∀ (parts:List (Nat×D)) (cs cs':List D),LX place tis parts cs=some cs'->cs'.length=cs.length
 | [],cs,cs',he=>by
  simp only[LX,aW] at he;rw[he]
 | (i,x)::r,cs,cs',he=>by
  simp only[LX] at he;split at he
  . split at he
    . split at he
      . rename_i hcond;simp only[ig] at hcond;have h1:=dO hcond.1;have h2:=sw hcond.2;rw[TA r _ _ he,su _ _ _ ak]
      cases he
    cases he
  cases he
theorem ap8{α β:Type}{P:Program}{w:World}(f:α->Sem β)(g:α->β)(xs:Array α)(hf : ∀ x∈xs,(f x).run P w = .ok (g x) w):(xs.mapM f).run P w = .ok (xs.map g) w:=by
 have hl : ∀ l:List α,(∀ x∈l,(f x).run P w = .ok (g x) w)->(l.mapM f).run P w = .ok (l.map g) w:=by
  intro l
  induction l with
  | nil=>intro _;simp
  | cons x l ih=>
   intro h;simp only[List.mapM_cons,Sem.run_bind,h x (iO ..),Result.andThen_ok,ih (λy hy=>h y (gU _ hy)),Sem.run_pure,EI]
 rw[Array.mapM_eq_mapM_toList,Sem.run_map,hl xs.toList (λx hx=>hf x (by simpa using hx))];exact congrArg (λq=>Result.ok q w) (Array.ext' bH)
end
end Go.Vx
end
