/- Loads, stores and choices: each step of the evaluator is a step of the Go model. -/
import Derived.Test.YtmpgicplgjmjkaaGreatDoorVxEq
import Derived.Laws.AppendOwn
set_option linter.all false
section
namespace Go.Vx
section
variable {P:Program} {tt:TT} {h:Array Obj} {I:IS} {β:Nat->Option (Nat×Nat×Array Value)} {objs:List (Option Ob)} {ctr:Nat}
theorem qP(b:Bool) : ∀ (d1 d2:D) (y:Value),(b=true->Rd h I β objs ctr d1 y)->(b=false->Rd h I β objs ctr d2 y)->Rd h I β objs ctr (nP (std P) b d1 d2) y:=by
 intro d1
 induction d1 with
 | v x=>
  intro d2 y h1 h2;cases d2 with
  | v x'=>
   cases x<;>cases x'<;>simp only[nP]<;>try (first|trivial|exact⟨h1,h2⟩)
   . cases b
     . simpa[std] using h2 rfl
     simpa[std] using h1 rfl
   . split
     . rename_i hk;subst hk;cases b
       . simpa[std] using h2 rfl
       simpa[std] using h1 rfl
     trivial
   cases b
   . simpa[std] using h2 rfl
   simpa[std] using h1 rfl
  | _=>cases x<;>simp only[nP]<;>first|trivial|exact⟨h1,h2⟩
 | dX=>
  intro d2 y h1 h2;cases d2<;>simp only[nP]<;>try (first|trivial|exact⟨h1,h2⟩)
  cases b
  . exact h2 rfl
  exact h1 rfl
 | sl sz n t f ih=>
  intro d2 y h1 h2;cases d2 with
  | sl sz' n' t' f'=>
   simp only[nP];split
   . rename_i hs;have hs:=dO hs;subst hs;cases b
     . obtain⟨a,len,cap,rfl,x1,x2,x3,x4⟩:=h2 rfl;refine⟨a,len,cap,rfl,by simpa[std] using x1,x2,by simpa[std] using x3,λhp=>?_⟩;obtain⟨bb,o,c,e,fr,z1,z2,z3,z4⟩:=x4 hp;refine⟨bb,o,c,e,fr,z1,z2,z3,λi hi j hj=>?_⟩;obtain⟨z,q1,q2,q3⟩:=z4 i hi j hj;exact⟨z,q1,q2,ih _ _ _ _ (λhb=>by cases hb) (λ_=>q3)⟩
     obtain⟨a,len,cap,rfl,x1,x2,x3,x4⟩:=h1 rfl;refine⟨a,len,cap,rfl,by simpa[std] using x1,x2,by simpa[std] using x3,λhp=>?_⟩;obtain⟨bb,o,c,e,fr,z1,z2,z3,z4⟩:=x4 hp;refine⟨bb,o,c,e,fr,z1,z2,z3,λi hi j hj=>?_⟩;obtain⟨z,q1,q2,q3⟩:=z4 i hi j hj;exact⟨z,q1,q2,ih _ _ _ _ (λ_=>q3) (λhb=>by cases hb)⟩
   trivial
  | _=>simp only[nP];first|trivial|exact⟨h1,h2⟩
 | agg k c ih=>
  intro d2 y h1 h2;cases d2 with
  | agg k' c'=>
   simp only[nP];split
   . rename_i hs;have hs:=dO hs;subst hs;cases b
     . obtain⟨ys,rfl,x1,x2⟩:=h2 rfl;refine⟨ys,rfl,x1,λj hj=>?_⟩;obtain⟨z,q1,q2,q3⟩:=x2 j hj;exact⟨z,q1,q2,ih _ _ _ (λhb=>by cases hb) (λ_=>q3)⟩
     obtain⟨ys,rfl,x1,x2⟩:=h1 rfl;refine⟨ys,rfl,x1,λj hj=>?_⟩;obtain⟨z,q1,q2,q3⟩:=x2 j hj;exact⟨z,q1,q2,ih _ _ _ (λ_=>q3) (λhb=>by cases hb)⟩
   trivial
  | _=>simp only[nP];first|trivial|exact⟨h1,h2⟩
 | _=>
  intro d2 y h1 h2;cases d2<;>simp only[nP]<;>first|trivial|exact⟨h1,h2⟩
theorem akw : ∀ (d:D) (y:Value),apX d=true->Rd h I β objs ctr d y->y.oneCell'=true:=by
 intro d y hd hy;cases d<;>simp[apX] at hd
 case v x=>cases hy;exact hd
 case mp=>obtain⟨r,c,cl,rfl,_⟩:=hy;rfl
 case tab=>obtain⟨rfl,_⟩:=hy;rfl
 case Xy=>obtain⟨_,⟨q,rfl⟩,_⟩:=hy;rfl
 case dX=>cases hy;rfl
 case sl=>obtain⟨a,len,cap,rfl,_⟩:=hy;rfl
 case fq=>obtain⟨_,⟨q,rfl⟩,_⟩:=hy;rfl
 case rO=>obtain⟨_,⟨q,rfl⟩,_⟩:=hy;rfl
 case gX=>obtain⟨_,_,b,o,c,e,fr,rfl,_⟩:=hy;rfl
 case vec=>obtain⟨_,⟨a,l,c,rfl,_⟩,_⟩:=hy;rfl
 case fn=>obtain⟨ys,rfl,_⟩:=hy;rfl
 case II=>obtain⟨z,rfl,_⟩:=hy;rfl
theorem cells_one{y:Value}(hy:y.oneCell'=true):y.cells = #[y]:=by
 cases y<;>simp[Value.oneCell'] at hy<;>rfl
theorem yL : ∀ (k:Nat) (c:Nat->D) (j:Nat),(cellsOf k c)[j]? = if j<k then some (c j) else none
 | 0,c,j=>by simp[cellsOf]
 | k+1,c,j=>by
  cases j with
  | zero=>simp[cellsOf]
  | succ j=>simp only[cellsOf,rZ,yL k];simp
theorem abI(k:Nat)(c:Nat->D):(cellsOf k c).length=k:=by
 induction k generalizing c with
 | zero=>rfl
 | succ k ih=>simp[cellsOf,ih]
theorem M5{ti:TI}{d:D}{ds:List D}{y:Value}(hd:M6 ti d=some ds)(hy:Rd h I β objs ctr d y) :
  y.cells.size=ti.size/\ds.length=ti.size/\(ti.agg=false->y.oneCell'=true)/\(ti.agg=true->∃ ys,y = .agg ys) /\
  (∀ u∈y.cells.toList,u.oneCell'=true) /\
  ∀ (j:Nat) (dj:D),ds[j]? = some dj->∃ z,y.cells[j]? = some z/\z.oneCell'=true/\Rd h I β objs ctr dj z:=by
 cases d with
 | agg k c=>
  simp only[M6] at hd;split at hd
  . rename_i hc;simp only[ig] at hc;obtain⟨ha,hk⟩:=hc;have hk:=dO hk;cases hd;obtain⟨ys,rfl,x1,x2⟩:=hy;subst hk;refine⟨x1,abI _ _,λhf=>(by rw[ha] at hf;cases hf),λ_=>⟨ys,rfl⟩,?_,λj dj hj=>?_⟩
    . intro u hu;obtain⟨j,hj⟩:=Jz hu;have hjl:j<ys.size:=by
       have:=(gZ.1 hj).1;simpa[Value.cells] using this
      obtain⟨z,z1,z2,_⟩:=x2 j ak;have:ys[j]? = some u:=by simpa[Value.cells] using hj
      rw[this] at z1;cases z1;exact z2
    rw[yL] at hj;split at hj
    . rename_i hlt;cases hj;obtain⟨z,z1,z2,z3⟩:=x2 j hlt;exact⟨z,z1,z2,z3⟩
    cases hj
  cases hd
 | _=>
  simp only[M6] at hd;split at hd
  . rename_i hc;simp only[ig,Ij] at hc;obtain⟨⟨ha,ho⟩,hk⟩:=hc;have hk:=dO hk;cases hd;have h1:=akw _ _ ho hy;rw[cells_one h1];refine⟨by simp[hk],by simp[hk],λ_=>h1,λht=>by(rw[ha] at ht;cases ht),by simp[h1],λj dj hj=>?_⟩;cases j with
    | zero=>simp at hj;subst hj;exact⟨y,bH,h1,hy⟩
    | succ j=>simp at hj
  cases hd
theorem su : ∀ (cs:List D) (j:Nat) (ds:List D),j+ds.length<=cs.length->(oD cs j ds).length=cs.length
 | cs,j,[],_=>by cases cs<;>cases j<;>simp[oD]
 | [],j,d::ds,h=>by simp at h
 | c::cs,0,d::ds,h=>by simp only[oD,tX];rw[su cs 0 ds (by simp at h ⊢;omega)]
 | c::cs,j+1,d::ds,h=>by simp only[oD,tX];rw[su cs j (d::ds) (by simp at h ⊢;omega)]
theorem F5 : ∀ (cs:List D) (j:Nat) (ds:List D) (k:Nat),j+ds.length<=cs.length ->
  (oD cs j ds)[k]? = if j<=k/\k<j+ds.length then ds[k-j]? else cs[k]?
 | cs,j,[],k,_=>by
  have : ¬ (j<=k/\k<j+([]:List D).length):=by simp only[List.length_nil];omega
  rw[if_neg this];cases cs<;>cases j<;>simp[oD]
 | [],j,d::ds,k,h=>by simp at h
 | c::cs,0,d::ds,k,h=>by
  cases k with
  | zero=>simp[oD]
  | succ k=>
   simp only[oD,rZ];rw[F5 cs 0 ds k (by simp at h ⊢;omega)];simp
 | c::cs,j+1,d::ds,k,h=>by
  cases k with
  | zero=>simp[oD]
  | succ k=>
   simp only[oD,rZ];rw[F5 cs j (d::ds) k (by simp at h ⊢;omega)];have e:(j+1<=k+1/\k+1<j+1+(d::ds).length)↔(j<=k/\k<j+(d::ds).length):=ak;simp only[e];congr 2;omega
theorem OA(hT:jG P tt){t:TypeId}{ti:TI}(ht:iB tt t=some ti){w:World}{b base:Nat}{c:Array Value}{e:TypeId}{fr:Nat×Nat}(hb:w.heap[b]? = some (.cells c e fr))
  {len j:Nat} {cell:Nat->D} {d:D} (hl:qO ti len j cell=some d)
  (hc : ∀ jj,jj<len->∃ z,c[base+jj]? = some z/\z.oneCell'=true/\Rd h I β objs ctr (cell jj) z) :
  ∃ y,(loadVar t ⟨b,base+j,none⟩).run P w = .ok y w/\Rd h I β objs ctr d y:=by
 unfold qO at hl;split at hl
 . rename_i ha;split at hl
   . rename_i hle;have hle:=sw hle;cases hl;have hcell : ∀ jj,jj<ti.size->w.cell? ((⟨b,base+j,none⟩:Addr).add jj)=some (c.getD (base+j+jj) undef):=by
      intro jj hjj;obtain⟨z,z1,_,_⟩:=hc (j+jj) ak;rw[Addr.add_lit,cell_of_row w b _ c e fr hb,aaM,rY,z1];rfl
     have hrun:=run_loadCells (P:=P) w ⟨b,base+j,none⟩ ti.size (λjj=>c.getD (base+j+jj) undef) hcell;refine⟨.agg ((List.range ti.size).map λjj=>c.getD (base+j+jj) undef).toArray,?_,_,rfl,bH,λjj hjj=>?_⟩
     . simp[loadVar,Ju hT ht,ha,jr hT ht,hrun]
     obtain⟨z,z1,z2,z3⟩:=hc (j+jj) ak;refine⟨z,?_,z2,z3⟩;have:c.getD (base+j+jj) undef=z:=by
      rw[aaM,rY,z1];rfl
     simp only[Jw,qJ,aey hjj,iP];rw[this]
   cases hl
 rename_i ha;split at hl
 . rename_i hle;have hle:=sw hle;cases hl;obtain⟨z,z1,z2,z3⟩:=hc j ak;refine⟨z,?_,z3⟩;have hcell:w.cell? ⟨b,base+j,none⟩=some z:=by rw[cell_of_row w b _ c e fr hb,z1]
   have hff:ti.agg=false:=by simpa using ha
   simp[loadVar,Ju hT ht,hff,hcell]
 cases hl
theorem setRow_other(w:World)(g k:Nat)(cs:Array Value)(hk:k≠g):(w.setRow g cs).heap[k]? = w.heap[k]?:=by
 simp[World.setRow,Array.getElem?_modify,Ne.symm hk]
theorem Ul(hT:jG P tt){t:TypeId}{ti:TI}(ht:iB tt t=some ti){w:World}{b base:Nat}{c:Array Value}{e:TypeId}(hb:w.heap[b]? = some (.cells c e (0,0)))
  {d:D} {ds:List D} {y:Value} (hd:M6 ti d=some ds) (hy:Rd h I β objs ctr d y) (hfit:base+ti.size<=c.size) :
  ∃ w' c',(storeVar t ⟨b,base,none⟩ y).run P w = .ok () w'/\w'.heap[b]? = some (.cells c' e (0,0))/\c'.size=c.size/\w'.heap.size=w.heap.size/\j3 w w' /\
   (∀ k,k≠b->w'.heap[k]? = w.heap[k]?) /\
   (∀ k,¬ (base<=k/\k<base+ti.size)->c'[k]? = c[k]?) /\
   ∀ (j:Nat) (dj:D),ds[j]? = some dj->∃ z,c'[base+j]? = some z/\z.oneCell'=true/\Rd h I β objs ctr dj z:=by
 obtain⟨h1,h2,_,_,h5,h6⟩:=M5 hd hy;have hrun:=run_storeCells_at P b base e y.cells.toList 0 c w hb (by simp[h1];omega) h5;have hsz:(c.toList.take (base+0)++y.cells.toList++c.toList.drop (base+0+y.cells.toList.length)).toArray.size=c.size:=by
  simp[h1];omega
 refine⟨_,_,?_,setRow_heap w b c _ e (0,0) hb,hsz,bH,⟨rfl,rfl⟩,λk hk=>setRow_other w b k _ hk,?_,?_⟩
 . simp[storeVar,jr hT ht,h1,hrun]
 . intro k hk;simp only[OB,Jw];rw[CP];rcases mK k base with hlt|hge
   . rw[sj yh,Xv hlt];simp
   rw[uZ yh];rw[uZ (by simp[h1];omega)];simp only[H9,Ia,h1,Xu];rw[Tt ak];rw[show base+ti.size+(k-base-ti.size)=k by omega];simp
 intro j dj hj;obtain⟨z,z1,z2,z3⟩:=h6 j dj hj;have hjl:j<ds.length:=(gZ.1 hj).1;refine⟨z,?_,z2,z3⟩;simp only[OB,Jw];rw[CP,uZ yh];simp only[H9,Ia];rw[Tt ak,sj (by simp[h1];omega)];rw[show base+j-base=j by omega];simpa using z1
end
section
variable {P:Program} {tt:TT} {B0:Nat} {h0:Array Obj} {I0 I:IS} {L:wU} {β:Nat->Option (Nat×Nat×Array Value)} {slots:List D} {objs:List (Option Ob)} {ctr:Nat} {a:Act} {w:World}
theorem ali(hT:jG P tt)(R:RM B0 h0 I0 L I β slots objs ctr a w){t:TypeId}{ti:TI}(ht:iB tt t=some ti){x d:D}{os:List bC}{y:Value}
  (he:yX (std P) objs ti x=some (d,os)) (hos : ∀ q∈os,q.run (std P)) (hy:Rd w.heap I β objs ctr x y) :
  ∃ z,(Instr.loadAt t y).run P w = .ok z w/\Rd w.heap I β objs ctr d z:=by
 cases x with
 | fq id g j=>
  simp only[yX] at he;split at he
  . rename_i g' cs ho;cases hl:qO ti cs.length j (λj=>cs.getD j .junk) with
    | none=>rw[hl] at he;cases he
    | some d'=>
     simp only[hl,iP,aW,bM] at he;obtain⟨rfl,rfl⟩:=he;have hg:g=g':=hos _ (fQ.2 rfl);subst hg;obtain⟨_,_,hx⟩:=hy;obtain⟨b,o,s,hb,rfl⟩:=hx _ ho;obtain⟨_,b',o',s',c,e,q1,q2,q3,_,q5,q6⟩:=R.ob id _ ho;rw[hb] at q1;cases q1;obtain⟨z,z1,z2⟩:=OA (h:=w.heap) (I:=I) (β:=β) (objs:=objs) (ctr:=ctr) hT ht (base:=o) q2 hl (λjj hjj=>by
      have:=q6 jj (cs.getD jj .junk) (by simp[List.getD,iW hjj]);exact this)
     exact⟨z,by simp[Instr.loadAt,Instr.sureAddr,z1],z2⟩
  cases he
 | rO id g sz i j=>
  simp only[yX] at he;split at he
  . rename_i g' sz' N t' f ho;split at he
    . rename_i hs;have hs:=dO hs;subst hs;cases hl:qO ti sz j (f i) with
      | none=>rw[hl] at he;cases he
      | some d'=>
       simp only[hl,iP,aW,bM] at he;obtain⟨rfl,rfl⟩:=he;have hg:g=g':=hos _ (fQ.2 rfl);subst hg;obtain⟨_,_,hx⟩:=hy;obtain⟨i0,i1,b,o,s,hb,rfl⟩:=hx _ _ _ ho;obtain⟨_,n0,hq⟩:=R.ob id _ ho;rcases hq with⟨q1,_⟩|⟨b',o',s',c,e,q1,q2,q3,_,q5,q6⟩
       . omega
       rw[hb] at q1;cases q1;obtain⟨z,z1,z2⟩:=OA (h:=w.heap) (I:=I) (β:=β) (objs:=objs) (ctr:=ctr) hT ht (base:=o+i.toNat*sz) q2 hl (λjj hjj=>by
        have:=q6 i.toNat ak jj hjj
        rwa [Jv i0] at this)
       exact⟨z,by simp[Instr.loadAt,Instr.sureAddr,z1],z2⟩
    cases he
  cases he
 | gX sz n f i j=>
  simp only[yX] at he;cases hl:qO ti sz j (f i) with
  | none=>rw[hl] at he;cases he
  | some d'=>
   simp only[hl,iP,aW,bM] at he;obtain⟨rfl,rfl⟩:=he;obtain⟨i0,i1,b,o,c,e,fr,rfl,hI,q2,q6⟩:=hy;obtain⟨z,z1,z2⟩:=OA (h:=w.heap) (I:=I) (β:=β) (objs:=objs) (ctr:=ctr) hT ht (base:=o+i.toNat*sz) q2 hl (λjj hjj=>by
    have:=q6 i.toNat ak jj hjj
    rwa [Jv i0] at this)
   exact⟨z,by simp[Instr.loadAt,Instr.sureAddr,z1],z2⟩
 | junk=>
  simp only[yX,aW,bM] at he;exact(hos (.prop False) (by rw[← he.2];exact fQ.2 rfl):False).elim
 | _=>simp[yX] at he
theorem apY(hT:jG P tt)(R:RM B0 h0 I0 L I β slots objs ctr a w){t:TypeId}{ti:TI}(ht:iB tt t=some ti){x1 x2 d:D}{u:List (Nat×Option Ob)}{os:List bC}{y1 y2:Value}
  (he:Vk (std P) objs ti x1 x2=some (d,u,os)) (hos : ∀ q∈os,q.run (std P)) (hy1:Rd w.heap I β objs ctr x1 y1) (hy2:Rd w.heap I β objs ctr x2 y2) :
  ∃ w',(Instr.storeAt t y1 y2).run P w = .ok () w'/\∀ y,Post B0 h0 I0 L I β objs ctr w (bX objs u) w' d y:=by
 unfold Vk at he;split at he
 . cases he
 rename_i ds hds;have hlen:ds.length=ti.size:=(M5 hds hy2).2.1;split at he
 . rename_i id g j;split at he
   . rename_i g' cs ho;split at he
     . rename_i hle;have hle:=sw hle;simp only[aW,bM] at he;obtain⟨rfl,rfl,rfl⟩:=he;have hg:g=g':=hos _ (fQ.2 rfl);subst hg;obtain⟨_,_,hx⟩:=hy1;obtain⟨b,o,s,hb,rfl⟩:=hx _ ho;obtain⟨_,b',o',s',c,e,q1,q2,q3,_,q5,q6⟩:=R.ob id _ ho;rw[hb] at q1;cases q1;obtain⟨w',c',z1,z2,z3,z4,zo,z5,z6,z7⟩:=Ul hT ht (base:=o+j) q2 hds hy2 (by have:=q3.1;omega);refine⟨w',by simp[Instr.storeAt,Instr.sureAddr,z1],λy=>?_⟩;refine R.write (o':=.box g (oD cs j ds)) ho rfl hb z5 z4 ⟨b,o,s,c',e,rfl,z2,⟨z3.trans q3.1,λk hk=>(z6 k (by rw[su _ _ _ hle] at hk;omega)).trans (q3.2 k (by rw[su _ _ _ hle] at hk;exact hk))⟩,by rw[su _ _ _ hle];exact q5,λk dk hk=>?_⟩ (λ_=>trivial);rw[F5 _ _ _ _ hle] at hk;split at hk
       . rename_i hin;obtain⟨z,r1,r2,r3⟩:=z7 _ _ hk;exact⟨z,by rw[show o+k=o+j+(k-j) by omega];exact r1,r2,r3⟩
       rename_i hout;obtain⟨z,r1,r2,r3⟩:=q6 _ _ hk;exact⟨z,by rw[z6 (o+k) ak];exact r1,r2,r3⟩
     cases he
   cases he
 . rename_i id g sz i j;split at he
   . rename_i g' sz' N tight f ho;split at he
     . rename_i hc;simp only[ig] at hc;have hs:=dO hc.1;have hle:=sw hc.2;subst hs;simp only[aW,bM] at he;obtain⟨rfl,rfl,rfl⟩:=he;have hg:g=g':=hos _ (fQ.2 rfl);subst hg;obtain⟨_,_,hx⟩:=hy1;obtain⟨i0,i1,b,o,s,hb,rfl⟩:=hx _ _ _ ho;obtain⟨_,n0,hq⟩:=R.ob id _ ho;rcases hq with⟨q1,_⟩|⟨b',o',s',c,e,q1,q2,q3,_,q5,q6⟩
       . omega
       rw[hb] at q1;cases q1;have hin : ∀ k:Nat,(k:Int)<N->k*sz+sz<=N.toNat*sz:=by
        intro k hk;have:k+1<=N.toNat:=ak
        calc k*sz+sz=(k+1)*sz:=by rw[kr,Tm]
         _<=N.toNat*sz:=oq _ this
       have hi2:=hin i.toNat ak;obtain⟨w',c',z1,z2,z3,z4,zo,z5,z6,z7⟩:=Ul hT ht (base:=o+i.toNat*sz+j) q2 hds hy2 ak;refine⟨w',by simp[Instr.storeAt,Instr.sureAddr,z1],λy=>?_⟩;refine R.write (o':=.arr g sz N tight (QB (std P) i j ds f)) ho ⟨rfl,rfl,rfl,rfl⟩ hb z5 z4 ⟨n0,.inr ⟨b,o,s,c',e,rfl,z2,ak,q5,λk hk jj hjj=>?_⟩⟩ (λ_=>trivial);have hk2:=hin k hk;obtain⟨z,r1,r2,r3⟩:=q6 k hk jj hjj
       by_cases hki:(k:Int)=i
       . have hkt:i.toNat=k:=ak
         by_cases apZ:j<=jj/\jj<j+ds.length
         . obtain⟨dj,hdj⟩ : ∃ dj,ds[jj-j]? = some dj:=⟨ds[jj-j]'ak,iW ak⟩
           obtain⟨z,r1,r2,r3⟩:=z7 _ _ hdj;refine⟨z,by rw[← hkt,show o+i.toNat*sz+jj=o+i.toNat*sz+j+(jj-j) by omega];exact r1,r2,?_⟩;have e1:Nat.ble j jj=true:=by simpa using apZ.1
           have e2:Nat.blt jj (j+ds.length)=true:=by simpa using apZ.2
           simp only[QB,e1,e2,Bool.and_self,if_true];refine qP _ _ _ _ (λ_=>?_) (λhf=>by simp[std,hki] at hf);rw[wI,hdj];exact r3
         refine⟨z,by rw[z6 _ (by rw[← hkt];omega)];exact r1,r2,?_⟩;have:(Nat.ble j jj&&Nat.blt jj (j+ds.length))=false:=by
          rw[Bool.and_eq_false_iff];rcases mK jj j with h|h
          . left;cases hb:Nat.ble j jj
            . rfl
            exact absurd (sw hb) ak
          right;cases hb:Nat.blt jj (j+ds.length)
          . rfl
          exact absurd (sw hb) ak
         simp only[QB,this,oL,if_false];exact r3
       have hne:k≠i.toNat:=ak;have hout : ¬ (o+i.toNat*sz+j<=o+k*sz+jj/\o+k*sz+jj<o+i.toNat*sz+j+ti.size):=by
        rcases mK k i.toNat with h|h
        . have:(k+1)*sz<=i.toNat*sz:=oq _ h;rw[kr,Tm] at this;omega
        have:(i.toNat+1)*sz<=k*sz:=oq _ ak;rw[kr,Tm] at this;omega
       refine⟨z,by rw[z6 _ hout];exact r1,r2,?_⟩;simp only[QB];split
       . exact qP _ _ _ _ (λht=>by simp[std] at ht;exact absurd ht hki) (λ_=>r3)
       exact r3
     cases he
   cases he
 cases he
theorem ap0(hT:jG P tt)(R:RM B0 h0 I0 L I β slots objs ctr a w){t:TypeId}{ti:TI}(ht:iB tt t=some ti){id g':Nat}{cs:List D}(ho:objs[id]? = some (some (.box g' cs))) :
  ∀ {x d:D} {os:List bC} {y:Value},Jt (std P) id g' cs ti x=some (d,os)->(∀ q∈os,q.run (std P))->Rd w.heap I β objs ctr x y ->
  ∃ z,(Instr.loadAt t y).run P w = .ok z w/\Rd w.heap I β objs ctr d z:=by
 intro x
 induction x with
 | fq id' g j=>
  intro d os y he hos hy;simp only[Jt] at he;split at he
  . rename_i hid;have hid:=dO hid;subst hid;exact ali hT R ht (by simp only[yX,ho];exact he) hos hy
  cases he
 | cnd b x e ih1 ih2=>
  intro d os y he hos hy;simp only[Jt] at he;split at he
  . rename_i d1 o1 d2 o2 e1 e2;simp only[aW,bM] at he;obtain⟨rfl,rfl⟩:=he;cases b with
    | true=>
     obtain⟨z,z1,z2⟩:=ih1 e1 (λq hq=>hos q (dW _ hq)) (hy.1 rfl);exact⟨z,z1,qP _ _ _ _ (λ_=>z2) (λh=>by cases h)⟩
    | false=>
     obtain⟨z,z1,z2⟩:=ih2 e2 (λq hq=>hos q (dR _ hq)) (hy.2 rfl);exact⟨z,z1,qP _ _ _ _ (λh=>by cases h) (λ_=>z2)⟩
  cases he
 | _=>intro d os y he;simp[Jt] at he
theorem aof{h:Array Obj}{d:D}{y:Value}(hy:Rd h I β objs ctr d y)(hos : ∀ q∈(X6 (std P) d).2,q.run (std P)):Rd h I β objs ctr (X6 (std P) d).1 y:=by
 cases d with
 | JZ b d=>exact hy.1 (hos _ (fQ.2 rfl))
 | _=>exact hy
theorem ap1(hT:jG P tt)(R:RM B0 h0 I0 L I β slots objs ctr a w){t:TypeId}{ti:TI}(ht:iB tt t=some ti){x d:D}{os:List bC}{y:Value}
  (he:ael (std P) objs ti x=some (d,os)) (hos : ∀ q∈os,q.run (std P)) (hy:Rd w.heap I β objs ctr x y) :
  ∃ z,(Instr.loadAt t y).run P w = .ok z w/\Rd w.heap I β objs ctr d z:=by
 unfold ael at he;split at he
 . rename_i g' cs ho;exact ap0 hT R ht ho he hos hy
 cases he
theorem Tv{p:Pr}{b:Bool} : ∀ (cs:List D) (j:Nat) (ds:List D),(xZ p b cs j ds).length=cs.length
 | cs,j,[]=>by cases cs<;>cases j<;>simp[xZ]
 | [],j,d::ds=>by cases j<;>simp[xZ]
 | c::cs,0,d::ds=>by simp only[xZ,tX];rw[Tv cs 0 ds]
 | c::cs,j+1,d::ds=>by simp only[xZ,tX];rw[Tv cs j (d::ds)]
theorem Tz{p:Pr}{b:Bool} : ∀ (cs:List D) (j:Nat) (ds:List D) (k:Nat) (d:D),(xZ p b cs j ds)[k]? = some d ->
  (j<=k/\k<j+ds.length/\∃ d1 c,ds[k-j]? = some d1/\cs[k]? = some c/\d=nP p b d1 c)\/(¬ (j<=k/\k<j+ds.length)/\cs[k]? = some d)
 | cs,j,[],k,d,h=>by
  refine .inr ⟨by simp only[List.length_nil];omega,?_⟩;cases cs<;>cases j<;>simpa[xZ] using h
 | [],j,d1::ds,k,d,h=>by cases j<;>simp[xZ] at h
 | c::cs,0,d1::ds,k,d,h=>by
  cases k with
  | zero=>
   simp only[xZ,lq,aW] at h;exact .inl ⟨ak,bH,d1,c,rfl,rfl,h.symm⟩
  | succ k=>
   simp only[xZ,rZ] at h;rcases Tz cs 0 ds k d h with⟨h1,h2,e1,e2,h3,h4,h5⟩|⟨h1,h2⟩
   . exact .inl ⟨ak,by simp only[tX];omega,e1,e2,by simpa using h3,by simpa using h4,h5⟩
   exact .inr ⟨by simp only[tX];omega,by simpa using h2⟩
 | c::cs,j+1,d1::ds,k,d,h=>by
  cases k with
  | zero=>
   simp only[xZ,lq,aW] at h;exact .inr ⟨ak,by simpa using h⟩
  | succ k=>
   simp only[xZ,rZ] at h;rcases Tz cs j (d1::ds) k d h with⟨h1,h2,e1,e2,h3,h4,h5⟩|⟨h1,h2⟩
   . exact .inl ⟨ak,ak,e1,e2,by rw[← h3];congr 1;omega,by simpa using h4,h5⟩
   exact .inr ⟨ak,by simpa using h2⟩
def afZ(jj:Nat):D->Prop
 | .fq _ _ j=>j=jj
 | .cnd b x e=>(b=true->afZ jj x)/\(b=false->afZ jj e)
 | _=>False
theorem asv{h:Array Obj}{id g' n jj:Nat}{ds:List D}{zs:Nat->Value}(hds : ∀ k d,ds[k]? = some d->Rd h I β objs ctr d (zs (jj+k))) :
  ∀ (x:D) (c:Bool) (cs cs':List D) (os:List bC),cs.length=n->Fe (std P) id g' ds n c x cs=some (cs',os)->(c=true->afZ jj x) ->
   (∀ k d,cs[k]? = some d->(c=true->¬ (jj<=k/\k<jj+ds.length))->Rd h I β objs ctr d (zs k)) ->
   cs'.length=n/\∀ k d,cs'[k]? = some d->Rd h I β objs ctr d (zs k):=by
 intro x
 induction x with
 | fq id' g j=>
  intro c cs cs' os hn he hat hin;simp only[Fe] at he;split at he
  . simp only[aW,bM] at he;obtain⟨rfl,rfl⟩:=he;refine⟨by rw[Tv,hn],λk d hk=>?_⟩;rcases Tz _ _ _ _ _ hk with⟨h1,h2,d1,c1,h3,h4,rfl⟩|⟨h1,h2⟩
    . refine qP _ _ _ _ (λhc=>?_) (λhc=>hin k c1 h4 (λhc'=>by rw[hc] at hc';cases hc'));have e:j=jj:=hat hc;subst e;have:=hds _ _ h3
      rwa [show j+(k-j)=k by omega] at this
    exact hin k d h2 (λhc=>by have e:j=jj:=hat hc;subst e;exact h1)
  cases he
 | cnd b x e ih1 ih2=>
  intro c cs cs' os hn he hat hin;cases x<;>simp only[Fe] at he<;>try (cases he;done)
  rename_i id' g j;split at he
  . split at he
    . rename_i r o2 e2;simp only[aW,bM] at he;obtain⟨rfl,rfl⟩:=he;refine ih2 _ _ _ _ (by rw[Tv,hn]) e2 (λhc=>?_) (λk d hk hout=>?_)
      . simp only[std,ig,Ij] at hc;exact(hat hc.1).2 hc.2
      rcases Tz _ _ _ _ _ hk with⟨h1,h2,d1,c1,h3,h4,rfl⟩|⟨h1,h2⟩
      . refine qP _ _ _ _ (λhc=>?_) (λhc=>hin k c1 h4 (λhc'=>?_))
        . simp only[std,ig] at hc;have e:j=jj:=(hat hc.1).1 hc.2;subst e;have:=hds _ _ h3
          rwa [show j+(k-j)=k by omega] at this
        refine hout ?_;simp only[std] at hc ⊢;rw[hc'] at hc ⊢;simp only[Bool.true_and] at hc ⊢;rw[hc];rfl
      refine hin k d h2 (λhc=>?_);cases hb:b with
      | true=>have e:j=jj:=(hat hc).1 hb;subst e;exact h1
      | false=>exact hout (by simp[std,hc,hb])
    cases he
  cases he
 | _=>intro c cs cs' os hn he;simp[Fe] at he
theorem ap2{h:Array Obj}{id g' n jj:Nat}{ds:List D}{zs:Nat->Value}(hds : ∀ k d,ds[k]? = some d->Rd h I β objs ctr d (zs (jj+k)))
  {x:D} {cs cs':List D} {os:List bC} (hn:cs.length=n) (he:aaK (std P) id g' ds n x cs=some (cs',os)) (hat:afZ jj x)
  (hin : ∀ k d,cs[k]? = some d->¬ (jj<=k/\k<jj+ds.length)->Rd h I β objs ctr d (zs k)) :
  cs'.length=n/\∀ k d,cs'[k]? = some d->Rd h I β objs ctr d (zs k):=by
 unfold aaK at he;split at he
 . rename_i b id' g j e;refine asv (P:=P) (id:=id) (g':=g') hds (.cnd b (.fq id' g j) e) true cs cs' os hn ?_ (λ_=>hat) (λk d hk ho=>hin k d hk (ho rfl));simp only[Fe];simp only[std,Bool.true_and] at he ⊢;exact he
 cases he
theorem asw{id g' n:Nat}{g0:List D}(ho:objs[id]? = some (some (.box g' g0))){ds:List D}{b o:Nat}{s:Array Value}(hb:β id=some (b,o,s)){h:Array Obj} :
  ∀ (x:D) (c:Bool) (cs cs':List D) (os:List bC) (y:Value),Fe (std P) id g' ds n c x cs=some (cs',os)->(∀ q∈os,q.run (std P))->Rd h I β objs ctr x y ->
   ∃ jj,afZ jj x/\jj+ds.length<=n/\y = .pointer (some ⟨b,o+jj,none⟩):=by
 intro x
 induction x with
 | fq id' g j=>
  intro c cs cs' os y he hos hy;simp only[Fe] at he;split at he
  . rename_i hc;simp only[ig] at hc;have hid:=dO hc.1;subst hid;simp only[aW,bM] at he;obtain⟨rfl,rfl⟩:=he;have hg:g=g':=hos _ (fQ.2 rfl);subst hg;obtain⟨_,_,hx⟩:=hy;obtain⟨b',o',s',hb',rfl⟩:=hx _ ho;rw[hb] at hb';cases hb';exact⟨j,rfl,sw hc.2,rfl⟩
  cases he
 | cnd b' x e ih1 ih2=>
  intro c cs cs' os y he hos hy;cases x<;>simp only[Fe] at he<;>try (cases he;done)
  rename_i id' g j;split at he
  . rename_i hc;simp only[ig] at hc;have hid:=dO hc.1;subst hid;split at he
    . rename_i r o2 e2;simp only[aW,bM] at he;obtain⟨rfl,rfl⟩:=he;have hg:g=g':=hos _ (iO ..);subst hg;cases hb2:b' with
      | true=>
       obtain⟨_,_,hx⟩:=hy.1 hb2;obtain⟨b'',o',s',hb',rfl⟩:=hx _ ho;rw[hb] at hb';cases hb';exact⟨j,⟨λ_=>rfl,λh=>by cases h⟩,sw hc.2,rfl⟩
      | false=>
       obtain⟨jj,h1,h2,h3⟩:=ih2 _ _ _ _ _ e2 (λq hq=>hos q (gU _ hq)) (hy.2 hb2);exact⟨jj,⟨λh=>(by cases h),λ_=>h1⟩,h2,h3⟩
    cases he
  cases he
 | _=>intro c cs cs' os y he;simp[Fe] at he
theorem aou(hT:jG P tt)(R:RM B0 h0 I0 L I β slots objs ctr a w){t:TypeId}{ti:TI}(ht:iB tt t=some ti){x1 x2 d:D}{u:List (Nat×Option Ob)}{os:List bC}{y1 y2:Value}
  (he:ZJ (std P) objs ti x1 x2=some (d,u,os)) (hos : ∀ q∈os,q.run (std P)) (hy1:Rd w.heap I β objs ctr x1 y1) (hy2:Rd w.heap I β objs ctr x2 y2) :
  ∃ w',(Instr.storeAt t y1 y2).run P w = .ok () w'/\∀ y,Post B0 h0 I0 L I β objs ctr w (bX objs u) w' d y:=by
 unfold ZJ at he;split at he
 . rename_i ds g' cs hds ho;split at he
   . rename_i cs' os2 hp;simp only[aW,bM] at he;obtain⟨rfl,rfl,rfl⟩:=he;have hlen:ds.length=ti.size:=(M5 hds hy2).2.1;generalize hid:FZ x1=id at *;obtain⟨_,b,o,s,c,e,q1,q2,q3,_,q5,q6⟩:=R.ob id _ ho;obtain⟨jj,hat,hle,rfl⟩ : ∃ jj,afZ jj x1/\jj+ds.length<=cs.length/\y1 = .pointer (some ⟨b,o+jj,none⟩):=by
      have hp2:=hp;unfold aaK at hp2;split at hp2
      . rename_i bb id' g j e';refine asw (P:=P) (n:=cs.length) (ds:=ds) ho q1 (.cnd bb (.fq id' g j) e') true cs cs' os2 y1 ?_ hos hy1;simp only[Fe];simp only[std,Bool.true_and] at hp2 ⊢;exact hp2
      cases hp2
     obtain⟨w',c',z1,z2,z3,z4,zo,z5,z6,z7⟩:=Ul hT ht (base:=o+jj) q2 hds hy2 (by have:=q3.1;omega);have hz : ∀ k,k<cs.length->∃ z,c'[o+k]? = some z/\z.oneCell'=true/\(∀ d1,jj<=k->ds[k-jj]? = some d1->Rd w.heap I β objs ctr d1 z)/\(∀ c1,¬ (jj<=k/\k<jj+ds.length)->cs[k]? = some c1->Rd w.heap I β objs ctr c1 z):=by
      intro k hk
      by_cases hin:jj<=k/\k<jj+ds.length
      . obtain⟨z,r1,r2,r3⟩:=z7 _ _ (iW (show k-jj<ds.length by omega));refine⟨z,by rw[show o+k=o+jj+(k-jj) by omega];exact r1,r2,λd1 _ hd=>?_,λc1 h=>absurd hin h⟩;rw[iW ak] at hd;cases hd;exact r3
      obtain⟨z,r1,r2,r3⟩:=q6 _ _ (iW hk);refine⟨z,by rw[z6 (o+k) ak];exact r1,r2,λd1 hj hd=>?_,λc1 _ hc=>?_⟩
      . have:=(gZ.1 hd).1;omega
      rw[iW hk] at hc;cases hc;exact r3
     obtain⟨l1,l2⟩:=ap2 (P:=P) (h:=w.heap) (I:=I) (β:=β) (objs:=objs) (ctr:=ctr) (zs:=λk=>(c'[o+k]?).getD undef) (jj:=jj) (λk d1 hk=>by
      have hkl:=(gZ.1 hk).1;obtain⟨z,r1,r2,r3,r4⟩:=hz (jj+k) ak;simp only[r1,Option.getD_some];exact r3 d1 ak (by rw[show jj+k-jj=k by omega];exact hk)) rfl hp hat (λk c1 hk hout=>by
      have hkl:=(gZ.1 hk).1;obtain⟨z,r1,r2,r3,r4⟩:=hz k hkl;simp only[r1,Option.getD_some];exact r4 c1 hout hk)
     refine⟨w',by simp[Instr.storeAt,Instr.sureAddr,z1],λy=>?_⟩;refine R.write (o':=.box g' cs') ho rfl q1 z5 z4 ⟨b,o,s,c',e,rfl,z2,⟨z3.trans q3.1,λk hk=>(z6 k (by rw[l1] at hk;omega)).trans (q3.2 k (by rw[l1] at hk;exact hk))⟩,by rw[l1];exact q5,λk dk hk=>?_⟩ (λ_=>trivial);have hkl:k<cs.length:=by rw[← l1];exact(gZ.1 hk).1
     obtain⟨z,r1,r2,r3,r4⟩:=hz k hkl;have:=l2 k dk hk;simp only[r1,Option.getD_some] at this;exact⟨z,r1,r2,this⟩
   cases he
 cases he
end
end Go.Vx
end
section
namespace Go.Vx
section
variable {P:Program} {tt:TT} {h:Array Obj} {I:IS} {β:Nat->Option (Nat×Nat×Array Value)} {objs:List (Option Ob)} {ctr:Nat}
theorem ajH{c:Array Value}{o len sz:Nat}{T:Nat->Nat->Value->Prop}(hc : ∀ i:Nat,i<len->∀ j,j<sz->∃ z,c[o+i*sz+j]? = some z/\z.oneCell'=true/\T i j z) :
  ∃ news:List Value,news.length=len*sz/\(∀ (k:Nat) (u:Value),news[k]? = some u->c[o+k]? = some u)/\(∀ u∈news,u.oneCell'=true) /\
   ∀ i:Nat,i<len->∀ j,j<sz->∃ z,news[i*sz+j]? = some z/\z.oneCell'=true/\T i j z:=by
 have hin : ∀ i j,i<len->j<sz->i*sz+j<len*sz:=by
  intro i j hi hj;have:(i+1)*sz<=len*sz:=oq _ hi;rw[kr,Tm] at this;omega
 have hk : ∀ k,k<len*sz->∃ z,c[o+k]? = some z/\z.oneCell'=true:=by
  intro k hk;have hsz:0<sz:=Nat.pos_of_ne_zero (λh0=>by subst h0;simp at hk);obtain⟨z,z1,z2,_⟩:=hc (k/sz) ((Nat.div_lt_iff_lt_mul hsz).2 hk) (k%sz) (Nat.mod_lt _ hsz);have e:o+k/sz*sz+k%sz=o+k:=by rw[rY,Nat.mul_comm (k/sz) sz,Nat.div_add_mod]
  exact⟨z,by rw[← e];exact z1,z2⟩
 have hget : ∀ k,k<len*sz->((List.range (len*sz)).map λk=>c.getD (o+k) undef)[k]? = c[o+k]?:=by
  intro k hkl;obtain⟨z,z1,_⟩:=hk k hkl;rw[qJ,aey hkl,z1];simp[z1]
 refine⟨(List.range (len*sz)).map λk=>c.getD (o+k) undef,bH,λk u hu=>?_,λu hu=>?_,λi hi j hj=>?_⟩
 . have hkl:k<len*sz:=by have:=(gZ.1 hu).1;simpa using this
   rw[← hget k hkl];exact hu
 . obtain⟨k,hku⟩:=Jz hu;have hkl:k<len*sz:=by have:=(gZ.1 hku).1;simpa using this
   obtain⟨z,z1,z2⟩:=hk k hkl;rw[hget k hkl,z1] at hku;cases hku;exact z2
 obtain⟨z,z1,z2,z3⟩:=hc i hi j hj;exact⟨z,by rw[hget _ (hin i j hi hj),← rY];exact z1,z2,z3⟩
theorem Vq{w:World}{b o len cap sz:Nat}{c:Array Value}{e:TypeId}{fr:Nat×Nat}(hb:w.heap[b]? = some (.cells c e fr)){news:List Value}(hl:news.length=len*sz)
  (hn : ∀ (k:Nat) (u:Value),news[k]? = some u->c[o+k]? = some u) (n:Nat) (hnl:n<=len) :
  (Builtin.firstCells sz n (.slice (some ⟨b,o,none⟩) len cap)).run P w = .ok (news.take (n*sz)).toArray w:=by
 refine run_firstCells_some (P:=P) w sz n ⟨b,o,none⟩ len cap (news.take (n*sz)) ?_ ?_
 . rw[H9,hl];exact Tt (oq _ hnl)
 intro j v hj;rw[List.getElem?_take] at hj;split at hj
 . rw[Addr.add_lit,cell_of_row w b _ c e fr hb];exact hn _ _ hj
 cases hj
theorem yc(w:World)(sz:Nat)(a:Option Addr)(len cap:Nat):(Builtin.firstCells sz 0 (.slice a len cap)).run P w = .ok #[] w:=by
 cases a with
 | none=>simp[Builtin.firstCells]
 | some b=>simp[Builtin.firstCells,loadCells,loadCellsFrom]
structure Src (P:Program) (T:D->Value->Prop) (hp:Array Obj) (sz:Nat) (m:Int) (f:Int->Nat->D) (y:Value) (mN:Nat) (news:List Value):Prop where
 eq:(mN:Int)=m
 lenOf : ∀ w:World,(Builtin.lenOf y).run P w = .ok mN w
 len:news.length=mN*sz
 one : ∀ u∈news,u.oneCell'=true
 first : ∀ w:World,w.heap=hp->∀ n,n<=mN->(Builtin.firstCells sz n y).run P w = .ok (news.take (n*sz)).toArray w
 cell : ∀ i:Nat,i<mN->∀ j,j<sz->∃ z,news[i*sz+j]? = some z/\z.oneCell'=true/\T (f i j) z
section
variable {B0:Nat} {h0:Array Obj} {I0:IS} {L:wU} {slots:List D} {a:Act} {w:World}
theorem src_ok(R:RM B0 h0 I0 L I β slots objs ctr a w){sz:Nat}{x:D}{m:Int}{f:Int->Nat->D}{os:List bC}{y:Value}
  (he:zM (std P) objs sz x=some (m,f,os)) (hos : ∀ q∈os,q.run (std P)) (hy:Rd w.heap I β objs ctr x y) :
  ∃ mN news,Src P (Rd w.heap I β objs ctr) w.heap sz m f y mN news:=by
 cases x with
 | dX=>
  simp only[zM,aW,bM] at he;obtain⟨rfl,rfl,rfl⟩:=he;cases hy;refine⟨0,[],rfl,λ_=>by simp[Builtin.lenOf],bH,bH,λw' _ n hn=>?_,λi hi=>by omega⟩;obtain rfl:n=0:=ak;simp[yc]
 | sl sz' n t g=>
  simp only[zM] at he;split at he
  . rename_i hs;have hs:=dO hs;subst hs;simp only[aW,bM] at he;obtain⟨rfl,rfl,rfl⟩:=he;obtain⟨ad,len,cap,rfl,x1,x2,x3,x4⟩:=hy;rcases EM len with hl|hl
    . subst hl;refine⟨0,[],x1,λ_=>by simp[Builtin.lenOf],bH,bH,λw' _ n hn=>?_,λi hi=>by omega⟩;obtain rfl:n=0:=ak;simp[yc]
    obtain⟨b,o,c,e,fr,rfl,_,hb,hc⟩:=x4 hl;obtain⟨news,n1,n2,n3,n4⟩:=ajH hc;exact⟨len,news,x1,λ_=>by simp[Builtin.lenOf],n1,n3,λw' hw n hn=>Vq (by rw[hw];exact hb) n1 n2 n hn,n4⟩
  cases he
 | vec id g sz' off n=>
  simp only[zM] at he;split at he
  . rename_i g' Fg N t f' ho;split at he
    . rename_i hc;simp only[ig] at hc;have e1:=dO hc.1;have e2:=dO hc.2;subst e1;subst e2;simp only[aW,bM] at he;obtain⟨rfl,rfl,rfl⟩:=he;have hg:g=g':=hos _ (fQ.2 rfl);subst hg;obtain⟨_,_,hx⟩:=hy;obtain⟨i0,i1,i2,ad,len,cap,rfl,x1,x2,x3,x4⟩:=hx _ _ _ ho;rcases EM len with hl|hl
      . subst hl;refine⟨0,[],x1,λ_=>by simp[Builtin.lenOf],bH,bH,λw' _ n hn=>?_,λi hi=>by omega⟩;obtain rfl:n=0:=ak;simp[yc]
      obtain⟨b,o,s,hb,rfl,_⟩:=x4 ak;obtain⟨_,n0,hq⟩:=R.ob id _ ho;rcases hq with⟨q1,_⟩|⟨b',o',s',c,e,q1,q2,q3,_,q5,q6⟩
      . omega
      rw[hb] at q1;cases q1;obtain⟨news,n1,n2,n3,n4⟩:=ajH (c:=c) (o:=o+off.toNat*sz) (len:=len) (sz:=sz) (T:=λi j z=>Rd w.heap I β objs ctr (f' (off+i) j) z) (λi hi j hj=>by
       obtain⟨z,z1,z2,z3⟩:=q6 (off.toNat+i) ak j hj;refine⟨z,by rw[← z1];congr 1;rw[kr];omega,z2,?_⟩;have:((off.toNat+i:Nat):Int)=off+i:=ak;rw[this] at z3;exact z3)
      exact⟨len,news,x1,λ_=>by simp[Builtin.lenOf],n1,n3,λw' hw n hn=>Vq (by rw[hw];exact q2) n1 n2 n hn,n4⟩
    cases he
  cases he
 | v x=>
  cases x<;>simp only[zM] at he<;>try cases he
  rename_i s;split at he
  . rename_i hs;have hs:=dO hs;subst hs;simp only[aW,bM] at he;obtain⟨rfl,rfl,rfl⟩:=he;cases hy;refine⟨s.size,s.data.toList.map λb=>.int .u8 b.toNat,by simp[std],λ_=>by simp[Builtin.lenOf],bH,by simp[Value.oneCell'],λw' _ n hn=>?_,λi hi j hj=>?_⟩
    . simp only[Builtin.firstCells,Sem.run_pure,Nat.mul_one];congr 1;apply Array.ext';simp
    obtain rfl:j=0:=ak;have hi':i<s.data.toList.length:=by simpa using hi
    refine⟨.int .u8 (s.data.toList[i]'hi').toNat,?_,rfl,?_⟩
    . simp only[Nat.mul_one,OB,qJ,iW hi',iP]
    show _=_;have e1:s.data[i]? = some (s.data[i]'(by simpa using hi')):=ahA (by simpa using hi');simp[std,List.getD,e1]
  cases he
 | _=>simp[zM] at he
end
theorem ap3(hT:jG P tt){u:TypeId}(hu:Xz tt u=true):(∃ e,P.underlying u=some (.slice e))\/P.underlying u=some .string:=by
 unfold Xz at hu;split at hu
 . rename_i ti ht;split at hu
   . rename_i e hk;exact .inl ⟨_,jV hT ht hk⟩
   . rename_i hk;exact .inr (nH hT ht hk)
   cases hu
 cases hu
theorem Yc{w w':World}{t u ty e:TypeId}{i:TypeInfo}(ht:P.underlying t=some (.slice e))(hu:(∃ e,P.underlying u=some (.slice e))\/P.underlying u=some .string)(hi:P.info? e=some i)
  {ad:Option Addr} {len cap mN:Nat} {news:List Value} {T:D->Value->Prop} {m:Int} {f:Int->Nat->D} {y:Value} (S:Src P T w.heap i.size m f y mN news) (hroom:len+mN<=cap)
  (hst : ∀ b,ad=some b->(storeCells (b.add (len*i.size)) news).run P w = .ok () w') (hnone:ad=none->w'=w) :
  (Builtin.append_ #[t,u] ty #[.slice ad len cap,y]).run P w = .ok (.slice ad (len+mN) cap) w':=by
 have hf:=S.first w rfl mN (iR _)
 have hl:=S.lenOf w;rw[aal (by rw[S.len];exact iR _)] at hf;rcases hu with⟨e',hu⟩|hu
 . cases ad with
   | none=>rw[hnone rfl];simp[Builtin.append_,run_underlying ht,run_underlying hu,sizeOf,typeInfo,hi,hl,hf,hroom]
   | some b=>simp[Builtin.append_,run_underlying ht,run_underlying hu,sizeOf,typeInfo,hi,hl,hf,hroom,hst b rfl]
 cases ad with
 | none=>rw[hnone rfl];simp[Builtin.append_,run_underlying ht,run_underlying hu,sizeOf,typeInfo,hi,hl,hf,hroom]
 | some b=>simp[Builtin.append_,run_underlying ht,run_underlying hu,sizeOf,typeInfo,hi,hl,hf,hroom,hst b rfl]
theorem Vr{w:World}{t u ty e:TypeId}{i:TypeInfo}{z:Value}(ht:P.underlying t=some (.slice e))(hu:(∃ e,P.underlying u=some (.slice e))\/P.underlying u=some .string)(hi:P.info? e=some i)(hz:i.zero=some z)
  {ad:Option Addr} {len cap mN:Nat} {olds news:List Value} {T:D->Value->Prop} {m:Int} {f:Int->Nat->D} {y:Value} (S:Src P T w.heap i.size m f y mN news) (hgrow:cap<len+mN)
  (hold : ∀ w':World,w'.heap=w.heap->(Builtin.firstCells i.size len (.slice ad len cap)).run P w' = .ok olds.toArray w')
  (h63:len+mN<=140737488355328) (hb:(len+mN)*i.bytes<=140737488355328) :
  (Builtin.append_ #[t,u] ty #[.slice ad len cap,y]).run P w = .ok (.slice (some ⟨w.heap.size,0,none⟩) (len+mN) (grownCap w (len+mN) cap e))
   (w.drew.alloc (.cells (olds.toArray++news.toArray++Builtin.zeroCells z.cells (grownCap w (len+mN) cap e-(len+mN))) e)):=by
 have hl:=S.lenOf w;have hf:=S.first w.drew rfl mN (iR _)
 rw[aal (by rw[S.len];exact iR _)] at hf;have ho:=hold w.drew rfl;have hn : ¬ (len+mN<=cap):=ak;have h63' : ¬ (9223372036854775807<((len:Int)+(mN:Int))):=ak;have hfit:=growslice_fits hgrow hb;have h48' : ¬ (281474976710656<Builtin.nextslicecap (len+mN) cap*i.bytes):=ak;rcases hu with⟨e',hu⟩|hu
 . simp[Builtin.append_,run_underlying ht,run_underlying hu,sizeOf,typeInfo,zeroValue,hi,hz,hl,hn,h63',h48',Question.forced,hf,ho,newRow,grownCap];congr 2;apply Array.ext';simp[CP]
 simp[Builtin.append_,run_underlying ht,run_underlying hu,sizeOf,typeInfo,zeroValue,hi,hz,hl,hn,h63',h48',Question.forced,hf,ho,newRow,grownCap];congr 2;apply Array.ext';simp[CP]
theorem agQ{T:D->Value->Prop}(hT:T=Rd h I β objs ctr){hp:Array Obj}{sz:Nat}{n m:Int}{f g:Int->Nat->D}{y1 y2:Value}{nN mN:Nat}{olds news:List Value}
  (S1:Src P T hp sz n f y1 nN olds) (S2:Src P T hp sz m g y2 mN news) (rest:Array Value) (i:Nat) (hi:(i:Int)<n+m) (j:Nat) (hj:j<sz) :
  ∃ z,(olds.toArray++news.toArray++rest)[i*sz+j]? = some z/\z.oneCell'=true/\T (QA (std P) n f g i j) z:=by
 have hn:=S1.eq;have hm:=S2.eq;have hl1:=S1.len;have hl2:=S2.len;rcases mK i nN with hlt|hge
 . obtain⟨z,z1,z2,z3⟩:=S1.cell i hlt j hj;have hk:i*sz+j<olds.length:=(gZ.1 z1).1;refine⟨z,?_,z2,?_⟩
   . rw[Array.append_assoc,Xp (by simpa using hk)];simpa using z1
   subst hT;exact qP _ _ _ _ (λ_=>z3) (λhf=>by simp[std] at hf;omega)
 obtain⟨z,z1,z2,z3⟩:=S2.cell (i-nN) ak j hj;have hk:(i-nN)*sz+j<news.length:=(gZ.1 z1).1;have e:i*sz+j-olds.length=(i-nN)*sz+j:=by
  rw[hl1,Nat.sub_mul];have:nN*sz<=i*sz:=oq _ hge;omega
 have hge':olds.length<=i*sz+j:=by
  rw[hl1];have:nN*sz<=i*sz:=oq _ hge;omega
 refine⟨z,?_,z2,?_⟩
 . rw[Array.append_assoc,Array.getElem?_append_right (by simpa using hge')];rw[Xp (by simp only[QI];omega)];simp only[QI,e];simpa using z1
 subst hT;refine qP _ _ _ _ (λht=>by simp[std] at ht;omega) (λ_=>?_);have:((std P).sub (i:Int) n)=((i-nN:Nat):Int):=by simp[std];omega
 rw[this];exact z3
section
variable {B0:Nat} {h0:Array Obj} {I0:IS} {L:wU} {slots:List D} {a:Act} {w:World}
theorem agR(hT:jG P tt){e:TypeId}{te:TI}(hte:iB tt e=some te){zs:List Value}(hz:te.zero=some zs)(hl:zs.length=te.size) :
  ∃ i z,P.info? e=some i/\i.size=te.size/\i.bytes=te.bytes/\i.zero=some z/\z.cells.size=te.size/\z.cells.toList=zs:=by
 obtain⟨i,d,h1,_,h3,h4,_,h6,_⟩:=hT.get hte;rw[hz] at h6;cases hzz:i.zero with
 | none=>rw[hzz] at h6;cases h6
 | some z=>
  rw[hzz] at h6;simp only[iP,aW] at h6;exact⟨i,z,h1,h3,h4,hzz,by rw[← hl,← h6];simp,h6⟩
theorem ap4(R:RM B0 h0 I0 L I β slots objs ctr a w){key:Nat}{old:Option Nat}
  (hkey:objs[key]? = some none\/old=some key/\∃ ob,objs[key]? = some (some ob)/\ob.gen<ctr)
  (hold : ∀ id,old=some id->∃ ob,objs[id]? = some (some ob))
  {sz:Nat} {n m:Int} {f g:Int->Nat->D} {y1 y2:Value} {nN mN:Nat} {olds news:List Value}
  (S1:Src P (Rd w.heap I β objs ctr) w.heap sz n f y1 nN olds) (S2:Src P (Rd w.heap I β objs ctr) w.heap sz m g y2 mN news) (rest:Array Value) (e:TypeId) (cap:Nat)
  (hcap:nN+mN<=cap) (hrest:rest.size=(cap-(nN+mN))*sz) {F:Int->Nat->D}
  (hF : ∀ i:Nat,(i:Int)<n+m->∀ j,j<sz->∃ z,(olds.toArray++news.toArray++rest)[i*sz+j]? = some z/\z.oneCell'=true/\Rd w.heap I β objs ctr (F i j) z) :
  Post B0 h0 I0 L I β objs ctr w ((killed objs ctr old).set key (some (.arr ctr sz (n+m) false F))) (w.drew.alloc (.cells (olds.toArray++news.toArray++rest) e)) (.vec key ctr sz 0 (n+m))
   (.slice (some ⟨w.heap.size,0,none⟩) (nN+mN) cap):=by
 have hn:=S1.eq;have hm:=S2.eq;have hl1:=S1.len;have hl2:=S2.len;have hheap:(w.drew.alloc (.cells (olds.toArray++news.toArray++rest) e)).heap=w.heap.push (.cells (olds.toArray++news.toArray++rest) e):=rfl;have hcs:(olds.toArray++news.toArray++rest).size=cap*sz:=by
  simp only[Array.size_append,QI,hl1,hl2,hrest];rw[← kr,← kr,Nat.add_sub_cancel' hcap]
 refine R.turn (X:=some (w.heap.size,0,olds.toArray++news.toArray++rest)) rfl hkey hold ?_ (by rw[hheap];simp) ?_ ?_ ?_
 . intro b hb _;rw[hheap,aaQ,if_neg ak]
 . intro x hx;cases hx;rw[hheap];exact⟨bH,.inr (.inl (iR _))⟩
 . refine⟨ak,.inr ⟨_,0,olds.toArray++news.toArray++rest,olds.toArray++news.toArray++rest,e,rfl,by rw[hheap,aaQ,if_pos rfl],rfl,?_,λi hi j hj=>?_⟩⟩
   . rw[hcs,LW];exact oq _ ak
   obtain⟨z,z1,z2,z3⟩:=hF i hi j hj;exact⟨z,by simpa using z1,z2,z3⟩
 intro β' nS G;refine⟨.inr ⟨rfl,.arr ctr sz (n+m) false F,?_,rfl⟩,⟨_,_,_,rfl,ak,hcap,λ_=>rfl⟩,λN t f' ho=>?_⟩
 . refine jd ?_;have oK:key<objs.length:=by
    rcases mK key objs.length with h|h
    . exact h
    have hn:objs[key]? = none:=OC (by simpa using h);rcases hkey with hk|⟨_,ob,hk,_⟩<;>rw[hn] at hk<;>cases hk
   cases old<;>simpa[killed] using oK
 have oK:key<(killed objs ctr old).length:=by
  have oK:key<objs.length:=by
   rcases mK key objs.length with h|h
   . exact h
   have hn:objs[key]? = none:=OC (by simpa using h);rcases hkey with hk|⟨_,ob,hk,_⟩<;>rw[hn] at hk<;>cases hk
  cases old<;>simpa[killed] using oK
 rw[jd oK] at ho;cases ho;refine⟨ak,ak,ak,_,_,_,rfl,ak,hcap,λhf=>(by cases hf),λ_=>⟨_,0,_,nS,bH,?_⟩⟩;rw[hcs];simp
theorem Lj(R:RM B0 h0 I0 L I β slots objs ctr a w){key:Nat}{old:Option Nat}
  (hkey:objs[key]? = some none\/old=some key/\∃ ob,objs[key]? = some (some ob)/\ob.gen<ctr)
  (hold : ∀ id,old=some id->∃ ob,objs[id]? = some (some ob)) {sz:Nat} {n:Int} (hn:n=0) (t:Bool) (F:Int->Nat->D) (ad:Option Addr) :
  Post B0 h0 I0 L I β objs ctr w ((killed objs ctr old).set key (some (.arr ctr sz n t F))) w (.vec key ctr sz 0 n) (.slice ad 0 0):=by
 subst hn;have oK:key<(killed objs ctr old).length:=by
  have oK:key<objs.length:=by
   rcases mK key objs.length with h|h
   . exact h
   have hn:objs[key]? = none:=OC (by simpa using h);rcases hkey with hk|⟨_,ob,hk,_⟩<;>rw[hn] at hk<;>cases hk
  cases old<;>simpa[killed] using oK
 refine R.turn (X:=none) rfl hkey hold (λ_ _ _=>rfl) (iR _) (λx hx=>by cases hx) ⟨ak,.inl ⟨rfl,rfl⟩⟩ ?_;intro β' nS G;refine⟨.inr ⟨rfl,_,jd oK,rfl⟩,⟨_,_,_,rfl,rfl,iR _,λh=>absurd h ak⟩,λN t' f' ho=>?_⟩;rw[jd oK] at ho;cases ho;exact⟨ak,ak,ak,_,_,_,rfl,rfl,iR _,λ_=>by omega,λh=>absurd h ak⟩
theorem alj(R:RM B0 h0 I0 L I β slots objs ctr a w){sz:Nat}{x1 x:D}{m:Int}{f:Int->Nat->D}{os:List bC}{y:Value}
  (he:afQ (std P) objs sz x1 x=some (m,f,os)) (hos : ∀ q∈os,q.run (std P)) (hy:Rd w.heap I β objs ctr x y) :
  ∃ mN news,Src P (Rd w.heap I β objs ctr) w.heap sz m f y mN news:=by
 unfold afQ at he;split at he
 . split at he
   . split at he
     . simp only[aW,bM] at he;obtain⟨rfl,rfl,rfl⟩:=he;cases hy;refine⟨0,[],rfl,λ_=>by simp[Builtin.lenOf],bH,bH,λw' _ n hn=>?_,λi hi=>by omega⟩;obtain rfl:n=0:=ak;simp[yc]
     exact src_ok R he hos hy
   exact src_ok R he hos hy
 exact src_ok R he hos hy
theorem aov(hT:jG P tt)(R:RM B0 h0 I0 L I β slots objs ctr a w){t u ty e:TypeId}{te:TI}{zs:List Value}(ht:P.underlying t=some (.slice e))(hu:Xz tt u=true)
  (hte:iB tt e=some te) (hz:te.zero=some zs) (hzl:zs.length=te.size) {key:Nat} {owned:Bool} {x1 x2 d:D} {up:List (Nat×Option Ob)} {os:List bC} {y1 y2:Value}
  (he:xq (std P) objs ctr key te.size te.bytes owned x1 x2=some (d,up,os)) (hos : ∀ q∈os,q.run (std P)) (hy1:Rd w.heap I β objs ctr x1 y1) (hy2:Rd w.heap I β objs ctr x2 y2) :
  ∃ y w',(Builtin.append_ #[t,u] ty #[y1,y2]).run P w = .ok y w'/\Post B0 h0 I0 L I β objs ctr w (bX objs up) w' d y:=by
 obtain⟨i,z,hi,hsz,hby,hzz,hzs,_⟩:=agR hT hte hz hzl;have hu:=ap3 hT hu;unfold xq at he;split at he
 . cases he
 rename_i m g os2 hsrc;have afS : ∀ {y1:Value} {n:Int} {f:Int->Nat->D} {ad:Option Addr} {len cap:Nat} {olds:List Value} (F:Int->Nat->D) (old:Option Nat),(∀ q∈os2,q.run (std P))->y1 = .slice ad len cap->len<=cap ->
   Src P (Rd w.heap I β objs ctr) w.heap te.size n f y1 len olds->(std P).grow te.bytes (n+m) ->
   (objs[key]? = some none\/old=some key/\∃ ob,objs[key]? = some (some ob)/\ob.gen<ctr)->(∀ id,old=some id->∃ ob,objs[id]? = some (some ob)) ->
   (∀ mN news,Src P (Rd w.heap I β objs ctr) w.heap te.size m g y2 mN news->∀ rest:Array Value,∀ i:Nat,(i:Int)<n+m->∀ j,j<te.size->∃ z,(olds.toArray++news.toArray++rest)[i*te.size+j]? = some z/\z.oneCell'=true/\Rd w.heap I β objs ctr (F i j) z) ->
   (∀ mN news,Src P (Rd w.heap I β objs ctr) w.heap te.size m g y2 mN news->len+mN<=cap ->
    ∃ w',(∀ b,ad=some b->(storeCells (b.add (len*te.size)) news).run P w = .ok () w')/\(ad=none->w'=w) /\
     Post B0 h0 I0 L I β objs ctr w ((killed objs ctr old).set key (some (.arr ctr te.size (n+m) false F))) w' (.vec key ctr te.size 0 (n+m)) (.slice ad (len+mN) cap)) ->
   ∃ y w',(Builtin.append_ #[t,u] ty #[y1,y2]).run P w = .ok y w'/\Post B0 h0 I0 L I β objs ctr w ((killed objs ctr old).set key (some (.arr ctr te.size (n+m) false F))) w' (.vec key ctr te.size 0 (n+m)) y:=by
  intro y1 n f ad len cap olds F old JA hy hlc S1 hgrow hkey hold hF hin;subst hy;obtain⟨mN,news,S2⟩:=alj R hsrc JA hy2;have e1:=S1.eq;have e2:=S2.eq;rcases mK cap (len+mN) with hlt|hge
  . have hb:(len+mN)*i.bytes<=140737488355328:=by
     have:=hgrow.2;rw[hby,← e1,← e2] at *;have h2:(((len+mN)*te.bytes:Nat):Int)<=140737488355328:=by push_cast;exact this
     omega
    have h1:len+mN<=140737488355328:=by have:=hgrow.1;omega
    rw[← hsz] at S1 S2;have hrun:=Vr (ty:=ty) ht hu hi hzz S2 hlt (olds:=olds) (λw' hw'=>by
     have:=S1.first w' hw' len (iR _)
     rwa [aal (by rw[S1.len];exact iR _)] at this) h1 hb
    rw[hsz] at S1 S2;refine⟨_,_,hrun,ap4 R hkey hold S1 S2 _ e _ (grownCap_ge w _ _ e) ?_ (hF mN news S2 _)⟩;rw[size_zeroCells,hzs]
  obtain⟨w',hs1,hs2,hp⟩:=hin mN news S2 hge;rw[← hsz] at S2 hs1;exact⟨_,w',Yc (ty:=ty) ht hu hi S2 hge hs1 hs2,hp⟩
 split at he
 ·
  split at he
  . rename_i hk;simp only[aW,bM] at he;obtain⟨rfl,rfl,rfl⟩:=he;cases hy1;have JA : ∀ q∈os2,q.run (std P):=λq hq=>hos q (dW _ hq);have hg:(std P).grow te.bytes m:=hos _ (dR _ (fQ.2 rfl));have S1:Src P (Rd w.heap I β objs ctr) w.heap te.size 0 (λ_ _=>.dX) (.slice none 0 0) 0 []:=by
     refine⟨rfl,λ_=>by simp[Builtin.lenOf],bH,bH,λw' _ n hn=>?_,λi hi=>by omega⟩;obtain rfl:n=0:=ak;simp[yc]
    have:=afS (y1:=.slice none 0 0) (n:=0) (ad:=none) (len:=0) (cap:=0) (olds:=[]) g none JA rfl (iR _) S1 (by rwa [CR]) (.inl hk) (λ_ h=>by cases h) (λmN news S2 rest i hi j hj=>by
     obtain⟨z,z1,z2,z3⟩:=S2.cell i (by have:=S2.eq;omega) j hj;have hkl:i*te.size+j<news.length:=(gZ.1 z1).1;refine⟨z,?_,z2,z3⟩;rw[show(([]:List Value).toArray++news.toArray)=news.toArray by simp,Xp (by simpa using hkl)];simpa using z1) (λmN news S2 hle=>by
     have hm0:mN=0:=ak;subst hm0;refine⟨w,λb hb=>(by cases hb),λ_=>rfl,?_⟩;have:=S2.eq;exact Lj R (.inl hk) (λ_ h=>by cases h) ak _ _ _)
    simpa only[CR,killed,bX] using this
  cases he
 ·
  rename_i sz' n tight f;split at he
  . rename_i hs;have hs:=dO hs;subst hs;have hsrc1:zM (std P) objs te.size (.sl te.size n tight f)=some (n,f,[]):=by simp[zM]
    obtain⟨nN,olds,S1⟩:=src_ok R hsrc1 bH hy1;obtain⟨ad,len,cap,rfl,x1,x2,x3,x4⟩:=hy1;have hnl:nN=len:=by have:=S1.eq;omega
    subst hnl;split at he
    ·
     split at he
     . rename_i hk;simp only[aW,bM] at he;obtain⟨rfl,rfl,rfl⟩:=he;have JA : ∀ q∈os2,q.run (std P):=λq hq=>hos q (dW _ hq);have hg:(std P).grow te.bytes m:=hos (.grow te.bytes m) (dR _ bH);have hn0:n=0:=hos (.uf n 0) (dR _ (by simp[std]));have htt:tight=true:=hos (.JJ tight) (dR _ (by simp[std]));have hc:=x3 htt;subst hn0;have hn0:nN=0:=ak;subst hn0;have hcap:cap=0:=ak;subst hcap;have hol:olds=[]:=ahB (by rw[S1.len];simp);subst hol;have:=afS (n:=0) (ad:=ad) (len:=0) (cap:=0) (olds:=[]) g none JA rfl (iR _) S1 (by rwa [CR]) (.inl hk) (λ_ h=>by cases h) (λmN news S2 rest i hi j hj=>by
        obtain⟨z,z1,z2,z3⟩:=S2.cell i (by have:=S2.eq;omega) j hj;have hkl:i*te.size+j<news.length:=(gZ.1 z1).1;refine⟨z,?_,z2,z3⟩;rw[show(([]:List Value).toArray++news.toArray)=news.toArray by simp,Xp (by simpa using hkl)];simpa using z1) (λmN news S2 hle=>by
        have hm0:mN=0:=ak;subst hm0;have hnw:news=[]:=ahB (by rw[S2.len];simp);subst hnw;refine⟨w,λb hb=>by simp[storeCells],λ_=>rfl,?_⟩;have:=S2.eq;exact Lj R (.inl hk) (λ_ h=>by cases h) ak _ _ _)
       simpa only[CR,killed,bX] using this
     cases he
    simp only[aW,bM] at he;obtain⟨rfl,rfl,rfl⟩:=he;have JA : ∀ q∈os2,q.run (std P):=λq hq=>hos q (dW _ hq);have hg:(std P).grow te.bytes (n+m):=hos (.grow te.bytes (n+m)) (dR _ (by simp[std]));have htt:tight=true:=hos (.JJ tight) (dR _ (by simp[std]));have hc:nN=cap:=(x3 htt).symm;subst hc;obtain⟨mN,news,S2⟩:=alj R hsrc JA hy2;have e1:=S1.eq;have e2:=S2.eq;rcases EM mN with hm0|hm0
    . subst hm0;have hnw:news=[]:=ahB (by rw[S2.len];simp);subst hnw;rw[← hsz] at S2;refine⟨_,w,Yc (ty:=ty) ht hu hi S2 (iR _) (λb _=>by simp[storeCells]) (λ_=>rfl),R.still ?_⟩;refine⟨ad,nN,nN,bH,by simp[std];omega,iR _,λh=>(by cases h),λhp=>?_⟩;obtain⟨b,o,c,e',fr,q1,q2,q3,q4⟩:=x4 hp;refine⟨b,o,c,e',fr,q1,q2,q3,λi hi j hj=>?_⟩;obtain⟨z,z1,z2,z3⟩:=q4 i hi j hj;exact⟨z,z1,z2,qP _ _ _ _ (λ_=>z3) (λhf=>by simp[std] at hf;omega)⟩
    have hb:(nN+mN)*i.bytes<=140737488355328:=by
     have:=hg.2;rw[hby];have h2:(((nN+mN)*te.bytes:Nat):Int)<=140737488355328:=by push_cast;rw[e1,e2];exact this
     omega
    have h1:nN+mN<=140737488355328:=by have:=hg.1;omega
    rw[← hsz] at S1 S2;have hrun:=Vr (ty:=ty) ht hu hi hzz S2 (show nN<nN+mN by omega) (olds:=olds) (λw' hw'=>by
     have:=S1.first w' hw' nN (iR _)
     rwa [aal (by rw[S1.len];exact iR _)] at this) h1 hb
    rw[hsz] at S1 S2;refine⟨_,_,hrun,R.ajI (w1:=w.drew) rfl _ e λh' I' hI1 hI2 hh G=>?_⟩;refine⟨_,nN+mN,_,rfl,by simp[std];omega,grownCap_ge w _ _ e,λh=>(by cases h),λhp=>?_⟩;refine⟨_,0,_,e,_,rfl,hI2,hh,λi hi j hj=>?_⟩;obtain⟨z,z1,z2,z3⟩:=agQ rfl S1 S2 _ i ak j hj;exact⟨z,by simpa using z1,z2,Rd.mono G _ _ z3⟩
  cases he
 ·
  rename_i id gg sz' off n;split at he
  . rename_i g' Fg N tight f ho;split at he
    . rename_i hc;simp only[ig] at hc;have s1:=dO hc.1;have s2:=dO hc.2;subst s1;subst s2;have hsrc1:zM (std P) objs te.size (.vec id gg te.size off n)=some (n,λi j=>f ((std P).add off i) j,[.lU gg g']):=by simp[zM,ho]
      have main : ∀ old:Option Nat,old=some id->gg=g'->(∀ q∈os2,q.run (std P))->(std P).grow te.bytes (n+m) ->
        (objs[key]? = some none\/old=some key/\∃ ob,objs[key]? = some (some ob)/\ob.gen<ctr) ->
        ∃ y w',(Builtin.append_ #[t,u] ty #[y1,y2]).run P w = .ok y w'/\Post B0 h0 I0 L I β objs ctr w ((killed objs ctr old).set key (some (.arr ctr te.size (n+m) false (QA (std P) n (λi j=>f ((std P).add off i) j) g)))) w' (.vec key ctr te.size 0 (n+m)) y:=by
       intro old hold hgg JA hg hkey;subst hgg;obtain⟨nN,olds,S1⟩:=src_ok R hsrc1 (by simp[std,bC.run]) hy1;obtain⟨_,_,hx⟩:=hy1;obtain⟨i0,i1,i2,ad,len,cap,rfl,x1,x2,x3,x4⟩:=hx _ _ _ ho;have hnl:nN=len:=by have:=S1.eq;omega
       subst hnl;refine afS _ old JA rfl x2 S1 hg hkey (λid' h'=>by rw[hold] at h';cases h';exact⟨_,ho⟩) (λmN news S2 rest i hi j hj=>agQ rfl S1 S2 rest i hi j hj) (λmN news S2 hle=>?_);have e1:=S1.eq;have e2:=S2.eq;rcases EM cap with hc0|hc0
       . have hm0:mN=0:=ak;have hn0:nN=0:=ak;subst hm0;subst hn0;subst hc0;have hnw:news=[]:=ahB (by rw[S2.len];simp);subst hnw;exact⟨w,λb _=>by simp[storeCells],λ_=>rfl,Lj R hkey (λid' h'=>by rw[hold] at h';cases h';exact⟨_,ho⟩) ak _ _ _⟩
       obtain⟨b,o,s,hb,rfl,hfit⟩:=x4 hc0;obtain⟨_,n0,hq⟩:=R.ob id _ ho;rcases hq with⟨q1,q2⟩|⟨b',o',s',c,e',q1,q2,q3,_,q5,q6⟩
       . rw[hb] at q2;cases q2
       rw[hb] at q1;cases q1;have hml:(nN+mN)*te.size<=cap*te.size:=oq _ hle;rw[kr] at hml;have hst:=run_storeCells_at P b (o+off.toNat*te.size+nN*te.size) e' news 0 c w q2 (by rw[S2.len];omega) S2.one;refine⟨_,λbb hbb=>by cases hbb;rw[Addr.add_lit];exact hst,λh=>(by cases h),?_⟩;have hsz':(c.toList.take (o+off.toNat*te.size+nN*te.size+0)++news++c.toList.drop (o+off.toNat*te.size+nN*te.size+0+news.length)).toArray.size=c.size:=by
        simp[S2.len];omega
       have hrow:=setRow_heap w b c (c.toList.take (o+off.toNat*te.size+nN*te.size+0)++news++c.toList.drop (o+off.toNat*te.size+nN*te.size+0+news.length)).toArray e' (0,0) q2;refine R.turn (X:=some (b,o+off.toNat*te.size,s)) rfl hkey (λid' h'=>by rw[hold] at h';cases h';exact⟨_,ho⟩) ?_ bH ?_ ?_ ?_
       . intro b2 _ hne;exact setRow_other w b b2 _ (λh=>hne id _ hold hb h.symm)
       . intro x hx;cases hx;exact⟨by have:=R.lS hb;simpa using this,.inl ⟨id,_,hold,hb,rfl⟩⟩
       . refine⟨ak,.inr ⟨b,_,s,_,e',rfl,hrow,ak,?_,λi hi j hj=>?_⟩⟩
         . have:(n+m).toNat=nN+mN:=ak;rw[this,kr];omega
         have hjj : ∀ q:Nat,q*te.size+j<(q+1)*te.size:=by intro q;rw[kr,Tm];omega
         rcases mK i nN with hlt|hge
         . obtain⟨z,z1,z2,z3⟩:=q6 (off.toNat+i) ak j hj;have hlt2:i*te.size+j<nN*te.size:=Ef (hjj i) (oq _ hlt);refine⟨z,?_,z2,?_⟩
           . simp only[OB,Jw];rw[CP,sj yh,Xv ak];rw[← z1,kr];simp[rY]
           refine qP _ _ _ _ (λ_=>?_) (λhf=>by simp[std] at hf;omega);have:((off.toNat+i:Nat):Int)=(std P).add off i:=by simp[std];omega
           rw[this] at z3;exact z3
         obtain⟨z,z1,z2,z3⟩:=S2.cell (i-nN) ak j hj;have hkl:(i-nN)*te.size+j<news.length:=(gZ.1 z1).1;have hmul:(i-nN)*te.size=i*te.size-nN*te.size:=Nat.sub_mul ..;have azt:nN*te.size<=i*te.size:=oq _ hge;refine⟨z,?_,z2,?_⟩
         . simp only[OB,Jw];rw[CP,uZ yh];simp only[H9,Ia];rw[Tt ak,sj ak];rw[← z1];congr 1;omega
         refine qP _ _ _ _ (λht=>by simp[std] at ht;omega) (λ_=>?_);have:((std P).sub (i:Int) n)=((i-nN:Nat):Int):=by simp[std];omega
         rw[this];exact z3
       intro β' nS G;have oK:key<(killed objs ctr old).length:=by
        have oK:key<objs.length:=by
         rcases mK key objs.length with h|h
         . exact h
         have hn:objs[key]? = none:=OC (by simpa using h);rcases hkey with hk|⟨_,ob,hk,_⟩<;>rw[hn] at hk<;>cases hk
        cases old<;>simpa[killed] using oK
       refine⟨.inr ⟨rfl,_,jd oK,rfl⟩,⟨_,_,_,rfl,ak,hle,λ_=>rfl⟩,λN' t' f' ho'=>?_⟩;rw[jd oK] at ho';cases ho';exact⟨ak,ak,ak,_,_,_,rfl,ak,hle,λh=>(by cases h),λ_=>⟨b,_,s,nS,bH,yh⟩⟩
      split at he
      . rename_i hid;have hid:=dO hid;subst hid;simp only[aW,bM] at he;obtain⟨rfl,rfl,rfl⟩:=he;have hgg:gg=g':=hos (.lU gg g') (dR _ (by simp[std]));have hlt:gg<ctr:=hos (.ltN gg ctr) (dR _ (by simp[std]));have:=main (some id) rfl hgg (λq hq=>hos q (dW _ hq)) (hos (.grow te.bytes (n+m)) (dR _ (by simp[std]))) (.inr ⟨rfl,_,ho,by simpa[Ob.gen,← hgg] using hlt⟩);simp only[killed,List.set_set] at this;exact this
      split at he
      . rename_i hk;simp only[aW,bM] at he;obtain⟨rfl,rfl,rfl⟩:=he;have hgg:gg=g':=hos (.lU gg g') (dR _ (by simp[std]));exact main (some id) rfl hgg (λq hq=>hos q (dW _ hq)) (hos (.grow te.bytes (n+m)) (dR _ (by simp[std]))) (.inl hk)
      cases he
    cases he
  cases he
 cases he
end
end
end Go.Vx
end
