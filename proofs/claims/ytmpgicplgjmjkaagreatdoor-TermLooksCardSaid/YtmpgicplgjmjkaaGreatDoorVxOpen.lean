/- Arguments that came in, read as plain values; a law's frame. -/
import Derived.Test.YtmpgicplgjmjkaaGreatDoorVxNat
import Derived.ProofKit
import Derived.Deep.Slices
set_option linter.all false
namespace Go.Vx
open Go
section
variable {P:Program}
theorem add_add(a:Addr)(i j:Nat):(a.add i).add j=a.add (i+j):=by
 unfold Addr.add;rcases EM i with rfl|hi
 . simp
 rcases EM j with rfl|hj
 . rw[if_pos rfl];simp
 rw[if_neg ak,if_neg ak,if_neg ak];simp[rY]
def Opens(P:Program)(t:TypeId)(T:Type)(sz:Nat)(rd:T->Nat->D)(wf:T->Prop):Prop :=
 ∀ {H:Type} {enc:TypeId×Value->H} {w:World} {base:Nat} {sp:Nat->Bool} {held:Bool} {fuel:Nat} {cs:List Value} {x:DataW H×List MemPlace},DataW.trod enc P w base sp held fuel t cs=some x ->
  cs.length=sz/\∃ x:T,wf x/\∀ j,j<sz->∃ z,cs[j]? = some z/\z.oneCell'=true/\Rd w.heap (λb=>b<w.heap.size) (λ_=>none) [] 1 (rd x j) z
theorem agu{t:TypeId}{k:IntKind}(ht:P.underlying t=some (.int k)):Opens P t Int 1 (λx _=>.v (.int k x)) (λx=>k.min<=x/\x<=k.max):=by
 intro H enc w base sp held fuel cs x h;obtain⟨n,rfl,_,hw⟩:=DataW.trod_int ht h;simp only[Lit.wf,ig,decide_eq_true_eq] at hw;refine⟨rfl,n,hw,λj hj=>?_⟩;obtain rfl:j=0:=ak;exact⟨_,rfl,rfl,rfl⟩
theorem alT{t:TypeId}(ht:P.underlying t=some .bool):Opens P t Bool 1 (λx _=>.v (.bool x)) (λ_=>True):=by
 intro H enc w base sp held fuel cs x h;cases fuel with
 | zero=>cases h
 | succ fuel=>
  have hb : ∃ b,cs=[.bool b]:=by
   simp only[DataW.trod,ht] at h;split at h<;>first|(exact⟨_,rfl⟩)|simp_all
  obtain⟨b,rfl⟩:=hb;refine⟨rfl,b,trivial,λj hj=>?_⟩;obtain rfl:j=0:=ak;exact⟨_,rfl,rfl,rfl⟩
theorem aiE{t:TypeId}(ht:P.underlying t=some .string):Opens P t ByteArray 1 (λx _=>.v (.string x)) (λx=>x.size<=maxLen):=by
 intro H enc w base sp held fuel cs x h;obtain⟨s,rfl,_,hs⟩:=DataW.trod_string ht h;refine⟨rfl,s,hs,λj hj=>?_⟩;obtain rfl:j=0:=ak;exact⟨_,rfl,rfl,rfl⟩
theorem aeG{w:World}{a:Addr}{z:Value}(h:w.cell? a=some z):a.spot=none/\∃ c e fr,w.heap[a.block]? = some (.cells c e fr)/\c[a.off]? = some z:=by
 unfold World.cell? at h;split at h
 . rename_i c e fr hb;split at h
   . cases h
   rename_i hs;refine⟨by simpa using hs,c,e,fr,hb,h⟩
 cases h
theorem FQ{t e:TypeId}{T:Type}{sz:Nat}{rd:T->Nat->D}{wf:T->Prop}(d:T)(ht:P.underlying t=some (.slice e))(hc:P.cellsOf e=sz)(hsz:0<sz)(he:Opens P e T sz rd wf) :
  Opens P t (List T) 1 (λxs _=>.sl sz (aj.len xs) false (λi j=>rd (aj.get d xs i) j)) (λxs=>ah xs<=maxLen/\∀ i:Int,0<=i->i<ah xs->wf (aB d xs i)):=by
 intro H enc w base sp held fuel cs x h;subst hc;rcases Go.Deep.open_slice ht h with⟨rfl,rfl⟩|⟨a,len,cap,m,n,Dd,Pl,rfl,hb,hl,hcap,hm,rfl,hel⟩
 . refine⟨rfl,[],⟨by simp[ah,maxLen],λi h0 h1=>by simp at h1;omega⟩,λj hj=>?_⟩;obtain rfl:j=0:=ak;exact⟨_,rfl,rfl,none,0,0,rfl,rfl,iR _,(λh=>by cases h),λh=>by omega⟩
 have hlm:len<=m:=by
  rw[hm];split<;>omega
 have hx : ∀ i,∃ y:T,i<len->wf y/\∀ j,j<P.cellsOf e->∃ z,w.cell? (a.add (i*P.cellsOf e+j))=some z/\z.oneCell'=true/\Rd w.heap (λb=>b<w.heap.size) (λ_=>none) [] 1 (rd y j) z:=by
  intro i
  by_cases hi:i<len
  . obtain⟨cs',h1,h2⟩:=hel i ak;obtain⟨h3,y,h4,h5⟩:=he h2;refine⟨y,λ_=>⟨h4,λj hj=>?_⟩⟩;obtain⟨z,z1,z2,z3⟩:=h5 j hj;obtain⟨_,_,h6⟩:=World.cells?_some h1;have:=h6 j hj;rw[add_add] at this;exact⟨z,this.trans z1,z2,z3⟩
  exact⟨d,λh=>absurd h hi⟩
 let g:Nat->T:=λi=>Classical.choose (hx i);have hg:=λi=>aeA (hx i);have hlen:ah ((List.range len).map g)=len:=by simp[ah]
 have hget : ∀ i:Nat,i<len->aB d ((List.range len).map g) (i:Int)=g i:=by
  intro i hi;simp[aB,hi]
 refine⟨rfl,(List.range len).map g,⟨by rw[hlen];omega,λi h0 h1=>?_⟩,λj hj=>?_⟩
 . obtain⟨k,rfl⟩:=Int.eq_ofNat_of_zero_le h0;rw[hlen] at h1;rw[hget k ak];exact(hg k ak).1
 obtain rfl:j=0:=ak;refine⟨_,rfl,rfl,some a,len,cap,rfl,?_,hl,(λh=>by cases h),λhp=>?_⟩
 . show(len:Int)=ah _;rw[hlen]
 obtain⟨z0,hz0,_,_⟩:=(hg 0 hp).2 0 hsz;obtain⟨s0,c,et,fr,hblk,hc0⟩:=aeG hz0;simp only[Nat.zero_mul,OB,Addr.add,if_true] at s0 hblk hc0;obtain⟨ab,ao,asp⟩:=a;simp only at s0 hblk hc0;subst s0;refine⟨ab,ao,c,et,fr,rfl,?_,hblk,λi hi j hj=>?_⟩
 . exact(yY.1 hblk).1
 obtain⟨z,z1,z2,z3⟩:=(hg i hi).2 j hj;obtain⟨_,c',et',fr',hblk',hc'⟩:=aeG z1;have e1:((⟨ab,ao,none⟩:Addr).add (i*P.cellsOf e+j)).block=ab:=by unfold Addr.add;split<;>rfl
 have e2:((⟨ab,ao,none⟩:Addr).add (i*P.cellsOf e+j)).off=ao+i*P.cellsOf e+j:=by
  unfold Addr.add;split
  . rename_i h0;show ao=_;omega
  show ao+(i*P.cellsOf e+j)=_;omega
 rw[e1,hblk] at hblk';cases hblk';rw[e2] at hc';refine⟨z,hc',z2,?_⟩;show Rd w.heap _ _ _ _ (rd (aB d ((List.range len).map g) (i:Int)) j) z;rw[hget i hi];exact z3
theorem GI{t:TypeId}{T:Type}{rd:T->Nat->D}{wf:T->Prop}(ho:Opens P t T 1 rd wf){H:Type}{enc:TypeId×Value->H}{w:World}{base:Nat}{sp:Nat->Bool}{held:Bool}{v:Value}{d:DataW H}{ps:List MemPlace}
  (hv:v.cells = #[v]) (h:DataW.Trod enc P w base sp held t v d ps) : ∃ x:T,wf x/\Rd w.heap (λb=>b<w.heap.size) (λ_=>none) [] 1 (rd x 0) v:=by
 obtain⟨fuel,hf⟩:=h;obtain⟨_,x,h1,h2⟩:=ho hf;obtain⟨z,z1,_,z3⟩:=h2 0 ak;rw[hv] at z1;simp at z1;subst z1;exact⟨x,h1,z3⟩
theorem aiB{t:TypeId}{T:Type}{sz:Nat}{rd:T->Nat->D}{wf:T->Prop}(ho:Opens P t T sz rd wf){H:Type}{enc:TypeId×Value->H}{w:World}{base:Nat}{sp:Nat->Bool}{held:Bool}{v:Value}{d:DataW H}{ps:List MemPlace}
  {cs:Array Value} (hv:v = .agg cs) (h:DataW.Trod enc P w base sp held t v d ps) : ∃ x:T,wf x/\Rd w.heap (λb=>b<w.heap.size) (λ_=>none) [] 1 (.agg sz (λj=>rd x j)) v:=by
 obtain⟨fuel,hf⟩:=h;obtain⟨h0,x,h1,h2⟩:=ho hf;subst hv;refine⟨x,h1,cs,rfl,by simpa[Value.cells] using h0,λj hj=>?_⟩;obtain⟨z,z1,z2,z3⟩:=h2 j hj;exact⟨z,by simpa[Value.cells] using z1,z2,z3⟩
theorem LC{t e:TypeId}(ht:P.underlying t=some (.slice e)){w:World}{r:Reach}{b:Nat}{v:Value}(h:Value.okWide P w r b t v):v.cells = #[v]:=by
 obtain⟨a,l,c,rfl⟩:=Go.WideShapes.okWide_slice ht h;rfl
theorem YM{t:TypeId}{k:IntKind}(ht:P.underlying t=some (.int k)){w:World}{r:Reach}{b:Nat}{v:Value}(h:Value.okWide P w r b t v):v.cells = #[v]:=by
 obtain⟨n,rfl⟩:=Go.WideShapes.okWide_int ht h;rfl
theorem amR{W W':World}(hb : ∀ b,b<W.heap.size->W'.heap[b]? = W.heap[b]?){p:MemPlace}(hp:p.block<W.heap.size):W.sameAt W' p:=by
 cases p with
 | cell b o=>exact World.cell?_of_block (w:=W) (hb b hp)
 | map b=>exact hb b hp
theorem Yb{H:Type}{enc:TypeId×Value->H}(hl:laidOutB P=true){W W':World}(hb : ∀ b,b<W.heap.size->W'.heap[b]? = W.heap[b]?) : ∀ {ts:List TypeId} {vs:List Value} {ds:List (DataW H)} {ps:List MemPlace},
  ts.all (λt=>P.readableRec t&&decide (t<P.types.size))=true->DataW.TrodAll enc P W 0 (λ_=>true) true ts vs ds ps->(∀ x∈ps,x.block<W.heap.size) ->
  DataW.TrodAll enc P W' 0 (λb=>decide (b<W.heap.size)) true ts vs ds ps
 | [],[],[],_,_,h,_=>h
 | t::ts,v::vs,d::ds,ps,ha,h,hlt=>by
  obtain⟨p,q,h1,h2,rfl⟩:=h;simp only[List.all_cons,ig,decide_eq_true_eq] at ha;exact⟨p,q,Go.WideElems.Trod_stays hl ha.1.1 ha.1.2 h1 (λx hx=>amR hb (hlt x (dW _ hx))) (λx hx=>by simpa using hlt x (dW _ hx)),
   Yb hl hb (by simpa using ha.2) h2 (λx hx=>hlt x (dR _ hx)),rfl⟩
 | [],_::_,_,_,_,h,_=>h.elim
 | [],[],_::_,_,_,h,_=>h.elim
 | _::_,[],_,_,_,h,_=>h.elim
 | _::_,_::_,[],_,_,h,_=>h.elim
theorem ab2{H:Type}{enc:TypeId×Value->H}(hl:laidOutB P=true){fn:Func}{tb:TypeId}(htb:P.underlying tb=some .bool)(hres:fn.resultTypes = #[tb])
  (hts:fn.params.toList.all (λt=>P.readableRec t&&decide (t<P.types.size))=true) {s:ChangeSpec} (hvars:s.vars=[]) {W W':World} {args:Array Value} {ds gs:List (DataW H)} {before:List MemPlace}
  (hspec:s.fn H (ds++gs) = { results:=[.lit (.bool true)],args:=ds }) (hW:DataW.Whole enc P fn.params.toList s.vars false W args.toList ds gs before)
  (hb : ∀ b,b<W.heap.size->W'.heap[b]? = W.heap[b]?) (hwo:j3 W W'):s.post enc P fn false true false false W args (.bool true) W':=by
 have hW':=hW;obtain⟨p,q,hA,hV,rfl,hfz,hnd⟩:=hW;have hlt:=λx hx=>hW'.lt x hx;rw[hvars] at hV;obtain⟨rfl,rfl⟩:=Go.ChangeShapes.trodVars_none hV;refine⟨ds,[],p++[],[],p,[],hW',?_,?_,?_,⟨hwo.1,hwo.2,λi hi=>?_⟩,λh=>by cases h⟩
 . rw[hspec,hres];exact Go.ChangeShapes.trodAll_mk1 (Go.RowKit.shut_bool htb true)
 . rw[hspec];exact Yb hl hb hts hA (λx hx=>hlt x (by simpa using hx))
 . rw[hspec,hvars];rfl
 rw[hb i hi];split<;>simp_all
end
end Go.Vx
