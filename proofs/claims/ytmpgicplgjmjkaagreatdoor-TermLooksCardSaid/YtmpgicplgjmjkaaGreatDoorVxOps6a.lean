/- Each step of the evaluator is a step of the Go model: calls; the whole. -/
import Derived.Test.YtmpgicplgjmjkaaGreatDoorVxOps5
set_option linter.all false
namespace Go.Vx
section
variable {P:Program} {tt:TT} {B0:Nat} {h0:Array Obj} {I0 I:IS} {L:wU} {β:Nat->Option (Nat×Nat×Array Value)} {slots:List D} {objs:List (Option Ob)} {ctr:Nat} {a:Act} {w:World}
theorem Goes.bare(h:Array Obj)(I:IS)(β:Nat->Option (Nat×Nat×Array Value))(objs:List (Option Ob))(ctr:Nat):Goes h I β objs ctr h I (λ_=>none) [] (ctr+1):=by
 refine⟨λ_ x=>x,λ_ _=>rfl,λ_ x=>x,λid g hg=>.inl ?_,λid g hg o' ho' _ _=>by simp at ho'⟩;rcases hg with h|⟨h,_⟩<;>omega
theorem Goes.back(h:Array Obj)(I:IS)(β:Nat->Option (Nat×Nat×Array Value))(objs:List (Option Ob))(ctr:Nat):Goes h I (λ_=>none) [] 0 h I β objs ctr:=by
 refine⟨λ_ x=>x,λ_ _=>rfl,λ_ x=>x,λid g hg=>?_,λid g hg=>?_⟩
 . rcases hg with h|⟨_,o,ho,_⟩
   . omega
   simp at ho
 rcases hg with h|⟨_,o,ho,_⟩
 . omega
 simp at ho
theorem ZW{B:Nat}{h:Array Obj}{I:IS}{d:D}{v:Value}(hd:tO d=false)(hr:Tf B h I d v):Rd h I (λ_=>none) [] 0 d v:=by
 cases d<;>simp[tO] at hd<;>exact hr
theorem H6{h:Array Obj}{k g sz:Nat}{off n N:Int}{t:Bool}{f:Int->Nat->D}{y:Value}(hr:Rd h I β objs ctr (.vec k g sz off n) y)(dP:objs[k]? = some (some (.arr g sz N t f)))
  (pR:Rob h I β objs ctr k (.arr g sz N t f)) : ∃ a len cap,y = .slice a len cap/\(len:Int)=n/\len<=cap/\((t&&(off+n==N))=true->cap=len) /\
   (0<cap->∃ b o c e s,β k=some (b,s)/\a=some ⟨b,o,none⟩/\h[b]? = some (.cells c e (0,0))/\¬ I b/\o+cap*sz<=c.size /\
    ∀ i:Nat,i<len->∀ j,j<sz->∃ z,c[o+i*sz+j]? = some z/\z.oneCell'=true/\Rd h I β objs ctr (f (off+i) j) z):=by
 obtain⟨_,_,hx⟩:=hr;obtain⟨o1,o2,o3,ad,len,cap,rfl,x1,x2,x3,x4⟩:=hx _ _ _ dP;refine⟨ad,len,cap,rfl,x1,x2,?_,λhp=>?_⟩
 . intro ht;simp only[ig,beq_iff_eq] at ht;have:=x3 ht.1;omega
 obtain⟨b,o,s',hb,rfl,hrr⟩:=x4 hp;obtain⟨_,_,pR⟩:=pR;rcases pR with⟨h1,h2⟩|⟨b',p',s1,c,e,q1,q2,q3,q4,q5,q6⟩
 . rw[hb] at h2;cases h2
 rw[hb] at q1;cases q1;refine⟨b,_,c,e,_,hb,rfl,q2,q4,ak,λi hi j hj=>?_⟩;obtain⟨z,z1,z2,z3⟩:=q6 (off.toNat+i) ak j hj;refine⟨z,?_,z2,?_⟩
 . rw[← z1];congr 1;rw[kr];omega
 have e1:((off.toNat+i:Nat):Int)=off+(i:Int):=ak;rw[e1] at z3;exact z3
theorem MZ{h h':Array Obj}{I I':IS}(hI:I.le I')(hh : ∀ b,I b->h'[b]? = h[b]?){β β':Nat->Option (Nat×Nat×Array Value)}{objs bN:List (Option Ob)}{ctr lC:Nat} :
  ∀ (d:D) (y:Value),pW (std P) d->Rd h I β objs ctr d y->Rd h' I' β' bN lC d y:=by
 intro d
 induction d with
 | sl sz n t f ih=>
  rintro y hc ⟨a,len,cap,rfl,hl,hcp,ht,hcells⟩;refine⟨a,len,cap,rfl,hl,hcp,ht,λhp=>?_⟩;obtain⟨b,o,c,e,fr,rfl,hb1,hb,hx⟩:=hcells hp;refine⟨b,o,c,e,fr,rfl,hI.2 b hb1,by rw[hh b (I.sub b hb1)];exact hb,λi hi j hj=>?_⟩;obtain⟨z,h1,h2,h3⟩:=hx i hi j hj;exact⟨z,h1,h2,ih _ _ _ (hc i ak ak j hj) h3⟩
 | agg k c ih=>
  rintro y hc ⟨ys,rfl,hs,hx⟩;refine⟨ys,rfl,hs,λj hj=>?_⟩;obtain⟨z,h1,h2,h3⟩:=hx j hj;exact⟨z,h1,h2,ih _ _ (hc 0 ak ak j hj) h3⟩
 | jO k c ih=>
  rintro y hc ⟨ys,rfl,hs,hx⟩;refine⟨ys,rfl,hs,λj hj=>?_⟩;obtain⟨z,h1,h3⟩:=hx j hj;exact⟨z,h1,ih _ _ (hc 0 ak ak j hj) h3⟩
 | fn f k c ih=>
  rintro y hc ⟨ys,rfl,hs,hx⟩;refine⟨ys,rfl,hs,λj hj=>?_⟩;obtain⟨z,h1,h3⟩:=hx j hj;exact⟨z,h1,ih _ _ (hc 0 ak ak j hj) h3⟩
 | gX sz n f i j ih=>
  rintro y hc ⟨h0,h1,b,o,c,e,fr,hy,hb1,hb,hx⟩;refine⟨h0,h1,b,o,c,e,fr,hy,hI.1 b hb1,by rw[hh b hb1];exact hb,λi hi j hj=>?_⟩;obtain⟨z,h1,h2,h3⟩:=hx i hi j hj;exact⟨z,h1,h2,ih _ _ _ (hc i ak hi j hj) h3⟩
 | JZ b d ih=>exact λy hc hy=>⟨λhb=>ih y hc (hy.1 hb),hy.2⟩
 | v x=>exact λy _ hy=>hy
 | dX=>exact λy _ hy=>hy
 | junk=>exact λy _ _=>trivial
 | fq=>exact λy hc _=>hc.elim
 | rO=>exact λy hc _=>hc.elim
 | vec=>exact λy hc _=>hc.elim
 | own=>exact λy hc _=>hc.elim
 | CB=>exact λy hc _=>hc.elim
 | mp kk kv es=>exact λy _ ⟨r,c,cl,hy,hr,hb,he⟩=>⟨r,c,cl,hy,hI.1 r hr,by rw[hh r hr];exact hb,he⟩
 | Xy=>exact λy hc _=>hc.elim
 | cnd=>exact λy hc _=>hc.elim
 | acU=>exact λy _ hy=>hy
 | tab g n k=>exact λy _ ⟨h1,h2,h3⟩=>⟨h1,hI.1 g h2,by rw[hh g h2];exact h3⟩
 | II t d ih=>exact λy hc ⟨z,h1,h2⟩=>⟨z,h1,ih _ hc h2⟩
theorem alp{h:Array Obj}{I I':IS} : ∀ (d:D) (y:Value),flat (std P) d->Rd h I (λ_=>none) [] 0 d y->Rd h I' (λ_=>none) [] 0 d y:=by
 intro d
 induction d with
 | agg k c ih=>
  rintro y hc ⟨ys,rfl,hs,hx⟩;refine⟨ys,rfl,hs,λj hj=>?_⟩;obtain⟨z,h1,h2,h3⟩:=hx j hj;exact⟨z,h1,h2,ih _ _ (hc 0 ak ak j hj) h3⟩
 | jO k c ih=>
  rintro y hc ⟨ys,rfl,hs,hx⟩;refine⟨ys,rfl,hs,λj hj=>?_⟩;obtain⟨z,h1,h3⟩:=hx j hj;exact⟨z,h1,ih _ _ (hc 0 ak ak j hj) h3⟩
 | fn f k c ih=>
  rintro y hc ⟨ys,rfl,hs,hx⟩;refine⟨ys,rfl,hs,λj hj=>?_⟩;obtain⟨z,h1,h3⟩:=hx j hj;exact⟨z,h1,ih _ _ (hc 0 ak ak j hj) h3⟩
 | own=>exact λy _ hy=>hy.elim
 | II t d ih=>exact λy hc ⟨z,h1,h2⟩=>⟨z,h1,ih _ hc h2⟩
 | v x=>exact λy _ hy=>hy
 | dX=>exact λy _ hy=>hy
 | junk=>exact λy _ _=>trivial
 | _=>exact λy hc _=>hc.elim
theorem acT{B:Nat}{h:Array Obj}{I I':IS}(hI : ∀ b,I b->b<B){d:D}{v:Value}(hf:flat (std P) d)(hr:Tf B h I' d v):Tf B h I d v:=by
 cases d with
 | own sz n t g=>
  obtain⟨ad,len,cap,rfl,x1,x2,x3,x4⟩:=hr;refine⟨ad,len,cap,rfl,x1,x2,x3,λhp=>?_⟩;obtain⟨b,p,c,e,rfl,y1,y2,y3,y4,y5⟩:=x4 hp;refine⟨b,p,c,e,rfl,y1,λhb=>by have:=hI b hb;omega,y3,y4,λi hi j hj=>?_⟩;obtain⟨z,z1,z2,z3⟩:=y5 i hi j hj;exact⟨z,z1,z2,alp _ _ (hf i ak ak j hj) z3⟩
 | CB q k c sz n t g=>exact hf.elim
 | _=>exact alp (I:=I') _ _ hf hr
theorem agU(R:RM B0 h0 I0 L I β slots objs ctr a w){w':World}{I':IS}(R':RM B0 h0 I0 L I' β slots objs ctr a w'){sz:Nat}{n:Int}{tight:Bool}{g:Int->Nat->D}{v:Value}{key:Nat}(hk:objs[key]? = some none)
  (h5:amA w.heap.size w'.heap I' sz n tight g v):Post B0 h0 I0 L I' β objs ctr w' (objs.set key (some (.arr ctr sz n tight g))) w' (.vec key ctr sz 0 n) v:=by
 obtain⟨ad,len,cap,rfl,x1,x2,x3,x4⟩:=h5;rcases EM cap with hc0|hc0
 . obtain rfl:len=0:=ak;subst hc0;exact Lj R' (old:=none) (.inl hk) (λ_ h=>by cases h) ak _ _ _
 obtain⟨b,p,c,e,rfl,y1,y2,y3,y4,y5⟩:=x4 hc0;have hml:len*sz<=cap*sz:=oq _ x2;have oK:key<objs.length:=by
  rcases mK key objs.length with h|h
  . exact h
  have hn:objs[key]? = none:=OC (by simpa using h);rw[hn] at hk;cases hk
 refine R'.turn (old:=none) (X:=some (b,p,c)) rfl (.inl hk) (λ_ h=>by cases h) (λ_ _ _=>rfl) (iR _) ?_ ⟨ak,  .inr ⟨b,p,c,c,e,rfl,y3,rfl,?_,λi hi j hj=>?_⟩⟩ ?_
 . intro x hx;cases hx;exact⟨(yY.1 y3).1,.inr (.inr ⟨y2,by have:=R.size;omega,λk z hz=>by have:=R.lS hz;simp;omega⟩)⟩
 . have:n.toNat=len:=ak;rw[this];omega
 . obtain⟨z,z1,z2,z3⟩:=y5 i ak j hj;exact⟨z,z1,z2,Rd.mono (Goes.back _ _ _ _ _) _ _ z3⟩
 intro β' nS G';refine⟨.inr ⟨rfl,_,jd oK,rfl⟩,⟨_,_,_,rfl,x1,x2,λ_=>rfl⟩,λN t' f' ho=>?_⟩;have ho:=ho;simp only[killed] at ho;rw[jd oK] at ho;cases ho;exact⟨ak,ak,ak,_,_,_,rfl,x1,x2,λht=>by have:=x3 ht;omega,λ_=>⟨b,p,_,nS,bH,yh⟩⟩
theorem ajN(R:RM B0 h0 I0 L I β slots objs ctr a w){w':World}{I':IS}(h1:I.le I')(h2:I.New w.heap.size I' w'.heap.size)
  (h3 : ∀ b,b<w.heap.size->w'.heap[b]? = w.heap[b]?) (h4:w.heap.size<=w'.heap.size) (hwo:j3 w w') {sz:Nat} {n:Int} {tight:Bool} {g:Int->Nat->D} {v:Value} {key:Nat} (hk:objs[key]? = some none)
  (h5:Tf w.heap.size w'.heap I' (.own sz n tight g) v):Post B0 h0 I0 L I β objs ctr w (objs.set key (some (.arr ctr sz n tight g))) w' (.vec key ctr sz 0 n) v:=by
 obtain⟨G,R'⟩:=R.grow h1 h2 h3 h4 hwo;exact Post.after hwo G (agU R R' hk h5)
theorem aoz(R:RM B0 h0 I0 L I β slots objs ctr a w){w':World}{I':IS}(h1:I.le I')(h2:I.New w.heap.size I' w'.heap.size)
  (h3 : ∀ b,b<w.heap.size->w'.heap[b]? = w.heap[b]?) (h4:w.heap.size<=w'.heap.size) (hwo:j3 w w') {q k:Nat} {c:Nat->D} {sz:Nat} {n:Int} {tight:Bool} {g:Int->Nat->D} {v:Value} {key:Nat} (hk:objs[key]? = some none)
  (h5:Tf w.heap.size w'.heap I' (.CB q k c sz n tight g) v):Post B0 h0 I0 L I β objs ctr w (objs.set key (some (.arr ctr sz n tight g))) w' (.agg k λj=>if Nat.beq j q then .vec key ctr sz 0 n else c j) v:=by
 obtain⟨G,R'⟩:=R.grow h1 h2 h3 h4 hwo;obtain⟨ys,rfl,hs,hq,hc,z,hz,ho⟩:=h5;obtain⟨I2,β2,G2,x1,x2,x3,x4,x5,x6,x7,x8,x9⟩:=(agU R R' hk ho).ex;refine Post.after hwo G ⟨I2,β2,G2,x1,x2,x3,x4,x5,x6,x7,x8,ys,rfl,hs,λj hj=>?_⟩
 by_cases hjq:j=q
 . subst hjq;refine⟨z,hz,?_,by simpa using x9⟩;obtain⟨ad,l,cp,rfl,_⟩:=ho;rfl
 obtain⟨y,y1,y2,y3⟩:=hc j hj hjq;refine⟨y,y1,y2,?_⟩;have:Nat.beq j q=false:=by cases hb:Nat.beq j q with
  | false=>rfl
  | true=>exact absurd (dO hb) hjq
 simp only[this,oL,if_false];exact Rd.mono G2 _ _ (Rd.mono (Goes.back _ _ _ _ _) _ _ y3)
theorem EN(R:RM B0 h0 I0 L I β slots objs ctr a w){w':World}{I':IS}(h1:I.le I')(h2:I.New w.heap.size I' w'.heap.size)
  (h3 : ∀ b,b<w.heap.size->w'.heap[b]? = w.heap[b]?) (h4:w.heap.size<=w'.heap.size) (hwo:j3 w w') {d:D} {v:Value} (hd:tO d=false)
  (h5:Tf w.heap.size w'.heap I' d v):Post B0 h0 I0 L I β objs ctr w objs w' d v:=by
 obtain⟨G,R'⟩:=R.grow h1 h2 h3 h4 hwo;exact Post.after hwo G (R'.still (Rd.mono (Goes.back _ _ _ _ _) _ _ (ZW hd h5)))
theorem OE{objs:List (Option Ob)}{key:Nat}{d0 d:D}{o:Ob}{os os':List bC}{u:List (Nat×Option Ob)}(h:zN objs key d0 o os=some (d,u,os')):objs[key]? = some none/\d=d0/\u=[(key,some o)]/\os'=os:=by
 unfold zN at h;split at h
 . rename_i hk;simp only[aW,bM] at h;exact⟨hk,h.1.symm,h.2.1.symm,h.2.2.symm⟩
 cases h
theorem aqd(R:RM B0 h0 I0 L I β slots objs ctr a w){d d':D}{os:List bC}{y:Value}(h:ahE (std P) objs d=some (d',os))(hos : ∀ q∈os,q.run (std P))(hv:Rd w.heap I β objs ctr d y) :
  Rd w.heap (I.or (Blocks β)) (λ_=>none) [] (ctr+1) d' y:=by
 have G:Goes w.heap I β objs ctr w.heap (I.or (Blocks β)) (λ_=>none) [] (ctr+1):=by
  refine⟨λ_ x=>.inl x,λ_ _=>rfl,λ_ x=>.inl x,λid g hg=>.inl ?_,λid g hg o' ho' _ _=>by simp at ho'⟩;rcases hg with h|⟨h,_⟩<;>omega
 by_cases ave : ∃ id g sz off n,d = .vec id g sz off n
 . obtain⟨id,g,sz,off,n,rfl⟩:=ave;simp only[ahE] at h;split at h
   . rename_i g' sz' N t f dP;split at h
     . rename_i hsz;have hsz:=dO hsz;subst hsz;have key : ∀ hg:g=g',Rd w.heap (I.or (Blocks β)) (λ_=>none) [] (ctr+1) (.sl sz n (t&&(off+n==N)) (λi j=>f (off+i) j)) y:=by
        intro hg;subst hg;obtain⟨ad,len,cap,rfl,x1,x2,x3,x4⟩:=H6 hv dP (R.ob _ _ dP);refine⟨ad,len,cap,rfl,x1,x2,x3,λhp=>?_⟩;obtain⟨b,o,c,e,s,y1,rfl,y2,y3,y4,y5⟩:=x4 ak;refine⟨b,o,c,e,_,rfl,.inr ⟨id,_,y1,rfl⟩,y2,λi hi j hj=>?_⟩;obtain⟨z,z1,z2,z3⟩:=y5 i hi j hj;exact⟨z,z1,z2,Rd.mono G _ _ z3⟩
       split at h
       . simp only[aW,bM] at h;obtain⟨rfl,rfl⟩:=h;obtain⟨ad,len,cap,rfl,x1,x2,_,x4⟩:=key (hos _ (fQ.2 rfl));refine⟨ad,len,cap,rfl,x1,x2,(λh=>by cases h),λhp=>?_⟩;obtain⟨b,o,c,e,fr,e1,e2,e3,e4⟩:=x4 hp;refine⟨b,o,c,e,fr,e1,e2,e3,λi hi j hj=>?_⟩;obtain⟨z,z1,z2,z3⟩:=e4 i hi j hj;refine⟨z,z1,z2,?_⟩;have e0:(Int.ofNat 0:Int)+(i:Int)=i:=CR _;have z3:Rd w.heap (I.or (Blocks β)) (λ_=>none) [] (ctr+1) (f (Int.ofNat 0+(i:Int)) j) z:=z3;rw[e0] at z3;exact z3
       simp only[aW,bM] at h;obtain⟨rfl,rfl⟩:=h;exact key (hos _ (fQ.2 rfl))
     cases h
   cases h
 have e:ahE (std P) objs d=some (d,[]):=by cases d<;>first|rfl|exact absurd ⟨_,_,_,_,_,rfl⟩ ave
 rw[e] at h;simp only[aW,bM] at h;obtain⟨rfl,rfl⟩:=h;exact Rd.mono G _ _ hv
theorem ZX(R:RM B0 h0 I0 L I β slots objs ctr a w) : ∀ {cs cs':List D} {os:List bC},Vt (std P) objs cs=some (cs',os)->(∀ q∈os,q.run (std P))->cs'.length=cs.length/\∀ (j:Nat) (d:D),cs[j]? = some d->∃ d',cs'[j]? = some d'/\∀ y,Rd w.heap I β objs ctr d y->Rd w.heap (I.or (Blocks β)) (λ_=>none) [] (ctr+1) d' y
 | [],cs',os,h,_=>by
  simp only[Vt,aW,bM] at h;obtain⟨rfl,rfl⟩:=h;exact⟨rfl,λj d hj=>by simp at hj⟩
 | d::r,cs',os,h,hos=>by
  simp only[Vt] at h;split at h
  . rename_i d' os1 r' os2 hd hr;simp only[aW,bM] at h;obtain⟨rfl,rfl⟩:=h;obtain⟨h1,h2⟩:=ZX R hr (λq hq=>hos q (dR _ hq));refine⟨by simp[h1],λj x hj=>?_⟩;cases j with
    | zero=>
     simp only[lq,aW] at hj;subst hj;exact⟨d',rfl,λy hy=>aqd R hd (λq hq=>hos q (dW _ hq)) hy⟩
    | succ j=>simpa using h2 j x (by simpa using hj)
  cases h
theorem agV(R:RM B0 h0 I0 L I β slots objs ctr a w){d d':D}{os1:List bC}{y0:Value}(hd:ZY (std P) objs d=some (d',os1))(Cm : ∀ q∈os1,q.run (std P))(hv:Rd w.heap I β objs ctr d y0) :
  Rd w.heap (I.or (Blocks β)) (λ_=>none) [] (ctr+1) d' y0:=by
 have G:Goes w.heap I β objs ctr w.heap (I.or (Blocks β)) (λ_=>none) [] (ctr+1):=by
  refine⟨λ_ x=>.inl x,λ_ _=>rfl,λ_ x=>.inl x,λid g hg=>.inl ?_,λid g hg o' ho' _ _=>by simp at ho'⟩;rcases hg with h|⟨h,_⟩<;>omega
 unfold ZY at hd;split at hd
 . rename_i id g sz off n;split at hd
   . rename_i g' sz' N t f dP;split at hd
     . rename_i hsz;have hsz:=dO hsz;subst hsz;simp only[aW,bM] at hd;obtain⟨rfl,rfl⟩:=hd;have hg:g=g':=Cm _ (fQ.2 rfl);subst hg;obtain⟨ad,len,cap,rfl,x1,x2,x3,x4⟩:=H6 hv dP (R.ob _ _ dP);refine⟨ad,len,cap,rfl,x1,x2,x3,λhp=>?_⟩;obtain⟨b,o,c,e,s,y1,rfl,y2,y3,y4,y5⟩:=x4 ak;refine⟨b,o,c,e,_,rfl,.inr ⟨id,_,y1,rfl⟩,y2,λi hi j hj=>?_⟩;obtain⟨z,z1,z2,z3⟩:=y5 i hi j hj;exact⟨z,z1,z2,Rd.mono G _ _ z3⟩
     cases hd
   cases hd
 . rename_i id g j;split at hd
   . rename_i g' cs dP;split at hd
     . rename_i cs' os3 hcs;simp only[aW,bM] at hd;obtain⟨rfl,rfl⟩:=hd;have hg:g=g':=Cm _ (iO ..);subst hg;obtain⟨k1,k2⟩:=ZX R hcs (λq hq=>Cm q (gU _ hq));obtain⟨_,_,hx⟩:=hv;obtain⟨b,o,s,hb,rfl⟩:=hx _ dP;obtain⟨_,b',o',s',c,e,q1,q2,q3,q4,q5,q6⟩:=R.ob _ _ dP;rw[hb] at q1;cases q1;refine⟨ak,ak,b,o,c,e,_,bH,.inr ⟨id,_,hb,rfl⟩,q2,λi' hi j' hj=>?_⟩;have hj2:j'<cs.length:=ak;obtain⟨z,z1,z2,z3⟩:=q6 j' _ (iW hj2);obtain⟨d',d1,d2⟩:=k2 j' _ (iW hj2);have e0:i'=0:=ak;subst e0;refine⟨z,by simpa using z1,z2,?_⟩;have e1:cs'.getD j' .junk=d':=by simp[List.getD,d1]
       show Rd _ _ _ _ _ (cs'.getD j' .junk) z;rw[e1];exact d2 z z3
     cases hd
   cases hd
 . rename_i k c;split at hd
   . simp only[aW,bM] at hd;obtain⟨rfl,rfl⟩:=hd;exact Rd.mono G _ _ hv
   split at hd
   . rename_i cs' os3 hcs;simp only[aW,bM] at hd;obtain⟨rfl,rfl⟩:=hd;obtain⟨k1,k2⟩:=ZX R hcs Cm;obtain⟨ys,rfl,x1,x2⟩:=hv;refine⟨ys,rfl,x1,λj hj=>?_⟩;obtain⟨z,z1,z2,z3⟩:=x2 j hj;obtain⟨d',d1,d2⟩:=k2 j (c j) (by rw[yL,if_pos hj]);refine⟨z,z1,z2,?_⟩;have e1:cs'.getD j .junk=d':=by simp[List.getD,d1]
     show Rd _ _ _ _ _ (cs'.getD j .junk) z;rw[e1];exact d2 z z3
   cases hd
 simp only[aW,bM] at hd;obtain⟨rfl,rfl⟩:=hd;exact Rd.mono G _ _ hv
theorem agW(R:RM B0 h0 I0 L I β slots objs ctr a w) : ∀ {cs cs':List D} {os:List bC},Z0 (std P) objs cs=some (cs',os)->(∀ q∈os,q.run (std P))->cs'.length=cs.length/\∀ (j:Nat) (d:D),cs[j]? = some d->∃ d',cs'[j]? = some d'/\∀ y,Rd w.heap I β objs ctr d y->Rd w.heap (I.or (Blocks β)) (λ_=>none) [] (ctr+1) d' y
 | [],cs',os,h,_=>by
  simp only[Z0,aW,bM] at h;obtain⟨rfl,rfl⟩:=h;exact⟨rfl,λj d hj=>by simp at hj⟩
 | d::r,cs',os,h,hos=>by
  simp only[Z0] at h;split at h
  . rename_i d' os1 r' os2 hd hr;simp only[aW,bM] at h;obtain⟨rfl,rfl⟩:=h;obtain⟨h1,h2⟩:=agW R hr (λq hq=>hos q (dR _ hq));refine⟨by simp[h1],λj x hj=>?_⟩;cases j with
    | zero=>
     simp only[lq,aW] at hj;subst hj;exact⟨d',rfl,λy hy=>agV R hd (λq hq=>hos q (dW _ hq)) hy⟩
    | succ j=>simpa using h2 j x (by simpa using hj)
  cases h
theorem aqe(R:RM B0 h0 I0 L I β slots objs ctr a w){d d':D}{os1:List bC}{y0:Value}(hd:ahF (std P) objs d=some (d',os1))(Cm : ∀ q∈os1,q.run (std P))(hv:Rd w.heap I β objs ctr d y0) :
  Rd w.heap (I.or (Blocks β)) (λ_=>none) [] (ctr+1) d' y0:=by
 by_cases hf : ∃ f k c,d = .fn f k c
 . obtain⟨f,k,c,rfl⟩:=hf;have G:Goes w.heap I β objs ctr w.heap (I.or (Blocks β)) (λ_=>none) [] (ctr+1):=by
    refine⟨λ_ x=>.inl x,λ_ _=>rfl,λ_ x=>.inl x,λid g hg=>.inl ?_,λid g hg o' ho' _ _=>by simp at ho'⟩;rcases hg with h|⟨h,_⟩<;>omega
   simp only[ahF] at hd;split at hd
   . simp only[aW,bM] at hd;obtain⟨rfl,rfl⟩:=hd;exact Rd.mono G _ _ hv
   split at hd
   . rename_i cs' os3 hcs;simp only[aW,bM] at hd;obtain⟨rfl,rfl⟩:=hd;obtain⟨k1,k2⟩:=agW R hcs Cm;obtain⟨ys,rfl,x1,x2⟩:=hv;refine⟨ys,rfl,x1,λj hj=>?_⟩;obtain⟨z,z1,z3⟩:=x2 j hj;obtain⟨d',d1,d2⟩:=k2 j (c j) (by rw[yL,if_pos hj]);refine⟨z,z1,?_⟩;have e1:cs'.getD j .junk=d':=by simp[List.getD,d1]
     show Rd _ _ _ _ _ (cs'.getD j .junk) z;rw[e1];exact d2 z z3
   cases hd
 have e:ahF (std P) objs d=ZY (std P) objs d:=by cases d<;>first|rfl|exact absurd ⟨_,_,_,rfl⟩ hf
 rw[e] at hd;exact agV R hd Cm hv
theorem Vs(R:RM B0 h0 I0 L I β slots objs ctr a w) : ∀ {args va:List D} {vos:List bC} {vs:List Value},XC (std P) objs args=some (va,vos)->(∀ q∈vos,q.run (std P))->vs.length=args.length ->
  (∀ (t:Nat) (d:D),args[t]? = some d->∃ y,vs[t]? = some y/\Rd w.heap I β objs ctr d y) ->
  va.length=args.length/\∀ (t:Nat) (d:D),va[t]? = some d->∃ y,vs[t]? = some y/\Rd w.heap (I.or (Blocks β)) (λ_=>none) [] (ctr+1) d y
 | [],va,vos,vs,h,_,_,_=>by
  simp only[XC,aW,bM] at h;obtain⟨rfl,rfl⟩:=h;exact⟨rfl,λt d ht=>by simp at ht⟩
 | d::r,va,vos,vs,h,hos,hl,hargs=>by
  simp only[XC] at h;split at h
  . rename_i d' os1 r' os2 hd hr;simp only[aW,bM] at h;obtain⟨rfl,rfl⟩:=h;cases vs with
    | nil=>simp at hl
    | cons y0 vs=>
     obtain⟨h1,h2⟩:=Vs R (vs:=vs) hr (λq hq=>hos q (dR _ hq)) (by simpa using hl) (λt d ht=>by simpa using hargs (t+1) d (by simpa using ht));refine⟨by simp[h1],λt x ht=>?_⟩;cases t with
     | succ t=>simpa using h2 t x (by simpa using ht)
     | zero=>
      simp only[lq,aW] at ht;subst ht;obtain⟨y,hy,hv⟩:=hargs 0 d bH;simp only[lq,aW] at hy;subst hy;refine⟨y0,rfl,?_⟩;have Cm : ∀ q∈os1,q.run (std P):=λq hq=>hos q (dW _ hq);exact aqe R hd Cm hv
  cases h
end
section
variable {P:Program} {h:Array Obj} {I:IS} {β:Nat->Option (Nat×Nat×Array Value)} {objs:List (Option Ob)} {ctr:Nat}
theorem zO : ∀ (d d':D) (y:Value),cK (std P) d d'->Rd h I β objs ctr d y->Rd h I (λ_=>none) [] 0 d' y:=by
 intro d
 induction d with
 | v x=>
  intro d' y ho hr;cases hr;cases d' with
  | junk=>trivial
  | v x'=>
   cases x<;>cases x'<;>simp only[cK] at ho<;>first|exact ho.elim|skip
   case int.int k x k' x'=>
    split at ho
    . rename_i hk;subst hk;cases ho;rfl
    exact ho.elim
   case nilIface.nilIface=>rfl
   all_goals (cases ho;rfl)
  | _=>cases x<;>simp[cK] at ho
 | dX=>
  intro d' y ho hr;cases hr;cases d' with
  | junk=>trivial
  | dX=>rfl
  | sl sz n t f=>
   have ho:n=0:=ho;subst ho;exact⟨none,0,0,rfl,rfl,iR _,λ_=>rfl,λh=>by omega⟩
  | _=>simp[cK] at ho
 | sl sz n t f ih=>
  intro d' y ho hr;cases d' with
  | junk=>trivial
  | sl sz' n' t' f'=>
   simp only[cK] at ho;split at ho
   . rename_i hk;have hk:=dO hk;subst hk;obtain⟨h1,h2,h3⟩:=ho;have h1:n=n':=h1;subst h1;obtain⟨ad,len,cap,rfl,x1,x2,x3,x4⟩:=hr;refine⟨ad,len,cap,rfl,x1,x2,λht=>x3 (h2 ht),λhp=>?_⟩;obtain⟨b,o,c,e,fr,e1,e2,e3,e4⟩:=x4 hp;refine⟨b,o,c,e,fr,e1,e2,e3,λi hi j hj=>?_⟩;obtain⟨z,z1,z2,z3⟩:=e4 i hi j hj;exact⟨z,z1,z2,ih _ _ _ _ (h3 i ak ak j hj) z3⟩
   exact ho.elim
  | _=>simp[cK] at ho
 | agg k c ih=>
  intro d' y ho hr;cases d' with
  | junk=>trivial
  | agg k' c'=>
   simp only[cK] at ho;split at ho
   . rename_i hk;have hk:=dO hk;subst hk;obtain⟨ys,rfl,x1,x2⟩:=hr;refine⟨ys,rfl,x1,λj hj=>?_⟩;obtain⟨z,z1,z2,z3⟩:=x2 j hj;exact⟨z,z1,z2,ih _ _ _ (ho 0 ak ak j hj) z3⟩
   exact ho.elim
  | _=>simp[cK] at ho
 | jO k c ih=>
  intro d' y ho hr;cases d' with
  | junk=>trivial
  | jO k' c'=>
   simp only[cK] at ho;split at ho
   . rename_i hk;have hk:=dO hk;subst hk;obtain⟨ys,rfl,x1,x2⟩:=hr;refine⟨ys,rfl,x1,λj hj=>?_⟩;obtain⟨z,z1,z3⟩:=x2 j hj;exact⟨z,z1,ih _ _ _ (ho 0 ak ak j hj) z3⟩
   exact ho.elim
  | _=>simp[cK] at ho
 | gX sz n f i j ih=>
  intro d' y ho hr;cases d' with
  | junk=>trivial
  | gX sz' n' f' i' j'=>
   simp only[cK] at ho;split at ho
   . rename_i hk;have hk:=Bool.and_eq_true_iff.1 hk;have h1:=dO hk.1;have h2:=dO hk.2;subst h1 h2;obtain⟨h1,h2,h3⟩:=ho;have h1:n=n':=h1;have h2:i=i':=h2;subst h1 h2;obtain⟨x1,x2,b,o,c,e,fr,x3,x4,x5,x6⟩:=hr;refine⟨x1,x2,b,o,c,e,fr,x3,x4,x5,λq hq k hk=>?_⟩;obtain⟨z,z1,z2,z3⟩:=x6 q hq k hk;exact⟨z,z1,z2,ih _ _ _ _ (h3 q ak hq k hk) z3⟩
   exact ho.elim
  | _=>simp[cK] at ho
 | fn f k c ih=>
  intro d' y ho hr;cases d' with
  | junk=>trivial
  | fn f' k' c'=>
   cases f<;>cases f'<;>simp only[cK] at ho<;>first|exact ho.elim|skip
   obtain⟨h1,h2,ho⟩:=ho;cases h1;cases h2;obtain⟨ys,rfl,x1,x2⟩:=hr;refine⟨ys,rfl,x1,λj hj=>?_⟩;obtain⟨z,z1,z3⟩:=x2 j hj;exact⟨z,z1,ih _ _ _ (ho 0 ak ak j hj) z3⟩
  | _=>cases f<;>simp[cK] at ho
 | II t d ih=>
  intro d' y ho hr;cases d' with
  | junk=>trivial
  | II t' d'=>
   obtain⟨h1,ho⟩:=ho;cases h1;obtain⟨z,h2,h3⟩:=hr;exact⟨z,h2,ih _ _ ho h3⟩
  | _=>simp[cK] at ho
 | _=>
  intro d' y ho hr;cases d' with
  | junk=>trivial
  | _=>simp[cK] at ho
theorem Goes.ZQ(h:Array Obj)(I I':IS)(hI:I.le I'):Goes h I (λ_=>none) [] 0 h I' (λ_=>none) [] 0 :=
 ⟨hI.1,λ_ _=>rfl,hI.2,λ_ _ x=>x,λ_ _ _ o' ho' _ _=>⟨o',ho',Ob.qX _,rfl⟩⟩
end
section
variable {P:Program} {tt:TT} {B0:Nat} {h0:Array Obj} {I0 I:IS} {L:wU} {β:Nat->Option (Nat×Nat×Array Value)} {slots:List D} {objs:List (Option Ob)} {ctr:Nat} {a:Act} {w:World}
theorem La{y:Nat} : ∀ {l:List Nat},Kz l y=true↔y∈l
 | []=>by simp[Kz]
 | x::r=>by
  simp only[Kz,CU];split
  . rename_i h;simp[dO h]
  rename_i h;have : ¬ y=x:=λe=>h (by rw[e];exact kF _);simp[this,La]
theorem ajU{y:Nat} : ∀ {l:List Nat},y∈l->l[QE l y]? = some y
 | [],h=>by simp at h
 | x::r,h=>by
  simp only[QE];split
  . rename_i hx;simp[dO hx]
  rename_i hx;have : ¬ y=x:=λe=>hx (by rw[e];exact kF _);simp only[rZ];exact ajU ((CU.1 h).resolve_left this)
def LZ:D->Option Nat
 | .fq id _ _=>some id
 | .rO id _ _ _ _=>some id
 | .vec id _ _ _ _=>some id
 | _=>none
theorem Z4{l:List Nat}{id:Nat}(h:l.Nodup):(addN l id).Nodup/\(∀ x∈l,x∈addN l id)/\id∈addN l id:=by
 unfold addN;split
 . rename_i hm;exact⟨h,λx hx=>hx,La.1 hm⟩
 rename_i hm;refine⟨?_,λx hx=>dW _ hx,dR _ bH⟩;rw[List.nodup_append];refine⟨h,bH,λa ha b hb=>?_⟩;simp only[fQ] at hb;subst hb;intro e;subst e;exact hm (La.2 ha)
theorem Z5(d:D)(l:List Nat)(h:l.Nodup):(OW d l).Nodup/\(∀ x∈l,x∈OW d l)/\∀ id,LZ d=some id->id∈OW d l:=by
 cases d
 case fq id g j=>obtain⟨h1,h2,h3⟩:=Z4 (id:=id) h;exact⟨h1,h2,λx hx=>by cases hx;exact h3⟩
 case rO id g sz i j=>obtain⟨h1,h2,h3⟩:=Z4 (id:=id) h;exact⟨h1,h2,λx hx=>by cases hx;exact h3⟩
 case vec id g sz o n=>obtain⟨h1,h2,h3⟩:=Z4 (id:=id) h;exact⟨h1,h2,λx hx=>by cases hx;exact h3⟩
 all_goals exact⟨h,λx hx=>hx,λid hx=>by cases hx⟩
theorem Yd : ∀ (cs:List D) (l:List Nat),l.Nodup->(uG cs l).Nodup/\(∀ x∈l,x∈uG cs l)/\∀ (j:Nat) (d:D) (id:Nat),cs[j]? = some d->LZ d=some id->id∈uG cs l
 | [],l,h=>⟨h,λx hx=>hx,λj d id hj=>by simp at hj⟩
 | d::r,l,h=>by
  obtain⟨h1,h2,h3⟩:=Z5 d l h;obtain⟨k1,k2,k3⟩:=Yd r _ h1;refine⟨k1,λx hx=>k2 x (h2 x hx),λj x id hj hid=>?_⟩;cases j with
  | zero=>simp only[lq,aW] at hj;subst hj;exact k2 id (h3 id hid)
  | succ j=>exact k3 j x id (by simpa using hj) hid
theorem ajV(d:D)(l:List Nat)(h:l.Nodup):(OX d l).Nodup/\(∀ x∈l,x∈OX d l)/\(∀ id,LZ d=some id->id∈OX d l)/\∀ (k:Nat) (c:Nat->D) (j id:Nat),d = .agg k c->j<k->LZ (c j)=some id->id∈OX d l:=by
 by_cases hd : ∃ k c,d = .agg k c
 . obtain⟨k,c,rfl⟩:=hd;obtain⟨h1,h2,h3⟩:=Yd (cellsOf k c) l h;refine⟨h1,h2,(λid hid=>by cases hid),λk' c' j id he hj hid=>?_⟩;cases he;exact h3 j _ id (by rw[yL,if_pos hj]) hid
 have e:OX d l=OW d l:=by cases d<;>first|rfl|exact absurd ⟨_,_,rfl⟩ hd
 rw[e];obtain⟨h1,h2,h3⟩:=Z5 d l h;exact⟨h1,h2,h3,λk c j id he=>absurd ⟨k,c,he⟩ hd⟩
theorem abK : ∀ (args:List D) (l:List Nat),l.Nodup->(wH args l).Nodup/\(∀ x∈l,x∈wH args l)/\∀ (t:Nat) (d:D),args[t]? = some d ->
  (∀ id,LZ d=some id->id∈wH args l)/\∀ (k:Nat) (c:Nat->D) (j id:Nat),d = .agg k c->j<k->LZ (c j)=some id->id∈wH args l
 | [],l,h=>⟨h,λx hx=>hx,λt d ht=>by simp at ht⟩
 | d::r,l,h=>by
  obtain⟨h1,h2,h3,h4⟩:=ajV d l h;obtain⟨k1,k2,k3⟩:=abK r _ h1;refine⟨k1,λx hx=>k2 x (h2 x hx),λt x ht=>?_⟩;cases t with
  | zero=>
   simp only[lq,aW] at ht;subst ht;exact⟨λid hid=>k2 id (h3 id hid),λk c j id he hj hid=>k2 id (h4 k c j id he hj hid)⟩
  | succ t=>exact k3 t x (by simpa using ht)
theorem abL : ∀ (u:List (Nat×Option Ob)) (objs:List (Option Ob)),(u.map (·.1)).Nodup->(∀ x∈u,x.1<objs.length) ->
  (bX objs u).length=objs.length/\(∀ id,id∉u.map (·.1)->(bX objs u)[id]? = objs[id]?)/\∀ x∈u,(bX objs u)[x.1]? = some x.2
 | [],objs,_,_=>⟨rfl,λ_ _=>rfl,λx hx=>by simp at hx⟩
 | (k,o)::r,objs,hn,hl=>by
  simp only[EI,List.nodup_cons] at hn;obtain⟨h1,h2,h3⟩:=abL r (objs.set k o) hn.2 (λx hx=>by simpa using hl x (gU _ hx));refine⟨by simpa[bX] using h1,λid hid=>?_,λx hx=>?_⟩
  . simp only[EI,CU,not_or] at hid;simp only[bX];rw[h2 id hid.2,jR (Ne.symm hid.1)]
  simp only[bX];rcases CU.1 hx with rfl|hx
  . rw[h2 k hn.1];exact jd (hl (k,o) (iO ..))
  exact h3 x hx
theorem aqf{objs:List (Option Ob)}{d:D}(h:(Z7 (std P) objs d).run (std P)):(∃ id g o,LZ d=some id/\objs[id]? = some (some o)/\g=o.gen/\((∃ j,d = .fq id g j)\/(∃ sz i j,d = .rO id g sz i j)\/∃ sz off n,d = .vec id g sz off n))\/(LZ d=none/\pW (std P) d):=by
 cases d<;>simp only[Z7] at h
 case fq id g j=>
  left;split at h
  . rename_i o ho;exact⟨id,g,o,rfl,ho,h,.inl ⟨j,rfl⟩⟩
  exact False.elim h
 case rO id g sz i j=>
  left;split at h
  . rename_i o ho;exact⟨id,g,o,rfl,ho,h,.inr (.inl ⟨sz,i,j,rfl⟩)⟩
  exact False.elim h
 case vec id g sz off n=>
  left;split at h
  . rename_i o ho;exact⟨id,g,o,rfl,ho,h,.inr (.inr ⟨sz,off,n,rfl⟩)⟩
  exact False.elim h
 all_goals exact .inr ⟨rfl,h⟩
theorem ajW{objs:List (Option Ob)} : ∀ {l:List D},(∀ q∈aqg (std P) objs l,q.run (std P))->∀ (j:Nat) (d:D),l[j]? = some d->(Z7 (std P) objs d).run (std P)
 | [],_,j,d,hj=>by simp at hj
 | c::r,h,j,d,hj=>by
  cases j with
  | zero=>simp only[lq,aW] at hj;subst hj;exact h _ (iO ..)
  | succ j=>exact ajW (λq hq=>h q (gU _ hq)) j d (by simpa using hj)
theorem abM{objs:List (Option Ob)} : ∀ {args:List D},(∀ q∈Vu (std P) objs args,q.run (std P))->∀ (t:Nat) (d:D),args[t]? = some d ->
  (∃ k c,d = .agg k c/\((QF (uG (cellsOf k c) [])=true/\pW (std P) d)\/(QF (uG (cellsOf k c) [])=false/\∀ j,j<k->(Z7 (std P) objs (c j)).run (std P))))\/((∀ k c,d≠.agg k c)/\(Z7 (std P) objs d).run (std P))
 | [],_,t,d,ht=>by simp at ht
 | c::r,h,t,d,ht=>by
  simp only[Vu] at h;cases t with
  | succ t=>exact abM (λq hq=>h q (dR _ hq)) t d (by simpa using ht)
  | zero=>
   simp only[lq,aW] at ht;subst ht
   by_cases hc : ∃ k f,c = .agg k f
   . obtain⟨k,f,rfl⟩:=hc;refine .inl ⟨k,f,rfl,?_⟩;cases hb:QF (uG (cellsOf k f) []) with
     | true=>
      simp only[hb,if_true] at h;exact .inl ⟨rfl,h (.pW (.agg k f)) bH⟩
     | false=>
      simp only[hb,oL,if_false] at h;refine .inr ⟨rfl,λj hj=>ajW (l:=cellsOf k f) (λq hq=>h q (dW _ hq)) j _ (by rw[yL,if_pos hj])⟩
   refine .inr ⟨λk f e=>hc ⟨k,f,e⟩,?_⟩;cases c<;>first|exact absurd ⟨_,_,rfl⟩ hc|exact h _ bH
theorem Xq : ∀ {l:List Nat},ZT l=true->l.Nodup
 | [],_=>List.nodup_nil
 | x::r,h=>by
  simp only[ZT,ig,Ij] at h;rw[List.nodup_cons];exact⟨λhx=>by rw[La.2 hx] at h;exact absurd h.1 bH,Xq h.2⟩
theorem Lm : ∀ {l:List (Nat×Int×Ob)} {i:Nat},(mg l)[i]? = (l[i]?).map (·.1)
 | [],i=>by simp[mg]
 | x::r,0=>by simp[mg]
 | x::r,i+1=>by simp only[mg,rZ];exact Lm
theorem ajX : ∀ {l:List (Nat×Int×Ob)} {i:Nat},(CG l)[i]? = (l[i]?).map (·.2.2)
 | [],i=>by simp[CG]
 | x::r,0=>by simp[CG]
 | x::r,i+1=>by simp only[CG,rZ];exact ajX
theorem ajY : ∀ {l:List (Nat×Int×Ob)},(mg l).length=l.length
 | []=>rfl
 | _::r=>by simp only[mg,tX];rw[ajY]
theorem ajZ : ∀ {l:List (Nat×Int×Ob)},(CG l).length=l.length
 | []=>rfl
 | _::r=>by simp only[CG,tX];rw[ajZ]
def amZ(objs:List (Option Ob))(ctr:Nat)(d:D)(x:Nat×Int×Ob):Prop :=
 ∃ g sz n N t f,d = .vec x.1 g sz x.2.1 n/\objs[x.1]? = some (some (.arr g sz N t f))/\x.2.2 = .arr 0 sz n false (λi j=>f (x.2.1+i) j)/\g<ctr/\∀ i:Int,0<=i->i<n->∀ j,j<sz->pW (std P) (f (x.2.1+i) j)
def am0(objs:List (Option Ob))(ctr k:Nat)(is:List (Nat×Int×Ob))(d d':D):Prop :=
 (d'=d/\pW (std P) d)\/∃ i x g sz n,is[i]? = some x/\amZ (P:=P) objs ctr d x/\d = .vec x.1 g sz x.2.1 n/\d' = .vec (k+i) 0 sz 0 n
theorem aqh{p:Pr}{objs:List (Option Ob)}{ctr:Nat}{d:D}{r:List D}{k:Nat}(h : ∀ id g sz off n,d≠.vec id g sz off n):TD p objs ctr (d::r) k=match TD p objs ctr r k with
  | some (cs,is,os)=>some (d::cs,is,bC.pW d::os)
  | none=>none:=by
 cases d<;>first|rfl|exact absurd rfl (h _ _ _ _ _)
theorem XD{objs:List (Option Ob)}{ctr:Nat} : ∀ {l:List D} {k:Nat} {cs:List D} {is:List (Nat×Int×Ob)} {os:List bC},TD (std P) objs ctr l k=some (cs,is,os)->(∀ q∈os,q.run (std P)) ->
  cs.length=l.length/\(∀ (j:Nat) (d:D),l[j]? = some d->∃ d',cs[j]? = some d'/\am0 (P:=P) objs ctr k is d d')/\∀ (i:Nat) (x:Nat×Int×Ob),is[i]? = some x->∃ (j:Nat) (d:D),l[j]? = some d/\amZ (P:=P) objs ctr d x
 | [],k,cs,is,os,h,_=>by
  simp only[TD,aW,bM] at h;obtain⟨rfl,rfl,rfl⟩:=h;exact⟨rfl,λj d hj=>by simp at hj,λi x hi=>by simp at hi⟩
 | d::r,k,cs,is,os,h,hos=>by
  by_cases hv : ∃ id g sz off n,d = .vec id g sz off n
  . obtain⟨id,g,sz,off,n,rfl⟩:=hv;simp only[TD] at h;split at h
    . rename_i g' sz' N t f ho;have hf:f=λi j=>f (0+i) j:=by funext i j;rw[CR]
      split at h
      . rename_i hsz;have hsz:=dO hsz;subst hsz;split at h
        . rename_i cs1 is1 os1 hr;simp only[aW,bM] at h;obtain⟨rfl,rfl,rfl⟩:=h;have e1:g=g':=hos _ (iO ..);subst e1;have e2:g<ctr:=hos _ (gU _ (iO ..));have e3:=hos _ (gU _ (gU _ (iO ..)));obtain⟨h1,h2,h3⟩:=XD hr (λq hq=>hos q (gU _ (gU _ (gU _ hq))));have hI:amZ (P:=P) objs ctr (.vec id g sz (.ofNat 0) n) (id,0,.arr 0 sz n false f):=⟨g,sz,n,N,t,f,rfl,ho,congrArg _ hf,e2,λi i0 i1 j hj=>by show pW (std P) (f (0+i) j);rw[CR];exact e3 i i0 i1 j hj⟩
          refine⟨by simp[h1],λj d hj=>?_,λi x hi=>?_⟩
          . cases j with
            | zero=>
             simp only[lq,aW] at hj;subst hj;exact⟨_,rfl,.inr ⟨0,_,g,sz,n,rfl,hI,rfl,rfl⟩⟩
            | succ j=>
             obtain⟨d',d1,d2⟩:=h2 j d (by simpa using hj);refine⟨d',by simpa using d1,?_⟩;rcases d2 with d2|⟨i,x,g1,Vo,n1,i1,i2,i3,i4⟩
             . exact .inl d2
             exact .inr ⟨i+1,x,g1,Vo,n1,by simpa using i1,i2,i3,by rw[i4];congr 1;omega⟩
          cases i with
          | zero=>
           simp only[lq,aW] at hi;subst hi;exact⟨0,_,rfl,hI⟩
          | succ i=>
           obtain⟨j,d,j1,j2⟩:=h3 i x (by simpa using hi);exact⟨j+1,d,by simpa using j1,j2⟩
        cases h
      cases h
    cases h
  rw[aqh (λid g sz off n e=>hv ⟨id,g,sz,off,n,e⟩)] at h;split at h
  . rename_i cs1 is1 os1 hr;simp only[aW,bM] at h;obtain⟨rfl,rfl,rfl⟩:=h;have e1:pW (std P) d:=hos _ (iO ..);obtain⟨h1,h2,h3⟩:=XD hr (λq hq=>hos q (gU _ hq));refine⟨by simp[h1],λj d0 hj=>?_,λi x hi=>?_⟩
    . cases j with
      | zero=>
       simp only[lq,aW] at hj;subst hj;exact⟨_,rfl,.inl ⟨rfl,e1⟩⟩
      | succ j=>simpa using h2 j d0 (by simpa using hj)
    obtain⟨j,d0,j1,j2⟩:=h3 i x hi;exact⟨j+1,d0,by simpa using j1,j2⟩
  cases h
theorem OG{objs:List (Option Ob)}{ctr:Nat}{win:Nat->Nat} : ∀ {ids:List Nat} {posts:List Ob} {k:Nat} {ts:List Ob} {is:List (Nat×Int×Ob)} {os:List bC},JB (std P) objs ctr win ids posts k=some (ts,is,os)->(∀ q∈os,q.run (std P)) ->
  ts.length=ids.length/\(∀ (t id:Nat),ids[t]? = some id ->
   (∃ g cs g' cs' c1,objs[id]? = some (some (.box g cs))/\posts[t]? = some (.box g' cs')/\ts[t]? = some (.box 0 c1)/\win id+cs'.length<=cs.length/\c1.length=cs'.length /\
    ∀ j,j<cs'.length->∃ d d',cs[win id+j]? = some d/\c1[j]? = some d'/\am0 (P:=P) objs ctr k is d d') \/
   (∃ g sz n tt f,objs[id]? = some (some (.arr g sz n tt f))/\ts[t]? = some (.arr 0 sz n tt f)/\∀ i:Int,0<=i->i<n->∀ j,j<sz->pW (std P) (f i j))) /\
  ∀ (i:Nat) (x:Nat×Int×Ob),is[i]? = some x->∃ (id g:Nat) (cs:List D) (j:Nat) (d:D),objs[id]? = some (some (.box g cs))/\cs[j]? = some d/\amZ (P:=P) objs ctr d x
 | [],posts,k,ts,is,os,h,_=>by
  simp only[JB,aW,bM] at h;obtain⟨rfl,rfl,rfl⟩:=h;exact⟨rfl,λt id ht=>by simp at ht,λi x hi=>by simp at hi⟩
 | id::r,[],k,ts,is,os,h,_=>by simp[JB] at h
 | id::r,.iter _ _ _::_,k,ts,is,os,h,_=>by simp[JB] at h
 | id::r,.box g' cs'::qs,k,ts,is,os,h,hos=>by
  simp only[JB] at h;split at h
  . rename_i g cs ho;split at h
    . rename_i hle;have hle:=sw hle;split at h
      . rename_i c1 i1 o1 hc;split at h
        . rename_i ts1 is1 os1 hr;simp only[aW,bM] at h;obtain⟨rfl,rfl,rfl⟩:=h;obtain⟨a1,a2,a3⟩:=XD hc (λq hq=>hos q (dW _ hq));obtain⟨b1,b2,b3⟩:=OG hr (λq hq=>hos q (dR _ hq));have hwin : ∀ j,j<cs'.length->((cs.drop (win id)).take cs'.length)[j]? = cs[win id+j]?:=λj hj=>by
           rw[Xv hj,Xu]
          have hwl:((cs.drop (win id)).take cs'.length).length=cs'.length:=yh;refine⟨by simp[b1],λt id1 ht=>?_,λi x hi=>?_⟩
          . cases t with
            | zero=>
             simp only[lq,aW] at ht;subst ht;refine .inl ⟨g,cs,g',cs',c1,ho,rfl,rfl,hle,a1.trans hwl,λj hj=>?_⟩;have hlt:win id+j<cs.length:=ak;obtain⟨d',d1,d2⟩:=a2 j _ ((hwin j hj).trans (iW hlt));refine⟨_,d',iW hlt,d1,?_⟩;rcases d2 with d2|⟨i,x,g1,Vo,n1,i1',i2,i3,i4⟩
             . exact .inl d2
             refine .inr ⟨i,x,g1,Vo,n1,?_,i2,i3,i4⟩;rw[sj (gZ.1 i1').1];exact i1'
            | succ t=>
             rcases b2 t id1 (by simpa using ht) with⟨g2,cs2,g3,Z8,c2,e1,e2,e3,e4,e5,e6⟩|e
             . refine .inl ⟨g2,cs2,g3,Z8,c2,e1,by simpa using e2,by simpa using e3,e4,e5,λj hj=>?_⟩;obtain⟨d,d',d1,d2,d3⟩:=e6 j hj;refine⟨d,d',d1,d2,?_⟩;rcases d3 with d3|⟨i,x,g1,Vo,n1,i1',i2,i3,i4⟩
               . exact .inl d3
               refine .inr ⟨i1.length+i,x,g1,Vo,n1,?_,i2,i3,by rw[i4];congr 1;omega⟩;rw[uZ ak];rw[show i1.length+i-i1.length=i by omega];exact i1'
             obtain⟨g2,mD,n2,t2,f2,e1,e2,e3⟩:=e;exact .inr ⟨g2,mD,n2,t2,f2,e1,by simpa using e2,e3⟩
          rcases mK i i1.length with hlt|hge
          . rw[sj hlt] at hi;obtain⟨j,d,j1,j2⟩:=a3 i x hi;have hjl:j<cs'.length:=by
             have:=(gZ.1 j1).1;rw[hwl] at this;exact this
            rw[hwin j hjl] at j1;exact⟨id,g,cs,win id+j,d,ho,j1,j2⟩
          rw[uZ hge] at hi;exact b3 _ x hi
        cases h
      cases h
    cases h
  cases h
 | id::r,.arr g' sz' n' t' f'::qs,k,ts,is,os,h,hos=>by
  simp only[JB] at h;split at h
  . rename_i g sz n tt f ho;split at h
    . rename_i ts1 is1 os1 hr;simp only[aW,bM] at h;obtain⟨rfl,rfl,rfl⟩:=h;have e0:=hos _ (iO ..);obtain⟨b1,b2,b3⟩:=OG hr (λq hq=>hos q (gU _ hq));refine⟨by simp[b1],λt id1 ht=>?_,b3⟩;cases t with
      | zero=>
       simp only[lq,aW] at ht;subst ht;exact .inr ⟨g,sz,n,tt,f,ho,rfl,e0⟩
      | succ t=>
       rcases b2 t id1 (by simpa using ht) with⟨g2,cs2,g3,Z8,c2,e1,e2,e3,e4⟩|⟨g2,mD,n2,t2,f2,e1,e2,e3⟩
       . exact .inl ⟨g2,cs2,g3,Z8,c2,e1,by simpa using e2,by simpa using e3,e4⟩
       exact .inr ⟨g2,mD,n2,t2,f2,e1,by simpa using e2,e3⟩
    cases h
  cases h
 | id::r,.dead g'::qs,k,ts,is,os,h,hos=>by
  simp only[JB] at h;split at h
  . rename_i g sz n tt f ho;split at h
    . rename_i ts1 is1 os1 hr;simp only[aW,bM] at h;obtain⟨rfl,rfl,rfl⟩:=h;have e0:=hos _ (iO ..);obtain⟨b1,b2,b3⟩:=OG hr (λq hq=>hos q (gU _ hq));refine⟨by simp[b1],λt id1 ht=>?_,b3⟩;cases t with
      | zero=>
       simp only[lq,aW] at ht;subst ht;exact .inr ⟨g,sz,n,tt,f,ho,rfl,e0⟩
      | succ t=>
       rcases b2 t id1 (by simpa using ht) with⟨g2,cs2,g3,Z8,c2,e1,e2,e3,e4⟩|⟨g2,mD,n2,t2,f2,e1,e2,e3⟩
       . exact .inl ⟨g2,cs2,g3,Z8,c2,e1,by simpa using e2,by simpa using e3,e4⟩
       exact .inr ⟨g2,mD,n2,t2,f2,e1,by simpa using e2,e3⟩
    cases h
  cases h
theorem aqi{p:Pr}{ctr top:Nat}{all:List Nat}{d:D}{r:List D}(h : ∀ id g sz off n,d≠.vec id g sz off n):TF p ctr top all (d::r)=match TF p ctr top all r with
  | some (cs,os)=>some (d::cs,bC.pW d::os)
  | none=>none:=by
 cases d<;>first|rfl|exact absurd rfl (h _ _ _ _ _)
def am1(ctr top:Nat)(all:List Nat)(d e:D):Prop:=(e=d/\pW (std P) d)\/∃ k id sz o n,d = .vec k 1 sz o n/\top<=k/\all[k]? = some id/\e = .vec id ctr sz o n
theorem XE{ctr top:Nat}{all:List Nat} : ∀ {l cs:List D} {os:List bC},TF (std P) ctr top all l=some (cs,os)->(∀ q∈os,q.run (std P))->cs.length=l.length/\∀ (j:Nat) (d:D),l[j]? = some d->∃ e,cs[j]? = some e/\am1 (P:=P) ctr top all d e
 | [],cs,os,h,_=>by
  simp only[TF,aW,bM] at h;obtain⟨rfl,rfl⟩:=h;exact⟨rfl,λj d hj=>by simp at hj⟩
 | d::r,cs,os,h,hos=>by
  by_cases hv : ∃ id g sz off n,d = .vec id g sz off n
  . obtain⟨id,g,sz,off,n,rfl⟩:=hv;simp only[TF] at h;split at h
    . rename_i i0 cs1 os1 ha hr;split at h
      . rename_i hk;simp only[ig] at hk;have hk1:=sw hk.1;have hk2:=dO hk.2;subst hk2;simp only[aW,bM] at h;obtain⟨rfl,rfl⟩:=h;obtain⟨h1,h2⟩:=XE hr hos;refine⟨by simp[h1],λj d hj=>?_⟩;cases j with
        | zero=>
         simp only[lq,aW] at hj;subst hj;exact⟨_,rfl,.inr ⟨id,i0,sz,off,n,rfl,hk1,ha,rfl⟩⟩
        | succ j=>simpa using h2 j d (by simpa using hj)
      cases h
    cases h
  rw[aqi (λid g sz off n e=>hv ⟨id,g,sz,off,n,e⟩)] at h;split at h
  . rename_i cs1 os1 hr;simp only[aW,bM] at h;obtain⟨rfl,rfl⟩:=h;have e1:pW (std P) d:=hos _ (iO ..);obtain⟨h1,h2⟩:=XE hr (λq hq=>hos q (gU _ hq));refine⟨by simp[h1],λj d0 hj=>?_⟩;cases j with
    | zero=>
     simp only[lq,aW] at hj;subst hj;exact⟨_,rfl,.inl ⟨rfl,e1⟩⟩
    | succ j=>simpa using h2 j d0 (by simpa using hj)
  cases h
theorem OH{objs:List (Option Ob)}{ctr top:Nat}{all:List Nat}{win:Nat->Nat} : ∀ {ids:List Nat} {posts:List Ob} {u:List (Nat×Option Ob)} {os:List bC},JC (std P) objs ctr top all win ids posts=some (u,os)->(∀ q∈os,q.run (std P)) ->
  u.map (·.1)=ids/\∀ (t id:Nat),ids[t]? = some id->(∃ g cs cs' c1,objs[id]? = some (some (.box g cs))/\posts[t]? = some (.box 0 cs')/\win id+cs'.length<=cs.length/\(id,some (.box g (oD cs (win id) c1)))∈u/\c1.length=cs'.length /\
    ∀ (j:Nat) (d:D),cs'[j]? = some d->∃ e,c1[j]? = some e/\am1 (P:=P) ctr top all d e) \/
   (∃ g sz n t0 f f',objs[id]? = some (some (.arr g sz n t0 f))/\posts[t]? = some (.arr 0 sz n t0 f')/\(id,some (.arr g sz n t0 f'))∈u/\∀ i:Int,0<=i->i<n->∀ j,j<sz->pW (std P) (f' i j)) \/
   (∃ g sz n t0 f,objs[id]? = some (some (.arr g sz n t0 f))/\posts[t]? = some (.dead 1)/\(id,some (.dead ctr))∈u)
 | [],posts,u,os,h,_=>by
  simp only[JC,aW,bM] at h;obtain⟨rfl,rfl⟩:=h;exact⟨rfl,λt id ht=>by simp at ht⟩
 | id::r,[],u,os,h,_=>by simp[JC] at h
 | id::r,.iter _ _ _::_,u,os,h,_=>by simp[JC] at h
 | id::r,.dead g'::qs,u,os,h,hos=>by
  simp only[JC] at h;split at h
  . rename_i g sz n t0 f ho;split at h
    . rename_i hg;have hg:=dO hg;subst hg;split at h
      . rename_i u1 os1 hr;simp only[aW,bM] at h;obtain⟨rfl,rfl⟩:=h;obtain⟨b1,b2⟩:=OH hr hos;refine⟨by simp[b1],λt id1 ht=>?_⟩;cases t with
        | zero=>
         simp only[lq,aW] at ht;subst ht;exact .inr (.inr ⟨g,sz,n,t0,f,ho,rfl,iO ..⟩)
        | succ t=>
         rcases b2 t id1 (by simpa using ht) with⟨g2,cs2,Z8,c2,e1,e2,e3,e4,e5⟩|⟨g2,mD,n2,t2,f2,f3,e1,e2,e3,e4⟩|⟨g2,mD,n2,t2,f2,e1,e2,e3⟩
         . exact .inl ⟨g2,cs2,Z8,c2,e1,by simpa using e2,e3,gU _ e4,e5⟩
         . exact .inr (.inl ⟨g2,mD,n2,t2,f2,f3,e1,by simpa using e2,gU _ e3,e4⟩)
         exact .inr (.inr ⟨g2,mD,n2,t2,f2,e1,by simpa using e2,gU _ e3⟩)
      cases h
    cases h
  cases h
 | id::r,.box g' cs'::qs,u,os,h,hos=>by
  simp only[JC] at h;split at h
  . rename_i g cs ho;split at h
    . rename_i hg;simp only[ig] at hg;have hle:=sw hg.2;have hg:=dO hg.1;subst hg;split at h
      . rename_i c1 o1 hc;split at h
        . rename_i u1 os1 hr;simp only[aW,bM] at h;obtain⟨rfl,rfl⟩:=h;obtain⟨a1,a2⟩:=XE hc (λq hq=>hos q (dW _ hq));obtain⟨b1,b2⟩:=OH hr (λq hq=>hos q (dR _ hq));refine⟨by simp[b1],λt id1 ht=>?_⟩;cases t with
          | zero=>
           simp only[lq,aW] at ht;subst ht;exact .inl ⟨g,cs,cs',c1,ho,rfl,hle,iO ..,a1,a2⟩
          | succ t=>
           rcases b2 t id1 (by simpa using ht) with⟨g2,cs2,Z8,c2,e1,e2,e3,e4,e5⟩|⟨g2,mD,n2,t2,f2,f3,e1,e2,e3,e4⟩|⟨g2,mD,n2,t2,f2,e1,e2,e3⟩
           . exact .inl ⟨g2,cs2,Z8,c2,e1,by simpa using e2,e3,gU _ e4,e5⟩
           . exact .inr (.inl ⟨g2,mD,n2,t2,f2,f3,e1,by simpa using e2,gU _ e3,e4⟩)
           exact .inr (.inr ⟨g2,mD,n2,t2,f2,e1,by simpa using e2,gU _ e3⟩)
        cases h
      cases h
    cases h
  cases h
 | id::r,.arr g' sz' n' t' f'::qs,u,os,h,hos=>by
  simp only[JC] at h;split at h
  . rename_i g sz n t0 f ho;split at h
    . rename_i hg;simp only[ig] at hg;have hg1:=dO hg.1;have hg2:=dO hg.2;subst hg1;subst hg2;split at h
      . rename_i u1 os1 hr;simp only[aW,bM] at h;obtain⟨rfl,rfl⟩:=h;have e1:n=n':=hos _ (iO ..);have e2:t0=t':=hos _ (gU _ (iO ..));subst e1;subst e2;have e3:=hos _ (gU _ (gU _ (iO ..)));obtain⟨b1,b2⟩:=OH hr (λq hq=>hos q (gU _ (gU _ (gU _ hq))));refine⟨by simp[b1],λt id1 ht=>?_⟩;cases t with
        | zero=>
         simp only[lq,aW] at ht;subst ht;exact .inr (.inl ⟨g,sz,n,t0,f,f',ho,rfl,iO ..,e3⟩)
        | succ t=>
         rcases b2 t id1 (by simpa using ht) with⟨g2,cs2,Z8,c2,e1,e2,e3,e4,e5⟩|⟨g2,mD,n2,t2,f2,f3,e1,e2,e3,e4⟩|⟨g2,mD,n2,t2,f2,e1,e2,e3⟩
         . exact .inl ⟨g2,cs2,Z8,c2,e1,by simpa using e2,e3,gU _ e4,e5⟩
         . exact .inr (.inl ⟨g2,mD,n2,t2,f2,f3,e1,by simpa using e2,gU _ e3,e4⟩)
         exact .inr (.inr ⟨g2,mD,n2,t2,f2,e1,by simpa using e2,gU _ e3⟩)
      cases h
    cases h
  cases h
theorem aeK{ctr:Nat} : ∀ {is:List (Nat×Int×Ob)} {posts:List Ob} {u:List (Nat×Option Ob)} {os:List bC},EO (std P) ctr is posts=some (u,os)->(∀ q∈os,q.run (std P)) ->
  u.map (·.1)=mg is/\posts.length=is.length/\∀ (i:Nat) (x:Nat×Int×Ob),is[i]? = some x->∃ sz n' t' f',posts[i]? = some (.arr 1 sz n' t' f')/\(x.1,some (.arr ctr sz n' false f'))∈u/\(∃ g n t f,x.2.2 = .arr g sz n t f)/\∀ i:Int,0<=i->i<n'->∀ j,j<sz->pW (std P) (f' i j)
 | [],[],u,os,h,_=>by
  simp only[EO,aW,bM] at h;obtain⟨rfl,rfl⟩:=h;exact⟨rfl,rfl,λi x hi=>by simp at hi⟩
 | [],_::_,u,os,h,_=>by simp[EO] at h
 | (id,off,.box _ _)::r,_,u,os,h,_=>by simp[EO] at h
 | (id,off,.iter _ _ _)::r,_,u,os,h,_=>by simp[EO] at h
 | (id,off,.dead _)::r,_,u,os,h,_=>by simp[EO] at h
 | (id,off,.arr _ _ _ _ _)::r,[],u,os,h,_=>by simp[EO] at h
 | (id,off,.arr _ _ _ _ _)::r,.box _ _::_,u,os,h,_=>by simp[EO] at h
 | (id,off,.arr _ _ _ _ _)::r,.iter _ _ _::_,u,os,h,_=>by simp[EO] at h
 | (id,off,.arr _ _ _ _ _)::r,.dead _::_,u,os,h,_=>by simp[EO] at h
 | (id,off,.arr g sz n t f)::r,.arr g' sz' n' t' f'::qs,u,os,h,hos=>by
  simp only[EO] at h;split at h
  . rename_i hg;simp only[ig] at hg;have hg1:=dO hg.1;have hg2:=dO hg.2;subst hg1;subst hg2;split at h
    . rename_i u1 os1 hr;simp only[aW,bM] at h;obtain⟨rfl,rfl⟩:=h;have e3:=hos _ (iO ..);obtain⟨b1,b0,b2⟩:=aeK hr (λq hq=>hos q (gU _ hq));refine⟨by simp[b1,mg],by simp[b0],λi x hi=>?_⟩;cases i with
      | zero=>
       simp only[lq,aW] at hi;subst hi;exact⟨sz,n',t',f',rfl,iO ..,⟨g,n,t,f,rfl⟩,e3⟩
      | succ i=>
       obtain⟨Vo,n1,t1,f1,a1,a2,a3,a4⟩:=b2 i x (by simpa using hi);exact⟨Vo,n1,t1,f1,by simpa using a1,gU _ a2,a3,a4⟩
    cases h
  cases h
theorem aj0 : ∀ {cs:List D},(∀ q∈aqj (std P) cs,q.run (std P))->∀ (j:Nat) (d:D),cs[j]? = some d->pW (std P) d
 | [],_,j,d,hj=>by simp at hj
 | c::r,h,j,d,hj=>by
  cases j with
  | zero=>simp only[lq,aW] at hj;subst hj;exact h _ (iO ..)
  | succ j=>exact aj0 (λq hq=>h q (gU _ hq)) j d (by simpa using hj)
theorem acV{h:Array Obj}{I I':IS}{β β':Nat->Option (Nat×Nat×Array Value)}{objs bN:List (Option Ob)}{ctr lC k k' g:Nat}{o:Ob}(hg:g<=lC)(hI:I.le I')
  (hn : ∀ x,β k=some x->¬ I' x.1) (nS:β' k'=β k) (hc : ∀ q∈ahG (std P) o,q.run (std P)) (hr:Rob h I β objs ctr k o):Rob h I' β' bN lC k' (azz g o):=by
 cases o with
 | box g0 cs=>
  obtain⟨_,b,o,s,c,e,h1,h2,h3,h4,h5,h6⟩:=hr;refine⟨hg,b,o,s,c,e,by rw[nS];exact h1,h2,h3,hn _ h1,h5,λj d hj=>?_⟩;obtain⟨z,z1,z2,z3⟩:=h6 j d hj;exact⟨z,z1,z2,MZ hI (λ_ _=>rfl) _ _ (aj0 hc j d hj) z3⟩
 | arr g0 sz n t f=>
  obtain⟨_,hn0,hx⟩:=hr;refine⟨hg,hn0,?_⟩;have hc:=hc _ (fQ.2 rfl);rcases hx with⟨h1,h2⟩|⟨b,o,s,c,e,h1,h2,h3,h4,h5,h6⟩
  . exact .inl ⟨h1,by rw[nS];exact h2⟩
  refine .inr ⟨b,o,s,c,e,by rw[nS];exact h1,h2,h3,hn _ h1,h5,λi hi j hj=>?_⟩;obtain⟨z,z1,z2,z3⟩:=h6 i hi j hj;exact⟨z,z1,z2,MZ hI (λ_ _=>rfl) _ _ (hc i ak hi j hj) z3⟩
 | iter g0 s pos=>
  obtain⟨_,hp,b,o,z,h1,h2,h3⟩:=hr;exact⟨hg,hp,b,o,z,by rw[nS];exact h1,h2,hn _ h1⟩
 | dead g0=>exact⟨hg,by rw[nS];exact hr.2⟩
theorem asz(R:RM B0 h0 I0 L I β slots objs ctr a w){f:FuncId}{args:List D}{vs:List Value}{post:List Ob}{d:D}{r:arf}
  (hl:am2 (std P) objs ctr args post=some r) (hd:tO d=false) (hos : ∀ q∈r.os,q.run (std P)) (arh:lK P f r.args r.pre post d)
  (hlen:vs.length=args.length) (hargs : ∀ (t:Nat) (d:D),args[t]? = some d->∃ y,vs[t]? = some y/\Rd w.heap I β objs ctr d y) :
  Calls P f vs.toArray w λe w'=>∃ v,e = .returned v/\Post B0 h0 I0 L I β objs ctr w (bX objs r.u) w' d v:=by
 obtain⟨_,_,hin⟩:=abK args [] List.nodup_nil;unfold am2 at hl;generalize aBy:wH args []=ids at *;generalize hwin:aaW args=win at *;split at hl
 . cases hl
 rename_i ts is os1 hT;split at hl
 rotate_left
 . cases hl
 rename_i u1 os2 u2 os3 hB hI;split at hl
 rotate_left
 . cases hl
 rename_i hnd;simp only[aW] at hl;subst hl;simp only at hos arh ⊢;have hall:=Xq hnd;obtain⟨t1,t2,t3⟩:=OG hT (λq hq=>hos q (by simp[hq]));obtain⟨b1,b2⟩:=OH hB (λq hq=>hos q (by simp[hq]));obtain⟨i1,i2,i3⟩:=aeK hI (λq hq=>hos q (by simp[hq]));have ho1 : ∀ q∈Vu (std P) objs args,q.run (std P):=λq hq=>hos q (by simp[hq]);generalize htop:ids.length=top at *;have hkeys:(u1++u2).map (·.1)=ids++mg is:=by rw[List.map_append,b1,i1]
 have hnu:((u1++u2).map (·.1)).Nodup:=hkeys▸hall;have XF : ∀ k,k<top->(ids++mg is)[k]? = ids[k]?:=λk hk=>sj ak;have TG : ∀ i,(ids++mg is)[top+i]? = (is[i]?).map (·.1):=λi=>by
  rw[uZ ak,Lm];congr 2;omega
 have hinj : ∀ (k k' id:Nat),(ids++mg is)[k]? = some id->(ids++mg is)[k']? = some id->k=k':=by
  intro k k' id h1 h2;obtain⟨l1,e1⟩:=gZ.1 h1;obtain⟨l2,e2⟩:=gZ.1 h2;exact(List.getElem_inj hall).1 (e1.trans e2.symm)
 have amL : ∀ id∈ids++mg is,∃ o,objs[id]? = some (some o):=by
  intro id hid;obtain⟨k,hk⟩:=Jz hid;rcases mK k top with hlt|hge
  . rw[XF k hlt] at hk;rcases t2 k id hk with⟨g,cs,_,_,_,e,_⟩|⟨g,sz,n,tt,f,e,_⟩<;>exact⟨_,e⟩
  have hk2:=TG (k-top);rw[show top+(k-top)=k by omega,hk] at hk2;cases hx:is[k-top]? with
  | none=>rw[hx] at hk2;cases hk2
  | some x=>
   rw[hx] at hk2;simp only[iP,aW] at hk2;subst hk2;obtain⟨_,_,_,_,_,_,_,g,sz,n,N,t,f,_,e,_⟩:=t3 _ x hx;exact⟨_,e⟩
 obtain⟨p1,p2,p3⟩:=abL (u1++u2) objs hnu (λx hx=>by
  have:x.1∈(u1++u2).map (·.1):=Gs.2 ⟨x,hx,rfl⟩;rw[hkeys] at this;obtain⟨o,ho⟩:=amL _ this;exact(gZ.1 ho).1)
 have p2 : ∀ id,id∉ids++mg is->(bX objs (u1++u2))[id]? = objs[id]?:=λid h=>p2 id (by rw[hkeys];exact h);have htl : ∀ k,k<top->(ts++CG is)[k]? = ts[k]?:=λk hk=>sj ak;have htr : ∀ i,(ts++CG is)[top+i]? = (is[i]?).map (·.2.2):=λi=>by
  rw[uZ ak,ajX];congr 2;omega
 have hex : ∀ k,∃ v:Option (Nat×Nat×Array Value),
   (∀ id,ids[k]? = some id->(∀ g cs,objs[id]? = some (some (.box g cs))->∃ b o s c e,β id=some (b,o,s)/\w.heap[b]? = some (.cells c e (0,0))/\v=some (b,o+win id,c)) /\
    (∀ g sz n t f,objs[id]? = some (some (.arr g sz n t f))->v=β id)) /\
   (∀ i x,k=top+i->is[i]? = some x->∀ sz n tt f,x.2.2 = .arr 0 sz n tt f->(β x.1=none->v=none)/\∀ b o s,β x.1=some (b,o,s)->v=some (b,o+x.2.1.toNat*sz,s)) /\
   (∀ y,v=some y->∃ id x',(ids++mg is)[k]? = some id/\β id=some x'/\x'.1=y.1):=by
  intro k;rcases mK k top with hlt|hge
  . have hk:ids[k]? = some (ids[k]'ak):=iW ak;have hka:=(XF k hlt).trans hk;generalize ids[k]'ak=id at hk hka;rcases t2 k id hk with⟨g,cs,_,_,_,e,_⟩|⟨g,sz,n,tt,f,e,_⟩
    . obtain⟨_,b,o,s,c,e',x1,x2,_⟩:=R.ob id _ e;refine⟨some (b,o+win id,c),λid' h=>?_,(λi x hki=>by omega),λy hy=>⟨id,_,hka,x1,(by cases hy;rfl)⟩⟩;rw[hk] at h;cases h;exact⟨λ_ _ _=>⟨b,o,s,c,e',x1,x2,rfl⟩,(λ_ _ _ _ _ h=>by rw[e] at h;cases h)⟩
    refine⟨β id,λid' h=>?_,(λi x hki=>by omega),λy hy=>⟨id,_,hka,hy,rfl⟩⟩;rw[hk] at h;cases h;exact⟨(λ_ _ h=>by rw[e] at h;cases h),λ_ _ _ _ _ _=>rfl⟩
  have hkn:ids[k]? = none:=OC ak;cases hx:is[k-top]? with
  | none=>
   refine⟨none,(λid h=>by rw[hkn] at h;cases h),(λi x hki h=>?_),(λy hy=>by cases hy)⟩;rw[show k-top=i by omega,h] at hx;cases hx
  | some x=>
   obtain⟨_,_,_,_,_,_,_,g,sz,n,N,t,f0,_,e,e2,_⟩:=t3 _ x hx;have hka:(ids++mg is)[k]? = some x.1:=by
    have:=TG (k-top);rw[show top+(k-top)=k by omega,hx] at this;exact this
   cases hb:β x.1 with
   | none=>
    refine⟨none,(λid h=>by rw[hkn] at h;cases h),(λi x' hki h sz' n' tt' f' hx'=>?_),(λy hy=>by cases hy)⟩;rw[show k-top=i by omega,h] at hx;cases hx;exact⟨λ_=>rfl,(λb o s h=>by rw[hb] at h;cases h)⟩
   | some z=>
    obtain⟨b,o,s⟩:=z;refine⟨some (b,o+x.2.1.toNat*sz,s),(λid h=>by rw[hkn] at h;cases h),(λi x' hki h sz' n' tt' f' hx'=>?_),λy hy=>⟨x.1,_,hka,hb,(by cases hy;rfl)⟩⟩;rw[show k-top=i by omega,h] at hx;cases hx;rw[e2] at hx';cases hx';exact⟨(λh=>by rw[hb] at h;cases h),λb' o' s' h=>by rw[hb] at h;cases h;rfl⟩
 obtain⟨Ye,NA⟩:=Classical.skolem.1 hex;clear hex;have ari : ∀ (i:Nat) (x:Nat×Int×Ob),is[i]? = some x->∀ sz n tt f,x.2.2 = .arr 0 sz n tt f->(β x.1=none->Ye (top+i)=none)/\∀ b o s,β x.1=some (b,o,s)->Ye (top+i)=some (b,o+x.2.1.toNat*sz,s) :=
  λi x hx=>(NA (top+i)).2.1 i x rfl hx
 have avf : ∀ k k' x x',k≠k'->Ye k=some x->Ye k'=some x'->x.1≠x'.1:=by
  intro k k' x x' hne hk hk';obtain⟨id,z,a1,a2,a3⟩:=(NA k).2.2 x hk;obtain⟨id',z',c1,c2,c3⟩:=(NA k').2.2 x' hk';rw[← a3,← c3];exact R.dist id id' z z' (λe=>hne (hinj k k' id a1 (e▸c1))) a2 c2
 have avg : ∀ (i:Nat) (x:Nat×Int×Ob),is[i]? = some x->Rob w.heap I Ye ((ts++CG is).map some) (ctr+1) (top+i) x.2.2:=by
  intro i x hx;obtain⟨id,gb,csb,j,dd,hb1,hb2,g,sz,n,N,t,f0,rfl,e1,e2,e3,e4⟩:=t3 i x hx;obtain⟨_,bb,ob,sb,cb,eb,y1,y2,y3,y4,y5,y6⟩:=R.ob id _ hb1;obtain⟨z,z1,z2,z3⟩:=y6 j _ hb2;obtain⟨_,_,hvx⟩:=z3;obtain⟨o1,o2,o3,ad,len,cap,rfl,v1,v2,v3,v4⟩:=hvx _ _ _ e1;obtain⟨_,n0,pR⟩:=R.ob x.1 _ e1;obtain⟨w1,w2⟩:=ari i x hx _ _ _ _ e2;rw[e2];refine⟨ak,o2,?_⟩;rcases pR with⟨q1,q2⟩|⟨b,o,s,c,e,q1,q2,q3,q4,q5,q6⟩
  . exact .inl ⟨ak,w1 q2⟩
  have hmul:x.2.1.toNat*sz+n.toNat*sz<=N.toNat*sz:=by
   rw[← kr];exact oq _ ak
  refine .inr ⟨b,_,s,c,e,w2 _ _ _ q1,q2,q3,q4,ak,λk hk jj hjj=>?_⟩;obtain⟨z',a1,a2,a3⟩:=q6 (x.2.1.toNat+k) ak jj hjj;refine⟨z',?_,a2,?_⟩
  . rw[← a1];congr 1;rw[kr];omega
  have e5:((x.2.1.toNat+k:Nat):Int)=x.2.1+(k:Int):=ak;rw[e5] at a3;exact MZ (IS.le.refl _) (λ_ _=>rfl) _ _ (e4 k ak hk jj hjj) a3
 have hcell : ∀ (dd dd':D) (z:Value),am0 (P:=P) objs ctr top is dd dd'->Rd w.heap I β objs ctr dd z->Rd w.heap I Ye ((ts++CG is).map some) (ctr+1) dd' z:=by
  intro dd dd' z hc hz;rcases hc with⟨rfl,hc⟩|⟨i,x,g0,sz0,n0',hx,⟨g,sz,n,N,t,f0,hdx,e1,e2,e3,e4⟩,hd1,rfl⟩
  . exact MZ (IS.le.refl _) (λ_ _=>rfl) _ _ hc hz
  rw[hd1] at hdx;cases hdx;subst hd1;obtain⟨_,⟨a0,l0,c0,s1,s2,s3,s4⟩,hvx⟩:=hz;obtain⟨o1,o2,o3,ad,len,cap,rfl,v1,v2,v3,v4⟩:=hvx _ _ _ e1;cases s1;refine⟨.inl ak,⟨_,_,_,rfl,s2,s3,s4⟩,λN' t' f' ho=>?_⟩;rw[qJ,htr,hx] at ho;simp only[iP,aW,e2] at ho;cases ho;refine⟨nL _,o2,ak,_,_,_,rfl,v1,v2,(λh=>by cases h),λhp=>?_⟩;obtain⟨b,o,s,hb,h1,h2⟩:=v4 hp;refine⟨b,_,s,(ari i x hx _ _ _ _ e2).2 _ _ _ hb,?_,?_⟩
  . rw[h1];simp
  simp;omega
 have hpre : ∀ (k:Nat) (o:Ob),(ts++CG is)[k]? = some o->o.gen=0/\Rob w.heap I Ye ((ts++CG is).map some) (ctr+1) k o:=by
  intro k o hk;rcases mK k top with hlt|hge
  . rw[htl k hlt] at hk;have hid:ids[k]? = some (ids[k]'ak):=iW ak;generalize ids[k]'ak=id at hid;rcases t2 k id hid with⟨g,cs,g',cs',c1,e1,e2,e3,e4,e5,e6⟩|⟨g,sz,n,tt,f0,e1,e2,e3⟩
    . rw[hk] at e3;cases e3;obtain⟨_,b,o,s,c,e,y1,y2,y3,y4,y5,y6⟩:=R.ob id _ e1;obtain⟨b',o',s',c',e',w1,w2,w3⟩:=((NA k).1 id hid).1 _ _ e1;rw[y1] at w1;cases w1;rw[y2] at w2;cases w2;refine⟨rfl,Nat.zero_le _,b,_,c,c,e,w3,y2,Beside.refl _ _ _,y4,by have:=y3.1;omega,λj d' hj=>?_⟩;have hjl:j<cs'.length:=by rw[← e5];exact(gZ.1 hj).1
      obtain⟨dd,dd',d1,d2,d3⟩:=e6 j hjl;rw[hj] at d2;cases d2;obtain⟨z,z1,z2,z3⟩:=y6 _ _ d1;exact⟨z,by rw[rY];exact z1,z2,hcell _ _ _ d3 z3⟩
    rw[hk] at e2;cases e2;exact⟨rfl,acV (g:=0) (o:=.arr g sz n tt f0) ak (IS.le.refl _) (λx hx=>R.Uk hx) (((NA k).1 id hid).2 _ _ _ _ _ e1) (λq hq=>by
     simp only[ahG,fQ] at hq;subst hq;exact e3) (R.ob id _ e1)⟩
  have hk2:=htr (k-top);rw[show top+(k-top)=k by omega,hk] at hk2;cases hx:is[k-top]? with
  | none=>rw[hx] at hk2;cases hk2
  | some x=>
   rw[hx] at hk2;simp only[iP,aW] at hk2;subst hk2;have:=avg _ x hx;rw[show top+(k-top)=k by omega] at this;refine⟨?_,this⟩;obtain⟨_,_,_,_,_,_,_,g,sz,n,N,t,f0,_,_,e2,_⟩:=t3 _ x hx;rw[e2];rfl
 have avh : ∀ (dd:D) (y:Value),(Z7 (std P) objs dd).run (std P)->(∀ id,LZ dd=some id->id∈ids)->Rd w.heap I β objs ctr dd y->Rd w.heap I Ye ((ts++CG is).map some) (ctr+1) (af0 ids win dd) y:=by
  intro dd y ho hmem hv;rcases aqf ho with⟨id,g,o,hid,dP,hgo,hshape⟩|⟨hno,aqk⟩
  . have hm:=hmem id hid;have hk:=ajU hm;have oK:QE ids id<top:=by rw[← htop];exact(gZ.1 hk).1
    have hpk : ∀ o',((ts++CG is).map some)[QE ids id]? = some (some o')->ts[QE ids id]? = some o':=by
     intro o' h;rw[qJ,htl _ oK] at h;cases ht:ts[QE ids id]? with
     | none=>rw[ht] at h;cases h
     | some q=>rw[ht] at h;simp only[iP,aW] at h;rw[h]
    obtain⟨k1,k2⟩:=(NA (QE ids id)).1 id hk;rcases hshape with⟨j,rfl⟩|⟨sz,i,j,rfl⟩|⟨sz,off,n,rfl⟩
    . simp only[af0];split
      . rename_i hle;have hle:=sw hle;obtain⟨_,hsh,hx⟩:=hv;refine⟨.inl ak,hsh,λcs hcs=>?_⟩;have hcs:=hpk _ hcs;rcases t2 _ id hk with⟨g1,cs1,g',cs',c1,e1,e2,e3,e4,e5,e6⟩|⟨g1,sz,n,tt,f0,e1,e2,e3⟩
        . rw[dP] at e1;cases e1;have hgo:g=g1:=hgo;subst hgo;obtain⟨b,o,s,hb,rfl⟩:=hx _ dP;obtain⟨b',o',s',c',e',w1,w2,w3⟩:=k1 _ _ dP;rw[hb] at w1;cases w1;exact⟨b,_,_,w3,by congr 3;omega⟩
        rw[hcs] at e2;cases e2
      trivial
    . obtain⟨_,hsh,hx⟩:=hv;refine⟨.inl ak,hsh,λN t f hcs=>?_⟩;have hcs:=hpk _ hcs;rcases t2 _ id hk with⟨g1,cs1,g',cs',c1,e1,e2,e3,e4,e5,e6⟩|⟨g1,Vo,n,tt,f0,e1,e2,e3⟩
      . rw[hcs] at e3;cases e3
      rw[hcs] at e2;cases e2;rw[dP] at e1;cases e1;have hgo:g=g1:=hgo;subst hgo;rw[k2 _ _ _ _ _ dP];exact hx _ _ _ dP
    obtain⟨_,hsh,hx⟩:=hv;refine⟨.inl ak,hsh,λN t f hcs=>?_⟩;have hcs:=hpk _ hcs;rcases t2 _ id hk with⟨g1,cs1,g',cs',c1,e1,e2,e3,e4,e5,e6⟩|⟨g1,Vo,n1,tt,f0,e1,e2,e3⟩
    . rw[hcs] at e3;cases e3
    rw[hcs] at e2;cases e2;rw[dP] at e1;cases e1;have hgo:g=g1:=hgo;subst hgo;rw[k2 _ _ _ _ _ dP];exact hx _ _ _ dP
  have e:af0 ids win dd=dd:=by cases dd<;>simp[LZ] at hno<;>rfl
  rw[e];exact MZ (IS.le.refl _) (λ_ _=>rfl) _ _ aqk hv
 obtain⟨_,hcall⟩:=arh;have hc:=hcall w I (ctr+1) vs Ye ak (λb hb=>(R.lt.1 b hb).1) R.CF (by simpa using hlen) ?_ hpre ?_ avf
 . refine hc.mono ?_;rintro e w' ⟨v,I',c',β',rfl,h1,h2,h3,h4,hwo,h5,h6,h7,h8⟩;have hlb : ∀ k y,Ye k=some y->∃ id x',id∈ids++mg is/\β id=some x'/\x'.1=y.1:=λk y hy=>by
    obtain⟨id,x',a1,a2,a3⟩:=(NA k).2.2 y hy;exact⟨id,x',VE a1,a2,a3⟩
   have hkeep : ∀ id x,id∉ids++mg is->β id=some x->w'.heap[x.1]? = w.heap[x.1]?/\¬ I' x.1:=by
    intro id x hid hx;have hne : ∀ k y,Ye k=some y->y.1≠x.1:=λk y hy=>by
     obtain⟨id',x',a1,a2,a3⟩:=hlb k y hy;rw[← a3];exact R.dist id' id x' x (λe=>hid (e▸a1)) a2 hx
    refine⟨h3 x.1 (R.lS hx) hne,λhI'=>?_⟩;rcases(h2.1 _ hI').2 with h|h|⟨k,y,hy,he⟩
    . exact R.Uk hx h
    . have:=R.lS hx;omega
    exact hne k y hy he
   let gone:Nat->Prop:=λid=>∃ k:Nat,ids[k]? = some id/\post[k]? = some (Ob.dead 1);have am3 : ∀ (k id:Nat),ids[k]? = some id->id∉mg is:=by
    intro k id hk hid;rw[List.nodup_append] at hall;exact hall.2.2 id (VE hk) id hid rfl
   have am4 : ∀ (k id:Nat) (q:Ob),ids[k]? = some id->post[k]? = some q->(∀ g,q≠Ob.dead g)->¬ gone id:=by
    rintro k id q hk hq hne ⟨k',h1,h2⟩;have l1:k<top:=by rw[← htop];exact(gZ.1 hk).1
    have l2:k'<top:=by rw[← htop];exact(gZ.1 h1).1
    have:=hinj k k' id ((XF k l1).trans hk) ((XF k' l2).trans h1);subst this;rw[hq] at h2;cases h2;exact hne _ rfl
   have avi : ∀ id,∃ v:Option (Nat×Nat×Array Value),(∀ (i:Nat) (x:Nat×Int×Ob),is[i]? = some x->x.1=id->v=β' (top+i))/\((∀ (i:Nat) (x:Nat×Int×Ob),is[i]? = some x->x.1≠id)->(¬ gone id->v=β id)/\(gone id->v=none)):=by
    intro id
    by_cases hx : ∃ (i:Nat) (x:Nat×Int×Ob),is[i]? = some x/\x.1=id
    . obtain⟨i,x,hx,rfl⟩:=hx;refine⟨β' (top+i),λi' x' hx' he=>?_,λh=>absurd rfl (h i x hx)⟩;have e1:=TG i;have e2:=TG i';rw[hx] at e1;rw[hx'] at e2;simp only[iP] at e1 e2;rw[he] at e2;have:=hinj _ _ _ e1 e2;rw[this]
    by_cases hg:gone id
    . exact⟨none,λi x h1 h2=>absurd ⟨i,x,h1,h2⟩ hx,λ_=>⟨λh=>absurd hg h,λ_=>rfl⟩⟩
    exact⟨β id,λi x h1 h2=>absurd ⟨i,x,h1,h2⟩ hx,λ_=>⟨λ_=>rfl,λh=>absurd h hg⟩⟩
   obtain⟨βn,avj⟩:=Classical.skolem.1 avi;clear avi;have am5 : ∀ (i:Nat) (x:Nat×Int×Ob),is[i]? = some x->βn x.1=β' (top+i):=λi x hx=>(avj x.1).1 i x hx rfl;have am6 : ∀ id,id∉mg is->(¬ gone id->βn id=β id)/\(gone id->βn id=none):=λid hid=>(avj id).2 λi x hx e=>hid (by
    have:=Lm (l:=is) (i:=i);rw[hx] at this;exact e▸VE this)
   have acW : ∀ id,id∉mg is->¬ gone id->βn id=β id:=λid hid=>(am6 id hid).1;have hout : ∀ id,id∉ids++mg is->¬ gone id:=λid hid hg=>by
    obtain⟨k,h1,_⟩:=hg;exact hid (dW _ (VE h1))
   have hpl : ∀ (i:Nat) (q:Ob),(post.drop top)[i]? = some q->post[top+i]? = some q:=λi q h=>by rw[Xu] at h;exact h
   have hmv : ∀ (i:Nat) (x:Nat×Int×Ob) (y:Nat×Nat×Array Value),is[i]? = some x->β' (top+i)=some y->(∃ k x',Ye k=some x'/\x'.1=y.1)\/w.heap.size<=y.1:=λi x y _ hy=>(h7 _ y hy).2;have G:Goes w.heap I β objs ctr w'.heap I' βn (bX objs (u1++u2)) ctr:=by
    refine⟨h1.1,λb hb=>?_,h1.2,λid g hg=>?_,λid g hg o' ho' hgo hlv=>?_⟩
    . refine h3 b (R.lt.1 b hb).1 λk x hk he=>?_;obtain⟨id,x',_,a2,a3⟩:=hlb k x hk;exact R.Uk a2 (a3▸he▸hb)
    . rcases hg with hg|⟨hg,o,ho,hgo⟩
      . exact .inl hg
      refine .inr ⟨hg,?_⟩
      by_cases hid:id∈ids++mg is
      . obtain⟨k,hk⟩:=Jz hid;rcases mK k top with hlt|hge
        . rw[XF k hlt] at hk;rcases b2 k id hk with⟨g1,cs,cs',c1,e1,e2,e3,e4,e5,e6⟩|⟨g1,sz,n,t0,f0,f0',e1,e2,e3,e4⟩|⟨g1,sz,n,t0,f0,e1,e2,e3⟩
          . rw[ho] at e1;cases e1;exact⟨_,p3 _ (dW _ e4),hgo⟩
          . rw[ho] at e1;cases e1;exact⟨_,p3 _ (dW _ e3),hgo⟩
          exact⟨_,p3 _ (dW _ e3),hg.symm⟩
        have hk2:=TG (k-top);rw[show top+(k-top)=k by omega,hk] at hk2;cases hx:is[k-top]? with
        | none=>rw[hx] at hk2;cases hk2
        | some x=>
         rw[hx] at hk2;simp only[iP,aW] at hk2;subst hk2;obtain⟨sz,n',t',f',_,e2,_,_⟩:=i3 _ x hx;exact⟨_,p3 _ (dR _ e2),by simp[Ob.gen];omega⟩
      exact⟨o,by rw[p2 id hid];exact ho,hgo⟩
    by_cases hid:id∈ids++mg is
    . obtain⟨k,hk⟩:=Jz hid;rcases mK k top with hlt|hge
      . rw[XF k hlt] at hk;have acX:=acW id (am3 k id hk);rcases b2 k id hk with⟨g1,cs,cs',c1,e1,e2,e3,e4,e5,e6⟩|⟨g1,sz,n,t0,f0,f0',e1,e2,e3,e4⟩|⟨g1,sz,n,t0,f0,e1,e2,e3⟩
        . rw[p3 _ (dW _ e4)] at ho';cases ho';exact⟨_,e1,rfl,acX (am4 k id _ hk e2 (λg h=>by cases h))⟩
        . rw[p3 _ (dW _ e3)] at ho';cases ho';exact⟨_,e1,⟨rfl,rfl,rfl,rfl⟩,acX (am4 k id _ hk e2 (λg h=>by cases h))⟩
        rw[p3 _ (dW _ e3)] at ho';cases ho';exact hlv.elim
      have hk2:=TG (k-top);rw[show top+(k-top)=k by omega,hk] at hk2;cases hx:is[k-top]? with
      | none=>rw[hx] at hk2;cases hk2
      | some x=>
       rw[hx] at hk2;simp only[iP,aW] at hk2;subst hk2;obtain⟨sz,n',t',f',_,e2,_,_⟩:=i3 _ x hx;rw[p3 _ (dR _ e2)] at ho';cases ho';have hgc:g=ctr:=hgo.symm;obtain⟨_,_,_,_,_,_,_,g1,Vo,n1,N1,t1',f1,_,e1,_,e3,_⟩:=t3 _ x hx;rcases hg with hg|⟨_,o,ho,azA⟩
       . omega
       rw[e1] at ho;cases ho;have:g1=g:=azA;omega
    rw[p2 id hid] at ho';refine⟨o',ho',Ob.qX _,acW id (λh=>hid (dR _ h)) (hout id hid)⟩
   have hback : ∀ (dd ee:D) (z:Value),am1 (P:=P) ctr top (ids++mg is) dd ee->Rd w'.heap I' β' (post.map some) c' dd z->Rd w'.heap I' βn (bX objs (u1++u2)) ctr ee z:=by
    intro dd ee z hb hz;rcases hb with⟨rfl,hc⟩|⟨k,id,sz,o,n,rfl,hk1,hk2,rfl⟩
    . exact MZ (IS.le.refl _) (λ_ _=>rfl) _ _ hc hz
    have hk3:=TG (k-top);rw[show top+(k-top)=k by omega,hk2] at hk3;cases hx:is[k-top]? with
    | none=>rw[hx] at hk3;cases hk3
    | some x=>
     rw[hx] at hk3;simp only[iP,aW] at hk3;subst hk3;obtain⟨Vo,n',t',f',e1,e2,_,_⟩:=i3 _ x hx;have e1:=hpl _ _ e1;rw[show top+(k-top)=k by omega] at e1;have dP:=p3 _ (dR u1 e2);have hbe:=am5 _ x hx;rw[show top+(k-top)=k by omega] at hbe;obtain⟨_,hsh,hvx⟩:=hz;refine⟨.inr ⟨rfl,_,dP,rfl⟩,hsh,λN t f ho=>?_⟩;rw[dP] at ho;cases ho;obtain⟨o1,o2,o3,ad,len,cap,rfl,v1,v2,v3,v4⟩:=hvx n' t' f' (by rw[qJ,e1];rfl);exact⟨o1,o2,o3,_,_,_,rfl,v1,v2,(λh=>by cases h),by rw[hbe];exact v4⟩
   refine⟨v,rfl,I',βn,G,λid o' ho'=>?_,λk x hk=>?_,λk k' x x' hne hk hk'=>?_,λk x hk=>?_,⟨λb hb=>?_,λb hb=>?_⟩,λb hb hL=>?_,by have:=R.size;omega,hwo,?_⟩
   . by_cases hid:id∈ids++mg is
     . obtain⟨k,hk⟩:=Jz hid;rcases mK k top with hlt|hge
       . rw[XF k hlt] at hk;have acX:=acW id (am3 k id hk);rcases b2 k id hk with⟨g1,cs,cs',c1,e1,e2,e3,e4,e5,e6⟩|⟨g1,sz,n,t0,f0,f0',e1,e2,e3,e4⟩|⟨g1,sz,n,t0,f0,e1,e2,e3⟩
         rotate_right
         . rw[p3 _ (dW _ e3)] at ho';cases ho';exact⟨iR _,(am6 id (am3 k id hk)).2 ⟨k,hk,e2⟩⟩
         all_goals replace acX:=acX (am4 k id _ hk e2 (λg h=>by cases h))
         . rw[p3 _ (dW _ e4)] at ho';cases ho';obtain⟨hg1,b,o,s,c,e,y1,y2,y3,y4,y5,y6⟩:=R.ob id _ e1;obtain⟨b',o',s',c0,e0,w1,w2,w3⟩:=((NA k).1 id hk).1 _ _ e1;rw[y1] at w1;cases w1;rw[y2] at w2;cases w2;obtain⟨hr,hst⟩:=h5 k _ e2;obtain⟨_,b1',o1',s1',cN,eN,x1,x2,x3,x4,x5,x6⟩:=hr;rw[hst rfl,w3] at x1;cases x1;have hwl:win id+c1.length<=cs.length:=ak;refine⟨hg1,b,o,s,cN,eN,acX.trans y1,x2,⟨x3.1.trans y3.1,λi hi=>?_⟩,x4,by rw[su _ _ _ hwl];exact y5,λj dj hj=>?_⟩
           . rw[su _ _ _ hwl] at hi;rw[x3.2 i ak,y3.2 i hi]
           rw[F5 _ _ _ _ hwl] at hj;split at hj
           . rename_i apZ;have hjl:j-win id<cs'.length:=ak;obtain⟨ee,ee1,ee2⟩:=e6 (j-win id) _ (iW hjl);rw[hj] at ee1;cases ee1;obtain⟨z,z1,z2,z3⟩:=x6 (j-win id) _ (iW hjl);exact⟨z,by rw[← z1];congr 1;omega,z2,hback _ _ _ ee2 z3⟩
           rename_i aA9;obtain⟨z,z1,z2,z3⟩:=y6 j dj hj;exact⟨z,by rw[x3.2 (o+j) ak];exact z1,z2,Rd.mono G _ _ z3⟩
         rw[p3 _ (dW _ e3)] at ho';cases ho';obtain⟨hr,hst⟩:=h5 k _ e2;have hbe:=((NA k).1 id hk).2 _ _ _ _ _ e1;refine acV (g:=g1) (o:=.arr 0 sz n t0 f0') (k:=k) (R.ob id _ e1).1 (IS.le.refl _) (λx hx=>?_) (acX.trans (hbe.symm.trans (hst rfl).symm)) (λq hq=>by
          simp only[ahG,fQ] at hq;subst hq;exact e4) hr
         obtain⟨_,_,hr2⟩:=hr;rcases hr2 with⟨_,q2⟩|⟨b,o,s,c,e,q1,q2,q3,q4,_⟩
         . rw[hx] at q2;cases q2
         rw[hx] at q1;cases q1;exact q4
       have hk2:=TG (k-top);rw[show top+(k-top)=k by omega,hk] at hk2;cases hx:is[k-top]? with
       | none=>rw[hx] at hk2;cases hk2
       | some x=>
        rw[hx] at hk2;simp only[iP,aW] at hk2;subst hk2;obtain⟨sz,n',t',f',e1,e2,_,e4⟩:=i3 _ x hx;rw[p3 _ (dR _ e2)] at ho';cases ho';obtain⟨hr,_⟩:=h5 _ _ (hpl _ _ e1);have hbe:=am5 _ x hx;have:=acV (P:=P) (g:=ctr) (o:=.arr 1 sz n' t' f') (k:=top+(k-top)) (k':=x.1) (β':=βn) (bN:=bX objs (u1++u2)) (iR ctr) (IS.le.refl _) (λy hy=>by
         obtain⟨_,_,hr2⟩:=hr;rcases hr2 with⟨_,q2⟩|⟨b,o,s,c,e,q1,q2,q3,q4,_⟩
         . rw[hy] at q2;cases q2
         . rw[hy] at q1;cases q1;exact q4) hbe (λq hq=>by
         simp only[ahG,fQ] at hq;subst hq;exact e4) hr
        exact this
     rw[p2 id hid] at ho';refine Rob.mono G (λb x hb hI=>hkeep id _ hid hb) (acW id (λh=>hid (dR _ h)) (hout id hid)) (R.ob id o' ho')
   . by_cases hid:k∈ids++mg is
     . have:k∈(u1++u2).map (·.1):=by rw[hkeys];exact hid
       obtain⟨z,z1,rfl⟩:=Gs.1 this;have hz:=p3 z z1;rcases CJ.1 z1 with hz1|hz1
       . have:z.1∈ids:=by rw[← b1];exact Gs.2 ⟨z,hz1,rfl⟩
         obtain⟨t,ht⟩:=Jz this;rcases b2 t z.1 ht with⟨g1,cs,cs',c1,e1,e2,e3,e4,_⟩|⟨g1,sz,n,t0,f0,f0',e1,e2,e3,_⟩|⟨g1,sz,n,t0,f0,e1,e2,e3⟩
         . exact⟨_,p3 _ (dW _ e4)⟩
         . exact⟨_,p3 _ (dW _ e3)⟩
         exact⟨_,p3 _ (dW _ e3)⟩
       have:z.1∈mg is:=by rw[← i1];exact Gs.2 ⟨z,hz1,rfl⟩
       obtain⟨t,ht⟩:=Jz this;rw[Lm] at ht;cases hx:is[t]? with
       | none=>rw[hx] at ht;cases ht
       | some y=>
        rw[hx] at ht;simp only[iP,aW] at ht;obtain⟨sz,n',t',f',_,e2,_,_⟩:=i3 _ y hx;rw[← ht];exact⟨_,p3 _ (dR _ e2)⟩
     rw[acW k (λh=>hid (dR _ h)) (hout k hid)] at hk;obtain⟨o,ho⟩:=R.dom k x hk;exact⟨o,by rw[p2 k hid];exact ho⟩
   ·
    have hcls : ∀ (q:Nat) (y:Nat×Nat×Array Value),βn q=some y->(q∉mg is/\¬ gone q/\β q=some y)\/∃ i x,is[i]? = some x/\x.1=q/\β' (top+i)=some y:=by
     intro q y hy
     by_cases hq:q∈mg is
     . obtain⟨t,ht⟩:=Jz hq;rw[Lm] at ht;cases hx:is[t]? with
       | none=>rw[hx] at ht;cases ht
       | some z=>
        rw[hx] at ht;simp only[iP,aW] at ht;subst ht;exact .inr ⟨t,z,hx,rfl,(am5 t z hx).symm.trans hy⟩
     have hg : ¬ gone q:=λhg=>by rw[(am6 q hq).2 hg] at hy;cases hy
     exact .inl ⟨hq,hg,(acW q hq hg).symm.trans hy⟩
    have avk : ∀ (q:Nat) (y:Nat×Nat×Array Value) (i:Nat) (x:Nat×Int×Ob) (z:Nat×Nat×Array Value),q∉mg is->¬ gone q->β q=some y->is[i]? = some x->β' (top+i)=some z->y.1≠z.1:=by
     intro q y i x z hq hgq hy hx hz
     by_cases hqi:q∈ids
     . obtain⟨t,ht⟩:=Jz hqi;have htlt:t<top:=by rw[← htop];exact(gZ.1 ht).1
       have key : ∃ y',β' t=some y'/\y'.1=y.1:=by
        rcases b2 t q ht with⟨g1,cs,cs',c1,e1,e2,_⟩|⟨g1,sz,n,t0,f0,f0',e1,e2,_⟩|⟨g1,sz,n,t0,f0,e1,e2,_⟩
        . obtain⟨b',o',s',c0,e0,w1,w2,w3⟩:=((NA t).1 q ht).1 _ _ e1;rw[hy] at w1;cases w1;exact⟨_,((h5 t _ e2).2 rfl).trans w3,rfl⟩
        . exact⟨y,((h5 t _ e2).2 rfl).trans ((((NA t).1 q ht).2 _ _ _ _ _ e1).trans hy),rfl⟩
        exact absurd ⟨t,ht,e2⟩ hgq
       obtain⟨y',y1,y2⟩:=key;rw[← y2];exact h6 t (top+i) y' z ak y1 hz
     have hqn:q∉ids++mg is:=λh=>(CJ.1 h).elim hqi hq;rcases hmv i x z hx hz with⟨k0,x0,h0',he⟩|hge
     . obtain⟨id',x',a1,a2,a3⟩:=hlb k0 x0 h0';rw[← he,← a3];exact R.dist q id' y x' (λe=>hqn (e▸a1)) hy a2
     have:=R.lS hy;omega
    rcases hcls k x hk with⟨q1,qg,q2⟩|⟨i,z,q1,q2,q3⟩
    . rcases hcls k' x' hk' with⟨r1,rg,r2⟩|⟨i',z',r1,r2,r3⟩
      . exact R.dist k k' x x' hne q2 r2
      exact avk k x i' z' x' q1 qg q2 r1 r3
    rcases hcls k' x' hk' with⟨r1,rg,r2⟩|⟨i',z',r1,r2,r3⟩
    . exact Ne.symm (avk k' x' i z x r1 rg r2 q1 q3)
    refine h6 (top+i) (top+i') x x' (λe=>hne ?_) q3 r3;have:i=i':=ak;subst this;rw[q1] at r1;cases r1;exact q2.symm.trans r2
   . by_cases hq:k∈mg is
     . obtain⟨t,ht⟩:=Jz hq;rw[Lm] at ht;cases hx:is[t]? with
       | none=>rw[hx] at ht;cases ht
       | some z=>
        rw[hx] at ht;simp only[iP,aW] at ht;subst ht;rw[am5 t z hx] at hk;rcases hmv t z x hx hk with⟨k0,x0,h0',he⟩|hge
        . obtain⟨id',x',a1,a2,a3⟩:=hlb k0 x0 h0';rw[← he,← a3];exact R.own id' x' a2
        have:=R.size;exact .inl ak
     rw[acW k hq (λhg=>by rw[(am6 k hq).2 hg] at hk;cases hk)] at hk;exact R.own k x hk
   . obtain⟨l1,l2⟩:=h2.1 b hb;refine⟨l1,?_⟩;rcases l2 with h|h|⟨k,x,hk,rfl⟩
     . exact(R.lt.1 b h).2
     . have:=R.size;exact .inr (.inl ak)
     obtain⟨id',x',a1,a2,a3⟩:=hlb k x hk;rw[← a3];exact .inr (R.own id' x' a2)
   . rcases h2.2 b hb with h|h|⟨k,x,hk,rfl⟩
     . exact R.lt.2 b h
     . have:=R.size;exact .inr (.inl ak)
     obtain⟨id',x',a1,a2,a3⟩:=hlb k x hk;rw[← a3];exact .inr (R.own id' x' a2)
   . rw[← R.frame b hb hL];refine h3 b (Ef hb R.size) λk x hk he=>?_;obtain⟨id,x',_,a2,a3⟩:=hlb k x hk;rcases R.own id x' a2 with h|h
     . omega
     exact hL (he▸a3▸h)
   exact Rd.mono (Goes.back _ _ _ _ _) _ _ (ZW hd h8)
 . intro t d' ht;rw[qJ] at ht;cases hat:args[t]? with
   | none=>rw[hat] at ht;cases ht
   | some d0=>
    rw[hat] at ht;simp only[iP,aW] at ht;subst ht;obtain⟨y,hy,hv⟩:=hargs t d0 hat;obtain⟨m1,m2⟩:=hin t d0 hat;refine⟨y,hy,?_⟩;rcases abM ho1 t d0 hat with⟨k,c,rfl,⟨hb,aqk⟩|⟨hb,hcs⟩⟩|⟨hna,ho⟩
    . simp only[ren,hb,if_true];exact MZ (IS.le.refl _) (λ_ _=>rfl) _ _ aqk hv
    . simp only[ren,hb,oL,if_false];obtain⟨ys,rfl,x1,x2⟩:=hv;refine⟨ys,rfl,x1,λj hj=>?_⟩;obtain⟨z,z1,z2,z3⟩:=x2 j hj;exact⟨z,z1,z2,avh _ _ (hcs j hj) (λid hid=>m2 k c j id rfl hj hid) z3⟩
    have e:ren ids win d0=af0 ids win d0:=by cases d0<;>first|exact absurd rfl (hna _ _)|rfl
    rw[e];exact avh _ _ ho m1 hv
 intro k x hk;obtain⟨id,x',a1,a2,a3⟩:=(NA k).2.2 x hk;have hlt:k<(ts++CG is).length:=by
  have:=(gZ.1 a1).1;have e:(CG is).length=(mg is).length:=by rw[ajY,ajZ]
  simp only[aan] at this ⊢;omega
 exact⟨_,iW hlt⟩
end
end Go.Vx
