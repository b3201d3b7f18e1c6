/- Each step of the evaluator is a step of the Go model: calls; the whole. -/
import Derived.Test.YtckmalogclklmaaGreatDoorVxOps5
set_option linter.all false
namespace Go.Vx
section
variable {P:Program} {tt:TT} {B0:Nat} {h0:Array Obj} {I0 I:IS} {L:p9} {β:Nat→Option (Nat × Nat × Array Value)} {slots:List D} {objs:List (Option Ob)} {ctr:Nat} {a:Act} {w:World}
theorem Goes.bare (h:Array Obj) (I:IS) (β:Nat→Option (Nat × Nat × Array Value)) (objs:List (Option Ob)) (ctr:Nat):Goes h I β objs ctr h I (fun _=>none) [] (ctr+1):=by
 refine ⟨fun _ x=>x,fun _ _=>rfl,fun _ x=>x,fun id g hg=>.inl ?_,fun id g hg o' ho' _ _=>by simp at ho'⟩
 rcases hg with h | ⟨h,_⟩<;>omega
theorem Goes.back (h:Array Obj) (I:IS) (β:Nat→Option (Nat × Nat × Array Value)) (objs:List (Option Ob)) (ctr:Nat):Goes h I (fun _=>none) [] 0 h I β objs ctr:=by
 refine ⟨fun _ x=>x,fun _ _=>rfl,fun _ x=>x,fun id g hg=>?_,fun id g hg=>?_⟩
 · rcases hg with h | ⟨_,o,ho,_⟩
   · omega
   · simp at ho
 · rcases hg with h | ⟨_,o,ho,_⟩
   · omega
   · simp at ho
theorem Rj {B:Nat} {h:Array Obj} {I:IS} {d:D} {v:Value} (hd:nK d=false) (hr:Jg B h I d v):Rd h I (fun _=>none) [] 0 d v:=by
 cases d<;>simp [nK] at hd<;>exact hr
theorem zJ {h:Array Obj} {k g sz:Nat} {off n N:Int} {t:Bool} {f:Int→Nat→D} {y:Value} (hr:Rd h I β objs ctr (.vec k g sz off n) y) (cK:objs[k]? = some (some (.arr g sz N t f)))
  (lF:Rob h I β objs ctr k (.arr g sz N t f)) : ∃ a len cap,y = .slice a len cap∧(len:Int)=n∧len≤cap∧((t && (off+n == N))=true→cap=len) ∧
   (0 < cap→∃ b o c e s,β k=some (b,s)∧a=some ⟨b,o,none⟩∧h[b]? = some (.cells c e (0,0))∧¬ I b∧o+cap*sz≤c.size ∧
    ∀ i:Nat,i < len→∀ j,j < sz→∃ z,c[o+i*sz+j]? = some z∧z.oneCell'=true∧Rd h I β objs ctr (f (off+i) j) z):=by
 obtain ⟨_,_,hx⟩:=hr
 obtain ⟨o1,o2,o3,ad,len,cap,rfl,x1,x2,x3,x4⟩:=hx _ _ _ cK
 refine ⟨ad,len,cap,rfl,x1,x2,?_,fun hp=>?_⟩
 · intro ht
   simp only [Bool.and_eq_true,beq_iff_eq] at ht
   have:=x3 ht.1
   omega
 · obtain ⟨b,o,s',hb,rfl,hrr⟩:=x4 hp
   obtain ⟨_,_,lF⟩:=lF
   rcases lF with ⟨h1,h2⟩ | ⟨b',p',s1,c,e,q1,q2,q3,q4,q5,q6⟩
   · rw [hb] at h2;cases h2
   · rw [hb] at q1;cases q1
     refine ⟨b,_,c,e,_,hb,rfl,q2,q4,by omega,fun i hi j hj=>?_⟩
     obtain ⟨z,z1,z2,z3⟩:=q6 (off.toNat+i) (by omega) j hj
     refine ⟨z,?_,z2,?_⟩
     · rw [← z1];congr 1;rw [Nat.add_mul];omega
     · have e1:((off.toNat+i:Nat):Int)=off+(i:Int):=by omega
       rw [e1] at z3;exact z3
theorem DY {h h':Array Obj} {I I':IS} (hI:I.le I') (hh : ∀ b,I b→h'[b]? = h[b]?) {β β':Nat→Option (Nat × Nat × Array Value)} {objs aX:List (Option Ob)} {ctr iU:Nat} :
  ∀ (d:D) (y:Value),lG (std P) d→Rd h I β objs ctr d y→Rd h' I' β' aX iU d y:=by
 intro d
 induction d with
 | sl sz n t f ih =>
  rintro y hc ⟨a,len,cap,rfl,hl,hcp,ht,hcells⟩
  refine ⟨a,len,cap,rfl,hl,hcp,ht,fun hp=>?_⟩
  obtain ⟨b,o,c,e,fr,rfl,hb1,hb,hx⟩:=hcells hp
  refine ⟨b,o,c,e,fr,rfl,hI.2 b hb1,by rw [hh b (I.sub b hb1)];exact hb,fun i hi j hj=>?_⟩
  obtain ⟨z,h1,h2,h3⟩:=hx i hi j hj
  exact ⟨z,h1,h2,ih _ _ _ (hc i (by omega) (by omega) j hj) h3⟩
 | agg k c ih =>
  rintro y hc ⟨ys,rfl,hs,hx⟩
  refine ⟨ys,rfl,hs,fun j hj=>?_⟩
  obtain ⟨z,h1,h2,h3⟩:=hx j hj
  exact ⟨z,h1,h2,ih _ _ (hc 0 (by omega) (by omega) j hj) h3⟩
 | gX k c ih =>
  rintro y hc ⟨ys,rfl,hs,hx⟩
  refine ⟨ys,rfl,hs,fun j hj=>?_⟩
  obtain ⟨z,h1,h3⟩:=hx j hj
  exact ⟨z,h1,ih _ _ (hc 0 (by omega) (by omega) j hj) h3⟩
 | fn f k c ih =>
  rintro y hc ⟨ys,rfl,hs,hx⟩
  refine ⟨ys,rfl,hs,fun j hj=>?_⟩
  obtain ⟨z,h1,h3⟩:=hx j hj
  exact ⟨z,h1,ih _ _ (hc 0 (by omega) (by omega) j hj) h3⟩
 | gY sz n f i j ih =>
  rintro y hc ⟨h0,h1,b,o,c,e,fr,hy,hb1,hb,hx⟩
  refine ⟨h0,h1,b,o,c,e,fr,hy,hI.1 b hb1,by rw [hh b hb1];exact hb,fun i hi j hj=>?_⟩
  obtain ⟨z,h1,h2,h3⟩:=hx i hi j hj
  exact ⟨z,h1,h2,ih _ _ _ (hc i (by omega) hi j hj) h3⟩
 | BH b d ih=>exact fun y hc hy=>⟨fun hb=>ih y hc (hy.1 hb),hy.2⟩
 | v x=>exact fun y _ hy=>hy
 | cO=>exact fun y _ hy=>hy
 | junk=>exact fun y _ _=>trivial
 | dI=>exact fun y hc _=>hc.elim
 | kX=>exact fun y hc _=>hc.elim
 | vec=>exact fun y hc _=>hc.elim
 | own=>exact fun y hc _=>hc.elim
 | uq=>exact fun y hc _=>hc.elim
 | mp kk kv es=>exact fun y _ ⟨r,c,cl,hy,hr,hb,he⟩=>⟨r,c,cl,hy,hI.1 r hr,by rw [hh r hr];exact hb,he⟩
 | M5=>exact fun y hc _=>hc.elim
 | cnd=>exact fun y hc _=>hc.elim
 | UL=>exact fun y _ hy=>hy
 | tab g n k=>exact fun y _ ⟨h1,h2,h3⟩=>⟨h1,hI.1 g h2,by rw [hh g h2];exact h3⟩
 | Ac t d ih=>exact fun y hc ⟨z,h1,h2⟩=>⟨z,h1,ih _ hc h2⟩
theorem ace {h:Array Obj} {I I':IS} : ∀ (d:D) (y:Value),flat (std P) d→Rd h I (fun _=>none) [] 0 d y→Rd h I' (fun _=>none) [] 0 d y:=by
 intro d
 induction d with
 | agg k c ih =>
  rintro y hc ⟨ys,rfl,hs,hx⟩
  refine ⟨ys,rfl,hs,fun j hj=>?_⟩
  obtain ⟨z,h1,h2,h3⟩:=hx j hj
  exact ⟨z,h1,h2,ih _ _ (hc 0 (by omega) (by omega) j hj) h3⟩
 | gX k c ih =>
  rintro y hc ⟨ys,rfl,hs,hx⟩
  refine ⟨ys,rfl,hs,fun j hj=>?_⟩
  obtain ⟨z,h1,h3⟩:=hx j hj
  exact ⟨z,h1,ih _ _ (hc 0 (by omega) (by omega) j hj) h3⟩
 | fn f k c ih =>
  rintro y hc ⟨ys,rfl,hs,hx⟩
  refine ⟨ys,rfl,hs,fun j hj=>?_⟩
  obtain ⟨z,h1,h3⟩:=hx j hj
  exact ⟨z,h1,ih _ _ (hc 0 (by omega) (by omega) j hj) h3⟩
 | own=>exact fun y _ hy=>hy.elim
 | Ac t d ih=>exact fun y hc ⟨z,h1,h2⟩=>⟨z,h1,ih _ hc h2⟩
 | v x=>exact fun y _ hy=>hy
 | cO=>exact fun y _ hy=>hy
 | junk=>exact fun y _ _=>trivial
 | _=>exact fun y hc _=>hc.elim
theorem UY {B:Nat} {h:Array Obj} {I I':IS} (hI : ∀ b,I b→b < B) {d:D} {v:Value} (hf:flat (std P) d) (hr:Jg B h I' d v):Jg B h I d v:=by
 cases d with
 | own sz n t g =>
  obtain ⟨ad,len,cap,rfl,x1,x2,x3,x4⟩:=hr
  refine ⟨ad,len,cap,rfl,x1,x2,x3,fun hp=>?_⟩
  obtain ⟨b,p,c,e,rfl,y1,y2,y3,y4,y5⟩:=x4 hp
  refine ⟨b,p,c,e,rfl,y1,fun hb=>by have:=hI b hb;omega,y3,y4,fun i hi j hj=>?_⟩
  obtain ⟨z,z1,z2,z3⟩:=y5 i hi j hj
  exact ⟨z,z1,z2,ace _ _ (hf i (by omega) (by omega) j hj) z3⟩
 | uq q k c sz n t g=>exact hf.elim
 | _=>exact ace (I:=I') _ _ hf hr
theorem Yx (R:RM B0 h0 I0 L I β slots objs ctr a w) {w':World} {I':IS} (R':RM B0 h0 I0 L I' β slots objs ctr a w') {sz:Nat} {n:Int} {tight:Bool} {g:Int→Nat→D} {v:Value} {key:Nat} (hk:objs[key]? = some none)
  (h5:adI w.heap.size w'.heap I' sz n tight g v):Post B0 h0 I0 L I' β objs ctr w' (objs.set key (some (.arr ctr sz n tight g))) w' (.vec key ctr sz 0 n) v:=by
 obtain ⟨ad,len,cap,rfl,x1,x2,x3,x4⟩:=h5
 rcases Nat.eq_zero_or_pos cap with hc0 | hc0
 · obtain rfl:len=0:=by omega
   subst hc0
   exact C9 R' (old:=none) (.inl hk) (fun _ h=>by cases h) (by omega) _ _ _
 · obtain ⟨b,p,c,e,rfl,y1,y2,y3,y4,y5⟩:=x4 hc0
   have hml:len*sz≤cap*sz:=Nat.mul_le_mul_right _ x2
   have lD:key < objs.length:=by
    rcases Nat.lt_or_ge key objs.length with h | h
    · exact h
    · have hn:objs[key]? = none:=List.getElem?_eq_none (by simpa using h)
      rw [hn] at hk;cases hk
   refine R'.turn (old:=none) (X:=some (b,p,c)) rfl (.inl hk) (fun _ h=>by cases h) (fun _ _ _=>rfl) (Nat.le_refl _) ?_ ⟨by omega,  .inr ⟨b,p,c,c,e,rfl,y3,rfl,?_,fun i hi j hj=>?_⟩⟩ ?_
   · intro x hx
     cases hx
     exact ⟨(Array.getElem?_eq_some_iff.1 y3).1,.inr (.inr ⟨y2,by have:=R.size;omega,fun k z hz=>by have:=R.jf hz;simp;omega⟩)⟩
   · have:n.toNat=len:=by omega
     rw [this];omega
   · obtain ⟨z,z1,z2,z3⟩:=y5 i (by omega) j hj
     exact ⟨z,z1,z2,Rd.mono (Goes.back _ _ _ _ _) _ _ z3⟩
   · intro β' kC G'
     refine ⟨.inr ⟨rfl,_,List.getElem?_set_self lD,rfl⟩,⟨_,_,_,rfl,x1,x2,fun _=>rfl⟩,fun N t' f' ho=>?_⟩
     have ho:=ho
     simp only [killed] at ho
     rw [List.getElem?_set_self lD] at ho
     cases ho
     exact ⟨by omega,by omega,by omega,_,_,_,rfl,x1,x2,fun ht=>by have:=x3 ht;omega,fun _=>⟨b,p,_,kC,by simp,by simp;omega⟩⟩
theorem aaI (R:RM B0 h0 I0 L I β slots objs ctr a w) {w':World} {I':IS} (h1:I.le I') (h2:I.New w.heap.size I' w'.heap.size)
  (h3 : ∀ b,b < w.heap.size→w'.heap[b]? = w.heap[b]?) (h4:w.heap.size≤w'.heap.size) (hwo:iy w w') {sz:Nat} {n:Int} {tight:Bool} {g:Int→Nat→D} {v:Value} {key:Nat} (hk:objs[key]? = some none)
  (h5:Jg w.heap.size w'.heap I' (.own sz n tight g) v):Post B0 h0 I0 L I β objs ctr w (objs.set key (some (.arr ctr sz n tight g))) w' (.vec key ctr sz 0 n) v:=by
 obtain ⟨G,R'⟩:=R.grow h1 h2 h3 h4 hwo
 exact Post.after hwo G (Yx R R' hk h5)
theorem ae5 (R:RM B0 h0 I0 L I β slots objs ctr a w) {w':World} {I':IS} (h1:I.le I') (h2:I.New w.heap.size I' w'.heap.size)
  (h3 : ∀ b,b < w.heap.size→w'.heap[b]? = w.heap[b]?) (h4:w.heap.size≤w'.heap.size) (hwo:iy w w') {q k:Nat} {c:Nat→D} {sz:Nat} {n:Int} {tight:Bool} {g:Int→Nat→D} {v:Value} {key:Nat} (hk:objs[key]? = some none)
  (h5:Jg w.heap.size w'.heap I' (.uq q k c sz n tight g) v):Post B0 h0 I0 L I β objs ctr w (objs.set key (some (.arr ctr sz n tight g))) w' (.agg k fun j=>if Nat.beq j q then .vec key ctr sz 0 n else c j) v:=by
 obtain ⟨G,R'⟩:=R.grow h1 h2 h3 h4 hwo
 obtain ⟨ys,rfl,hs,hq,hc,z,hz,ho⟩:=h5
 obtain ⟨I2,β2,G2,x1,x2,x3,x4,x5,x6,x7,x8,x9⟩:=(Yx R R' hk ho).ex
 refine Post.after hwo G ⟨I2,β2,G2,x1,x2,x3,x4,x5,x6,x7,x8,ys,rfl,hs,fun j hj=>?_⟩
 by_cases hjq:j=q
 · subst hjq
   refine ⟨z,hz,?_,by simpa using x9⟩
   obtain ⟨ad,l,cp,rfl,_⟩:=ho
   rfl
 · obtain ⟨y,y1,y2,y3⟩:=hc j hj hjq
   refine ⟨y,y1,y2,?_⟩
   have:Nat.beq j q=false:=by cases hb:Nat.beq j q with
    | false=>rfl
    | true=>exact absurd (Nat.eq_of_beq_eq_true hb) hjq
   simp only [this,Bool.false_eq_true,if_false]
   exact Rd.mono G2 _ _ (Rd.mono (Goes.back _ _ _ _ _) _ _ y3)
theorem w9 (R:RM B0 h0 I0 L I β slots objs ctr a w) {w':World} {I':IS} (h1:I.le I') (h2:I.New w.heap.size I' w'.heap.size)
  (h3 : ∀ b,b < w.heap.size→w'.heap[b]? = w.heap[b]?) (h4:w.heap.size≤w'.heap.size) (hwo:iy w w') {d:D} {v:Value} (hd:nK d=false)
  (h5:Jg w.heap.size w'.heap I' d v):Post B0 h0 I0 L I β objs ctr w objs w' d v:=by
 obtain ⟨G,R'⟩:=R.grow h1 h2 h3 h4 hwo
 exact Post.after hwo G (R'.still (Rd.mono (Goes.back _ _ _ _ _) _ _ (Rj hd h5)))
theorem FB {objs:List (Option Ob)} {key:Nat} {d0 d:D} {o:Ob} {os os':List aU} {u:List (Nat × Option Ob)} (h:sN objs key d0 o os=some (d,u,os')):objs[key]? = some none∧d=d0∧u=[(key,some o)]∧os'=os:=by
 unfold sN at h
 split at h
 · rename_i hk
   simp only [Option.some.injEq,Prod.mk.injEq] at h
   exact ⟨hk,h.1.symm,h.2.1.symm,h.2.2.symm⟩
 · cases h
theorem agy (R:RM B0 h0 I0 L I β slots objs ctr a w) {d d':D} {os:List aU} {y:Value} (h:Zd (std P) objs d=some (d',os)) (hos : ∀ q∈os,q.run (std P)) (hv:Rd w.heap I β objs ctr d y) :
  Rd w.heap (I.or (Blocks β)) (fun _=>none) [] (ctr+1) d' y:=by
 have G:Goes w.heap I β objs ctr w.heap (I.or (Blocks β)) (fun _=>none) [] (ctr+1):=by
  refine ⟨fun _ x=>.inl x,fun _ _=>rfl,fun _ x=>.inl x,fun id g hg=>.inl ?_,fun id g hg o' ho' _ _=>by simp at ho'⟩
  rcases hg with h | ⟨h,_⟩<;>omega
 by_cases alq : ∃ id g sz off n,d = .vec id g sz off n
 · obtain ⟨id,g,sz,off,n,rfl⟩:=alq
   simp only [Zd] at h
   split at h
   · rename_i g' sz' N t f cK
     split at h
     · rename_i hsz
       have hsz:=Nat.eq_of_beq_eq_true hsz;subst hsz
       have key : ∀ hg:g=g',Rd w.heap (I.or (Blocks β)) (fun _=>none) [] (ctr+1) (.sl sz n (t && (off+n == N)) (fun i j=>f (off+i) j)) y:=by
        intro hg;subst hg
        obtain ⟨ad,len,cap,rfl,x1,x2,x3,x4⟩:=zJ hv cK (R.ob _ _ cK)
        refine ⟨ad,len,cap,rfl,x1,x2,x3,fun hp=>?_⟩
        obtain ⟨b,o,c,e,s,y1,rfl,y2,y3,y4,y5⟩:=x4 (by omega)
        refine ⟨b,o,c,e,_,rfl,.inr ⟨id,_,y1,rfl⟩,y2,fun i hi j hj=>?_⟩
        obtain ⟨z,z1,z2,z3⟩:=y5 i hi j hj
        exact ⟨z,z1,z2,Rd.mono G _ _ z3⟩
       split at h
       · simp only [Option.some.injEq,Prod.mk.injEq] at h
         obtain ⟨rfl,rfl⟩:=h
         obtain ⟨ad,len,cap,rfl,x1,x2,_,x4⟩:=key (hos _ (List.mem_singleton.2 rfl))
         refine ⟨ad,len,cap,rfl,x1,x2,(fun h=>by cases h),fun hp=>?_⟩
         obtain ⟨b,o,c,e,fr,e1,e2,e3,e4⟩:=x4 hp
         refine ⟨b,o,c,e,fr,e1,e2,e3,fun i hi j hj=>?_⟩
         obtain ⟨z,z1,z2,z3⟩:=e4 i hi j hj
         refine ⟨z,z1,z2,?_⟩
         have e0:(Int.ofNat 0:Int)+(i:Int)=i:=Int.zero_add _
         have z3:Rd w.heap (I.or (Blocks β)) (fun _=>none) [] (ctr+1) (f (Int.ofNat 0+(i:Int)) j) z:=z3
         rw [e0] at z3;exact z3
       · simp only [Option.some.injEq,Prod.mk.injEq] at h
         obtain ⟨rfl,rfl⟩:=h
         exact key (hos _ (List.mem_singleton.2 rfl))
     · cases h
   · cases h
 · have e:Zd (std P) objs d=some (d,[]):=by cases d<;>first | rfl | exact absurd ⟨_,_,_,_,_,rfl⟩ alq
   rw [e] at h
   simp only [Option.some.injEq,Prod.mk.injEq] at h
   obtain ⟨rfl,rfl⟩:=h
   exact Rd.mono G _ _ hv
theorem Rk (R:RM B0 h0 I0 L I β slots objs ctr a w) : ∀ {cs cs':List D} {os:List aU},KZ (std P) objs cs=some (cs',os)→(∀ q∈os,q.run (std P))→cs'.length=cs.length∧∀ (j:Nat) (d:D),cs[j]? = some d→∃ d',cs'[j]? = some d'∧∀ y,Rd w.heap I β objs ctr d y→Rd w.heap (I.or (Blocks β)) (fun _=>none) [] (ctr+1) d' y
 | [],cs',os,h,_=>by
  simp only [KZ,Option.some.injEq,Prod.mk.injEq] at h
  obtain ⟨rfl,rfl⟩:=h
  exact ⟨rfl,fun j d hj=>by simp at hj⟩
 | d :: r,cs',os,h,hos=>by
  simp only [KZ] at h
  split at h
  · rename_i d' os1 r' os2 hd hr
    simp only [Option.some.injEq,Prod.mk.injEq] at h
    obtain ⟨rfl,rfl⟩:=h
    obtain ⟨h1,h2⟩:=Rk R hr (fun q hq=>hos q (List.mem_append_right _ hq))
    refine ⟨by simp [h1],fun j x hj=>?_⟩
    cases j with
    | zero =>
     simp only [List.getElem?_cons_zero,Option.some.injEq] at hj
     subst hj
     exact ⟨d',rfl,fun y hy=>agy R hd (fun q hq=>hos q (List.mem_append_left _ hq)) hy⟩
    | succ j=>simpa using h2 j x (by simpa using hj)
  · cases h
theorem Yy (R:RM B0 h0 I0 L I β slots objs ctr a w) {d d':D} {os1:List aU} {y0:Value} (hd:Q5 (std P) objs d=some (d',os1)) (uY : ∀ q∈os1,q.run (std P)) (hv:Rd w.heap I β objs ctr d y0) :
  Rd w.heap (I.or (Blocks β)) (fun _=>none) [] (ctr+1) d' y0:=by
 have G:Goes w.heap I β objs ctr w.heap (I.or (Blocks β)) (fun _=>none) [] (ctr+1):=by
  refine ⟨fun _ x=>.inl x,fun _ _=>rfl,fun _ x=>.inl x,fun id g hg=>.inl ?_,fun id g hg o' ho' _ _=>by simp at ho'⟩
  rcases hg with h | ⟨h,_⟩<;>omega
 unfold Q5 at hd
 split at hd
 · rename_i id g sz off n
   split at hd
   · rename_i g' sz' N t f cK
     split at hd
     · rename_i hsz
       have hsz:=Nat.eq_of_beq_eq_true hsz;subst hsz
       simp only [Option.some.injEq,Prod.mk.injEq] at hd
       obtain ⟨rfl,rfl⟩:=hd
       have hg:g=g':=uY _ (List.mem_singleton.2 rfl)
       subst hg
       obtain ⟨ad,len,cap,rfl,x1,x2,x3,x4⟩:=zJ hv cK (R.ob _ _ cK)
       refine ⟨ad,len,cap,rfl,x1,x2,x3,fun hp=>?_⟩
       obtain ⟨b,o,c,e,s,y1,rfl,y2,y3,y4,y5⟩:=x4 (by omega)
       refine ⟨b,o,c,e,_,rfl,.inr ⟨id,_,y1,rfl⟩,y2,fun i hi j hj=>?_⟩
       obtain ⟨z,z1,z2,z3⟩:=y5 i hi j hj
       exact ⟨z,z1,z2,Rd.mono G _ _ z3⟩
     · cases hd
   · cases hd
 · rename_i id g j
   split at hd
   · rename_i g' cs cK
     split at hd
     · rename_i cs' os3 hcs
       simp only [Option.some.injEq,Prod.mk.injEq] at hd
       obtain ⟨rfl,rfl⟩:=hd
       have hg:g=g':=uY _ (List.mem_cons_self ..)
       subst hg
       obtain ⟨k1,k2⟩:=Rk R hcs (fun q hq=>uY q (List.mem_cons_of_mem _ hq))
       obtain ⟨_,_,hx⟩:=hv
       obtain ⟨b,o,s,hb,rfl⟩:=hx _ cK
       obtain ⟨_,b',o',s',c,e,q1,q2,q3,q4,q5,q6⟩:=R.ob _ _ cK
       rw [hb] at q1;cases q1
       refine ⟨by omega,by omega,b,o,c,e,_,by simp,.inr ⟨id,_,hb,rfl⟩,q2,fun i' hi j' hj=>?_⟩
       have hj2:j' < cs.length:=by omega
       obtain ⟨z,z1,z2,z3⟩:=q6 j' _ (List.getElem?_eq_getElem hj2)
       obtain ⟨d',d1,d2⟩:=k2 j' _ (List.getElem?_eq_getElem hj2)
       have e0:i'=0:=by omega
       subst e0
       refine ⟨z,by simpa using z1,z2,?_⟩
       have e1:cs'.getD j' .junk=d':=by simp [List.getD,d1]
       show Rd _ _ _ _ _ (cs'.getD j' .junk) z
       rw [e1]
       exact d2 z z3
     · cases hd
   · cases hd
 · rename_i k c
   split at hd
   · simp only [Option.some.injEq,Prod.mk.injEq] at hd
     obtain ⟨rfl,rfl⟩:=hd
     exact Rd.mono G _ _ hv
   · split at hd
     · rename_i cs' os3 hcs
       simp only [Option.some.injEq,Prod.mk.injEq] at hd
       obtain ⟨rfl,rfl⟩:=hd
       obtain ⟨k1,k2⟩:=Rk R hcs uY
       obtain ⟨ys,rfl,x1,x2⟩:=hv
       refine ⟨ys,rfl,x1,fun j hj=>?_⟩
       obtain ⟨z,z1,z2,z3⟩:=x2 j hj
       obtain ⟨d',d1,d2⟩:=k2 j (c j) (by rw [qZ,if_pos hj])
       refine ⟨z,z1,z2,?_⟩
       have e1:cs'.getD j .junk=d':=by simp [List.getD,d1]
       show Rd _ _ _ _ _ (cs'.getD j .junk) z
       rw [e1]
       exact d2 z z3
     · cases hd
 · simp only [Option.some.injEq,Prod.mk.injEq] at hd
   obtain ⟨rfl,rfl⟩:=hd
   exact Rd.mono G _ _ hv
theorem Yz (R:RM B0 h0 I0 L I β slots objs ctr a w) : ∀ {cs cs':List D} {os:List aU},Q7 (std P) objs cs=some (cs',os)→(∀ q∈os,q.run (std P))→cs'.length=cs.length∧∀ (j:Nat) (d:D),cs[j]? = some d→∃ d',cs'[j]? = some d'∧∀ y,Rd w.heap I β objs ctr d y→Rd w.heap (I.or (Blocks β)) (fun _=>none) [] (ctr+1) d' y
 | [],cs',os,h,_=>by
  simp only [Q7,Option.some.injEq,Prod.mk.injEq] at h
  obtain ⟨rfl,rfl⟩:=h
  exact ⟨rfl,fun j d hj=>by simp at hj⟩
 | d :: r,cs',os,h,hos=>by
  simp only [Q7] at h
  split at h
  · rename_i d' os1 r' os2 hd hr
    simp only [Option.some.injEq,Prod.mk.injEq] at h
    obtain ⟨rfl,rfl⟩:=h
    obtain ⟨h1,h2⟩:=Yz R hr (fun q hq=>hos q (List.mem_append_right _ hq))
    refine ⟨by simp [h1],fun j x hj=>?_⟩
    cases j with
    | zero =>
     simp only [List.getElem?_cons_zero,Option.some.injEq] at hj
     subst hj
     exact ⟨d',rfl,fun y hy=>Yy R hd (fun q hq=>hos q (List.mem_append_left _ hq)) hy⟩
    | succ j=>simpa using h2 j x (by simpa using hj)
  · cases h
theorem agz (R:RM B0 h0 I0 L I β slots objs ctr a w) {d d':D} {os1:List aU} {y0:Value} (hd:Ze (std P) objs d=some (d',os1)) (uY : ∀ q∈os1,q.run (std P)) (hv:Rd w.heap I β objs ctr d y0) :
  Rd w.heap (I.or (Blocks β)) (fun _=>none) [] (ctr+1) d' y0:=by
 by_cases hf : ∃ f k c,d = .fn f k c
 · obtain ⟨f,k,c,rfl⟩:=hf
   have G:Goes w.heap I β objs ctr w.heap (I.or (Blocks β)) (fun _=>none) [] (ctr+1):=by
    refine ⟨fun _ x=>.inl x,fun _ _=>rfl,fun _ x=>.inl x,fun id g hg=>.inl ?_,fun id g hg o' ho' _ _=>by simp at ho'⟩
    rcases hg with h | ⟨h,_⟩<;>omega
   simp only [Ze] at hd
   split at hd
   · simp only [Option.some.injEq,Prod.mk.injEq] at hd
     obtain ⟨rfl,rfl⟩:=hd
     exact Rd.mono G _ _ hv
   · split at hd
     · rename_i cs' os3 hcs
       simp only [Option.some.injEq,Prod.mk.injEq] at hd
       obtain ⟨rfl,rfl⟩:=hd
       obtain ⟨k1,k2⟩:=Yz R hcs uY
       obtain ⟨ys,rfl,x1,x2⟩:=hv
       refine ⟨ys,rfl,x1,fun j hj=>?_⟩
       obtain ⟨z,z1,z3⟩:=x2 j hj
       obtain ⟨d',d1,d2⟩:=k2 j (c j) (by rw [qZ,if_pos hj])
       refine ⟨z,z1,?_⟩
       have e1:cs'.getD j .junk=d':=by simp [List.getD,d1]
       show Rd _ _ _ _ _ (cs'.getD j .junk) z
       rw [e1]
       exact d2 z z3
     · cases hd
 · have e:Ze (std P) objs d=Q5 (std P) objs d:=by cases d<;>first | rfl | exact absurd ⟨_,_,_,rfl⟩ hf
   rw [e] at hd
   exact Yy R hd uY hv
theorem Le (R:RM B0 h0 I0 L I β slots objs ctr a w) : ∀ {args va:List D} {vos:List aU} {vs:List Value},M6 (std P) objs args=some (va,vos)→(∀ q∈vos,q.run (std P))→vs.length=args.length →
  (∀ (t:Nat) (d:D),args[t]? = some d→∃ y,vs[t]? = some y∧Rd w.heap I β objs ctr d y) →
  va.length=args.length∧∀ (t:Nat) (d:D),va[t]? = some d→∃ y,vs[t]? = some y∧Rd w.heap (I.or (Blocks β)) (fun _=>none) [] (ctr+1) d y
 | [],va,vos,vs,h,_,_,_=>by
  simp only [M6,Option.some.injEq,Prod.mk.injEq] at h
  obtain ⟨rfl,rfl⟩:=h
  exact ⟨rfl,fun t d ht=>by simp at ht⟩
 | d :: r,va,vos,vs,h,hos,hl,hargs=>by
  simp only [M6] at h
  split at h
  · rename_i d' os1 r' os2 hd hr
    simp only [Option.some.injEq,Prod.mk.injEq] at h
    obtain ⟨rfl,rfl⟩:=h
    cases vs with
    | nil=>simp at hl
    | cons y0 vs =>
     obtain ⟨h1,h2⟩:=Le R (vs:=vs) hr (fun q hq=>hos q (List.mem_append_right _ hq)) (by simpa using hl) (fun t d ht=>by simpa using hargs (t+1) d (by simpa using ht))
     refine ⟨by simp [h1],fun t x ht=>?_⟩
     cases t with
     | succ t=>simpa using h2 t x (by simpa using ht)
     | zero =>
      simp only [List.getElem?_cons_zero,Option.some.injEq] at ht
      subst ht
      obtain ⟨y,hy,hv⟩:=hargs 0 d (by simp)
      simp only [List.getElem?_cons_zero,Option.some.injEq] at hy
      subst hy
      refine ⟨y0,rfl,?_⟩
      have uY : ∀ q∈os1,q.run (std P):=fun q hq=>hos q (List.mem_append_left _ hq)
      exact agz R hd uY hv
  · cases h
end
section
variable {P:Program} {h:Array Obj} {I:IS} {β:Nat→Option (Nat × Nat × Array Value)} {objs:List (Option Ob)} {ctr:Nat}
theorem sP : ∀ (d d':D) (y:Value),bG (std P) d d'→Rd h I β objs ctr d y→Rd h I (fun _=>none) [] 0 d' y:=by
 intro d
 induction d with
 | v x =>
  intro d' y ho hr
  cases hr
  cases d' with
  | junk=>trivial
  | v x' =>
   cases x<;>cases x'<;>simp only [bG] at ho<;>first | exact ho.elim | skip
   case int.int k x k' x' =>
    split at ho
    · rename_i hk;subst hk;cases ho;rfl
    · exact ho.elim
   case nilIface.nilIface=>rfl
   all_goals (cases ho;rfl)
  | _=>cases x<;>simp [bG] at ho
 | cO =>
  intro d' y ho hr
  cases hr
  cases d' with
  | junk=>trivial
  | cO=>rfl
  | sl sz n t f =>
   have ho:n=0:=ho
   subst ho
   exact ⟨none,0,0,rfl,rfl,Nat.le_refl _,fun _=>rfl,fun h=>by omega⟩
  | _=>simp [bG] at ho
 | sl sz n t f ih =>
  intro d' y ho hr
  cases d' with
  | junk=>trivial
  | sl sz' n' t' f' =>
   simp only [bG] at ho
   split at ho
   · rename_i hk
     have hk:=Nat.eq_of_beq_eq_true hk;subst hk
     obtain ⟨h1,h2,h3⟩:=ho
     have h1:n=n':=h1
     subst h1
     obtain ⟨ad,len,cap,rfl,x1,x2,x3,x4⟩:=hr
     refine ⟨ad,len,cap,rfl,x1,x2,fun ht=>x3 (h2 ht),fun hp=>?_⟩
     obtain ⟨b,o,c,e,fr,e1,e2,e3,e4⟩:=x4 hp
     refine ⟨b,o,c,e,fr,e1,e2,e3,fun i hi j hj=>?_⟩
     obtain ⟨z,z1,z2,z3⟩:=e4 i hi j hj
     exact ⟨z,z1,z2,ih _ _ _ _ (h3 i (by omega) (by omega) j hj) z3⟩
   · exact ho.elim
  | _=>simp [bG] at ho
 | agg k c ih =>
  intro d' y ho hr
  cases d' with
  | junk=>trivial
  | agg k' c' =>
   simp only [bG] at ho
   split at ho
   · rename_i hk
     have hk:=Nat.eq_of_beq_eq_true hk;subst hk
     obtain ⟨ys,rfl,x1,x2⟩:=hr
     refine ⟨ys,rfl,x1,fun j hj=>?_⟩
     obtain ⟨z,z1,z2,z3⟩:=x2 j hj
     exact ⟨z,z1,z2,ih _ _ _ (ho 0 (by omega) (by omega) j hj) z3⟩
   · exact ho.elim
  | _=>simp [bG] at ho
 | gX k c ih =>
  intro d' y ho hr
  cases d' with
  | junk=>trivial
  | gX k' c' =>
   simp only [bG] at ho
   split at ho
   · rename_i hk
     have hk:=Nat.eq_of_beq_eq_true hk;subst hk
     obtain ⟨ys,rfl,x1,x2⟩:=hr
     refine ⟨ys,rfl,x1,fun j hj=>?_⟩
     obtain ⟨z,z1,z3⟩:=x2 j hj
     exact ⟨z,z1,ih _ _ _ (ho 0 (by omega) (by omega) j hj) z3⟩
   · exact ho.elim
  | _=>simp [bG] at ho
 | gY sz n f i j ih =>
  intro d' y ho hr
  cases d' with
  | junk=>trivial
  | gY sz' n' f' i' j' =>
   simp only [bG] at ho
   split at ho
   · rename_i hk
     have hk:=Bool.and_eq_true_iff.1 hk
     have h1:=Nat.eq_of_beq_eq_true hk.1;have h2:=Nat.eq_of_beq_eq_true hk.2
     subst h1 h2
     obtain ⟨h1,h2,h3⟩:=ho
     have h1:n=n':=h1
     have h2:i=i':=h2
     subst h1 h2
     obtain ⟨x1,x2,b,o,c,e,fr,x3,x4,x5,x6⟩:=hr
     refine ⟨x1,x2,b,o,c,e,fr,x3,x4,x5,fun q hq k hk=>?_⟩
     obtain ⟨z,z1,z2,z3⟩:=x6 q hq k hk
     exact ⟨z,z1,z2,ih _ _ _ _ (h3 q (by omega) hq k hk) z3⟩
   · exact ho.elim
  | _=>simp [bG] at ho
 | fn f k c ih =>
  intro d' y ho hr
  cases d' with
  | junk=>trivial
  | fn f' k' c' =>
   cases f<;>cases f'<;>simp only [bG] at ho<;>first | exact ho.elim | skip
   obtain ⟨h1,h2,ho⟩:=ho
   cases h1;cases h2
   obtain ⟨ys,rfl,x1,x2⟩:=hr
   refine ⟨ys,rfl,x1,fun j hj=>?_⟩
   obtain ⟨z,z1,z3⟩:=x2 j hj
   exact ⟨z,z1,ih _ _ _ (ho 0 (by omega) (by omega) j hj) z3⟩
  | _=>cases f<;>simp [bG] at ho
 | Ac t d ih =>
  intro d' y ho hr
  cases d' with
  | junk=>trivial
  | Ac t' d' =>
   obtain ⟨h1,ho⟩:=ho
   cases h1
   obtain ⟨z,h2,h3⟩:=hr
   exact ⟨z,h2,ih _ _ ho h3⟩
  | _=>simp [bG] at ho
 | _ =>
  intro d' y ho hr
  cases d' with
  | junk=>trivial
  | _=>simp [bG] at ho
theorem Goes.QY (h:Array Obj) (I I':IS) (hI:I.le I'):Goes h I (fun _=>none) [] 0 h I' (fun _=>none) [] 0 :=
 ⟨hI.1,fun _ _=>rfl,hI.2,fun _ _ x=>x,fun _ _ _ o' ho' _ _=>⟨o',ho',Ob.l9 _,rfl⟩⟩
end
section
variable {P:Program} {tt:TT} {B0:Nat} {h0:Array Obj} {I0 I:IS} {L:p9} {β:Nat→Option (Nat × Nat × Array Value)} {slots:List D} {objs:List (Option Ob)} {ctr:Nat} {a:Act} {w:World}
theorem CX {y:Nat} : ∀ {l:List Nat},nC l y=true ↔ y∈l
 | []=>by simp [nC]
 | x :: r=>by
  simp only [nC,List.mem_cons]
  split
  · rename_i h;simp [Nat.eq_of_beq_eq_true h]
  · rename_i h
    have : ¬ y=x:=fun e=>h (by rw [e];exact Nat.beq_refl _)
    simp [this,CX]
theorem aaN {y:Nat} : ∀ {l:List Nat},y∈l→l[HZ l y]? = some y
 | [],h=>by simp at h
 | x :: r,h=>by
  simp only [HZ]
  split
  · rename_i hx;simp [Nat.eq_of_beq_eq_true hx]
  · rename_i hx
    have : ¬ y=x:=fun e=>hx (by rw [e];exact Nat.beq_refl _)
    simp only [List.getElem?_cons_succ]
    exact aaN ((List.mem_cons.1 h).resolve_left this)
def Dw:D→Option Nat
 | .dI id _ _=>some id
 | .kX id _ _ _ _=>some id
 | .vec id _ _ _ _=>some id
 | _=>none
theorem Rl {l:List Nat} {id:Nat} (h:l.Nodup):(addN l id).Nodup∧(∀ x∈l,x∈addN l id)∧id∈addN l id:=by
 unfold addN
 split
 · rename_i hm;exact ⟨h,fun x hx=>hx,CX.1 hm⟩
 · rename_i hm
   refine ⟨?_,fun x hx=>List.mem_append_left _ hx,List.mem_append_right _ (by simp)⟩
   rw [List.nodup_append]
   refine ⟨h,by simp,fun a ha b hb=>?_⟩
   simp only [List.mem_singleton] at hb
   subst hb
   intro e;subst e
   exact hm (CX.2 ha)
theorem Rn (d:D) (l:List Nat) (h:l.Nodup):(FL d l).Nodup∧(∀ x∈l,x∈FL d l)∧∀ id,Dw d=some id→id∈FL d l:=by
 cases d
 case dI id g j=>obtain ⟨h1,h2,h3⟩:=Rl (id:=id) h;exact ⟨h1,h2,fun x hx=>by cases hx;exact h3⟩
 case kX id g sz i j=>obtain ⟨h1,h2,h3⟩:=Rl (id:=id) h;exact ⟨h1,h2,fun x hx=>by cases hx;exact h3⟩
 case vec id g sz o n=>obtain ⟨h1,h2,h3⟩:=Rl (id:=id) h;exact ⟨h1,h2,fun x hx=>by cases hx;exact h3⟩
 all_goals exact ⟨h,fun x hx=>hx,fun id hx=>by cases hx⟩
theorem Oc : ∀ (cs:List D) (l:List Nat),l.Nodup→(nZ cs l).Nodup∧(∀ x∈l,x∈nZ cs l)∧∀ (j:Nat) (d:D) (id:Nat),cs[j]? = some d→Dw d=some id→id∈nZ cs l
 | [],l,h=>⟨h,fun x hx=>hx,fun j d id hj=>by simp at hj⟩
 | d :: r,l,h=>by
  obtain ⟨h1,h2,h3⟩:=Rn d l h
  obtain ⟨k1,k2,k3⟩:=Oc r _ h1
  refine ⟨k1,fun x hx=>k2 x (h2 x hx),fun j x id hj hid=>?_⟩
  cases j with
  | zero=>simp only [List.getElem?_cons_zero,Option.some.injEq] at hj;subst hj;exact k2 id (h3 id hid)
  | succ j=>exact k3 j x id (by simpa using hj) hid
theorem aaO (d:D) (l:List Nat) (h:l.Nodup):(FM d l).Nodup∧(∀ x∈l,x∈FM d l)∧(∀ id,Dw d=some id→id∈FM d l)∧∀ (k:Nat) (c:Nat→D) (j id:Nat),d = .agg k c→j < k→Dw (c j)=some id→id∈FM d l:=by
 by_cases hd : ∃ k c,d = .agg k c
 · obtain ⟨k,c,rfl⟩:=hd
   obtain ⟨h1,h2,h3⟩:=Oc (cellsOf k c) l h
   refine ⟨h1,h2,(fun id hid=>by cases hid),fun k' c' j id he hj hid=>?_⟩
   cases he
   exact h3 j _ id (by rw [qZ,if_pos hj]) hid
 · have e:FM d l=FL d l:=by cases d<;>first | rfl | exact absurd ⟨_,_,rfl⟩ hd
   rw [e]
   obtain ⟨h1,h2,h3⟩:=Rn d l h
   exact ⟨h1,h2,h3,fun k c j id he=>absurd ⟨k,c,he⟩ hd⟩
theorem TB : ∀ (args:List D) (l:List Nat),l.Nodup→(pQ args l).Nodup∧(∀ x∈l,x∈pQ args l)∧∀ (t:Nat) (d:D),args[t]? = some d →
  (∀ id,Dw d=some id→id∈pQ args l)∧∀ (k:Nat) (c:Nat→D) (j id:Nat),d = .agg k c→j < k→Dw (c j)=some id→id∈pQ args l
 | [],l,h=>⟨h,fun x hx=>hx,fun t d ht=>by simp at ht⟩
 | d :: r,l,h=>by
  obtain ⟨h1,h2,h3,h4⟩:=aaO d l h
  obtain ⟨k1,k2,k3⟩:=TB r _ h1
  refine ⟨k1,fun x hx=>k2 x (h2 x hx),fun t x ht=>?_⟩
  cases t with
  | zero =>
   simp only [List.getElem?_cons_zero,Option.some.injEq] at ht
   subst ht
   exact ⟨fun id hid=>k2 id (h3 id hid),fun k c j id he hj hid=>k2 id (h4 k c j id he hj hid)⟩
  | succ t=>exact k3 t x (by simpa using ht)
theorem TD : ∀ (u:List (Nat × Option Ob)) (objs:List (Option Ob)),(u.map (·.1)).Nodup→(∀ x∈u,x.1 < objs.length) →
  (bF objs u).length=objs.length∧(∀ id,id ∉ u.map (·.1)→(bF objs u)[id]? = objs[id]?)∧∀ x∈u,(bF objs u)[x.1]? = some x.2
 | [],objs,_,_=>⟨rfl,fun _ _=>rfl,fun x hx=>by simp at hx⟩
 | (k,o) :: r,objs,hn,hl=>by
  simp only [List.map_cons,List.nodup_cons] at hn
  obtain ⟨h1,h2,h3⟩:=TD r (objs.set k o) hn.2 (fun x hx=>by simpa using hl x (List.mem_cons_of_mem _ hx))
  refine ⟨by simpa [bF] using h1,fun id hid=>?_,fun x hx=>?_⟩
  · simp only [List.map_cons,List.mem_cons,not_or] at hid
    simp only [bF]
    rw [h2 id hid.2,List.getElem?_set_ne (Ne.symm hid.1)]
  · simp only [bF]
    rcases List.mem_cons.1 hx with rfl | hx
    · rw [h2 k hn.1]
      exact List.getElem?_set_self (hl (k,o) (List.mem_cons_self ..))
    · exact h3 x hx
theorem agA {objs:List (Option Ob)} {d:D} (h:(QZ (std P) objs d).run (std P)):(∃ id g o,Dw d=some id∧objs[id]? = some (some o)∧g=o.gen∧((∃ j,d = .dI id g j)∨(∃ sz i j,d = .kX id g sz i j)∨∃ sz off n,d = .vec id g sz off n))∨(Dw d=none∧lG (std P) d):=by
 cases d<;>simp only [QZ] at h
 case dI id g j =>
  left
  split at h
  · rename_i o ho;exact ⟨id,g,o,rfl,ho,h,.inl ⟨j,rfl⟩⟩
  · exact False.elim h
 case kX id g sz i j =>
  left
  split at h
  · rename_i o ho;exact ⟨id,g,o,rfl,ho,h,.inr (.inl ⟨sz,i,j,rfl⟩)⟩
  · exact False.elim h
 case vec id g sz off n =>
  left
  split at h
  · rename_i o ho;exact ⟨id,g,o,rfl,ho,h,.inr (.inr ⟨sz,off,n,rfl⟩)⟩
  · exact False.elim h
 all_goals exact .inr ⟨rfl,h⟩
theorem aaP {objs:List (Option Ob)} : ∀ {l:List D},(∀ q∈agb (std P) objs l,q.run (std P))→∀ (j:Nat) (d:D),l[j]? = some d→(QZ (std P) objs d).run (std P)
 | [],_,j,d,hj=>by simp at hj
 | c :: r,h,j,d,hj=>by
  cases j with
  | zero=>simp only [List.getElem?_cons_zero,Option.some.injEq] at hj;subst hj;exact h _ (List.mem_cons_self ..)
  | succ j=>exact aaP (fun q hq=>h q (List.mem_cons_of_mem _ hq)) j d (by simpa using hj)
theorem TF {objs:List (Option Ob)} : ∀ {args:List D},(∀ q∈KY (std P) objs args,q.run (std P))→∀ (t:Nat) (d:D),args[t]? = some d →
  (∃ k c,d = .agg k c∧((H6 (nZ (cellsOf k c) [])=true∧lG (std P) d)∨(H6 (nZ (cellsOf k c) [])=false∧∀ j,j < k→(QZ (std P) objs (c j)).run (std P))))∨((∀ k c,d≠.agg k c)∧(QZ (std P) objs d).run (std P))
 | [],_,t,d,ht=>by simp at ht
 | c :: r,h,t,d,ht=>by
  simp only [KY] at h
  cases t with
  | succ t=>exact TF (fun q hq=>h q (List.mem_append_right _ hq)) t d (by simpa using ht)
  | zero =>
   simp only [List.getElem?_cons_zero,Option.some.injEq] at ht
   subst ht
   by_cases hc : ∃ k f,c = .agg k f
   · obtain ⟨k,f,rfl⟩:=hc
     refine .inl ⟨k,f,rfl,?_⟩
     cases hb:H6 (nZ (cellsOf k f) []) with
     | true =>
      simp only [hb,if_true] at h
      exact .inl ⟨rfl,h (.lG (.agg k f)) (by simp)⟩
     | false =>
      simp only [hb,Bool.false_eq_true,if_false] at h
      refine .inr ⟨rfl,fun j hj=>aaP (l:=cellsOf k f) (fun q hq=>h q (List.mem_append_left _ hq)) j _ (by rw [qZ,if_pos hj])⟩
   · refine .inr ⟨fun k f e=>hc ⟨k,f,e⟩,?_⟩
     cases c<;>first | exact absurd ⟨_,_,rfl⟩ hc | exact h _ (by simp)
theorem Na : ∀ {l:List Nat},Q0 l=true→l.Nodup
 | [],_=>List.nodup_nil
 | x :: r,h=>by
  simp only [Q0,Bool.and_eq_true,Bool.not_eq_true'] at h
  rw [List.nodup_cons]
  exact ⟨fun hx=>by rw [CX.2 hx] at h;exact absurd h.1 (by simp),Na h.2⟩
theorem Db : ∀ {l:List (Nat × Int × Ob)} {i:Nat},(jA l)[i]? = (l[i]?).map (·.1)
 | [],i=>by simp [jA]
 | x :: r,0=>by simp [jA]
 | x :: r,i+1=>by simp only [jA,List.getElem?_cons_succ];exact Db
theorem aaQ : ∀ {l:List (Nat × Int × Ob)} {i:Nat},(uZ l)[i]? = (l[i]?).map (·.2.2)
 | [],i=>by simp [uZ]
 | x :: r,0=>by simp [uZ]
 | x :: r,i+1=>by simp only [uZ,List.getElem?_cons_succ];exact aaQ
theorem aaR : ∀ {l:List (Nat × Int × Ob)},(jA l).length=l.length
 | []=>rfl
 | _ :: r=>by simp only [jA,List.length_cons];rw [aaR]
theorem aaS : ∀ {l:List (Nat × Int × Ob)},(uZ l).length=l.length
 | []=>rfl
 | _ :: r=>by simp only [uZ,List.length_cons];rw [aaS]
def adY (objs:List (Option Ob)) (ctr:Nat) (d:D) (x:Nat × Int × Ob):Prop :=
 ∃ g sz n N t f,d = .vec x.1 g sz x.2.1 n∧objs[x.1]? = some (some (.arr g sz N t f))∧x.2.2 = .arr 0 sz n false (fun i j=>f (x.2.1+i) j)∧g < ctr∧∀ i:Int,0≤i→i < n→∀ j,j < sz→lG (std P) (f (x.2.1+i) j)
def adZ (objs:List (Option Ob)) (ctr k:Nat) (is:List (Nat × Int × Ob)) (d d':D):Prop :=
 (d'=d∧lG (std P) d)∨∃ i x g sz n,is[i]? = some x∧adY (P:=P) objs ctr d x∧d = .vec x.1 g sz x.2.1 n∧d' = .vec (k+i) 0 sz 0 n
theorem agB {p:Pr} {objs:List (Option Ob)} {ctr:Nat} {d:D} {r:List D} {k:Nat} (h : ∀ id g sz off n,d≠.vec id g sz off n):Jc p objs ctr (d :: r) k=match Jc p objs ctr r k with
  | some (cs,is,os)=>some (d :: cs,is,aU.lG d :: os)
  | none=>none:=by
 cases d<;>first | rfl | exact absurd rfl (h _ _ _ _ _)
theorem Nl {objs:List (Option Ob)} {ctr:Nat} : ∀ {l:List D} {k:Nat} {cs:List D} {is:List (Nat × Int × Ob)} {os:List aU},Jc (std P) objs ctr l k=some (cs,is,os)→(∀ q∈os,q.run (std P)) →
  cs.length=l.length∧(∀ (j:Nat) (d:D),l[j]? = some d→∃ d',cs[j]? = some d'∧adZ (P:=P) objs ctr k is d d')∧∀ (i:Nat) (x:Nat × Int × Ob),is[i]? = some x→∃ (j:Nat) (d:D),l[j]? = some d∧adY (P:=P) objs ctr d x
 | [],k,cs,is,os,h,_=>by
  simp only [Jc,Option.some.injEq,Prod.mk.injEq] at h
  obtain ⟨rfl,rfl,rfl⟩:=h
  exact ⟨rfl,fun j d hj=>by simp at hj,fun i x hi=>by simp at hi⟩
 | d :: r,k,cs,is,os,h,hos=>by
  by_cases hv : ∃ id g sz off n,d = .vec id g sz off n
  · obtain ⟨id,g,sz,off,n,rfl⟩:=hv
    simp only [Jc] at h
    split at h
    · rename_i g' sz' N t f ho
      have hf:f=fun i j=>f (0+i) j:=by funext i j;rw [Int.zero_add]
      split at h
      · rename_i hsz
        have hsz:=Nat.eq_of_beq_eq_true hsz;subst hsz
        split at h
        · rename_i cs1 is1 os1 hr
          simp only [Option.some.injEq,Prod.mk.injEq] at h
          obtain ⟨rfl,rfl,rfl⟩:=h
          have e1:g=g':=hos _ (List.mem_cons_self ..)
          subst e1
          have e2:g < ctr:=hos _ (List.mem_cons_of_mem _ (List.mem_cons_self ..))
          have e3:=hos _ (List.mem_cons_of_mem _ (List.mem_cons_of_mem _ (List.mem_cons_self ..)))
          obtain ⟨h1,h2,h3⟩:=Nl hr (fun q hq=>hos q (List.mem_cons_of_mem _ (List.mem_cons_of_mem _ (List.mem_cons_of_mem _ hq))))
          have hI:adY (P:=P) objs ctr (.vec id g sz (.ofNat 0) n) (id,0,.arr 0 sz n false f):=⟨g,sz,n,N,t,f,rfl,ho,congrArg _ hf,e2,fun i i0 i1 j hj=>by show lG (std P) (f (0+i) j);rw [Int.zero_add];exact e3 i i0 i1 j hj⟩
          refine ⟨by simp [h1],fun j d hj=>?_,fun i x hi=>?_⟩
          · cases j with
            | zero =>
             simp only [List.getElem?_cons_zero,Option.some.injEq] at hj
             subst hj
             exact ⟨_,rfl,.inr ⟨0,_,g,sz,n,rfl,hI,rfl,rfl⟩⟩
            | succ j =>
             obtain ⟨d',d1,d2⟩:=h2 j d (by simpa using hj)
             refine ⟨d',by simpa using d1,?_⟩
             rcases d2 with d2 | ⟨i,x,g1,La,n1,i1,i2,i3,i4⟩
             · exact .inl d2
             · exact .inr ⟨i+1,x,g1,La,n1,by simpa using i1,i2,i3,by rw [i4];congr 1;omega⟩
          · cases i with
            | zero =>
             simp only [List.getElem?_cons_zero,Option.some.injEq] at hi
             subst hi
             exact ⟨0,_,rfl,hI⟩
            | succ i =>
             obtain ⟨j,d,j1,j2⟩:=h3 i x (by simpa using hi)
             exact ⟨j+1,d,by simpa using j1,j2⟩
        · cases h
      · cases h
    · cases h
  · rw [agB (fun id g sz off n e=>hv ⟨id,g,sz,off,n,e⟩)] at h
    split at h
    · rename_i cs1 is1 os1 hr
      simp only [Option.some.injEq,Prod.mk.injEq] at h
      obtain ⟨rfl,rfl,rfl⟩:=h
      have e1:lG (std P) d:=hos _ (List.mem_cons_self ..)
      obtain ⟨h1,h2,h3⟩:=Nl hr (fun q hq=>hos q (List.mem_cons_of_mem _ hq))
      refine ⟨by simp [h1],fun j d0 hj=>?_,fun i x hi=>?_⟩
      · cases j with
        | zero =>
         simp only [List.getElem?_cons_zero,Option.some.injEq] at hj
         subst hj
         exact ⟨_,rfl,.inl ⟨rfl,e1⟩⟩
        | succ j=>simpa using h2 j d0 (by simpa using hj)
      · obtain ⟨j,d0,j1,j2⟩:=h3 i x hi
        exact ⟨j+1,d0,by simpa using j1,j2⟩
    · cases h
theorem FC {objs:List (Option Ob)} {ctr:Nat} {win:Nat→Nat} : ∀ {ids:List Nat} {posts:List Ob} {k:Nat} {ts:List Ob} {is:List (Nat × Int × Ob)} {os:List aU},Bf (std P) objs ctr win ids posts k=some (ts,is,os)→(∀ q∈os,q.run (std P)) →
  ts.length=ids.length∧(∀ (t id:Nat),ids[t]? = some id →
   (∃ g cs g' cs' c1,objs[id]? = some (some (.box g cs))∧posts[t]? = some (.box g' cs')∧ts[t]? = some (.box 0 c1)∧win id+cs'.length≤cs.length∧c1.length=cs'.length ∧
    ∀ j,j < cs'.length→∃ d d',cs[win id+j]? = some d∧c1[j]? = some d'∧adZ (P:=P) objs ctr k is d d') ∨
   (∃ g sz n tt f,objs[id]? = some (some (.arr g sz n tt f))∧ts[t]? = some (.arr 0 sz n tt f)∧∀ i:Int,0≤i→i < n→∀ j,j < sz→lG (std P) (f i j))) ∧
  ∀ (i:Nat) (x:Nat × Int × Ob),is[i]? = some x→∃ (id g:Nat) (cs:List D) (j:Nat) (d:D),objs[id]? = some (some (.box g cs))∧cs[j]? = some d∧adY (P:=P) objs ctr d x
 | [],posts,k,ts,is,os,h,_=>by
  simp only [Bf,Option.some.injEq,Prod.mk.injEq] at h
  obtain ⟨rfl,rfl,rfl⟩:=h
  exact ⟨rfl,fun t id ht=>by simp at ht,fun i x hi=>by simp at hi⟩
 | id :: r,[],k,ts,is,os,h,_=>by simp [Bf] at h
 | id :: r,.iter _ _ _ :: _,k,ts,is,os,h,_=>by simp [Bf] at h
 | id :: r,.box g' cs' :: qs,k,ts,is,os,h,hos=>by
  simp only [Bf] at h
  split at h
  · rename_i g cs ho
    split at h
    · rename_i hle
      have hle:=Nat.le_of_ble_eq_true hle
      split at h
      · rename_i c1 i1 o1 hc
        split at h
        · rename_i ts1 is1 os1 hr
          simp only [Option.some.injEq,Prod.mk.injEq] at h
          obtain ⟨rfl,rfl,rfl⟩:=h
          obtain ⟨a1,a2,a3⟩:=Nl hc (fun q hq=>hos q (List.mem_append_left _ hq))
          obtain ⟨b1,b2,b3⟩:=FC hr (fun q hq=>hos q (List.mem_append_right _ hq))
          have hwin : ∀ j,j < cs'.length→((cs.drop (win id)).take cs'.length)[j]? = cs[win id+j]?:=fun j hj=>by
           rw [List.getElem?_take_of_lt hj,List.getElem?_drop]
          have hwl:((cs.drop (win id)).take cs'.length).length=cs'.length:=by simp;omega
          refine ⟨by simp [b1],fun t id1 ht=>?_,fun i x hi=>?_⟩
          · cases t with
            | zero =>
             simp only [List.getElem?_cons_zero,Option.some.injEq] at ht
             subst ht
             refine .inl ⟨g,cs,g',cs',c1,ho,rfl,rfl,hle,a1.trans hwl,fun j hj=>?_⟩
             have hlt:win id+j < cs.length:=by omega
             obtain ⟨d',d1,d2⟩:=a2 j _ ((hwin j hj).trans (List.getElem?_eq_getElem hlt))
             refine ⟨_,d',List.getElem?_eq_getElem hlt,d1,?_⟩
             rcases d2 with d2 | ⟨i,x,g1,La,n1,i1',i2,i3,i4⟩
             · exact .inl d2
             · refine .inr ⟨i,x,g1,La,n1,?_,i2,i3,i4⟩
               rw [List.getElem?_append_left (List.getElem?_eq_some_iff.1 i1').1];exact i1'
            | succ t =>
             rcases b2 t id1 (by simpa using ht) with ⟨g2,cs2,g3,Ro,c2,e1,e2,e3,e4,e5,e6⟩ | e
             · refine .inl ⟨g2,cs2,g3,Ro,c2,e1,by simpa using e2,by simpa using e3,e4,e5,fun j hj=>?_⟩
               obtain ⟨d,d',d1,d2,d3⟩:=e6 j hj
               refine ⟨d,d',d1,d2,?_⟩
               rcases d3 with d3 | ⟨i,x,g1,La,n1,i1',i2,i3,i4⟩
               · exact .inl d3
               · refine .inr ⟨i1.length+i,x,g1,La,n1,?_,i2,i3,by rw [i4];congr 1;omega⟩
                 rw [List.getElem?_append_right (by omega)]
                 rw [show i1.length+i-i1.length=i by omega];exact i1'
             · obtain ⟨g2,jC,n2,t2,f2,e1,e2,e3⟩:=e
               exact .inr ⟨g2,jC,n2,t2,f2,e1,by simpa using e2,e3⟩
          · rcases Nat.lt_or_ge i i1.length with hlt | hge
            · rw [List.getElem?_append_left hlt] at hi
              obtain ⟨j,d,j1,j2⟩:=a3 i x hi
              have hjl:j < cs'.length:=by
               have:=(List.getElem?_eq_some_iff.1 j1).1
               rw [hwl] at this;exact this
              rw [hwin j hjl] at j1
              exact ⟨id,g,cs,win id+j,d,ho,j1,j2⟩
            · rw [List.getElem?_append_right hge] at hi
              exact b3 _ x hi
        · cases h
      · cases h
    · cases h
  · cases h
 | id :: r,.arr g' sz' n' t' f' :: qs,k,ts,is,os,h,hos=>by
  simp only [Bf] at h
  split at h
  · rename_i g sz n tt f ho
    split at h
    · rename_i ts1 is1 os1 hr
      simp only [Option.some.injEq,Prod.mk.injEq] at h
      obtain ⟨rfl,rfl,rfl⟩:=h
      have e0:=hos _ (List.mem_cons_self ..)
      obtain ⟨b1,b2,b3⟩:=FC hr (fun q hq=>hos q (List.mem_cons_of_mem _ hq))
      refine ⟨by simp [b1],fun t id1 ht=>?_,b3⟩
      cases t with
      | zero =>
       simp only [List.getElem?_cons_zero,Option.some.injEq] at ht
       subst ht
       exact .inr ⟨g,sz,n,tt,f,ho,rfl,e0⟩
      | succ t =>
       rcases b2 t id1 (by simpa using ht) with ⟨g2,cs2,g3,Ro,c2,e1,e2,e3,e4⟩ | ⟨g2,jC,n2,t2,f2,e1,e2,e3⟩
       · exact .inl ⟨g2,cs2,g3,Ro,c2,e1,by simpa using e2,by simpa using e3,e4⟩
       · exact .inr ⟨g2,jC,n2,t2,f2,e1,by simpa using e2,e3⟩
    · cases h
  · cases h
 | id :: r,.dead g' :: qs,k,ts,is,os,h,hos=>by
  simp only [Bf] at h
  split at h
  · rename_i g sz n tt f ho
    split at h
    · rename_i ts1 is1 os1 hr
      simp only [Option.some.injEq,Prod.mk.injEq] at h
      obtain ⟨rfl,rfl,rfl⟩:=h
      have e0:=hos _ (List.mem_cons_self ..)
      obtain ⟨b1,b2,b3⟩:=FC hr (fun q hq=>hos q (List.mem_cons_of_mem _ hq))
      refine ⟨by simp [b1],fun t id1 ht=>?_,b3⟩
      cases t with
      | zero =>
       simp only [List.getElem?_cons_zero,Option.some.injEq] at ht
       subst ht
       exact .inr ⟨g,sz,n,tt,f,ho,rfl,e0⟩
      | succ t =>
       rcases b2 t id1 (by simpa using ht) with ⟨g2,cs2,g3,Ro,c2,e1,e2,e3,e4⟩ | ⟨g2,jC,n2,t2,f2,e1,e2,e3⟩
       · exact .inl ⟨g2,cs2,g3,Ro,c2,e1,by simpa using e2,by simpa using e3,e4⟩
       · exact .inr ⟨g2,jC,n2,t2,f2,e1,by simpa using e2,e3⟩
    · cases h
  · cases h
theorem agC {p:Pr} {ctr top:Nat} {all:List Nat} {d:D} {r:List D} (h : ∀ id g sz off n,d≠.vec id g sz off n):Jd p ctr top all (d :: r)=match Jd p ctr top all r with
  | some (cs,os)=>some (d :: cs,aU.lG d :: os)
  | none=>none:=by
 cases d<;>first | rfl | exact absurd rfl (h _ _ _ _ _)
def ad1 (ctr top:Nat) (all:List Nat) (d e:D):Prop:=(e=d∧lG (std P) d)∨∃ k id sz o n,d = .vec k 1 sz o n∧top≤k∧all[k]? = some id∧e = .vec id ctr sz o n
theorem Nn {ctr top:Nat} {all:List Nat} : ∀ {l cs:List D} {os:List aU},Jd (std P) ctr top all l=some (cs,os)→(∀ q∈os,q.run (std P))→cs.length=l.length∧∀ (j:Nat) (d:D),l[j]? = some d→∃ e,cs[j]? = some e∧ad1 (P:=P) ctr top all d e
 | [],cs,os,h,_=>by
  simp only [Jd,Option.some.injEq,Prod.mk.injEq] at h
  obtain ⟨rfl,rfl⟩:=h
  exact ⟨rfl,fun j d hj=>by simp at hj⟩
 | d :: r,cs,os,h,hos=>by
  by_cases hv : ∃ id g sz off n,d = .vec id g sz off n
  · obtain ⟨id,g,sz,off,n,rfl⟩:=hv
    simp only [Jd] at h
    split at h
    · rename_i i0 cs1 os1 ha hr
      split at h
      · rename_i hk
        simp only [Bool.and_eq_true] at hk
        have hk1:=Nat.le_of_ble_eq_true hk.1
        have hk2:=Nat.eq_of_beq_eq_true hk.2
        subst hk2
        simp only [Option.some.injEq,Prod.mk.injEq] at h
        obtain ⟨rfl,rfl⟩:=h
        obtain ⟨h1,h2⟩:=Nn hr hos
        refine ⟨by simp [h1],fun j d hj=>?_⟩
        cases j with
        | zero =>
         simp only [List.getElem?_cons_zero,Option.some.injEq] at hj
         subst hj
         exact ⟨_,rfl,.inr ⟨id,i0,sz,off,n,rfl,hk1,ha,rfl⟩⟩
        | succ j=>simpa using h2 j d (by simpa using hj)
      · cases h
    · cases h
  · rw [agC (fun id g sz off n e=>hv ⟨id,g,sz,off,n,e⟩)] at h
    split at h
    · rename_i cs1 os1 hr
      simp only [Option.some.injEq,Prod.mk.injEq] at h
      obtain ⟨rfl,rfl⟩:=h
      have e1:lG (std P) d:=hos _ (List.mem_cons_self ..)
      obtain ⟨h1,h2⟩:=Nn hr (fun q hq=>hos q (List.mem_cons_of_mem _ hq))
      refine ⟨by simp [h1],fun j d0 hj=>?_⟩
      cases j with
      | zero =>
       simp only [List.getElem?_cons_zero,Option.some.injEq] at hj
       subst hj
       exact ⟨_,rfl,.inl ⟨rfl,e1⟩⟩
      | succ j=>simpa using h2 j d0 (by simpa using hj)
    · cases h
theorem FD {objs:List (Option Ob)} {ctr top:Nat} {all:List Nat} {win:Nat→Nat} : ∀ {ids:List Nat} {posts:List Ob} {u:List (Nat × Option Ob)} {os:List aU},Bg (std P) objs ctr top all win ids posts=some (u,os)→(∀ q∈os,q.run (std P)) →
  u.map (·.1)=ids∧∀ (t id:Nat),ids[t]? = some id→(∃ g cs cs' c1,objs[id]? = some (some (.box g cs))∧posts[t]? = some (.box 0 cs')∧win id+cs'.length≤cs.length∧(id,some (.box g (kJ cs (win id) c1)))∈u∧c1.length=cs'.length ∧
    ∀ (j:Nat) (d:D),cs'[j]? = some d→∃ e,c1[j]? = some e∧ad1 (P:=P) ctr top all d e) ∨
   (∃ g sz n t0 f f',objs[id]? = some (some (.arr g sz n t0 f))∧posts[t]? = some (.arr 0 sz n t0 f')∧(id,some (.arr g sz n t0 f'))∈u∧∀ i:Int,0≤i→i < n→∀ j,j < sz→lG (std P) (f' i j)) ∨
   (∃ g sz n t0 f,objs[id]? = some (some (.arr g sz n t0 f))∧posts[t]? = some (.dead 1)∧(id,some (.dead ctr))∈u)
 | [],posts,u,os,h,_=>by
  simp only [Bg,Option.some.injEq,Prod.mk.injEq] at h
  obtain ⟨rfl,rfl⟩:=h
  exact ⟨rfl,fun t id ht=>by simp at ht⟩
 | id :: r,[],u,os,h,_=>by simp [Bg] at h
 | id :: r,.iter _ _ _ :: _,u,os,h,_=>by simp [Bg] at h
 | id :: r,.dead g' :: qs,u,os,h,hos=>by
  simp only [Bg] at h
  split at h
  · rename_i g sz n t0 f ho
    split at h
    · rename_i hg
      have hg:=Nat.eq_of_beq_eq_true hg
      subst hg
      split at h
      · rename_i u1 os1 hr
        simp only [Option.some.injEq,Prod.mk.injEq] at h
        obtain ⟨rfl,rfl⟩:=h
        obtain ⟨b1,b2⟩:=FD hr hos
        refine ⟨by simp [b1],fun t id1 ht=>?_⟩
        cases t with
        | zero =>
         simp only [List.getElem?_cons_zero,Option.some.injEq] at ht
         subst ht
         exact .inr (.inr ⟨g,sz,n,t0,f,ho,rfl,List.mem_cons_self ..⟩)
        | succ t =>
         rcases b2 t id1 (by simpa using ht) with ⟨g2,cs2,Ro,c2,e1,e2,e3,e4,e5⟩ | ⟨g2,jC,n2,t2,f2,f3,e1,e2,e3,e4⟩ | ⟨g2,jC,n2,t2,f2,e1,e2,e3⟩
         · exact .inl ⟨g2,cs2,Ro,c2,e1,by simpa using e2,e3,List.mem_cons_of_mem _ e4,e5⟩
         · exact .inr (.inl ⟨g2,jC,n2,t2,f2,f3,e1,by simpa using e2,List.mem_cons_of_mem _ e3,e4⟩)
         · exact .inr (.inr ⟨g2,jC,n2,t2,f2,e1,by simpa using e2,List.mem_cons_of_mem _ e3⟩)
      · cases h
    · cases h
  · cases h
 | id :: r,.box g' cs' :: qs,u,os,h,hos=>by
  simp only [Bg] at h
  split at h
  · rename_i g cs ho
    split at h
    · rename_i hg
      simp only [Bool.and_eq_true] at hg
      have hle:=Nat.le_of_ble_eq_true hg.2
      have hg:=Nat.eq_of_beq_eq_true hg.1
      subst hg
      split at h
      · rename_i c1 o1 hc
        split at h
        · rename_i u1 os1 hr
          simp only [Option.some.injEq,Prod.mk.injEq] at h
          obtain ⟨rfl,rfl⟩:=h
          obtain ⟨a1,a2⟩:=Nn hc (fun q hq=>hos q (List.mem_append_left _ hq))
          obtain ⟨b1,b2⟩:=FD hr (fun q hq=>hos q (List.mem_append_right _ hq))
          refine ⟨by simp [b1],fun t id1 ht=>?_⟩
          cases t with
          | zero =>
           simp only [List.getElem?_cons_zero,Option.some.injEq] at ht
           subst ht
           exact .inl ⟨g,cs,cs',c1,ho,rfl,hle,List.mem_cons_self ..,a1,a2⟩
          | succ t =>
           rcases b2 t id1 (by simpa using ht) with ⟨g2,cs2,Ro,c2,e1,e2,e3,e4,e5⟩ | ⟨g2,jC,n2,t2,f2,f3,e1,e2,e3,e4⟩ | ⟨g2,jC,n2,t2,f2,e1,e2,e3⟩
           · exact .inl ⟨g2,cs2,Ro,c2,e1,by simpa using e2,e3,List.mem_cons_of_mem _ e4,e5⟩
           · exact .inr (.inl ⟨g2,jC,n2,t2,f2,f3,e1,by simpa using e2,List.mem_cons_of_mem _ e3,e4⟩)
           · exact .inr (.inr ⟨g2,jC,n2,t2,f2,e1,by simpa using e2,List.mem_cons_of_mem _ e3⟩)
        · cases h
      · cases h
    · cases h
  · cases h
 | id :: r,.arr g' sz' n' t' f' :: qs,u,os,h,hos=>by
  simp only [Bg] at h
  split at h
  · rename_i g sz n t0 f ho
    split at h
    · rename_i hg
      simp only [Bool.and_eq_true] at hg
      have hg1:=Nat.eq_of_beq_eq_true hg.1
      have hg2:=Nat.eq_of_beq_eq_true hg.2
      subst hg1;subst hg2
      split at h
      · rename_i u1 os1 hr
        simp only [Option.some.injEq,Prod.mk.injEq] at h
        obtain ⟨rfl,rfl⟩:=h
        have e1:n=n':=hos _ (List.mem_cons_self ..)
        have e2:t0=t':=hos _ (List.mem_cons_of_mem _ (List.mem_cons_self ..))
        subst e1;subst e2
        have e3:=hos _ (List.mem_cons_of_mem _ (List.mem_cons_of_mem _ (List.mem_cons_self ..)))
        obtain ⟨b1,b2⟩:=FD hr (fun q hq=>hos q (List.mem_cons_of_mem _ (List.mem_cons_of_mem _ (List.mem_cons_of_mem _ hq))))
        refine ⟨by simp [b1],fun t id1 ht=>?_⟩
        cases t with
        | zero =>
         simp only [List.getElem?_cons_zero,Option.some.injEq] at ht
         subst ht
         exact .inr (.inl ⟨g,sz,n,t0,f,f',ho,rfl,List.mem_cons_self ..,e3⟩)
        | succ t =>
         rcases b2 t id1 (by simpa using ht) with ⟨g2,cs2,Ro,c2,e1,e2,e3,e4,e5⟩ | ⟨g2,jC,n2,t2,f2,f3,e1,e2,e3,e4⟩ | ⟨g2,jC,n2,t2,f2,e1,e2,e3⟩
         · exact .inl ⟨g2,cs2,Ro,c2,e1,by simpa using e2,e3,List.mem_cons_of_mem _ e4,e5⟩
         · exact .inr (.inl ⟨g2,jC,n2,t2,f2,f3,e1,by simpa using e2,List.mem_cons_of_mem _ e3,e4⟩)
         · exact .inr (.inr ⟨g2,jC,n2,t2,f2,e1,by simpa using e2,List.mem_cons_of_mem _ e3⟩)
      · cases h
    · cases h
  · cases h
theorem WM {ctr:Nat} : ∀ {is:List (Nat × Int × Ob)} {posts:List Ob} {u:List (Nat × Option Ob)} {os:List aU},wZ (std P) ctr is posts=some (u,os)→(∀ q∈os,q.run (std P)) →
  u.map (·.1)=jA is∧posts.length=is.length∧∀ (i:Nat) (x:Nat × Int × Ob),is[i]? = some x→∃ sz n' t' f',posts[i]? = some (.arr 1 sz n' t' f')∧(x.1,some (.arr ctr sz n' false f'))∈u∧(∃ g n t f,x.2.2 = .arr g sz n t f)∧∀ i:Int,0≤i→i < n'→∀ j,j < sz→lG (std P) (f' i j)
 | [],[],u,os,h,_=>by
  simp only [wZ,Option.some.injEq,Prod.mk.injEq] at h
  obtain ⟨rfl,rfl⟩:=h
  exact ⟨rfl,rfl,fun i x hi=>by simp at hi⟩
 | [],_ :: _,u,os,h,_=>by simp [wZ] at h
 | (id,off,.box _ _) :: r,_,u,os,h,_=>by simp [wZ] at h
 | (id,off,.iter _ _ _) :: r,_,u,os,h,_=>by simp [wZ] at h
 | (id,off,.dead _) :: r,_,u,os,h,_=>by simp [wZ] at h
 | (id,off,.arr _ _ _ _ _) :: r,[],u,os,h,_=>by simp [wZ] at h
 | (id,off,.arr _ _ _ _ _) :: r,.box _ _ :: _,u,os,h,_=>by simp [wZ] at h
 | (id,off,.arr _ _ _ _ _) :: r,.iter _ _ _ :: _,u,os,h,_=>by simp [wZ] at h
 | (id,off,.arr _ _ _ _ _) :: r,.dead _ :: _,u,os,h,_=>by simp [wZ] at h
 | (id,off,.arr g sz n t f) :: r,.arr g' sz' n' t' f' :: qs,u,os,h,hos=>by
  simp only [wZ] at h
  split at h
  · rename_i hg
    simp only [Bool.and_eq_true] at hg
    have hg1:=Nat.eq_of_beq_eq_true hg.1
    have hg2:=Nat.eq_of_beq_eq_true hg.2
    subst hg1;subst hg2
    split at h
    · rename_i u1 os1 hr
      simp only [Option.some.injEq,Prod.mk.injEq] at h
      obtain ⟨rfl,rfl⟩:=h
      have e3:=hos _ (List.mem_cons_self ..)
      obtain ⟨b1,b0,b2⟩:=WM hr (fun q hq=>hos q (List.mem_cons_of_mem _ hq))
      refine ⟨by simp [b1,jA],by simp [b0],fun i x hi=>?_⟩
      cases i with
      | zero =>
       simp only [List.getElem?_cons_zero,Option.some.injEq] at hi
       subst hi
       exact ⟨sz,n',t',f',rfl,List.mem_cons_self ..,⟨g,n,t,f,rfl⟩,e3⟩
      | succ i =>
       obtain ⟨La,n1,t1,f1,a1,a2,a3,a4⟩:=b2 i x (by simpa using hi)
       exact ⟨La,n1,t1,f1,by simpa using a1,List.mem_cons_of_mem _ a2,a3,a4⟩
    · cases h
  · cases h
theorem aaT : ∀ {cs:List D},(∀ q∈aga (std P) cs,q.run (std P))→∀ (j:Nat) (d:D),cs[j]? = some d→lG (std P) d
 | [],_,j,d,hj=>by simp at hj
 | c :: r,h,j,d,hj=>by
  cases j with
  | zero=>simp only [List.getElem?_cons_zero,Option.some.injEq] at hj;subst hj;exact h _ (List.mem_cons_self ..)
  | succ j=>exact aaT (fun q hq=>h q (List.mem_cons_of_mem _ hq)) j d (by simpa using hj)
theorem UZ {h:Array Obj} {I I':IS} {β β':Nat→Option (Nat × Nat × Array Value)} {objs aX:List (Option Ob)} {ctr iU k k' g:Nat} {o:Ob} (hg:g≤iU) (hI:I.le I')
  (hn : ∀ x,β k=some x→¬ I' x.1) (kC:β' k'=β k) (hc : ∀ q∈Zc (std P) o,q.run (std P)) (hr:Rob h I β objs ctr k o):Rob h I' β' aX iU k' (apd g o):=by
 cases o with
 | box g0 cs =>
  obtain ⟨_,b,o,s,c,e,h1,h2,h3,h4,h5,h6⟩:=hr
  refine ⟨hg,b,o,s,c,e,by rw [kC];exact h1,h2,h3,hn _ h1,h5,fun j d hj=>?_⟩
  obtain ⟨z,z1,z2,z3⟩:=h6 j d hj
  exact ⟨z,z1,z2,DY hI (fun _ _=>rfl) _ _ (aaT hc j d hj) z3⟩
 | arr g0 sz n t f =>
  obtain ⟨_,hn0,hx⟩:=hr
  refine ⟨hg,hn0,?_⟩
  have hc:=hc _ (List.mem_singleton.2 rfl)
  rcases hx with ⟨h1,h2⟩ | ⟨b,o,s,c,e,h1,h2,h3,h4,h5,h6⟩
  · exact .inl ⟨h1,by rw [kC];exact h2⟩
  · refine .inr ⟨b,o,s,c,e,by rw [kC];exact h1,h2,h3,hn _ h1,h5,fun i hi j hj=>?_⟩
    obtain ⟨z,z1,z2,z3⟩:=h6 i hi j hj
    exact ⟨z,z1,z2,DY hI (fun _ _=>rfl) _ _ (hc i (by omega) hi j hj) z3⟩
 | iter g0 s pos =>
  obtain ⟨_,hp,b,o,z,h1,h2,h3⟩:=hr
  exact ⟨hg,hp,b,o,z,by rw [kC];exact h1,h2,hn _ h1⟩
 | dead g0=>exact ⟨hg,by rw [kC];exact hr.2⟩
theorem aii (R:RM B0 h0 I0 L I β slots objs ctr a w) {f:FuncId} {args:List D} {vs:List Value} {post:List Ob} {d:D} {r:ahn}
  (hl:adF (std P) objs ctr args post=some r) (hd:nK d=false) (hos : ∀ q∈r.os,q.run (std P)) (ahu:jc P f r.args r.pre post d)
  (hlen:vs.length=args.length) (hargs : ∀ (t:Nat) (d:D),args[t]? = some d→∃ y,vs[t]? = some y∧Rd w.heap I β objs ctr d y) :
  Calls P f vs.toArray w fun e w'=>∃ v,e = .returned v∧Post B0 h0 I0 L I β objs ctr w (bF objs r.u) w' d v:=by
 obtain ⟨_,_,hin⟩:=TB args [] List.nodup_nil
 unfold adF at hl
 generalize aru:pQ args []=ids at *
 generalize hwin:RZ args=win at *
 split at hl
 · cases hl
 rename_i ts is os1 hT
 split at hl
 rotate_left
 · cases hl
 rename_i u1 os2 u2 os3 hB hI
 split at hl
 rotate_left
 · cases hl
 rename_i hnd
 simp only [Option.some.injEq] at hl
 subst hl
 simp only at hos ahu ⊢
 have hall:=Na hnd
 obtain ⟨t1,t2,t3⟩:=FC hT (fun q hq=>hos q (by simp [hq]))
 obtain ⟨b1,b2⟩:=FD hB (fun q hq=>hos q (by simp [hq]))
 obtain ⟨i1,i2,i3⟩:=WM hI (fun q hq=>hos q (by simp [hq]))
 have ho1 : ∀ q∈KY (std P) objs args,q.run (std P):=fun q hq=>hos q (by simp [hq])
 generalize htop:ids.length=top at *
 have hkeys:(u1++u2).map (·.1)=ids++jA is:=by rw [List.map_append,b1,i1]
 have hnu:((u1++u2).map (·.1)).Nodup:=hkeys ▸ hall
 have Np : ∀ k,k < top→(ids++jA is)[k]? = ids[k]?:=fun k hk=>List.getElem?_append_left (by omega)
 have Jo : ∀ i,(ids++jA is)[top+i]? = (is[i]?).map (·.1):=fun i=>by
  rw [List.getElem?_append_right (by omega),Db];congr 2;omega
 have hinj : ∀ (k k' id:Nat),(ids++jA is)[k]? = some id→(ids++jA is)[k']? = some id→k=k':=by
  intro k k' id h1 h2
  obtain ⟨l1,e1⟩:=List.getElem?_eq_some_iff.1 h1
  obtain ⟨l2,e2⟩:=List.getElem?_eq_some_iff.1 h2
  exact (List.getElem_inj hall).1 (e1.trans e2.symm)
 have adJ : ∀ id∈ids++jA is,∃ o,objs[id]? = some (some o):=by
  intro id hid
  obtain ⟨k,hk⟩:=List.getElem?_of_mem hid
  rcases Nat.lt_or_ge k top with hlt | hge
  · rw [Np k hlt] at hk
    rcases t2 k id hk with ⟨g,cs,_,_,_,e,_⟩ | ⟨g,sz,n,tt,f,e,_⟩<;>exact ⟨_,e⟩
  · have hk2:=Jo (k-top)
    rw [show top+(k-top)=k by omega,hk] at hk2
    cases hx:is[k-top]? with
    | none=>rw [hx] at hk2;cases hk2
    | some x =>
     rw [hx] at hk2
     simp only [Option.map_some,Option.some.injEq] at hk2
     subst hk2
     obtain ⟨_,_,_,_,_,_,_,g,sz,n,N,t,f,_,e,_⟩:=t3 _ x hx
     exact ⟨_,e⟩
 obtain ⟨p1,p2,p3⟩:=TD (u1++u2) objs hnu (fun x hx=>by
  have:x.1∈(u1++u2).map (·.1):=List.mem_map.2 ⟨x,hx,rfl⟩
  rw [hkeys] at this
  obtain ⟨o,ho⟩:=adJ _ this
  exact (List.getElem?_eq_some_iff.1 ho).1)
 have p2 : ∀ id,id ∉ ids++jA is→(bF objs (u1++u2))[id]? = objs[id]?:=fun id h=>p2 id (by rw [hkeys];exact h)
 have htl : ∀ k,k < top→(ts++uZ is)[k]? = ts[k]?:=fun k hk=>List.getElem?_append_left (by omega)
 have htr : ∀ i,(ts++uZ is)[top+i]? = (is[i]?).map (·.2.2):=fun i=>by
  rw [List.getElem?_append_right (by omega),aaQ];congr 2;omega
 have hex : ∀ k,∃ v:Option (Nat × Nat × Array Value),
   (∀ id,ids[k]? = some id→(∀ g cs,objs[id]? = some (some (.box g cs))→∃ b o s c e,β id=some (b,o,s)∧w.heap[b]? = some (.cells c e (0,0))∧v=some (b,o+win id,c)) ∧
    (∀ g sz n t f,objs[id]? = some (some (.arr g sz n t f))→v=β id)) ∧
   (∀ i x,k=top+i→is[i]? = some x→∀ sz n tt f,x.2.2 = .arr 0 sz n tt f→(β x.1=none→v=none)∧∀ b o s,β x.1=some (b,o,s)→v=some (b,o+x.2.1.toNat*sz,s)) ∧
   (∀ y,v=some y→∃ id x',(ids++jA is)[k]? = some id∧β id=some x'∧x'.1=y.1):=by
  intro k
  rcases Nat.lt_or_ge k top with hlt | hge
  · have hk:ids[k]? = some (ids[k]'(by omega)):=List.getElem?_eq_getElem (by omega)
    have hka:=(Np k hlt).trans hk
    generalize ids[k]'(by omega)=id at hk hka
    rcases t2 k id hk with ⟨g,cs,_,_,_,e,_⟩ | ⟨g,sz,n,tt,f,e,_⟩
    · obtain ⟨_,b,o,s,c,e',x1,x2,_⟩:=R.ob id _ e
      refine ⟨some (b,o+win id,c),fun id' h=>?_,(fun i x hki=>by omega),fun y hy=>⟨id,_,hka,x1,(by cases hy;rfl)⟩⟩
      rw [hk] at h;cases h
      exact ⟨fun _ _ _=>⟨b,o,s,c,e',x1,x2,rfl⟩,(fun _ _ _ _ _ h=>by rw [e] at h;cases h)⟩
    · refine ⟨β id,fun id' h=>?_,(fun i x hki=>by omega),fun y hy=>⟨id,_,hka,hy,rfl⟩⟩
      rw [hk] at h;cases h
      exact ⟨(fun _ _ h=>by rw [e] at h;cases h),fun _ _ _ _ _ _=>rfl⟩
  · have hkn:ids[k]? = none:=List.getElem?_eq_none (by omega)
    cases hx:is[k-top]? with
    | none =>
     refine ⟨none,(fun id h=>by rw [hkn] at h;cases h),(fun i x hki h=>?_),(fun y hy=>by cases hy)⟩
     rw [show k-top=i by omega,h] at hx;cases hx
    | some x =>
     obtain ⟨_,_,_,_,_,_,_,g,sz,n,N,t,f0,_,e,e2,_⟩:=t3 _ x hx
     have hka:(ids++jA is)[k]? = some x.1:=by
      have:=Jo (k-top)
      rw [show top+(k-top)=k by omega,hx] at this;exact this
     cases hb:β x.1 with
     | none =>
      refine ⟨none,(fun id h=>by rw [hkn] at h;cases h),(fun i x' hki h sz' n' tt' f' hx'=>?_),(fun y hy=>by cases hy)⟩
      rw [show k-top=i by omega,h] at hx;cases hx
      exact ⟨fun _=>rfl,(fun b o s h=>by rw [hb] at h;cases h)⟩
     | some z =>
      obtain ⟨b,o,s⟩:=z
      refine ⟨some (b,o+x.2.1.toNat*sz,s),(fun id h=>by rw [hkn] at h;cases h),(fun i x' hki h sz' n' tt' f' hx'=>?_),fun y hy=>⟨x.1,_,hka,hb,(by cases hy;rfl)⟩⟩
      rw [show k-top=i by omega,h] at hx;cases hx
      rw [e2] at hx';cases hx'
      exact ⟨(fun h=>by rw [hb] at h;cases h),fun b' o' s' h=>by rw [hb] at h;cases h;rfl⟩
 obtain ⟨Oe,ED⟩:=Classical.skolem.1 hex
 clear hex
 have ahv : ∀ (i:Nat) (x:Nat × Int × Ob),is[i]? = some x→∀ sz n tt f,x.2.2 = .arr 0 sz n tt f→(β x.1=none→Oe (top+i)=none)∧∀ b o s,β x.1=some (b,o,s)→Oe (top+i)=some (b,o+x.2.1.toNat*sz,s) :=
  fun i x hx=>(ED (top+i)).2.1 i x rfl hx
 have alr : ∀ k k' x x',k≠k'→Oe k=some x→Oe k'=some x'→x.1≠x'.1:=by
  intro k k' x x' hne hk hk'
  obtain ⟨id,z,a1,a2,a3⟩:=(ED k).2.2 x hk
  obtain ⟨id',z',c1,c2,c3⟩:=(ED k').2.2 x' hk'
  rw [← a3,← c3]
  exact R.dist id id' z z' (fun e=>hne (hinj k k' id a1 (e ▸ c1))) a2 c2
 have als : ∀ (i:Nat) (x:Nat × Int × Ob),is[i]? = some x→Rob w.heap I Oe ((ts++uZ is).map some) (ctr+1) (top+i) x.2.2:=by
  intro i x hx
  obtain ⟨id,gb,csb,j,dd,hb1,hb2,g,sz,n,N,t,f0,rfl,e1,e2,e3,e4⟩:=t3 i x hx
  obtain ⟨_,bb,ob,sb,cb,eb,y1,y2,y3,y4,y5,y6⟩:=R.ob id _ hb1
  obtain ⟨z,z1,z2,z3⟩:=y6 j _ hb2
  obtain ⟨_,_,hvx⟩:=z3
  obtain ⟨o1,o2,o3,ad,len,cap,rfl,v1,v2,v3,v4⟩:=hvx _ _ _ e1
  obtain ⟨_,n0,lF⟩:=R.ob x.1 _ e1
  obtain ⟨w1,w2⟩:=ahv i x hx _ _ _ _ e2
  rw [e2]
  refine ⟨by omega,o2,?_⟩
  rcases lF with ⟨q1,q2⟩ | ⟨b,o,s,c,e,q1,q2,q3,q4,q5,q6⟩
  · exact .inl ⟨by omega,w1 q2⟩
  · have hmul:x.2.1.toNat*sz+n.toNat*sz≤N.toNat*sz:=by
     rw [← Nat.add_mul];exact Nat.mul_le_mul_right _ (by omega)
    refine .inr ⟨b,_,s,c,e,w2 _ _ _ q1,q2,q3,q4,by omega,fun k hk jj hjj=>?_⟩
    obtain ⟨z',a1,a2,a3⟩:=q6 (x.2.1.toNat+k) (by omega) jj hjj
    refine ⟨z',?_,a2,?_⟩
    · rw [← a1];congr 1;rw [Nat.add_mul];omega
    · have e5:((x.2.1.toNat+k:Nat):Int)=x.2.1+(k:Int):=by omega
      rw [e5] at a3
      exact DY (IS.le.refl _) (fun _ _=>rfl) _ _ (e4 k (by omega) hk jj hjj) a3
 have hcell : ∀ (dd dd':D) (z:Value),adZ (P:=P) objs ctr top is dd dd'→Rd w.heap I β objs ctr dd z→Rd w.heap I Oe ((ts++uZ is).map some) (ctr+1) dd' z:=by
  intro dd dd' z hc hz
  rcases hc with ⟨rfl,hc⟩ | ⟨i,x,g0,sz0,n0',hx,⟨g,sz,n,N,t,f0,hdx,e1,e2,e3,e4⟩,hd1,rfl⟩
  · exact DY (IS.le.refl _) (fun _ _=>rfl) _ _ hc hz
  · rw [hd1] at hdx;cases hdx
    subst hd1
    obtain ⟨_,⟨a0,l0,c0,s1,s2,s3,s4⟩,hvx⟩:=hz
    obtain ⟨o1,o2,o3,ad,len,cap,rfl,v1,v2,v3,v4⟩:=hvx _ _ _ e1
    cases s1
    refine ⟨.inl (by omega),⟨_,_,_,rfl,s2,s3,s4⟩,fun N' t' f' ho=>?_⟩
    rw [List.getElem?_map,htr,hx] at ho
    simp only [Option.map_some,Option.some.injEq,e2] at ho
    cases ho
    refine ⟨Int.le_refl _,o2,by omega,_,_,_,rfl,v1,v2,(fun h=>by cases h),fun hp=>?_⟩
    obtain ⟨b,o,s,hb,h1,h2⟩:=v4 hp
    refine ⟨b,_,s,(ahv i x hx _ _ _ _ e2).2 _ _ _ hb,?_,?_⟩
    · rw [h1];simp
    · simp;omega
 have hpre : ∀ (k:Nat) (o:Ob),(ts++uZ is)[k]? = some o→o.gen=0∧Rob w.heap I Oe ((ts++uZ is).map some) (ctr+1) k o:=by
  intro k o hk
  rcases Nat.lt_or_ge k top with hlt | hge
  · rw [htl k hlt] at hk
    have hid:ids[k]? = some (ids[k]'(by omega)):=List.getElem?_eq_getElem (by omega)
    generalize ids[k]'(by omega)=id at hid
    rcases t2 k id hid with ⟨g,cs,g',cs',c1,e1,e2,e3,e4,e5,e6⟩ | ⟨g,sz,n,tt,f0,e1,e2,e3⟩
    · rw [hk] at e3;cases e3
      obtain ⟨_,b,o,s,c,e,y1,y2,y3,y4,y5,y6⟩:=R.ob id _ e1
      obtain ⟨b',o',s',c',e',w1,w2,w3⟩:=((ED k).1 id hid).1 _ _ e1
      rw [y1] at w1;cases w1
      rw [y2] at w2;cases w2
      refine ⟨rfl,Nat.zero_le _,b,_,c,c,e,w3,y2,Beside.refl _ _ _,y4,by have:=y3.1;omega,fun j d' hj=>?_⟩
      have hjl:j < cs'.length:=by rw [← e5];exact (List.getElem?_eq_some_iff.1 hj).1
      obtain ⟨dd,dd',d1,d2,d3⟩:=e6 j hjl
      rw [hj] at d2;cases d2
      obtain ⟨z,z1,z2,z3⟩:=y6 _ _ d1
      exact ⟨z,by rw [Nat.add_assoc];exact z1,z2,hcell _ _ _ d3 z3⟩
    · rw [hk] at e2;cases e2
      exact ⟨rfl,UZ (g:=0) (o:=.arr g sz n tt f0) (by omega) (IS.le.refl _) (fun x hx=>R.JU hx) (((ED k).1 id hid).2 _ _ _ _ _ e1) (fun q hq=>by
       simp only [Zc,List.mem_singleton] at hq;subst hq;exact e3) (R.ob id _ e1)⟩
  · have hk2:=htr (k-top)
    rw [show top+(k-top)=k by omega,hk] at hk2
    cases hx:is[k-top]? with
    | none=>rw [hx] at hk2;cases hk2
    | some x =>
     rw [hx] at hk2
     simp only [Option.map_some,Option.some.injEq] at hk2
     subst hk2
     have:=als _ x hx
     rw [show top+(k-top)=k by omega] at this
     refine ⟨?_,this⟩
     obtain ⟨_,_,_,_,_,_,_,g,sz,n,N,t,f0,_,_,e2,_⟩:=t3 _ x hx
     rw [e2];rfl
 have alu : ∀ (dd:D) (y:Value),(QZ (std P) objs dd).run (std P)→(∀ id,Dw dd=some id→id∈ids)→Rd w.heap I β objs ctr dd y→Rd w.heap I Oe ((ts++uZ is).map some) (ctr+1) (XQ ids win dd) y:=by
  intro dd y ho hmem hv
  rcases agA ho with ⟨id,g,o,hid,cK,hgo,hshape⟩ | ⟨hno,agD⟩
  · have hm:=hmem id hid
    have hk:=aaN hm
    have lD:HZ ids id < top:=by rw [← htop];exact (List.getElem?_eq_some_iff.1 hk).1
    have hpk : ∀ o',((ts++uZ is).map some)[HZ ids id]? = some (some o')→ts[HZ ids id]? = some o':=by
     intro o' h
     rw [List.getElem?_map,htl _ lD] at h
     cases ht:ts[HZ ids id]? with
     | none=>rw [ht] at h;cases h
     | some q=>rw [ht] at h;simp only [Option.map_some,Option.some.injEq] at h;rw [h]
    obtain ⟨k1,k2⟩:=(ED (HZ ids id)).1 id hk
    rcases hshape with ⟨j,rfl⟩ | ⟨sz,i,j,rfl⟩ | ⟨sz,off,n,rfl⟩
    · simp only [XQ]
      split
      · rename_i hle
        have hle:=Nat.le_of_ble_eq_true hle
        obtain ⟨_,hsh,hx⟩:=hv
        refine ⟨.inl (by omega),hsh,fun cs hcs=>?_⟩
        have hcs:=hpk _ hcs
        rcases t2 _ id hk with ⟨g1,cs1,g',cs',c1,e1,e2,e3,e4,e5,e6⟩ | ⟨g1,sz,n,tt,f0,e1,e2,e3⟩
        · rw [cK] at e1;cases e1
          have hgo:g=g1:=hgo
          subst hgo
          obtain ⟨b,o,s,hb,rfl⟩:=hx _ cK
          obtain ⟨b',o',s',c',e',w1,w2,w3⟩:=k1 _ _ cK
          rw [hb] at w1;cases w1
          exact ⟨b,_,_,w3,by congr 3;omega⟩
        · rw [hcs] at e2;cases e2
      · trivial
    · obtain ⟨_,hsh,hx⟩:=hv
      refine ⟨.inl (by omega),hsh,fun N t f hcs=>?_⟩
      have hcs:=hpk _ hcs
      rcases t2 _ id hk with ⟨g1,cs1,g',cs',c1,e1,e2,e3,e4,e5,e6⟩ | ⟨g1,La,n,tt,f0,e1,e2,e3⟩
      · rw [hcs] at e3;cases e3
      · rw [hcs] at e2;cases e2
        rw [cK] at e1;cases e1
        have hgo:g=g1:=hgo
        subst hgo
        rw [k2 _ _ _ _ _ cK]
        exact hx _ _ _ cK
    · obtain ⟨_,hsh,hx⟩:=hv
      refine ⟨.inl (by omega),hsh,fun N t f hcs=>?_⟩
      have hcs:=hpk _ hcs
      rcases t2 _ id hk with ⟨g1,cs1,g',cs',c1,e1,e2,e3,e4,e5,e6⟩ | ⟨g1,La,n1,tt,f0,e1,e2,e3⟩
      · rw [hcs] at e3;cases e3
      · rw [hcs] at e2;cases e2
        rw [cK] at e1;cases e1
        have hgo:g=g1:=hgo
        subst hgo
        rw [k2 _ _ _ _ _ cK]
        exact hx _ _ _ cK
  · have e:XQ ids win dd=dd:=by cases dd<;>simp [Dw] at hno<;>rfl
    rw [e]
    exact DY (IS.le.refl _) (fun _ _=>rfl) _ _ agD hv
 obtain ⟨_,hcall⟩:=ahu
 have hc:=hcall w I (ctr+1) vs Oe (by omega) (fun b hb=>(R.lt.1 b hb).1) R.vg (by simpa using hlen) ?_ hpre ?_ alr
 · refine hc.mono ?_
   rintro e w' ⟨v,I',c',β',rfl,h1,h2,h3,h4,hwo,h5,h6,h7,h8⟩
   have hlb : ∀ k y,Oe k=some y→∃ id x',id∈ids++jA is∧β id=some x'∧x'.1=y.1:=fun k y hy=>by
    obtain ⟨id,x',a1,a2,a3⟩:=(ED k).2.2 y hy
    exact ⟨id,x',List.mem_of_getElem? a1,a2,a3⟩
   have hkeep : ∀ id x,id ∉ ids++jA is→β id=some x→w'.heap[x.1]? = w.heap[x.1]?∧¬ I' x.1:=by
    intro id x hid hx
    have hne : ∀ k y,Oe k=some y→y.1≠x.1:=fun k y hy=>by
     obtain ⟨id',x',a1,a2,a3⟩:=hlb k y hy
     rw [← a3]
     exact R.dist id' id x' x (fun e=>hid (e ▸ a1)) a2 hx
    refine ⟨h3 x.1 (R.jf hx) hne,fun hI'=>?_⟩
    rcases (h2.1 _ hI').2 with h | h | ⟨k,y,hy,he⟩
    · exact R.JU hx h
    · have:=R.jf hx;omega
    · exact hne k y hy he
   let gone:Nat→Prop:=fun id=>∃ k:Nat,ids[k]? = some id∧post[k]? = some (Ob.dead 1)
   have ad2 : ∀ (k id:Nat),ids[k]? = some id→id ∉ jA is:=by
    intro k id hk hid
    rw [List.nodup_append] at hall
    exact hall.2.2 id (List.mem_of_getElem? hk) id hid rfl
   have ad3 : ∀ (k id:Nat) (q:Ob),ids[k]? = some id→post[k]? = some q→(∀ g,q≠Ob.dead g)→¬ gone id:=by
    rintro k id q hk hq hne ⟨k',h1,h2⟩
    have l1:k < top:=by rw [← htop];exact (List.getElem?_eq_some_iff.1 hk).1
    have l2:k' < top:=by rw [← htop];exact (List.getElem?_eq_some_iff.1 h1).1
    have:=hinj k k' id ((Np k l1).trans hk) ((Np k' l2).trans h1)
    subst this
    rw [hq] at h2;cases h2
    exact hne _ rfl
   have alv : ∀ id,∃ v:Option (Nat × Nat × Array Value),(∀ (i:Nat) (x:Nat × Int × Ob),is[i]? = some x→x.1=id→v=β' (top+i))∧((∀ (i:Nat) (x:Nat × Int × Ob),is[i]? = some x→x.1≠id)→(¬ gone id→v=β id)∧(gone id→v=none)):=by
    intro id
    by_cases hx : ∃ (i:Nat) (x:Nat × Int × Ob),is[i]? = some x∧x.1=id
    · obtain ⟨i,x,hx,rfl⟩:=hx
      refine ⟨β' (top+i),fun i' x' hx' he=>?_,fun h=>absurd rfl (h i x hx)⟩
      have e1:=Jo i
      have e2:=Jo i'
      rw [hx] at e1;rw [hx'] at e2
      simp only [Option.map_some] at e1 e2
      rw [he] at e2
      have:=hinj _ _ _ e1 e2
      rw [this]
    · by_cases hg:gone id
      · exact ⟨none,fun i x h1 h2=>absurd ⟨i,x,h1,h2⟩ hx,fun _=>⟨fun h=>absurd hg h,fun _=>rfl⟩⟩
      · exact ⟨β id,fun i x h1 h2=>absurd ⟨i,x,h1,h2⟩ hx,fun _=>⟨fun _=>rfl,fun h=>absurd h hg⟩⟩
   obtain ⟨WO,alx⟩:=Classical.skolem.1 alv
   clear alv
   have ad4 : ∀ (i:Nat) (x:Nat × Int × Ob),is[i]? = some x→WO x.1=β' (top+i):=fun i x hx=>(alx x.1).1 i x hx rfl
   have ad5 : ∀ id,id ∉ jA is→(¬ gone id→WO id=β id)∧(gone id→WO id=none):=fun id hid=>(alx id).2 fun i x hx e=>hid (by
    have:=Db (l:=is) (i:=i)
    rw [hx] at this
    exact e ▸ List.mem_of_getElem? this)
   have U0 : ∀ id,id ∉ jA is→¬ gone id→WO id=β id:=fun id hid=>(ad5 id hid).1
   have hout : ∀ id,id ∉ ids++jA is→¬ gone id:=fun id hid hg=>by
    obtain ⟨k,h1,_⟩:=hg
    exact hid (List.mem_append_left _ (List.mem_of_getElem? h1))
   have hpl : ∀ (i:Nat) (q:Ob),(post.drop top)[i]? = some q→post[top+i]? = some q:=fun i q h=>by rw [List.getElem?_drop] at h;exact h
   have hmv : ∀ (i:Nat) (x:Nat × Int × Ob) (y:Nat × Nat × Array Value),is[i]? = some x→β' (top+i)=some y→(∃ k x',Oe k=some x'∧x'.1=y.1)∨w.heap.size≤y.1:=fun i x y _ hy=>(h7 _ y hy).2
   have G:Goes w.heap I β objs ctr w'.heap I' WO (bF objs (u1++u2)) ctr:=by
    refine ⟨h1.1,fun b hb=>?_,h1.2,fun id g hg=>?_,fun id g hg o' ho' hgo hlv=>?_⟩
    · refine h3 b (R.lt.1 b hb).1 fun k x hk he=>?_
      obtain ⟨id,x',_,a2,a3⟩:=hlb k x hk
      exact R.JU a2 (a3 ▸ he ▸ hb)
    · rcases hg with hg | ⟨hg,o,ho,hgo⟩
      · exact .inl hg
      · refine .inr ⟨hg,?_⟩
        by_cases hid:id∈ids++jA is
        · obtain ⟨k,hk⟩:=List.getElem?_of_mem hid
          rcases Nat.lt_or_ge k top with hlt | hge
          · rw [Np k hlt] at hk
            rcases b2 k id hk with ⟨g1,cs,cs',c1,e1,e2,e3,e4,e5,e6⟩ | ⟨g1,sz,n,t0,f0,f0',e1,e2,e3,e4⟩ | ⟨g1,sz,n,t0,f0,e1,e2,e3⟩
            · rw [ho] at e1;cases e1
              exact ⟨_,p3 _ (List.mem_append_left _ e4),hgo⟩
            · rw [ho] at e1;cases e1
              exact ⟨_,p3 _ (List.mem_append_left _ e3),hgo⟩
            · exact ⟨_,p3 _ (List.mem_append_left _ e3),hg.symm⟩
          · have hk2:=Jo (k-top)
            rw [show top+(k-top)=k by omega,hk] at hk2
            cases hx:is[k-top]? with
            | none=>rw [hx] at hk2;cases hk2
            | some x =>
             rw [hx] at hk2
             simp only [Option.map_some,Option.some.injEq] at hk2
             subst hk2
             obtain ⟨sz,n',t',f',_,e2,_,_⟩:=i3 _ x hx
             exact ⟨_,p3 _ (List.mem_append_right _ e2),by simp [Ob.gen];omega⟩
        · exact ⟨o,by rw [p2 id hid];exact ho,hgo⟩
    · by_cases hid:id∈ids++jA is
      · obtain ⟨k,hk⟩:=List.getElem?_of_mem hid
        rcases Nat.lt_or_ge k top with hlt | hge
        · rw [Np k hlt] at hk
          have U1:=U0 id (ad2 k id hk)
          rcases b2 k id hk with ⟨g1,cs,cs',c1,e1,e2,e3,e4,e5,e6⟩ | ⟨g1,sz,n,t0,f0,f0',e1,e2,e3,e4⟩ | ⟨g1,sz,n,t0,f0,e1,e2,e3⟩
          · rw [p3 _ (List.mem_append_left _ e4)] at ho'
            cases ho'
            exact ⟨_,e1,rfl,U1 (ad3 k id _ hk e2 (fun g h=>by cases h))⟩
          · rw [p3 _ (List.mem_append_left _ e3)] at ho'
            cases ho'
            exact ⟨_,e1,⟨rfl,rfl,rfl,rfl⟩,U1 (ad3 k id _ hk e2 (fun g h=>by cases h))⟩
          · rw [p3 _ (List.mem_append_left _ e3)] at ho'
            cases ho'
            exact hlv.elim
        · have hk2:=Jo (k-top)
          rw [show top+(k-top)=k by omega,hk] at hk2
          cases hx:is[k-top]? with
          | none=>rw [hx] at hk2;cases hk2
          | some x =>
           rw [hx] at hk2
           simp only [Option.map_some,Option.some.injEq] at hk2
           subst hk2
           obtain ⟨sz,n',t',f',_,e2,_,_⟩:=i3 _ x hx
           rw [p3 _ (List.mem_append_right _ e2)] at ho'
           cases ho'
           have hgc:g=ctr:=hgo.symm
           obtain ⟨_,_,_,_,_,_,_,g1,La,n1,N1,t1',f1,_,e1,_,e3,_⟩:=t3 _ x hx
           rcases hg with hg | ⟨_,o,ho,apr⟩
           · omega
           · rw [e1] at ho;cases ho
             have:g1=g:=apr
             omega
      · rw [p2 id hid] at ho'
        refine ⟨o',ho',Ob.l9 _,U0 id (fun h=>hid (List.mem_append_right _ h)) (hout id hid)⟩
   have hback : ∀ (dd ee:D) (z:Value),ad1 (P:=P) ctr top (ids++jA is) dd ee→Rd w'.heap I' β' (post.map some) c' dd z→Rd w'.heap I' WO (bF objs (u1++u2)) ctr ee z:=by
    intro dd ee z hb hz
    rcases hb with ⟨rfl,hc⟩ | ⟨k,id,sz,o,n,rfl,hk1,hk2,rfl⟩
    · exact DY (IS.le.refl _) (fun _ _=>rfl) _ _ hc hz
    · have hk3:=Jo (k-top)
      rw [show top+(k-top)=k by omega,hk2] at hk3
      cases hx:is[k-top]? with
      | none=>rw [hx] at hk3;cases hk3
      | some x =>
       rw [hx] at hk3
       simp only [Option.map_some,Option.some.injEq] at hk3
       subst hk3
       obtain ⟨La,n',t',f',e1,e2,_,_⟩:=i3 _ x hx
       have e1:=hpl _ _ e1
       rw [show top+(k-top)=k by omega] at e1
       have cK:=p3 _ (List.mem_append_right u1 e2)
       have hbe:=ad4 _ x hx
       rw [show top+(k-top)=k by omega] at hbe
       obtain ⟨_,hsh,hvx⟩:=hz
       refine ⟨.inr ⟨rfl,_,cK,rfl⟩,hsh,fun N t f ho=>?_⟩
       rw [cK] at ho
       cases ho
       obtain ⟨o1,o2,o3,ad,len,cap,rfl,v1,v2,v3,v4⟩:=hvx n' t' f' (by rw [List.getElem?_map,e1];rfl)
       exact ⟨o1,o2,o3,_,_,_,rfl,v1,v2,(fun h=>by cases h),by rw [hbe];exact v4⟩
   refine ⟨v,rfl,I',WO,G,fun id o' ho'=>?_,fun k x hk=>?_,fun k k' x x' hne hk hk'=>?_,fun k x hk=>?_,⟨fun b hb=>?_,fun b hb=>?_⟩,fun b hb hL=>?_,by have:=R.size;omega,hwo,?_⟩
   · by_cases hid:id∈ids++jA is
     · obtain ⟨k,hk⟩:=List.getElem?_of_mem hid
       rcases Nat.lt_or_ge k top with hlt | hge
       · rw [Np k hlt] at hk
         have U1:=U0 id (ad2 k id hk)
         rcases b2 k id hk with ⟨g1,cs,cs',c1,e1,e2,e3,e4,e5,e6⟩ | ⟨g1,sz,n,t0,f0,f0',e1,e2,e3,e4⟩ | ⟨g1,sz,n,t0,f0,e1,e2,e3⟩
         rotate_right
         · rw [p3 _ (List.mem_append_left _ e3)] at ho'
           cases ho'
           exact ⟨Nat.le_refl _,(ad5 id (ad2 k id hk)).2 ⟨k,hk,e2⟩⟩
         all_goals replace U1:=U1 (ad3 k id _ hk e2 (fun g h=>by cases h))
         · rw [p3 _ (List.mem_append_left _ e4)] at ho'
           cases ho'
           obtain ⟨hg1,b,o,s,c,e,y1,y2,y3,y4,y5,y6⟩:=R.ob id _ e1
           obtain ⟨b',o',s',c0,e0,w1,w2,w3⟩:=((ED k).1 id hk).1 _ _ e1
           rw [y1] at w1;cases w1
           rw [y2] at w2;cases w2
           obtain ⟨hr,hst⟩:=h5 k _ e2
           obtain ⟨_,b1',o1',s1',cN,eN,x1,x2,x3,x4,x5,x6⟩:=hr
           rw [hst rfl,w3] at x1;cases x1
           have hwl:win id+c1.length≤cs.length:=by omega
           refine ⟨hg1,b,o,s,cN,eN,U1.trans y1,x2,⟨x3.1.trans y3.1,fun i hi=>?_⟩,x4,by rw [nk _ _ _ hwl];exact y5,fun j dj hj=>?_⟩
           · rw [nk _ _ _ hwl] at hi
             rw [x3.2 i (by omega),y3.2 i hi]
           · rw [yD _ _ _ _ hwl] at hj
             split at hj
             · rename_i agk
               have hjl:j-win id < cs'.length:=by omega
               obtain ⟨ee,ee1,ee2⟩:=e6 (j-win id) _ (List.getElem?_eq_getElem hjl)
               rw [hj] at ee1;cases ee1
               obtain ⟨z,z1,z2,z3⟩:=x6 (j-win id) _ (List.getElem?_eq_getElem hjl)
               exact ⟨z,by rw [← z1];congr 1;omega,z2,hback _ _ _ ee2 z3⟩
             · rename_i aq5
               obtain ⟨z,z1,z2,z3⟩:=y6 j dj hj
               exact ⟨z,by rw [x3.2 (o+j) (by omega)];exact z1,z2,Rd.mono G _ _ z3⟩
         · rw [p3 _ (List.mem_append_left _ e3)] at ho'
           cases ho'
           obtain ⟨hr,hst⟩:=h5 k _ e2
           have hbe:=((ED k).1 id hk).2 _ _ _ _ _ e1
           refine UZ (g:=g1) (o:=.arr 0 sz n t0 f0') (k:=k) (R.ob id _ e1).1 (IS.le.refl _) (fun x hx=>?_) (U1.trans (hbe.symm.trans (hst rfl).symm)) (fun q hq=>by
            simp only [Zc,List.mem_singleton] at hq;subst hq;exact e4) hr
           obtain ⟨_,_,hr2⟩:=hr
           rcases hr2 with ⟨_,q2⟩ | ⟨b,o,s,c,e,q1,q2,q3,q4,_⟩
           · rw [hx] at q2;cases q2
           · rw [hx] at q1;cases q1;exact q4
       · have hk2:=Jo (k-top)
         rw [show top+(k-top)=k by omega,hk] at hk2
         cases hx:is[k-top]? with
         | none=>rw [hx] at hk2;cases hk2
         | some x =>
          rw [hx] at hk2
          simp only [Option.map_some,Option.some.injEq] at hk2
          subst hk2
          obtain ⟨sz,n',t',f',e1,e2,_,e4⟩:=i3 _ x hx
          rw [p3 _ (List.mem_append_right _ e2)] at ho'
          cases ho'
          obtain ⟨hr,_⟩:=h5 _ _ (hpl _ _ e1)
          have hbe:=ad4 _ x hx
          have:=UZ (P:=P) (g:=ctr) (o:=.arr 1 sz n' t' f') (k:=top+(k-top)) (k':=x.1) (β':=WO) (aX:=bF objs (u1++u2)) (Nat.le_refl ctr) (IS.le.refl _) (fun y hy=>by
           obtain ⟨_,_,hr2⟩:=hr
           rcases hr2 with ⟨_,q2⟩ | ⟨b,o,s,c,e,q1,q2,q3,q4,_⟩
           · rw [hy] at q2;cases q2
           · rw [hy] at q1;cases q1;exact q4) hbe (fun q hq=>by
           simp only [Zc,List.mem_singleton] at hq;subst hq;exact e4) hr
          exact this
     · rw [p2 id hid] at ho'
       refine Rob.mono G (fun b x hb hI=>hkeep id _ hid hb) (U0 id (fun h=>hid (List.mem_append_right _ h)) (hout id hid)) (R.ob id o' ho')
   · by_cases hid:k∈ids++jA is
     · have:k∈(u1++u2).map (·.1):=by rw [hkeys];exact hid
       obtain ⟨z,z1,rfl⟩:=List.mem_map.1 this
       have hz:=p3 z z1
       rcases List.mem_append.1 z1 with hz1 | hz1
       · have:z.1∈ids:=by rw [← b1];exact List.mem_map.2 ⟨z,hz1,rfl⟩
         obtain ⟨t,ht⟩:=List.getElem?_of_mem this
         rcases b2 t z.1 ht with ⟨g1,cs,cs',c1,e1,e2,e3,e4,_⟩ | ⟨g1,sz,n,t0,f0,f0',e1,e2,e3,_⟩ | ⟨g1,sz,n,t0,f0,e1,e2,e3⟩
         · exact ⟨_,p3 _ (List.mem_append_left _ e4)⟩
         · exact ⟨_,p3 _ (List.mem_append_left _ e3)⟩
         · exact ⟨_,p3 _ (List.mem_append_left _ e3)⟩
       · have:z.1∈jA is:=by rw [← i1];exact List.mem_map.2 ⟨z,hz1,rfl⟩
         obtain ⟨t,ht⟩:=List.getElem?_of_mem this
         rw [Db] at ht
         cases hx:is[t]? with
         | none=>rw [hx] at ht;cases ht
         | some y =>
          rw [hx] at ht
          simp only [Option.map_some,Option.some.injEq] at ht
          obtain ⟨sz,n',t',f',_,e2,_,_⟩:=i3 _ y hx
          rw [← ht]
          exact ⟨_,p3 _ (List.mem_append_right _ e2)⟩
     · rw [U0 k (fun h=>hid (List.mem_append_right _ h)) (hout k hid)] at hk
       obtain ⟨o,ho⟩:=R.dom k x hk
       exact ⟨o,by rw [p2 k hid];exact ho⟩
   ·
    have hcls : ∀ (q:Nat) (y:Nat × Nat × Array Value),WO q=some y→(q ∉ jA is∧¬ gone q∧β q=some y)∨∃ i x,is[i]? = some x∧x.1=q∧β' (top+i)=some y:=by
     intro q y hy
     by_cases hq:q∈jA is
     · obtain ⟨t,ht⟩:=List.getElem?_of_mem hq
       rw [Db] at ht
       cases hx:is[t]? with
       | none=>rw [hx] at ht;cases ht
       | some z =>
        rw [hx] at ht
        simp only [Option.map_some,Option.some.injEq] at ht
        subst ht
        exact .inr ⟨t,z,hx,rfl,(ad4 t z hx).symm.trans hy⟩
     · have hg : ¬ gone q:=fun hg=>by rw [(ad5 q hq).2 hg] at hy;cases hy
       exact .inl ⟨hq,hg,(U0 q hq hg).symm.trans hy⟩
    have aly : ∀ (q:Nat) (y:Nat × Nat × Array Value) (i:Nat) (x:Nat × Int × Ob) (z:Nat × Nat × Array Value),q ∉ jA is→¬ gone q→β q=some y→is[i]? = some x→β' (top+i)=some z→y.1≠z.1:=by
     intro q y i x z hq hgq hy hx hz
     by_cases hqi:q∈ids
     · obtain ⟨t,ht⟩:=List.getElem?_of_mem hqi
       have htlt:t < top:=by rw [← htop];exact (List.getElem?_eq_some_iff.1 ht).1
       have key : ∃ y',β' t=some y'∧y'.1=y.1:=by
        rcases b2 t q ht with ⟨g1,cs,cs',c1,e1,e2,_⟩ | ⟨g1,sz,n,t0,f0,f0',e1,e2,_⟩ | ⟨g1,sz,n,t0,f0,e1,e2,_⟩
        · obtain ⟨b',o',s',c0,e0,w1,w2,w3⟩:=((ED t).1 q ht).1 _ _ e1
          rw [hy] at w1;cases w1
          exact ⟨_,((h5 t _ e2).2 rfl).trans w3,rfl⟩
        · exact ⟨y,((h5 t _ e2).2 rfl).trans ((((ED t).1 q ht).2 _ _ _ _ _ e1).trans hy),rfl⟩
        · exact absurd ⟨t,ht,e2⟩ hgq
       obtain ⟨y',y1,y2⟩:=key
       rw [← y2]
       exact h6 t (top+i) y' z (by omega) y1 hz
     · have hqn:q ∉ ids++jA is:=fun h=>(List.mem_append.1 h).elim hqi hq
       rcases hmv i x z hx hz with ⟨k0,x0,h0',he⟩ | hge
       · obtain ⟨id',x',a1,a2,a3⟩:=hlb k0 x0 h0'
         rw [← he,← a3]
         exact R.dist q id' y x' (fun e=>hqn (e ▸ a1)) hy a2
       · have:=R.jf hy;omega
    rcases hcls k x hk with ⟨q1,qg,q2⟩ | ⟨i,z,q1,q2,q3⟩
    · rcases hcls k' x' hk' with ⟨r1,rg,r2⟩ | ⟨i',z',r1,r2,r3⟩
      · exact R.dist k k' x x' hne q2 r2
      · exact aly k x i' z' x' q1 qg q2 r1 r3
    · rcases hcls k' x' hk' with ⟨r1,rg,r2⟩ | ⟨i',z',r1,r2,r3⟩
      · exact Ne.symm (aly k' x' i z x r1 rg r2 q1 q3)
      · refine h6 (top+i) (top+i') x x' (fun e=>hne ?_) q3 r3
        have:i=i':=by omega
        subst this
        rw [q1] at r1;cases r1
        exact q2.symm.trans r2
   · by_cases hq:k∈jA is
     · obtain ⟨t,ht⟩:=List.getElem?_of_mem hq
       rw [Db] at ht
       cases hx:is[t]? with
       | none=>rw [hx] at ht;cases ht
       | some z =>
        rw [hx] at ht
        simp only [Option.map_some,Option.some.injEq] at ht
        subst ht
        rw [ad4 t z hx] at hk
        rcases hmv t z x hx hk with ⟨k0,x0,h0',he⟩ | hge
        · obtain ⟨id',x',a1,a2,a3⟩:=hlb k0 x0 h0'
          rw [← he,← a3];exact R.own id' x' a2
        · have:=R.size;exact .inl (by omega)
     · rw [U0 k hq (fun hg=>by rw [(ad5 k hq).2 hg] at hk;cases hk)] at hk
       exact R.own k x hk
   · obtain ⟨l1,l2⟩:=h2.1 b hb
     refine ⟨l1,?_⟩
     rcases l2 with h | h | ⟨k,x,hk,rfl⟩
     · exact (R.lt.1 b h).2
     · have:=R.size;exact .inr (.inl (by omega))
     · obtain ⟨id',x',a1,a2,a3⟩:=hlb k x hk
       rw [← a3]
       exact .inr (R.own id' x' a2)
   · rcases h2.2 b hb with h | h | ⟨k,x,hk,rfl⟩
     · exact R.lt.2 b h
     · have:=R.size;exact .inr (.inl (by omega))
     · obtain ⟨id',x',a1,a2,a3⟩:=hlb k x hk
       rw [← a3]
       exact .inr (R.own id' x' a2)
   · rw [← R.frame b hb hL]
     refine h3 b (Nat.lt_of_lt_of_le hb R.size) fun k x hk he=>?_
     obtain ⟨id,x',_,a2,a3⟩:=hlb k x hk
     rcases R.own id x' a2 with h | h
     · omega
     · exact hL (he ▸ a3 ▸ h)
   · exact Rd.mono (Goes.back _ _ _ _ _) _ _ (Rj hd h8)
 · intro t d' ht
   rw [List.getElem?_map] at ht
   cases hat:args[t]? with
   | none=>rw [hat] at ht;cases ht
   | some d0 =>
    rw [hat] at ht
    simp only [Option.map_some,Option.some.injEq] at ht
    subst ht
    obtain ⟨y,hy,hv⟩:=hargs t d0 hat
    obtain ⟨m1,m2⟩:=hin t d0 hat
    refine ⟨y,hy,?_⟩
    rcases TF ho1 t d0 hat with ⟨k,c,rfl,⟨hb,agD⟩ | ⟨hb,hcs⟩⟩ | ⟨hna,ho⟩
    · simp only [ren,hb,if_true]
      exact DY (IS.le.refl _) (fun _ _=>rfl) _ _ agD hv
    · simp only [ren,hb,Bool.false_eq_true,if_false]
      obtain ⟨ys,rfl,x1,x2⟩:=hv
      refine ⟨ys,rfl,x1,fun j hj=>?_⟩
      obtain ⟨z,z1,z2,z3⟩:=x2 j hj
      exact ⟨z,z1,z2,alu _ _ (hcs j hj) (fun id hid=>m2 k c j id rfl hj hid) z3⟩
    · have e:ren ids win d0=XQ ids win d0:=by cases d0<;>first | exact absurd rfl (hna _ _) | rfl
      rw [e]
      exact alu _ _ ho m1 hv
 · intro k x hk
   obtain ⟨id,x',a1,a2,a3⟩:=(ED k).2.2 x hk
   have hlt:k < (ts++uZ is).length:=by
    have:=(List.getElem?_eq_some_iff.1 a1).1
    have e:(uZ is).length=(jA is).length:=by rw [aaR,aaS]
    simp only [List.length_append] at this ⊢
    omega
   exact ⟨_,List.getElem?_eq_getElem hlt⟩
end
end Go.Vx
