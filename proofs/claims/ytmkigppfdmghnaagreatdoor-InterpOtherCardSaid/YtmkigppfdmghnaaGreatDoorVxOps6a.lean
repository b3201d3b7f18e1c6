/- Each step of the evaluator is a step of the Go model: calls; the whole. -/
import Derived.Test.YtmkigppfdmghnaaGreatDoorVxOps5
set_option linter.all false
namespace Go.Vx
section
variable {P:Program} {tt:TT} {B0:Nat} {h0:Array Obj} {I0 I:IS} {L:Lend} {β:Nat→Option (Nat × Nat × Array Value)} {slots:List D} {objs:List (Option Ob)} {ctr:Nat} {a:Act} {w:World}
theorem Goes.bare (h:Array Obj) (I:IS) (β:Nat→Option (Nat × Nat × Array Value)) (objs:List (Option Ob)) (ctr:Nat):Goes h I β objs ctr h I (fun _=>none) [] (ctr+1):=by
 refine ⟨fun _ x=>x,fun _ _=>rfl,fun _ x=>x,fun id g hg=>.inl ?_,fun id g hg o' ho' _ _=>by simp at ho'⟩
 rcases hg with h | ⟨h,_⟩<;>omega
theorem Goes.back (h:Array Obj) (I:IS) (β:Nat→Option (Nat × Nat × Array Value)) (objs:List (Option Ob)) (ctr:Nat):Goes h I (fun _=>none) [] 0 h I β objs ctr:=by
 refine ⟨fun _ x=>x,fun _ _=>rfl,fun _ x=>x,fun id g hg=>?_,fun id g hg=>?_⟩
 · rcases hg with h | ⟨_,o,ho,_⟩
   · omega
   · simp at ho
 · rcases hg with h | ⟨_,o,ho,_⟩
   · omega
   · simp at ho
theorem res_plain {B:Nat} {h:Array Obj} {I:IS} {d:D} {v:Value} (hd:isOwnD d=false) (hr:Res B h I d v):Rd h I (fun _=>none) [] 0 d v:=by
 cases d<;>simp [isOwnD] at hd<;>exact hr
theorem vec_cells {h:Array Obj} {k g sz:Nat} {off n N:Int} {t:Bool} {f:Int→Nat→D} {y:Value} (hr:Rd h I β objs ctr (.vec k g sz off n) y) (hob:objs[k]? = some (some (.arr g sz N t f)))
  (hrob:Rob h I β objs ctr k (.arr g sz N t f)) : ∃ a len cap,y = .slice a len cap∧(len:Int)=n∧len≤cap∧((t && (off+n == N))=true→cap=len) ∧
   (0 < cap→∃ b o c e s,β k=some (b,s)∧a=some ⟨b,o,none⟩∧h[b]? = some (.cells c e (0,0))∧¬ I b∧o+cap*sz≤c.size ∧
    ∀ i:Nat,i < len→∀ j,j < sz→∃ z,c[o+i*sz+j]? = some z∧z.oneCell'=true∧Rd h I β objs ctr (f (off+i) j) z):=by
 obtain ⟨_,_,hx⟩:=hr
 obtain ⟨o1,o2,o3,ad,len,cap,rfl,x1,x2,x3,x4⟩:=hx _ _ _ hob
 refine ⟨ad,len,cap,rfl,x1,x2,?_,fun hp=>?_⟩
 · intro ht
   simp only [Bool.and_eq_true,beq_iff_eq] at ht
   have:=x3 ht.1
   omega
 · obtain ⟨b,o,s',hb,rfl,hrr⟩:=x4 hp
   obtain ⟨_,_,hrob⟩:=hrob
   rcases hrob with ⟨h1,h2⟩ | ⟨b',p',s1,c,e,q1,q2,q3,q4,q5,q6⟩
   · rw [hb] at h2;cases h2
   · rw [hb] at q1;cases q1
     refine ⟨b,_,c,e,_,hb,rfl,q2,q4,by omega,fun i hi j hj=>?_⟩
     obtain ⟨z,z1,z2,z3⟩:=q6 (off.toNat+i) (by omega) j hj
     refine ⟨z,?_,z2,?_⟩
     · rw [← z1];congr 1;rw [Nat.add_mul];omega
     · have e1:((off.toNat+i:Nat):Int)=off+(i:Int):=by omega
       rw [e1] at z3;exact z3
theorem clo_ok {h h':Array Obj} {I I':IS} (hI:I.le I') (hh : ∀ b,I b→h'[b]? = h[b]?) {β β':Nat→Option (Nat × Nat × Array Value)} {objs objs':List (Option Ob)} {ctr ctr':Nat} :
  ∀ (d:D) (y:Value),clo (std P) d→Rd h I β objs ctr d y→Rd h' I' β' objs' ctr' d y:=by
 intro d
 induction d with
 | sl sz n t f ih =>
  rintro y hc ⟨a,len,cap,rfl,hl,hcp,ht,hcells⟩
  refine ⟨a,len,cap,rfl,hl,hcp,ht,fun hp=>?_⟩
  obtain ⟨b,o,c,e,fr,rfl,hb1,hb,hx⟩:=hcells hp
  refine ⟨b,o,c,e,fr,rfl,hI.2 b hb1,by rw [hh b (I.sub b hb1)];exact hb,fun i hi j hj=>?_⟩
  obtain ⟨z,h1,h2,h3⟩:=hx i hi j hj
  exact ⟨z,h1,h2,ih _ _ _ (hc i (by omega) (by omega) j hj) h3⟩
 | agg k c ih =>
  rintro y hc ⟨ys,rfl,hs,hx⟩
  refine ⟨ys,rfl,hs,fun j hj=>?_⟩
  obtain ⟨z,h1,h2,h3⟩:=hx j hj
  exact ⟨z,h1,h2,ih _ _ (hc 0 (by omega) (by omega) j hj) h3⟩
 | tup k c ih =>
  rintro y hc ⟨ys,rfl,hs,hx⟩
  refine ⟨ys,rfl,hs,fun j hj=>?_⟩
  obtain ⟨z,h1,h3⟩:=hx j hj
  exact ⟨z,h1,ih _ _ (hc 0 (by omega) (by omega) j hj) h3⟩
 | fn f k c ih =>
  rintro y hc ⟨ys,rfl,hs,hx⟩
  refine ⟨ys,rfl,hs,fun j hj=>?_⟩
  obtain ⟨z,h1,h3⟩:=hx j hj
  exact ⟨z,h1,ih _ _ (hc 0 (by omega) (by omega) j hj) h3⟩
 | imm sz n f i j ih =>
  rintro y hc ⟨h0,h1,b,o,c,e,fr,hy,hb1,hb,hx⟩
  refine ⟨h0,h1,b,o,c,e,fr,hy,hI.1 b hb1,by rw [hh b hb1];exact hb,fun i hi j hj=>?_⟩
  obtain ⟨z,h1,h2,h3⟩:=hx i hi j hj
  exact ⟨z,h1,h2,ih _ _ _ (hc i (by omega) hi j hj) h3⟩
 | whn b d ih=>exact fun y hc hy=>⟨fun hb=>ih y hc (hy.1 hb),hy.2⟩
 | v x=>exact fun y _ hy=>hy
 | nilsl=>exact fun y _ hy=>hy
 | junk=>exact fun y _ _=>trivial
 | bref=>exact fun y hc _=>hc.elim
 | aref=>exact fun y hc _=>hc.elim
 | vec=>exact fun y hc _=>hc.elim
 | own=>exact fun y hc _=>hc.elim
 | mp kk kv es=>exact fun y _ ⟨r,c,cl,hy,hr,hb,he⟩=>⟨r,c,cl,hy,hI.1 r hr,by rw [hh r hr];exact hb,he⟩
 | iref=>exact fun y hc _=>hc.elim
 | cnd=>exact fun y hc _=>hc.elim
 | ntup=>exact fun y _ hy=>hy
 | tab g n k=>exact fun y _ ⟨h1,h2,h3⟩=>⟨h1,hI.1 g h2,by rw [hh g h2];exact h3⟩
theorem flat_rd {h:Array Obj} {I I':IS} : ∀ (d:D) (y:Value),flat (std P) d→Rd h I (fun _=>none) [] 0 d y→Rd h I' (fun _=>none) [] 0 d y:=by
 intro d
 induction d with
 | agg k c ih =>
  rintro y hc ⟨ys,rfl,hs,hx⟩
  refine ⟨ys,rfl,hs,fun j hj=>?_⟩
  obtain ⟨z,h1,h2,h3⟩:=hx j hj
  exact ⟨z,h1,h2,ih _ _ (hc 0 (by omega) (by omega) j hj) h3⟩
 | tup k c ih =>
  rintro y hc ⟨ys,rfl,hs,hx⟩
  refine ⟨ys,rfl,hs,fun j hj=>?_⟩
  obtain ⟨z,h1,h3⟩:=hx j hj
  exact ⟨z,h1,ih _ _ (hc 0 (by omega) (by omega) j hj) h3⟩
 | fn f k c ih =>
  rintro y hc ⟨ys,rfl,hs,hx⟩
  refine ⟨ys,rfl,hs,fun j hj=>?_⟩
  obtain ⟨z,h1,h3⟩:=hx j hj
  exact ⟨z,h1,ih _ _ (hc 0 (by omega) (by omega) j hj) h3⟩
 | own=>exact fun y _ hy=>hy.elim
 | v x=>exact fun y _ hy=>hy
 | nilsl=>exact fun y _ hy=>hy
 | junk=>exact fun y _ _=>trivial
 | _=>exact fun y hc _=>hc.elim
theorem flat_res {B:Nat} {h:Array Obj} {I I':IS} (hI : ∀ b,I b→b < B) {d:D} {v:Value} (hf:flat (std P) d) (hr:Res B h I' d v):Res B h I d v:=by
 cases d with
 | own sz n t g =>
  obtain ⟨ad,len,cap,rfl,x1,x2,x3,x4⟩:=hr
  refine ⟨ad,len,cap,rfl,x1,x2,x3,fun hp=>?_⟩
  obtain ⟨b,p,c,e,rfl,y1,y2,y3,y4,y5⟩:=x4 hp
  refine ⟨b,p,c,e,rfl,y1,fun hb=>by have:=hI b hb;omega,y3,y4,fun i hi j hj=>?_⟩
  obtain ⟨z,z1,z2,z3⟩:=y5 i hi j hj
  exact ⟨z,z1,z2,flat_rd _ _ (hf i (by omega) (by omega) j hj) z3⟩
 | _=>exact flat_rd (I:=I') _ _ hf hr
theorem own_post (R:RM B0 h0 I0 L I β slots objs ctr a w) {w':World} {I':IS} (h1:I.le I') (h2:I.New w.heap.size I' w'.heap.size)
  (h3 : ∀ b,b < w.heap.size→w'.heap[b]? = w.heap[b]?) (h4:w.heap.size≤w'.heap.size) (hwo:SameOut w w') {sz:Nat} {n:Int} {tight:Bool} {g:Int→Nat→D} {v:Value} {key:Nat} (hk:objs[key]? = some none)
  (h5:Res w.heap.size w'.heap I' (.own sz n tight g) v):Post B0 h0 I0 L I β objs ctr w (objs.set key (some (.arr ctr sz n tight g))) w' (.vec key ctr sz 0 n) v:=by
 obtain ⟨G,R'⟩:=R.grow h1 h2 h3 h4 hwo
 refine Post.after hwo G ?_
 obtain ⟨ad,len,cap,rfl,x1,x2,x3,x4⟩:=h5
 rcases Nat.eq_zero_or_pos cap with hc0 | hc0
 · obtain rfl:len=0:=by omega
   subst hc0
   exact empty_ok R' (old:=none) (.inl hk) (fun _ h=>by cases h) (by omega) _ _ _
 · obtain ⟨b,p,c,e,rfl,y1,y2,y3,y4,y5⟩:=x4 hc0
   have hml:len*sz≤cap*sz:=Nat.mul_le_mul_right _ x2
   have hklt:key < objs.length:=by
    rcases Nat.lt_or_ge key objs.length with h | h
    · exact h
    · have hn:objs[key]? = none:=List.getElem?_eq_none (by simpa using h)
      rw [hn] at hk;cases hk
   refine R'.turn (old:=none) (X:=some (b,p,c)) rfl (.inl hk) (fun _ h=>by cases h) (fun _ _ _=>rfl) (Nat.le_refl _) ?_ ⟨by omega,  .inr ⟨b,p,c,c,e,rfl,y3,rfl,?_,fun i hi j hj=>?_⟩⟩ ?_
   · intro x hx
     cases hx
     exact ⟨(Array.getElem?_eq_some_iff.1 y3).1,.inr (.inr ⟨y2,by have:=R.size;omega,fun k z hz=>by have:=R.lt_block hz;simp;omega⟩)⟩
   · have:n.toNat=len:=by omega
     rw [this];omega
   · obtain ⟨z,z1,z2,z3⟩:=y5 i (by omega) j hj
     exact ⟨z,z1,z2,Rd.mono (Goes.back _ _ _ _ _) _ _ z3⟩
   · intro β' hβ G'
     refine ⟨.inr ⟨rfl,_,List.getElem?_set_self hklt,rfl⟩,⟨_,_,_,rfl,x1,x2,fun _=>rfl⟩,fun N t' f' ho=>?_⟩
     have ho:=ho
     simp only [killed] at ho
     rw [List.getElem?_set_self hklt] at ho
     cases ho
     exact ⟨by omega,by omega,by omega,_,_,_,rfl,x1,x2,fun ht=>by have:=x3 ht;omega,fun _=>⟨b,p,_,hβ,by simp,by simp;omega⟩⟩
theorem plain_post (R:RM B0 h0 I0 L I β slots objs ctr a w) {w':World} {I':IS} (h1:I.le I') (h2:I.New w.heap.size I' w'.heap.size)
  (h3 : ∀ b,b < w.heap.size→w'.heap[b]? = w.heap[b]?) (h4:w.heap.size≤w'.heap.size) (hwo:SameOut w w') {d:D} {v:Value} (hd:isOwnD d=false)
  (h5:Res w.heap.size w'.heap I' d v):Post B0 h0 I0 L I β objs ctr w objs w' d v:=by
 obtain ⟨G,R'⟩:=R.grow h1 h2 h3 h4 hwo
 exact Post.after hwo G (R'.still (Rd.mono (Goes.back _ _ _ _ _) _ _ (res_plain hd h5)))
theorem newD_some' {objs:List (Option Ob)} {key:Nat} {d0 d:D} {o:Ob} {os os':List Prop} {u:List (Nat × Option Ob)} (h:newD objs key d0 o os=some (d,u,os')):objs[key]? = some none∧d=d0∧u=[(key,some o)]∧os'=os:=by
 unfold newD at h
 split at h
 · rename_i hk
   simp only [Option.some.injEq,Prod.mk.injEq] at h
   exact ⟨hk,h.1.symm,h.2.1.symm,h.2.2.symm⟩
 · cases h
theorem viewV_ok (R:RM B0 h0 I0 L I β slots objs ctr a w) {d d':D} {os:List Prop} {y:Value} (h:viewV (std P) objs d=some (d',os)) (hos : ∀ q∈os,q) (hv:Rd w.heap I β objs ctr d y) :
  Rd w.heap (I.or (Blocks β)) (fun _=>none) [] (ctr+1) d' y:=by
 have G:Goes w.heap I β objs ctr w.heap (I.or (Blocks β)) (fun _=>none) [] (ctr+1):=by
  refine ⟨fun _ x=>.inl x,fun _ _=>rfl,fun _ x=>.inl x,fun id g hg=>.inl ?_,fun id g hg o' ho' _ _=>by simp at ho'⟩
  rcases hg with h | ⟨h,_⟩<;>omega
 by_cases hvec : ∃ id g sz off n,d = .vec id g sz off n
 · obtain ⟨id,g,sz,off,n,rfl⟩:=hvec
   simp only [viewV] at h
   split at h
   · rename_i g' sz' N t f hob
     split at h
     · rename_i hsz
       have hsz:=Nat.eq_of_beq_eq_true hsz;subst hsz
       have key : ∀ hg:g=g',Rd w.heap (I.or (Blocks β)) (fun _=>none) [] (ctr+1) (.sl sz n (t && (off+n == N)) (fun i j=>f (off+i) j)) y:=by
        intro hg;subst hg
        obtain ⟨ad,len,cap,rfl,x1,x2,x3,x4⟩:=vec_cells hv hob (R.ob _ _ hob)
        refine ⟨ad,len,cap,rfl,x1,x2,x3,fun hp=>?_⟩
        obtain ⟨b,o,c,e,s,y1,rfl,y2,y3,y4,y5⟩:=x4 (by omega)
        refine ⟨b,o,c,e,_,rfl,.inr ⟨id,_,y1,rfl⟩,y2,fun i hi j hj=>?_⟩
        obtain ⟨z,z1,z2,z3⟩:=y5 i hi j hj
        exact ⟨z,z1,z2,Rd.mono G _ _ z3⟩
       split at h
       · simp only [Option.some.injEq,Prod.mk.injEq] at h
         obtain ⟨rfl,rfl⟩:=h
         obtain ⟨ad,len,cap,rfl,x1,x2,_,x4⟩:=key (hos _ (List.mem_singleton.2 rfl))
         refine ⟨ad,len,cap,rfl,x1,x2,(fun h=>by cases h),fun hp=>?_⟩
         obtain ⟨b,o,c,e,fr,e1,e2,e3,e4⟩:=x4 hp
         refine ⟨b,o,c,e,fr,e1,e2,e3,fun i hi j hj=>?_⟩
         obtain ⟨z,z1,z2,z3⟩:=e4 i hi j hj
         refine ⟨z,z1,z2,?_⟩
         have e0:(Int.ofNat 0:Int)+(i:Int)=i:=Int.zero_add _
         have z3:Rd w.heap (I.or (Blocks β)) (fun _=>none) [] (ctr+1) (f (Int.ofNat 0+(i:Int)) j) z:=z3
         rw [e0] at z3;exact z3
       · simp only [Option.some.injEq,Prod.mk.injEq] at h
         obtain ⟨rfl,rfl⟩:=h
         exact key (hos _ (List.mem_singleton.2 rfl))
     · cases h
   · cases h
 · have e:viewV (std P) objs d=some (d,[]):=by cases d<;>first | rfl | exact absurd ⟨_,_,_,_,_,rfl⟩ hvec
   rw [e] at h
   simp only [Option.some.injEq,Prod.mk.injEq] at h
   obtain ⟨rfl,rfl⟩:=h
   exact Rd.mono G _ _ hv
theorem viewCs_ok (R:RM B0 h0 I0 L I β slots objs ctr a w) : ∀ {cs cs':List D} {os:List Prop},viewCs (std P) objs cs=some (cs',os)→(∀ q∈os,q)→cs'.length=cs.length∧∀ (j:Nat) (d:D),cs[j]? = some d→∃ d',cs'[j]? = some d'∧∀ y,Rd w.heap I β objs ctr d y→Rd w.heap (I.or (Blocks β)) (fun _=>none) [] (ctr+1) d' y
 | [],cs',os,h,_=>by
  simp only [viewCs,Option.some.injEq,Prod.mk.injEq] at h
  obtain ⟨rfl,rfl⟩:=h
  exact ⟨rfl,fun j d hj=>by simp at hj⟩
 | d :: r,cs',os,h,hos=>by
  simp only [viewCs] at h
  split at h
  · rename_i d' os1 r' os2 hd hr
    simp only [Option.some.injEq,Prod.mk.injEq] at h
    obtain ⟨rfl,rfl⟩:=h
    obtain ⟨h1,h2⟩:=viewCs_ok R hr (fun q hq=>hos q (List.mem_append_right _ hq))
    refine ⟨by simp [h1],fun j x hj=>?_⟩
    cases j with
    | zero =>
     simp only [List.getElem?_cons_zero,Option.some.injEq] at hj
     subst hj
     exact ⟨d',rfl,fun y hy=>viewV_ok R hd (fun q hq=>hos q (List.mem_append_left _ hq)) hy⟩
    | succ j=>simpa using h2 j x (by simpa using hj)
  · cases h
theorem viewD1_ok (R:RM B0 h0 I0 L I β slots objs ctr a w) {d d':D} {os1:List Prop} {y0:Value} (hd:viewD1 (std P) objs d=some (d',os1)) (hos1 : ∀ q∈os1,q) (hv:Rd w.heap I β objs ctr d y0) :
  Rd w.heap (I.or (Blocks β)) (fun _=>none) [] (ctr+1) d' y0:=by
 have G:Goes w.heap I β objs ctr w.heap (I.or (Blocks β)) (fun _=>none) [] (ctr+1):=by
  refine ⟨fun _ x=>.inl x,fun _ _=>rfl,fun _ x=>.inl x,fun id g hg=>.inl ?_,fun id g hg o' ho' _ _=>by simp at ho'⟩
  rcases hg with h | ⟨h,_⟩<;>omega
 unfold viewD1 at hd
 split at hd
 · rename_i id g sz off n
   split at hd
   · rename_i g' sz' N t f hob
     split at hd
     · rename_i hsz
       have hsz:=Nat.eq_of_beq_eq_true hsz;subst hsz
       simp only [Option.some.injEq,Prod.mk.injEq] at hd
       obtain ⟨rfl,rfl⟩:=hd
       have hg:g=g':=hos1 _ (List.mem_singleton.2 rfl)
       subst hg
       obtain ⟨ad,len,cap,rfl,x1,x2,x3,x4⟩:=vec_cells hv hob (R.ob _ _ hob)
       refine ⟨ad,len,cap,rfl,x1,x2,x3,fun hp=>?_⟩
       obtain ⟨b,o,c,e,s,y1,rfl,y2,y3,y4,y5⟩:=x4 (by omega)
       refine ⟨b,o,c,e,_,rfl,.inr ⟨id,_,y1,rfl⟩,y2,fun i hi j hj=>?_⟩
       obtain ⟨z,z1,z2,z3⟩:=y5 i hi j hj
       exact ⟨z,z1,z2,Rd.mono G _ _ z3⟩
     · cases hd
   · cases hd
 · rename_i id g j
   split at hd
   · rename_i g' cs hob
     split at hd
     · rename_i cs' os3 hcs
       simp only [Option.some.injEq,Prod.mk.injEq] at hd
       obtain ⟨rfl,rfl⟩:=hd
       have hg:g=g':=hos1 _ (List.mem_cons_self ..)
       subst hg
       obtain ⟨k1,k2⟩:=viewCs_ok R hcs (fun q hq=>hos1 q (List.mem_cons_of_mem _ hq))
       obtain ⟨_,_,hx⟩:=hv
       obtain ⟨b,o,s,hb,rfl⟩:=hx _ hob
       obtain ⟨_,b',o',s',c,e,q1,q2,q3,q4,q5,q6⟩:=R.ob _ _ hob
       rw [hb] at q1;cases q1
       refine ⟨by omega,by omega,b,o,c,e,_,by simp,.inr ⟨id,_,hb,rfl⟩,q2,fun i' hi j' hj=>?_⟩
       have hj2:j' < cs.length:=by omega
       obtain ⟨z,z1,z2,z3⟩:=q6 j' _ (List.getElem?_eq_getElem hj2)
       obtain ⟨d',d1,d2⟩:=k2 j' _ (List.getElem?_eq_getElem hj2)
       have e0:i'=0:=by omega
       subst e0
       refine ⟨z,by simpa using z1,z2,?_⟩
       have e1:cs'.getD j' .junk=d':=by simp [List.getD,d1]
       show Rd _ _ _ _ _ (cs'.getD j' .junk) z
       rw [e1]
       exact d2 z z3
     · cases hd
   · cases hd
 · rename_i k c
   split at hd
   · simp only [Option.some.injEq,Prod.mk.injEq] at hd
     obtain ⟨rfl,rfl⟩:=hd
     exact Rd.mono G _ _ hv
   · split at hd
     · rename_i cs' os3 hcs
       simp only [Option.some.injEq,Prod.mk.injEq] at hd
       obtain ⟨rfl,rfl⟩:=hd
       obtain ⟨k1,k2⟩:=viewCs_ok R hcs hos1
       obtain ⟨ys,rfl,x1,x2⟩:=hv
       refine ⟨ys,rfl,x1,fun j hj=>?_⟩
       obtain ⟨z,z1,z2,z3⟩:=x2 j hj
       obtain ⟨d',d1,d2⟩:=k2 j (c j) (by rw [cellsOf_get,if_pos hj])
       refine ⟨z,z1,z2,?_⟩
       have e1:cs'.getD j .junk=d':=by simp [List.getD,d1]
       show Rd _ _ _ _ _ (cs'.getD j .junk) z
       rw [e1]
       exact d2 z z3
     · cases hd
 · simp only [Option.some.injEq,Prod.mk.injEq] at hd
   obtain ⟨rfl,rfl⟩:=hd
   exact Rd.mono G _ _ hv
theorem viewFs_ok (R:RM B0 h0 I0 L I β slots objs ctr a w) : ∀ {cs cs':List D} {os:List Prop},viewFs (std P) objs cs=some (cs',os)→(∀ q∈os,q)→cs'.length=cs.length∧∀ (j:Nat) (d:D),cs[j]? = some d→∃ d',cs'[j]? = some d'∧∀ y,Rd w.heap I β objs ctr d y→Rd w.heap (I.or (Blocks β)) (fun _=>none) [] (ctr+1) d' y
 | [],cs',os,h,_=>by
  simp only [viewFs,Option.some.injEq,Prod.mk.injEq] at h
  obtain ⟨rfl,rfl⟩:=h
  exact ⟨rfl,fun j d hj=>by simp at hj⟩
 | d :: r,cs',os,h,hos=>by
  simp only [viewFs] at h
  split at h
  · rename_i d' os1 r' os2 hd hr
    simp only [Option.some.injEq,Prod.mk.injEq] at h
    obtain ⟨rfl,rfl⟩:=h
    obtain ⟨h1,h2⟩:=viewFs_ok R hr (fun q hq=>hos q (List.mem_append_right _ hq))
    refine ⟨by simp [h1],fun j x hj=>?_⟩
    cases j with
    | zero =>
     simp only [List.getElem?_cons_zero,Option.some.injEq] at hj
     subst hj
     exact ⟨d',rfl,fun y hy=>viewD1_ok R hd (fun q hq=>hos q (List.mem_append_left _ hq)) hy⟩
    | succ j=>simpa using h2 j x (by simpa using hj)
  · cases h
theorem viewD_ok (R:RM B0 h0 I0 L I β slots objs ctr a w) {d d':D} {os1:List Prop} {y0:Value} (hd:viewD (std P) objs d=some (d',os1)) (hos1 : ∀ q∈os1,q) (hv:Rd w.heap I β objs ctr d y0) :
  Rd w.heap (I.or (Blocks β)) (fun _=>none) [] (ctr+1) d' y0:=by
 by_cases hf : ∃ f k c,d = .fn f k c
 · obtain ⟨f,k,c,rfl⟩:=hf
   have G:Goes w.heap I β objs ctr w.heap (I.or (Blocks β)) (fun _=>none) [] (ctr+1):=by
    refine ⟨fun _ x=>.inl x,fun _ _=>rfl,fun _ x=>.inl x,fun id g hg=>.inl ?_,fun id g hg o' ho' _ _=>by simp at ho'⟩
    rcases hg with h | ⟨h,_⟩<;>omega
   simp only [viewD] at hd
   split at hd
   · simp only [Option.some.injEq,Prod.mk.injEq] at hd
     obtain ⟨rfl,rfl⟩:=hd
     exact Rd.mono G _ _ hv
   · split at hd
     · rename_i cs' os3 hcs
       simp only [Option.some.injEq,Prod.mk.injEq] at hd
       obtain ⟨rfl,rfl⟩:=hd
       obtain ⟨k1,k2⟩:=viewFs_ok R hcs hos1
       obtain ⟨ys,rfl,x1,x2⟩:=hv
       refine ⟨ys,rfl,x1,fun j hj=>?_⟩
       obtain ⟨z,z1,z3⟩:=x2 j hj
       obtain ⟨d',d1,d2⟩:=k2 j (c j) (by rw [cellsOf_get,if_pos hj])
       refine ⟨z,z1,?_⟩
       have e1:cs'.getD j .junk=d':=by simp [List.getD,d1]
       show Rd _ _ _ _ _ (cs'.getD j .junk) z
       rw [e1]
       exact d2 z z3
     · cases hd
 · have e:viewD (std P) objs d=viewD1 (std P) objs d:=by cases d<;>first | rfl | exact absurd ⟨_,_,_,rfl⟩ hf
   rw [e] at hd
   exact viewD1_ok R hd hos1 hv
theorem view_ok (R:RM B0 h0 I0 L I β slots objs ctr a w) : ∀ {args va:List D} {vos:List Prop} {vs:List Value},viewL (std P) objs args=some (va,vos)→(∀ q∈vos,q)→vs.length=args.length →
  (∀ (t:Nat) (d:D),args[t]? = some d→∃ y,vs[t]? = some y∧Rd w.heap I β objs ctr d y) →
  va.length=args.length∧∀ (t:Nat) (d:D),va[t]? = some d→∃ y,vs[t]? = some y∧Rd w.heap (I.or (Blocks β)) (fun _=>none) [] (ctr+1) d y
 | [],va,vos,vs,h,_,_,_=>by
  simp only [viewL,Option.some.injEq,Prod.mk.injEq] at h
  obtain ⟨rfl,rfl⟩:=h
  exact ⟨rfl,fun t d ht=>by simp at ht⟩
 | d :: r,va,vos,vs,h,hos,hl,hargs=>by
  simp only [viewL] at h
  split at h
  · rename_i d' os1 r' os2 hd hr
    simp only [Option.some.injEq,Prod.mk.injEq] at h
    obtain ⟨rfl,rfl⟩:=h
    cases vs with
    | nil=>simp at hl
    | cons y0 vs =>
     obtain ⟨h1,h2⟩:=view_ok R (vs:=vs) hr (fun q hq=>hos q (List.mem_append_right _ hq)) (by simpa using hl) (fun t d ht=>by simpa using hargs (t+1) d (by simpa using ht))
     refine ⟨by simp [h1],fun t x ht=>?_⟩
     cases t with
     | succ t=>simpa using h2 t x (by simpa using ht)
     | zero =>
      simp only [List.getElem?_cons_zero,Option.some.injEq] at ht
      subst ht
      obtain ⟨y,hy,hv⟩:=hargs 0 d (by simp)
      simp only [List.getElem?_cons_zero,Option.some.injEq] at hy
      subst hy
      refine ⟨y0,rfl,?_⟩
      have hos1 : ∀ q∈os1,q:=fun q hq=>hos q (List.mem_append_left _ hq)
      exact viewD_ok R hd hos1 hv
  · cases h
end
section
variable {P:Program} {h:Array Obj} {I:IS} {β:Nat→Option (Nat × Nat × Array Value)} {objs:List (Option Ob)} {ctr:Nat}
theorem out0_ok : ∀ (d d':D) (y:Value),out0 (std P) d d'→Rd h I β objs ctr d y→Rd h I (fun _=>none) [] 0 d' y:=by
 intro d
 induction d with
 | v x =>
  intro d' y ho hr
  cases hr
  cases d' with
  | junk=>trivial
  | v x' =>
   cases x<;>cases x'<;>simp only [out0] at ho<;>first | exact ho.elim | skip
   case int.int k x k' x' =>
    split at ho
    · rename_i hk;subst hk;cases ho;rfl
    · exact ho.elim
   case nilIface.nilIface=>rfl
   all_goals (cases ho;rfl)
  | _=>cases x<;>simp [out0] at ho
 | nilsl =>
  intro d' y ho hr
  cases hr
  cases d' with
  | junk=>trivial
  | nilsl=>rfl
  | sl sz n t f =>
   have ho:n=0:=ho
   subst ho
   exact ⟨none,0,0,rfl,rfl,Nat.le_refl _,fun _=>rfl,fun h=>by omega⟩
  | _=>simp [out0] at ho
 | sl sz n t f ih =>
  intro d' y ho hr
  cases d' with
  | junk=>trivial
  | sl sz' n' t' f' =>
   simp only [out0] at ho
   split at ho
   · rename_i hk
     have hk:=Nat.eq_of_beq_eq_true hk;subst hk
     obtain ⟨h1,h2,h3⟩:=ho
     have h1:n=n':=h1
     subst h1
     obtain ⟨ad,len,cap,rfl,x1,x2,x3,x4⟩:=hr
     refine ⟨ad,len,cap,rfl,x1,x2,fun ht=>x3 (h2 ht),fun hp=>?_⟩
     obtain ⟨b,o,c,e,fr,e1,e2,e3,e4⟩:=x4 hp
     refine ⟨b,o,c,e,fr,e1,e2,e3,fun i hi j hj=>?_⟩
     obtain ⟨z,z1,z2,z3⟩:=e4 i hi j hj
     exact ⟨z,z1,z2,ih _ _ _ _ (h3 i (by omega) (by omega) j hj) z3⟩
   · exact ho.elim
  | _=>simp [out0] at ho
 | agg k c ih =>
  intro d' y ho hr
  cases d' with
  | junk=>trivial
  | agg k' c' =>
   simp only [out0] at ho
   split at ho
   · rename_i hk
     have hk:=Nat.eq_of_beq_eq_true hk;subst hk
     obtain ⟨ys,rfl,x1,x2⟩:=hr
     refine ⟨ys,rfl,x1,fun j hj=>?_⟩
     obtain ⟨z,z1,z2,z3⟩:=x2 j hj
     exact ⟨z,z1,z2,ih _ _ _ (ho 0 (by omega) (by omega) j hj) z3⟩
   · exact ho.elim
  | _=>simp [out0] at ho
 | tup k c ih =>
  intro d' y ho hr
  cases d' with
  | junk=>trivial
  | tup k' c' =>
   simp only [out0] at ho
   split at ho
   · rename_i hk
     have hk:=Nat.eq_of_beq_eq_true hk;subst hk
     obtain ⟨ys,rfl,x1,x2⟩:=hr
     refine ⟨ys,rfl,x1,fun j hj=>?_⟩
     obtain ⟨z,z1,z3⟩:=x2 j hj
     exact ⟨z,z1,ih _ _ _ (ho 0 (by omega) (by omega) j hj) z3⟩
   · exact ho.elim
  | _=>simp [out0] at ho
 | imm sz n f i j ih =>
  intro d' y ho hr
  cases d' with
  | junk=>trivial
  | imm sz' n' f' i' j' =>
   simp only [out0] at ho
   split at ho
   · rename_i hk
     have hk:=Bool.and_eq_true_iff.1 hk
     have h1:=Nat.eq_of_beq_eq_true hk.1;have h2:=Nat.eq_of_beq_eq_true hk.2
     subst h1 h2
     obtain ⟨h1,h2,h3⟩:=ho
     have h1:n=n':=h1
     have h2:i=i':=h2
     subst h1 h2
     obtain ⟨x1,x2,b,o,c,e,fr,x3,x4,x5,x6⟩:=hr
     refine ⟨x1,x2,b,o,c,e,fr,x3,x4,x5,fun q hq k hk=>?_⟩
     obtain ⟨z,z1,z2,z3⟩:=x6 q hq k hk
     exact ⟨z,z1,z2,ih _ _ _ _ (h3 q (by omega) hq k hk) z3⟩
   · exact ho.elim
  | _=>simp [out0] at ho
 | fn f k c ih =>
  intro d' y ho hr
  cases d' with
  | junk=>trivial
  | fn f' k' c' =>
   cases f<;>cases f'<;>simp only [out0] at ho<;>first | exact ho.elim | skip
   obtain ⟨h1,h2,ho⟩:=ho
   cases h1;cases h2
   obtain ⟨ys,rfl,x1,x2⟩:=hr
   refine ⟨ys,rfl,x1,fun j hj=>?_⟩
   obtain ⟨z,z1,z3⟩:=x2 j hj
   exact ⟨z,z1,ih _ _ _ (ho 0 (by omega) (by omega) j hj) z3⟩
  | _=>cases f<;>simp [out0] at ho
 | _ =>
  intro d' y ho hr
  cases d' with
  | junk=>trivial
  | _=>simp [out0] at ho
theorem Goes.ice (h:Array Obj) (I I':IS) (hI:I.le I'):Goes h I (fun _=>none) [] 0 h I' (fun _=>none) [] 0 :=
 ⟨hI.1,fun _ _=>rfl,hI.2,fun _ _ x=>x,fun _ _ _ o' ho' _ _=>⟨o',ho',Ob.like_refl _,rfl⟩⟩
end
section
variable {P:Program} {tt:TT} {B0:Nat} {h0:Array Obj} {I0 I:IS} {L:Lend} {β:Nat→Option (Nat × Nat × Array Value)} {slots:List D} {objs:List (Option Ob)} {ctr:Nat} {a:Act} {w:World}
theorem memN_iff {y:Nat} : ∀ {l:List Nat},memN l y=true ↔ y∈l
 | []=>by simp [memN]
 | x :: r=>by
  simp only [memN,List.mem_cons]
  split
  · rename_i h;simp [Nat.eq_of_beq_eq_true h]
  · rename_i h
    have : ¬ y=x:=fun e=>h (by rw [e];exact Nat.beq_refl _)
    simp [this,memN_iff]
theorem idxN_get {y:Nat} : ∀ {l:List Nat},y∈l→l[idxN l y]? = some y
 | [],h=>by simp at h
 | x :: r,h=>by
  simp only [idxN]
  split
  · rename_i hx;simp [Nat.eq_of_beq_eq_true hx]
  · rename_i hx
    have : ¬ y=x:=fun e=>hx (by rw [e];exact Nat.beq_refl _)
    simp only [List.getElem?_cons_succ]
    exact idxN_get ((List.mem_cons.1 h).resolve_left this)
def refId:D→Option Nat
 | .bref id _ _=>some id
 | .aref id _ _ _ _=>some id
 | .vec id _ _ _ _=>some id
 | _=>none
theorem addN_spec {l:List Nat} {id:Nat} (h:l.Nodup):(addN l id).Nodup∧(∀ x∈l,x∈addN l id)∧id∈addN l id:=by
 unfold addN
 split
 · rename_i hm;exact ⟨h,fun x hx=>hx,memN_iff.1 hm⟩
 · rename_i hm
   refine ⟨?_,fun x hx=>List.mem_append_left _ hx,List.mem_append_right _ (by simp)⟩
   rw [List.nodup_append]
   refine ⟨h,by simp,fun a ha b hb=>?_⟩
   simp only [List.mem_singleton] at hb
   subst hb
   intro e;subst e
   exact hm (memN_iff.2 ha)
theorem refIds1_spec (d:D) (l:List Nat) (h:l.Nodup):(refIds1 d l).Nodup∧(∀ x∈l,x∈refIds1 d l)∧∀ id,refId d=some id→id∈refIds1 d l:=by
 cases d
 case bref id g j=>obtain ⟨h1,h2,h3⟩:=addN_spec (id:=id) h;exact ⟨h1,h2,fun x hx=>by cases hx;exact h3⟩
 case aref id g sz i j=>obtain ⟨h1,h2,h3⟩:=addN_spec (id:=id) h;exact ⟨h1,h2,fun x hx=>by cases hx;exact h3⟩
 case vec id g sz o n=>obtain ⟨h1,h2,h3⟩:=addN_spec (id:=id) h;exact ⟨h1,h2,fun x hx=>by cases hx;exact h3⟩
 all_goals exact ⟨h,fun x hx=>hx,fun id hx=>by cases hx⟩
theorem refCells_spec : ∀ (cs:List D) (l:List Nat),l.Nodup→(refCells cs l).Nodup∧(∀ x∈l,x∈refCells cs l)∧∀ (j:Nat) (d:D) (id:Nat),cs[j]? = some d→refId d=some id→id∈refCells cs l
 | [],l,h=>⟨h,fun x hx=>hx,fun j d id hj=>by simp at hj⟩
 | d :: r,l,h=>by
  obtain ⟨h1,h2,h3⟩:=refIds1_spec d l h
  obtain ⟨k1,k2,k3⟩:=refCells_spec r _ h1
  refine ⟨k1,fun x hx=>k2 x (h2 x hx),fun j x id hj hid=>?_⟩
  cases j with
  | zero=>simp only [List.getElem?_cons_zero,Option.some.injEq] at hj;subst hj;exact k2 id (h3 id hid)
  | succ j=>exact k3 j x id (by simpa using hj) hid
theorem refIdsD_spec (d:D) (l:List Nat) (h:l.Nodup):(refIdsD d l).Nodup∧(∀ x∈l,x∈refIdsD d l)∧(∀ id,refId d=some id→id∈refIdsD d l)∧∀ (k:Nat) (c:Nat→D) (j id:Nat),d = .agg k c→j < k→refId (c j)=some id→id∈refIdsD d l:=by
 by_cases hd : ∃ k c,d = .agg k c
 · obtain ⟨k,c,rfl⟩:=hd
   obtain ⟨h1,h2,h3⟩:=refCells_spec (cellsOf k c) l h
   refine ⟨h1,h2,(fun id hid=>by cases hid),fun k' c' j id he hj hid=>?_⟩
   cases he
   exact h3 j _ id (by rw [cellsOf_get,if_pos hj]) hid
 · have e:refIdsD d l=refIds1 d l:=by cases d<;>first | rfl | exact absurd ⟨_,_,rfl⟩ hd
   rw [e]
   obtain ⟨h1,h2,h3⟩:=refIds1_spec d l h
   exact ⟨h1,h2,h3,fun k c j id he=>absurd ⟨k,c,he⟩ hd⟩
theorem refIds_spec : ∀ (args:List D) (l:List Nat),l.Nodup→(refIds args l).Nodup∧(∀ x∈l,x∈refIds args l)∧∀ (t:Nat) (d:D),args[t]? = some d →
  (∀ id,refId d=some id→id∈refIds args l)∧∀ (k:Nat) (c:Nat→D) (j id:Nat),d = .agg k c→j < k→refId (c j)=some id→id∈refIds args l
 | [],l,h=>⟨h,fun x hx=>hx,fun t d ht=>by simp at ht⟩
 | d :: r,l,h=>by
  obtain ⟨h1,h2,h3,h4⟩:=refIdsD_spec d l h
  obtain ⟨k1,k2,k3⟩:=refIds_spec r _ h1
  refine ⟨k1,fun x hx=>k2 x (h2 x hx),fun t x ht=>?_⟩
  cases t with
  | zero =>
   simp only [List.getElem?_cons_zero,Option.some.injEq] at ht
   subst ht
   exact ⟨fun id hid=>k2 id (h3 id hid),fun k c j id he hj hid=>k2 id (h4 k c j id he hj hid)⟩
  | succ t=>exact k3 t x (by simpa using ht)
theorem putObjs_get : ∀ (u:List (Nat × Option Ob)) (objs:List (Option Ob)),(u.map (·.1)).Nodup→(∀ x∈u,x.1 < objs.length) →
  (putObjs objs u).length=objs.length∧(∀ id,id ∉ u.map (·.1)→(putObjs objs u)[id]? = objs[id]?)∧∀ x∈u,(putObjs objs u)[x.1]? = some x.2
 | [],objs,_,_=>⟨rfl,fun _ _=>rfl,fun x hx=>by simp at hx⟩
 | (k,o) :: r,objs,hn,hl=>by
  simp only [List.map_cons,List.nodup_cons] at hn
  obtain ⟨h1,h2,h3⟩:=putObjs_get r (objs.set k o) hn.2 (fun x hx=>by simpa using hl x (List.mem_cons_of_mem _ hx))
  refine ⟨by simpa [putObjs] using h1,fun id hid=>?_,fun x hx=>?_⟩
  · simp only [List.map_cons,List.mem_cons,not_or] at hid
    simp only [putObjs]
    rw [h2 id hid.2,List.getElem?_set_ne (Ne.symm hid.1)]
  · simp only [putObjs]
    rcases List.mem_cons.1 hx with rfl | hx
    · rw [h2 k hn.1]
      exact List.getElem?_set_self (hl (k,o) (List.mem_cons_self ..))
    · exact h3 x hx
theorem owe1_get {objs:List (Option Ob)} {d:D} (h:owe1 (std P) objs d):(∃ id g o,refId d=some id∧objs[id]? = some (some o)∧g=o.gen∧((∃ j,d = .bref id g j)∨(∃ sz i j,d = .aref id g sz i j)∨∃ sz off n,d = .vec id g sz off n))∨(refId d=none∧clo (std P) d):=by
 cases d<;>simp only [owe1] at h
 case bref id g j =>
  left
  split at h
  · rename_i o ho;exact ⟨id,g,o,rfl,ho,h,.inl ⟨j,rfl⟩⟩
  · exact h.elim
 case aref id g sz i j =>
  left
  split at h
  · rename_i o ho;exact ⟨id,g,o,rfl,ho,h,.inr (.inl ⟨sz,i,j,rfl⟩)⟩
  · exact h.elim
 case vec id g sz off n =>
  left
  split at h
  · rename_i o ho;exact ⟨id,g,o,rfl,ho,h,.inr (.inr ⟨sz,off,n,rfl⟩)⟩
  · exact h.elim
 all_goals exact .inr ⟨rfl,h⟩
theorem oweL_get {objs:List (Option Ob)} : ∀ {l:List D},(∀ q∈oweL (std P) objs l,q)→∀ (j:Nat) (d:D),l[j]? = some d→owe1 (std P) objs d
 | [],_,j,d,hj=>by simp at hj
 | c :: r,h,j,d,hj=>by
  cases j with
  | zero=>simp only [List.getElem?_cons_zero,Option.some.injEq] at hj;subst hj;exact h _ (List.mem_cons_self ..)
  | succ j=>exact oweL_get (fun q hq=>h q (List.mem_cons_of_mem _ hq)) j d (by simpa using hj)
theorem lendOwe_get {objs:List (Option Ob)} : ∀ {args:List D},(∀ q∈lendOwe (std P) objs args,q)→∀ (t:Nat) (d:D),args[t]? = some d →
  (∃ k c,d = .agg k c∧((isNilN (refCells (cellsOf k c) [])=true∧clo (std P) d)∨(isNilN (refCells (cellsOf k c) [])=false∧∀ j,j < k→owe1 (std P) objs (c j))))∨((∀ k c,d≠.agg k c)∧owe1 (std P) objs d)
 | [],_,t,d,ht=>by simp at ht
 | c :: r,h,t,d,ht=>by
  simp only [lendOwe] at h
  cases t with
  | succ t=>exact lendOwe_get (fun q hq=>h q (List.mem_append_right _ hq)) t d (by simpa using ht)
  | zero =>
   simp only [List.getElem?_cons_zero,Option.some.injEq] at ht
   subst ht
   by_cases hc : ∃ k f,c = .agg k f
   · obtain ⟨k,f,rfl⟩:=hc
     refine .inl ⟨k,f,rfl,?_⟩
     cases hb:isNilN (refCells (cellsOf k f) []) with
     | true =>
      simp only [hb,if_true] at h
      exact .inl ⟨rfl,h _ (by simp)⟩
     | false =>
      simp only [hb,Bool.false_eq_true,if_false] at h
      refine .inr ⟨rfl,fun j hj=>oweL_get (l:=cellsOf k f) (fun q hq=>h q (List.mem_append_left _ hq)) j _ (by rw [cellsOf_get,if_pos hj])⟩
   · refine .inr ⟨fun k f e=>hc ⟨k,f,e⟩,?_⟩
     cases c<;>first | exact absurd ⟨_,_,rfl⟩ hc | exact h _ (by simp)
theorem nodupN_iff : ∀ {l:List Nat},nodupN l=true→l.Nodup
 | [],_=>List.nodup_nil
 | x :: r,h=>by
  simp only [nodupN,Bool.and_eq_true,Bool.not_eq_true'] at h
  rw [List.nodup_cons]
  exact ⟨fun hx=>by rw [memN_iff.2 hx] at h;exact absurd h.1 (by simp),nodupN_iff h.2⟩
theorem fstL_get : ∀ {l:List (Nat × Int × Ob)} {i:Nat},(fstL l)[i]? = (l[i]?).map (·.1)
 | [],i=>by simp [fstL]
 | x :: r,0=>by simp [fstL]
 | x :: r,i+1=>by simp only [fstL,List.getElem?_cons_succ];exact fstL_get
theorem sndL_get : ∀ {l:List (Nat × Int × Ob)} {i:Nat},(sndL l)[i]? = (l[i]?).map (·.2.2)
 | [],i=>by simp [sndL]
 | x :: r,0=>by simp [sndL]
 | x :: r,i+1=>by simp only [sndL,List.getElem?_cons_succ];exact sndL_get
theorem fstL_len : ∀ {l:List (Nat × Int × Ob)},(fstL l).length=l.length
 | []=>rfl
 | _ :: r=>by simp only [fstL,List.length_cons];rw [fstL_len]
theorem sndL_len : ∀ {l:List (Nat × Int × Ob)},(sndL l).length=l.length
 | []=>rfl
 | _ :: r=>by simp only [sndL,List.length_cons];rw [sndL_len]
def InnR (objs:List (Option Ob)) (ctr:Nat) (d:D) (x:Nat × Int × Ob):Prop :=
 ∃ g sz n N t f,d = .vec x.1 g sz x.2.1 n∧objs[x.1]? = some (some (.arr g sz N t f))∧x.2.2 = .arr 0 sz n false (fun i j=>f (x.2.1+i) j)∧g < ctr∧∀ i:Int,0≤i→i < n→∀ j,j < sz→clo (std P) (f (x.2.1+i) j)
def CellR (objs:List (Option Ob)) (ctr k:Nat) (is:List (Nat × Int × Ob)) (d d':D):Prop :=
 (d'=d∧clo (std P) d)∨∃ i x g sz n,is[i]? = some x∧InnR (P:=P) objs ctr d x∧d = .vec x.1 g sz x.2.1 n∧d' = .vec (k+i) 0 sz 0 n
theorem lendC_ne {p:Pr} {objs:List (Option Ob)} {ctr:Nat} {d:D} {r:List D} {k:Nat} (h : ∀ id g sz off n,d≠.vec id g sz off n):lendC p objs ctr (d :: r) k=match lendC p objs ctr r k with
  | some (cs,is,os)=>some (d :: cs,is,clo p d :: os)
  | none=>none:=by
 cases d<;>first | rfl | exact absurd rfl (h _ _ _ _ _)
theorem lendC_spec {objs:List (Option Ob)} {ctr:Nat} : ∀ {l:List D} {k:Nat} {cs:List D} {is:List (Nat × Int × Ob)} {os:List Prop},lendC (std P) objs ctr l k=some (cs,is,os)→(∀ q∈os,q) →
  cs.length=l.length∧(∀ (j:Nat) (d:D),l[j]? = some d→∃ d',cs[j]? = some d'∧CellR (P:=P) objs ctr k is d d')∧∀ (i:Nat) (x:Nat × Int × Ob),is[i]? = some x→∃ (j:Nat) (d:D),l[j]? = some d∧InnR (P:=P) objs ctr d x
 | [],k,cs,is,os,h,_=>by
  simp only [lendC,Option.some.injEq,Prod.mk.injEq] at h
  obtain ⟨rfl,rfl,rfl⟩:=h
  exact ⟨rfl,fun j d hj=>by simp at hj,fun i x hi=>by simp at hi⟩
 | d :: r,k,cs,is,os,h,hos=>by
  by_cases hv : ∃ id g sz off n,d = .vec id g sz off n
  · obtain ⟨id,g,sz,off,n,rfl⟩:=hv
    simp only [lendC] at h
    split at h
    · rename_i g' sz' N t f ho
      have hf:f=fun i j=>f (0+i) j:=by funext i j;rw [Int.zero_add]
      split at h
      · rename_i hsz
        have hsz:=Nat.eq_of_beq_eq_true hsz;subst hsz
        split at h
        · rename_i cs1 is1 os1 hr
          simp only [Option.some.injEq,Prod.mk.injEq] at h
          obtain ⟨rfl,rfl,rfl⟩:=h
          have e1:g=g':=hos _ (List.mem_cons_self ..)
          subst e1
          have e2:g < ctr:=hos _ (List.mem_cons_of_mem _ (List.mem_cons_self ..))
          have e3:=hos _ (List.mem_cons_of_mem _ (List.mem_cons_of_mem _ (List.mem_cons_self ..)))
          obtain ⟨h1,h2,h3⟩:=lendC_spec hr (fun q hq=>hos q (List.mem_cons_of_mem _ (List.mem_cons_of_mem _ (List.mem_cons_of_mem _ hq))))
          have hI:InnR (P:=P) objs ctr (.vec id g sz (.ofNat 0) n) (id,0,.arr 0 sz n false f):=⟨g,sz,n,N,t,f,rfl,ho,congrArg _ hf,e2,fun i i0 i1 j hj=>by show clo (std P) (f (0+i) j);rw [Int.zero_add];exact e3 i i0 i1 j hj⟩
          refine ⟨by simp [h1],fun j d hj=>?_,fun i x hi=>?_⟩
          · cases j with
            | zero =>
             simp only [List.getElem?_cons_zero,Option.some.injEq] at hj
             subst hj
             exact ⟨_,rfl,.inr ⟨0,_,g,sz,n,rfl,hI,rfl,rfl⟩⟩
            | succ j =>
             obtain ⟨d',d1,d2⟩:=h2 j d (by simpa using hj)
             refine ⟨d',by simpa using d1,?_⟩
             rcases d2 with d2 | ⟨i,x,g1,sz1,n1,i1,i2,i3,i4⟩
             · exact .inl d2
             · exact .inr ⟨i+1,x,g1,sz1,n1,by simpa using i1,i2,i3,by rw [i4];congr 1;omega⟩
          · cases i with
            | zero =>
             simp only [List.getElem?_cons_zero,Option.some.injEq] at hi
             subst hi
             exact ⟨0,_,rfl,hI⟩
            | succ i =>
             obtain ⟨j,d,j1,j2⟩:=h3 i x (by simpa using hi)
             exact ⟨j+1,d,by simpa using j1,j2⟩
        · cases h
      · cases h
    · cases h
  · rw [lendC_ne (fun id g sz off n e=>hv ⟨id,g,sz,off,n,e⟩)] at h
    split at h
    · rename_i cs1 is1 os1 hr
      simp only [Option.some.injEq,Prod.mk.injEq] at h
      obtain ⟨rfl,rfl,rfl⟩:=h
      have e1:clo (std P) d:=hos _ (List.mem_cons_self ..)
      obtain ⟨h1,h2,h3⟩:=lendC_spec hr (fun q hq=>hos q (List.mem_cons_of_mem _ hq))
      refine ⟨by simp [h1],fun j d0 hj=>?_,fun i x hi=>?_⟩
      · cases j with
        | zero =>
         simp only [List.getElem?_cons_zero,Option.some.injEq] at hj
         subst hj
         exact ⟨_,rfl,.inl ⟨rfl,e1⟩⟩
        | succ j=>simpa using h2 j d0 (by simpa using hj)
      · obtain ⟨j,d0,j1,j2⟩:=h3 i x hi
        exact ⟨j+1,d0,by simpa using j1,j2⟩
    · cases h
theorem lendT_spec {objs:List (Option Ob)} {ctr:Nat} {win:Nat→Nat} : ∀ {ids:List Nat} {posts:List Ob} {k:Nat} {ts:List Ob} {is:List (Nat × Int × Ob)} {os:List Prop},lendT (std P) objs ctr win ids posts k=some (ts,is,os)→(∀ q∈os,q) →
  ts.length=ids.length∧(∀ (t id:Nat),ids[t]? = some id →
   (∃ g cs g' cs' c1,objs[id]? = some (some (.box g cs))∧posts[t]? = some (.box g' cs')∧ts[t]? = some (.box 0 c1)∧win id+cs'.length≤cs.length∧c1.length=cs'.length ∧
    ∀ j,j < cs'.length→∃ d d',cs[win id+j]? = some d∧c1[j]? = some d'∧CellR (P:=P) objs ctr k is d d') ∨
   (∃ g sz n tt f,objs[id]? = some (some (.arr g sz n tt f))∧ts[t]? = some (.arr 0 sz n tt f)∧∀ i:Int,0≤i→i < n→∀ j,j < sz→clo (std P) (f i j))) ∧
  ∀ (i:Nat) (x:Nat × Int × Ob),is[i]? = some x→∃ (id g:Nat) (cs:List D) (j:Nat) (d:D),objs[id]? = some (some (.box g cs))∧cs[j]? = some d∧InnR (P:=P) objs ctr d x
 | [],posts,k,ts,is,os,h,_=>by
  simp only [lendT,Option.some.injEq,Prod.mk.injEq] at h
  obtain ⟨rfl,rfl,rfl⟩:=h
  exact ⟨rfl,fun t id ht=>by simp at ht,fun i x hi=>by simp at hi⟩
 | id :: r,[],k,ts,is,os,h,_=>by simp [lendT] at h
 | id :: r,.iter _ _ _ :: _,k,ts,is,os,h,_=>by simp [lendT] at h
 | id :: r,.box g' cs' :: qs,k,ts,is,os,h,hos=>by
  simp only [lendT] at h
  split at h
  · rename_i g cs ho
    split at h
    · rename_i hle
      have hle:=Nat.le_of_ble_eq_true hle
      split at h
      · rename_i c1 i1 o1 hc
        split at h
        · rename_i ts1 is1 os1 hr
          simp only [Option.some.injEq,Prod.mk.injEq] at h
          obtain ⟨rfl,rfl,rfl⟩:=h
          obtain ⟨a1,a2,a3⟩:=lendC_spec hc (fun q hq=>hos q (List.mem_append_left _ hq))
          obtain ⟨b1,b2,b3⟩:=lendT_spec hr (fun q hq=>hos q (List.mem_append_right _ hq))
          have hwin : ∀ j,j < cs'.length→((cs.drop (win id)).take cs'.length)[j]? = cs[win id+j]?:=fun j hj=>by
           rw [List.getElem?_take_of_lt hj,List.getElem?_drop]
          have hwl:((cs.drop (win id)).take cs'.length).length=cs'.length:=by simp;omega
          refine ⟨by simp [b1],fun t id1 ht=>?_,fun i x hi=>?_⟩
          · cases t with
            | zero =>
             simp only [List.getElem?_cons_zero,Option.some.injEq] at ht
             subst ht
             refine .inl ⟨g,cs,g',cs',c1,ho,rfl,rfl,hle,a1.trans hwl,fun j hj=>?_⟩
             have hlt:win id+j < cs.length:=by omega
             obtain ⟨d',d1,d2⟩:=a2 j _ ((hwin j hj).trans (List.getElem?_eq_getElem hlt))
             refine ⟨_,d',List.getElem?_eq_getElem hlt,d1,?_⟩
             rcases d2 with d2 | ⟨i,x,g1,sz1,n1,i1',i2,i3,i4⟩
             · exact .inl d2
             · refine .inr ⟨i,x,g1,sz1,n1,?_,i2,i3,i4⟩
               rw [List.getElem?_append_left (List.getElem?_eq_some_iff.1 i1').1];exact i1'
            | succ t =>
             rcases b2 t id1 (by simpa using ht) with ⟨g2,cs2,g3,cs3,c2,e1,e2,e3,e4,e5,e6⟩ | e
             · refine .inl ⟨g2,cs2,g3,cs3,c2,e1,by simpa using e2,by simpa using e3,e4,e5,fun j hj=>?_⟩
               obtain ⟨d,d',d1,d2,d3⟩:=e6 j hj
               refine ⟨d,d',d1,d2,?_⟩
               rcases d3 with d3 | ⟨i,x,g1,sz1,n1,i1',i2,i3,i4⟩
               · exact .inl d3
               · refine .inr ⟨i1.length+i,x,g1,sz1,n1,?_,i2,i3,by rw [i4];congr 1;omega⟩
                 rw [List.getElem?_append_right (by omega)]
                 rw [show i1.length+i-i1.length=i by omega];exact i1'
             · obtain ⟨g2,sz2,n2,t2,f2,e1,e2,e3⟩:=e
               exact .inr ⟨g2,sz2,n2,t2,f2,e1,by simpa using e2,e3⟩
          · rcases Nat.lt_or_ge i i1.length with hlt | hge
            · rw [List.getElem?_append_left hlt] at hi
              obtain ⟨j,d,j1,j2⟩:=a3 i x hi
              have hjl:j < cs'.length:=by
               have:=(List.getElem?_eq_some_iff.1 j1).1
               rw [hwl] at this;exact this
              rw [hwin j hjl] at j1
              exact ⟨id,g,cs,win id+j,d,ho,j1,j2⟩
            · rw [List.getElem?_append_right hge] at hi
              exact b3 _ x hi
        · cases h
      · cases h
    · cases h
  · cases h
 | id :: r,.arr g' sz' n' t' f' :: qs,k,ts,is,os,h,hos=>by
  simp only [lendT] at h
  split at h
  · rename_i g sz n tt f ho
    split at h
    · rename_i ts1 is1 os1 hr
      simp only [Option.some.injEq,Prod.mk.injEq] at h
      obtain ⟨rfl,rfl,rfl⟩:=h
      have e0:=hos _ (List.mem_cons_self ..)
      obtain ⟨b1,b2,b3⟩:=lendT_spec hr (fun q hq=>hos q (List.mem_cons_of_mem _ hq))
      refine ⟨by simp [b1],fun t id1 ht=>?_,b3⟩
      cases t with
      | zero =>
       simp only [List.getElem?_cons_zero,Option.some.injEq] at ht
       subst ht
       exact .inr ⟨g,sz,n,tt,f,ho,rfl,e0⟩
      | succ t =>
       rcases b2 t id1 (by simpa using ht) with ⟨g2,cs2,g3,cs3,c2,e1,e2,e3,e4⟩ | ⟨g2,sz2,n2,t2,f2,e1,e2,e3⟩
       · exact .inl ⟨g2,cs2,g3,cs3,c2,e1,by simpa using e2,by simpa using e3,e4⟩
       · exact .inr ⟨g2,sz2,n2,t2,f2,e1,by simpa using e2,e3⟩
    · cases h
  · cases h
 | id :: r,.dead g' :: qs,k,ts,is,os,h,hos=>by
  simp only [lendT] at h
  split at h
  · rename_i g sz n tt f ho
    split at h
    · rename_i ts1 is1 os1 hr
      simp only [Option.some.injEq,Prod.mk.injEq] at h
      obtain ⟨rfl,rfl,rfl⟩:=h
      have e0:=hos _ (List.mem_cons_self ..)
      obtain ⟨b1,b2,b3⟩:=lendT_spec hr (fun q hq=>hos q (List.mem_cons_of_mem _ hq))
      refine ⟨by simp [b1],fun t id1 ht=>?_,b3⟩
      cases t with
      | zero =>
       simp only [List.getElem?_cons_zero,Option.some.injEq] at ht
       subst ht
       exact .inr ⟨g,sz,n,tt,f,ho,rfl,e0⟩
      | succ t =>
       rcases b2 t id1 (by simpa using ht) with ⟨g2,cs2,g3,cs3,c2,e1,e2,e3,e4⟩ | ⟨g2,sz2,n2,t2,f2,e1,e2,e3⟩
       · exact .inl ⟨g2,cs2,g3,cs3,c2,e1,by simpa using e2,by simpa using e3,e4⟩
       · exact .inr ⟨g2,sz2,n2,t2,f2,e1,by simpa using e2,e3⟩
    · cases h
  · cases h
theorem backC_ne {p:Pr} {ctr top:Nat} {all:List Nat} {d:D} {r:List D} (h : ∀ id g sz off n,d≠.vec id g sz off n):backC p ctr top all (d :: r)=match backC p ctr top all r with
  | some (cs,os)=>some (d :: cs,clo p d :: os)
  | none=>none:=by
 cases d<;>first | rfl | exact absurd rfl (h _ _ _ _ _)
def BackR (ctr top:Nat) (all:List Nat) (d e:D):Prop:=(e=d∧clo (std P) d)∨∃ k id sz o n,d = .vec k 1 sz o n∧top≤k∧all[k]? = some id∧e = .vec id ctr sz o n
theorem backC_spec {ctr top:Nat} {all:List Nat} : ∀ {l cs:List D} {os:List Prop},backC (std P) ctr top all l=some (cs,os)→(∀ q∈os,q)→cs.length=l.length∧∀ (j:Nat) (d:D),l[j]? = some d→∃ e,cs[j]? = some e∧BackR (P:=P) ctr top all d e
 | [],cs,os,h,_=>by
  simp only [backC,Option.some.injEq,Prod.mk.injEq] at h
  obtain ⟨rfl,rfl⟩:=h
  exact ⟨rfl,fun j d hj=>by simp at hj⟩
 | d :: r,cs,os,h,hos=>by
  by_cases hv : ∃ id g sz off n,d = .vec id g sz off n
  · obtain ⟨id,g,sz,off,n,rfl⟩:=hv
    simp only [backC] at h
    split at h
    · rename_i i0 cs1 os1 ha hr
      split at h
      · rename_i hk
        simp only [Bool.and_eq_true] at hk
        have hk1:=Nat.le_of_ble_eq_true hk.1
        have hk2:=Nat.eq_of_beq_eq_true hk.2
        subst hk2
        simp only [Option.some.injEq,Prod.mk.injEq] at h
        obtain ⟨rfl,rfl⟩:=h
        obtain ⟨h1,h2⟩:=backC_spec hr hos
        refine ⟨by simp [h1],fun j d hj=>?_⟩
        cases j with
        | zero =>
         simp only [List.getElem?_cons_zero,Option.some.injEq] at hj
         subst hj
         exact ⟨_,rfl,.inr ⟨id,i0,sz,off,n,rfl,hk1,ha,rfl⟩⟩
        | succ j=>simpa using h2 j d (by simpa using hj)
      · cases h
    · cases h
  · rw [backC_ne (fun id g sz off n e=>hv ⟨id,g,sz,off,n,e⟩)] at h
    split at h
    · rename_i cs1 os1 hr
      simp only [Option.some.injEq,Prod.mk.injEq] at h
      obtain ⟨rfl,rfl⟩:=h
      have e1:clo (std P) d:=hos _ (List.mem_cons_self ..)
      obtain ⟨h1,h2⟩:=backC_spec hr (fun q hq=>hos q (List.mem_cons_of_mem _ hq))
      refine ⟨by simp [h1],fun j d0 hj=>?_⟩
      cases j with
      | zero =>
       simp only [List.getElem?_cons_zero,Option.some.injEq] at hj
       subst hj
       exact ⟨_,rfl,.inl ⟨rfl,e1⟩⟩
      | succ j=>simpa using h2 j d0 (by simpa using hj)
    · cases h
theorem backT_spec {objs:List (Option Ob)} {ctr top:Nat} {all:List Nat} {win:Nat→Nat} : ∀ {ids:List Nat} {posts:List Ob} {u:List (Nat × Option Ob)} {os:List Prop},backT (std P) objs ctr top all win ids posts=some (u,os)→(∀ q∈os,q) →
  u.map (·.1)=ids∧∀ (t id:Nat),ids[t]? = some id→(∃ g cs cs' c1,objs[id]? = some (some (.box g cs))∧posts[t]? = some (.box 0 cs')∧win id+cs'.length≤cs.length∧(id,some (.box g (writeAt cs (win id) c1)))∈u∧c1.length=cs'.length ∧
    ∀ (j:Nat) (d:D),cs'[j]? = some d→∃ e,c1[j]? = some e∧BackR (P:=P) ctr top all d e) ∨
   (∃ g sz n t0 f f',objs[id]? = some (some (.arr g sz n t0 f))∧posts[t]? = some (.arr 0 sz n t0 f')∧(id,some (.arr g sz n t0 f'))∈u∧∀ i:Int,0≤i→i < n→∀ j,j < sz→clo (std P) (f' i j)) ∨
   (∃ g sz n t0 f,objs[id]? = some (some (.arr g sz n t0 f))∧posts[t]? = some (.dead 1)∧(id,some (.dead ctr))∈u)
 | [],posts,u,os,h,_=>by
  simp only [backT,Option.some.injEq,Prod.mk.injEq] at h
  obtain ⟨rfl,rfl⟩:=h
  exact ⟨rfl,fun t id ht=>by simp at ht⟩
 | id :: r,[],u,os,h,_=>by simp [backT] at h
 | id :: r,.iter _ _ _ :: _,u,os,h,_=>by simp [backT] at h
 | id :: r,.dead g' :: qs,u,os,h,hos=>by
  simp only [backT] at h
  split at h
  · rename_i g sz n t0 f ho
    split at h
    · rename_i hg
      have hg:=Nat.eq_of_beq_eq_true hg
      subst hg
      split at h
      · rename_i u1 os1 hr
        simp only [Option.some.injEq,Prod.mk.injEq] at h
        obtain ⟨rfl,rfl⟩:=h
        obtain ⟨b1,b2⟩:=backT_spec hr hos
        refine ⟨by simp [b1],fun t id1 ht=>?_⟩
        cases t with
        | zero =>
         simp only [List.getElem?_cons_zero,Option.some.injEq] at ht
         subst ht
         exact .inr (.inr ⟨g,sz,n,t0,f,ho,rfl,List.mem_cons_self ..⟩)
        | succ t =>
         rcases b2 t id1 (by simpa using ht) with ⟨g2,cs2,cs3,c2,e1,e2,e3,e4,e5⟩ | ⟨g2,sz2,n2,t2,f2,f3,e1,e2,e3,e4⟩ | ⟨g2,sz2,n2,t2,f2,e1,e2,e3⟩
         · exact .inl ⟨g2,cs2,cs3,c2,e1,by simpa using e2,e3,List.mem_cons_of_mem _ e4,e5⟩
         · exact .inr (.inl ⟨g2,sz2,n2,t2,f2,f3,e1,by simpa using e2,List.mem_cons_of_mem _ e3,e4⟩)
         · exact .inr (.inr ⟨g2,sz2,n2,t2,f2,e1,by simpa using e2,List.mem_cons_of_mem _ e3⟩)
      · cases h
    · cases h
  · cases h
 | id :: r,.box g' cs' :: qs,u,os,h,hos=>by
  simp only [backT] at h
  split at h
  · rename_i g cs ho
    split at h
    · rename_i hg
      simp only [Bool.and_eq_true] at hg
      have hle:=Nat.le_of_ble_eq_true hg.2
      have hg:=Nat.eq_of_beq_eq_true hg.1
      subst hg
      split at h
      · rename_i c1 o1 hc
        split at h
        · rename_i u1 os1 hr
          simp only [Option.some.injEq,Prod.mk.injEq] at h
          obtain ⟨rfl,rfl⟩:=h
          obtain ⟨a1,a2⟩:=backC_spec hc (fun q hq=>hos q (List.mem_append_left _ hq))
          obtain ⟨b1,b2⟩:=backT_spec hr (fun q hq=>hos q (List.mem_append_right _ hq))
          refine ⟨by simp [b1],fun t id1 ht=>?_⟩
          cases t with
          | zero =>
           simp only [List.getElem?_cons_zero,Option.some.injEq] at ht
           subst ht
           exact .inl ⟨g,cs,cs',c1,ho,rfl,hle,List.mem_cons_self ..,a1,a2⟩
          | succ t =>
           rcases b2 t id1 (by simpa using ht) with ⟨g2,cs2,cs3,c2,e1,e2,e3,e4,e5⟩ | ⟨g2,sz2,n2,t2,f2,f3,e1,e2,e3,e4⟩ | ⟨g2,sz2,n2,t2,f2,e1,e2,e3⟩
           · exact .inl ⟨g2,cs2,cs3,c2,e1,by simpa using e2,e3,List.mem_cons_of_mem _ e4,e5⟩
           · exact .inr (.inl ⟨g2,sz2,n2,t2,f2,f3,e1,by simpa using e2,List.mem_cons_of_mem _ e3,e4⟩)
           · exact .inr (.inr ⟨g2,sz2,n2,t2,f2,e1,by simpa using e2,List.mem_cons_of_mem _ e3⟩)
        · cases h
      · cases h
    · cases h
  · cases h
 | id :: r,.arr g' sz' n' t' f' :: qs,u,os,h,hos=>by
  simp only [backT] at h
  split at h
  · rename_i g sz n t0 f ho
    split at h
    · rename_i hg
      simp only [Bool.and_eq_true] at hg
      have hg1:=Nat.eq_of_beq_eq_true hg.1
      have hg2:=Nat.eq_of_beq_eq_true hg.2
      subst hg1;subst hg2
      split at h
      · rename_i u1 os1 hr
        simp only [Option.some.injEq,Prod.mk.injEq] at h
        obtain ⟨rfl,rfl⟩:=h
        have e1:n=n':=hos _ (List.mem_cons_self ..)
        have e2:t0=t':=hos _ (List.mem_cons_of_mem _ (List.mem_cons_self ..))
        subst e1;subst e2
        have e3:=hos _ (List.mem_cons_of_mem _ (List.mem_cons_of_mem _ (List.mem_cons_self ..)))
        obtain ⟨b1,b2⟩:=backT_spec hr (fun q hq=>hos q (List.mem_cons_of_mem _ (List.mem_cons_of_mem _ (List.mem_cons_of_mem _ hq))))
        refine ⟨by simp [b1],fun t id1 ht=>?_⟩
        cases t with
        | zero =>
         simp only [List.getElem?_cons_zero,Option.some.injEq] at ht
         subst ht
         exact .inr (.inl ⟨g,sz,n,t0,f,f',ho,rfl,List.mem_cons_self ..,e3⟩)
        | succ t =>
         rcases b2 t id1 (by simpa using ht) with ⟨g2,cs2,cs3,c2,e1,e2,e3,e4,e5⟩ | ⟨g2,sz2,n2,t2,f2,f3,e1,e2,e3,e4⟩ | ⟨g2,sz2,n2,t2,f2,e1,e2,e3⟩
         · exact .inl ⟨g2,cs2,cs3,c2,e1,by simpa using e2,e3,List.mem_cons_of_mem _ e4,e5⟩
         · exact .inr (.inl ⟨g2,sz2,n2,t2,f2,f3,e1,by simpa using e2,List.mem_cons_of_mem _ e3,e4⟩)
         · exact .inr (.inr ⟨g2,sz2,n2,t2,f2,e1,by simpa using e2,List.mem_cons_of_mem _ e3⟩)
      · cases h
    · cases h
  · cases h
theorem backI_spec {ctr:Nat} : ∀ {is:List (Nat × Int × Ob)} {posts:List Ob} {u:List (Nat × Option Ob)} {os:List Prop},backI (std P) ctr is posts=some (u,os)→(∀ q∈os,q) →
  u.map (·.1)=fstL is∧posts.length=is.length∧∀ (i:Nat) (x:Nat × Int × Ob),is[i]? = some x→∃ sz n' t' f',posts[i]? = some (.arr 1 sz n' t' f')∧(x.1,some (.arr ctr sz n' false f'))∈u∧(∃ g n t f,x.2.2 = .arr g sz n t f)∧∀ i:Int,0≤i→i < n'→∀ j,j < sz→clo (std P) (f' i j)
 | [],[],u,os,h,_=>by
  simp only [backI,Option.some.injEq,Prod.mk.injEq] at h
  obtain ⟨rfl,rfl⟩:=h
  exact ⟨rfl,rfl,fun i x hi=>by simp at hi⟩
 | [],_ :: _,u,os,h,_=>by simp [backI] at h
 | (id,off,.box _ _) :: r,_,u,os,h,_=>by simp [backI] at h
 | (id,off,.iter _ _ _) :: r,_,u,os,h,_=>by simp [backI] at h
 | (id,off,.dead _) :: r,_,u,os,h,_=>by simp [backI] at h
 | (id,off,.arr _ _ _ _ _) :: r,[],u,os,h,_=>by simp [backI] at h
 | (id,off,.arr _ _ _ _ _) :: r,.box _ _ :: _,u,os,h,_=>by simp [backI] at h
 | (id,off,.arr _ _ _ _ _) :: r,.iter _ _ _ :: _,u,os,h,_=>by simp [backI] at h
 | (id,off,.arr _ _ _ _ _) :: r,.dead _ :: _,u,os,h,_=>by simp [backI] at h
 | (id,off,.arr g sz n t f) :: r,.arr g' sz' n' t' f' :: qs,u,os,h,hos=>by
  simp only [backI] at h
  split at h
  · rename_i hg
    simp only [Bool.and_eq_true] at hg
    have hg1:=Nat.eq_of_beq_eq_true hg.1
    have hg2:=Nat.eq_of_beq_eq_true hg.2
    subst hg1;subst hg2
    split at h
    · rename_i u1 os1 hr
      simp only [Option.some.injEq,Prod.mk.injEq] at h
      obtain ⟨rfl,rfl⟩:=h
      have e3:=hos _ (List.mem_cons_self ..)
      obtain ⟨b1,b0,b2⟩:=backI_spec hr (fun q hq=>hos q (List.mem_cons_of_mem _ hq))
      refine ⟨by simp [b1,fstL],by simp [b0],fun i x hi=>?_⟩
      cases i with
      | zero =>
       simp only [List.getElem?_cons_zero,Option.some.injEq] at hi
       subst hi
       exact ⟨sz,n',t',f',rfl,List.mem_cons_self ..,⟨g,n,t,f,rfl⟩,e3⟩
      | succ i =>
       obtain ⟨sz1,n1,t1,f1,a1,a2,a3,a4⟩:=b2 i x (by simpa using hi)
       exact ⟨sz1,n1,t1,f1,by simpa using a1,List.mem_cons_of_mem _ a2,a3,a4⟩
    · cases h
  · cases h
theorem cloL_get : ∀ {cs:List D},(∀ q∈cloL (std P) cs,q)→∀ (j:Nat) (d:D),cs[j]? = some d→clo (std P) d
 | [],_,j,d,hj=>by simp at hj
 | c :: r,h,j,d,hj=>by
  cases j with
  | zero=>simp only [List.getElem?_cons_zero,Option.some.injEq] at hj;subst hj;exact h _ (List.mem_cons_self ..)
  | succ j=>exact cloL_get (fun q hq=>h q (List.mem_cons_of_mem _ hq)) j d (by simpa using hj)
theorem rob_over {h:Array Obj} {I I':IS} {β β':Nat→Option (Nat × Nat × Array Value)} {objs objs':List (Option Ob)} {ctr ctr' k k' g:Nat} {o:Ob} (hg:g≤ctr') (hI:I.le I')
  (hn : ∀ x,β k=some x→¬ I' x.1) (hβ:β' k'=β k) (hc : ∀ q∈cloOb (std P) o,q) (hr:Rob h I β objs ctr k o):Rob h I' β' objs' ctr' k' (setG g o):=by
 cases o with
 | box g0 cs =>
  obtain ⟨_,b,o,s,c,e,h1,h2,h3,h4,h5,h6⟩:=hr
  refine ⟨hg,b,o,s,c,e,by rw [hβ];exact h1,h2,h3,hn _ h1,h5,fun j d hj=>?_⟩
  obtain ⟨z,z1,z2,z3⟩:=h6 j d hj
  exact ⟨z,z1,z2,clo_ok hI (fun _ _=>rfl) _ _ (cloL_get hc j d hj) z3⟩
 | arr g0 sz n t f =>
  obtain ⟨_,hn0,hx⟩:=hr
  refine ⟨hg,hn0,?_⟩
  have hc:=hc _ (List.mem_singleton.2 rfl)
  rcases hx with ⟨h1,h2⟩ | ⟨b,o,s,c,e,h1,h2,h3,h4,h5,h6⟩
  · exact .inl ⟨h1,by rw [hβ];exact h2⟩
  · refine .inr ⟨b,o,s,c,e,by rw [hβ];exact h1,h2,h3,hn _ h1,h5,fun i hi j hj=>?_⟩
    obtain ⟨z,z1,z2,z3⟩:=h6 i hi j hj
    exact ⟨z,z1,z2,clo_ok hI (fun _ _=>rfl) _ _ (hc i (by omega) hi j hj) z3⟩
 | iter g0 s pos =>
  obtain ⟨_,hp,b,o,z,h1,h2,h3⟩:=hr
  exact ⟨hg,hp,b,o,z,by rw [hβ];exact h1,h2,hn _ h1⟩
 | dead g0=>exact ⟨hg,by rw [hβ];exact hr.2⟩
theorem lent_ok (R:RM B0 h0 I0 L I β slots objs ctr a w) {f:FuncId} {args:List D} {vs:List Value} {post:List Ob} {d:D} {r:LentR}
  (hl:lentD (std P) objs ctr args post=some r) (hd:isOwnD d=false) (hos : ∀ q∈r.os,q) (hlent:LentFn P f r.args r.pre post d)
  (hlen:vs.length=args.length) (hargs : ∀ (t:Nat) (d:D),args[t]? = some d→∃ y,vs[t]? = some y∧Rd w.heap I β objs ctr d y) :
  Calls P f vs.toArray w fun e w'=>∃ v,e = .returned v∧Post B0 h0 I0 L I β objs ctr w (putObjs objs r.u) w' d v:=by
 obtain ⟨_,_,hin⟩:=refIds_spec args [] List.nodup_nil
 unfold lentD at hl
 generalize hids:refIds args []=ids at *
 generalize hwin:winOf args=win at *
 split at hl
 · cases hl
 rename_i ts is os1 hT
 split at hl
 rotate_left
 · cases hl
 rename_i u1 os2 u2 os3 hB hI
 split at hl
 rotate_left
 · cases hl
 rename_i hnd
 simp only [Option.some.injEq] at hl
 subst hl
 simp only at hos hlent ⊢
 have hall:=nodupN_iff hnd
 obtain ⟨t1,t2,t3⟩:=lendT_spec hT (fun q hq=>hos q (by simp [hq]))
 obtain ⟨b1,b2⟩:=backT_spec hB (fun q hq=>hos q (by simp [hq]))
 obtain ⟨i1,i2,i3⟩:=backI_spec hI (fun q hq=>hos q (by simp [hq]))
 have ho1 : ∀ q∈lendOwe (std P) objs args,q:=fun q hq=>hos q (by simp [hq])
 generalize htop:ids.length=top at *
 have hkeys:(u1++u2).map (·.1)=ids++fstL is:=by rw [List.map_append,b1,i1]
 have hnu:((u1++u2).map (·.1)).Nodup:=hkeys ▸ hall
 have hall1 : ∀ k,k < top→(ids++fstL is)[k]? = ids[k]?:=fun k hk=>List.getElem?_append_left (by omega)
 have hall2 : ∀ i,(ids++fstL is)[top+i]? = (is[i]?).map (·.1):=fun i=>by
  rw [List.getElem?_append_right (by omega),fstL_get];congr 2;omega
 have hinj : ∀ (k k' id:Nat),(ids++fstL is)[k]? = some id→(ids++fstL is)[k']? = some id→k=k':=by
  intro k k' id h1 h2
  obtain ⟨l1,e1⟩:=List.getElem?_eq_some_iff.1 h1
  obtain ⟨l2,e2⟩:=List.getElem?_eq_some_iff.1 h2
  exact (List.getElem_inj hall).1 (e1.trans e2.symm)
 have hobj : ∀ id∈ids++fstL is,∃ o,objs[id]? = some (some o):=by
  intro id hid
  obtain ⟨k,hk⟩:=List.getElem?_of_mem hid
  rcases Nat.lt_or_ge k top with hlt | hge
  · rw [hall1 k hlt] at hk
    rcases t2 k id hk with ⟨g,cs,_,_,_,e,_⟩ | ⟨g,sz,n,tt,f,e,_⟩<;>exact ⟨_,e⟩
  · have hk2:=hall2 (k-top)
    rw [show top+(k-top)=k by omega,hk] at hk2
    cases hx:is[k-top]? with
    | none=>rw [hx] at hk2;cases hk2
    | some x =>
     rw [hx] at hk2
     simp only [Option.map_some,Option.some.injEq] at hk2
     subst hk2
     obtain ⟨_,_,_,_,_,_,_,g,sz,n,N,t,f,_,e,_⟩:=t3 _ x hx
     exact ⟨_,e⟩
 obtain ⟨p1,p2,p3⟩:=putObjs_get (u1++u2) objs hnu (fun x hx=>by
  have:x.1∈(u1++u2).map (·.1):=List.mem_map.2 ⟨x,hx,rfl⟩
  rw [hkeys] at this
  obtain ⟨o,ho⟩:=hobj _ this
  exact (List.getElem?_eq_some_iff.1 ho).1)
 have p2 : ∀ id,id ∉ ids++fstL is→(putObjs objs (u1++u2))[id]? = objs[id]?:=fun id h=>p2 id (by rw [hkeys];exact h)
 have htl : ∀ k,k < top→(ts++sndL is)[k]? = ts[k]?:=fun k hk=>List.getElem?_append_left (by omega)
 have htr : ∀ i,(ts++sndL is)[top+i]? = (is[i]?).map (·.2.2):=fun i=>by
  rw [List.getElem?_append_right (by omega),sndL_get];congr 2;omega
 have hex : ∀ k,∃ v:Option (Nat × Nat × Array Value),
   (∀ id,ids[k]? = some id→(∀ g cs,objs[id]? = some (some (.box g cs))→∃ b o s c e,β id=some (b,o,s)∧w.heap[b]? = some (.cells c e (0,0))∧v=some (b,o+win id,c)) ∧
    (∀ g sz n t f,objs[id]? = some (some (.arr g sz n t f))→v=β id)) ∧
   (∀ i x,k=top+i→is[i]? = some x→∀ sz n tt f,x.2.2 = .arr 0 sz n tt f→(β x.1=none→v=none)∧∀ b o s,β x.1=some (b,o,s)→v=some (b,o+x.2.1.toNat*sz,s)) ∧
   (∀ y,v=some y→∃ id x',(ids++fstL is)[k]? = some id∧β id=some x'∧x'.1=y.1):=by
  intro k
  rcases Nat.lt_or_ge k top with hlt | hge
  · have hk:ids[k]? = some (ids[k]'(by omega)):=List.getElem?_eq_getElem (by omega)
    have hka:=(hall1 k hlt).trans hk
    generalize ids[k]'(by omega)=id at hk hka
    rcases t2 k id hk with ⟨g,cs,_,_,_,e,_⟩ | ⟨g,sz,n,tt,f,e,_⟩
    · obtain ⟨_,b,o,s,c,e',x1,x2,_⟩:=R.ob id _ e
      refine ⟨some (b,o+win id,c),fun id' h=>?_,(fun i x hki=>by omega),fun y hy=>⟨id,_,hka,x1,(by cases hy;rfl)⟩⟩
      rw [hk] at h;cases h
      exact ⟨fun _ _ _=>⟨b,o,s,c,e',x1,x2,rfl⟩,(fun _ _ _ _ _ h=>by rw [e] at h;cases h)⟩
    · refine ⟨β id,fun id' h=>?_,(fun i x hki=>by omega),fun y hy=>⟨id,_,hka,hy,rfl⟩⟩
      rw [hk] at h;cases h
      exact ⟨(fun _ _ h=>by rw [e] at h;cases h),fun _ _ _ _ _ _=>rfl⟩
  · have hkn:ids[k]? = none:=List.getElem?_eq_none (by omega)
    cases hx:is[k-top]? with
    | none =>
     refine ⟨none,(fun id h=>by rw [hkn] at h;cases h),(fun i x hki h=>?_),(fun y hy=>by cases hy)⟩
     rw [show k-top=i by omega,h] at hx;cases hx
    | some x =>
     obtain ⟨_,_,_,_,_,_,_,g,sz,n,N,t,f0,_,e,e2,_⟩:=t3 _ x hx
     have hka:(ids++fstL is)[k]? = some x.1:=by
      have:=hall2 (k-top)
      rw [show top+(k-top)=k by omega,hx] at this;exact this
     cases hb:β x.1 with
     | none =>
      refine ⟨none,(fun id h=>by rw [hkn] at h;cases h),(fun i x' hki h sz' n' tt' f' hx'=>?_),(fun y hy=>by cases hy)⟩
      rw [show k-top=i by omega,h] at hx;cases hx
      exact ⟨fun _=>rfl,(fun b o s h=>by rw [hb] at h;cases h)⟩
     | some z =>
      obtain ⟨b,o,s⟩:=z
      refine ⟨some (b,o+x.2.1.toNat*sz,s),(fun id h=>by rw [hkn] at h;cases h),(fun i x' hki h sz' n' tt' f' hx'=>?_),fun y hy=>⟨x.1,_,hka,hb,(by cases hy;rfl)⟩⟩
      rw [show k-top=i by omega,h] at hx;cases hx
      rw [e2] at hx';cases hx'
      exact ⟨(fun h=>by rw [hb] at h;cases h),fun b' o' s' h=>by rw [hb] at h;cases h;rfl⟩
 obtain ⟨β0,hβ0⟩:=Classical.skolem.1 hex
 clear hex
 have hβin : ∀ (i:Nat) (x:Nat × Int × Ob),is[i]? = some x→∀ sz n tt f,x.2.2 = .arr 0 sz n tt f→(β x.1=none→β0 (top+i)=none)∧∀ b o s,β x.1=some (b,o,s)→β0 (top+i)=some (b,o+x.2.1.toNat*sz,s) :=
  fun i x hx=>(hβ0 (top+i)).2.1 i x rfl hx
 have hdist0 : ∀ k k' x x',k≠k'→β0 k=some x→β0 k'=some x'→x.1≠x'.1:=by
  intro k k' x x' hne hk hk'
  obtain ⟨id,z,a1,a2,a3⟩:=(hβ0 k).2.2 x hk
  obtain ⟨id',z',c1,c2,c3⟩:=(hβ0 k').2.2 x' hk'
  rw [← a3,← c3]
  exact R.dist id id' z z' (fun e=>hne (hinj k k' id a1 (e ▸ c1))) a2 c2
 have hinner : ∀ (i:Nat) (x:Nat × Int × Ob),is[i]? = some x→Rob w.heap I β0 ((ts++sndL is).map some) (ctr+1) (top+i) x.2.2:=by
  intro i x hx
  obtain ⟨id,gb,csb,j,dd,hb1,hb2,g,sz,n,N,t,f0,rfl,e1,e2,e3,e4⟩:=t3 i x hx
  obtain ⟨_,bb,ob,sb,cb,eb,y1,y2,y3,y4,y5,y6⟩:=R.ob id _ hb1
  obtain ⟨z,z1,z2,z3⟩:=y6 j _ hb2
  obtain ⟨_,_,hvx⟩:=z3
  obtain ⟨o1,o2,o3,ad,len,cap,rfl,v1,v2,v3,v4⟩:=hvx _ _ _ e1
  obtain ⟨_,n0,hrob⟩:=R.ob x.1 _ e1
  obtain ⟨w1,w2⟩:=hβin i x hx _ _ _ _ e2
  rw [e2]
  refine ⟨by omega,o2,?_⟩
  rcases hrob with ⟨q1,q2⟩ | ⟨b,o,s,c,e,q1,q2,q3,q4,q5,q6⟩
  · exact .inl ⟨by omega,w1 q2⟩
  · have hmul:x.2.1.toNat*sz+n.toNat*sz≤N.toNat*sz:=by
     rw [← Nat.add_mul];exact Nat.mul_le_mul_right _ (by omega)
    refine .inr ⟨b,_,s,c,e,w2 _ _ _ q1,q2,q3,q4,by omega,fun k hk jj hjj=>?_⟩
    obtain ⟨z',a1,a2,a3⟩:=q6 (x.2.1.toNat+k) (by omega) jj hjj
    refine ⟨z',?_,a2,?_⟩
    · rw [← a1];congr 1;rw [Nat.add_mul];omega
    · have e5:((x.2.1.toNat+k:Nat):Int)=x.2.1+(k:Int):=by omega
      rw [e5] at a3
      exact clo_ok (IS.le.refl _) (fun _ _=>rfl) _ _ (e4 k (by omega) hk jj hjj) a3
 have hcell : ∀ (dd dd':D) (z:Value),CellR (P:=P) objs ctr top is dd dd'→Rd w.heap I β objs ctr dd z→Rd w.heap I β0 ((ts++sndL is).map some) (ctr+1) dd' z:=by
  intro dd dd' z hc hz
  rcases hc with ⟨rfl,hc⟩ | ⟨i,x,g0,sz0,n0',hx,⟨g,sz,n,N,t,f0,hdx,e1,e2,e3,e4⟩,hd1,rfl⟩
  · exact clo_ok (IS.le.refl _) (fun _ _=>rfl) _ _ hc hz
  · rw [hd1] at hdx;cases hdx
    subst hd1
    obtain ⟨_,⟨a0,l0,c0,s1,s2,s3,s4⟩,hvx⟩:=hz
    obtain ⟨o1,o2,o3,ad,len,cap,rfl,v1,v2,v3,v4⟩:=hvx _ _ _ e1
    cases s1
    refine ⟨.inl (by omega),⟨_,_,_,rfl,s2,s3,s4⟩,fun N' t' f' ho=>?_⟩
    rw [List.getElem?_map,htr,hx] at ho
    simp only [Option.map_some,Option.some.injEq,e2] at ho
    cases ho
    refine ⟨Int.le_refl _,o2,by omega,_,_,_,rfl,v1,v2,(fun h=>by cases h),fun hp=>?_⟩
    obtain ⟨b,o,s,hb,h1,h2⟩:=v4 hp
    refine ⟨b,_,s,(hβin i x hx _ _ _ _ e2).2 _ _ _ hb,?_,?_⟩
    · rw [h1];simp
    · simp;omega
 have hpre : ∀ (k:Nat) (o:Ob),(ts++sndL is)[k]? = some o→o.gen=0∧Rob w.heap I β0 ((ts++sndL is).map some) (ctr+1) k o:=by
  intro k o hk
  rcases Nat.lt_or_ge k top with hlt | hge
  · rw [htl k hlt] at hk
    have hid:ids[k]? = some (ids[k]'(by omega)):=List.getElem?_eq_getElem (by omega)
    generalize ids[k]'(by omega)=id at hid
    rcases t2 k id hid with ⟨g,cs,g',cs',c1,e1,e2,e3,e4,e5,e6⟩ | ⟨g,sz,n,tt,f0,e1,e2,e3⟩
    · rw [hk] at e3;cases e3
      obtain ⟨_,b,o,s,c,e,y1,y2,y3,y4,y5,y6⟩:=R.ob id _ e1
      obtain ⟨b',o',s',c',e',w1,w2,w3⟩:=((hβ0 k).1 id hid).1 _ _ e1
      rw [y1] at w1;cases w1
      rw [y2] at w2;cases w2
      refine ⟨rfl,Nat.zero_le _,b,_,c,c,e,w3,y2,Beside.refl _ _ _,y4,by have:=y3.1;omega,fun j d' hj=>?_⟩
      have hjl:j < cs'.length:=by rw [← e5];exact (List.getElem?_eq_some_iff.1 hj).1
      obtain ⟨dd,dd',d1,d2,d3⟩:=e6 j hjl
      rw [hj] at d2;cases d2
      obtain ⟨z,z1,z2,z3⟩:=y6 _ _ d1
      exact ⟨z,by rw [Nat.add_assoc];exact z1,z2,hcell _ _ _ d3 z3⟩
    · rw [hk] at e2;cases e2
      exact ⟨rfl,rob_over (g:=0) (o:=.arr g sz n tt f0) (by omega) (IS.le.refl _) (fun x hx=>R.notI hx) (((hβ0 k).1 id hid).2 _ _ _ _ _ e1) (fun q hq=>by
       simp only [cloOb,List.mem_singleton] at hq;subst hq;exact e3) (R.ob id _ e1)⟩
  · have hk2:=htr (k-top)
    rw [show top+(k-top)=k by omega,hk] at hk2
    cases hx:is[k-top]? with
    | none=>rw [hx] at hk2;cases hk2
    | some x =>
     rw [hx] at hk2
     simp only [Option.map_some,Option.some.injEq] at hk2
     subst hk2
     have:=hinner _ x hx
     rw [show top+(k-top)=k by omega] at this
     refine ⟨?_,this⟩
     obtain ⟨_,_,_,_,_,_,_,g,sz,n,N,t,f0,_,_,e2,_⟩:=t3 _ x hx
     rw [e2];rfl
 have hren : ∀ (dd:D) (y:Value),owe1 (std P) objs dd→(∀ id,refId dd=some id→id∈ids)→Rd w.heap I β objs ctr dd y→Rd w.heap I β0 ((ts++sndL is).map some) (ctr+1) (ren1 ids win dd) y:=by
  intro dd y ho hmem hv
  rcases owe1_get ho with ⟨id,g,o,hid,hob,hgo,hshape⟩ | ⟨hno,hclo⟩
  · have hm:=hmem id hid
    have hk:=idxN_get hm
    have hklt:idxN ids id < top:=by rw [← htop];exact (List.getElem?_eq_some_iff.1 hk).1
    have hpk : ∀ o',((ts++sndL is).map some)[idxN ids id]? = some (some o')→ts[idxN ids id]? = some o':=by
     intro o' h
     rw [List.getElem?_map,htl _ hklt] at h
     cases ht:ts[idxN ids id]? with
     | none=>rw [ht] at h;cases h
     | some q=>rw [ht] at h;simp only [Option.map_some,Option.some.injEq] at h;rw [h]
    obtain ⟨k1,k2⟩:=(hβ0 (idxN ids id)).1 id hk
    rcases hshape with ⟨j,rfl⟩ | ⟨sz,i,j,rfl⟩ | ⟨sz,off,n,rfl⟩
    · simp only [ren1]
      split
      · rename_i hle
        have hle:=Nat.le_of_ble_eq_true hle
        obtain ⟨_,hsh,hx⟩:=hv
        refine ⟨.inl (by omega),hsh,fun cs hcs=>?_⟩
        have hcs:=hpk _ hcs
        rcases t2 _ id hk with ⟨g1,cs1,g',cs',c1,e1,e2,e3,e4,e5,e6⟩ | ⟨g1,sz,n,tt,f0,e1,e2,e3⟩
        · rw [hob] at e1;cases e1
          have hgo:g=g1:=hgo
          subst hgo
          obtain ⟨b,o,s,hb,rfl⟩:=hx _ hob
          obtain ⟨b',o',s',c',e',w1,w2,w3⟩:=k1 _ _ hob
          rw [hb] at w1;cases w1
          exact ⟨b,_,_,w3,by congr 3;omega⟩
        · rw [hcs] at e2;cases e2
      · trivial
    · obtain ⟨_,hsh,hx⟩:=hv
      refine ⟨.inl (by omega),hsh,fun N t f hcs=>?_⟩
      have hcs:=hpk _ hcs
      rcases t2 _ id hk with ⟨g1,cs1,g',cs',c1,e1,e2,e3,e4,e5,e6⟩ | ⟨g1,sz1,n,tt,f0,e1,e2,e3⟩
      · rw [hcs] at e3;cases e3
      · rw [hcs] at e2;cases e2
        rw [hob] at e1;cases e1
        have hgo:g=g1:=hgo
        subst hgo
        rw [k2 _ _ _ _ _ hob]
        exact hx _ _ _ hob
    · obtain ⟨_,hsh,hx⟩:=hv
      refine ⟨.inl (by omega),hsh,fun N t f hcs=>?_⟩
      have hcs:=hpk _ hcs
      rcases t2 _ id hk with ⟨g1,cs1,g',cs',c1,e1,e2,e3,e4,e5,e6⟩ | ⟨g1,sz1,n1,tt,f0,e1,e2,e3⟩
      · rw [hcs] at e3;cases e3
      · rw [hcs] at e2;cases e2
        rw [hob] at e1;cases e1
        have hgo:g=g1:=hgo
        subst hgo
        rw [k2 _ _ _ _ _ hob]
        exact hx _ _ _ hob
  · have e:ren1 ids win dd=dd:=by cases dd<;>simp [refId] at hno<;>rfl
    rw [e]
    exact clo_ok (IS.le.refl _) (fun _ _=>rfl) _ _ hclo hv
 obtain ⟨_,hcall⟩:=hlent
 have hc:=hcall w I (ctr+1) vs β0 (by omega) (fun b hb=>(R.lt.1 b hb).1) R.glob (by simpa using hlen) ?_ hpre ?_ hdist0
 · refine hc.mono ?_
   rintro e w' ⟨v,I',c',β',rfl,h1,h2,h3,h4,hwo,h5,h6,h7,h8⟩
   have hlb : ∀ k y,β0 k=some y→∃ id x',id∈ids++fstL is∧β id=some x'∧x'.1=y.1:=fun k y hy=>by
    obtain ⟨id,x',a1,a2,a3⟩:=(hβ0 k).2.2 y hy
    exact ⟨id,x',List.mem_of_getElem? a1,a2,a3⟩
   have hkeep : ∀ id x,id ∉ ids++fstL is→β id=some x→w'.heap[x.1]? = w.heap[x.1]?∧¬ I' x.1:=by
    intro id x hid hx
    have hne : ∀ k y,β0 k=some y→y.1≠x.1:=fun k y hy=>by
     obtain ⟨id',x',a1,a2,a3⟩:=hlb k y hy
     rw [← a3]
     exact R.dist id' id x' x (fun e=>hid (e ▸ a1)) a2 hx
    refine ⟨h3 x.1 (R.lt_block hx) hne,fun hI'=>?_⟩
    rcases (h2.1 _ hI').2 with h | h | ⟨k,y,hy,he⟩
    · exact R.notI hx h
    · have:=R.lt_block hx;omega
    · exact hne k y hy he
   let gone:Nat→Prop:=fun id=>∃ k:Nat,ids[k]? = some id∧post[k]? = some (Ob.dead 1)
   have htopn : ∀ (k id:Nat),ids[k]? = some id→id ∉ fstL is:=by
    intro k id hk hid
    rw [List.nodup_append] at hall
    exact hall.2.2 id (List.mem_of_getElem? hk) id hid rfl
   have hgone : ∀ (k id:Nat) (q:Ob),ids[k]? = some id→post[k]? = some q→(∀ g,q≠Ob.dead g)→¬ gone id:=by
    rintro k id q hk hq hne ⟨k',h1,h2⟩
    have l1:k < top:=by rw [← htop];exact (List.getElem?_eq_some_iff.1 hk).1
    have l2:k' < top:=by rw [← htop];exact (List.getElem?_eq_some_iff.1 h1).1
    have:=hinj k k' id ((hall1 k l1).trans hk) ((hall1 k' l2).trans h1)
    subst this
    rw [hq] at h2;cases h2
    exact hne _ rfl
   have hexn : ∀ id,∃ v:Option (Nat × Nat × Array Value),(∀ (i:Nat) (x:Nat × Int × Ob),is[i]? = some x→x.1=id→v=β' (top+i))∧((∀ (i:Nat) (x:Nat × Int × Ob),is[i]? = some x→x.1≠id)→(¬ gone id→v=β id)∧(gone id→v=none)):=by
    intro id
    by_cases hx : ∃ (i:Nat) (x:Nat × Int × Ob),is[i]? = some x∧x.1=id
    · obtain ⟨i,x,hx,rfl⟩:=hx
      refine ⟨β' (top+i),fun i' x' hx' he=>?_,fun h=>absurd rfl (h i x hx)⟩
      have e1:=hall2 i
      have e2:=hall2 i'
      rw [hx] at e1;rw [hx'] at e2
      simp only [Option.map_some] at e1 e2
      rw [he] at e2
      have:=hinj _ _ _ e1 e2
      rw [this]
    · by_cases hg:gone id
      · exact ⟨none,fun i x h1 h2=>absurd ⟨i,x,h1,h2⟩ hx,fun _=>⟨fun h=>absurd hg h,fun _=>rfl⟩⟩
      · exact ⟨β id,fun i x h1 h2=>absurd ⟨i,x,h1,h2⟩ hx,fun _=>⟨fun _=>rfl,fun h=>absurd h hg⟩⟩
   obtain ⟨βn,hβn⟩:=Classical.skolem.1 hexn
   clear hexn
   have hβi : ∀ (i:Nat) (x:Nat × Int × Ob),is[i]? = some x→βn x.1=β' (top+i):=fun i x hx=>(hβn x.1).1 i x hx rfl
   have hβq : ∀ id,id ∉ fstL is→(¬ gone id→βn id=β id)∧(gone id→βn id=none):=fun id hid=>(hβn id).2 fun i x hx e=>hid (by
    have:=fstL_get (l:=is) (i:=i)
    rw [hx] at this
    exact e ▸ List.mem_of_getElem? this)
   have hβo : ∀ id,id ∉ fstL is→¬ gone id→βn id=β id:=fun id hid=>(hβq id hid).1
   have hout : ∀ id,id ∉ ids++fstL is→¬ gone id:=fun id hid hg=>by
    obtain ⟨k,h1,_⟩:=hg
    exact hid (List.mem_append_left _ (List.mem_of_getElem? h1))
   have hpl : ∀ (i:Nat) (q:Ob),(post.drop top)[i]? = some q→post[top+i]? = some q:=fun i q h=>by rw [List.getElem?_drop] at h;exact h
   have hmv : ∀ (i:Nat) (x:Nat × Int × Ob) (y:Nat × Nat × Array Value),is[i]? = some x→β' (top+i)=some y→(∃ k x',β0 k=some x'∧x'.1=y.1)∨w.heap.size≤y.1:=fun i x y _ hy=>(h7 _ y hy).2
   have G:Goes w.heap I β objs ctr w'.heap I' βn (putObjs objs (u1++u2)) ctr:=by
    refine ⟨h1.1,fun b hb=>?_,h1.2,fun id g hg=>?_,fun id g hg o' ho' hgo hlv=>?_⟩
    · refine h3 b (R.lt.1 b hb).1 fun k x hk he=>?_
      obtain ⟨id,x',_,a2,a3⟩:=hlb k x hk
      exact R.notI a2 (a3 ▸ he ▸ hb)
    · rcases hg with hg | ⟨hg,o,ho,hgo⟩
      · exact .inl hg
      · refine .inr ⟨hg,?_⟩
        by_cases hid:id∈ids++fstL is
        · obtain ⟨k,hk⟩:=List.getElem?_of_mem hid
          rcases Nat.lt_or_ge k top with hlt | hge
          · rw [hall1 k hlt] at hk
            rcases b2 k id hk with ⟨g1,cs,cs',c1,e1,e2,e3,e4,e5,e6⟩ | ⟨g1,sz,n,t0,f0,f0',e1,e2,e3,e4⟩ | ⟨g1,sz,n,t0,f0,e1,e2,e3⟩
            · rw [ho] at e1;cases e1
              exact ⟨_,p3 _ (List.mem_append_left _ e4),hgo⟩
            · rw [ho] at e1;cases e1
              exact ⟨_,p3 _ (List.mem_append_left _ e3),hgo⟩
            · exact ⟨_,p3 _ (List.mem_append_left _ e3),hg.symm⟩
          · have hk2:=hall2 (k-top)
            rw [show top+(k-top)=k by omega,hk] at hk2
            cases hx:is[k-top]? with
            | none=>rw [hx] at hk2;cases hk2
            | some x =>
             rw [hx] at hk2
             simp only [Option.map_some,Option.some.injEq] at hk2
             subst hk2
             obtain ⟨sz,n',t',f',_,e2,_,_⟩:=i3 _ x hx
             exact ⟨_,p3 _ (List.mem_append_right _ e2),by simp [Ob.gen];omega⟩
        · exact ⟨o,by rw [p2 id hid];exact ho,hgo⟩
    · by_cases hid:id∈ids++fstL is
      · obtain ⟨k,hk⟩:=List.getElem?_of_mem hid
        rcases Nat.lt_or_ge k top with hlt | hge
        · rw [hall1 k hlt] at hk
          have hβe:=hβo id (htopn k id hk)
          rcases b2 k id hk with ⟨g1,cs,cs',c1,e1,e2,e3,e4,e5,e6⟩ | ⟨g1,sz,n,t0,f0,f0',e1,e2,e3,e4⟩ | ⟨g1,sz,n,t0,f0,e1,e2,e3⟩
          · rw [p3 _ (List.mem_append_left _ e4)] at ho'
            cases ho'
            exact ⟨_,e1,rfl,hβe (hgone k id _ hk e2 (fun g h=>by cases h))⟩
          · rw [p3 _ (List.mem_append_left _ e3)] at ho'
            cases ho'
            exact ⟨_,e1,⟨rfl,rfl,rfl,rfl⟩,hβe (hgone k id _ hk e2 (fun g h=>by cases h))⟩
          · rw [p3 _ (List.mem_append_left _ e3)] at ho'
            cases ho'
            exact hlv.elim
        · have hk2:=hall2 (k-top)
          rw [show top+(k-top)=k by omega,hk] at hk2
          cases hx:is[k-top]? with
          | none=>rw [hx] at hk2;cases hk2
          | some x =>
           rw [hx] at hk2
           simp only [Option.map_some,Option.some.injEq] at hk2
           subst hk2
           obtain ⟨sz,n',t',f',_,e2,_,_⟩:=i3 _ x hx
           rw [p3 _ (List.mem_append_right _ e2)] at ho'
           cases ho'
           have hgc:g=ctr:=hgo.symm
           obtain ⟨_,_,_,_,_,_,_,g1,sz1,n1,N1,t1',f1,_,e1,_,e3,_⟩:=t3 _ x hx
           rcases hg with hg | ⟨_,o,ho,hgo2⟩
           · omega
           · rw [e1] at ho;cases ho
             have:g1=g:=hgo2
             omega
      · rw [p2 id hid] at ho'
        refine ⟨o',ho',Ob.like_refl _,hβo id (fun h=>hid (List.mem_append_right _ h)) (hout id hid)⟩
   have hback : ∀ (dd ee:D) (z:Value),BackR (P:=P) ctr top (ids++fstL is) dd ee→Rd w'.heap I' β' (post.map some) c' dd z→Rd w'.heap I' βn (putObjs objs (u1++u2)) ctr ee z:=by
    intro dd ee z hb hz
    rcases hb with ⟨rfl,hc⟩ | ⟨k,id,sz,o,n,rfl,hk1,hk2,rfl⟩
    · exact clo_ok (IS.le.refl _) (fun _ _=>rfl) _ _ hc hz
    · have hk3:=hall2 (k-top)
      rw [show top+(k-top)=k by omega,hk2] at hk3
      cases hx:is[k-top]? with
      | none=>rw [hx] at hk3;cases hk3
      | some x =>
       rw [hx] at hk3
       simp only [Option.map_some,Option.some.injEq] at hk3
       subst hk3
       obtain ⟨sz1,n',t',f',e1,e2,_,_⟩:=i3 _ x hx
       have e1:=hpl _ _ e1
       rw [show top+(k-top)=k by omega] at e1
       have hob:=p3 _ (List.mem_append_right u1 e2)
       have hbe:=hβi _ x hx
       rw [show top+(k-top)=k by omega] at hbe
       obtain ⟨_,hsh,hvx⟩:=hz
       refine ⟨.inr ⟨rfl,_,hob,rfl⟩,hsh,fun N t f ho=>?_⟩
       rw [hob] at ho
       cases ho
       obtain ⟨o1,o2,o3,ad,len,cap,rfl,v1,v2,v3,v4⟩:=hvx n' t' f' (by rw [List.getElem?_map,e1];rfl)
       exact ⟨o1,o2,o3,_,_,_,rfl,v1,v2,(fun h=>by cases h),by rw [hbe];exact v4⟩
   refine ⟨v,rfl,I',βn,G,fun id o' ho'=>?_,fun k x hk=>?_,fun k k' x x' hne hk hk'=>?_,fun k x hk=>?_,⟨fun b hb=>?_,fun b hb=>?_⟩,fun b hb hL=>?_,by have:=R.size;omega,hwo,?_⟩
   · by_cases hid:id∈ids++fstL is
     · obtain ⟨k,hk⟩:=List.getElem?_of_mem hid
       rcases Nat.lt_or_ge k top with hlt | hge
       · rw [hall1 k hlt] at hk
         have hβe:=hβo id (htopn k id hk)
         rcases b2 k id hk with ⟨g1,cs,cs',c1,e1,e2,e3,e4,e5,e6⟩ | ⟨g1,sz,n,t0,f0,f0',e1,e2,e3,e4⟩ | ⟨g1,sz,n,t0,f0,e1,e2,e3⟩
         rotate_right
         · rw [p3 _ (List.mem_append_left _ e3)] at ho'
           cases ho'
           exact ⟨Nat.le_refl _,(hβq id (htopn k id hk)).2 ⟨k,hk,e2⟩⟩
         all_goals replace hβe:=hβe (hgone k id _ hk e2 (fun g h=>by cases h))
         · rw [p3 _ (List.mem_append_left _ e4)] at ho'
           cases ho'
           obtain ⟨hg1,b,o,s,c,e,y1,y2,y3,y4,y5,y6⟩:=R.ob id _ e1
           obtain ⟨b',o',s',c0,e0,w1,w2,w3⟩:=((hβ0 k).1 id hk).1 _ _ e1
           rw [y1] at w1;cases w1
           rw [y2] at w2;cases w2
           obtain ⟨hr,hst⟩:=h5 k _ e2
           obtain ⟨_,b1',o1',s1',cN,eN,x1,x2,x3,x4,x5,x6⟩:=hr
           rw [hst rfl,w3] at x1;cases x1
           have hwl:win id+c1.length≤cs.length:=by omega
           refine ⟨hg1,b,o,s,cN,eN,hβe.trans y1,x2,⟨x3.1.trans y3.1,fun i hi=>?_⟩,x4,by rw [writeAt_len _ _ _ hwl];exact y5,fun j dj hj=>?_⟩
           · rw [writeAt_len _ _ _ hwl] at hi
             rw [x3.2 i (by omega),y3.2 i hi]
           · rw [writeAt_get _ _ _ _ hwl] at hj
             split at hj
             · rename_i hjin
               have hjl:j-win id < cs'.length:=by omega
               obtain ⟨ee,ee1,ee2⟩:=e6 (j-win id) _ (List.getElem?_eq_getElem hjl)
               rw [hj] at ee1;cases ee1
               obtain ⟨z,z1,z2,z3⟩:=x6 (j-win id) _ (List.getElem?_eq_getElem hjl)
               exact ⟨z,by rw [← z1];congr 1;omega,z2,hback _ _ _ ee2 z3⟩
             · rename_i hjout
               obtain ⟨z,z1,z2,z3⟩:=y6 j dj hj
               exact ⟨z,by rw [x3.2 (o+j) (by omega)];exact z1,z2,Rd.mono G _ _ z3⟩
         · rw [p3 _ (List.mem_append_left _ e3)] at ho'
           cases ho'
           obtain ⟨hr,hst⟩:=h5 k _ e2
           have hbe:=((hβ0 k).1 id hk).2 _ _ _ _ _ e1
           refine rob_over (g:=g1) (o:=.arr 0 sz n t0 f0') (k:=k) (R.ob id _ e1).1 (IS.le.refl _) (fun x hx=>?_) (hβe.trans (hbe.symm.trans (hst rfl).symm)) (fun q hq=>by
            simp only [cloOb,List.mem_singleton] at hq;subst hq;exact e4) hr
           obtain ⟨_,_,hr2⟩:=hr
           rcases hr2 with ⟨_,q2⟩ | ⟨b,o,s,c,e,q1,q2,q3,q4,_⟩
           · rw [hx] at q2;cases q2
           · rw [hx] at q1;cases q1;exact q4
       · have hk2:=hall2 (k-top)
         rw [show top+(k-top)=k by omega,hk] at hk2
         cases hx:is[k-top]? with
         | none=>rw [hx] at hk2;cases hk2
         | some x =>
          rw [hx] at hk2
          simp only [Option.map_some,Option.some.injEq] at hk2
          subst hk2
          obtain ⟨sz,n',t',f',e1,e2,_,e4⟩:=i3 _ x hx
          rw [p3 _ (List.mem_append_right _ e2)] at ho'
          cases ho'
          obtain ⟨hr,_⟩:=h5 _ _ (hpl _ _ e1)
          have hbe:=hβi _ x hx
          have:=rob_over (P:=P) (g:=ctr) (o:=.arr 1 sz n' t' f') (k:=top+(k-top)) (k':=x.1) (β':=βn) (objs':=putObjs objs (u1++u2)) (Nat.le_refl ctr) (IS.le.refl _) (fun y hy=>by
           obtain ⟨_,_,hr2⟩:=hr
           rcases hr2 with ⟨_,q2⟩ | ⟨b,o,s,c,e,q1,q2,q3,q4,_⟩
           · rw [hy] at q2;cases q2
           · rw [hy] at q1;cases q1;exact q4) hbe (fun q hq=>by
           simp only [cloOb,List.mem_singleton] at hq;subst hq;exact e4) hr
          exact this
     · rw [p2 id hid] at ho'
       refine Rob.mono G (fun b x hb hI=>hkeep id _ hid hb) (hβo id (fun h=>hid (List.mem_append_right _ h)) (hout id hid)) (R.ob id o' ho')
   · by_cases hid:k∈ids++fstL is
     · have:k∈(u1++u2).map (·.1):=by rw [hkeys];exact hid
       obtain ⟨z,z1,rfl⟩:=List.mem_map.1 this
       have hz:=p3 z z1
       rcases List.mem_append.1 z1 with hz1 | hz1
       · have:z.1∈ids:=by rw [← b1];exact List.mem_map.2 ⟨z,hz1,rfl⟩
         obtain ⟨t,ht⟩:=List.getElem?_of_mem this
         rcases b2 t z.1 ht with ⟨g1,cs,cs',c1,e1,e2,e3,e4,_⟩ | ⟨g1,sz,n,t0,f0,f0',e1,e2,e3,_⟩ | ⟨g1,sz,n,t0,f0,e1,e2,e3⟩
         · exact ⟨_,p3 _ (List.mem_append_left _ e4)⟩
         · exact ⟨_,p3 _ (List.mem_append_left _ e3)⟩
         · exact ⟨_,p3 _ (List.mem_append_left _ e3)⟩
       · have:z.1∈fstL is:=by rw [← i1];exact List.mem_map.2 ⟨z,hz1,rfl⟩
         obtain ⟨t,ht⟩:=List.getElem?_of_mem this
         rw [fstL_get] at ht
         cases hx:is[t]? with
         | none=>rw [hx] at ht;cases ht
         | some y =>
          rw [hx] at ht
          simp only [Option.map_some,Option.some.injEq] at ht
          obtain ⟨sz,n',t',f',_,e2,_,_⟩:=i3 _ y hx
          rw [← ht]
          exact ⟨_,p3 _ (List.mem_append_right _ e2)⟩
     · rw [hβo k (fun h=>hid (List.mem_append_right _ h)) (hout k hid)] at hk
       obtain ⟨o,ho⟩:=R.dom k x hk
       exact ⟨o,by rw [p2 k hid];exact ho⟩
   ·
    have hcls : ∀ (q:Nat) (y:Nat × Nat × Array Value),βn q=some y→(q ∉ fstL is∧¬ gone q∧β q=some y)∨∃ i x,is[i]? = some x∧x.1=q∧β' (top+i)=some y:=by
     intro q y hy
     by_cases hq:q∈fstL is
     · obtain ⟨t,ht⟩:=List.getElem?_of_mem hq
       rw [fstL_get] at ht
       cases hx:is[t]? with
       | none=>rw [hx] at ht;cases ht
       | some z =>
        rw [hx] at ht
        simp only [Option.map_some,Option.some.injEq] at ht
        subst ht
        exact .inr ⟨t,z,hx,rfl,(hβi t z hx).symm.trans hy⟩
     · have hg : ¬ gone q:=fun hg=>by rw [(hβq q hq).2 hg] at hy;cases hy
       exact .inl ⟨hq,hg,(hβo q hq hg).symm.trans hy⟩
    have hmix : ∀ (q:Nat) (y:Nat × Nat × Array Value) (i:Nat) (x:Nat × Int × Ob) (z:Nat × Nat × Array Value),q ∉ fstL is→¬ gone q→β q=some y→is[i]? = some x→β' (top+i)=some z→y.1≠z.1:=by
     intro q y i x z hq hgq hy hx hz
     by_cases hqi:q∈ids
     · obtain ⟨t,ht⟩:=List.getElem?_of_mem hqi
       have htlt:t < top:=by rw [← htop];exact (List.getElem?_eq_some_iff.1 ht).1
       have key : ∃ y',β' t=some y'∧y'.1=y.1:=by
        rcases b2 t q ht with ⟨g1,cs,cs',c1,e1,e2,_⟩ | ⟨g1,sz,n,t0,f0,f0',e1,e2,_⟩ | ⟨g1,sz,n,t0,f0,e1,e2,_⟩
        · obtain ⟨b',o',s',c0,e0,w1,w2,w3⟩:=((hβ0 t).1 q ht).1 _ _ e1
          rw [hy] at w1;cases w1
          exact ⟨_,((h5 t _ e2).2 rfl).trans w3,rfl⟩
        · exact ⟨y,((h5 t _ e2).2 rfl).trans ((((hβ0 t).1 q ht).2 _ _ _ _ _ e1).trans hy),rfl⟩
        · exact absurd ⟨t,ht,e2⟩ hgq
       obtain ⟨y',y1,y2⟩:=key
       rw [← y2]
       exact h6 t (top+i) y' z (by omega) y1 hz
     · have hqn:q ∉ ids++fstL is:=fun h=>(List.mem_append.1 h).elim hqi hq
       rcases hmv i x z hx hz with ⟨k0,x0,h0',he⟩ | hge
       · obtain ⟨id',x',a1,a2,a3⟩:=hlb k0 x0 h0'
         rw [← he,← a3]
         exact R.dist q id' y x' (fun e=>hqn (e ▸ a1)) hy a2
       · have:=R.lt_block hy;omega
    rcases hcls k x hk with ⟨q1,qg,q2⟩ | ⟨i,z,q1,q2,q3⟩
    · rcases hcls k' x' hk' with ⟨r1,rg,r2⟩ | ⟨i',z',r1,r2,r3⟩
      · exact R.dist k k' x x' hne q2 r2
      · exact hmix k x i' z' x' q1 qg q2 r1 r3
    · rcases hcls k' x' hk' with ⟨r1,rg,r2⟩ | ⟨i',z',r1,r2,r3⟩
      · exact Ne.symm (hmix k' x' i z x r1 rg r2 q1 q3)
      · refine h6 (top+i) (top+i') x x' (fun e=>hne ?_) q3 r3
        have:i=i':=by omega
        subst this
        rw [q1] at r1;cases r1
        exact q2.symm.trans r2
   · by_cases hq:k∈fstL is
     · obtain ⟨t,ht⟩:=List.getElem?_of_mem hq
       rw [fstL_get] at ht
       cases hx:is[t]? with
       | none=>rw [hx] at ht;cases ht
       | some z =>
        rw [hx] at ht
        simp only [Option.map_some,Option.some.injEq] at ht
        subst ht
        rw [hβi t z hx] at hk
        rcases hmv t z x hx hk with ⟨k0,x0,h0',he⟩ | hge
        · obtain ⟨id',x',a1,a2,a3⟩:=hlb k0 x0 h0'
          rw [← he,← a3];exact R.own id' x' a2
        · have:=R.size;exact .inl (by omega)
     · rw [hβo k hq (fun hg=>by rw [(hβq k hq).2 hg] at hk;cases hk)] at hk
       exact R.own k x hk
   · obtain ⟨l1,l2⟩:=h2.1 b hb
     refine ⟨l1,?_⟩
     rcases l2 with h | h | ⟨k,x,hk,rfl⟩
     · exact (R.lt.1 b h).2
     · have:=R.size;exact .inr (.inl (by omega))
     · obtain ⟨id',x',a1,a2,a3⟩:=hlb k x hk
       rw [← a3]
       exact .inr (R.own id' x' a2)
   · rcases h2.2 b hb with h | h | ⟨k,x,hk,rfl⟩
     · exact R.lt.2 b h
     · have:=R.size;exact .inr (.inl (by omega))
     · obtain ⟨id',x',a1,a2,a3⟩:=hlb k x hk
       rw [← a3]
       exact .inr (R.own id' x' a2)
   · rw [← R.frame b hb hL]
     refine h3 b (Nat.lt_of_lt_of_le hb R.size) fun k x hk he=>?_
     obtain ⟨id,x',_,a2,a3⟩:=hlb k x hk
     rcases R.own id x' a2 with h | h
     · omega
     · exact hL (he ▸ a3 ▸ h)
   · exact Rd.mono (Goes.back _ _ _ _ _) _ _ (res_plain hd h8)
 · intro t d' ht
   rw [List.getElem?_map] at ht
   cases hat:args[t]? with
   | none=>rw [hat] at ht;cases ht
   | some d0 =>
    rw [hat] at ht
    simp only [Option.map_some,Option.some.injEq] at ht
    subst ht
    obtain ⟨y,hy,hv⟩:=hargs t d0 hat
    obtain ⟨m1,m2⟩:=hin t d0 hat
    refine ⟨y,hy,?_⟩
    rcases lendOwe_get ho1 t d0 hat with ⟨k,c,rfl,⟨hb,hclo⟩ | ⟨hb,hcs⟩⟩ | ⟨hna,ho⟩
    · simp only [ren,hb,if_true]
      exact clo_ok (IS.le.refl _) (fun _ _=>rfl) _ _ hclo hv
    · simp only [ren,hb,Bool.false_eq_true,if_false]
      obtain ⟨ys,rfl,x1,x2⟩:=hv
      refine ⟨ys,rfl,x1,fun j hj=>?_⟩
      obtain ⟨z,z1,z2,z3⟩:=x2 j hj
      exact ⟨z,z1,z2,hren _ _ (hcs j hj) (fun id hid=>m2 k c j id rfl hj hid) z3⟩
    · have e:ren ids win d0=ren1 ids win d0:=by cases d0<;>first | exact absurd rfl (hna _ _) | rfl
      rw [e]
      exact hren _ _ ho m1 hv
 · intro k x hk
   obtain ⟨id,x',a1,a2,a3⟩:=(hβ0 k).2.2 x hk
   have hlt:k < (ts++sndL is).length:=by
    have:=(List.getElem?_eq_some_iff.1 a1).1
    have e:(sndL is).length=(fstL is).length:=by rw [fstL_len,sndL_len]
    simp only [List.length_append] at this ⊢
    omega
   exact ⟨_,List.getElem?_eq_getElem hlt⟩
end
end Go.Vx
