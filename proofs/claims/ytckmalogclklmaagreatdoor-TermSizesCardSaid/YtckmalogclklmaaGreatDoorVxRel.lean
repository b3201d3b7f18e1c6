/- How values of the value model stand for values and memory of the Go model, and that this outlasts changes elsewhere. -/
import Derived.Test.YtckmalogclklmaaGreatDoorVxDefs
import Derived.OwnWalk
import Derived.Laws.CopyOwn
set_option linter.all false
namespace Go.Vx
def Hu (objs:List (Option Ob)) (ctr id g:Nat):Prop:=g < ctr∨(g=ctr∧∃ o,objs[id]? = some (some o)∧o.gen=g)
def Beside (s c:Array Value) (o n:Nat):Prop:=c.size=s.size∧∀ i,(i < o∨o+n≤i)→c[i]? = s[i]?
theorem Beside.refl (c:Array Value) (o n:Nat):Beside c c o n:=⟨rfl,fun _ _=>rfl⟩
structure IS where
 i:Nat→Prop
 l:Nat→Prop
 sub : ∀ b,l b→i b
instance:CoeFun IS (fun _=>Nat→Prop):=⟨IS.i⟩
def IS.all (f:Nat→Prop):IS:=⟨f,f,fun _ h=>h⟩
def IS.or (I:IS) (f:Nat→Prop):IS:=⟨fun b=>I b∨f b,fun b=>I.l b∨f b,fun b h=>h.imp (I.sub b) id⟩
def IS.see (I:IS) (f:Nat→Prop):IS:=⟨fun b=>I b∨f b,I.l,fun b h=>.inl (I.sub b h)⟩
instance:Coe (Nat→Prop) IS:=⟨IS.all⟩
def IS.le (I I':IS):Prop:=(∀ b,I b→I' b)∧∀ b,I.l b→I'.l b
theorem IS.le.refl (I:IS):I.le I:=⟨fun _ h=>h,fun _ h=>h⟩
theorem IS.vv (I:IS) (f:Nat→Prop):I.le (I.or f):=⟨fun _ h=>.inl h,fun _ h=>.inl h⟩
theorem IS.ald (I:IS) (f:Nat→Prop):I.le (I.see f):=⟨fun _ h=>.inl h,fun _ h=>h⟩
theorem IS.le.trans {I J K:IS} (h:I.le J) (k:J.le K):I.le K:=⟨fun b x=>k.1 b (h.1 b x),fun b x=>k.2 b (h.2 b x)⟩
def IS.New (I:IS) (n:Nat) (I':IS) (n':Nat):Prop:=(∀ b,I' b→b < n'∧(I b∨n≤b))∧∀ b,I'.l b→I.l b∨n≤b
section
variable (h:Array Obj) (I:IS) (β:Nat→Option (Nat × Nat × Array Value)) (objs:List (Option Ob)) (ctr:Nat)
def Rd:D→Value→Prop
 | .v x,y=>y=x
 | .cO,y=>y = .slice none 0 0
 | .sl sz n t f,y=>∃ a len cap,y = .slice a len cap∧(len:Int)=n∧len≤cap∧(t=true→cap=len) ∧
  (0 < len→∃ b o c e fr,a=some ⟨b,o,none⟩∧I.l b∧h[b]? = some (.cells c e fr) ∧
   ∀ i:Nat,i < len→∀ j,j < sz→∃ z,c[o+i*sz+j]? = some z∧z.oneCell'=true∧Rd (f i j) z)
 | .agg k c,y=>∃ ys:Array Value,y = .agg ys∧ys.size=k∧∀ j,j < k→∃ z,ys[j]? = some z∧z.oneCell'=true∧Rd (c j) z
 | .gX k c,y=>∃ ys:Array Value,y = .tuple ys∧ys.size=k∧∀ j,j < k→∃ z,ys[j]? = some z∧Rd (c j) z
 | .dI id g j,y=>Hu objs ctr id g∧(∃ q,y = .pointer (some q))∧∀ cs,objs[id]? = some (some (.box g cs))→∃ b o s,β id=some (b,o,s)∧y = .pointer (some ⟨b,o+j,none⟩)
 | .kX id g sz i j,y=>Hu objs ctr id g∧(∃ q,y = .pointer (some q))∧∀ N t f,objs[id]? = some (some (.arr g sz N t f)) →
  0≤i∧i < N∧∃ b o s,β id=some (b,o,s)∧y = .pointer (some ⟨b,o+i.toNat*sz+j,none⟩)
 | .gY sz n f i j,y=>0≤i∧i < n∧∃ b o c e fr,y = .pointer (some ⟨b,o+i.toNat*sz+j,none⟩)∧I b∧h[b]? = some (.cells c e fr) ∧
  ∀ i':Nat,(i':Int) < n→∀ j',j' < sz→∃ z,c[o+i'*sz+j']? = some z∧z.oneCell'=true∧Rd (f i' j') z
 | .vec id g sz off n,y=>Hu objs ctr id g∧(∃ a l c,y = .slice a l c∧(l:Int)=n∧l≤c∧(0 < l→a.isSome=true))∧∀ N t f,objs[id]? = some (some (.arr g sz N t f)) →
  0≤off∧0≤n∧off+n≤N∧∃ a len cap,y = .slice a len cap∧(len:Int)=n∧len≤cap∧(t=true→off+cap≤N) ∧
   (0 < cap→∃ b o s,β id=some (b,o,s)∧a=some ⟨b,o+off.toNat*sz,none⟩∧o+off.toNat*sz+cap*sz≤s.size)
 | .own _ _ _ _,_=>False
 | .fn f k c,y=>∃ ys:Array Value,y = .func f #[] ys∧ys.size=k∧∀ j,j < k→∃ z,ys[j]? = some z∧Rd (c j) z
 | .BH b d,y=>(b=true→Rd d y)∧(b=false→y=undef)
 | .cnd b d e,y=>(b=true→Rd d y)∧(b=false→Rd e y)
 | .mp kk kv es,y=>∃ r c cl,y = .map (some r)∧I r∧h[r]? = some (.map c cl)∧c.toList.map (fun e=>(e.key,e.val))=es.map (fun x=>(Value.int kk x.1,Value.int kv x.2))
 | .M5 id g,y=>Hu objs ctr id g∧(∃ q,y = .pointer (some q))∧∀ s pos,objs[id]? = some (some (.iter g s pos))→∃ b o z,β id=some (b,o,z)∧y = .pointer (some ⟨b,0,none⟩)
 | .UL b i r,y=>(b=true→y = .tuple #[.bool true,.int .i64 i,.int .i32 r])∧(b=false→y = .tuple #[.bool false])
 | .tab g n k,y=>y = .pointer (some ⟨g,0,none⟩)∧I g∧∃ c e fr,h[g]? = some (.cells c e fr)∧∀ i:Nat,i < n→c[i]? = some (.int k (Af g i))
 | .Ac t d,y=>∃ z,y = .iface t z∧Rd d z
 | .uq _ _ _ _ _ _ _,_=>False
 | .junk,_=>True
def Rob (k:Nat):Ob→Prop
 | .box g cs=>g≤ctr∧∃ b o s c e,β k=some (b,o,s)∧h[b]? = some (.cells c e (0,0))∧Beside s c o cs.length∧¬ I b∧o+cs.length≤s.size ∧
  ∀ (j:Nat) (d:D),cs[j]? = some d→∃ z,c[o+j]? = some z∧z.oneCell'=true∧Rd h I β objs ctr d z
 | .arr g sz n _ f=>g≤ctr∧0≤n∧((n=0∧β k=none)∨∃ b o s c e,β k=some (b,o,s)∧h[b]? = some (.cells c e (0,0))∧c.size=s.size∧¬ I b∧o+n.toNat*sz≤s.size ∧
  ∀ i:Nat,(i:Int) < n→∀ j,j < sz→∃ z,c[o+i*sz+j]? = some z∧z.oneCell'=true∧Rd h I β objs ctr (f i j) z)
 | .iter g s pos=>g≤ctr∧0≤pos∧∃ b o z,β k=some (b,o,z)∧h[b]? = some (.stringIter s pos.toNat)∧¬ I b
 | .dead g=>g≤ctr∧β k=none
end
def F9 (h:Array Obj) (I:IS):Prop:=(∀ g n k,acH g=some (n,k)→0 < n∧I g∧∃ c e fr,h[g]? = some (.cells c e fr)∧∀ i:Nat,i < n→c[i]? = some (.int k (Af g i))) ∧
 ∀ g n f,rU g=some (n,f)→0 < n∧I g∧(∀ j,j < n→(f j).oneCell'=true∧wO (f j) = .v (f j))∧∃ c e fr,h[g]? = some (.cells c e fr)∧∀ i:Nat,i < n→c[i]? = some (f i)
theorem F9.mono {h h':Array Obj} {I I':IS} (hI : ∀ b,I b→I' b) (hs : ∀ b,I b→h'[b]? = h[b]?) (H:F9 h I):F9 h' I':=by
 refine ⟨fun g n k hg=>?_,fun g n f hg=>?_⟩
 · obtain ⟨h0,h1,h2⟩:=H.1 g n k hg
   exact ⟨h0,hI g h1,by rw [hs g h1];exact h2⟩
 · obtain ⟨h0,h1,h2,h3⟩:=H.2 g n f hg
   exact ⟨h0,hI g h1,h2,by rw [hs g h1];exact h3⟩
def Ob.like:Ob→Ob→Prop
 | .box g _,.box g' _=>g=g'
 | .arr g sz n t _,.arr g' sz' n' t' _=>g=g'∧sz=sz'∧n=n'∧t=t'
 | .iter g s _,.iter g' s' _=>g=g'∧s=s'
 | .dead g,.dead g'=>g=g'
 | _,_=>False
def Ob.live:Ob→Prop
 | .dead _=>False
 | _=>True
theorem Ob.l9 (o:Ob):o.like o:=by cases o<;>simp [Ob.like]
structure Goes (h:Array Obj) (I:IS) (β:Nat→Option (Nat × Nat × Array Value)) (objs:List (Option Ob)) (ctr:Nat)
  (h':Array Obj) (I':IS) (β':Nat→Option (Nat × Nat × Array Value)) (aX:List (Option Ob)) (iU:Nat):Prop where
 gY : ∀ b,I b→I' b
 same : ∀ b,I b→h'[b]? = h[b]?
 lst : ∀ b,I.l b→I'.l b
 gen : ∀ id g,Hu objs ctr id g→Hu aX iU id g
 obj : ∀ id g,Hu objs ctr id g→∀ o',aX[id]? = some (some o')→o'.gen=g→o'.live→∃ o,objs[id]? = some (some o)∧o.like o'∧β' id=β id
theorem Goes.refl (h I β objs ctr):Goes h I β objs ctr h I β objs ctr :=
 ⟨fun _ x=>x,fun _ _=>rfl,fun _ x=>x,fun _ _ x=>x,fun _ _ _ o' ho _ _=>⟨o',ho,Ob.l9 _,rfl⟩⟩
theorem Rd.mono {h I β objs ctr h' I' β' aX iU} (G:Goes h I β objs ctr h' I' β' aX iU) :
  ∀ (d:D) (y:Value),Rd h I β objs ctr d y→Rd h' I' β' aX iU d y:=by
 intro d
 induction d with
 | v x=>exact fun y hy=>hy
 | cO=>exact fun y hy=>hy
 | sl sz n t f ih =>
  rintro y ⟨a,len,cap,rfl,hl,hc,ht,hcells⟩
  refine ⟨a,len,cap,rfl,hl,hc,ht,fun hp=>?_⟩
  obtain ⟨b,o,c,e,fr,rfl,hI,hb,hx⟩:=hcells hp
  refine ⟨b,o,c,e,fr,rfl,G.lst b hI,by rw [G.same b (I.sub b hI)];exact hb,fun i hi j hj=>?_⟩
  obtain ⟨z,h1,h2,h3⟩:=hx i hi j hj
  exact ⟨z,h1,h2,ih _ _ _ h3⟩
 | agg k c ih =>
  rintro y ⟨ys,rfl,hs,hx⟩
  refine ⟨ys,rfl,hs,fun j hj=>?_⟩
  obtain ⟨z,h1,h2,h3⟩:=hx j hj
  exact ⟨z,h1,h2,ih _ _ h3⟩
 | gX k c ih =>
  rintro y ⟨ys,rfl,hs,hx⟩
  refine ⟨ys,rfl,hs,fun j hj=>?_⟩
  obtain ⟨z,h1,h3⟩:=hx j hj
  exact ⟨z,h1,ih _ _ h3⟩
 | dI id g j =>
  rintro y ⟨hg,hsh,hx⟩
  refine ⟨G.gen _ _ hg,hsh,fun cs' ho'=>?_⟩
  obtain ⟨o,ho,hl,kC⟩:=G.obj id g hg _ ho' rfl trivial
  cases o<;>simp [Ob.like] at hl
  subst hl
  obtain ⟨b,o,s,hb,hy⟩:=hx _ ho
  exact ⟨b,o,s,by rw [kC];exact hb,hy⟩
 | kX id g sz i j =>
  rintro y ⟨hg,hsh,hx⟩
  refine ⟨G.gen _ _ hg,hsh,fun N t f ho'=>?_⟩
  obtain ⟨o,ho,hl,kC⟩:=G.obj id g hg _ ho' rfl trivial
  cases o<;>simp [Ob.like] at hl
  obtain ⟨rfl,rfl,rfl,rfl⟩:=hl
  obtain ⟨h0,h1,b,o,s,hb,hy⟩:=hx _ _ _ ho
  exact ⟨h0,h1,b,o,s,by rw [kC];exact hb,hy⟩
 | gY sz n f i j ih =>
  rintro y ⟨h0,h1,b,o,c,e,fr,hy,hI,hb,hx⟩
  refine ⟨h0,h1,b,o,c,e,fr,hy,G.gY b hI,by rw [G.same b hI];exact hb,fun i hi j hj=>?_⟩
  obtain ⟨z,h1,h2,h3⟩:=hx i hi j hj
  exact ⟨z,h1,h2,ih _ _ _ h3⟩
 | vec id g sz off n =>
  rintro y ⟨hg,hsh,hx⟩
  refine ⟨G.gen _ _ hg,hsh,fun N t f ho'=>?_⟩
  obtain ⟨o,ho,hl,kC⟩:=G.obj id g hg _ ho' rfl trivial
  cases o<;>simp [Ob.like] at hl
  obtain ⟨rfl,rfl,rfl,rfl⟩:=hl
  obtain ⟨h0,h1,h2,a,len,cap,hy,h3,h4,h5,h6⟩:=hx _ _ _ ho
  refine ⟨h0,h1,h2,a,len,cap,hy,h3,h4,h5,fun hp=>?_⟩
  obtain ⟨b,o,s,hb,hr⟩:=h6 hp
  exact ⟨b,o,s,by rw [kC];exact hb,hr⟩
 | own=>exact fun y hy=>hy
 | uq=>exact fun y hy=>hy
 | fn f k c ih =>
  rintro y ⟨ys,rfl,hs,hx⟩
  refine ⟨ys,rfl,hs,fun j hj=>?_⟩
  obtain ⟨z,h1,h3⟩:=hx j hj
  exact ⟨z,h1,ih _ _ h3⟩
 | BH b d ih=>exact fun y hy=>⟨fun hb=>ih y (hy.1 hb),hy.2⟩
 | cnd b d e ih1 ih2=>exact fun y hy=>⟨fun hb=>ih1 y (hy.1 hb),fun hb=>ih2 y (hy.2 hb)⟩
 | mp kk kv es =>
  rintro y ⟨r,c,cl,rfl,hr,hb,he⟩
  exact ⟨r,c,cl,rfl,G.gY r hr,by rw [G.same r hr];exact hb,he⟩
 | M5 id g =>
  rintro y ⟨hg,hsh,hx⟩
  refine ⟨G.gen _ _ hg,hsh,fun s pos ho'=>?_⟩
  obtain ⟨o,ho,hl,kC⟩:=G.obj id g hg _ ho' rfl trivial
  cases o<;>simp [Ob.like] at hl
  obtain ⟨rfl,rfl⟩:=hl
  obtain ⟨b,o,z,hb,hy⟩:=hx _ _ ho
  exact ⟨b,o,z,by rw [kC];exact hb,hy⟩
 | UL b i r=>exact fun y hy=>hy
 | tab g n k=>exact fun y ⟨h1,h2,h3⟩=>⟨h1,G.gY g h2,by rw [G.same g h2];exact h3⟩
 | Ac t d ih=>exact fun y ⟨z,h1,h2⟩=>⟨z,h1,ih _ h2⟩
 | junk=>exact fun y _=>trivial
structure p9 where
 blk:Nat→Option (Nat × Nat × Array Value)
 os:Os:=default
 out:Array (Nat × ByteArray):=#[]
def iy (w w':World):Prop:=w'.os=w.os∧w'.output=w.output
theorem iy.refl (w:World):iy w w:=⟨rfl,rfl⟩
theorem iy.trans {a b c:World} (h:iy a b) (k:iy b c):iy a c:=⟨k.1.trans h.1,k.2.trans h.2⟩
def p9.has (L:p9) (b:Nat):Prop:=∃ k z,L.blk k=some z∧z.1=b
instance:CoeFun p9 (fun _=>Nat→Prop):=⟨p9.has⟩
def D8 (I0:IS) (L:Nat→Prop) (B0 n:Nat) (I:IS):Prop:=(∀ b,I b→b < n∧(I0 b∨B0≤b∨L b))∧∀ b,I.l b→I0.l b∨B0≤b∨L b
theorem D8.grow {I0 I:IS} {L:Nat→Prop} {B0 n n':Nat} (h:D8 I0 L B0 n I) (hn:n≤n'):D8 I0 L B0 n' I:=⟨fun b hb=>⟨Nat.lt_of_lt_of_le (h.1 b hb).1 hn,(h.1 b hb).2⟩,h.2⟩
theorem D8.same {I0 I:IS} {L:Nat→Prop} {B0 n n':Nat} (h:D8 I0 L B0 n I) (hn:n≤n'):I.New n I n':=⟨fun b hb=>⟨Nat.lt_of_lt_of_le (h.1 b hb).1 hn,.inl hb⟩,fun _ hb=>.inl hb⟩
theorem D8.or {I0 I:IS} {L:Nat→Prop} {B0 n:Nat} {f:Nat→Prop} (h:D8 I0 L B0 n I) (hf : ∀ b,f b→b < n∧(B0≤b∨L b)):D8 I0 L B0 n (I.or f) :=
 ⟨fun b hb=>hb.elim (h.1 b) (fun x=>⟨(hf b x).1,.inr (hf b x).2⟩),fun b hb=>hb.elim (h.2 b) (fun x=>.inr (hf b x).2)⟩
theorem D8.push {I0 I:IS} {L:Nat→Prop} {B0 n:Nat} (h:D8 I0 L B0 n I) (hB:B0≤n):D8 I0 L B0 (n+1) (I.or (fun b=>b=n)) :=
 ⟨fun b hb=>hb.elim (fun hb=>⟨Nat.lt_succ_of_lt (h.1 b hb).1,(h.1 b hb).2⟩) (fun hb=>⟨by omega,.inr (.inl (by omega))⟩),fun b hb=>hb.elim (h.2 b) (fun hb=>.inr (.inl (by omega)))⟩
theorem D8.new {I0 I I':IS} {L:Nat→Prop} {B0 n n':Nat} (h:D8 I0 L B0 n I) (hB:B0≤n) (k:I.New n I' n'):D8 I0 L B0 n' I' :=
 ⟨fun b hb=>⟨(k.1 b hb).1,(k.1 b hb).2.elim (fun x=>(h.1 b x).2) (fun x=>.inr (.inl (Nat.le_trans hB x)))⟩,fun b hb=>(k.2 b hb).elim (h.2 b) (fun x=>.inr (.inl (Nat.le_trans hB x)))⟩
structure RM (B0:Nat) (h0:Array Obj) (I0:IS) (L:p9) (I:IS) (β:Nat→Option (Nat × Nat × Array Value)) (slots:List D) (objs:List (Option Ob)) (ctr:Nat) (a:Act) (w:World):Prop where
 len:slots.length=a.tmps.size
 slot : ∀ (t:Nat) (d:D),slots[t]? = some d→∃ y,a.tmps[t]? = some y∧Rd w.heap I β objs ctr d y
 defers:a.defers=[]
 ob : ∀ (k:Nat) (o:Ob),objs[k]? = some (some o)→Rob w.heap I β objs ctr k o
 dom : ∀ k x,β k=some x→∃ o,objs[k]? = some (some o)
 dist : ∀ k k' x x',k≠k'→β k=some x→β k'=some x'→x.1≠x'.1
 own : ∀ k x,β k=some x→B0≤x.1∨L x.1
 old:I0.le I
 lt:D8 I0 L B0 w.heap.size I
 frame : ∀ b,b < B0→¬ L b→w.heap[b]? = h0[b]?
 size:B0≤w.heap.size
 pos:0 < ctr
 stay : ∀ (k:Nat) (o:Ob),objs[k]? = some (some o)→o.gen=0→o.live→β k=L.blk k
 wo:w.os=L.os∧w.output=L.out
 vg:F9 w.heap I
structure Post (B0:Nat) (h0:Array Obj) (I0:IS) (L:p9) (I:IS) (β:Nat→Option (Nat × Nat × Array Value)) (objs:List (Option Ob)) (ctr:Nat) (w:World)
  (aX:List (Option Ob)) (w':World) (d:D) (y:Value):Prop where
 ex : ∃ I' β',Goes w.heap I β objs ctr w'.heap I' β' aX ctr ∧
  (∀ (k:Nat) (o:Ob),aX[k]? = some (some o)→Rob w'.heap I' β' aX ctr k o) ∧
  (∀ k x,β' k=some x→∃ o,aX[k]? = some (some o)) ∧
  (∀ k k' x x',k≠k'→β' k=some x→β' k'=some x'→x.1≠x'.1) ∧
  (∀ k x,β' k=some x→B0≤x.1∨L x.1) ∧
  D8 I0 L B0 w'.heap.size I' ∧
  (∀ b,b < B0→¬ L b→w'.heap[b]? = h0[b]?) ∧
  B0≤w'.heap.size∧iy w w'∧Rd w'.heap I' β' aX ctr d y
section
variable {B0:Nat} {h0:Array Obj} {I0 I:IS} {L:p9} {β:Nat→Option (Nat × Nat × Array Value)} {slots:List D} {objs:List (Option Ob)} {ctr:Nat} {a:Act} {w:World}
theorem Goes.stay {h h':Array Obj} {I':IS} {β':Nat→Option (Nat × Nat × Array Value)} {aX:List (Option Ob)} {iU:Nat} (G:Goes h I β objs ctr h' I' β' aX iU) (hp:0 < ctr)
  (hs : ∀ (k:Nat) (o:Ob),objs[k]? = some (some o)→o.gen=0→o.live→β k=L.blk k) : ∀ (k:Nat) (o:Ob),aX[k]? = some (some o)→o.gen=0→o.live→β' k=L.blk k:=by
 intro k o' ho' hg hl
 obtain ⟨o,h1,h2,h3⟩:=G.obj k 0 (.inl hp) o' ho' hg hl
 rw [h3]
 refine hs k o h1 ?_ ?_
 · rw [← hg];cases o<;>cases o'<;>simp [Ob.like] at h2<;>simp [Ob.gen,h2]
 · cases o<;>cases o'<;>simp [Ob.like,Ob.live] at *
theorem abq (dst:Option Nat) (d:D):(iD slots dst d).length=slots.length:=by
 cases dst<;>simp [iD]
theorem RM.put (R:RM B0 h0 I0 L I β slots objs ctr a w) {aX:List (Option Ob)} {w':World} {d:D} {y:Value} (dst:Option Nat)
  (h:Post B0 h0 I0 L I β objs ctr w aX w' d y) : ∃ I' β',RM B0 h0 I0 L I' β' (iD slots dst d) aX ctr (a.put dst y) w':=by
 obtain ⟨I',β',G,cK,hdom,hdist,hown,hlt,hfr,hsz,hwo,hd⟩:=h.ex
 refine ⟨I',β',?_,?_,?_,cK,hdom,hdist,hown,R.old.trans ⟨G.gY,G.lst⟩,hlt,hfr,hsz,R.pos,G.stay R.pos R.stay,⟨hwo.1.trans R.wo.1,hwo.2.trans R.wo.2⟩,R.vg.mono G.gY G.same⟩
 · rw [abq,R.len];cases dst<;>simp [Act.put]
 · intro t d' ht
   cases dst with
   | none=>obtain ⟨y',h1,h2⟩:=R.slot t d' ht;exact ⟨y',h1,Rd.mono G _ _ h2⟩
   | some s =>
    simp only [iD] at ht
    by_cases hts:s=t
    · subst hts
      have hlt:s < slots.length:=by
       rcases Nat.lt_or_ge s slots.length with h | h
       · exact h
       · rw [List.getElem?_eq_none (by simpa using h)] at ht;cases ht
      rw [List.getElem?_set_self hlt] at ht
      cases ht
      refine ⟨y,?_,hd⟩
      simp [Act.put,R.len ▸ hlt]
    · rw [List.getElem?_set_ne hts] at ht
      obtain ⟨y',h1,h2⟩:=R.slot t d' ht
      exact ⟨y',by simp [Act.put,Array.getElem?_setIfInBounds_ne hts,h1],Rd.mono G _ _ h2⟩
 · cases dst<;>simp [Act.put,R.defers]
theorem RM.still (R:RM B0 h0 I0 L I β slots objs ctr a w) {d:D} {y:Value} (h:Rd w.heap I β objs ctr d y):Post B0 h0 I0 L I β objs ctr w objs w d y :=
 ⟨I,β,Goes.refl _ _ _ _ _,R.ob,R.dom,R.dist,R.own,R.lt,R.frame,R.size,iy.refl _,h⟩
theorem Rob.mono {h h':Array Obj} {I':IS} {β':Nat→Option (Nat × Nat × Array Value)} {aX:List (Option Ob)} (G:Goes h I β objs ctr h' I' β' aX ctr) {k:Nat} {o:Ob}
  (hk : ∀ b x,β k=some (b,x)→¬ I b→h'[b]? = h[b]?∧¬ I' b) (kC:β' k=β k) (hr:Rob h I β objs ctr k o):Rob h' I' β' aX ctr k o:=by
 cases o with
 | box g cs =>
  obtain ⟨hg,b,o,s,c,e,h1,h2,h3,h4,h5,h6⟩:=hr
  obtain ⟨k1,k2⟩:=hk b _ h1 h4
  refine ⟨hg,b,o,s,c,e,by rw [kC];exact h1,by rw [k1];exact h2,h3,k2,h5,fun j d hj=>?_⟩
  obtain ⟨z,z1,z2,z3⟩:=h6 j d hj
  exact ⟨z,z1,z2,Rd.mono G _ _ z3⟩
 | arr g sz n t f =>
  obtain ⟨hg,hn,hx⟩:=hr
  refine ⟨hg,hn,?_⟩
  rcases hx with ⟨h1,h2⟩ | ⟨b,o,s,c,e,h1,h2,h3,h4,h5,h6⟩
  · exact .inl ⟨h1,by rw [kC];exact h2⟩
  · obtain ⟨k1,k2⟩:=hk b _ h1 h4
    refine .inr ⟨b,o,s,c,e,by rw [kC];exact h1,by rw [k1];exact h2,h3,k2,h5,fun i hi j hj=>?_⟩
    obtain ⟨z,z1,z2,z3⟩:=h6 i hi j hj
    exact ⟨z,z1,z2,Rd.mono G _ _ z3⟩
 | iter g s pos =>
  obtain ⟨hg,hp,b,o,z,h1,h2,h3⟩:=hr
  obtain ⟨k1,k2⟩:=hk b _ h1 h3
  exact ⟨hg,hp,b,o,z,by rw [kC];exact h1,by rw [k1];exact h2,k2⟩
 | dead g=>exact ⟨hr.1,by rw [kC];exact hr.2⟩
theorem RM.jf (R:RM B0 h0 I0 L I β slots objs ctr a w) {k:Nat} {x:Nat × Nat × Array Value} (hk:β k=some x):x.1 < w.heap.size:=by
 obtain ⟨o,ho⟩:=R.dom k x hk
 have hr:=R.ob k o ho
 obtain ⟨b,p,s⟩:=x
 cases o with
 | box g cs =>
  obtain ⟨_,b',o',s',c,e,h1,h2,_⟩:=hr
  rw [hk] at h1;cases h1
  exact (Array.getElem?_eq_some_iff.1 h2).1
 | arr g sz n t f =>
  obtain ⟨_,_,hx⟩:=hr
  rcases hx with ⟨_,h2⟩ | ⟨b',o',s',c,e,h1,h2,_⟩
  · rw [hk] at h2;cases h2
  · rw [hk] at h1;cases h1
    exact (Array.getElem?_eq_some_iff.1 h2).1
 | iter g s pos=>obtain ⟨_,_,b',o',z',h1,h2,_⟩:=hr;rw [hk] at h1;cases h1;exact (Array.getElem?_eq_some_iff.1 h2).1
 | dead g=>exact absurd (hk.symm.trans hr.2) (by simp)
theorem RM.JU (R:RM B0 h0 I0 L I β slots objs ctr a w) {k:Nat} {x:Nat × Nat × Array Value} (hk:β k=some x) : ¬ I x.1:=by
 obtain ⟨o,ho⟩:=R.dom k x hk
 have hr:=R.ob k o ho
 cases o with
 | box g cs=>obtain ⟨_,b',o',s',c,e,h1,h2,_,h4,_⟩:=hr;rw [hk] at h1;cases h1;exact h4
 | arr g sz n t f =>
  obtain ⟨_,_,hx⟩:=hr
  rcases hx with ⟨_,h2⟩ | ⟨b',o',s',c,e,h1,h2,_,h4,_⟩
  · rw [hk] at h2;cases h2
  · rw [hk] at h1;cases h1;exact h4
 | iter g s pos=>obtain ⟨_,_,b',o',z',h1,_,h3⟩:=hr;rw [hk] at h1;cases h1;exact h3
 | dead g=>exact absurd (hk.symm.trans hr.2) (by simp)
def ad6 (T:D→Value→Prop) (h:Array Obj) (X:Option (Nat × Nat × Array Value)):Ob→Prop
 | .box _ cs=>∃ b o s c e,X=some (b,o,s)∧h[b]? = some (.cells c e (0,0))∧Beside s c o cs.length∧o+cs.length≤s.size∧∀ (j:Nat) (d:D),cs[j]? = some d→∃ z,c[o+j]? = some z∧z.oneCell'=true∧T d z
 | .arr _ sz n _ f=>0≤n∧((n=0∧X=none)∨∃ b o s c e,X=some (b,o,s)∧h[b]? = some (.cells c e (0,0))∧c.size=s.size∧o+n.toNat*sz≤s.size ∧
  ∀ i:Nat,(i:Int) < n→∀ j,j < sz→∃ z,c[o+i*sz+j]? = some z∧z.oneCell'=true∧T (f i j) z)
 | .iter _ s pos=>0≤pos∧∃ b o z,X=some (b,o,z)∧h[b]? = some (.stringIter s pos.toNat)
 | .dead _=>False
def killed (objs:List (Option Ob)) (ctr:Nat):Option Nat→List (Option Ob)
 | some id=>objs.set id (some (.dead ctr))
 | none=>objs
theorem RM.turn (R:RM B0 h0 I0 L I β slots objs ctr a w) {w':World} {key:Nat} {old:Option Nat} {o:Ob} {X:Option (Nat × Nat × Array Value)} {d:D} {y:Value}
  (hgen:o.gen=ctr)
  (hkey:objs[key]? = some none∨old=some key∧∃ ob,objs[key]? = some (some ob)∧ob.gen < ctr)
  (hold : ∀ id,old=some id→∃ ob,objs[id]? = some (some ob))
  (hheap : ∀ b,b < w.heap.size→(∀ id x,old=some id→β id=some x→x.1≠b)→w'.heap[b]? = w.heap[b]?)
  (hsize:w.heap.size≤w'.heap.size)
  (hX : ∀ x,X=some x→x.1 < w'.heap.size∧((∃ id z,old=some id∧β id=some z∧z.1=x.1)∨w.heap.size≤x.1∨(¬ I x.1∧B0≤x.1∧∀ k z,β k=some z→z.1≠x.1)))
  (ho:ad6 (Rd w.heap I β objs ctr) w'.heap X o)
  (hd : ∀ β',β' key=X→Goes w.heap I β objs ctr w'.heap I β' ((killed objs ctr old).set key (some o)) ctr→Rd w'.heap I β' ((killed objs ctr old).set key (some o)) ctr d y)
  (hwo:iy w w':=by first | exact ⟨rfl,rfl⟩ | assumption) :
  Post B0 h0 I0 L I β objs ctr w ((killed objs ctr old).set key (some o)) w' d y:=by
 have lD:key < objs.length:=by
  rcases Nat.lt_or_ge key objs.length with h | h
  · exact h
  · have hn:objs[key]? = none:=List.getElem?_eq_none (by simpa using h)
    rcases hkey with hk | ⟨_,ob,hk,_⟩<;>rw [hn] at hk<;>cases hk
 have hlen:(killed objs ctr old).length=objs.length:=by cases old<;>simp [killed]
 have hgk : ∀ g,Hu objs ctr key g→g < ctr:=by
  rintro g (h | ⟨hg,o',ho',hgo⟩)
  · exact h
  · rcases hkey with hk | ⟨_,ob,hk,hlt⟩
    · rw [hk] at ho';cases ho'
    · rw [hk] at ho';cases ho';omega
 have look : ∀ k,k≠key→(some k≠old)→((killed objs ctr old).set key (some o))[k]? = objs[k]?:=by
  intro k h1 h2
  rw [List.getElem?_set_ne (Ne.symm h1)]
  cases old with
  | none=>rfl
  | some id=>simp only [killed];rw [List.getElem?_set_ne (fun h=>h2 (by rw [h]))]
 have Sj:((killed objs ctr old).set key (some o))[key]? = some (some o):=List.getElem?_set_self (by rw [hlen];exact lD)
 have XV : ∀ id,old=some id→id≠key→((killed objs ctr old).set key (some o))[id]? = some (some (.dead ctr)):=by
  rintro id rfl h1
  rw [List.getElem?_set_ne (Ne.symm h1)]
  obtain ⟨ob,cK⟩:=hold id rfl
  exact List.getElem?_set_self (List.getElem?_eq_some_iff.1 cK).1
 let β':Nat→Option (Nat × Nat × Array Value):=fun k=>if k=key then X else if some k=old then none else β k
 have Dc : ∀ k,k≠key→some k≠old→β' k=β k:=fun k h1 h2=>by simp [β',h1,h2]
 have Jp:β' key=X:=by simp [β']
 have Sl : ∀ k,k≠key→some k=old→β' k=none:=fun k h1 h2=>by simp [β',h1,h2]
 have hsame : ∀ b,I b→w'.heap[b]? = w.heap[b]?:=by
  intro b hb
  refine hheap b (R.lt.1 b hb).1 fun id x _ hx hxb=>?_
  exact R.JU hx (hxb ▸ hb)
 have G:Goes w.heap I β objs ctr w'.heap I β' ((killed objs ctr old).set key (some o)) ctr:=by
  refine ⟨fun _ x=>x,hsame,fun _ x=>x,fun id g hg=>?_,fun id g hg o' ho' hgo hlv=>?_⟩
  · rcases hg with hg | ⟨rfl,o',ho',hgo⟩
    · exact .inl hg
    · refine .inr ⟨rfl,?_⟩
      by_cases h1:id=key
      · subst h1;exact ⟨o,Sj,hgen⟩
      · by_cases h2:some id=old
        · exact ⟨_,XV id h2.symm h1,rfl⟩
        · exact ⟨o',by rw [look id h1 h2];exact ho',hgo⟩
  · by_cases h1:id=key
    · subst h1
      rw [Sj] at ho';cases ho'
      have:=hgk g hg
      omega
    · by_cases h2:some id=old
      · rw [XV id h2.symm h1] at ho';cases ho'
        exact hlv.elim
      · rw [look id h1 h2] at ho'
        exact ⟨o',ho',Ob.l9 _,Dc id h1 h2⟩
 have hXI : ∀ x,X=some x→¬ I x.1:=by
  intro x hx hI
  rcases (hX x hx).2 with ⟨id,z,_,hz,he⟩ | hge | hf
  · exact R.JU hz (he ▸ hI)
  · have:=(R.lt.1 _ hI).1;omega
  · exact hf.1 hI
 have hXd : ∀ x,X=some x→∀ k z,k≠key→some k≠old→β k=some z→x.1≠z.1:=by
  intro x hx k z h1 h2 hz
  rcases (hX x hx).2 with ⟨id,z',ho',hz',he⟩ | hge | hf
  · rw [← he]
    exact R.dist id k z' z (fun h=>h2 (by rw [← h,ho'])) hz' hz
  · have:=R.jf hz;omega
  · exact Ne.symm (hf.2.2 k z hz)
 have hXo : ∀ x,X=some x→B0≤x.1∨L x.1:=by
  intro x hx
  rcases (hX x hx).2 with ⟨id,z,_,hz,he⟩ | hge | hf
  · rw [← he];exact R.own id z hz
  · have:=R.size;exact .inl (by omega)
  · exact .inl hf.2.1
 refine ⟨I,β',G,?_,?_,?_,?_,?_,?_,?_,hwo,hd β' Jp G⟩
 · intro k o' ho'
   by_cases h1:k=key
   · subst h1
     rw [Sj] at ho';cases ho'
     cases o with
     | box g cs =>
      obtain ⟨b,p,s,c,e,x1,x2,x3,x4,x5⟩:=ho
      refine ⟨by simp [Ob.gen] at hgen;omega,b,p,s,c,e,Jp.trans x1,x2,x3,hXI _ x1,x4,fun j d hj=>?_⟩
      obtain ⟨z,z1,z2,z3⟩:=x5 j d hj
      exact ⟨z,z1,z2,Rd.mono G _ _ z3⟩
     | arr g sz n t f =>
      refine ⟨by simp [Ob.gen] at hgen;omega,ho.1,?_⟩
      rcases ho.2 with ⟨x1,x2⟩ | ⟨b,p,s,c,e,x1,x2,x3,x4,x5⟩
      · exact .inl ⟨x1,Jp.trans x2⟩
      · refine .inr ⟨b,p,s,c,e,Jp.trans x1,x2,x3,hXI _ x1,x4,fun i hi j hj=>?_⟩
        obtain ⟨z,z1,z2,z3⟩:=x5 i hi j hj
        exact ⟨z,z1,z2,Rd.mono G _ _ z3⟩
     | iter g s pos =>
      obtain ⟨x0,b,p,z,x1,x2⟩:=ho
      exact ⟨by simp [Ob.gen] at hgen;omega,x0,b,p,z,Jp.trans x1,x2,hXI _ x1⟩
     | dead g=>exact ho.elim
   · by_cases h2:some k=old
     · rw [XV k h2.symm h1] at ho';cases ho'
       exact ⟨Nat.le_refl _,Sl k h1 h2⟩
     · rw [look k h1 h2] at ho'
       refine Rob.mono G (fun b x hb hI=>⟨?_,hI⟩) (Dc k h1 h2) (R.ob k o' ho')
       refine hheap b (R.jf hb) fun id z hid hz hzb=>?_
       exact R.dist id k z _ (fun h=>h2 (by rw [← h,hid])) hz hb hzb
 · intro k x hk
   by_cases h1:k=key
   · subst h1;exact ⟨o,Sj⟩
   · by_cases h2:some k=old
     · rw [Sl k h1 h2] at hk;cases hk
     · rw [Dc k h1 h2] at hk
       rw [look k h1 h2]
       exact R.dom k x hk
 · intro k k' x x' hne hk hk'
   by_cases h1:k=key
   · subst h1
     rw [Jp] at hk
     have h1':k'≠k:=Ne.symm hne
     by_cases h2:some k'=old
     · rw [Sl k' h1' h2] at hk';cases hk'
     · rw [Dc k' h1' h2] at hk'
       exact hXd x hk k' x' h1' h2 hk'
   · by_cases h2:some k=old
     · rw [Sl k h1 h2] at hk;cases hk
     · rw [Dc k h1 h2] at hk
       by_cases h3:k'=key
       · subst h3
         rw [Jp] at hk'
         exact Ne.symm (hXd x' hk' k x h1 h2 hk)
       · by_cases h4:some k'=old
         · rw [Sl k' h3 h4] at hk';cases hk'
         · rw [Dc k' h3 h4] at hk'
           exact R.dist k k' x x' hne hk hk'
 · intro k x hk
   by_cases h1:k=key
   · subst h1;rw [Jp] at hk;exact hXo x hk
   · by_cases h2:some k=old
     · rw [Sl k h1 h2] at hk;cases hk
     · rw [Dc k h1 h2] at hk;exact R.own k x hk
 · exact R.lt.grow (by omega)
 · intro b hb hL
   rw [← R.frame b hb hL]
   refine hheap b (Nat.lt_of_lt_of_le hb R.size) fun id x hid hx hxb=>?_
   rcases R.own id x hx with h | h
   · omega
   · exact hL (hxb ▸ h)
 · have:=R.size;omega
theorem RM.alloc (R:RM B0 h0 I0 L I β slots objs ctr a w) {w1:World} (hw1:w1.heap=w.heap) {key:Nat} (hkey:objs[key]? = some none) (c:Array Value) (e:TypeId) (o:Ob) {d:D} {y:Value}
  (hgen:o.gen=ctr) (ho:ad6 (Rd w.heap I β objs ctr) (w.heap.push (.cells c e)) (some (w.heap.size,0,c)) o)
  (hd : ∀ h' β',β' key=some (w.heap.size,0,c)→Goes w.heap I β objs ctr h' I β' (objs.set key (some o)) ctr→Rd h' I β' (objs.set key (some o)) ctr d y)
  (hwo:iy w w1:=by first | exact ⟨rfl,rfl⟩ | assumption) :
  Post B0 h0 I0 L I β objs ctr w (objs.set key (some o)) (w1.alloc (.cells c e)) d y:=by
 have hheap:(w1.alloc (.cells c e)).heap=w.heap.push (.cells c e):=by simp [World.alloc,hw1]
 refine R.turn (old:=none) (X:=some (w.heap.size,0,c)) hgen (.inl hkey) (fun _ h=>by cases h) ?_ ?_ ?_ (by rw [hheap];exact ho) (fun β' h1 h2=>hd _ β' h1 h2) ⟨hwo.1,hwo.2⟩
 · intro b hb _
   rw [hheap,Array.getElem?_push,if_neg (by omega)]
 · rw [hheap];simp
 · intro x hx
   cases hx
   rw [hheap]
   exact ⟨by simp,.inr (.inl (Nat.le_refl _))⟩
theorem RM.ae9 (R:RM B0 h0 I0 L I β slots objs ctr a w) {key:Nat} (hkey:objs[key]? = some none) (s:ByteArray) :
  Post B0 h0 I0 L I β objs ctr w (objs.set key (some (.iter ctr s 0))) (w.alloc (.stringIter s 0)) (.M5 key ctr) (.pointer (some ⟨w.heap.size,0,none⟩)):=by
 have hheap:(w.alloc (.stringIter s 0)).heap=w.heap.push (.stringIter s 0):=rfl
 refine R.turn (old:=none) (X:=some (w.heap.size,0,#[])) rfl (.inl hkey) (fun _ h=>by cases h) ?_ ?_ ?_ ?_ (fun β' h1 G=>⟨.inr ⟨rfl,_,List.getElem?_set_self (List.getElem?_eq_some_iff.1 hkey).1,rfl⟩,⟨_,rfl⟩,fun s' pos' ho=>⟨_,_,_,h1,rfl⟩⟩) ⟨rfl,rfl⟩
 · intro b hb _
   rw [hheap,Array.getElem?_push,if_neg (by omega)]
 · rw [hheap];simp
 · intro x hx
   cases hx
   rw [hheap]
   exact ⟨by simp,.inr (.inl (Nat.le_refl _))⟩
 · rw [hheap]
   exact ⟨Int.le_refl _,_,_,_,rfl,by simp⟩
theorem RM.write (R:RM B0 h0 I0 L I β slots objs ctr a w) {w':World} {id:Nat} {o o':Ob} {b p:Nat} {s:Array Value} {d:D} {y:Value}
  (ho:objs[id]? = some (some o)) (hl:o.like o') (hb:β id=some (b,p,s))
  (hheap : ∀ b',b'≠b→w'.heap[b']? = w.heap[b']?) (hsize:w'.heap.size=w.heap.size)
  (hn:ad6 (Rd w.heap I β objs ctr) w'.heap (some (b,p,s)) o')
  (hd:Goes w.heap I β objs ctr w'.heap I β (objs.set id (some o')) ctr→Rd w'.heap I β (objs.set id (some o')) ctr d y)
  (hwo:iy w w':=by first | exact ⟨rfl,rfl⟩ | assumption) :
  Post B0 h0 I0 L I β objs ctr w (objs.set id (some o')) w' d y:=by
 have hlt:id < objs.length:=(List.getElem?_eq_some_iff.1 ho).1
 have Bo:(objs.set id (some o'))[id]? = some (some o'):=List.getElem?_set_self hlt
 have look : ∀ k,k≠id→(objs.set id (some o'))[k]? = objs[k]?:=fun k hk=>List.getElem?_set_ne (Ne.symm hk)
 have hgen:o'.gen=o.gen:=by cases o<;>cases o'<;>simp [Ob.like] at hl<;>simp [Ob.gen,hl]
 have hnI : ¬ I b:=R.JU hb
 have G:Goes w.heap I β objs ctr w'.heap I β (objs.set id (some o')) ctr:=by
  refine ⟨fun _ x=>x,fun b' hb'=>hheap b' (fun h=>hnI (h ▸ hb')),fun _ x=>x,fun k g hg=>?_,fun k g hg o1 ho1 hgo _=>?_⟩
  · rcases hg with hg | ⟨hg,o1,ho1,hgo⟩
    · exact .inl hg
    · refine .inr ⟨hg,?_⟩
      by_cases h1:k=id
      · subst h1;rw [ho] at ho1;cases ho1;exact ⟨o',Bo,by omega⟩
      · exact ⟨o1,by rw [look k h1];exact ho1,hgo⟩
  · by_cases h1:k=id
    · subst h1;rw [Bo] at ho1;cases ho1;exact ⟨o,ho,hl,rfl⟩
    · rw [look k h1] at ho1;exact ⟨o1,ho1,Ob.l9 _,rfl⟩
 refine ⟨I,β,G,?_,?_,R.dist,R.own,?_,?_,?_,hwo,hd G⟩
 · intro k o1 ho1
   by_cases h1:k=id
   · subst h1
     rw [Bo] at ho1;cases ho1
     have hg:o.gen≤ctr:=by
      have hr:=R.ob k o ho
      cases o<;>exact hr.1
     cases o' with
     | box g cs =>
      obtain ⟨b1,p1,s1,c,e,x1,x2,x3,x4,x5⟩:=hn
      cases x1
      refine ⟨(show (Ob.box g cs).gen≤ctr by rw [hgen];exact hg),b,p,s,c,e,hb,x2,x3,hnI,x4,fun j d hj=>?_⟩
      obtain ⟨z,z1,z2,z3⟩:=x5 j d hj
      exact ⟨z,z1,z2,Rd.mono G _ _ z3⟩
     | arr g sz n t f =>
      refine ⟨(show (Ob.arr g sz n t f).gen≤ctr by rw [hgen];exact hg),hn.1,?_⟩
      rcases hn.2 with ⟨x1,x2⟩ | ⟨b1,p1,s1,c,e,x1,x2,x3,x4,x5⟩
      · cases x2
      · cases x1
        refine .inr ⟨b,p,s,c,e,hb,x2,x3,hnI,x4,fun i hi j hj=>?_⟩
        obtain ⟨z,z1,z2,z3⟩:=x5 i hi j hj
        exact ⟨z,z1,z2,Rd.mono G _ _ z3⟩
     | iter g s1 pos =>
      obtain ⟨x0,b1,p1,z1,x1,x2⟩:=hn
      cases x1
      exact ⟨(show (Ob.iter g s1 pos).gen≤ctr by rw [hgen];exact hg),x0,b,p,s,hb,x2,hnI⟩
     | dead g=>exact hn.elim
   · rw [look k h1] at ho1
     refine Rob.mono G (fun b' x hb' hI=>⟨?_,hI⟩) rfl (R.ob k o1 ho1)
     exact hheap b' (R.dist k id _ _ h1 hb' hb)
 · intro k x hk
   by_cases h1:k=id
   · subst h1;exact ⟨o',Bo⟩
   · rw [look k h1];exact R.dom k x hk
 · rw [hsize];exact R.lt
 · intro b' hb' hL
   rw [← R.frame b' hb' hL]
   refine hheap b' fun h=>?_
   subst h
   rcases R.own id _ hb with h | h
   · simp at h;omega
   · exact hL h
 · rw [hsize];exact R.size
theorem RM.aaG (R:RM B0 h0 I0 L I β slots objs ctr a w) {w1:World} (hw1:w1.heap=w.heap) (c:Array Value) (e:TypeId) {d:D} {y:Value}
  (hd : ∀ h' (I':IS),(∀ b,I b→I' b)→I'.l w.heap.size→h'[w.heap.size]? = some (.cells c e (0,0))→Goes w.heap I β objs ctr h' I' β objs ctr→Rd h' I' β objs ctr d y)
  (hwo:iy w w1:=by first | exact ⟨rfl,rfl⟩ | assumption) :
  Post B0 h0 I0 L I β objs ctr w objs (w1.alloc (.cells c e)) d y:=by
 have hheap:(w1.alloc (.cells c e)).heap=w.heap.push (.cells c e):=by simp [World.alloc,hw1]
 have hold : ∀ b,b < w.heap.size→(w.heap.push (.cells c e))[b]? = w.heap[b]?:=by
  intro b hb;rw [Array.getElem?_push,if_neg (by omega)]
 have G:Goes w.heap I β objs ctr (w.heap.push (.cells c e)) (I.or (fun b=>b=w.heap.size)) β objs ctr :=
  ⟨fun _ x=>.inl x,fun b hb=>hold b (R.lt.1 b hb).1,fun _ x=>.inl x,fun _ _ x=>x,fun _ _ _ o' ho' _ _=>⟨o',ho',Ob.l9 _,rfl⟩⟩
 refine ⟨I.or (fun b=>b=w.heap.size),β,by rw [hheap];exact G,?_,R.dom,R.dist,R.own,?_,?_,?_,⟨hwo.1,hwo.2⟩,?_⟩
 · intro k o ho
   rw [hheap]
   refine Rob.mono G (fun b x hb hI=>?_) rfl (R.ob k o ho)
   have hlt:=R.jf hb
   refine ⟨hold b hlt,fun h=>?_⟩
   rcases h with h | h
   · exact hI h
   · simp at hlt;omega
 · rw [hheap,Array.size_push];exact R.lt.push R.size
 · intro b hb hL
   rw [hheap,hold b (Nat.lt_of_lt_of_le hb R.size)];exact R.frame b hb hL
 · rw [hheap];have:=R.size;simp;omega
 · rw [hheap]
   exact hd _ _ (fun _ x=>.inl x) (.inr rfl) (by simp) G
theorem RM.ae8 (R:RM B0 h0 I0 L I β slots objs ctr a w) {w1:World} (hw1:w1.heap=w.heap) (c:Array Value) (e:TypeId) (fr:Nat × Nat) {d:D} {y:Value}
  (hd : ∀ h' (I':IS),(∀ b,I b→I' b)→I'.l w.heap.size→h'[w.heap.size]? = some (.cells c e fr)→Goes w.heap I β objs ctr h' I' β objs ctr→Rd h' I' β objs ctr d y)
  (hwo:iy w w1:=by first | exact ⟨rfl,rfl⟩ | assumption) :
  Post B0 h0 I0 L I β objs ctr w objs (w1.alloc (.cells c e fr)) d y:=by
 have hheap:(w1.alloc (.cells c e fr)).heap=w.heap.push (.cells c e fr):=by simp [World.alloc,hw1]
 have hold : ∀ b,b < w.heap.size→(w.heap.push (.cells c e fr))[b]? = w.heap[b]?:=by
  intro b hb;rw [Array.getElem?_push,if_neg (by omega)]
 have G:Goes w.heap I β objs ctr (w.heap.push (.cells c e fr)) (I.or (fun b=>b=w.heap.size)) β objs ctr :=
  ⟨fun _ x=>.inl x,fun b hb=>hold b (R.lt.1 b hb).1,fun _ x=>.inl x,fun _ _ x=>x,fun _ _ _ o' ho' _ _=>⟨o',ho',Ob.l9 _,rfl⟩⟩
 refine ⟨I.or (fun b=>b=w.heap.size),β,by rw [hheap];exact G,?_,R.dom,R.dist,R.own,?_,?_,?_,⟨hwo.1,hwo.2⟩,?_⟩
 · intro k o ho
   rw [hheap]
   refine Rob.mono G (fun b x hb hI=>?_) rfl (R.ob k o ho)
   have hlt:=R.jf hb
   refine ⟨hold b hlt,fun h=>?_⟩
   rcases h with h | h
   · exact hI h
   · simp at hlt;omega
 · rw [hheap,Array.size_push];exact R.lt.push R.size
 · intro b hb hL
   rw [hheap,hold b (Nat.lt_of_lt_of_le hb R.size)];exact R.frame b hb hL
 · rw [hheap];have:=R.size;simp;omega
 · rw [hheap]
   exact hd _ _ (fun _ x=>.inl x) (.inr rfl) (by simp) G
theorem RM.adQ (R:RM B0 h0 I0 L I β slots objs ctr a w) {id:Nat} {o o':Ob} {d:D} {y:Value}
  (ho:objs[id]? = some (some o)) (hl:o.like o') (hr:Rob w.heap I β objs ctr id o')
  (hd:Goes w.heap I β objs ctr w.heap I β (objs.set id (some o')) ctr→Rd w.heap I β (objs.set id (some o')) ctr d y) :
  Post B0 h0 I0 L I β objs ctr w (objs.set id (some o')) w d y:=by
 have hlt:id < objs.length:=(List.getElem?_eq_some_iff.1 ho).1
 have Bo:(objs.set id (some o'))[id]? = some (some o'):=List.getElem?_set_self hlt
 have look : ∀ k,k≠id→(objs.set id (some o'))[k]? = objs[k]?:=fun k hk=>List.getElem?_set_ne (Ne.symm hk)
 have hgen:o'.gen=o.gen:=by cases o<;>cases o'<;>simp [Ob.like] at hl<;>simp [Ob.gen,hl]
 have G:Goes w.heap I β objs ctr w.heap I β (objs.set id (some o')) ctr:=by
  refine ⟨fun _ x=>x,fun _ _=>rfl,fun _ x=>x,fun k g hg=>?_,fun k g hg o1 ho1 hgo _=>?_⟩
  · rcases hg with hg | ⟨hg,o1,ho1,hgo⟩
    · exact .inl hg
    · refine .inr ⟨hg,?_⟩
      by_cases h1:k=id
      · subst h1;rw [ho] at ho1;cases ho1;exact ⟨o',Bo,by omega⟩
      · exact ⟨o1,by rw [look k h1];exact ho1,hgo⟩
  · by_cases h1:k=id
    · subst h1;rw [Bo] at ho1;cases ho1;exact ⟨o,ho,hl,rfl⟩
    · rw [look k h1] at ho1;exact ⟨o1,ho1,Ob.l9 _,rfl⟩
 refine ⟨I,β,G,?_,?_,R.dist,R.own,R.lt,R.frame,R.size,iy.refl _,hd G⟩
 · intro k o1 ho1
   by_cases h1:k=id
   · subst h1
     rw [Bo] at ho1;cases ho1
     exact Rob.mono G (fun b x _ hI=>⟨rfl,hI⟩) rfl hr
   · rw [look k h1] at ho1
     exact Rob.mono G (fun b x _ hI=>⟨rfl,hI⟩) rfl (R.ob k o1 ho1)
 · intro k x hk
   by_cases h1:k=id
   · subst h1;exact ⟨o',Bo⟩
   · rw [look k h1];exact R.dom k x hk
theorem Ob.agE {o o':Ob} (h:o.like o'):o.gen=o'.gen:=by
 cases o<;>cases o'<;>simp [Ob.like] at h<;>simp [Ob.gen,h]
theorem Ob.afb {o o':Ob} (h:o.like o') (hl:o'.live):o.live:=by
 cases o<;>cases o'<;>simp [Ob.like,Ob.live] at *
theorem Ob.ad7 {o o' o'':Ob} (h:o.like o') (h':o'.like o''):o.like o'':=by
 cases o<;>cases o'<;>cases o''<;>simp [Ob.like] at *<;>simp_all
theorem Goes.trans {h1 h2 h3:Array Obj} {I1 I2 I3:IS} {β1 β2 β3:Nat→Option (Nat × Nat × Array Value)} {o1 o2 o3:List (Option Ob)} {c1 c2 c3:Nat}
  (G:Goes h1 I1 β1 o1 c1 h2 I2 β2 o2 c2) (G':Goes h2 I2 β2 o2 c2 h3 I3 β3 o3 c3):Goes h1 I1 β1 o1 c1 h3 I3 β3 o3 c3:=by
 refine ⟨fun b hb=>G'.gY b (G.gY b hb),fun b hb=>(G'.same b (G.gY b hb)).trans (G.same b hb),fun b hb=>G'.lst b (G.lst b hb),fun id g hg=>G'.gen id g (G.gen id g hg),fun id g hg o'' ho hgo hl=>?_⟩
 obtain ⟨o',a1,a2,a3⟩:=G'.obj id g (G.gen id g hg) o'' ho hgo hl
 obtain ⟨o,b1,b2,b3⟩:=G.obj id g hg o' a1 ((Ob.agE a2).trans hgo) (Ob.afb a2 hl)
 exact ⟨o,b1,Ob.ad7 b2 a2,a3.trans b3⟩
theorem Post.after {I1:IS} {w1 w':World} {aX:List (Option Ob)} {d:D} {y:Value} (hwo:iy w w1) (G:Goes w.heap I β objs ctr w1.heap I1 β objs ctr)
  (h:Post B0 h0 I0 L I1 β objs ctr w1 aX w' d y):Post B0 h0 I0 L I β objs ctr w aX w' d y:=by
 obtain ⟨I',β',G',r1,r2,r3,r4,r5,r6,r7,r8,r9⟩:=h.ex
 exact ⟨I',β',G.trans G',r1,r2,r3,r4,r5,r6,r7,hwo.trans r8,r9⟩
theorem RM.grow (R:RM B0 h0 I0 L I β slots objs ctr a w) {I1:IS} {w1:World} (h1:I.le I1) (h2:I.New w.heap.size I1 w1.heap.size)
  (h3 : ∀ b,b < w.heap.size→w1.heap[b]? = w.heap[b]?) (h4:w.heap.size≤w1.heap.size) (hwo:iy w w1) :
  Goes w.heap I β objs ctr w1.heap I1 β objs ctr∧RM B0 h0 I0 L I1 β slots objs ctr a w1:=by
 have G:Goes w.heap I β objs ctr w1.heap I1 β objs ctr :=
  ⟨h1.1,fun b hb=>h3 b (R.lt.1 b hb).1,h1.2,fun _ _ x=>x,fun _ _ _ o' ho' _ _=>⟨o',ho',Ob.l9 _,rfl⟩⟩
 refine ⟨G,R.len,fun t d ht=>?_,R.defers,fun k o ho=>?_,R.dom,R.dist,R.own,R.old.trans h1,R.lt.new R.size h2,fun b hb hL=>?_,by have:=R.size;omega,R.pos,G.stay R.pos R.stay,⟨hwo.1.trans R.wo.1,hwo.2.trans R.wo.2⟩,R.vg.mono G.gY G.same⟩
 · obtain ⟨y,y1,y2⟩:=R.slot t d ht
   exact ⟨y,y1,Rd.mono G _ _ y2⟩
 · refine Rob.mono G (fun b x hb hI=>?_) rfl (R.ob k o ho)
   have hlt:=R.jf hb
   refine ⟨h3 b hlt,fun h=>?_⟩
   rcases (h2.1 b h).2 with h | h
   · exact hI h
   · simp at hlt;omega
 · rw [h3 b (Nat.lt_of_lt_of_le hb R.size)];exact R.frame b hb hL
end
end Go.Vx
