/- Rows of another width: what the steps yield. No conditions. -/
import Derived.Test.YtckmalogclklmaaGreatDoorTP2
set_option linter.all false
section
namespace Go.Vx
set_option maxRecDepth 100000
def RO (l:List aQ):Prop:=∀ i,0≤i→i < ah l→wC (au aA l i)
theorem O9 (l:List aQ) (hb:ah l≤100000):Says (mQ l) (RO l):=by
 unfold mQ
 have hn:=bQ l
 refine .cut (fun o=>GI (RO l) o false) ?_ ?_
 · refine .loop (fun v=>0≤v∧v≤ah l∧∀ i,0≤i→i < v→wC (au aA l i)) (fun v=>(ah l-v).toNat) ⟨by omega,by omega,fun i a b=>by omega⟩ ?_
   rintro v ⟨v0,v1,hv⟩
   refine .ite (fun h=>?_) (fun h=>?_)
   · have h:v < ah l:=by simpa using h
     refine .chk ⟨v0,h⟩ (.bind _ (zF _) fun b hb'=>.ite (fun hc=>.ret (.inr ⟨rfl,fun q=>?_⟩)) (fun hc=>.chk (bZ (by omega) (by omega)) (.ret ⟨⟨by omega,by omega,fun i a c=>?_⟩,by show (_-_:Int).toNat < (_-_:Int).toNat;omega⟩)))
     · rw [hb'.2 (q v v0 h)] at hc;cases hc
     · by_cases e:i=v
       · subst e;exact hb'.1 (by cases b<;>simp at hc ⊢)
       · exact hv i a (by omega)
   · have h : ¬ v < ah l:=by simpa using h
     exact .ret (.inl ⟨rfl,fun i a c=>hv i a (by omega)⟩)
 · rintro o (⟨rfl,h⟩ | ⟨rfl,h⟩)
   · exact .go (.yes h)
   · exact .out ⟨fun h=>(by cases h),fun q=>absurd q h⟩
theorem S9 (c:aV):Yields (oQ c) (fun _=>True):=by
 unfold oQ DK
 exact .call rfl (.ret trivial)
theorem ZB {l:List aQ} (hl:RO l) (hb:ah l≤100000) {y:Int} (y0:0≤y) (y1:y < ah l):Yields (oK l y) (fun n=>0≤n∧n≤ah (au aA l y).aH∧ah (au aA l y).aH-1≤n):=by
 unfold oK
 have q:=hl y y0 y1
 have q1:=q.pos;have q2:=q.top
 have hnx : ∀ b:Bool,(if (if (au aA l y).bX=true then decide (y+1 < ah l) else false)=true then b else false)=true→y+1 < ah l:=by
  intro b h
  grind
 refine .chk ⟨y0,y1⟩ (.chk ⟨y0,y1⟩ (.chk (fun _=>bZ (by omega) (by omega)) (.chk (fun _=>⟨y0,y1⟩) (.chk (fun _=>bZ (by omega) (by omega)) (.chk (fun _=>⟨by omega,by omega⟩) (.bind (fun _=>True) ?_ fun v _=>.chk (fun _=>bZ (by omega) (by omega)) (.chk (fun h=>⟨by omega,hnx _ h⟩) (.chk (fun h=>?_) (.ite (fun h=>.chk (bZ (by omega) (by omega)) (.ret ⟨by omega,by omega,by omega⟩)) (fun h=>.ret ⟨by omega,by omega,by omega⟩))))))))))
 · exact Zu (fun _=>S9 _) (fun _=>⟨_,rfl,trivial⟩)
 · have:=hnx _ h
   have:=(hl (y+1) (by omega) this).pos
   exact ⟨by omega,by omega⟩
theorem ai9 {l:List aQ} (hl:RO l) (hb:ah l≤1000) (hw : ∀ i,0≤i→i < ah l→ah (au aA l i).aH≤4096) (y a:Int) (ya:0≤y∧y < ah l) (ha:0≤a∧a < ah (au aA l y).aH) :
  Yields (xZ l y a) (fun v=>v.2=true∧0≤v.1.j5∧v.1.j5≤1000∧0≤v.1.ko∧v.1.ko≤100000000):=by
 unfold xZ
 have hl4:=hw y ya.1 ya.2
 refine .call ((O9 l (by omega)).ok hl) (.chk (fun _=>⟨ya.1,ya.2⟩) (.ite (fun h=>?_) (fun h=>?_)))
 · exfalso;grind
 · refine .cut (fun o=>∃ p q:Int,o = .go (p,q)∧0≤p∧p≤1000∧0≤q∧q≤5000000) ?_ ?_
   · refine .loop (fun v=>0≤v.1∧v.1≤y∧0≤v.2.1∧v.2.1≤v.1∧0≤v.2.2∧v.2.2≤v.1*4096) (fun v=>(y-v.1).toNat) ⟨by simp,by simp;omega,by simp,by simp,by simp,by simp⟩ ?_
     rintro ⟨i,p,q⟩ ⟨i0,i1,p0,p1,q0,q1⟩
     simp only at i0 i1 p0 p1 q0 q1 ⊢
     refine .ite (fun h=>?_) (fun h=>?_)
     · have h:i < y:=by simpa using h
       refine .chk ⟨i0,by omega⟩ (.ite (fun _=>.bind _ (ZB hl (by omega) i0 (by omega)) fun n hn=>.chk (bZ (by omega) ?_) (.chk (bZ (by omega) (by omega)) (.ret ⟨⟨by simp only;omega,by simp only;omega,by simp only;omega,by simp only;omega,by simp only;omega,?_⟩,by simp only;omega⟩))) (fun _=>.chk (bZ (by omega) (by omega)) (.chk (bZ (by omega) (by omega)) (.ret ⟨⟨by simp only;omega,by simp only;omega,by simp only;omega,by simp only;omega,by simp only;omega,by simp only;omega⟩,by simp only;omega⟩))))
       · have:=hw i i0 (by omega)
         omega
       · have:=hw i i0 (by omega)
         simp only;omega
     · have h : ¬ i < y:=by simpa using h
       exact .ret ⟨p,q,rfl,p0,by omega,q0,by omega⟩
   · rintro o ⟨p,q,rfl,p0,p1,q0,q1⟩
     exact .go (.chk (bZ (by omega) (by omega)) (.ret ⟨rfl,p0,p1,by simp only;omega,by simp only;omega⟩))
end Go.Vx
end
section
namespace Go.Vx
set_option maxRecDepth 100000
set_option maxHeartbeats 1000000
def GR (c:aV):Prop:=oH c∧(c.fW=1∨c.fW=2)
structure yN (x:aI) (m:Int):Prop where
 dir:0≤x.dJ∧x.dJ≤2
 len:ah x.aH≤m
 cel : ∀ i,0≤i→i < ah x.aH→GR (au aD x.aH i)
def ku (l:List aI) (m:Int):Prop:=∀ i,0≤i→i < ah l→yN (au aC l i) m
theorem yN.up {x:aI} {m n:Int} (h:yN x m) (k:m≤n):yN x n:=⟨h.dir,Int.le_trans h.len k,h.cel⟩
theorem ku.up {l:List aI} {m n:Int} (h:ku l m) (k:m≤n):ku l n:=fun i a b=>(h i a b).up k
theorem ku.snoc {l:List aI} {m:Int} (h:ku l m) {x:aI} (hx:yN x m):ku (l++[x]) m:=fun i a b=>by
 rw [fI a]
 split
 · exact h i a ‹_›
 · have:i=ah l:=by simp only [aG,aB,aF] at b;omega
   subst this
   rw [Int.sub_self];exact hx
theorem ku.set {l:List aI} {m k:Int} (h:ku l m) (k0:0≤k) {x:aI} (hx:yN x m):ku (eB l k x) m:=fun i a b=>by
 rw [aJ] at b
 rw [gQ k0 a b]
 split
 · exact hx
 · exact h i a b
theorem oH.brd {c:aV} (h:oH c) (w:c.fW≠0):GR c:=by
 refine ⟨h,?_⟩
 unfold oH at h
 omega
theorem aev (l:List aV) (hb:ah l≤100000):Yields (oU l) (fun t=>ah t≤ah l∧∀ i,0≤i→i < ah t→au aD t i=au aD l i):=by
 unfold oU
 refine .cut (fun o=>∃ t:List aV,o = .go t∧ah t≤ah l∧∀ i,0≤i→i < ah t→au aD t i=au aD l i) ?_ ?_
 · refine .loop (fun t:List aV=>ah t≤ah l∧∀ i,0≤i→i < ah t→au aD t i=au aD l i) (fun t=>(ah t).toNat) ⟨Int.le_refl _,fun i a b=>rfl⟩ ?_
   rintro t ⟨t1,t2⟩
   have hn:=bQ t
   refine .chk (fun _=>bZ (by omega) (by omega)) (.chk (fun h=>?_) (.bind (fun b=>b=true→0 < ah t) ?_ fun b hb'=>.ite (fun h=>?_) (fun h=>.ret ⟨t,rfl,t1,t2⟩)))
   · have h:0 < ah t:=by simpa using h
     exact ⟨by omega,by omega⟩
   · refine Zu (fun h=>(S9 _).mono fun _ _ _=>by simpa using h) (fun _=>.ret fun h=>by cases h)
   · have h0:0 < ah t:=by grind
     refine .chk (bZ (by omega) (by omega)) (.chk ⟨by omega,by omega,by omega⟩ (.ret ⟨⟨?_,fun i a b=>?_⟩,?_⟩))
     · rw [aY (by omega) (by omega) (by omega)];omega
     · rw [aY (by omega) (by omega) (by omega)] at b
       rw [jT (by omega) a (by omega),Int.zero_add];exact t2 i a (by omega)
     · show (ah (jw t 0 (ah t-1))).toNat < (ah t).toNat
       rw [aY (by omega) (by omega) (by omega)];omega
 · rintro o ⟨t,rfl,t1,t2⟩
   exact .go (.ret ⟨t1,t2⟩)
structure acR (l:List aQ):Prop where
 row:RO l
 len:ah l≤20
 wid : ∀ i,0≤i→i < ah l→ah (au aA l i).aH≤40
theorem aja {l:List aQ} (hl:acR l):Yields (yc l) (fun L=>ku L 800∧ah L≤20∧(0 < ah l→0 < ah L)):=by
 unfold yc
 have hn:=bQ l
 have h20:=hl.len
 refine .call ((O9 l (by omega)).ok hl.row) (.ite (fun h=>by cases h) (fun _=>?_))
 refine .cut (fun o=>∃ L:List aI,o = .go L∧ku L 800∧ah L≤ah l∧(0 < ah l→0 < ah L)) ?_ ?_
 · refine .loop (fun p=>0≤p.2.1∧p.2.1≤ah l∧ku p.2.2 (p.2.1*40)∧ah p.2.2≤p.2.1∧(0 < p.2.1→0 < ah p.2.2)∧(p.1=true→0 < ah p.2.2)) (fun p=>(ah l-p.2.1).toNat)
    ⟨by simp,by simpa using hn,fun i a b=>by simp at b;omega,by simp,by simp,by simp⟩ ?_
   rintro ⟨g,v,L⟩ ⟨v0,v1,hL,l1,l2,l3⟩
   simp only at v0 v1 hL l1 l2 l3 ⊢
   have hnL:=bQ L
   refine .ite (fun h=>?_) (fun h=>?_)
   · have h:v < ah l:=by simpa using h
     have q:=hl.row v v0 h
     have qw:=hl.wid v v0 h
     refine .cut (fun o=>∃ L':List aI,o = .go L'∧ku L' ((v+1)*40)∧ah L'≤v+1∧0 < ah L') ?_ ?_
     · refine .chk ⟨v0,h⟩ (.cut (fun o=>∃ L':List aI,o = .go L'∧ku L' (v*40)∧ah L'≤v+1∧0 < ah L') ?_ ?_)
       · refine .ite (fun hg=>.chk (GN (by omega) (by omega) (by omega)) (.ret ⟨_,rfl,hL.snoc ⟨q.dir,by show (0:Int)≤v*40;omega,fun i a b=>by simp at b;omega⟩,by simp only [aG,aB,aF];omega,by have:=bQ L;simp only [aG,aB,aF];omega⟩)) (fun hg=>.ret ⟨_,rfl,hL,by omega,l3 (by simpa using hg)⟩)
       · rintro o ⟨L5,rfl,h5,n5,p5⟩
         refine .go (.chk (bZ (by omega) (by omega)) (.chk ⟨by omega,by omega⟩ (.cut (fun o=>∃ L':List aI,o = .go L'∧ku L' ((v+1)*40)∧ah L'≤v+1∧0 < ah L') ?_ ?_)))
         · refine .bind _ (ZB hl.row (by omega) v0 h) fun n hn=>.chk ⟨by omega,by omega,by omega⟩ ?_
           have hs:ah (jw (au aA l v).aH 0 n)=n:=by rw [aY (by omega) (by omega) (by omega)];omega
           refine .loop (fun p=>0≤p.1∧p.1≤n∧ah p.2=ah L5∧ku p.2 (v*40+p.1)) (fun p=>(n-p.1).toNat) ⟨by simp,by simp;omega,rfl,h5.up (by simp)⟩ ?_
           rintro ⟨w,L7⟩ ⟨w0,w1,n7,h7⟩
           simp only at w0 w1 n7 h7 ⊢
           refine .ite (fun hw=>?_) (fun hw=>?_)
           · have hw:w < n:=by simpa using hw
             refine .chk ⟨w0,by omega⟩ (.ite (fun hc=>?_) (fun _=>.chk (bZ (by omega) (by omega)) (.ret ⟨⟨by simp only;omega,by simp only;omega,n7,h7.up (by simp only;omega)⟩,by simp only;omega⟩)))
             have q7:=h7 (ah L7-1) (by omega) (by omega)
             have q7l:=q7.len
             have hge:au aD (jw (au aA l v).aH 0 n) w=au aD (au aA l v).aH w:=by rw [jT (by omega) w0 (by omega),Int.zero_add]
             rw [hge] at hc ⊢
             have hbr:GR (au aD (au aA l v).aH w):=(q.fit w w0 (by omega)).brd (by simpa using hc)
             refine .chk (GN (by have:=bQ (au aC L7 (ah L7-1)).aH;omega) (by omega) (by omega)) (.chk (bZ (by omega) (by omega)) (.ret ⟨⟨by simp only;omega,by simp only;omega,by simp only [aJ];exact n7,?_⟩,by simp only;omega⟩))
             refine (h7.up (by simp only;omega)).set (by omega) ⟨q7.dir,by simp only [aG,aB,aF];omega,fun i a b=>?_⟩
             simp only [aG,aB,aF] at b ⊢
             rw [fI a]
             split
             · exact q7.cel i a ‹_›
             · have:i=ah (au aC L7 (ah L7-1)).aH:=by omega
               subst this
               rw [Int.sub_self];exact hbr
           · exact .ret ⟨L7,rfl,h7.up (by omega),by omega,by omega⟩
         · rintro o ⟨L6,rfl,h6⟩
           exact .go (.ret ⟨L6,rfl,h6⟩)
     · rintro o ⟨L4,rfl,h4,n4,p4⟩
       exact .go (.chk (bZ (by omega) (by omega)) (.ret ⟨⟨by simp only;omega,by simp only;omega,h4,n4,fun _=>p4,fun _=>p4⟩,by simp only;omega⟩))
   · have h : ¬ v < ah l:=by simpa using h
     exact .ret ⟨L,rfl,hL.up (by omega),by omega,fun _=>l2 (by omega)⟩
 · rintro o ⟨L,rfl,hL,l1,l2⟩
   refine .go (.cut (fun o=>∃ L':List aI,o = .go L'∧ku L' 800∧ah L'=ah L) ?_ ?_)
   · have hn:=bQ L
     refine .loop (fun p=>0≤p.1∧p.1≤ah L∧ah p.2=ah L∧ku p.2 800) (fun p=>(ah L-p.1).toNat) ⟨by simp,by simpa using hn,rfl,hL⟩ ?_
     rintro ⟨v,M⟩ ⟨v0,v1,m1,hM⟩
     simp only at v0 v1 m1 hM ⊢
     refine .ite (fun h=>?_) (fun h=>.ret ⟨M,rfl,hM,m1⟩)
     have h:v < ah L:=by simpa using h
     rw [Int.zero_add]
     have q:=hM v v0 (by omega)
     have ql:=q.len
     refine .chk ⟨v0,by omega⟩ (.bind _ (aev _ (by omega)) fun t ht=>.chk ⟨v0,by omega⟩ (.chk (bZ (by omega) (by omega)) (.ret ⟨⟨by simp only;omega,by simp only;omega,by simp only [aJ];exact m1,hM.set v0 ⟨q.dir,by simp only;omega,fun i a b=>?_⟩⟩,by simp only;omega⟩)))
     simp only at b ⊢
     rw [ht.2 i a b];exact q.cel i a (by omega)
   · rintro o ⟨L',rfl,h1,h2⟩
     exact .go (.ret ⟨h1,by omega,fun h=>by have:=l2 h;omega⟩)
end Go.Vx
end
section
namespace Go.Vx
set_option maxRecDepth 100000
set_option maxHeartbeats 1000000
theorem ZC (c:aV) : ∃ l,su c=some l∧(c.fW=2→l=[c,aV.mk 0 iL 0 c.bI])∧(c.fW≠2→l=[c]):=by
 unfold su
 by_cases h:c.fW=2
 · refine ⟨_,?_,fun _=>rfl,fun k=>absurd h k⟩
   simp [ay,h]
 · refine ⟨_,?_,fun k=>absurd k h,fun _=>rfl⟩
   rw [show (c.fW == 2)=false by simpa using h]
   rfl
theorem GR.pen {c:aV} (h:GR c):GJ c.bI:=by
 have:=h.1
 unfold oH at this
 exact this.2.2.2.2.1
theorem GR.half {c:aV} (h:GR c):oH (aV.mk 0 iL 0 c.bI):=abG h.pen (.inl rfl)
theorem GR.row {c:aV} (h:GR c) {l:List aV} (h2:c.fW=2→l=[c,aV.mk 0 iL 0 c.bI]) (h1:c.fW≠2→l=[c]):wC (aQ.mk l false 0 false):=by
 by_cases e:c.fW=2
 · obtain rfl:=h2 e
   refine ⟨by simp,by simp,by simp,fun i a b=>?_,fun i a b=>?_⟩
   · simp only [aB,aF] at b ⊢
     obtain rfl | rfl:i=0∨i=1:=by omega
     · exact h.1
     · exact h.half
   · simp only [aB,aF] at b ⊢
     obtain rfl | rfl:i=0∨i=1:=by omega
     · refine ⟨fun k=>?_,fun _=>⟨by simp,rfl⟩⟩
       have k:c.fW=0:=k
       omega
     · refine ⟨fun _=>⟨by omega,e⟩,fun k=>?_⟩
       have k:(0:Int)=2:=k
       omega
 · obtain rfl:=h1 e
   have hw:c.fW=1:=by have:=h.2;omega
   refine ⟨by simp,by simp,by simp,fun i a b=>?_,fun i a b=>?_⟩
   · simp only [aB,aF] at b ⊢
     obtain rfl:i=0:=by omega
     exact h.1
   · simp only [aB,aF] at b ⊢
     obtain rfl:i=0:=by omega
     refine ⟨fun k=>?_,fun k=>absurd (k:c.fW=2) e⟩
     have k:c.fW=0:=k
     omega
theorem abM {x:aI} {m:Int} (h:yN x m) (hm:m≤100000):qV x=some true:=by
 have hl:=h.len
 refine Yields.eq (?_:Yields (qV x) (fun r=>r=true))
 unfold qV
 have hn:=bQ x.aH
 have hd:=h.dir
 refine .ite (fun k=>by grind) (fun _=>.cut (fun o=>o = .go ()) ?_ ?_)
 · refine .loop (fun v=>0≤v∧v≤ah x.aH) (fun v=>(ah x.aH-v).toNat) ⟨by omega,hn⟩ ?_
   rintro v ⟨v0,v1⟩
   refine .ite (fun k=>?_) (fun k=>.ret rfl)
   have k:v < ah x.aH:=by simpa using k
   have q:=h.cel v v0 k
   obtain ⟨l,e0,e1,e2⟩:=ZC (au aD x.aH v)
   have hw:(if (!((au aD x.aH v).fW == 1))=true then (!((au aD x.aH v).fW == 2)) else false)=false:=by
    have:=q.2
    grind
   rw [hw]
   refine .chk ⟨v0,k⟩ (.call (b:=l) (by simpa using e0) (.call (b:=true) ?_ (.ite (fun k=>by simp at k) (fun _=>.chk (bZ (by omega) (by omega)) (.ret ⟨⟨by omega,by omega⟩,by show (_-_:Int).toNat < (_-_:Int).toNat;omega⟩)))))
   simpa using (zF _).ok (q.row e1 e2)
 · rintro o rfl
   exact .go (.ret rfl)
theorem aoz (w:Int):Yields (wT w lq) (fun r=>r.bX=false∧ah r.aH=bR 1 (bH w 4096)∧∀ i,0≤i→i < ah r.aH→au aD r.aH i=aV.mk 0 iL 1 lq):=by
 unfold wT
 have hw:=AQ w 4096 (by omega)
 refine .cut (fun o=>o = .go (iG (bR 1 (bH w 4096)) aD)) (.call (b:=_) rfl (.chk (ai5 (by omega) (by omega) (by omega)) (.ret rfl))) ?_
 rintro o rfl
 generalize bR 1 (bH w 4096)=n at *
 have hr:ah (iG n aD)=n:=bn _ (by omega)
 refine .go (.bind _ (agZ _ 0 _ _ (by omega) (by omega) (by omega) (by omega) Y3) fun t ht=>.chk ht.1 (.ret ⟨rfl,by simp only;omega,fun i a b=>?_⟩))
 simp only at b ⊢
 rw [ht.2 i a (by omega),if_pos (by omega)]
theorem ah2 {x:aI} (h:yN x 800) {w:Int} (hw:1≤w∧w≤4096):Yields (nE x w) (fun R=>tY R w∧1≤ah R∧ah R≤801):=by
 unfold nE
 have hl:=h.len
 have hn:=bQ x.aH
 refine .call (abM h (by omega)) (.ite (fun k=>by cases k) (fun _=>?_))
 simp only [zG hw.1 hw.2]
 refine .loop (fun p=>ah p.1+ah p.2≤800∧(∀ i,0≤i→i < ah p.1→GR (au aD p.1 i))∧tY p.2 w) (fun p=>(ah p.1).toNat) ⟨by simp;omega,h.cel,fun i a b=>by simp at b;omega⟩ ?_
 rintro ⟨left,L⟩ ⟨n1,hc,hR⟩
 simp only at n1 hc hR ⊢
 have nl:=bQ left
 have nL:=bQ L
 refine .bind _ (aoz w) fun r hr=>?_
 obtain ⟨r1,r2,r3⟩:=hr
 rw [zG hw.1 hw.2] at r2
 rw [r2]
 have hrow : ∀ {o:List aV} {b:Bool},ah o=w→(∀ i,0≤i→i < w→oH (au aD o i))→(∀ i,0≤i→i < w→AP o i)→wC (aQ.mk o b x.dJ x.bL):=fun h1 h2 h3=>⟨by simp only;omega,by simp only;omega,h.dir,fun i a b=>h2 i a (by simp only at b;omega),fun i a b=>h3 i a (by simp only at b;omega)⟩
 have snoc : ∀ {t:aQ},wC t→ah t.aH=w→tY (L++[t]) w:=fun {t} h1 h2 i a b=>by
  rw [fI a]
  split
  · exact hR i a ‹_›
  · have:i=ah L:=by simp only [aG,aB,aF] at b;omega
    subst this
    rw [Int.sub_self];exact ⟨h1,h2⟩
 refine .cut (fun o=>(∃ t,o = .go t∧ah t=w∧(∀ i,0≤i→i < w→oH (au aD t i))∧(∀ i,0≤i→i < w→AP t i)) ∨
  ∃ l' t,o = .out (.go (l',L++[aQ.mk t true x.dJ x.bL]))∧ah l' < ah left∧(∀ i,0≤i→i < ah l'→GR (au aD l' i))∧ah t=w∧(∀ i,0≤i→i < w→oH (au aD t i))∧(∀ i,0≤i→i < w→AP t i)) ?_ ?_
 · refine .loop (fun p=>0≤p.1∧p.1≤w∧0≤p.2.1∧p.2.1≤ah left∧(p.2.1=0→p.1=0)∧ah p.2.2=w∧(∀ i,0≤i→i < w→oH (au aD p.2.2 i))∧(∀ i,0≤i→i < p.1→AP p.2.2 i∧((au aD p.2.2 i).fW=2→i+1 < p.1))∧∀ i,p.1≤i→i < w→(au aD p.2.2 i).fW=1) (fun p=>(ah left-p.2.1).toNat)
    ⟨by simp,by simp;omega,by simp,by simpa using nl,by simp,r2,fun i a b=>?_,fun i a b=>by simp at b;omega,fun i a b=>?_⟩ ?_
   · simp only at b ⊢
     rw [r3 i a (by omega)];exact abH Y3
   · simp only at a b ⊢
     rw [r3 i a (by omega)]
   · rintro ⟨at_,v,o⟩ ⟨a0,a1,v0,v1,va,ol,oc,op,ow⟩
     simp only at a0 a1 v0 v1 va ol oc op ow ⊢
     have ag0 : ∀ i,0≤i→i < w→AP o i:=fun i a b=>by
      by_cases hi:i < at_
      · exact (op i a hi).1
      · have:=ow i (by omega) b
        exact ⟨fun k=>by omega,fun k=>by omega⟩
     refine .ite (fun k=>?_) (fun k=>.ret (.inl ⟨o,rfl,ol,oc,ag0⟩))
     have k:v < ah left:=by simpa using k
     have q:=hc v v0 k
     have q2:=q.2
     refine .chk ⟨v0,k⟩ (.ite (fun _=>.chk (bZ (by omega) (by omega)) (.ret ⟨⟨a0,a1,by simp only;omega,by simp only;omega,fun z=>by simp only at z;omega,ol,oc,op,ow⟩,by simp only;omega⟩)) (fun k1=>?_))
     have k1 : ¬ w < (au aD left v).fW:=by simpa using k1
     refine .chk (bZ (by omega) (by omega)) (.ite (fun k2=>?_) (fun k2=>?_))
     · have k2:w < at_+(au aD left v).fW:=by simpa using k2
       have hv:0 < v:=by
        by_cases hv:v=0
        · have:=va hv;omega
        · omega
       refine .chk (GN (by omega) (by omega) (by omega)) (.chk ⟨by omega,by omega,by omega⟩ (.ret (.inr ⟨_,o,rfl,?_,fun i a b=>?_,ol,oc,ag0⟩)))
       · rw [aY (by omega) (by omega) (by omega)];omega
       · rw [aY (by omega) (by omega) (by omega)] at b
         rw [jT (by omega) a (by omega)]
         exact hc _ (by omega) (by omega)
     · have k2 : ¬ w < at_+(au aD left v).fW:=by simpa using k2
       obtain ⟨l,e0,e1,e2⟩:=ZC (au aD left v)
       have hlen:ah l=(au aD left v).fW:=by
        by_cases e:(au aD left v).fW=2
        · rw [e1 e,e];simp
        · rw [e2 e];simp;omega
       have hmin:bH (ah l) (w-at_)=ah l:=by unfold bH;split<;>omega
       refine .chk ⟨by omega,by omega,by omega⟩ (.call e0 ?_)
       rw [hmin,Int.zero_add]
       have hg : ∀ i,0≤i→au aD (En o at_ l (ah l)) i=if at_≤i∧i < at_+ah l then au aD l (i-at_) else au aD o i:=fun i a=>pz a0 (by omega) (by omega) (by omega) a
       have hll:ah (En o at_ l (ah l))=w:=by rw [bV a0 (by omega) (by omega) (by omega)];exact ol
       have hrq:=q.row e1 e2
       refine .chk (bZ (by omega) (by omega)) (.chk (bZ (by omega) (by omega)) (.ret ⟨⟨by simp only;omega,by simp only;omega,by simp only;omega,by simp only;omega,fun z=>by simp only at z;omega,hll,fun i a b=>?_,fun i a b=>?_,fun i a b=>?_⟩,by simp only;omega⟩))
       · simp only;rw [hg i a]
         split
         · exact hrq.fit (i-at_) (by omega) (by simp only;omega)
         · exact oc i a b
       · simp only at b ⊢
         by_cases hi:i < at_
         · have:=op i a hi
           have e : ∀ j,0≤j→j < at_→au aD (En o at_ l (ah l)) j=au aD o j:=fun j b0 b1=>by rw [hg j b0,if_neg (by omega)]
           refine ⟨⟨fun z=>?_,fun z=>?_⟩,fun z=>?_⟩
           · rw [e i a hi] at z
             have:=this.1.1 z
             rw [e (i-1) (by omega) (by omega)]
             exact this
           · rw [e i a hi] at z
             have h1:=this.2 z
             have h2:=this.1.2 z
             rw [e (i+1) (by omega) (by omega),hll]
             exact ⟨by omega,h2.2⟩
           · rw [e i a hi] at z
             have h1:=this.2 z
             omega
         · have p:=hrq.pair (i-at_) (by omega) (by simp only;omega)
           have e : ∀ j,at_≤j→j < at_+ah l→au aD (En o at_ l (ah l)) j=au aD l (j-at_):=fun j b0 b1=>by rw [hg j (by omega),if_pos ⟨b0,b1⟩]
           have ei:at_≤i∧i < at_+ah l:=⟨by omega,by omega⟩
           simp only at p
           refine ⟨⟨fun z=>?_,fun z=>?_⟩,fun z=>?_⟩
           · rw [e i ei.1 ei.2] at z
             have:=p.1 z
             rw [e (i-1) (by omega) (by omega),show i-1-at_=i-at_-1 by omega]
             exact ⟨by omega,this.2⟩
           · rw [e i ei.1 ei.2] at z
             have:=p.2 z
             rw [e (i+1) (by omega) (by omega),hll,show i+1-at_=i-at_+1 by omega]
             exact ⟨by omega,this.2⟩
           · rw [e i ei.1 ei.2] at z
             have:=p.2 z
             omega
       · simp only at a b ⊢
         rw [hg i (by omega),if_neg (by omega)]
         exact ow i (by omega) b
 · rintro o (⟨t,rfl,t1,t2,t3⟩ | ⟨l',t,rfl,l1,l2,t1,t2,t3⟩)
   · refine .go (.chk (GN (by omega) (by omega) (by omega)) (.ret ?_))
     exact ⟨snoc (hrow t1 t2 t3) t1,by simp only [aG,aB,aF];omega,by simp only [aG,aB,aF];omega⟩
   · have:=bQ l'
     refine .out ⟨⟨by simp only [aG,aB,aF];omega,l2,snoc (hrow t1 t2 t3) t1⟩,by simp only;omega⟩
end Go.Vx
end
section
namespace Go.Vx
set_option maxRecDepth 100000
set_option maxHeartbeats 1000000
noncomputable def spl (w:Int) (x:aI):List aQ:=(nE x w).getD []
theorem Vs {x:aI} (h:yN x 800) {w:Int} (hw:1≤w∧w≤4096):nE x w=some (spl w x)∧tY (spl w x) w∧1≤ah (spl w x)∧ah (spl w x)≤801:=by
 obtain ⟨r,h1,h2⟩:=ah2 h hw
 have e:spl w x=r:=by unfold spl;rw [h1];rfl
 rw [e]
 exact ⟨h1,h2⟩
theorem X8 {α:Type} (d:α) (l:List α) {v:Int} (v0:0≤v) (v1:v < ah l):l.take (v+1).toNat=l.take v.toNat++[au d l v]:=by
 have hv:v.toNat < l.length:=by unfold ah at v1;omega
 have e:(v+1).toNat=v.toNat+1:=by omega
 rw [e,List.take_add_one]
 congr 1
 unfold au
 rw [List.getD_eq_getElem?_getD,List.getElem?_eq_getElem hv]
 rfl
theorem Uc {w:Int} (hw:1≤w∧w≤4096) (L:List aI) (h : ∀ x∈L,yN x 800):ah L≤ah (L.flatMap (spl w))∧ah (L.flatMap (spl w))≤801*ah L:=by
 induction L with
 | nil=>simp
 | cons x L ih =>
  have h1:=Vs (h x (List.mem_cons_self ..)) hw
  have h2:=ih fun y hy=>h y (List.mem_cons_of_mem _ hy)
  simp only [List.flatMap_cons,aG,aB]
  omega
theorem aew {w:Int} (hw:1≤w∧w≤4096) (L:List aI) (h : ∀ x∈L,yN x 800):tY (L.flatMap (spl w)) w:=by
 induction L with
 | nil=>intro i a b;simp at b;omega
 | cons x L ih =>
  have h1:=(Vs (h x (List.mem_cons_self ..)) hw).2.1
  have h2:=ih fun y hy=>h y (List.mem_cons_of_mem _ hy)
  intro i a b
  simp only [List.flatMap_cons,aG] at b ⊢
  rw [fI a]
  split
  · exact h1 i a ‹_›
  · exact h2 _ (by omega) (by omega)
theorem ku.mem {L:List aI} {m:Int} (h:ku L m) : ∀ x∈L,yN x m:=by
 intro x hx
 obtain ⟨n,hn,rfl⟩:=List.getElem_of_mem hx
 have:=h n (by omega) (by unfold ah;omega)
 unfold au at this
 rwa [Int.toNat_natCast,List.getD_eq_getElem?_getD,List.getElem?_eq_getElem hn] at this
theorem X9 {w:Int} (hw:1≤w∧w≤4096) {L:List aI} (h:ku L 800) (hl:ah L≤20):l7 L w=some (L.flatMap (spl w)):=by
 refine Yields.eq (?_:Yields (l7 L w) (fun r=>r=L.flatMap (spl w)))
 unfold l7
 have hn:=bQ L
 refine .cut (fun o=>o = .go (L.flatMap (spl w))) ?_ ?_
 · refine .loop (fun p=>0≤p.1∧p.1≤ah L∧p.2=(L.take p.1.toNat).flatMap (spl w)) (fun p=>(ah L-p.1).toNat) ⟨by simp,by simpa using hn,by simp⟩ ?_
   rintro ⟨v,R⟩ ⟨v0,v1,e⟩
   simp only at v0 v1 e ⊢
   refine .ite (fun k=>?_) (fun k=>?_)
   · have k:v < ah L:=by simpa using k
     obtain ⟨s1,s2,s3,s4⟩:=Vs (h v v0 k) hw
     have hf:=Uc hw (L.take v.toNat) (fun x hx=>h.mem x (List.mem_of_mem_take hx))
     have ht:ah (L.take v.toNat)≤ah L:=by unfold ah;simp;omega
     rw [← e] at hf
     refine .chk ⟨v0,k⟩ (.call s1 (.chk (GN (by have:=bQ R;omega) (by omega) (by omega)) (.chk (bZ (by omega) (by omega)) (.ret ⟨⟨by simp only;omega,by simp only;omega,?_⟩,by simp only;omega⟩))))
     simp only
     rw [X8 aC L v0 k,List.flatMap_append,e]
     simp
   · have k : ¬ v < ah L:=by simpa using k
     refine .ret ?_
     show Fl.go R=Fl.go _
     rw [e,List.take_of_length_le (by unfold ah at k;omega)]
 · rintro o rfl
   exact .go (.ret rfl)
theorem ah3 {w:Int} (hw:1≤w∧w≤4096) {L:List aI} (h:ku L 800) (hl:ah L≤20) (h1:0 < ah L) (p:j4) (pa:p.ko≤1000000000) :
  Yields (wm L w p) (fun v=>0≤v.1∧v.1 < ah (L.flatMap (spl w))∧0≤v.2.1∧v.2.1 < w):=by
 unfold wm
 have hfl:=Uc hw L h.mem
 refine .ite (fun k=>.ret ⟨by simp only;omega,by simp only;omega,by simp only;omega,by simp only;omega⟩) (fun k=>?_)
 have k:0≤p.j5∧p.j5 < ah L∧0≤p.ko:=by grind
 obtain ⟨k0,k1,k2⟩:=k
 refine .cut (fun o=>o = .go ()) ?_ ?_
 · refine .loop (fun v=>0≤v∧v≤ah L) (fun v=>(ah L-v).toNat) ⟨by omega,by omega⟩ ?_
   rintro v ⟨v0,v1⟩
   refine .ite (fun k=>?_) (fun k=>.ret rfl)
   have k:v < ah L:=by simpa using k
   exact .chk ⟨v0,k⟩ (.call (abM (h v v0 k) (by omega)) (.ite (fun k=>by cases k) (fun _=>.chk (bZ (by omega) (by omega)) (.ret ⟨⟨by omega,by omega⟩,by show (_-_:Int).toNat < (_-_:Int).toNat;omega⟩))))
 · rintro o rfl
   have es:jw L 0 p.j5=L.take p.j5.toNat:=by unfold jw;simp
   have hs:l7 (jw L 0 p.j5) w=some ((L.take p.j5.toNat).flatMap (spl w)):=by
    rw [es]
    refine X9 hw (fun i a b=>?_) (by unfold ah;simp;unfold ah at hl;omega)
    have e:au aC (L.take p.j5.toNat) i=au aC L i:=by
     rw [← es,jT (by omega) a (by rw [← es,aY (by omega) (by omega) (by omega)] at b;omega),Int.zero_add]
    rw [e]
    exact h i a (by unfold ah at b ⊢;simp at b;omega)
   obtain ⟨s1,s2,s3,s4⟩:=Vs (h p.j5 k0 k1) hw
   have hsum:ah ((L.take p.j5.toNat).flatMap (spl w))+ah (spl w (au aC L p.j5))≤ah (L.flatMap (spl w)):=by
    have e:L.flatMap (spl w)=(L.take (p.j5+1).toNat).flatMap (spl w)++(L.drop (p.j5+1).toNat).flatMap (spl w):=by
     rw [← List.flatMap_append,List.take_append_drop]
    rw [e,X8 aC L k0 k1,List.flatMap_append]
    simp only [aG,List.flatMap_cons,List.flatMap_nil,List.append_nil]
    have:=bQ ((L.drop (p.j5+1).toNat).flatMap (spl w))
    omega
   have hnn:=bQ ((L.take p.j5.toNat).flatMap (spl w))
   refine .go (.chk ⟨by omega,by omega,by omega⟩ (.call hs ?_))
   simp only
   refine .chk ⟨k0,k1⟩ (.call s1 (.chk (bZ (by omega) (by omega)) ?_))
   generalize spl w (au aC L p.j5)=R at *
   generalize ah ((L.take p.j5.toNat).flatMap (spl w))=y at *
   have hRS:RO R:=fun i a b=>(s2 i a b).1
   refine .cut (fun o=>(∃ a b:Int,o = .out (a,b,true)∧0≤a∧a < y+ah R∧0≤b∧b < w)∨∃ l:Int,o = .go l∧0≤l) ?_ ?_
   · refine .loop (fun q=>0≤q.1∧q.1≤1000000000∧0≤q.2∧q.2≤ah R-1) (fun q=>(ah R-1-q.2).toNat) ⟨by simpa using k2,by simpa using pa,by simp,by simp;omega⟩ ?_
     rintro ⟨l,v⟩ ⟨l0,l1,v0,v1⟩
     simp only at l0 l1 v0 v1 ⊢
     refine .ite (fun k=>?_) (fun k=>.ret (.inr ⟨l,rfl,l0⟩))
     have k:v < ah R-1:=by simpa using k
     have ajb:=(s2 v v0 (by omega)).2
     refine .bind _ (ZB hRS (by omega) v0 (by omega)) fun n hn=>.ite (fun c=>?_) (fun c=>?_)
     · have c:l < n:=by simpa using c
       exact .chk (bZ (by omega) (by omega)) (.ret (.inl ⟨_,_,rfl,by omega,by omega,l0,by omega⟩))
     · have c : ¬ l < n:=by simpa using c
       exact .chk (bZ (by omega) (by omega)) (.chk (bZ (by omega) (by omega)) (.ret ⟨⟨by simp only;omega,by simp only;omega,by simp only;omega,by simp only;omega⟩,by simp only;omega⟩))
   · rintro o (⟨a,b,rfl,a0,a1,b0,b1⟩ | ⟨l,rfl,l0⟩)
     · exact .out ⟨a0,by simp only;omega,b0,b1⟩
     · refine .go (.chk (bZ (by omega) (by omega)) (.chk ⟨by omega,by omega⟩ ?_))
       have e:(0:Int)+(ah R-1)=ah R-1:=by omega
       have ajb:=(s2 (ah R-1) (by omega) (by omega)).2
       rw [e,ajb]
       refine .chk (bZ (by omega) (by omega)) (.ret ⟨by simp only;omega,by simp only;omega,?_,?_⟩)
       · simp only;unfold bH;split<;>omega
       · simp only;unfold bH;split<;>omega
theorem afN {l:List aQ} (hl:acR l) {w:Int} (hw:1≤w∧w≤4096) (y a:Int) (ya:0≤y∧y < ah l) (ha:0≤a∧a < ah (au aA l y).aH) :
  Yields (uM l w y a) (fun v=>tY v.1 w∧ah v.1≤16020∧0≤v.2.1∧v.2.1 < ah v.1∧0≤v.2.2∧v.2.2 < w):=by
 unfold uM
 have h20:=hl.len
 refine .bind _ (ai9 hl.row (by omega) (fun i a b=>by have:=hl.wid i a b;omega) y a ya ha) fun v hv=>?_
 obtain ⟨v1,v2,v3,v4,v5⟩:=hv
 simp only [v1]
 refine .ite (fun k=>by cases k) (fun _=>.bind _ (aja hl) fun L hL=>?_)
 obtain ⟨j1,j2,j3⟩:=hL
 have hf:=Uc hw L j1.mem
 refine .bind _ (ah3 hw j1 j2 (j3 (by omega)) _ (by omega)) fun q hq=>.call (X9 hw j1 j2) (.ret ?_)
 exact ⟨aew hw L j1.mem,by simp only;omega,hq⟩
end Go.Vx
end
