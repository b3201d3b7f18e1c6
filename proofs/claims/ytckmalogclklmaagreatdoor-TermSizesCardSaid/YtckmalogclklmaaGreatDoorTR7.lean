/- Screens and states of another size. No conditions. -/
import Derived.Test.YtckmalogclklmaaGreatDoorTR4
import Derived.Test.YtckmalogclklmaaGreatDoorTTwA
set_option linter.all false
section
namespace Go.Vx
set_option maxRecDepth 100000
set_option maxHeartbeats 1000000
theorem afO {r:aQ} (q:wC r):Yields (AA r) (fun _=>True):=by
 unfold AA
 have h1:=q.pos;have h2:=q.top
 refine .call ((zF r).ok q) (.ite (fun k=>by cases k) (fun _=>.cut (fun o=>∃ n:Int,o = .go n) ?_ ?_))
 · refine .loop (fun p=>0≤p.2∧p.2≤ah r.aH) (fun p=>(ah r.aH-p.2).toNat) ⟨by simp,by simp;omega⟩ ?_
   rintro ⟨n,v⟩ ⟨v0,v1⟩
   simp only at v0 v1 ⊢
   refine .ite (fun k=>?_) (fun k=>.ret ⟨n,rfl⟩)
   have k:v < ah r.aH:=by simpa using k
   have qc:=q.fit v v0 k
   have hw:1≤bR (au aD r.aH v).fW 1∧bR (au aD r.aH v).fW 1≤2:=by
    unfold oH at qc
    unfold bR
    split<;>omega
   exact .chk ⟨v0,k⟩ (.ite (fun _=>.chk (bZ (by omega) (by omega)) (.chk (bZ (by omega) (by omega)) (.ret ⟨⟨by simp only;omega,by simp only;omega⟩,by simp only;omega⟩))) (fun _=>.chk (bZ (by omega) (by omega)) (.ret ⟨⟨by simp only;omega,by simp only;omega⟩,by simp only;omega⟩)))
 · rintro o ⟨n,rfl⟩
   exact .go (.ret trivial)
theorem ajc {s:bK} (q:ze s):Yields (xY s) (fun n=>s.fC.fY+1≤n∧n≤s.fR.fH):=by
 unfold xY
 have qy:=q.cur.y;have qh:=q.h;have qr:=q.cur.reg.h
 refine .cut (fun o=>∃ n:Int,o = .go n∧s.fC.fY+1≤n∧n≤s.fR.fH) ?_ ?_
 · refine .loop (fun n=>s.fC.fY+1≤n∧n≤s.fR.fH) (fun n=>n.toNat) ⟨by omega,by omega⟩ ?_
   rintro n ⟨n0,n1⟩
   refine .chk (bZ (by omega) (by omega)) (.chk (fun _=>bZ (by omega) (by omega)) (.chk (fun k=>?_) (.bind (fun _=>True) ?_ fun v _=>.ite (fun k=>?_) (fun k=>.ret ⟨n,rfl,n0,n1⟩))))
   · have k:s.fC.fY+1 < n:=by simpa using k
     exact ⟨by omega,by omega⟩
   · refine Zu (fun k=>?_) (fun _=>⟨_,rfl,trivial⟩)
     have k:s.fC.fY+1 < n:=by simpa using k
     exact afO (q.grid.row _ (by omega) (by omega))
   · have k:s.fC.fY+1 < n:=by grind
     exact .chk (bZ (by omega) (by omega)) (.ret ⟨⟨by omega,by omega⟩,by show (n-1:Int).toNat < n.toNat;omega⟩)
 · rintro o ⟨n,rfl,h⟩
   exact .go (.ret h)
theorem JQ {c:cB} {r:bS} (q:uV c r) (h w:Int) :
  Yields (nW c r h w) (fun v=>v.2=bS.mk (bR 1 (bH h 1000)) (bR 1 (bH w 4096)) 0 (bR 1 (bH h 1000))∧uV v.1 v.2∧v.1.bX=false∧v.1.dH=false):=by
 unfold nW
 refine .bind _ (ZA h w) fun v hv=>.call ((Mc c r).ok q) (.ite (fun k=>by cases k) (fun _=>?_))
 obtain ⟨h1,h2⟩:=hv
 have r1:=h1.reg
 have rw:=r1.w;have rh:=r1.h;have rt:=r1.t
 refine .chk (bZ (by omega) (by omega)) (.bind _ (II _ 0 _ (by omega)) fun x hx=>.chk (bZ (by omega) (by omega)) (.bind _ (II _ 0 _ (by omega)) fun y hy=>.ret ⟨h2,?_,rfl,rfl⟩))
 exact ⟨r1,⟨by simp only;omega,by simp only;omega⟩,⟨by simp only;omega,by simp only;omega⟩,fun k=>(by cases k),fun k=>(by cases k),q.pen,q.set⟩
theorem aa4 {s:eF} (q:GK s) (w:Int):Yields (yh s w) (fun t=>GK t∧t.fW=bR 1 (bH w 4096)):=by
 unfold yh
 have hl:=q.len
 have hw:=q.w
 have hn:=bQ s.fL
 have hc:=AQ w 4096 (by omega)
 refine .call ((Zz s).ok q) (.ite (fun h=>by cases h) fun _=>.call (b:=bR 1 (bH w 4096)) rfl ?_)
 generalize bR 1 (bH w 4096)=v at *
 refine .call (afM (p:=fun y=>decide (y < v)) (by omega) fun y=>rfl) ?_
 obtain ⟨_,g2,g3⟩:=Md.1 q
 have hdiv:Int.tdiv ((s.fW+8)-1) 8=(s.fW+7) / 8:=by
  rw [Int.tdiv_eq_ediv_of_nonneg (by omega)]
  congr 1;omega
 refine .cut (fun o=>∃ l:List Int,o = .go l∧GK (eF.mk l v)) ?_ ?_
 · refine .chk (bZ (by omega) (by omega)) (.chk (bZ (by omega) (by omega)) (.chk (by omega) (.chk (by rw [hdiv];exact bZ (by omega) (by omega)) (.chk (by rw [hdiv];exact bZ (by omega) (by omega)) ?_))))
   rw [hdiv]
   refine .loop (fun p=>GK (eF.mk p.2 v)∧0≤p.1∧p.1≤5000∧∀ x∈p.2,x < p.1) (fun p=>(5000-p.1).toNat) ⟨Md.2 ⟨hc,?_,g3.filter _⟩,by simp only;omega,by simp only;omega,?_⟩ ?_
   · intro x hx
     simp only [List.mem_filter,decide_eq_true_eq] at hx
     exact ⟨(g2 x hx.1).1,hx.2⟩
   · intro x hx
     simp only [List.mem_filter,decide_eq_true_eq] at hx ⊢
     have:=(g2 x hx.1).2
     omega
   · rintro ⟨a,l⟩ ⟨ql,a0,a1,hx⟩
     simp only at ql a0 a1 hx ⊢
     refine .ite (fun k=>?_) (fun k=>.ret ⟨l,rfl,ql⟩)
     have k:a < v:=by simpa using k
     have e1:ah l≤v:=ql.len
     have e0:=bQ l
     obtain ⟨_,f2,f3⟩:=Md.1 ql
     refine .chk (GN (by omega) (by omega) (by omega)) (.chk (bZ (by omega) (by omega)) (.ret ⟨⟨Md.2 ⟨hc,?_,?_⟩,by simp only;omega,by simp only;omega,?_⟩,by simp only;omega⟩))
     · intro x h
       simp only [List.mem_append,List.mem_singleton] at h
       rcases h with h | h
       · exact f2 x h
       · subst h;exact ⟨a0,k⟩
     · show List.Pairwise _ (l++[a])
       rw [List.pairwise_append]
       refine ⟨f3,by simp,fun x h y h'=>?_⟩
       simp only [List.mem_singleton] at h'
       subst h';exact hx x h
     · intro x h
       simp only [List.mem_append,List.mem_singleton] at h ⊢
       rcases h with h | h
       · have:=hx x h;omega
       · subst h;omega
 · rintro o ⟨l,rfl,h⟩
   exact .go (.ret ⟨h,rfl⟩)
theorem Ta {s:bK} (q:ze s) (h20:s.fR.fH≤20) (w40:s.fR.fW≤40) (h w:Int) :
  Yields (qo s h w) (fun t=>ze t∧t.fR.fH=bR 1 (bH h 1000)∧t.fR.fW=bR 1 (bH w 4096)∧t.fK.iF=s.fK.iF):=by
 unfold qo
 have ch:=AQ h 1000 (by omega)
 have cw:=AQ w 4096 (by omega)
 refine .call q.ok (.ite (fun k=>by cases k) fun _=>?_)
 generalize eh:bR 1 (bH h 1000)=H at *
 generalize ew:bR 1 (bH w 4096)=W at *
 have qy:=q.cur.y;have qx:=q.cur.x;have qh:=q.h;have qw:=q.w
 refine .ite (fun k=>.ret ⟨q,by grind,by grind,rfl⟩) fun k=>.bind _ (ajc q) fun n hn=>.chk ⟨by omega,by omega,by omega⟩ ?_
 have hs:ah (jw s.fG.aS 0 n)=n:=by rw [aY (by omega) (by omega) (by omega)];omega
 have hg : ∀ i,0≤i→i < n→au aA (jw s.fG.aS 0 n) i=au aA s.fG.aS i:=fun i a b=>by rw [jT (by omega) a (by omega),Int.zero_add]
 have hB:acR (jw s.fG.aS 0 n):=⟨fun i a b=>by rw [hg i a (by omega)];exact q.grid.row i a (by omega),by omega,fun i a b=>by rw [hg i a (by omega),q.grid.wid i a (by omega)];omega⟩
 refine .bind _ (afN hB cw s.fC.fY s.fC.fX ⟨qy.1,by omega⟩ ⟨qx.1,by rw [hg _ qy.1 (by omega),q.grid.wid _ qy.1 (by omega)];omega⟩) fun v hv=>?_
 obtain ⟨v1,v2,v3,v4,v5,v6⟩:=hv
 have hgo:0≤bR 0 (bH (ah v.1-H) v.2.1)∧bR 0 (bH (ah v.1-H) v.2.1)≤v.2.1∧v.2.1-bR 0 (bH (ah v.1-H) v.2.1) < H:=by
  unfold bR bH
  split<;>split<;>omega
 refine .chk (bZ (by omega) (by omega)) ?_
 simp only
 generalize bR 0 (bH (ah v.1-H) v.2.1)=gone at *
 refine .chk ⟨by omega,by omega,by omega⟩ (.bind _ (ai6 q.kept _ (by rw [aY (by omega) (by omega) (by omega)];omega)) fun k hk=>.chk ⟨by omega,by omega,by omega,by show ((48:Nat):Int)*H≤_;omega⟩ ?_)
 have hsub:ah (jw v.1 gone (ah v.1))=ah v.1-gone:=aY (by omega) (by omega) (by omega)
 refine .cut (fun o=>∃ l:List aQ,o = .go l∧tY l W∧ah l≤H) (.chk ⟨by omega,by omega,by omega⟩ ?_) ?_
 · have e0:ah (iG 0 aA)=0:=bn _ (by omega)
   refine .loop (fun p=>0≤p.1∧p.1≤ah v.1-gone∧tY p.2 W∧ah p.2≤H) (fun p=>(ah v.1-gone-p.1).toNat) ⟨by simp,by simp only;omega,fun i a b=>by simp only at b;omega,by simp only;omega⟩ ?_
   rintro ⟨j,l⟩ ⟨j0,j1,hl,l1⟩
   simp only at j0 j1 hl l1 ⊢
   have l0:=bQ l
   refine .ite (fun c=>?_) (fun c=>.ret ⟨l,rfl,hl,l1⟩)
   have c:j < ah v.1-gone:=by simpa using c
   refine .chk ⟨j0,by omega⟩ (.ite (fun c2=>?_) (fun _=>.chk (bZ (by omega) (by omega)) (.ret ⟨⟨by simp only;omega,by simp only;omega,hl,l1⟩,by simp only;omega⟩)))
   have c2:ah l < H:=by simpa using c2
   refine .chk (GN (by omega) (by omega) (by omega)) (.chk (bZ (by omega) (by omega)) (.ret ⟨⟨by simp only;omega,by simp only;omega,fun i a b=>?_,by simp only [aG,aB,aF];omega⟩,by simp only;omega⟩))
   simp only [aG,aB,aF] at b ⊢
   rw [fI a]
   split
   · exact hl i a ‹_›
   · have:i=ah l:=by omega
     subst this
     rw [Int.sub_self,eO,jT (by omega) j0 (by omega)]
     exact v1 _ (by omega) (by omega)
 · rintro o ⟨l,rfl,hl,l1⟩
   refine .go (.cut (fun o=>∃ l:List aQ,o = .go l∧tY l W∧ah l=H) ?_ ?_)
   · refine .loop (fun l=>tY l W∧ah l≤H) (fun l=>(H-ah l).toNat) ⟨hl,l1⟩ ?_
     rintro l ⟨hl,l1⟩
     have l0:=bQ l
     refine .ite (fun c=>?_) (fun c=>?_)
     · have c:ah l < H:=by simpa using c
       refine .bind _ (amo W lq Y3) fun r hr=>.chk (GN (by omega) (by omega) (by omega)) (.ret ⟨⟨fun i a b=>?_,by simp only [aG,aB,aF];omega⟩,by simp only [aG,aB,aF];omega⟩)
       simp only [aG,aB,aF] at b ⊢
       rw [fI a]
       split
       · exact hl i a ‹_›
       · have:i=ah l:=by omega
         subst this
         rw [Int.sub_self,eO]
         exact ⟨hr.1,by rw [hr.2,zG cw.1 cw.2]⟩
     · have c : ¬ ah l < H:=by simpa using c
       exact .ret ⟨l,rfl,hl,by omega⟩
   · rintro o ⟨l,rfl,hl,l1⟩
     refine .go (.bind _ (JQ q.cur H W) fun z hz=>.chk (bZ (by omega) (by omega)) (.bind _ (aa4 q.tab W) fun t ht=>.ret ?_))
     obtain ⟨z1,z2,z3,z4⟩:=hz
     have eH:bR 1 (bH H 1000)=H:=by unfold bR bH;split<;>split<;>omega
     rw [eH,zG cw.1 cw.2] at z1
     rw [zG cw.1 cw.2] at ht
     have zH:z.2.fH=H:=by rw [z1]
     have zW:z.2.fW=W:=by rw [z1]
     have hw0:=(hl 0 (by omega) (by omega)).2
     refine ⟨⟨q.dir,⟨z2.reg,⟨v5,by simp only;omega⟩,⟨by simp only;omega,by simp only;omega⟩,fun k=>?_,fun k=>?_,z2.pen,z2.set⟩,ht.1,by simp only;omega,vL.of hl (by omega) (by omega),by simp only;omega,by simp only;omega,hk.1⟩,zH,zW,hk.2⟩
     · simp only [z3] at k;cases k
     · simp only [z4] at k;cases k
end Go.Vx
end
section
namespace Go.Vx
set_option maxRecDepth 100000
set_option maxHeartbeats 1000000
theorem ajd (c:Int):Yields (Gl c) (fun v=>0≤v.1∧v.1≤4):=by
 unfold Gl
 refine .cut (fun o=>∃ n:Int,o = .go n∧0≤n∧n≤4) ?_ ?_
 · exact .ite (fun _=>.ret ⟨_,rfl,by omega,by omega⟩) fun _=>.ite (fun _=>.ret ⟨_,rfl,by omega,by omega⟩) fun _=>.ite (fun _=>.ret ⟨_,rfl,by omega,by omega⟩) fun _=>.ite (fun _=>.ret ⟨_,rfl,by omega,by omega⟩) fun _=>.ret ⟨_,rfl,by omega,by omega⟩
 · rintro o ⟨n,rfl,h⟩
   exact .go (.ite (fun _=>.ret h) fun _=>.ite (fun _=>.ret h) fun _=>.ite (fun _=>.ret h) fun _=>.ite (fun _=>.ret h) fun _=>.ret h)
theorem ah4 (s:kK):Tot (vV s):=by
 unfold vV
 refine .ite (fun _=>.ret) fun h=>.bind ?_ fun _=>.ret
 have h : ¬ ah s.fB=0:=by simpa using h
 have hn:=bQ s.fB
 unfold Av
 refine .chk ⟨by omega,by omega⟩ (.of (.bind _ (ajd _) fun v hv=>(Tot.ite (fun _=>.ret) fun _=>.cut (.of (Yields.loop (Q:=fun _=>True) (fun p=>1≤p.2.2∧p.2.2≤5) (fun p=>(5-p.2.2).toNat) ⟨by simp,by simp⟩ ?_)) fun _=>.ret).yields))
 rintro ⟨lo,hi,k⟩ ⟨k0,k1⟩
 simp only at k0 k1 ⊢
 refine .chk (fun c=>?_) (.chk (fun c=>?_) (.ite (fun c=>?_) fun _=>.ret trivial))
 · have:k < v.1∧k < ah s.fB:=by simpa using c
   exact ⟨by omega,this.2⟩
 · have:(k < v.1∧k < ah s.fB)∧lo≤au 0 s.fB k:=by simpa using c
   exact ⟨by omega,this.1.2⟩
 · have:k < v.1:=by grind
   exact .chk (bZ (by omega) (by omega)) (.ret ⟨⟨by simp only;omega,by simp only;omega⟩,by simp only;omega⟩)
structure ZE (p:iA):Prop where
 len:ah p.fL≤16
 sub : ∀ i,0≤i→i < ah p.fL→ah (au [] p.fL i)≤6
theorem afP (p:iA):Yields (uP p) (fun b=>b=true→ZE p):=by
 unfold uP
 have hn:=bQ p.fL
 refine .ite (fun _=>.ret (fun k=>by cases k)) fun h=>?_
 have h16:ah p.fL≤16:=by grind
 refine .cut (fun o=>(o = .go ()∧ZE p)∨o = .out false) ?_ ?_
 · refine .loop (fun v=>0≤v∧v≤ah p.fL∧∀ i,0≤i→i < v→ah (au [] p.fL i)≤6) (fun v=>(ah p.fL-v).toNat) ⟨by omega,hn,fun i a b=>by omega⟩ ?_
   rintro v ⟨v0,v1,hv⟩
   refine .ite (fun k=>?_) (fun k=>?_)
   · have k:v < ah p.fL:=by simpa using k
     refine .cut (fun o=>(o = .go ()∧ah (au [] p.fL v)≤6)∨o = .out (.out (.out false))) ?_ ?_
     · refine .chk ⟨v0,k⟩ (.ite (fun _=>.ret (.inr rfl)) fun c=>?_)
       have c6:ah (au [] p.fL v)≤6:=by grind
       have c0:=bQ (au [] p.fL v)
       refine .loop (fun u=>0≤u∧u≤ah (au [] p.fL v)) (fun u=>(ah (au [] p.fL v)-u).toNat) ⟨by omega,c0⟩ ?_
       rintro u ⟨u0,u1⟩
       refine .ite (fun k2=>?_) (fun k2=>.ret (.inl ⟨rfl,c6⟩))
       have k2:u < ah (au [] p.fL v):=by simpa using k2
       exact .chk ⟨u0,k2⟩ (.ite (fun _=>.ret (.inr rfl)) fun _=>.chk (bZ (by omega) (by omega)) (.ret ⟨⟨by omega,by omega⟩,by show (_-_:Int).toNat < (_-_:Int).toNat;omega⟩))
     · rintro o (⟨rfl,c⟩ | rfl)
       · refine .go (.chk (bZ (by omega) (by omega)) (.ret ⟨⟨by omega,by omega,fun i a b=>?_⟩,by show (_-_:Int).toNat < (_-_:Int).toNat;omega⟩))
         by_cases e:i=v
         · subst e;exact c
         · exact hv i a (by omega)
       · exact .out (.inr rfl)
   · have k : ¬ v < ah p.fL:=by simpa using k
     exact .ret (.inl ⟨rfl,h16,fun i a b=>hv i a (by omega)⟩)
 · rintro o (⟨rfl,h⟩ | rfl)
   · exact .go (.ret fun _=>h)
   · exact .out (fun k=>by cases k)
theorem abO (s:dA):Yields (oG s) (fun b=>b=true→ZE s.eu):=by
 unfold oG
 refine .bind (fun b=>b=true→ZE s.eu) (Zu (fun _=>afP _) fun _=>.ret fun k=>by cases k) fun b hb=>.ite (fun _=>.ret fun k=>by cases k) fun h=>?_
 have hp:ZE s.eu:=hb (by grind)
 have h2:cZ s.jD≤2:=by grind
 refine .cut (fun o=>o = .go ()∨o = .out false) ?_ ?_
 · refine .loop (fun v=>0≤v∧v≤3) (fun v=>(3-v).toNat) ⟨by omega,by omega⟩ ?_
   rintro v ⟨v0,v1⟩
   refine .ite (fun k=>?_) (fun k=>.ret (.inl rfl))
   have k:v < cZ s.jD:=by simpa using k
   exact .chk ⟨v0,k⟩ (.ite (fun _=>.ret (.inr rfl)) fun _=>.chk (bZ (by omega) (by omega)) (.ret ⟨⟨by omega,by omega⟩,by show (_-_:Int).toNat < (_-_:Int).toNat;omega⟩))
 · rintro o (rfl | rfl)
   · exact .go (.ite (fun _=>.ret fun _=>hp) fun _=>.ite (fun _=>.ret fun _=>hp) fun _=>.ret fun _=>hp)
   · exact .out (fun k=>by cases k)
noncomputable def Ya (t:bP):dS:=if t.fS.pX=true then dS.mk [] t.fS.aR.fK.iF else t.fS.aR.fK
theorem abP (t:bP):vZ t=some (Ya t):=by
 unfold vZ Ya
 cases t.fS.pX<;>rfl
structure Fg (t:bP):Prop where
 u:vV t.fU=some true
 p:oG t.fP=some true
 s:Kt t.fS
 b:0≤t.jl∧t.jl≤ah (Ya t).aS
theorem Yb (t:bP):Says (lu t) (Fg t):=by
 have e:Fg t ↔ vV t.fU=some true∧oG t.fP=some true∧Kt t.fS∧(0≤t.jl∧t.jl≤ah (Ya t).aS):=⟨fun h=>⟨h.u,h.p,h.s,h.b⟩,fun h=>⟨h.1,h.2.1,h.2.2.1,h.2.2.2⟩⟩
 unfold lu
 rw [e]
 obtain ⟨u,hu⟩:=ah4 t.fU
 obtain ⟨p,hp,_⟩:=abO t.fP
 refine .call hu (.bind (fun v=>v=(if u=true then p else false)) ?_ fun v hv=>.bind (fun w=>w=true ↔ (u=true∧p=true∧Kt t.fS)) ?_ fun w hw=>.ite (fun k=>.no ?_) fun k=>?_)
 · cases u
   · exact ⟨_,rfl,rfl⟩
   · exact ⟨p,by simpa using hp,rfl⟩
 · cases u
   · exact ⟨false,rfl,by simp⟩
   · cases p
     · subst hv;exact ⟨false,rfl,by simp⟩
     · subst hv
       refine (abJ t.fS).mono fun r hr=>?_
       rw [hr];simp
 · rw [hu,hp]
   rintro ⟨a,b,c,_⟩
   cases a;cases b
   grind
 · have hk:u=true∧p=true∧Kt t.fS:=by grind
   obtain ⟨rfl,rfl,hs⟩:=hk
   refine .bind (fun k=>0≤t.jl→k=Ya t) (Zu (fun _=>.of (abP t) fun _=>rfl) fun h=>.ret fun h2=>?_) fun k hk=>.ret ?_
   · simp at h;omega
   · by_cases h:0≤t.jl
     · rw [hk h]
       simp [h,hu,hp,hs]
     · simp [h]
theorem Fg.ok {t:bP} (q:Fg t):lu t=some true:=(Yb t).ok q
theorem aex {s:bf} (q:Kt s) (h20:s.aR.fR.fH≤20) (w40:s.aR.fR.fW≤40) {h w:Int} (hh:1≤h∧h≤1000) (hw:1≤w∧w≤4096) :
  Yields (uN s h w) (fun t=>Kt t∧t.aR.fR.fH=h∧t.aR.fR.fW=w∧t.pX=s.pX):=by
 unfold uN
 have eh:bR 1 (bH h 1000)=h:=by unfold bR bH;split<;>split<;>omega
 have ew:bR 1 (bH w 4096)=w:=zG hw.1 hw.2
 refine .call q.ok (.ite (fun k=>by cases k) fun _=>.call (b:=Kr s.aR.fR) rfl (.bind _ (ZA h w) fun v hv=>.ite (fun k=>?_) fun _=>?_))
 · have:v.2.fH=s.aR.fR.fH∧v.2.fW=s.aR.fR.fW:=by
    simp only [Bool.and_eq_true,beq_iff_eq] at k
    exact ⟨k.1,k.2.1⟩
   rw [hv.2] at this
   simp only at this
   exact .ret ⟨q,by omega,by omega,rfl⟩
 · refine .bind _ (Ta q.main h20 w40 h w) fun m hm=>.bind _ (Ta q.other (by rw [q.h];exact h20) (by rw [q.w];exact w40) h w) fun o ho=>?_
   rw [eh,ew] at hm ho
   obtain ⟨m1,m2,m3,_⟩:=hm
   obtain ⟨o1,o2,o3,_⟩:=ho
   have ehw:Kr m.fR=bS.mk h w 0 h:=by unfold Kr;rw [m2,m3]
   refine .cut (fun r=>∃ t,r = .go t∧Kt t∧t.aR=m∧t.pX=s.pX) ?_ ?_
   · refine .cut (fun r=>∃ a,uV a (Kr m.fR)∧r = .go (bf.mk m o s.pX s.fM (fO.mk a s.aK.x1) s.lK s.kY s.lM)) ?_ ?_
     · refine .bind _ (JQ q.s0 h w) fun a ha=>.chk (bZ (by omega) (by omega)) (.ret ⟨a.1,?_,rfl⟩)
       have h2:=ha.2.1
       rw [ha.1,eh,ew] at h2
       rw [ehw];exact h2
     · rintro r ⟨a,ha,rfl⟩
       refine .go (.cut (fun r=>∃ b,uV b (Kr m.fR)∧r = .go (bf.mk m o s.pX s.fM (fO.mk a b) s.lK s.kY s.lM)) ?_ ?_)
       · refine .bind _ (JQ q.s1 h w) fun b hb=>.chk (bZ (by omega) (by omega)) (.ret ⟨b.1,?_,rfl⟩)
         have h2:=hb.2.1
         rw [hb.1,eh,ew] at h2
         rw [ehw];exact h2
       · rintro r ⟨b,hb,rfl⟩
         exact .go (.ret ⟨_,rfl,⟨m1,o1,q.m,by simp only;omega,by simp only;omega,ha,hb,q.out,q.title,q.last⟩,rfl,rfl⟩)
   · rintro r ⟨t,rfl,h1,h2,h3⟩
     exact .go (.ret ⟨h1,by rw [h2];exact m2,by rw [h2];exact m3,h3⟩)
theorem Me {t:bP} (q:Fg t) {h w:Int} (c:h < 1∨1000 < h∨w < 1∨4096 < w):mZ t h w=some t:=by
 refine Yields.eq ?_
 unfold mZ
 refine .call q.ok (.ite (fun _=>.ret rfl) fun k=>?_)
 exfalso
 grind
theorem aey {t:bP} (q:Fg t) (h20:t.fS.aR.fR.fH≤20) (w40:t.fS.aR.fR.fW≤40) {h w:Int} (hh:1≤h∧h≤1000) (hw:1≤w∧w≤4096) :
  Yields (mZ t h w) (fun x=>Fg x∧x.fS.aR.fR.fH=h∧x.fS.aR.fR.fW=w):=by
 unfold mZ
 refine .call q.ok (.ite (fun k=>by grind) fun _=>.bind _ (aex q.s h20 w40 hh hw) fun s hs=>?_)
 obtain ⟨s1,s2,s3,s4⟩:=hs
 unfold xX
 refine .call (b:=bP.mk t.fU t.fP s (bH t.jl (ah (Ya (bP.mk t.fU t.fP s t.jl)).aS))) ?_ (.ret ⟨⟨q.u,q.p,s1,?_⟩,s2,s3⟩)
 · rw [abP];rfl
 · have h1:=q.b.1
   have h2:=bQ (Ya (bP.mk t.fU t.fP s t.jl)).aS
   show 0≤bH t.jl _∧bH t.jl _≤ah (Ya (bP.mk t.fU t.fP s t.jl)).aS
   unfold bH
   split<;>omega
end Go.Vx
end
section
namespace Go.Vx
set_option maxRecDepth 100000
set_option maxHeartbeats 4000000
theorem FE (a:ByteArray):mD a a=true:=by simp [mD]
theorem acS (a:List aV) (h:ah a≤4096):nI a a=some true:=by
 refine Yields.eq ?_
 unfold nI
 have hn:=bQ a
 refine .ite (fun k=>by simp at k) fun _=>.cut (fun o=>o = .go ()) ?_ ?_
 · refine .loop (fun v=>0≤v∧v≤ah a) (fun v=>(ah a-v).toNat) ⟨by omega,hn⟩ ?_
   rintro v ⟨v0,v1⟩
   refine .ite (fun k=>?_) (fun k=>.ret rfl)
   have k:v < ah a:=by simpa using k
   exact .chk ⟨v0,k⟩ (.chk ⟨v0,k⟩ (.ite (fun k=>by simp at k) fun _=>.chk (bZ (by omega) (by omega)) (.ret ⟨⟨by omega,by omega⟩,by show (_-_:Int).toNat < (_-_:Int).toNat;omega⟩)))
 · rintro o rfl
   exact .go (.ret rfl)
theorem afQ (a:aQ) (h:ah a.aH≤4096):oh a a=some true:=by
 refine Yields.eq ?_
 unfold oh
 exact .call (acS _ h) (.ret (by simp))
theorem Yc (a:List aQ) (h:ah a≤4096) (hr : ∀ i,0≤i→i < ah a→ah (au aA a i).aH≤4096):lY a a=some true:=by
 refine Yields.eq ?_
 unfold lY
 have hn:=bQ a
 refine .ite (fun k=>by simp at k) fun _=>.cut (fun o=>o = .go ()) ?_ ?_
 · refine .loop (fun v=>0≤v∧v≤ah a) (fun v=>(ah a-v).toNat) ⟨by omega,hn⟩ ?_
   rintro v ⟨v0,v1⟩
   refine .ite (fun k=>?_) (fun k=>.ret rfl)
   have k:v < ah a:=by simpa using k
   exact .chk ⟨v0,k⟩ (.chk ⟨v0,k⟩ (.call (afQ _ (hr v v0 k)) (.ite (fun k=>by simp at k) fun _=>.chk (bZ (by omega) (by omega)) (.ret ⟨⟨by omega,by omega⟩,by show (_-_:Int).toNat < (_-_:Int).toNat;omega⟩))))
 · rintro o rfl
   exact .go (.ret rfl)
theorem aez (a:fQ) (h:ah a.fL≤100000):om a a=some true:=by
 refine Yields.eq ?_
 unfold om
 have hn:=bQ a.fL
 refine .ite (fun k=>by simp at k) fun _=>.cut (fun o=>o = .go ()) ?_ ?_
 · refine .loop (fun v=>0≤v∧v≤ah a.fL) (fun v=>(ah a.fL-v).toNat) ⟨by omega,hn⟩ ?_
   rintro v ⟨v0,v1⟩
   refine .ite (fun k=>?_) (fun k=>.ret rfl)
   have k:v < ah a.fL:=by simpa using k
   exact .chk ⟨v0,k⟩ (.chk ⟨v0,k⟩ (.ite (fun k=>by simp at k) fun _=>.chk (bZ (by omega) (by omega)) (.ret ⟨⟨by omega,by omega⟩,by show (_-_:Int).toNat < (_-_:Int).toNat;omega⟩)))
 · rintro o rfl
   exact .go (.ret rfl)
theorem aeA (a:List (List Int)) (h:ah a≤16) (hs : ∀ i,0≤i→i < ah a→ah (au [] a i)≤6):og a a=some true:=by
 refine Yields.eq ?_
 unfold og
 have hn:=bQ a
 refine .ite (fun k=>by simp at k) fun _=>.cut (fun o=>o = .go ()) ?_ ?_
 · refine .loop (fun v=>0≤v∧v≤ah a) (fun v=>(ah a-v).toNat) ⟨by omega,hn⟩ ?_
   rintro v ⟨v0,v1⟩
   refine .ite (fun k=>?_) (fun k=>.ret rfl)
   have k:v < ah a:=by simpa using k
   have hv:=hs v v0 k
   have h0:=bQ (au [] a v)
   refine .cut (fun o=>o = .go ()) (.chk ⟨v0,k⟩ (.chk ⟨v0,k⟩ (.ite (fun k=>by simp at k) fun _=>?_))) ?_
   · refine .loop (fun u=>0≤u∧u≤ah (au [] a v)) (fun u=>(ah (au [] a v)-u).toNat) ⟨by omega,h0⟩ ?_
     rintro u ⟨u0,u1⟩
     refine .chk ⟨v0,k⟩ (.ite (fun c=>?_) (fun c=>.ret rfl))
     have c:u < ah (au [] a v):=by simpa using c
     exact .chk ⟨v0,k⟩ (.chk ⟨u0,c⟩ (.chk ⟨v0,k⟩ (.chk ⟨u0,c⟩ (.ite (fun k=>by simp at k) fun _=>.chk (bZ (by omega) (by omega)) (.ret ⟨⟨by omega,by omega⟩,by show (_-_:Int).toNat < (_-_:Int).toNat;omega⟩)))))
   · rintro o rfl
     exact .go (.chk (bZ (by omega) (by omega)) (.ret ⟨⟨by omega,by omega⟩,by show (_-_:Int).toNat < (_-_:Int).toNat;omega⟩))
 · rintro o rfl
   exact .go (.ret rfl)
theorem ZF (s:bK) (q:ze s) (b:dP) (hb:mJ s=some b):lZ b b=some true:=by
 cases hb
 refine Yields.eq ?_
 unfold lZ
 have g1:=q.grid.top
 have g2 : ∀ i,0≤i→i < ah s.fG.aS→ah (au aA s.fG.aS i).aH≤4096:=fun i a b=>(q.grid.row i a b).top
 have k1:=q.kept.cap
 have k2 : ∀ i,0≤i→i < ah s.fK.aS→ah (au aA s.fK.aS i).aH≤4096:=fun i a b=>(q.kept.row i a b).top
 refine .call (Yc _ (by show ah s.fG.aS≤4096;omega) g2) (.call (b:=true) ?_ (.call (b:=true) ?_ (.ret ?_)))
 · simp only [Bool.and_self,beq_self_eq_true,if_true]
   exact aez _ q.tl
 · simp only [Bool.and_self,beq_self_eq_true,if_true]
   refine Yields.eq ?_
   unfold rE
   refine .call (b:=true) ?_ (.ret (by simp))
   simp only [beq_self_eq_true,if_true]
   exact Yc _ (by show ah s.fK.aS≤4096;have:=q.kept.len;omega) k2
 · simp
theorem aeB (o:bP) (q:Fg o) (t:dV) (ht:jW o=some t):kE t t=some true:=by
 cases ht
 obtain ⟨r,hr,hp⟩:=abO o.fP
 rw [q.p] at hr;cases hr
 have pq:=hp rfl
 refine Yields.eq ?_
 unfold kE
 refine .call (b:=true) ?_ (.call (b:=true) ?_ (.ret (by simp [FE])))
 · simp only [FE,if_true]
   refine Yields.eq ?_
   unfold rD
   refine .call (b:=true) ?_ (.ret (by simp [FE]))
   simp only [beq_self_eq_true,FE,if_true]
   exact aeA _ pq.len pq.sub
 · simp only [FE,if_true]
   refine Yields.eq ?_
   unfold rF
   refine .call (ZF _ q.s.main _ rfl) (.call (b:=true) ?_ (.ret (by simp [FE])))
   simp only [if_true]
   exact ZF _ q.s.other _ rfl
theorem acT (t:dV) : ∃ o,rC t=some o∧jW o=some t∧o.fS.aR.fR.fH=t.fS.aR.fR.fH∧o.fS.aR.fR.fW=t.fS.aR.fR.fW:=⟨_,rfl,rfl,rfl,rfl⟩
theorem WU (t:dV) (h w:Int):ng t h w=some true:=by
 refine Yields.eq ?_
 unfold ng
 obtain ⟨o,f1,f2,f3,f4⟩:=acT t
 refine .call acU (.call f1 (.bind _ (Yb o) fun b hb=>.ite (fun _=>.ret rfl) fun k=>?_))
 have hk:b=true∧t.fS.aR.fR.fH≤20∧t.fS.aR.fR.fW≤40:=by grind
 obtain ⟨rfl,h20,w40⟩:=hk
 have q:Fg o:=hb.1 rfl
 have hsame:=aeB o q t f2
 have ha:bH h 30≤30:=by unfold bH;split<;>omega
 have hbw:bH w 50≤50:=by unfold bH;split<;>omega
 simp only
 generalize bH h 30=a at *
 generalize bH w 50=c at *
 by_cases hc:a < 1∨c < 1
 · refine .call (Me q (by omega)) (.ite (fun _=>.call (b:=t) (by simpa using f2) (.call (b:=true) (by simpa using hsame) (.ret (by simp)))) fun k=>?_)
   exfalso;grind
 · refine .bind _ (aey q (by omega) (by omega) (h:=a) (w:=c) (by omega) (by omega)) fun x hx=>.ite (fun k=>?_) fun _=>?_
   · exfalso;grind
   · obtain ⟨x1,x2,x3⟩:=hx
     have hact:(act x.fS).fR.fH=a∧(act x.fS).fR.fW=c:=by
      unfold act
      split
      · exact ⟨by rw [x1.s.h];exact x2,by rw [x1.s.w];exact x3⟩
      · exact ⟨x2,x3⟩
     have hm:ah x.fS.aR.fG.aS=a:=by rw [x1.s.main.h];exact x2
     have ho:ah x.fS.aT.fG.aS=a:=by rw [x1.s.other.h,x1.s.h];exact x2
     have hall:(if (if (if (if (if true=true then true else false)=true then ((act x.fS).fR.fH == a) else false)=true then ((act x.fS).fR.fW == c) else false)=true then ((ah x.fS.aR.fG.aS) == a) else false)=true then ((ah x.fS.aT.fG.aS) == a) else false)=true:=by
      simp [hact,hm,ho]
     refine .call (ai8 _) (.call (Me q (by omega)) (.call (Me q (by omega)) (.call (b:=true) (by simpa using x1.ok) ?_)))
     have e1 : ∀ {α:Type} {y z:α} {b:Bool},b=true→(if b=true then y else z)=y:=fun h=>if_pos h
     have e2:(if (if (if (if (if (if true=true then true else false)=true then ((act x.fS).fR.fH == a) else false)=true then ((act x.fS).fR.fW == c) else false)=true then ((ah x.fS.aR.fG.aS) == a) else false)=true then ((ah x.fS.aT.fG.aS) == a) else false)=true then true else false)=true:=by rw [hall];rfl
     refine .call ((e1 hall).trans f2) (.call ((e1 hall).trans hsame) (.call ((e1 e2).trans f2) (.call ((e1 e2).trans hsame) (.ret ?_))))
     simp [hact,hm,ho]
end Go.Vx
end
