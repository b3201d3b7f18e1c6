/- Copies, cuts, indices, arithmetic, what is made: each step of the evaluator is a step of the Go model. -/
import Derived.Test.YtmpgicplgjmjkaaGreatDoorVxOps2
set_option linter.all false
namespace Go.Vx
theorem J9(k:IntKind)(n:Int)(h:k.min<=n/\n<=k.max):k.wrap n=n:=by
 obtain⟨h1,h2⟩:=h;cases k<;>simp[IntKind.wrap,IntKind.min,IntKind.max,IntKind.bits,IntKind.signed] at *<;>omega
section
variable {P:Program} {tt:TT} {B0:Nat} {h0:Array Obj} {I0 I:IS} {L:wU} {β:Nat->Option (Nat×Nat×Array Value)} {slots:List D} {objs:List (Option Ob)} {ctr:Nat} {a:Act} {w:World}
theorem asx(hT:jG P tt)(R:RM B0 h0 I0 L I β slots objs ctr a w){t u ty e:TypeId}{te:TI}(ht:P.underlying t=some (.slice e))(hte:iB tt e=some te)
  {x1 x2 d:D} {up:List (Nat×Option Ob)} {os:List bC} {y1 y2:Value}
  (he:amS (std P) objs te.size x1 x2=some (d,up,os)) (hos : ∀ q∈os,q.run (std P)) (hy1:Rd w.heap I β objs ctr x1 y1) (hy2:Rd w.heap I β objs ctr x2 y2) :
  ∃ y w',(Builtin.copy_ #[t,u] ty #[y1,y2]).run P w = .ok y w'/\Post B0 h0 I0 L I β objs ctr w (bX objs up) w' d y:=by
 unfold amS at he;split at he
 . cases he
 rename_i m g os2 hsrc;split at he
 . rename_i id gg sz' off n;split at he
   . rename_i g' Fg N tight f ho;split at he
     . rename_i hc;simp only[ig] at hc;have s1:=dO hc.1;have s2:=dO hc.2;subst s1;subst s2;simp only[aW,bM] at he;obtain⟨rfl,rfl,rfl⟩:=he;have hgg:gg=g':=hos (.lU gg g') (dR _ (by simp[std]));subst hgg;obtain⟨mN,news,S2⟩:=src_ok R hsrc (λq hq=>hos q (dW _ hq)) hy2;have e2:=S2.eq;obtain⟨_,_,hx⟩:=hy1;obtain⟨i0,i1,i2,ad,len,cap,rfl,x1,x2,x3,x4⟩:=hx _ _ _ ho;have hmin:((std P).wT m n)=((min mN len:Nat):Int):=by simp[std];omega
       have hf:=S2.first w rfl (min mN len) (Nat.min_le_left _ _)
       have hl:=S2.lenOf w;have hsize:(sizeOf e).run P w = .ok te.size w:=jr hT hte w;have hd : ∀ hp β',Rd hp I β' (objs.set id (some (.arr gg te.size N tight (λi j=>nP (std P) ((std P).yZ ((std P).le off i) ((std P).lt i ((std P).add off ((std P).wT m n)))) (g ((std P).sub i off) j) (f i j))))) ctr (.v (.int .i64 ((std P).wT m n))) (goInt (min mN len:Nat)):=by
        intro hp β';show _=_;rw[hmin];rfl
       have hn' : ∀ i:Nat,((std P).yZ ((std P).le off i) ((std P).lt i ((std P).add off ((std P).wT m n))))=true↔off.toNat<=i/\i<off.toNat+min mN len:=by
        intro i;rw[hmin];simp[std];omega
       have pR:=R.ob id _ ho;rcases EM cap with hc0|hc0
       ·
        have hz:min mN len=0:=ak;refine⟨goInt ((min mN len:Nat)),w,?_,?_⟩
        . rw[hz] at hf;simp only[Nat.zero_mul,List.take_zero] at hf;cases ad<;>simp[Builtin.copy_,run_underlying ht,hl,hsize,hz,hf,storeCells]
        refine R.amH ho ⟨rfl,rfl,rfl,rfl⟩ ?_ (λ_=>hd _ _);obtain⟨hg,n0,hq⟩:=pR;refine⟨hg,n0,?_⟩;rcases hq with hq|⟨b',o',s',c,e',q1,q2,q3,q4,q5,q6⟩
        . exact .inl hq
        refine .inr ⟨b',o',s',c,e',q1,q2,q3,q4,q5,λi hi j hj=>?_⟩;obtain⟨z,z1,z2,z3⟩:=q6 i hi j hj;exact⟨z,z1,z2,qP _ _ _ _ (λht=>by have:=(hn' i).1 ht;omega) (λ_=>z3)⟩
       obtain⟨b,o,s,hb,rfl,hfit⟩:=x4 hc0;obtain⟨_,n0,hq⟩:=pR;rcases hq with⟨q1,q2⟩|⟨b',o',s',c,e',q1,q2,q3,_,q5,q6⟩
       . rw[hb] at q2;cases q2
       rw[hb] at q1;cases q1;have hml:min mN len*te.size<=cap*te.size:=oq _ ak;have hlt:(news.take (min mN len*te.size)).length=min mN len*te.size:=by
        rw[H9,S2.len];exact Tt (oq _ (Nat.min_le_left _ _))
       have hst:=run_storeCells_at P b (o+off.toNat*te.size) e' (news.take (min mN len*te.size)) 0 c w q2 (by rw[hlt];omega) (λu hu=>S2.one u (List.mem_of_mem_take hu));have hrow:=setRow_heap w b c (c.toList.take (o+off.toNat*te.size+0)++news.take (min mN len*te.size)++c.toList.drop (o+off.toNat*te.size+0+(news.take (min mN len*te.size)).length)).toArray e' (0,0) q2;have hsz':(c.toList.take (o+off.toNat*te.size+0)++news.take (min mN len*te.size)++c.toList.drop (o+off.toNat*te.size+0+(news.take (min mN len*te.size)).length)).toArray.size=c.size:=by
        simp only[QI,aan,hlt,H9,zZ,Ia];omega
       refine⟨goInt ((min mN len:Nat)),w.setRow b (c.toList.take (o+off.toNat*te.size+0)++news.take (min mN len*te.size)++c.toList.drop (o+off.toNat*te.size+0+(news.take (min mN len*te.size)).length)).toArray,?_,?_⟩
       . have hm':Nat.min mN len=min mN len:=rfl;simp only[Builtin.copy_,Jw,lq,rZ,Sem.run_bind,run_underlying ht,Result.andThen_ok,hl,hsize,hm',hf,hst,Sem.run_pure]
       refine R.write ho ⟨rfl,rfl,rfl,rfl⟩ hb (λb2 hne=>setRow_other w b b2 _ hne) bH ⟨n0,.inr ⟨b,o,s,_,e',rfl,hrow,ak,q5,λi hi j hj=>?_⟩⟩ (λ_=>hd _ _);have hjj : ∀ q:Nat,q*te.size+j<(q+1)*te.size:=by intro q;rw[kr,Tm];omega
       by_cases hin:off.toNat<=i/\i<off.toNat+min mN len
       . have hlt3:i-off.toNat<mN:=by have:=Nat.min_le_left mN len;omega
         obtain⟨z,z1,z2,z3⟩:=S2.cell (i-off.toNat) hlt3 j hj;have hmul:(i-off.toNat)*te.size=i*te.size-off.toNat*te.size:=Nat.sub_mul ..;have azt:off.toNat*te.size<=i*te.size:=oq _ hin.1;have hlt2:(i-off.toNat)*te.size+j<min mN len*te.size:=Ef (hjj _) (oq _ ak);refine⟨z,?_,z2,qP _ _ _ _ (λ_=>?_) (λhf=>by rw[(hn' i).2 hin] at hf;cases hf)⟩
         . simp only[OB,Jw];rw[CP,uZ yh];simp only[H9,Ia];rw[Tt (show o+off.toNat*te.size<=c.size by omega),sj (by rw[hlt];omega),Xv ak];rw[← z1];congr 1;omega
         have:((std P).sub (i:Int) off)=((i-off.toNat:Nat):Int):=by simp[std];omega
         rw[this];exact z3
       obtain⟨z,z1,z2,z3⟩:=q6 i hi j hj;refine⟨z,?_,z2,qP _ _ _ _ (λht=>absurd ((hn' i).1 ht) hin) (λ_=>z3)⟩;simp only[OB,Jw];rw[CP];rcases mK i off.toNat with hlo|hhi
       . have:i*te.size+j<off.toNat*te.size:=Ef (hjj i) (oq _ hlo);rw[sj yh,Xv ak];rw[← z1];simp
       have azu:(off.toNat+min mN len)*te.size<=i*te.size:=oq _ ak;rw[kr] at azu;rw[uZ yh,uZ (by rw[hlt];simp;omega)];simp only[H9,Ia,S2.len,Xu];rw[← z1];rw[Tt (show o+off.toNat*te.size<=c.size by omega),Tt (show min mN len*te.size<=mN*te.size from oq _ (Nat.min_le_left _ _))];rw[Array.getElem?_toList];congr 1;omega
     cases he
   cases he
 cases he
theorem qY{t:TypeId}(h:Nat.beq (lG tt t) 0=false) : ∃ ti,iB tt t=some ti/\ti.size=lG tt t:=by
 unfold lG at h ⊢;split
 . rename_i ti ht;exact⟨ti,ht,rfl⟩
 rename_i ht;simp[ht] at h
theorem aaR{t e:TypeId}(ht:P.underlying t=some (.slice e)){sz:Nat}(hs:(sizeOf e).run P w = .ok sz w)(ad:Option Addr)(len cap:Nat)(lo hi mx:Option Value)(l h m:Nat)
  (hl:(lo=none/\l=0)\/∃ k,lo=some (.int k (l:Int))) (hh:(hi=none/\h=len/\mx=none)\/∃ k,hi=some (.int k (h:Int))) (hm:(mx=none/\m=cap)\/∃ k,mx=some (.int k (m:Int)))
  (h1:l<=h) (h2:h<=m) (h3:m<=cap) :
  (Instr.sliceAt t (.slice ad len cap) lo hi mx).run P w = .ok (.slice (if m=l then ad else ad.map (·.add (l*sz))) (h-l) (m-l)) w:=by
 rcases hl with⟨rfl,rfl⟩|⟨kl,rfl⟩<;>rcases hh with⟨rfl,rfl,hmx⟩|⟨kh,rfl⟩<;>rcases hm with⟨rfl,rfl⟩|⟨km,rfl⟩<;>(try cases hmx) <;>
  simp[Instr.sliceAt,Instr.slice,Instr.sliceBounds,Instr.sliceBound,run_underlying ht,asIntOf,hs,h1,h2,h3]
theorem au8(hT:jG P tt){t:TypeId}{ti:TI}(ht:iB tt t=some ti){x d:D}{lo hi mx:Option D}{os:List bC}{y:Value}{lo' hi' mx':Option Value}
  (he:ap5 (std P) tt ti x lo hi mx=some (d,os)) (hos : ∀ q∈os,q.run (std P)) (hy:Rd w.heap I β objs ctr x y)
  (hlo:(lo=none/\lo'=none)\/∃ dl vl,lo=some dl/\lo'=some vl/\Rd w.heap I β objs ctr dl vl)
  (hhi:(hi=none/\hi'=none)\/∃ dl vl,hi=some dl/\hi'=some vl/\Rd w.heap I β objs ctr dl vl)
  (hmx:(mx=none/\mx'=none)\/∃ dl vl,mx=some dl/\mx'=some vl/\Rd w.heap I β objs ctr dl vl) :
  ∃ z,(Instr.sliceAt t y lo' hi' mx').run P w = .ok z w/\Rd w.heap I β objs ctr d z:=by
 have bnd : ∀ {o:Option D} {o':Option Value} {dflt l:Int},bound (std P) dflt o=some l->((o=none/\o'=none)\/∃ dl vl,o=some dl/\o'=some vl/\Rd w.heap I β objs ctr dl vl) ->
   (o'=none/\l=dflt)\/∃ k,o'=some (.int k l):=by
  intro o o' dflt l hb ho;rcases ho with⟨rfl,rfl⟩|⟨dl,vl,rfl,rfl,hd⟩
  . simp only[bound,aW] at hb;exact .inl ⟨rfl,hb.symm⟩
  unfold bound at hb;split at hb
  . rename_i heq;cases heq
  . rename_i k i heq;cases heq;cases hb;cases hd;exact .inr ⟨_,rfl⟩
  cases hb
 unfold ap5 at he;split at he
 . rename_i e hk;have hu:=jV hT ht hk;split at he
   . cases he
   rename_i hz;obtain⟨te,hte,hsz⟩:=qY (tt:=tt) (t:=e) (Bool.eq_false_iff.2 hz);have hs:(sizeOf e).run P w = .ok (lG tt e) w:=by rw[← hsz];exact jr hT hte w
   split at he
   . rename_i id g sz off n;split at he
     . rename_i hse;have hse:=dO hse;rw[hse] at hs;split at he
       . rename_i l h bl bh;simp only[aW,bM] at he;obtain⟨rfl,rfl⟩:=he;obtain⟨c1,c2,c3⟩:0<=l/\l<=h/\h<=n:=hos _ (fQ.2 rfl);obtain⟨hg,⟨ad,len,cap,rfl,y1,y2,y3⟩,hx⟩:=hy;have hm:mx'=none:=by rcases hmx with⟨_,h⟩|⟨_,_,h,_⟩;exact h;cases h
         subst hm;have r1:=bnd bl hlo;have r2:=bnd bh hhi;have hrun:=aaR hu hs ad len cap lo' hi' none l.toNat h.toNat cap (by
          rcases r1 with⟨h1,h2⟩|⟨k,h1⟩
          . exact .inl ⟨h1,ak⟩
          . exact .inr ⟨k,by rw[h1,Jv c1]⟩) (by
          rcases r2 with⟨h1,h2⟩|⟨k,h1⟩
          . exact .inl ⟨h1,ak,rfl⟩
          exact .inr ⟨k,by rw[h1,Jv ak]⟩) (.inl ⟨rfl,rfl⟩) ak ak (iR _)
         refine⟨_,hrun,hg,⟨_,_,_,rfl,by simp[std];omega,ak,λhp=>?_⟩,λN t f ho=>?_⟩
         . split
           . exact y3 ak
           have:=y3 ak;cases ad<;>simp at this ⊢
         obtain⟨i0,i1,i2,ad',len',cap',heq,x1,x2,x3,x4⟩:=hx _ _ _ ho;cases heq;refine⟨by simp[std];omega,by simp[std];omega,by simp[std];omega,_,_,_,rfl,by simp[std];omega,ak,λht=>?_,λhp=>?_⟩
         . have:=x3 ht;simp[std];omega
         obtain⟨b,o,s,q1,q2,q3⟩:=x4 ak;have e1:((std P).add off l).toNat=off.toNat+l.toNat:=by simp[std];omega
         refine⟨b,o,s,q1,?_,?_⟩
         . rw[if_neg ak,q2,e1];simp only[iP,Addr.add_lit,kr,rY]
         rw[e1,kr];have:(cap-l.toNat)*sz+l.toNat*sz=cap*sz:=by rw[← kr];congr 1;omega
         omega
       . rename_i km0 m l h bl bh;split at he
         . rename_i dh;simp only[aW,bM] at he;obtain⟨rfl,rfl⟩:=he;obtain⟨c1,c2,c3⟩:0<=l/\l<=h/\h<=n:=hos _ (iO ..);obtain⟨_,c5,c6⟩:0<=h/\h<=m/\m<=n:=hos _ (gU _ (iO ..));obtain⟨hg,⟨ad,len,cap,rfl,y1,y2,y3⟩,hx⟩:=hy;obtain⟨km,rfl⟩ : ∃ k,mx'=some (.int k m):=by
            rcases hmx with⟨h,_⟩|⟨dl,vl,h1,h2,h3⟩
            . cases h
            cases h1;cases h3;exact⟨_,h2⟩
           have r1:=bnd bl hlo;obtain⟨kh,rfl⟩ : ∃ k,hi'=some (.int k h):=by
            rcases bnd bh hhi with⟨h1,_⟩|h1
            . rcases hhi with⟨h2,_⟩|⟨_,_,_,h3,_⟩
              . cases h2
              rw[h1] at h3;cases h3
            exact h1
           have hrun:=aaR hu hs ad len cap lo' (some (.int kh h)) (some (.int km m)) l.toNat h.toNat m.toNat (by
            rcases r1 with⟨h1,h2⟩|⟨k,h1⟩
            . exact .inl ⟨h1,ak⟩
            exact .inr ⟨k,by rw[h1,Jv c1]⟩) (.inr ⟨kh,by rw[Jv ak]⟩) (.inr ⟨km,by rw[Jv ak]⟩) ak ak ak
           refine⟨_,hrun,hg,⟨_,_,_,rfl,by simp[std];omega,ak,λhp=>?_⟩,λN t f ho=>?_⟩
           . split
             . exact y3 ak
             have:=y3 ak;cases ad<;>simp at this ⊢
           obtain⟨i0,i1,i2,ad',len',cap',heq,x1,x2,x3,x4⟩:=hx _ _ _ ho;cases heq;refine⟨by simp[std];omega,by simp[std];omega,by simp[std];omega,_,_,_,rfl,by simp[std];omega,ak,λht=>?_,λhp=>?_⟩
           . simp[std];omega
           obtain⟨b,o,s,q1,q2,q3⟩:=x4 ak;have e1:((std P).add off l).toNat=off.toNat+l.toNat:=by simp[std];omega
           refine⟨b,o,s,q1,?_,?_⟩
           . rw[if_neg ak,q2,e1];simp only[iP,Addr.add_lit,kr,rY]
           rw[e1,kr];have:(m.toNat-l.toNat)*sz+l.toNat*sz=m.toNat*sz:=by rw[← kr];congr 1;omega
           have:m.toNat*sz<=cap*sz:=oq _ ak;omega
         cases he
       cases he
     cases he
   . rename_i sz n tight f;split at he
     . rename_i hse;have hse:=dO hse;rw[hse] at hs;have main : ∀ (l h:Int) (m:Nat) (t':Bool),0<=l->l<=h->h<=n->(h:Int)<=m->(∀ cap:Nat,n<=cap->(tight=true->(cap:Int)=n)->(mx'=none->m=cap)->(m<=cap/\(t'=true->(m:Int)=h))) ->
         (lo'=none/\l=0\/∃ k,lo'=some (.int k l))->((hi'=none/\mx'=none/\h=n)\/∃ k,hi'=some (.int k h))->(mx'=none\/∃ k,mx'=some (.int k (m:Int))) ->
         (mx'=none->∀ ad len cap,y = .slice ad len cap->m=cap) ->
         ∃ z,(Instr.sliceAt t y lo' hi' mx').run P w = .ok z w/\Rd w.heap I β objs ctr (.sl sz ((std P).sub h l) t' (λi j=>f ((std P).add l i) j)) z:=by
        intro l h m t' c1 c2 c3 c4 c5 r1 r2 r3 r4;obtain⟨ad,len,cap,rfl,x1,x2,x3,x4⟩:=hy;obtain⟨d1,d2⟩:=c5 cap ak (λht=>by have:=x3 ht;omega) (λhn=>r4 hn ad len cap rfl);have hrun:=aaR hu hs ad len cap lo' hi' mx' l.toNat h.toNat m (by
         rcases r1 with⟨h1,h2⟩|⟨k,h1⟩
         . exact .inl ⟨h1,ak⟩
         . exact .inr ⟨k,by rw[h1,Jv c1]⟩) (by
         rcases r2 with⟨h1,h2,h3⟩|⟨k,h1⟩
         . exact .inl ⟨h1,ak,h2⟩
         . exact .inr ⟨k,by rw[h1,Jv ak]⟩) (by
         rcases r3 with h1|⟨k,h1⟩
         . exact .inl ⟨h1,r4 h1 _ _ _ rfl⟩
         exact .inr ⟨k,h1⟩) ak ak d1
        refine⟨_,hrun,_,_,_,rfl,by simp[std];omega,ak,λht=>by have:=d2 ht;omega,λhp=>?_⟩;obtain⟨b,o,c,e',fr,q1,q2,q3,q4⟩:=x4 ak;refine⟨b,o+l.toNat*sz,c,e',fr,?_,q2,q3,λi hi j hj=>?_⟩
        . rw[if_neg ak,q1];simp only[iP,Addr.add_lit]
        obtain⟨z,z1,z2,z3⟩:=q4 (l.toNat+i) ak j hj;refine⟨z,by rw[← z1,kr];congr 1;omega,z2,?_⟩;have:((l.toNat+i:Nat):Int)=(std P).add l i:=by simp[std];omega
        rw[this] at z3;exact z3
       split at he
       . rename_i l h bl bh;simp only[aW,bM] at he;obtain⟨rfl,rfl⟩:=he;obtain⟨c1,c2,c3⟩:0<=l/\l<=h/\h<=n:=hos _ (fQ.2 rfl);have hm:mx'=none:=by rcases hmx with⟨_,h⟩|⟨_,_,h,_⟩;exact h;cases h
         obtain⟨ad,len,cap,hyy,x1,x2,x3,x4⟩:=id hy;refine main l h cap _ c1 c2 c3 ak ?_ ?_ ?_ (.inl hm) (λ_ ad' len' cap' h'=>by rw[hyy] at h';cases h';rfl)
         . intro cap' k1 k2 k3;have k3:=k3 hm;refine⟨ak,λht=>?_⟩;simp[std] at ht;have:=k2 ht.1;omega
         . rcases bnd bl hlo with⟨h1,h2⟩|⟨k,h1⟩
           . exact .inl ⟨h1,h2⟩
           exact .inr ⟨k,h1⟩
         rcases bnd bh hhi with⟨h1,h2⟩|⟨k,h1⟩
         . exact .inl ⟨h1,hm,h2⟩
         exact .inr ⟨k,h1⟩
       . rename_i k' m l h bl bh;split at he
         . rename_i dh;simp only[aW,bM] at he;obtain⟨rfl,rfl⟩:=he;obtain⟨c1,c2,c3⟩:0<=l/\l<=h/\h<=n:=hos _ (iO ..);obtain⟨e1,e2,e3⟩:0<=h/\h<=m/\m<=n:=hos _ (gU _ (fQ.2 rfl));have hm:mx'=some (.int k' m):=by
            rcases hmx with⟨h,_⟩|⟨_,_,h1,h2,h3⟩
            . cases h
            cases h1;cases h3;exact h2
           refine main l h m.toNat _ c1 c2 c3 ak ?_ ?_ ?_ (.inr ⟨k',by rw[hm,Jv ak]⟩) (λhn=>by rw[hm] at hn;cases hn)
           . intro cap' k1 k2 k3;refine⟨ak,λht=>?_⟩;simp[std] at ht;omega
           . rcases bnd bl hlo with⟨h1,h2⟩|⟨k,h1⟩
             . exact .inl ⟨h1,h2⟩
             exact .inr ⟨k,h1⟩
           rcases hhi with⟨h1,_⟩|⟨dl,vl,h1,h2,h3⟩
           . cases h1
           rcases bnd bh (.inr ⟨dl,vl,h1,h2,h3⟩) with⟨h4,_⟩|⟨k,h4⟩
           . rw[h2] at h4;cases h4
           exact .inr ⟨k,h4⟩
         cases he
       cases he
     cases he
   . split at he
     . rename_i l h bl bh;simp only[aW,bM] at he;obtain⟨rfl,rfl⟩:=he;have c1:l=0:=hos _ (iO ..);have c2:h=0:=hos _ (gU _ (fQ.2 rfl));subst c1;subst c2;have hm:mx'=none:=by rcases hmx with⟨_,h⟩|⟨_,_,h,_⟩;exact h;cases h
       subst hm;cases hy;have hrun:=aaR hu hs none 0 0 lo' hi' none 0 0 0 (by
        rcases bnd bl hlo with⟨h1,h2⟩|⟨k,h1⟩
        . exact .inl ⟨h1,rfl⟩
        . exact .inr ⟨k,h1⟩) (by
        rcases bnd bh hhi with⟨h1,h2⟩|⟨k,h1⟩
        . exact .inl ⟨h1,rfl,rfl⟩
        exact .inr ⟨k,h1⟩) (.inl ⟨rfl,rfl⟩) (iR _) (iR _) (iR _)
       exact⟨_,hrun,rfl⟩
     cases he
   cases he
 . rename_i hk;have hu:=nH hT ht hk;split at he
   . rename_i s;split at he
     . rename_i l h bl bh;simp only[aW,bM] at he;obtain⟨rfl,rfl⟩:=he;obtain⟨c1,c2,c3⟩:0<=l/\l<=h/\h<=s.size:=hos _ (fQ.2 rfl);have hm:mx'=none:=by rcases hmx with⟨_,h⟩|⟨_,_,h,_⟩;exact h;cases h
       subst hm;cases hy;obtain⟨L',rfl⟩:=Int.eq_ofNat_of_zero_le c1;obtain⟨H',rfl⟩:=Int.eq_ofNat_of_zero_le (show 0<=h by omega);have d1:L'<=H':=ak;have d2:H'<=s.size:=ak;refine⟨.string (s.extract L' H'),?_,by simp[Rd,std,aop]⟩;rcases bnd bl hlo with⟨rfl,h2⟩|⟨k,rfl⟩<;>rcases bnd bh hhi with⟨rfl,h4⟩|⟨k',rfl⟩
       . have e1:L'=0:=ak;have e2:H'=s.size:=by simp[std] at h4;omega
         subst e1;subst e2;simp[Instr.sliceAt,Instr.slice,Instr.sliceBounds,run_underlying hu]
       . have e1:L'=0:=ak;subst e1;simp[Instr.sliceAt,Instr.slice,Instr.sliceBounds,Instr.sliceBound,run_underlying hu,asIntOf,d2]
       . have e2:H'=s.size:=by simp[std] at h4;omega
         subst e2;simp[Instr.sliceAt,Instr.slice,Instr.sliceBounds,Instr.sliceBound,run_underlying hu,asIntOf,d1]
       simp[Instr.sliceAt,Instr.slice,Instr.sliceBounds,Instr.sliceBound,run_underlying hu,asIntOf,d1,d2]
     cases he
   cases he
 cases he
end
end Go.Vx
