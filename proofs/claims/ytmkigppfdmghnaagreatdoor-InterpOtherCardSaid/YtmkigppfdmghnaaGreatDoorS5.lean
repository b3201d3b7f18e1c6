/- Modes: what may be, and that it stays so when one is set. No conditions. -/
import Derived.Test.YtmkigppfdmghnaaGreatDoorS4
set_option linter.all false
section
namespace Go.Vx
set_option maxRecDepth 100000
theorem sg_iff {x:Nat} : x &&& (x-1)=0 ↔ x=0∨∃ k,x=2 ^ k:=by
 by_cases h:x=0
 · subst h;simp
 · rw [Nat.and_sub_one_eq_zero_iff_isPowerOfTwo h]
   exact ⟨fun ⟨k,e⟩=>.inr ⟨k,e⟩,fun h2=>h2.elim (fun e=>absurd e h) fun ⟨k,e⟩=>⟨k,e⟩⟩
def One (b m:Nat):Prop:=∀ i j,m.testBit i=true→m.testBit j=true→b.testBit i=true→b.testBit j=true→i=j
theorem one_iff {b m:Nat} : (b &&& m) &&& ((b &&& m)-1)=0 ↔ One b m:=by
 rw [sg_iff]
 constructor
 · rintro (h | ⟨k,h⟩) i j mi mj bi bj
   · have:=congrArg (fun x=>x.testBit i) h
     simp [mi,bi] at this
   · have hi:=congrArg (fun x=>x.testBit i) h
     have hj:=congrArg (fun x=>x.testBit j) h
     simp only [Nat.testBit_and,mi,bi,mj,bj,Bool.and_self,Nat.testBit_two_pow] at hi hj
     have:=of_decide_eq_true hi.symm
     have:=of_decide_eq_true hj.symm
     omega
 · intro h
   by_cases h0:b &&& m=0
   · exact .inl h0
   · obtain ⟨k,hk⟩:=Nat.exists_testBit_of_ne_zero h0
     simp only [Nat.testBit_and,Bool.and_eq_true] at hk
     refine .inr ⟨k,Nat.eq_of_testBit_eq fun i=>?_⟩
     rw [Nat.testBit_two_pow,Nat.testBit_and]
     by_cases hi:b.testBit i=true∧m.testBit i=true
     · have:=h i k hi.2 hk.2 hi.1 hk.1
       subst this
       simp [hi.1,hi.2]
     · have hik:k≠i:=fun e=>by subst e;exact hi ⟨hk.1,hk.2⟩
       simp only [hik,decide_false,Bool.and_eq_false_imp]
       intro hb
       cases hm:m.testBit i with
       | true=>exact absurd ⟨hb,hm⟩ hi
       | false=>rfl
theorem wrapN {n:Nat} (h:n < 4611686018427387904):IntKind.wrap .i64 (n:Int)=n:=by
 have m1:IntKind.min .i64 = -9223372036854775808:=by decide
 have m2:IntKind.max .i64=9223372036854775807:=by decide
 exact wrap_rng .i64 _ (by omega)
theorem ofN (a:Nat):BitVec.ofInt (IntKind.bits .i64) (a:Int)=BitVec.ofNat 64 a:=by
 apply BitVec.eq_of_toNat_eq
 show (BitVec.ofInt 64 (a:Int)).toNat=(BitVec.ofNat 64 a).toNat
 simp
theorem bnd_nat {a c:Nat} (ha:a < 4611686018427387904) (hc:c < 4611686018427387904):bndI .i64 a c=((a &&& c:Nat):Int):=by
 unfold bndI
 rw [ofN,ofN]
 show IntKind.wrap .i64 ((BitVec.ofNat 64 a &&& BitVec.ofNat 64 c).toNat:Int)=_
 rw [BitVec.toNat_and,BitVec.toNat_ofNat,BitVec.toNat_ofNat,Nat.mod_eq_of_lt (show a < 2 ^ 64 by omega),Nat.mod_eq_of_lt (show c < 2 ^ 64 by omega)]
 exact wrapN (Nat.lt_of_le_of_lt Nat.and_le_left ha)
theorem bor_nat {a c:Nat} (ha:a < 2 ^ 61) (hc:c < 2 ^ 61):borI .i64 a c=((a ||| c:Nat):Int):=by
 unfold borI
 rw [ofN,ofN]
 show IntKind.wrap .i64 ((BitVec.ofNat 64 a ||| BitVec.ofNat 64 c).toNat:Int)=_
 rw [BitVec.toNat_or,BitVec.toNat_ofNat,BitVec.toNat_ofNat,Nat.mod_eq_of_lt (show a < 2 ^ 64 by omega),Nat.mod_eq_of_lt (show c < 2 ^ 64 by omega)]
 have:=Nat.or_lt_two_pow ha hc
 exact wrapN (by omega)
theorem bandn_nat {a c:Nat} (ha:a < 4611686018427387904) (hc:c < 4611686018427387904) : ∃ n:Nat,bandnI .i64 a c=n∧n≤a∧∀ i,n.testBit i=(a.testBit i && !c.testBit i):=by
 unfold bandnI
 rw [ofN,ofN]
 have hle:(BitVec.ofNat 64 a &&& ~~~BitVec.ofNat 64 c).toNat≤a:=by
  rw [BitVec.toNat_and]
  refine Nat.le_trans Nat.and_le_left ?_
  rw [BitVec.toNat_ofNat]
  exact Nat.mod_le _ _
 refine ⟨(BitVec.ofNat 64 a &&& ~~~BitVec.ofNat 64 c).toNat,?_,hle,fun i=>?_⟩
 · show IntKind.wrap .i64 ((BitVec.ofNat 64 a &&& ~~~BitVec.ofNat 64 c).toNat:Int)=_
   exact wrapN (by omega)
 · rw [BitVec.testBit_toNat,BitVec.getLsbD_and,BitVec.getLsbD_not,BitVec.getLsbD_ofNat,BitVec.getLsbD_ofNat]
   by_cases h:i < 64
   · simp [h]
   · have:a.testBit i=false:=Nat.testBit_lt_two_pow (Nat.lt_of_lt_of_le ha (Nat.le_trans (show 4611686018427387904≤2 ^ 64 by decide) (Nat.pow_le_pow_right (by decide) (by omega))))
     simp [h,this]
structure ModQ (m:T_modes_Modes):Prop where
 ex : ∃ b:Nat,m.fBits=b∧b < 2 ^ 24∧One b 28800∧One b 196608
theorem single_says {b m:Nat} (hb:b < 2 ^ 24) (hm:m < 2 ^ 24):Says (modes_single (bndI .i64 b (m:Int))) (One b m):=by
 unfold modes_single
 rw [bnd_nat (by omega) (by omega)]
 have h0:b &&& m≤m:=Nat.and_le_right
 refine .chk (inR64 (by omega) (by omega)) (.ret ?_)
 rw [← one_iff]
 generalize b &&& m=x at h0
 by_cases hx:x=0
 · subst hx
   exact ⟨fun _=>rfl,fun _=>by decide⟩
 · rw [show (x:Int)-1=((x-1:Nat):Int) by omega,bnd_nat (by omega) (by omega)]
   simp only [beq_iff_eq]
   omega
theorem mod_says (m:T_modes_Modes):Says (modes_Sane m) (ModQ m):=by
 unfold modes_Sane
 refine .ite (fun h=>.no ?_) fun h=>?_
 · rintro ⟨b,e,hb,_⟩
   rw [e] at h
   simp only [Bool.if_true_left,Bool.or_eq_true,decide_eq_true_eq] at h
   omega
 · have h : ¬ m.fBits < 0∧¬ 16777216≤m.fBits:=by
    constructor<;>intro hc<;>simp [hc] at h
   obtain ⟨b,hb⟩ : ∃ b:Nat,m.fBits=b:=⟨m.fBits.toNat,by omega⟩
   rw [hb] at h ⊢
   refine .bind _ (single_says (m:=28800) (by omega) (by omega)) fun v hv=>.bind _ (.guard (c:=v) fun _=>single_says (m:=196608) (by omega) (by omega)) fun w hw=>.ret ?_
   have e:ModQ m ↔ One b 28800∧One b 196608:=⟨fun ⟨b',e,_,h1,h2⟩=>by rw [hb] at e;cases Int.ofNat.inj e;exact ⟨h1,h2⟩,fun h'=>⟨b,hb,by omega,h'.1,h'.2⟩⟩
   rw [e]
   grind
def PlaceM (o:Fl Unit Int):Prop:=o = .go ()∨∃ v:Int,o = .out v∧0≤v∧v≤23
theorem place_one {c:Bool} {k:Int} {X:Option (Fl Unit Int)} (hk:0≤k∧k≤23) (hX:Yields X PlaceM) :
  Yields (cutO (iteO c (some (.out (.out k))) (chk (inR .i64 (k+1)) (some (.go ())))) fun (_:Unit)=>X) PlaceM:=by
 refine .cut (fun o=>o = .go ()∨o = .out (.out k)) (.ite (fun _=>.ret (.inr rfl)) fun _=>.chk (inR64 (by omega) (by omega)) (.ret (.inl rfl))) ?_
 rintro o (rfl | rfl)
 · exact .go hX
 · exact .out (.inr ⟨k,rfl,hk⟩)
theorem place_q (p:Bool) (n:Int):Yields (modes_Place p n) (fun v=>-1≤v∧v≤23):=by
 unfold modes_Place
 refine .cut PlaceM ?_ ?_
 · repeat (with_reducible refine place_one (by omega) ?_)
   exact .ret (.inl rfl)
 · rintro o (rfl | ⟨v,rfl,h⟩)
   · exact .go (.ret (by simp))
   · exact .out (by omega)
theorem shl_one {k:Nat} (h:k≤23):shlI .i64 1 (k:Int)=((2 ^ k:Nat):Int):=by
 unfold shlI
 rw [show min (k:Int).toNat (IntKind.bits .i64)=k by show min _ 64=k;omega]
 have h2:2 ^ k≤2 ^ 23:=Nat.pow_le_pow_right (by decide) h
 rw [show (1:Int)*2 ^ k=((2 ^ k:Nat):Int) by simp]
 exact wrapN (by omega)
theorem has_q (m:T_modes_Modes) (p:Bool) (n:Int):Yields (modes_Has m p n) (fun _=>True):=by
 unfold modes_Has
 exact .bind _ (place_q p n) fun v hv=>.bind _ (mod_says m) fun w hw=>.chk (fun h=>by grind) (.ret trivial)
theorem bit_mask {k m:Nat} (hk:k≤23) (hm:m < 2 ^ 24):(!(bndI .i64 (shlI .i64 1 (k:Int)) (m:Int)) == 0)=m.testBit k:=by
 rw [shl_one hk]
 have h2:2 ^ k≤2 ^ 23:=Nat.pow_le_pow_right (by decide) hk
 rw [bnd_nat (by omega) (by omega)]
 cases hm':m.testBit k with
 | false =>
  have:2 ^ k &&& m=0:=Nat.eq_of_testBit_eq fun i=>by
   rw [Nat.testBit_and,Nat.testBit_two_pow]
   by_cases h:k=i
   · subst h;simp [hm']
   · simp [h]
  rw [this];rfl
 | true =>
  have:2 ^ k &&& m≠0:=fun h=>by
   have:=congrArg (fun x=>x.testBit k) h
   simp [hm'] at this
  generalize 2 ^ k &&& m=x at this
  cases x with
  | zero=>exact absurd rfl this
  | succ n =>
   rw [Bool.not_eq_true']
   exact beq_eq_false_iff_ne.2 (by omega)
theorem modor_q {b c k:Nat} (hb:b < 2 ^ 24) (h1:One b 28800) (h2:One b 196608) (hk:k≤23) (hs : ∀ i,c.testBit i=true→b.testBit i=true) (hc:c≤b)
  (m1:Nat.testBit 28800 k=true→∀ i,Nat.testBit 28800 i=true→c.testBit i=false) (m2:Nat.testBit 196608 k=true→∀ i,Nat.testBit 196608 i=true→c.testBit i=false) :
  ModQ (T_modes_Modes.mk (borI .i64 (c:Int) (shlI .i64 1 (k:Int)))):=by
 have hp:2 ^ k≤2 ^ 23:=Nat.pow_le_pow_right (by decide) hk
 refine ⟨c ||| 2 ^ k,?_,?_,?_,?_⟩
 · rw [shl_one hk]
   exact bor_nat (by omega) (by omega)
 · exact Nat.or_lt_two_pow (by omega) (by omega)
 · intro i j mi mj bi bj
   rw [Nat.testBit_or,Nat.testBit_two_pow] at bi bj
   have e:=h1 i j mi mj
   have:=m1
   grind
 · intro i j mi mj bi bj
   rw [Nat.testBit_or,Nat.testBit_two_pow] at bi bj
   have e:=h2 i j mi mj
   have:=m2
   grind
theorem modset_q {m:T_modes_Modes} (q:ModQ m) (p:Bool) (n:Int) (on:Bool):Yields (modes_Set m p n on) ModQ:=by
 unfold modes_Set
 refine .call ((mod_says m).ok q) (.ite (fun h=>by cases h) fun _=>.bind _ (place_q p n) fun v hv=>.ite (fun _=>.ret q) fun h=>?_)
 have h:0≤v:=by simpa using h
 obtain ⟨k,rfl⟩ : ∃ k:Nat,v=k:=⟨v.toNat,by omega⟩
 have hk:k≤23:=by omega
 obtain ⟨b,e,hb,h1,h2⟩:=q
 have hp:2 ^ k≤2 ^ 23:=Nat.pow_le_pow_right (by decide) hk
 rw [e]
 refine .chk (by omega) (.ite (fun _=>.ret ?_) fun _=>.ite (fun c1=>.ite (fun c2=>.ret ?_) fun c2=>.ret ?_) fun c1=>.ite (fun c2=>.ret ?_) fun c2=>.ret ?_)
 · obtain ⟨x,e1,e2,e3⟩:=bandn_nat (a:=b) (c:=2 ^ k) (by omega) (by omega)
   rw [shl_one hk]
   refine ⟨x,e1,by omega,fun i j mi mj bi bj=>h1 i j mi mj ?_ ?_,fun i j mi mj bi bj=>h2 i j mi mj ?_ ?_⟩<;>simp_all
 all_goals
  have g1:=bit_mask (k:=k) (m:=28800) hk (by omega)
  have g2:=bit_mask (k:=k) (m:=196608) hk (by omega)
  have c1:=g1.symm.trans c1
  have c2:=g2.symm.trans c2
  obtain ⟨x,e1,l1,t1⟩:=bandn_nat (a:=b) (c:=28800) (by omega) (by omega)
 · obtain ⟨y,e2,l2,t2⟩:=bandn_nat (a:=x) (c:=196608) (by omega) (by omega)
   rw [show bandnI .i64 (b:Int) 28800=x from e1,show bandnI .i64 (x:Int) 196608=y from e2]
   exact modor_q hb h1 h2 hk (fun i h=>by rw [t2,t1] at h;grind) (by omega) (fun _ i hi=>by rw [t2,t1];simp [hi]) fun _ i hi=>by rw [t2];simp [hi]
 · rw [show bandnI .i64 (b:Int) 28800=x from e1]
   exact modor_q hb h1 h2 hk (fun i h=>by rw [t1] at h;grind) (by omega) (fun _ i hi=>by rw [t1];simp [hi]) fun h=>by rw [c2] at h;cases h
 · obtain ⟨y,e2,l2,t2⟩:=bandn_nat (a:=b) (c:=196608) (by omega) (by omega)
   rw [show bandnI .i64 (b:Int) 196608=y from e2]
   exact modor_q hb h1 h2 hk (fun i h=>by rw [t2] at h;grind) (by omega) (fun h=>by rw [c1] at h;cases h) fun _ i hi=>by rw [t2];simp [hi]
 · exact modor_q hb h1 h2 hk (fun i h=>h) (by omega) (fun h=>by rw [c1] at h;cases h) fun h=>by rw [c2] at h;cases h
end Go.Vx
end
section
namespace Go.Vx
set_option maxRecDepth 100000
def whl (r:T_cursor_Region):T_cursor_Region:=T_cursor_Region.mk r.fH r.fW 0 r.fH
structure StQ (s:T_interp_State):Prop where
 main:ScrQ s.fMain
 other:ScrQ s.fOther
 m:ModQ s.fM
 h:s.fOther.fR.fH=s.fMain.fR.fH
 w:s.fOther.fR.fW=s.fMain.fR.fW
 s0:CurQ s.fSaved.x0 (whl s.fMain.fR)
 s1:CurQ s.fSaved.x1 (whl s.fMain.fR)
 out:lenL s.fOut≤4096
 title:slenS s.fTitle≤1024
 last:0≤s.fLast∧s.fLast≤1114111
theorem st_says (s:T_interp_State) (b1:lenL s.fMain.fT.fL≤100000) (b2:lenL s.fOther.fT.fL≤100000):Says (interp_Sane s) (StQ s):=by
 unfold interp_Sane
 refine .bind _ (scr_says _ b1) fun v hv=>.bind _ (.guard fun _=>scr_says _ b2) fun v1 h1=>.bind _ (.guard fun _=>mod_says _) fun v2 h2=>.ite (fun h=>.no fun q=>?_) fun h=>?_
 · have:=q.main;have:=q.other;have:=q.m
   grind
 have hm:ScrQ s.fMain∧ScrQ s.fOther∧ModQ s.fM:=by grind
 refine .call rfl (.call rfl (.ite (fun h=>.no fun q=>?_) fun h=>?_))
 · have:=q.h;have:=q.w
   simp only at h
   grind
 have hd:s.fOther.fR.fH=s.fMain.fR.fH∧s.fOther.fR.fW=s.fMain.fR.fW:=by
  simp only at h
  grind
 have i1:inR .i64 (0+1):=inR64 (by omega) (by omega)
 have i2:inR .i64 (1+1):=inR64 (by omega) (by omega)
 refine .cut (fun o=>Go2 (CurQ s.fSaved.x0 (whl s.fMain.fR)∧CurQ s.fSaved.x1 (whl s.fMain.fR)) o false) ?_ ?_
 · refine .cut (fun o=>o = .go ()∧CurQ s.fSaved.x0 (whl s.fMain.fR)∨o = .out (.out false)∧¬ CurQ s.fSaved.x0 (whl s.fMain.fR)) (Go2.test (cur_says _ _) i1 (fun p=>.inl ⟨rfl,p⟩) (fun p=>.inr ⟨rfl,p⟩)) ?_
   rintro o (⟨rfl,p0⟩ | ⟨rfl,p0⟩)
   · refine .go (.cut (fun o=>o = .go ()∧CurQ s.fSaved.x1 (whl s.fMain.fR)∨o = .out (.out false)∧¬ CurQ s.fSaved.x1 (whl s.fMain.fR)) (Go2.test (cur_says _ _) i2 (fun p=>.inl ⟨rfl,p⟩) (fun p=>.inr ⟨rfl,p⟩)) ?_)
     rintro o (⟨rfl,p1⟩ | ⟨rfl,p1⟩)
     · exact .go (.ret (.inl ⟨rfl,p0,p1⟩))
     · exact .out (.inr ⟨rfl,fun h=>p1 h.2⟩)
   · exact .out (.inr ⟨rfl,fun h=>p0 h.1⟩)
 · rintro o (⟨rfl,p⟩ | ⟨rfl,p⟩)
   · refine .go (.ite (fun h=>.no fun q=>?_) fun h=>.ret ?_)
     · have:=q.out;have:=q.title
       grind
     · have e:StQ s ↔ 0≤s.fLast∧s.fLast≤1114111:=⟨fun q=>q.last,fun l=>⟨hm.1,hm.2.1,hm.2.2,hd.1,hd.2,p.1,p.2,by grind,by grind,l⟩⟩
       rw [e]
       grind
   · exact .out ⟨fun h=>(by cases h),fun q=>absurd ⟨q.s0,q.s1⟩ p⟩
theorem StQ.ok {s:T_interp_State} (q:StQ s):interp_Sane s=some true:=(st_says s q.main.tl q.other.tl).ok q
def act (s:T_interp_State):T_screen_Screen:=if s.fOn=true then s.fOther else s.fMain
def upd (s:T_interp_State) (x:T_screen_Screen) (l:Int):T_interp_State:=T_interp_State.mk (if s.fOn=true then s.fMain else x) (if s.fOn=true then x else s.fOther) s.fOn s.fM s.fSaved s.fOut s.fTitle l
theorem act_eq (s:T_interp_State):interp_Active s=some (act s):=by
 unfold interp_Active act
 cases h:s.fOn<;>simp [iteO]
theorem with_eq (s:T_interp_State) (x:T_screen_Screen):interp_with s x=some (upd s x s.fLast):=by
 unfold interp_with upd
 cases h:s.fOn<;>simp [iteO]
theorem act_upd (s:T_interp_State) (x:T_screen_Screen) (l:Int):act (upd s x l)=x:=by
 unfold act upd
 cases s.fOn<;>rfl
theorem upd_upd (s:T_interp_State) (x y:T_screen_Screen) (l k:Int):upd (upd s x l) y k=upd s y k:=by
 unfold upd
 cases s.fOn<;>rfl
theorem upd_act (s:T_interp_State):upd s (act s) s.fLast=s:=by
 unfold upd act
 cases h:s.fOn<;>simp [h]<;>(obtain ⟨a,b,c,d,e,f,g,k⟩:=s;simp at h;subst h;rfl)
theorem StQ.act {s:T_interp_State} (q:StQ s):ScrQ (act s):=by
 unfold Go.Vx.act
 cases s.fOn
 · exact q.main
 · exact q.other
theorem StQ.upd {s:T_interp_State} (q:StQ s) {x:T_screen_Screen} (hx:ScrQ x) (hh:x.fR.fH=(Go.Vx.act s).fR.fH) (hw:x.fR.fW=(Go.Vx.act s).fR.fW) {l:Int} (hl:0≤l∧l≤1114111):StQ (upd s x l):=by
 have h:=q.h;have w:=q.w;have s0:=q.s0;have s1:=q.s1
 unfold Go.Vx.act at hh hw
 have e0:x.fR.fH=s.fMain.fR.fH∧x.fR.fW=s.fMain.fR.fW:=by
  cases hb:s.fOn<;>simp [hb] at hh hw<;>omega
 have ew:whl x.fR=whl s.fMain.fR:=by unfold whl;rw [e0.1,e0.2]
 obtain ⟨a,b,c,d,e,f,g,k⟩:=s
 cases c
 · exact ⟨hx,q.other,q.m,h.trans e0.1.symm,w.trans e0.2.symm,by show CurQ _ (whl x.fR);rw [ew];exact s0,by show CurQ _ (whl x.fR);rw [ew];exact s1,q.out,q.title,hl⟩
 · exact ⟨q.main,hx,q.m,e0.1,e0.2,s0,s1,q.out,q.title,hl⟩
def Moved (s t:T_interp_State):Prop:=∃ x l,ScrK (act s) x∧t=upd s x l∧0≤l∧l≤1114111
theorem Moved.of {s:T_interp_State} (q:StQ s) {x:T_screen_Screen} (h:ScrK (act s) x):Moved s (upd s x s.fLast):=⟨x,_,h,rfl,q.last⟩
theorem Moved.refl {s:T_interp_State} (q:StQ s):Moved s s:=⟨act s,s.fLast,ScrK.refl q.act,(upd_act s).symm,q.last⟩
theorem Moved.q {s t:T_interp_State} (q:StQ s) (h:Moved s t):StQ t:=by
 obtain ⟨x,l,k,rfl,hl⟩:=h
 exact q.upd k.1 (by rw [k.2.1]) (by rw [k.2.1]) hl
theorem Moved.trans {s t u:T_interp_State} (h:Moved s t) (k:Moved t u):Moved s u:=by
 obtain ⟨x,l,h1,rfl,h2⟩:=h
 obtain ⟨y,m,k1,rfl,k2⟩:=k
 rw [act_upd] at k1
 exact ⟨y,m,h1.trans k1,upd_upd s x y l m,k2⟩
theorem set_scr {s:T_screen_Screen} (q:ScrQ s) {c:T_charset_State} (h:SetQ c):ScrK s (T_screen_Screen.mk s.fG (T_cursor_Cursor.mk s.fC.fX s.fC.fY s.fC.fWrap s.fC.fOrigin s.fC.fPen c) s.fR s.fT s.fK s.fDir s.fExplicit) :=
 have hq:CurQ (T_cursor_Cursor.mk s.fC.fX s.fC.fY s.fC.fWrap s.fC.fOrigin s.fC.fPen c) s.fR:=⟨q.cur.reg,q.cur.x,q.cur.y,q.cur.wrap,q.cur.org,q.cur.pen,h⟩
 ⟨q.turn (GridK.refl q.grid) hq q.kept _,rfl,rfl⟩
theorem cur_scr {s:T_screen_Screen} (q:ScrQ s) {c:T_cursor_Cursor} (h:CurQ c s.fR):ScrK s (T_screen_Screen.mk s.fG c s.fR s.fT s.fK s.fDir s.fExplicit):=⟨q.turn (GridK.refl q.grid) h q.kept _,rfl,rfl⟩
theorem letter_q {s:T_interp_State} (q:StQ s) {d:T_ucd_Data} (r:Int) (hd:Tot (ucd_Width d r)):Yields (interp_letter s d r) (Moved s):=by
 unfold interp_letter
 refine .call (act_eq s) (.bind _ hd.yields fun w _=>.ite (fun _=>.bind _ (scrmark_q q.act r) fun t ht=>.call (with_eq s t) (.ret (Moved.of q ht.1))) fun _=>.bind _ (has_q _ _ _) fun a _=>.bind _ (has_q _ _ _) fun b _=>.bind _ (print_q q.act r w a b) fun t ht=>.call (with_eq s t) (.ret ⟨t,_,ht,rfl,?_⟩))
 unfold imaxI iminI
 (repeat' split)<;>omega
end Go.Vx
end
