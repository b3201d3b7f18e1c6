/- Regions: in whatever order the Go model runs the operations, it comes to what the evaluator says of the text's order. -/
import Derived.Test.YtckmalogclklmaaGreatDoorVxOps6
set_option linter.all false
namespace Go.Vx
section
variable {P:Program} {tt:TT} {B0:Nat} {h0:Array Obj} {I0:IS} {L:p9} {bO:sU} {m:Nat} {ops:Array Oper}
theorem Fp {o:Oper} {st st':St} {os':List aU} {p:Pr} (h:qJ p tt bO m ops o st=some (st',os')) :
  ∃ d u os d',iT p tt bO (m+o.dst.getD 0) st.objs st.ctr (rd p st.slots) o=some (d,u,os) ∧
   st' = { slots:=iD st.slots o.dst d',objs:=bF st.objs u,ctr:=st.ctr } ∧
   ((o.guard=none∧d'=d∧os'=os)∨∃ g c t,o.guard=some g∧I6 p ops st.slots g=some c∧u=[]∧o.dst=some t∧d' = .BH c d∧os'=os.map (aU.imp c)):=by
 unfold qJ at h
 split at h
 · cases h
 · rename_i d u os he
   split at h
   · rename_i hg
     simp only [Option.some.injEq,Prod.mk.injEq] at h
     obtain ⟨rfl,rfl⟩:=h
     exact ⟨d,u,os,d,he,rfl,.inl ⟨hg,rfl,rfl⟩⟩
   · rename_i g hg
     split at h
     · rename_i c t hc hd
       simp only [Option.some.injEq,Prod.mk.injEq] at h
       obtain ⟨rfl,rfl⟩:=h
       exact ⟨d,[],os,.BH c d,he,by simp [hd,iD,bF],.inr ⟨g,c,t,hg,hc,rfl,hd,rfl,rfl⟩⟩
     · cases h
theorem Yg {o:Oper} {st:St} {p:Pr} {d d':D} {u:List (Nat × Option Ob)} {os os':List aU} (he:iT p tt bO (m+o.dst.getD 0) st.objs st.ctr (rd p st.slots) o=some (d,u,os))
  (h:(o.guard=none∧d'=d∧os'=os)∨∃ g c t,o.guard=some g∧I6 p ops st.slots g=some c∧u=[]∧o.dst=some t∧d' = .BH c d∧os'=os.map (aU.imp c)) :
  qJ p tt bO m ops o st=some ({ slots:=iD st.slots o.dst d',objs:=bF st.objs u,ctr:=st.ctr },os'):=by
 unfold qJ
 rw [he]
 rcases h with ⟨hg,rfl,rfl⟩ | ⟨g,c,t,hg,hc,rfl,hd,rfl,rfl⟩
 · simp [hg]
 · simp [hg,hc,hd,iD,bF]
theorem ah6 {h:Array Obj} {I:IS} {β:Nat→Option (Nat × Nat × Array Value)} {objs:List (Option Ob)} {ctr:Nat} {want:Bool} : ∀ (d:D) (c:Bool) (y:Value),MQ (std P) want d=some c→Rd h I β objs ctr d y →
  (c=true∧y = .bool want)∨(c=false∧(y = .bool (!want)∨y=undef)):=by
 intro d
 induction d with
 | v x =>
  intro c y hg hr
  cases hr
  cases x<;>simp [MQ] at hg
  rename_i b
  subst hg
  cases want<;>cases b<;>simp [std]
 | BH b d ih =>
  intro c y hg hr
  simp only [MQ] at hg
  cases hd:MQ (std P) want d with
  | none=>rw [hd] at hg;cases hg
  | some c' =>
   rw [hd] at hg
   simp only [Option.map_some,Option.some.injEq] at hg
   have hg:(b && c')=c:=hg
   subst hg
   cases b with
   | true=>simpa using ih c' y hd (hr.1 rfl)
   | false=>exact .inr ⟨rfl,.inr (hr.2 rfl)⟩
 | _=>intro c y hg;simp [MQ] at hg
theorem wF (hT:gH P tt) {o:Oper} {i:Nat} (hi:ops[i]? = some o) {st st':St} {os:List aU} {a:Act} {w:World} (R:RS B0 h0 I0 L st a w)
  (he:qJ (std P) tt bO m ops o st=some (st',os)) (hos : ∀ q∈os,q.run (std P)) {K:Act→World→Prop} {Q:Exit→Act→World→Prop}
  (hK : ∀ a' w',RS B0 h0 I0 L st' a' w'→K a' w'):wpOp P ops Q i K a w:=by
 obtain ⟨I,β,R⟩:=R
 obtain ⟨d,u,os2,d',h1,rfl,h2⟩:=Fp he
 unfold wpOp
 rw [hi]
 simp only
 rcases h2 with ⟨hg,rfl,rfl⟩ | ⟨g,c,t,hg,hc,rfl,hd,rfl,rfl⟩
 · have hw:Region.wanted o (yielded ops a.tmps)=true:=by simp [Region.wanted,hg]
   rw [if_pos hw]
   refine .inl (V5 hT R h1 hos fun y w' hp=>hK _ _ ?_)
   obtain ⟨I',β',R'⟩:=R.put o.dst hp
   exact ⟨I',β',R'⟩
 · obtain ⟨j,want⟩:=g
   obtain ⟨tg,htg,ahh⟩ : ∃ tg,(ops[j]?).bind (·.dst)=some tg∧MQ (std P) want (st.slots.getD tg .junk)=some c:=by
    unfold I6 at hc
    simp only at hc
    split at hc
    · rename_i tg htg;exact ⟨tg,htg,hc⟩
    · cases hc
   have hrel : ∃ y,a.tmps[tg]? = some y∧Rd w.heap I β st.objs st.ctr (st.slots.getD tg .junk) y:=by
    cases hs:st.slots[tg]? with
    | none=>simp [List.getD,hs,MQ] at ahh
    | some x =>
     obtain ⟨y,h1,h2⟩:=R.slot tg x hs
     exact ⟨y,h1,by simpa [List.getD,hs] using h2⟩
   have hwant:Region.wanted o (yielded ops a.tmps)=c:=by
    simp only [Region.wanted,hg,yielded,htg,Option.bind_some]
    obtain ⟨y,y1,y2⟩:=hrel
    rw [y1]
    rcases ah6 _ _ _ ahh y2 with ⟨rfl,rfl⟩ | ⟨rfl,rfl | rfl⟩<;>cases want<;>rfl
   cases c with
   | true =>
    rw [hwant,if_pos rfl]
    refine .inl (V5 hT R h1 (fun q hq=>hos _ (List.mem_map.2 ⟨q,hq,rfl⟩) rfl) fun y w' hp=>hK _ _ ?_)
    have hp':Post B0 h0 I0 L I β st.objs st.ctr w (bF st.objs []) w' (.BH true d) y:=by
     obtain ⟨I',β',G,r1,r2,r3,r4,r5,r6,r7,r9,r8⟩:=hp.ex
     exact ⟨I',β',G,r1,r2,r3,r4,r5,r6,r7,r9,fun _=>r8,fun h=>by cases h⟩
    obtain ⟨I',β',R'⟩:=R.put o.dst hp'
    exact ⟨I',β',R'⟩
   | false =>
    rw [hwant,if_neg (by simp)]
    refine hK _ _ ?_
    have hp':Post B0 h0 I0 L I β st.objs st.ctr w (bF st.objs []) w (.BH false d) undef:=R.still ⟨fun h=>(by cases h),fun _=>rfl⟩
    obtain ⟨I',β',R'⟩:=R.put o.dst hp'
    exact ⟨I',β',R'⟩
theorem amG {o:Oper} {a:Act} {w:World} {K:Act→World→Prop} (h:o.wp P a w K (fun _ _ _=>False)) : ∃ a' w',K a' w':=by
 unfold Oper.wp at h
 generalize (execOp a.eval o).run P w=r at h
 cases r with
 | ok n w' =>
  cases n<;>simp only [Oper.upon] at h
  case value v=>exact ⟨_,_,h⟩
  case skip=>exact ⟨_,_,h⟩
  case defer d=>exact ⟨_,_,h⟩
  case enter f args =>
   obtain ⟨e,w'',fr,h1,_⟩:=h []
   cases e with
   | returned v=>exact ⟨_,_,h1⟩
   | panicked c=>exact h1.elim
   | outgrown=>obtain ⟨_,_,h2⟩:=h1;exact h2.elim
  case row r args =>
   obtain ⟨v,w'',h1,_⟩:=h default []
   exact ⟨_,_,h1⟩
 | halt x w'=>cases x<;>simp only [Oper.upon] at h
theorem abY {i:Nat} {a:Act} {w:World} {K:Act→World→Prop} (h:wpOp P ops (fun _ _ _=>False) i K a w) : ∃ a' w',K a' w':=by
 unfold wpOp at h
 split at h
 · exact ⟨_,_,h⟩
 · split at h
   · rcases h with h | ⟨_,_,_,h⟩
     · exact amG h
     · exact h.elim
   · exact ⟨_,_,h⟩
theorem NU (hT:gH P tt) {Q:Exit→Act→World→Prop} : ∀ (l:List Oper) (k:Nat),(∀ j,l[j]? = ops[k+j]?)→∀ (st st':St) (os:List aU) (a:Act) (w:World),RS B0 h0 I0 L st a w →
  iE (std P) tt bO m ops l st=some (st',os)→(∀ q∈os,q.run (std P))→(∀ a' w',RS B0 h0 I0 L st' a' w'→Q .normal a' w')→wpOps P ops Q ((List.range l.length).map (k + ·)) a w
 | [],k,_,st,st',os,a,w,R,he,_,hQ=>by
  simp only [iE,Option.some.injEq,Prod.mk.injEq] at he
  obtain ⟨rfl,rfl⟩:=he
  exact hQ _ _ R
 | o :: l,k,hl,st,st',os,a,w,R,he,hos,hQ=>by
  simp only [iE] at he
  split at he
  · cases he
  · rename_i st1 os1 h1
    split at he
    · cases he
    · rename_i st2 os2 h2
      simp only [Option.some.injEq,Prod.mk.injEq] at he
      obtain ⟨rfl,rfl⟩:=he
      have e:(List.range (o :: l).length).map (k + ·)=k :: (List.range l.length).map (k+1 + ·):=by
       rw [List.length_cons,List.range_succ_eq_map,List.map_cons,List.map_map]
       congr 1
       apply List.map_congr_left
       intro x _
       simp;omega
      rw [e,wpOps_cons]
      have ho:ops[k]? = some o:=by simpa using (hl 0).symm
      refine wF hT ho R h1 (fun q hq=>hos q (List.mem_append_left _ hq)) fun a' w' R'=>?_
      exact NU hT l (k+1) (fun j=>by have:=hl (j+1);simpa [Nat.add_assoc,Nat.add_comm 1 j] using this) st1 st2 os2 a' w' R' h2 (fun q hq=>hos q (List.mem_append_right _ hq)) hQ
end
end Go.Vx
