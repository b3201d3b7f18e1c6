/- Two steps that may change places do: the region's any order comes to the text's order. -/
import Derived.Test.YtckmalogclklmaaGreatDoorVxCode2
set_option linter.all false
namespace Go.Vx
section
variable {P:Program} {tt:TT} {B0:Nat} {h0:Array Obj} {I0:IS} {L:p9} {bO:sU} {m:Nat} {ops:Array Oper}
def Looks (p:Pr) (os:List aU) (d:D) (id G:Nat):Prop :=
 (∃ g,((∃ j,(strip p d).1 = .dI id g j)∨∃ sz i j,(strip p d).1 = .kX id g sz i j)∧(∀ q∈(strip p d).2,q∈os)∧aU.jh g G∈os)∨(QN (NW p d).1=true∧(∀ q∈(NW p d).2,q∈os)∧wI p id G os (NW p d).1)
theorem aeN {p:Pr} (d:D):(strip p (NW p d).1).1=(strip p d).1:=by cases d<;>rfl
theorem MS {p:Pr} {os:List aU} {d:D} {id G:Nat} (h:Looks p os d id G) {b:Nat} (hb:Z9 (strip p d).1=some b):b=id:=by
 rcases h with ⟨g,⟨j,hx⟩ | ⟨sz,i,j,hx⟩,_⟩ | ⟨h1,_,h2⟩
 · rw [hx] at hb;cases hb;rfl
 · rw [hx] at hb;cases hb
 · rw [← aeN] at hb
   generalize (NW p d).1=d at h1 h2 hb
   unfold QN at h1
   split at h1
   · obtain ⟨⟨h3,_⟩,_⟩:=h2;subst h3;cases hb;rfl
   · obtain ⟨⟨h3,_⟩,_⟩:=h2;subst h3;cases hb;rfl
   · cases h1
theorem adk {h:Array Obj} {I:IS} {β:Nat→Option (Nat × Nat × Array Value)} {objs:List (Option Ob)} {ctr id G:Nat} {os:List aU} (hos : ∀ q∈os,q.run (std P)) : ∀ (d:D) (y:Value),wI (std P) id G os d→Rd h I β objs ctr d y→Hu objs ctr id G:=by
 intro d
 induction d with
 | dI id' g j =>
  intro y hp hy
  obtain ⟨rfl,hg⟩:=hp
  have hg:g=G:=hos _ hg
  subst hg
  exact hy.1
 | cnd b x e ih1 ih2 =>
  intro y hp hy
  cases b with
  | true=>exact ih1 y hp.1 (hy.1 rfl)
  | false=>exact ih2 y hp.2 (hy.2 rfl)
 | _=>intro y hp;exact hp.elim
theorem aeO {h:Array Obj} {I:IS} {β:Nat→Option (Nat × Nat × Array Value)} {objs:List (Option Ob)} {ctr id G:Nat} {os:List aU} {d:D} {y:Value} (hos : ∀ q∈os,q.run (std P)) (hl:Looks (std P) os d id G) (hy:Rd h I β objs ctr d y):Hu objs ctr id G:=by
 rcases hl with ⟨g,hx,hw,he⟩ | ⟨_,hw,hp⟩
 · have hg:g=G:=hos _ he
   subst hg
   have:=Hw _ _ hy (fun q hq=>hos q (hw q hq))
   rcases hx with ⟨j,hx⟩ | ⟨sz,i,j,hx⟩<;>rw [hx] at this<;>exact this.1
 · exact adk hos _ y hp (aeP hy fun q hq=>hos q (hw q hq))
theorem Dr {p:Pr} {id g':Nat} {o o':List aU} {x:D} (hs : ∀ q∈o,q∈o'):wI p id g' o x→wI p id g' o' x:=by
 induction x with
 | dI=>exact fun h=>⟨h.1,hs _ h.2⟩
 | cnd _ _ _ i1 i2=>exact fun h=>⟨i1 h.1,i2 h.2⟩
 | _=>exact fun h=>h.elim
theorem adl {p:Pr} {id g':Nat} {cs:List D} {ti:TI} : ∀ {a d:D} {os:List aU},Bd p id g' cs ti a=some (d,os)→wI p id g' os a:=by
 intro a
 induction a with
 | dI id' g j =>
  intro d os h
  simp only [Bd] at h
  split at h
  · rename_i hid
    cases hl:l5 ti cs.length j (fun j=>cs.getD j .junk) with
    | none=>rw [hl] at h;cases h
    | some dd =>
     rw [hl] at h;simp only [Option.map_some,Option.some.injEq,Prod.mk.injEq] at h
     exact ⟨Nat.eq_of_beq_eq_true hid,by rw [← h.2];exact List.mem_cons_self ..⟩
  · cases h
 | cnd b x e ih1 ih2 =>
  intro d os h
  simp only [Bd] at h
  split at h
  · rename_i d1 o1 d2 o2 e1 e2
    simp only [Option.some.injEq,Prod.mk.injEq] at h
    obtain ⟨_,rfl⟩:=h
    have mono : ∀ {o o':List aU} {x:D},(∀ q∈o,q∈o')→wI p id g' o x→wI p id g' o' x:=by
     intro o o' x hs
     induction x with
     | dI=>exact fun h=>⟨h.1,hs _ h.2⟩
     | cnd _ _ _ i1 i2=>exact fun h=>⟨i1 h.1,i2 h.2⟩
     | _=>exact fun h=>h.elim
    exact ⟨mono (fun q hq=>List.mem_append_left _ hq) (ih1 e1),mono (fun q hq=>List.mem_append_right _ hq) (ih2 e2)⟩
  · cases h
 | _=>intro d os h;simp [Bd] at h
theorem aeQ {p:Pr} {id g' n:Nat} {ds:List D} : ∀ {a:D} {c:Bool} {cs cs':List D} {os:List aU},xJ p id g' ds n c a cs=some (cs',os)→wI p id g' os a:=by
 intro a
 induction a with
 | dI id' g j =>
  intro c cs cs' os h
  simp only [xJ] at h
  split at h
  · rename_i hid
    simp only [Bool.and_eq_true] at hid
    simp only [Option.some.injEq,Prod.mk.injEq] at h
    exact ⟨Nat.eq_of_beq_eq_true hid.1,by rw [← h.2];exact List.mem_cons_self ..⟩
  · cases h
 | cnd b x e ih1 ih2 =>
  intro c cs cs' os h
  cases x<;>simp only [xJ] at h<;>try (cases h;done)
  split at h
  · rename_i hid
    simp only [Bool.and_eq_true] at hid
    split at h
    · rename_i r o2 e2
      simp only [Option.some.injEq,Prod.mk.injEq] at h
      obtain ⟨_,rfl⟩:=h
      exact ⟨⟨Nat.eq_of_beq_eq_true hid.1,List.mem_cons_self ..⟩,Dr (fun q hq=>List.mem_cons_of_mem _ hq) (ih2 e2)⟩
    · cases h
  · cases h
 | _=>intro c cs cs' os h;simp [xJ] at h
theorem adn {p:Pr} {id g' n:Nat} {ds:List D} {a:D} {cs cs':List D} {os:List aU} (h:RX p id g' ds n a cs=some (cs',os)):wI p id g' os a:=by
 unfold RX at h
 split at h
 · rename_i b id' g j e
   split at h
   · rename_i hid
     simp only [Bool.and_eq_true] at hid
     split at h
     · rename_i r o2 e2
       simp only [Option.some.injEq,Prod.mk.injEq] at h
       obtain ⟨_,rfl⟩:=h
       exact ⟨⟨Nat.eq_of_beq_eq_true hid.1,List.mem_cons_self ..⟩,Dr (fun q hq=>List.mem_cons_of_mem _ hq) (aeQ e2)⟩
     · cases h
   · cases h
 · cases h
theorem MV {p:Pr} {o:Oper} {key ctr:Nat} {objs:List (Option Ob)} {ρ:Operand→D} {own:List (Nat × Nat)} (hc:cls own o=1∨cls own o=4)
  {d:D} {u:List (Nat × Option Ob)} {os:List aU} (he:iT p tt bO key objs ctr ρ o=some (d,u,os)) :
  u=[]∧∃ t x,o.op = .load t x ∧
   (((∀ b,Z9 (strip p (ρ x)).1=some b→b=4096)∧∀ aX key',iT p tt bO key' aX ctr ρ o=some (d,u,os)) ∨
    ∃ id ob,Looks p os (ρ x) id ob.gen∧objs[id]? = some (some ob)∧((∃ b,Z9 (strip p (ρ x)).1=some b)→∃ g cs,ob = .box g cs) ∧
     ∀ aX:List (Option Ob),∀ key',aX[id]? = some (some ob)→iT p tt bO key' aX ctr ρ o=some (d,u,os)):=by
 obtain ⟨dst,op,ty,pos,after,guard⟩:=o
 cases op
 case load t x =>
  simp only [iT,Ho,CK,MR,CO,pJ,Hq,CP,uw,CQ,lU,pK,uy,zk,CR,Hr,Ht,wG,qW,CS,qX,CU,qY,CW,wH,Ba] at he ⊢
  split at he
  · rename_i ti ht
    split at he
    · rename_i hpk
      obtain ⟨os2,h2,h3⟩:=je he
      obtain ⟨h4,h5⟩:=nX h2
      subst h5
      refine ⟨rfl,t,x,rfl,.inr ?_⟩
      unfold V9 at h4
      split at h4
      · rename_i g' cs cK
        refine ⟨yB (NW p (ρ x)).1,.box g' cs,.inr ⟨hpk,fun q hq=>by rw [h3];exact List.mem_append_left _ hq,Dr (fun q hq=>by rw [h3];exact List.mem_append_right _ hq) (adl h4)⟩,cK,fun _=>⟨_,_,rfl⟩,fun aX key' h'=>?_⟩
        rw [if_pos hpk]
        rw [← he]
        simp only [V9,cK,h']
      · cases h4
    rename_i hpk
    simp only [if_neg hpk]
    obtain ⟨os2,h2,h3⟩:=je he
    obtain ⟨h4,h5⟩:=nX h2
    subst h5
    refine ⟨rfl,t,x,rfl,?_⟩
    unfold rH at h4
    split at h4
    · rename_i id g j hx
      split at h4
      · rename_i g' cs cK
        refine .inr ⟨id,.box g' cs,.inl ⟨g,.inl ⟨j,hx⟩,?_,?_⟩,cK,fun _=>⟨_,_,rfl⟩,?_⟩
        · intro q hq;rw [h3];exact List.mem_append_left _ hq
        · rw [h3]
          refine List.mem_append_right _ ?_
          cases hl:l5 ti cs.length j (fun j=>cs.getD j .junk) with
          | none=>rw [hl] at h4;cases h4
          | some dd=>rw [hl] at h4;simp only [Option.map_some,Option.some.injEq,Prod.mk.injEq] at h4;rw [← h4.2];exact List.mem_cons_self ..
        · intro aX key' h'
          rw [← he]
          simp only [rH,hx,cK,h']
      · cases h4
    · rename_i id g sz i j hx
      split at h4
      · rename_i g' sz' N tg f cK
        refine .inr ⟨id,.arr g' sz' N tg f,.inl ⟨g,.inr ⟨sz,i,j,hx⟩,?_,?_⟩,cK,fun ⟨_,h⟩=>(by rw [hx] at h;cases h),?_⟩
        · intro q hq;rw [h3];exact List.mem_append_left _ hq
        · rw [h3]
          refine List.mem_append_right _ ?_
          split at h4
          · cases hl:l5 ti sz j (f i) with
            | none=>rw [hl] at h4;cases h4
            | some dd=>rw [hl] at h4;simp only [Option.map_some,Option.some.injEq,Prod.mk.injEq] at h4;rw [← h4.2];exact List.mem_cons_self ..
          · cases h4
        · intro aX key' h'
          rw [← he]
          simp only [rH,hx,cK,h']
      · cases h4
    · rename_i sz n f i j hx
      refine .inl ⟨fun b h=>(by rw [hx] at h;cases h;rfl),fun aX key'=>?_⟩
      rw [← he]
      simp only [rH,hx]
    · rename_i hx
      refine .inl ⟨fun b h=>(by rw [hx] at h;cases h),fun aX key'=>?_⟩
      rw [← he]
      simp only [rH,hx]
    · cases h4
  · cases he
 case call c =>
  simp only [cls] at hc
  obtain ⟨callee,kH,ats⟩:=c
  cases callee with
  | invoke=>simp at hc
  | builtin b=>cases b<;>simp at hc<;>(try (split at hc<;>simp at hc))
  | value f =>
   exfalso
   cases f with
   | func f=>simp only at hc;rcases hc with hc | hc<;>(split at hc<;>simp at hc)
   | tmp x=>simp only at hc;rcases hc with hc | hc<;>(repeat' split at hc)<;>simp at hc
   | _=>simp at hc
 case convert u t x=>(rcases hc with hc | hc)<;>(simp only [cls] at hc;split at hc<;>cases hc)
 all_goals simp [cls] at hc
theorem qK {p:Pr} {o:Oper} {key ctr:Nat} {objs:List (Option Ob)} {ρ:Operand→D} {own:List (Nat × Nat)} (hc:cls own o=1∨cls own o=4)
  {d:D} {u:List (Nat × Option Ob)} {os:List aU} (he:iT p tt bO key objs ctr ρ o=some (d,u,os)) :
  u=[]∧∃ t x,o.op = .load t x ∧
   ((∀ aX key',iT p tt bO key' aX ctr ρ o=some (d,u,os)) ∨
    ∃ id ob,Looks p os (ρ x) id ob.gen∧objs[id]? = some (some ob) ∧
     ∀ aX:List (Option Ob),∀ key',aX[id]? = some (some ob)→iT p tt bO key' aX ctr ρ o=some (d,u,os)):=by
 obtain ⟨h1,t,x,h2,h3⟩:=MV hc he
 refine ⟨h1,t,x,h2,?_⟩
 rcases h3 with ⟨_,h⟩ | ⟨id,ob,a,b,_,c⟩
 · exact .inl h
 · exact .inr ⟨id,ob,a,b,c⟩
theorem Yh {p:Pr} {o:Oper} {key ctr:Nat} {objs:List (Option Ob)} {ρ:Operand→D} {own:List (Nat × Nat)} (hc:cls own o=5) (hρ : ∀ f,ρ (.func f) = .fn (.func f) 0 (fun _=>.junk)) (hown:EC bO own key o)
  {d:D} {u:List (Nat × Option Ob)} {os:List aU} (he:iT p tt bO key objs ctr ρ o=some (d,u,os)):u=[]:=by
 obtain ⟨dst,op,ty,pos,after,guard⟩:=o
 cases op
 case load t x=>simp only [cls] at hc;split at hc<;>cases hc
 case call c =>
  simp only [cls] at hc
  obtain ⟨callee,kH,ats⟩:=c
  cases callee with
  | invoke=>simp at hc
  | builtin b=>cases b<;>simp at hc<;>(try (split at hc<;>simp at hc))
  | value f =>
   cases f with
   | func f =>
    have hk:=(hown _ rfl).1 f rfl
    simp only at hc
    have h4:pE own (f+f)=4:=by
     split at hc
     · cases hc
     · cases hc
     · assumption
     · cases hc
    rw [hk] at h4
    simp only [iT,Ba,hρ,strip,yT] at he
    unfold yS at he
    rw [h4] at he
    simp only at he
    repeat' split at he
    all_goals first | (cases he;done) | (simp only [Option.some.injEq,Prod.mk.injEq] at he;exact he.2.1.symm)
   | tmp x =>
    exfalso
    simp only at hc
    repeat' split at hc
    all_goals cases hc
   | _=>simp at hc
 case convert u t x=>(simp only [cls] at hc;split at hc<;>cases hc)
 all_goals simp [cls] at hc
theorem pass {oi oj:Oper} {own:List (Nat × Nat)} {ki kj ctr:Nat} {objs:List (Option Ob)} {NY I8:Operand→D} {di dj:D} {ui uj:List (Nat × Option Ob)} {EP KT:List aU}
  (hi:EC bO own ki oi) (hj:EC bO own kj oj)
  (hm:FJ (cls own oi) (cls own oj)=true)
  (afY : ∀ v,NY (.const v)=wO v) (ado : ∀ v,I8 (.const v)=wO v)
  (hri : ∀ f,NY (.func f) = .fn (.func f) 0 (fun _=>.junk)) (hrj : ∀ f,I8 (.func f) = .fn (.func f) 0 (fun _=>.junk))
  (h1:iT (std P) tt bO ki objs ctr NY oi=some (di,ui,EP))
  (h2:iT (std P) tt bO kj (bF objs ui) ctr I8 oj=some (dj,uj,KT))
  (hq:cls own oj=1→∀ q∈KT,q.run (std P))
  (hg : ∀ x id g os,(∀ q∈os,q.run (std P))→Looks (std P) os (I8 x) id g→Hu objs ctr id g) :
  iT (std P) tt bO kj objs ctr I8 oj=some (dj,uj,KT)∧iT (std P) tt bO ki (bF objs uj) ctr NY oi=some (di,ui,EP) ∧
   bF (bF objs ui) uj=bF (bF objs uj) ui:=by
 have ak1:cls own oi=0∨cls own oi=1∨cls own oi=2∨cls own oi=3∨cls own oi=4∨cls own oi=5:=by
  unfold cls
  repeat' split
  all_goals simp
 have ak2:cls own oj=0∨cls own oj=1∨cls own oj=2∨cls own oj=3∨cls own oj=4∨cls own oj=5:=by
  unfold cls
  repeat' split
  all_goals simp
 by_cases hi0:cls own oi=0
 · have e:ui=[]:=(Fq (aX:=objs) hi0 hri hi).2 _ _ _ h1
   subst e
   exact ⟨h2,by rw [← (Fq hi0 hri hi).1];exact h1,rfl⟩
 by_cases hj0:cls own oj=0
 · have e:uj=[]:=(Fq (aX:=objs) hj0 hrj hj).2 _ _ _ h2
   subst e
   exact ⟨by rw [(Fq hj0 hrj hj).1];exact h2,h1,rfl⟩
 have quiet:(cls own oi=5∨cls own oj=5)→ui=[]∧uj=[]:=by
  intro h5
  constructor
  · rcases ak1 with h | h | h | h | h | h
    · exact absurd h hi0
    · exact (qK (.inl h) h1).1
    · rw [h] at hm h5;rcases h5 with h5 | h5
      · cases h5
      · rw [h5] at hm;cases hm
    · rw [h] at hm h5;rcases h5 with h5 | h5
      · cases h5
      · rw [h5] at hm;cases hm
    · exact (qK (.inr h) h1).1
    · exact Yh h hri hi h1
  · rcases ak2 with h | h | h | h | h | h
    · exact absurd h hj0
    · exact (qK (.inl h) h2).1
    · rw [h] at hm h5;rcases h5 with h5 | h5
      · rw [h5] at hm;cases hm
      · cases h5
    · rw [h] at hm h5;rcases h5 with h5 | h5
      · rw [h5] at hm;cases hm
      · cases h5
    · exact (qK (.inr h) h2).1
    · exact Yh h hrj hj h2
 by_cases hv:cls own oi=5∨cls own oj=5
 · obtain ⟨e1,e2⟩:=quiet hv
   subst e1;subst e2
   exact ⟨h2,h1,rfl⟩
 have hci:cls own oi=0∨cls own oi=1∨cls own oi=2∨cls own oi=3∨cls own oi=4:=by
  rcases ak1 with h | h | h | h | h | h
  · exact .inl h
  · exact .inr (.inl h)
  · exact .inr (.inr (.inl h))
  · exact .inr (.inr (.inr (.inl h)))
  · exact .inr (.inr (.inr (.inr h)))
  · exact absurd (.inl h) hv
 have hcj:cls own oj=0∨cls own oj=1∨cls own oj=2∨cls own oj=3∨cls own oj=4:=by
  rcases ak2 with h | h | h | h | h | h
  · exact .inl h
  · exact .inr (.inl h)
  · exact .inr (.inr (.inl h))
  · exact .inr (.inr (.inr (.inl h)))
  · exact .inr (.inr (.inr (.inr h)))
  · exact absurd (.inr h) hv
 by_cases hil:cls own oi=1∨cls own oi=4
 · obtain ⟨e,t,x,hop,hl⟩:=qK hil h1
   subst e
   refine ⟨h2,?_,rfl⟩
   by_cases hjl:cls own oj=1∨cls own oj=4
   · obtain ⟨e,_⟩:=qK hjl h2
     subst e
     exact h1
   · have hj2:cls own oj=2:=by
      rcases hcj with h | h | h | h | h
      · exact absurd h hj0
      · exact absurd (.inl h) hjl
      · exact h
      · rw [h] at hm;rcases hil with h | h<;>rw [h] at hm<;>cases hm
      · exact absurd (.inr h) hjl
     rcases Bc hj2 ado hrj hj h2 with ⟨rfl,_⟩ | ⟨ob,rfl,hgen,hk,_⟩
     · exact h1
     rcases hl with hl | ⟨id,QO,_,cK,hl⟩
     · exact hl _ _
     · refine hl _ _ ?_
       have hne:kj≠id:=by
        intro h;subst h
        simp only [bF] at hk
        rw [cK] at hk;cases hk
       simp only [bF]
       rw [List.getElem?_set_ne hne];exact cK
 · have hi2:cls own oi=2:=by
    rcases hci with h | h | h | h | h
    · exact absurd h hi0
    · exact absurd (.inl h) hil
    · exact h
    · rw [h] at hm;simp [FJ,hj0] at hm
    · exact absurd (.inr h) hil
   rcases Bc hi2 afY hri hi h1 with ⟨rfl,hl⟩ | ⟨ob,rfl,hgen,hk,hl⟩
   · exact ⟨h2,hl _,rfl⟩
   have lD:ki < objs.length:=(List.getElem?_eq_some_iff.1 hk).1
   by_cases hj1:cls own oj=1
   · obtain ⟨e,t,x,hop,hlj⟩:=qK (.inl hj1) h2
     subst e
     refine ⟨?_,h1,rfl⟩
     rcases hlj with hlj | ⟨id,QO,hx,cK,hlj⟩
     · exact hlj _ _
     · refine hlj _ _ ?_
       by_cases hne:ki=id
       · subst hne
         exfalso
         simp only [bF] at cK
         rw [List.getElem?_set_self lD] at cK
         cases cK
         have:=hg x ki ob.gen _ (hq hj1) hx
         rcases this with h | ⟨_,o',ho',_⟩
         · omega
         · rw [hk] at ho';cases ho'
       · simp only [bF] at cK
         rwa [List.getElem?_set_ne hne] at cK
   · have hj2:cls own oj=2:=by
      rcases hcj with h | h | h | h | h
      · exact absurd h hj0
      · exact absurd h hj1
      · exact h
      · rw [h] at hm;rw [hi2] at hm;cases hm
      · rw [h] at hm;rw [hi2] at hm;cases hm
     rcases Bc hj2 ado hrj hj h2 with ⟨rfl,hl'⟩ | ⟨QO,rfl,aq4,hk',hl'⟩
     · exact ⟨hl' _,h1,rfl⟩
     simp only [bF] at hk'
     have hne:ki≠kj:=by
      intro h;subst h
      rw [List.getElem?_set_self lD] at hk';cases hk'
     rw [List.getElem?_set_ne hne] at hk'
     refine ⟨hl' _ hk',hl _ ?_,?_⟩
     · simp only [bF];rw [List.getElem?_set_ne (Ne.symm hne)];exact hk
     · simp only [bF];exact List.set_comm _ _ hne
theorem uz {p:Pr} {o:Oper} {key ctr:Nat} {objs:List (Option Ob)} {ρ:Operand→D} (hs:zl o=true)
  {d:D} {u:List (Nat × Option Ob)} {os:List aU} (he:iT p tt bO key objs ctr ρ o=some (d,u,os)) :
  ∃ t x y id ob QO,o.op = .store t x y∧(∀ b,gZ p ρ o=some b→b=id∧(∃ g cs,ob = .box g cs)∧∃ g cs,QO = .box g cs)∧u=[(id,some QO)]∧objs[id]? = some (some ob)∧Looks p os (ρ x) id ob.gen ∧
   ∀ aX:List (Option Ob),∀ key',aX[id]? = some (some ob)→iT p tt bO key' aX ctr ρ o=some (d,u,os):=by
 obtain ⟨dst,op,ty,pos,after,guard⟩:=o
 cases op
 case store t x y =>
  simp only [iT,Ho,CK,MR,CO,pJ,Hq,CP,uw,CQ,lU,pK,uy,zk,CR,Hr,Ht,wG,qW,CS,qX,CU,qY,CW,wH,Ba] at he ⊢
  split at he
  · rename_i ti ht
    split at he
    · rename_i hpk
      obtain ⟨os2,h2,h3⟩:=je he
      unfold QS at h2
      split at h2
      · rename_i ds g' cs hds cK
        split at h2
        · rename_i cs' os3 hp
          simp only [Option.some.injEq,Prod.mk.injEq] at h2
          obtain ⟨rfl,rfl,rfl⟩:=h2
          have hu:NW p (ρ x)=(ρ x,[]):=by
           unfold QN at hpk
           split at hpk
           · rename_i e;rw [e];rfl
           · rename_i e;rw [e];rfl
           · cases hpk
          have hl:Looks p os (ρ x) (yB (ρ x)) g':=.inr ⟨by rw [hu];exact hpk,fun q hq=>(by rw [hu] at hq;cases hq),by rw [hu];exact Dr (fun q hq=>by rw [h3];exact List.mem_append_right _ hq) (adn hp)⟩
          refine ⟨t,x,y,yB (ρ x),.box g' cs,_,rfl,fun b hb=>⟨MS hl hb,⟨_,_,rfl⟩,⟨_,_,rfl⟩⟩,rfl,cK,hl,fun aX key' h'=>?_⟩
          rw [if_pos hpk]
          rw [← he]
          simp only [QS,hds,cK,h']
        · cases h2
      · cases h2
    rename_i hpk
    simp only [if_neg hpk]
    obtain ⟨os2,h2,h3⟩:=je he
    unfold KU at h2
    split at h2
    · cases h2
    · rename_i ds hds
      split at h2
      · rename_i id g j hx
        split at h2
        · rename_i g' cs cK
          split at h2
          · rename_i hlen
            simp only [Option.some.injEq,Prod.mk.injEq] at h2
            obtain ⟨rfl,rfl,rfl⟩:=h2
            refine ⟨t,x,y,id,.box g' cs,_,rfl,fun b hb=>⟨by simp only [gZ,hx,Z9] at hb;cases hb;rfl,⟨_,_,rfl⟩,⟨_,_,rfl⟩⟩,rfl,cK,.inl ⟨g,.inl ⟨j,hx⟩,fun q hq=>?_,?_⟩,fun aX key' h'=>?_⟩
            · rw [h3];exact List.mem_append_left _ (List.mem_append_left _ hq)
            · rw [h3];exact List.mem_append_right _ (List.mem_singleton.2 rfl)
            · rw [← he];simp only [KU,hds,hx,cK,h']
          · cases h2
        · cases h2
      · rename_i id g sz i j hx
        split at h2
        · rename_i g' sz' n tg f cK
          split at h2
          · rename_i hlen
            simp only [Option.some.injEq,Prod.mk.injEq] at h2
            obtain ⟨rfl,rfl,rfl⟩:=h2
            refine ⟨t,x,y,id,.arr g' sz' n tg f,_,rfl,fun b hb=>(by simp only [gZ,hx,Z9] at hb;cases hb),rfl,cK,.inl ⟨g,.inr ⟨sz,i,j,hx⟩,fun q hq=>?_,?_⟩,fun aX key' h'=>?_⟩
            · rw [h3];exact List.mem_append_left _ (List.mem_append_left _ hq)
            · rw [h3];exact List.mem_append_right _ (List.mem_singleton.2 rfl)
            · rw [← he];simp only [KU,hds,hx,cK,h']
          · cases h2
        · cases h2
      · cases h2
  · cases he
 all_goals simp [zl] at hs
def vM (objs aX:List (Option Ob)):Prop:=∀ k:Nat,aX[k]? = objs[k]?∨(∃ g cs,objs[k]? = some (some (.box g cs)))∧∃ g cs,aX[k]? = some (some (.box g cs))
theorem vM.of {objs aX:List (Option Ob)} (h:vM objs aX) {k:Nat} {o:Option Ob} (hk:objs[k]? = some o) (hb : ∀ g cs,o≠some (.box g cs)):aX[k]? = some o:=by
 rcases h k with h | ⟨⟨g,cs,h⟩,_⟩
 · rw [h];exact hk
 · rw [hk] at h;cases h;exact absurd rfl (hb g cs)
theorem UD {p:Pr} {objs aX:List (Option Ob)} (h:vM objs aX) {sz:Nat} {y:D} {r:Int × (Int→Nat→D) × List aU} (he:sM p objs sz y=some r):sM p aX sz y=some r:=by
 unfold sM at he ⊢
 split at he
 · exact he
 · exact he
 · split at he
   · rename_i g' xK _ _ f cK
     rw [h.of cK (fun _ _=>by simp)]
     exact he
   · cases he
 · exact he
 · cases he
theorem Hy {p:Pr} {objs aX:List (Option Ob)} (h:vM objs aX) {sz:Nat} {x y:D} {r:Int × (Int→Nat→D) × List aU} (he:XJ p objs sz x y=some r):XJ p aX sz x y=some r:=by
 unfold XJ at he ⊢
 split at he
 · split at he
   · rename_i id g0 s0 off n0 _
     split at he
     · rename_i _ _ _ _ f cK
       rw [h.of cK (fun _ _=>by simp)]
       exact he
     · rename_i hno
       have e:sM p aX sz .cO=some r:=UD h he
       split
       · rename_i _ _ _ _ f cK
         rcases h id with h2 | ⟨⟨g,cs,h2⟩,g',cs',h3⟩
         · rw [cK] at h2;exact absurd h2.symm (hno _ _ _ _ _)
         · rw [cK] at h3;cases h3
       · exact e
   · exact UD h he
 · exact UD h he
def aeR (objs:List (Option Ob)) (u:List (Nat × Option Ob)):Prop:=∀ k o,(k,o)∈u→(∀ g cs,objs[k]?≠some (some (.box g cs)))∧∀ g cs,o≠some (.box g cs)
theorem abk {p:Pr} {objs:List (Option Ob)} {ctr key sz bytes:Nat} {owned:Bool} {x y d:D} {u:List (Nat × Option Ob)} {os:List aU} (he:qz p objs ctr key sz bytes owned x y=some (d,u,os)) :
  aeR objs u∧∀ aX,vM objs aX→qz p aX ctr key sz bytes owned x y=some (d,u,os):=by
 have off1 : ∀ {k:Nat} {o o2:Option Ob},objs[k]? = some o→(∀ g cs,o≠some (.box g cs))→(∀ g cs,o2≠some (.box g cs))→(∀ g cs,objs[k]?≠some (some (.box g cs)))∧∀ g cs,o2≠some (.box g cs):=by
  intro k o o2 h1 h2 h3
  exact ⟨fun g cs h=>h2 g cs (by rw [h1] at h;exact Option.some.inj h),h3⟩
 unfold qz at he
 split at he
 · cases he
 rename_i m h os1 hs
 split at he
 · split at he
   · rename_i hk
     simp only [Option.some.injEq,Prod.mk.injEq] at he
     obtain ⟨rfl,rfl,rfl⟩:=he
     refine ⟨fun k o hm=>?_,fun aX hb=>?_⟩
     · simp only [List.mem_singleton,Prod.mk.injEq] at hm
       obtain ⟨rfl,rfl⟩:=hm
       exact off1 hk (fun _ _ h=>by cases h) (fun _ _ h=>by cases h)
     · simp only [qz,Hy hb hs,hb.of hk (fun _ _ h=>by cases h)]
   · cases he
 · split at he
   · rename_i hsz
     split at he
     · rename_i how
       split at he
       · rename_i hk
         simp only [Option.some.injEq,Prod.mk.injEq] at he
         obtain ⟨rfl,rfl,rfl⟩:=he
         refine ⟨fun k o hm=>?_,fun aX hb=>?_⟩
         · simp only [List.mem_singleton,Prod.mk.injEq] at hm
           obtain ⟨rfl,rfl⟩:=hm
           exact off1 hk (fun _ _ h=>by cases h) (fun _ _ h=>by cases h)
         · simp only [qz,Hy hb hs,hb.of hk (fun _ _ h=>by cases h),hsz,how,if_true]
       · cases he
     · rename_i how
       simp only [Option.some.injEq,Prod.mk.injEq] at he
       obtain ⟨rfl,rfl,rfl⟩:=he
       exact ⟨fun k o hm=>(by cases hm),fun aX hb=>(by simp only [qz,Hy hb hs,hsz,if_true,if_neg how])⟩
   · cases he
 · split at he
   · rename_i cK
     split at he
     · rename_i hsz
       split at he
       · rename_i hid
         simp only [Option.some.injEq,Prod.mk.injEq] at he
         obtain ⟨rfl,rfl,rfl⟩:=he
         refine ⟨fun k o hm=>?_,fun aX hb=>?_⟩
         · simp only [List.mem_singleton,Prod.mk.injEq] at hm
           obtain ⟨rfl,rfl⟩:=hm
           rw [Nat.eq_of_beq_eq_true hid] at cK
           exact off1 cK (fun _ _ h=>by cases h) (fun _ _ h=>by cases h)
         · simp only [qz,Hy hb hs,hb.of cK (fun _ _ h=>by cases h),hsz,hid,if_true]
       · rename_i hid
         split at he
         · rename_i hk
           simp only [Option.some.injEq,Prod.mk.injEq] at he
           obtain ⟨rfl,rfl,rfl⟩:=he
           refine ⟨fun k o hm=>?_,fun aX hb=>?_⟩
           · simp only [List.mem_cons,List.mem_nil_iff,or_false,Prod.mk.injEq] at hm
             rcases hm with ⟨rfl,rfl⟩ | ⟨rfl,rfl⟩
             · exact off1 cK (fun _ _ h=>by cases h) (fun _ _ h=>by cases h)
             · exact off1 hk (fun _ _ h=>by cases h) (fun _ _ h=>by cases h)
           · simp only [qz,Hy hb hs,hb.of cK (fun _ _ h=>by cases h),hb.of hk (fun _ _ h=>by cases h),hsz,if_true,if_neg hid]
         · cases he
     · cases he
   · cases he
 · cases he
theorem UE {p:Pr} {o:Oper} {key ctr:Nat} {objs:List (Option Ob)} {ρ:Operand→D} (ha:isApp o=true)
  {d:D} {u:List (Nat × Option Ob)} {os:List aU} (he:iT p tt bO key objs ctr ρ o=some (d,u,os)) :
  aeR objs u∧∀ aX,vM objs aX→iT p tt bO key aX ctr ρ o=some (d,u,os):=by
 obtain ⟨dst,op,ty,pos,after,guard⟩:=o
 cases op with
 | call c =>
  obtain ⟨callee,kH,ats⟩:=c
  cases callee with
  | builtin b =>
   cases b<;>try (simp [isApp] at ha;done)
   case append =>
    simp only [isApp,Bool.not_eq_true'] at ha
    simp only [iT,Ba,ha,Bool.false_and,Bool.false_eq_true,if_false] at he ⊢
    obtain ⟨os2,h2,rfl⟩:=je he
    generalize (kH.toList.map fun x=>(strip p (ρ x)).1)=l at h2 ⊢
    match l,h2 with
    | [x,y],h2 =>
     simp only [lV] at h2 ⊢
     split at h2
     · rename_i t u2 afX
       split at h2
       · rename_i hps
         split at h2
         · rename_i ti ht
           split at h2
           · rename_i e hk
             split at h2
             · rename_i te hte
               split at h2
               · rename_i z hz
                 split at h2
                 · cases h2
                 · rename_i hsz
                   obtain ⟨a1,a2⟩:=abk h2
                   refine ⟨a1,fun aX hb=>?_⟩
                   simp only [afX,hps,ht,hk,hte,hz,if_true,if_neg hsz,a2 aX hb,DW,Option.map_some]
               · cases h2
             · cases h2
           · cases h2
         · cases h2
       · cases h2
     · cases h2
    | [],h2=>simp [lV] at h2
    | [_],h2=>simp [lV] at h2
    | _ :: _ :: _ :: _,h2=>simp [lV] at h2
  | _=>simp [isApp] at ha
 | _=>simp [isApp] at ha
theorem yC {objs:List (Option Ob)} {a:Nat} : ∀ {u:List (Nat × Option Ob)},(∀ k o,(k,o)∈u→k≠a)→(bF objs u)[a]? = objs[a]?:=by
 intro u
 induction u generalizing objs with
 | nil=>intro _;rfl
 | cons x u ih =>
  intro h
  obtain ⟨k,o⟩:=x
  rw [bF,ih (fun k' o' hm=>h k' o' (List.mem_cons_of_mem _ hm)),List.getElem?_set_ne (h k o (List.mem_cons_self ..))]
theorem QT {a:Nat} {x:Option Ob} : ∀ {objs:List (Option Ob)} {u:List (Nat × Option Ob)},(∀ k o,(k,o)∈u→k≠a)→bF (objs.set a x) u=(bF objs u).set a x:=by
 intro objs u
 induction u generalizing objs with
 | nil=>intro _;rfl
 | cons y u ih =>
  intro h
  obtain ⟨k,o⟩:=y
  rw [bF,bF,List.set_comm _ _ (Ne.symm (h k o (List.mem_cons_self ..))),ih (fun k' o' hm=>h k' o' (List.mem_cons_of_mem _ hm))]
theorem Tt {a g:Nat} {cs:List D} : ∀ {objs:List (Option Ob)} {u:List (Nat × Option Ob)},(bF objs u)[a]? = some (some (.box g cs))→(∀ k o,(k,o)∈u→∀ g cs,o≠some (.box g cs))→∀ k o,(k,o)∈u→k≠a:=by
 intro objs u
 induction u generalizing objs with
 | nil=>intro _ _ k o hm;cases hm
 | cons y u ih =>
  intro h hn k o hm
  obtain ⟨k1,o1⟩:=y
  have ih':=ih (objs:=objs.set k1 o1) h (fun k' o' hm'=>hn k' o' (List.mem_cons_of_mem _ hm'))
  rcases List.mem_cons.1 hm with e | hm'
  · cases e
    intro hka
    subst hka
    rw [bF,yC ih'] at h
    rw [List.getElem?_set] at h
    simp only [if_true] at h
    split at h
    · exact hn _ _ (List.mem_cons_self ..) g cs (Option.some.inj h)
    · cases h
  · exact ih' k o hm'
theorem vM.set {objs:List (Option Ob)} {a:Nat} {g g2:Nat} {cs cs2:List D} (h:objs[a]? = some (some (.box g cs))):vM objs (objs.set a (some (.box g2 cs2))):=by
 intro k
 by_cases hk:a=k
 · subst hk
   exact .inr ⟨⟨g,cs,h⟩,g2,cs2,List.getElem?_set_self (List.getElem?_eq_some_iff.1 h).1⟩
 · exact .inl (List.getElem?_set_ne hk)
theorem vM.symm {objs aX:List (Option Ob)} (h:vM objs aX):vM aX objs:=fun k=>(h k).imp Eq.symm fun x=>⟨x.2,x.1⟩
theorem ah7 {oi oj:Oper} {own:List (Nat × Nat)} {ki kj ctr:Nat} {objs:List (Option Ob)} {NY I8:Operand→D} {di dj:D} {ui uj:List (Nat × Option Ob)} {EP KT:List aU}
  (hi:EC bO own ki oi) (hj:EC bO own kj oj)
  (hf:(cls own oi=1∧zl oj=true∧∃ a b,gZ (std P) NY oi=some a∧gZ (std P) I8 oj=some b∧a≠b)∨(zl oi=true∧cls own oj=1∧∃ a b,gZ (std P) NY oi=some a∧gZ (std P) I8 oj=some b∧a≠b) ∨
   (cls own oi=2∧zl oj=true)∨(zl oi=true∧cls own oj=2)∨((cls own oi=1∨zl oi=true)∧isApp oj=true∧∃ a,gZ (std P) NY oi=some a∧a≠4096)∨(isApp oi=true∧(cls own oj=1∨zl oj=true)∧∃ b,gZ (std P) I8 oj=some b∧b≠4096))
  (afY : ∀ v,NY (.const v)=wO v) (ado : ∀ v,I8 (.const v)=wO v)
  (hri : ∀ f,NY (.func f) = .fn (.func f) 0 (fun _=>.junk)) (hrj : ∀ f,I8 (.func f) = .fn (.func f) 0 (fun _=>.junk))
  (h1:iT (std P) tt bO ki objs ctr NY oi=some (di,ui,EP))
  (h2:iT (std P) tt bO kj (bF objs ui) ctr I8 oj=some (dj,uj,KT))
  (hq:zl oj=true→∀ q∈KT,q.run (std P))
  (hg : ∀ x id g os,(∀ q∈os,q.run (std P))→Looks (std P) os (I8 x) id g→Hu objs ctr id g) :
  iT (std P) tt bO kj objs ctr I8 oj=some (dj,uj,KT)∧iT (std P) tt bO ki (bF objs uj) ctr NY oi=some (di,ui,EP) ∧
   bF (bF objs ui) uj=bF (bF objs uj) ui:=by
 rcases hf with ⟨c1,c2,a,b,ha,hb,hab⟩ | ⟨c1,c2,a,b,ha,hb,hab⟩ | ⟨c1,c2⟩ | ⟨c1,c2⟩ | ⟨c1,c2,a,ha,hne⟩ | ⟨c1,c2,b,hb,hne⟩
 · obtain ⟨rfl,t,x,hop,hl⟩:=qK (.inl c1) h1
   obtain ⟨t',x',y',id',ob,QO,hop',hid,rfl,cK,_,_⟩:=uz c2 h2
   obtain rfl:=(hid b hb).1
   refine ⟨h2,?_,rfl⟩
   rcases hl with hl | ⟨id,obl,hx,Hz,hl⟩
   · exact hl _ _
   · have e:a=id:=by
      unfold gZ at ha;rw [hop] at ha
      exact MS hx ha
     subst e
     refine hl _ _ ?_
     simp only [bF]
     rw [List.getElem?_set_ne (Ne.symm hab)];exact Hz
 · obtain ⟨t',x',y',id',ob,QO,hop',hid,rfl,cK,_,_⟩:=uz c1 h1
   obtain rfl:=(hid a ha).1
   obtain ⟨rfl,t,x,hop,hl⟩:=qK (.inl c2) h2
   refine ⟨?_,h1,rfl⟩
   rcases hl with hl | ⟨id,obl,hx,Hz,hl⟩
   · exact hl _ _
   · have e:b=id:=by
      unfold gZ at hb;rw [hop] at hb
      exact MS hx hb
     subst e
     refine hl _ _ ?_
     simp only [bF] at Hz
     rwa [List.getElem?_set_ne hab] at Hz
 · rcases Bc c1 afY hri hi h1 with ⟨rfl,hl⟩ | ⟨ob,rfl,hgen,hk,hl⟩
   · exact ⟨h2,hl _,rfl⟩
   have lD:ki < objs.length:=(List.getElem?_eq_some_iff.1 hk).1
   obtain ⟨t',x',y',id',obs,QO,hop',hid,rfl,cK,hx,hls⟩:=uz c2 h2
   have hne:ki≠id':=by
    intro h;subst h
    simp only [bF] at cK
    rw [List.getElem?_set_self lD] at cK
    cases cK
    have:=hg x' ki ob.gen _ (hq c2) hx
    rcases this with h | ⟨_,o',ho',_⟩
    · omega
    · rw [hk] at ho';cases ho'
   simp only [bF] at cK
   rw [List.getElem?_set_ne hne] at cK
   refine ⟨hls _ _ cK,hl _ ?_,?_⟩
   · simp only [bF];rw [List.getElem?_set_ne (Ne.symm hne)];exact hk
   · simp only [bF];exact List.set_comm _ _ hne
 · obtain ⟨t',x',y',id',obs,QO,hop',hid,rfl,cK,hx,hls⟩:=uz c1 h1
   have hlt:id' < objs.length:=(List.getElem?_eq_some_iff.1 cK).1
   rcases Bc c2 ado hrj hj h2 with ⟨rfl,hl⟩ | ⟨ob,rfl,hgen,hk,hl⟩
   · exact ⟨hl _,h1,rfl⟩
   have hne:id'≠kj:=by
    intro h;subst h
    simp only [bF] at hk
    rw [List.getElem?_set_self hlt] at hk;cases hk
   simp only [bF] at hk
   rw [List.getElem?_set_ne hne] at hk
   refine ⟨hl _ hk,hls _ _ ?_,?_⟩
   · simp only [bF];rw [List.getElem?_set_ne (Ne.symm hne)];exact cK
   · simp only [bF];exact List.set_comm _ _ hne
 · rcases c1 with c1 | c1
   · obtain ⟨rfl,t,x,hop,hl⟩:=MV (.inl c1) h1
     obtain ⟨off,ind⟩:=UE c2 h2
     unfold gZ at ha;rw [hop] at ha
     rcases hl with ⟨h4,_⟩ | ⟨id,obl,hx,Hz,hbx,hl⟩
     · exact absurd (h4 a ha) hne
     · obtain rfl:=MS hx ha
       obtain ⟨g,cs,rfl⟩:=hbx ⟨a,ha⟩
       refine ⟨h2,hl _ _ ?_,rfl⟩
       rw [yC (fun k o hm hk=>(off k o hm).1 g cs (by rw [hk];exact Hz))];exact Hz
   · obtain ⟨t',x',y',id',ob,QO,hop',hid,rfl,cK,_,hls⟩:=uz c1 h1
     obtain ⟨e,⟨g,cs,rfl⟩,g2,cs2,rfl⟩:=hid a ha
     obtain ⟨off,ind⟩:=UE c2 h2
     have hb:vM objs (objs.set id' (some (.box g2 cs2))):=vM.set cK
     have hk : ∀ k o,(k,o)∈uj→k≠id':=fun k o hm hk=>(off k o hm).1 g2 cs2 (by
      rw [hk];exact List.getElem?_set_self (List.getElem?_eq_some_iff.1 cK).1)
     refine ⟨ind _ hb.symm,hls _ _ ?_,?_⟩
     · rw [yC hk];exact cK
     · exact QT hk
 · obtain ⟨off,ind⟩:=UE c1 h1
   rcases c2 with c2 | c2
   · obtain ⟨rfl,t,x,hop,hl⟩:=MV (.inl c2) h2
     unfold gZ at hb;rw [hop] at hb
     rcases hl with ⟨h4,_⟩ | ⟨id,obl,hx,Hz,hbx,hl⟩
     · exact absurd (h4 b hb) hne
     · obtain ⟨g,cs,rfl⟩:=hbx ⟨b,hb⟩
       have hk:=Tt Hz (fun k o hm=>(off k o hm).2)
       rw [yC hk] at Hz
       exact ⟨hl _ _ Hz,h1,rfl⟩
   · obtain ⟨t',x',y',id',ob,QO,hop',hid,rfl,cK,_,hls⟩:=uz c2 h2
     obtain ⟨e,⟨g,cs,rfl⟩,g2,cs2,rfl⟩:=hid b hb
     have hk:=Tt cK (fun k o hm=>(off k o hm).2)
     rw [yC hk] at cK
     exact ⟨hls _ _ cK,ind _ (vM.set cK),(QT hk).symm⟩
theorem QU {p:Pr} {o:Oper} {ρ ρ':Operand→D} (h : ∀ x∈o.op.operands,ρ x=ρ' x):gZ p ρ o=gZ p ρ' o:=by
 unfold gZ
 cases hop:o.op with
 | load t x=>simp only;rw [h x (by rw [hop];simp [Op.operands])]
 | store t x y=>simp only;rw [h x (by rw [hop];simp [Op.operands])]
 | _=>rfl
theorem Wh {p:Pr} {slots:List D} {dst:Option Nat} {d:D} {x:Operand} (h : ∀ t,dst=some t→x≠.tmp t):rd p (iD slots dst d) x=rd p slots x:=by
 cases dst with
 | none=>rfl
 | some t =>
  cases x with
  | tmp s =>
   have hne:t≠s:=fun e=>h t rfl (e ▸ rfl)
   simp only [rd,iD,List.getD,List.getElem?_set_ne hne]
  | _=>rfl
theorem Yi {p:Pr} {o:Oper} {slots:List D} {dst:Option Nat} {d:D} {g:Nat × Bool} (hg:o.guard=some g) (h : ∀ t,dst=some t→t ∉ o.looksAt ops) :
  I6 p ops (iD slots dst d) g=I6 p ops slots g:=by
 unfold I6
 split
 · rename_i tg htg
   have:(iD slots dst d).getD tg .junk=slots.getD tg .junk:=by
    cases dst with
    | none=>rfl
    | some t =>
     have hne:t≠tg:=by
      intro e;subst e
      refine h t rfl ?_
      unfold Oper.looksAt
      simp only [hg,List.mem_append]
      right
      obtain ⟨gi,gb⟩:=g
      simp only at htg ⊢
      simp [htg]
     simp only [iD,List.getD,List.getElem?_set_ne hne]
   rw [this]
 · rfl
theorem I9 {o:Oper} {x:Operand} {t:Nat} (h:t ∉ o.looksAt ops) (hx:x∈o.op.operands):x≠.tmp t:=by
 intro e;subst e
 refine h ?_
 unfold Oper.looksAt
 simp only [List.mem_append,List.mem_filterMap]
 exact .inl ⟨_,by simpa using hx,rfl⟩
theorem abl {oi oj:Oper} {own:List (Nat × Nat)} {ig:List (Option Nat)} {i j:Nat} {st QV sij:St} {EP KT:List aU} {a:Act} {w:World} (R:RS B0 h0 I0 L st a w)
  (hi:EC bO own (m+oi.dst.getD 0) oi) (hj:EC bO own (m+oj.dst.getD 0) oj)
  (hm:FJ (cls own oi) (cls own oj)=true∨UF own ig oi oj i j=true) (Yj : ∀ a,ig.getD i none=some a→gZ (std P) (rd (std P) st.slots) oi=some a) (hAj : ∀ a,ig.getD j none=some a→gZ (std P) (rd (std P) QV.slots) oj=some a) (hap:oi.apart ops oj=true)
  (h1:qJ (std P) tt bO m ops oi st=some (QV,EP)) (h2:qJ (std P) tt bO m ops oj QV=some (sij,KT)) (hq : ∀ q∈KT,q.run (std P)) :
  ∃ stj,qJ (std P) tt bO m ops oj st=some (stj,KT)∧qJ (std P) tt bO m ops oi stj=some (sij,EP)∧gZ (std P) (rd (std P) stj.slots) oi=gZ (std P) (rd (std P) st.slots) oi∧gZ (std P) (rd (std P) QV.slots) oj=gZ (std P) (rd (std P) st.slots) oj:=by
 obtain ⟨a1,a2,a3⟩:=Oper.apart_spec hap
 obtain ⟨di,ui,apb,di',e1,rfl,c1⟩:=Fp h1
 obtain ⟨dj,uj,ak5,dj',e2,rfl,c2⟩:=Fp h2
 simp only at e2 c2 hAj
 have hoj:gZ (std P) (rd (std P) (iD st.slots oi.dst di')) oj=gZ (std P) (rd (std P) st.slots) oj:=QU fun x hx=>Wh fun t ht=>I9 (a1 t ht) hx
 rw [hoj] at hAj
 have hρ:iT (std P) tt bO (m+oj.dst.getD 0) (bF st.objs ui) st.ctr (rd (std P) st.slots) oj=some (dj,uj,ak5):=by
  rw [← e2]
  refine V6 fun x hx=>(Wh fun t ht=>?_).symm
  exact I9 (a1 t ht) hx
 obtain ⟨I,β,R⟩:=R
 have hgx : ∀ x id g os,(∀ q∈os,q.run (std P))→Looks (std P) os (rd (std P) st.slots x) id g→Hu st.objs st.ctr id g:=fun x id g os hos hx=>aeO hos hx (R.eval x)
 obtain ⟨p1,p2,p3⟩:iT (std P) tt bO (m+oj.dst.getD 0) st.objs st.ctr (rd (std P) st.slots) oj=some (dj,uj,ak5)∧iT (std P) tt bO (m+oi.dst.getD 0) (bF st.objs uj) st.ctr (rd (std P) st.slots) oi=some (di,ui,apb)∧bF (bF st.objs ui) uj=bF (bF st.objs uj) ui:=by
  rcases hm with hm | hm
  rotate_left
  · refine ah7 hi hj ?_ (fun _=>rfl) (fun _=>rfl) (fun _=>rfl) (fun _=>rfl) e1 hρ ?_ hgx
    · have two:Wj (ig.getD i none) (ig.getD j none)=true→∃ a b,gZ (std P) (rd (std P) st.slots) oi=some a∧gZ (std P) (rd (std P) st.slots) oj=some b∧a≠b:=by
       intro h
       cases ha:ig.getD i none with
       | none=>rw [ha] at h;cases h
       | some a =>
        cases hb:ig.getD j none with
        | none=>rw [ha,hb] at h;cases h
        | some b =>
         rw [ha,hb] at h
         refine ⟨a,b,Yj a ha,hAj b hb,fun e=>?_⟩
         subst e
         simp [Wj,Nat.beq_refl] at h
      unfold UF at hm
      simp only [Bool.or_eq_true,Bool.and_eq_true,beq_iff_eq] at hm
      have one : ∀ {k:Nat},Wl (ig.getD k none)=true→∃ a,ig.getD k none=some a∧a≠4096:=by
       intro k h
       cases ha:ig.getD k none with
       | none=>rw [ha] at h;cases h
       | some a=>exact ⟨a,rfl,fun e=>by rw [ha,e] at h;simp [Wl] at h⟩
      rcases hm with (((⟨⟨f1,f2⟩,f3⟩ | ⟨⟨f1,f2⟩,f3⟩) | ⟨_,⟨f1,f2⟩ | ⟨f1,f2⟩⟩) | ⟨⟨f1,f2⟩,f3⟩) | ⟨⟨f1,f2⟩,f3⟩
      · exact .inl ⟨f1,f2,two f3⟩
      · exact .inr (.inl ⟨f1,f2,two f3⟩)
      · exact .inr (.inr (.inl ⟨f1,f2⟩))
      · exact .inr (.inr (.inr (.inl ⟨f1,f2⟩)))
      · obtain ⟨a,h1,h2⟩:=one f2
        exact .inr (.inr (.inr (.inr (.inl ⟨f1,f3,a,Yj a h1,h2⟩))))
      · obtain ⟨a,h1,h2⟩:=one f3
        exact .inr (.inr (.inr (.inr (.inr ⟨f1,f2,a,hAj a h1,h2⟩))))
    · intro hs
      rcases c2 with ⟨_,_,rfl⟩ | ⟨g,c,t,hg,hc,hu,_⟩
      · exact hq
      · exfalso
        obtain ⟨_,_,_,_,_,_,_,_,hu',_⟩:=uz hs hρ
        rw [hu] at hu';cases hu'
  exact pass hi hj hm (fun _=>rfl) (fun _=>rfl) (fun _=>rfl) (fun _=>rfl) e1 hρ (by
    intro hc
    rcases c2 with ⟨_,_,rfl⟩ | ⟨g,c,t,hg,_⟩
    · exact hq
    · exfalso
      unfold cls at hc
      simp only [hg,Option.isSome_some,if_true] at hc
      repeat' split at hc
      all_goals cases hc)
   hgx
 refine ⟨{ slots:=iD st.slots oj.dst dj',objs:=bF st.objs uj,ctr:=st.ctr },Yg p1 ?_,?_,QU fun x hx=>Wh fun t ht=>I9 (a3 t ht) hx,hoj⟩
 · rcases c2 with h | ⟨g,c,t,hg,hc,h⟩
   · exact .inl h
   · rw [Yi hg a1] at hc
     exact .inr ⟨g,c,t,hg,hc,h⟩
 · have e:({ slots:=iD (iD st.slots oi.dst di') oj.dst dj',objs:=bF (bF st.objs ui) uj,ctr:=st.ctr } : St)
     = { slots:=iD (iD st.slots oj.dst dj') oi.dst di',objs:=bF (bF st.objs uj) ui,ctr:=st.ctr }:=by
    rw [p3]
    congr 1
    cases hdi:oi.dst with
    | none=>rfl
    | some s =>
     cases hdj:oj.dst with
     | none=>rfl
     | some t =>
      have hne:s≠t:=fun h=>a2 s hdi (by rw [hdj,h])
      simp only [iD]
      exact List.set_comm _ _ hne
   rw [e]
   refine Yg (st:={ slots:=iD st.slots oj.dst dj',objs:=bF st.objs uj,ctr:=st.ctr }) (by
    rw [← p2]
    exact V6 fun x hx=>Wh fun t ht=>I9 (a3 t ht) hx) ?_
   rcases c1 with h | ⟨g,c,t,hg,hc,h⟩
   · exact .inl h
   · refine .inr ⟨g,c,t,hg,?_,h⟩
     show I6 (std P) ops (iD st.slots oj.dst dj') g=some c
     rw [Yi hg a3];exact hc
theorem HV {p:Pr} {t:Nat} : ∀ (l:List Oper) (st st':St) (os:List aU),iE p tt bO m ops l st=some (st',os)→(l.any fun x=>match x.dst with
  | some s=>Nat.beq s t
  | none=>false)=false→st'.slots.getD t .junk=st.slots.getD t .junk
 | [],st,st',os,h,_=>by
  simp only [iE,Option.some.injEq,Prod.mk.injEq] at h
  rw [h.1]
 | o :: l,st,st',os,h,hn=>by
  simp only [iE] at h
  split at h
  · cases h
  · rename_i st1 os1 h1
    split at h
    · cases h
    · rename_i st2 os2 h2
      simp only [Option.some.injEq,Prod.mk.injEq] at h
      obtain ⟨rfl,_⟩:=h
      simp only [List.any_cons,Bool.or_eq_false_iff] at hn
      rw [HV l st1 st2 os2 h2 hn.2]
      obtain ⟨d,u,os0,d',_,rfl,_⟩:=Fp h1
      simp only
      cases hd:o.dst with
      | none=>rfl
      | some s =>
       have hs:s≠t:=fun e=>by
        have:=hn.1
        rw [hd,e] at this
        simp only [Nat.beq_refl] at this
        cases this
       simp only [iD,List.getD,List.getElem?_set_ne hs]
theorem Yk {p:Pr} : ∀ (l:List Oper) (st st':St) (os:List aU),iE p tt bO m ops l st=some (st',os)→∀ j a,(RY p st'.slots l).getD j none=some a→(Ja p tt bO m ops l st).getD j none=some a
 | [],st,st',os,_,j,a,ha=>by simp [RY] at ha
 | o :: l,st,st',os,h,j,a,ha=>by
  have h0:=h
  simp only [iE] at h
  split at h
  · cases h
  · rename_i st1 os1 h1
    split at h
    · cases h
    · rename_i st2 os2 h2
      simp only [Option.some.injEq,Prod.mk.injEq] at h
      obtain ⟨rfl,_⟩:=h
      cases j with
      | succ j =>
       simp only [RY,Ja,h1,List.getD_cons_succ] at ha ⊢
       exact Yk l st1 st2 os2 h2 j a ha
      | zero =>
       simp only [RY,Ja,List.getD_cons_zero] at ha ⊢
       split at ha
       · cases ha
       · rename_i hl
         rw [← ha]
         have hl:Y7 o (o :: l)=false:=by simpa using hl
         unfold gZ
         cases hop:o.op with
         | load t x =>
          simp only
          cases x with
          | tmp s =>
           simp only [Y7,hop] at hl
           have:=HV (o :: l) st st2 _ h0 hl
           simp only [rd,this]
          | _=>rfl
         | store t x y =>
          simp only
          cases x with
          | tmp s =>
           simp only [Y7,hop] at hl
           have:=HV (o :: l) st st2 _ h0 hl
           simp only [rd,this]
          | _=>rfl
         | _=>rfl
def XK (p:Pr) (tt:TT) (bO:sU) (m:Nat) (ops:Array Oper) (ig:List (Option Nat)) (Q:St→Prop):Nat→Array Bool→St→Prop
 | 0,listed,st=>Region.ready .any ops listed=[]∧Q st
 | fuel+1,listed,st=>(Region.ready .any ops listed=[]→Q st) ∧
  ∀ i∈Region.ready .any ops listed,∃ o st' os,ops[i]? = some o∧qJ p tt bO m ops o st=some (st',os)∧(∀ q∈os,q.run p)∧(∀ a,ig.getD i none=some a→gZ p (rd p st.slots) o=some a)∧XK p tt bO m ops ig Q fuel (listed.setIfInBounds i true) st'
theorem Wn (hT:gH P tt) {ig:List (Option Nat)} {Q:St→Prop} {Q':Exit→Act→World→Prop} (hQ : ∀ st a w,RS B0 h0 I0 L st a w→Q st→Q' .normal a w) : ∀ (fuel:Nat) (listed:Array Bool) (st:St) (a:Act) (w:World),RS B0 h0 I0 L st a w →
  XK (std P) tt bO m ops ig Q fuel listed st→wpAny P .any ops Q' fuel listed a w
 | 0,_,_,_,_,R,h=>⟨h.1,hQ _ _ _ R h.2⟩
 | fuel+1,_,_,_,_,R,h=>⟨fun h0=>hQ _ _ _ R (h.1 h0),fun i hi=>by
  obtain ⟨o,st',os,ho,he,hos,_,hr⟩:=h.2 i hi
  exact wF hT ho R he hos fun a' w' R'=>Wn hT hQ fuel _ st' a' w' R' hr⟩
theorem QW {ops:Array Oper} {listed:Array Bool} : ∀ (n j:Nat) (acc:List Nat) (x:Nat),x∈acc→x∈Dt ops listed n j acc
 | 0,_,_,_,h=>h
 | n+1,j,acc,x,h=>by
  unfold Dt
  split
  · exact h
  · split
    · exact QW n (j+1) _ x (List.mem_cons_of_mem _ h)
    · exact QW n (j+1) _ x h
theorem MW {ops:Array Oper} {listed:Array Bool} {k:Nat} : ∀ (n j:Nat) (acc:List Nat),
  (∀ x∈acc,x=k∨(listed.getD x true=false∧∃ ox,ops[x]? = some ox∧∃ e∈ox.after,Region.binds .any e=true∧e.on∈Dt ops listed n j acc)) →
  ∀ x∈Dt ops listed n j acc,x=k∨(listed.getD x true=false∧∃ ox,ops[x]? = some ox∧∃ e∈ox.after,Region.binds .any e=true∧e.on∈Dt ops listed n j acc)
 | 0,j,acc,h=>h
 | n+1,j,acc,h=>by
  unfold Dt at h ⊢
  split
  · rename_i h0
    simpa only [h0] using h
  · rename_i oj h0
    simp only [h0] at h
    split
    · rename_i hc
      rw [if_pos hc] at h
      refine MW n (j+1) (j :: acc) fun x hx=>?_
      rcases List.mem_cons.1 hx with rfl | hx
      · simp only [Bool.and_eq_true,Bool.not_eq_true'] at hc
        obtain ⟨e,e1,e2⟩:=Array.any_eq_true'.1 hc.2
        simp only [Bool.and_eq_true] at e2
        exact .inr ⟨hc.1,oj,h0,e,e1,e2.1,QW _ _ _ _ (List.mem_cons_of_mem _ (CX.1 e2.2))⟩
      · exact h x hx
    · rename_i hc
      rw [if_neg hc] at h
      exact MW n (j+1) acc h
theorem adp (hT:gH P tt) (S:Nat→Prop) {Q:St→Prop} {own:List (Nat × Nat)} {ig:List (Option Nat)} (hown : ∀ (j:Nat) (o:Oper),ops[j]? = some o→EC bO own (m+o.dst.getD 0) o) {i:Nat} {oi:Oper} (hi:ops[i]? = some oi) :
  ∀ (fuel:Nat) (listed:Array Bool) (st QV:St) (EP:List aU) (a:Act) (w:World),RS B0 h0 I0 L st a w →
   (∀ x,S x→listed.getD x true=false∧∃ ox,ops[x]? = some ox∧∃ e∈ox.after,Region.binds .any e=true∧(e.on=i∨S e.on)) →
   (∀ j oj,ops[j]? = some oj→j≠i→listed.getD j true=false→(∀ e∈oj.after,Region.binds .any e=true→e.on≠i)→¬ S j→oi.apart ops oj=true∧(FJ (cls own oi) (cls own oj)=true∨UF own ig oi oj i j=true)) →
   i∈Region.ready .any ops listed→qJ (std P) tt bO m ops oi st=some (QV,EP)→(∀ q∈EP,q.run (std P))→(∀ a,ig.getD i none=some a→gZ (std P) (rd (std P) st.slots) oi=some a) →
   XK (std P) tt bO m ops ig Q fuel (listed.setIfInBounds i true) QV→XK (std P) tt bO m ops ig Q (fuel+1) listed st:=by
 intro fuel
 induction fuel with
 | zero =>
  intro listed st QV EP a w R _ _ hr hy hos Yj H
  refine ⟨fun h=>(by rw [h] at hr;cases hr),fun j hj=>?_⟩
  by_cases hji:j=i
  · subst hji;exact ⟨oi,QV,EP,hi,hy,hos,Yj,H⟩
  · have:=ready_mono hj hji
    rw [H.1] at this
    cases this
 | succ fuel ih =>
  intro listed st QV EP a w R hS hfree hr hy hos Yj H
  refine ⟨fun h=>(by rw [h] at hr;cases hr),fun j hj=>?_⟩
  by_cases hji:j=i
  · subst hji;exact ⟨oi,QV,EP,hi,hy,hos,Yj,H⟩
  · obtain ⟨oj',sij,KT,apc,hyj,afZ,hAj,H'⟩:=H.2 j (ready_mono hj hji)
    obtain ⟨hjun,oj,hoj,hall⟩:=mem_ready.1 hj
    have:oj'=oj:=by rw [apc] at hoj;exact Option.some.inj hoj
    subst this
    have hnot : ∀ e∈oj'.after,Region.binds .any e=true→e.on≠i:=fun e he hb heq=>by
     have h1:=hall e he hb
     have h0:=(mem_ready.1 hr).1
     rw [heq] at h1
     rcases Nat.lt_or_ge i listed.size with h' | h'
     · simp [h'] at h0 h1;rw [h0] at h1;cases h1
     · simp [Array.getElem?_eq_none h'] at h1
    have hjS : ¬ S j:=fun h=>by
     obtain ⟨_,ox,hox,e,he,hb,hor⟩:=hS j h
     rw [hoj] at hox;cases hox
     rcases hor with h1 | h1
     · exact hnot e he hb h1
     · have h2:=hall e he hb
       have h3:=(hS _ h1).1
       rcases Nat.lt_or_ge e.on listed.size with h' | h'
       · simp [h'] at h3 h2;rw [h3] at h2;cases h2
       · simp [Array.getElem?_eq_none h'] at h3
    obtain ⟨f1,f2⟩:=hfree j oj' hoj hji hjun hnot hjS
    have hS' : ∀ x,S x→(listed.setIfInBounds j true).getD x true=false∧∃ ox,ops[x]? = some ox∧∃ e∈ox.after,Region.binds .any e=true∧(e.on=i∨S e.on):=fun x hx=>by
     obtain ⟨h1,h2⟩:=hS x hx
     refine ⟨?_,h2⟩
     rw [getD_set_ne true (fun h=>hjS (by rw [h];exact hx))];exact h1
    obtain ⟨stj,s1,s2,s3,s4⟩:=abl R (hown i oi hi) (hown j oj' hoj) f2 Yj hAj f1 hy hyj afZ
    refine ⟨oj',stj,KT,hoj,s1,afZ,fun a ha=>s4 ▸ hAj a ha,?_⟩
    have hfree' : ∀ k ok,ops[k]? = some ok→k≠i→(listed.setIfInBounds j true).getD k true=false →
      (∀ e∈ok.after,Region.binds .any e=true→e.on≠i)→¬ S k→oi.apart ops ok=true∧(FJ (cls own oi) (cls own ok)=true∨UF own ig oi ok i k=true):=fun k ok hk hki hun hno hkS=>by
     refine hfree k ok hk hki ?_ hno hkS
     by_cases hjk:j=k
     · subst hjk;exact hjun
     · rw [getD_set_ne true hjk] at hun;exact hun
    obtain ⟨a',w',R'⟩ : ∃ a' w',RS B0 h0 I0 L stj a' w':=abY (P:=P) (ops:=ops) (i:=j) (wF hT hoj R s1 afZ fun a' w' R'=>R')
    refine ih (listed.setIfInBounds j true) stj sij EP a' w' R' hS' hfree' (ready_mono hr (Ne.symm hji)) s2 hos (fun a ha=>s3.trans (Yj a ha)) ?_
    rw [Array.setIfInBounds_comm _ _ hji]
    exact H'
theorem aaf (hT:gH P tt) {Q:St→Prop} {own:List (Nat × Nat)} {ig:List (Option Nat)} (hown : ∀ (j:Nat) (o:Oper),ops[j]? = some o→EC bO own (m+o.dst.getD 0) o) :
  ∀ (l:List Oper) (k:Nat) (listed:Array Bool) (st st':St) (os:List aU) (a:Act) (w:World),RS B0 h0 I0 L st a w→(∀ j,l[j]? = ops[k+j]?) →
   Region.lexFrom .any ops l.length k listed=true→MX own ig ops l.length k listed=true→iE (std P) tt bO m ops l st=some (st',os)→(∀ q∈os,q.run (std P))→(∀ j a,ig.getD (k+j) none=some a→(Ja (std P) tt bO m ops l st).getD j none=some a)→Q st'→XK (std P) tt bO m ops ig Q l.length listed st
 | [],_,_,st,st',os,a,w,_,_,hB,_,he,_,_,hQ=>by
  simp only [iE,Option.some.injEq,Prod.mk.injEq] at he
  obtain ⟨rfl,rfl⟩:=he
  exact ⟨by simpa [Region.lexFrom] using hB,hQ⟩
 | o :: l,k,listed,st,st',os,a,w,R,hl,hB,hL,he,hos,hA,hQ=>by
  have hk0:ops[k]? = some o:=by simpa using (hl 0).symm
  simp only [List.length_cons,Region.lexFrom,Bool.and_eq_true] at hB
  obtain ⟨⟨hr,hf⟩,hB'⟩:=hB
  simp only [List.length_cons,MX,Bool.and_eq_true,hk0] at hL
  obtain ⟨hL1,hL2⟩:=hL
  simp only [iE] at he
  split at he
  · cases he
  · rename_i st1 os1 h1
    split at he
    · cases he
    · rename_i st2 os2 h2
      simp only [Option.some.injEq,Prod.mk.injEq] at he
      obtain ⟨rfl,rfl⟩:=he
      have uY : ∀ q∈os1,q.run (std P):=fun q hq=>hos q (List.mem_append_left _ hq)
      obtain ⟨a',w',R'⟩ : ∃ a' w',RS B0 h0 I0 L st1 a' w':=abY (P:=P) (ops:=ops) (i:=k) (wF hT hk0 R h1 uY fun a' w' R'=>R')
      have hrest:=aaf hT hown l (k+1) _ st1 st2 os2 a' w' R' (fun j=>by have:=hl (j+1);simpa [Nat.add_assoc,Nat.add_comm 1 j] using this) hB' hL2 h2 (fun q hq=>hos q (List.mem_append_right _ hq)) (fun j b hb=>by have h:=hA (j+1) b (by rw [← hb];congr 1;omega);simpa [Ja,h1] using h) hQ
      have hA0 : ∀ b,ig.getD k none=some b→gZ (std P) (rd (std P) st.slots) o=some b:=fun b hb=>by have h:=hA 0 b (by simpa using hb);simpa [Ja] using h
      have hfin : ∀ (wl:List Nat) (S:Nat→Prop),(∀ x,x∈wl→x=k∨S x)→(∀ x,S x→listed.getD x true=false∧∃ ox,ops[x]? = some ox∧∃ e∈ox.after,Region.binds .any e=true∧(e.on=k∨S e.on))→KW own ig ops o k listed wl=true →
        XK (std P) tt bO m ops ig Q (l.length+1) listed st:=by
       intro wl S hwl hS hL1
       refine adp hT S hown hk0 l.length listed st st1 os1 a w R hS ?_ (by simpa using hr) h1 uY hA0 hrest
       intro j oj hoj hjk hun hno hjS
       refine ⟨Region.free_spec hk0 hf j oj hoj hjk hun hno,?_⟩
       have hlt:j < ops.size:=(Array.getElem?_eq_some_iff.1 hoj).1
       have:=List.all_eq_true.1 hL1 j (List.mem_range.2 hlt)
       simp only [hoj,Bool.or_eq_true,beq_iff_eq,Bool.or_eq_true] at this
       rcases this with ((((h | h) | h) | h) | h) | h
       · exact absurd h hjk
       · rw [hun] at h;cases h
       · exfalso
         obtain ⟨e,he1,he2⟩:=Array.any_eq_true'.1 h
         simp only [Bool.and_eq_true,beq_iff_eq] at he2
         exact hno e he1 he2.1 he2.2
       · exact .inl h
       · exact .inr h
       · rcases hwl j (CX.1 h) with h | h
         · exact absurd h hjk
         · exact absurd h hjS
      rw [Bool.or_eq_true] at hL1
      rcases hL1 with hL1 | hL1
      · exact hfin [] (fun _=>False) (fun x hx=>by cases hx) (fun x hx=>hx.elim) hL1
      · refine hfin _ (fun x=>x≠k∧x∈Dt ops listed l.length (k+1) [k]) (fun x hx=>?_) (fun x hx=>?_) hL1
        · by_cases h:x=k
          · exact .inl h
          · exact .inr ⟨h,hx⟩
        · rcases MW (k:=k) l.length (k+1) [k] (fun x hx=>.inl (by simpa using hx)) x hx.2 with h | ⟨h,ox,hox,e,e1,e2,e3⟩
          · exact absurd h hx.1
          · refine ⟨h,ox,hox,e,e1,e2,?_⟩
            by_cases h':e.on=k
            · exact .inl h'
            · exact .inr ⟨h',e3⟩
theorem aag {v:Nat} : ∀ {l:List (Nat × Nat)} {f:Nat},(∀ x∈l,x.1=f→x.2=v)→(v≠0→(f,v)∈l)→pE l f=v
 | [],f,_,h2=>by
  simp only [pE]
  by_cases h:v=0
  · exact h.symm
  · exact absurd (h2 h) (by simp)
 | (k,x) :: r,f,h1,h2=>by
  simp only [pE]
  split
  · rename_i hk
    exact h1 _ (List.mem_cons_self ..) (Nat.eq_of_beq_eq_true hk)
  · rename_i hk
    refine aag (fun y hy=>h1 y (List.mem_cons_of_mem _ hy)) fun h=>?_
    rcases List.mem_cons.1 (h2 h) with e | e
    · exact absurd (by rw [← (Prod.mk.inj e).1];exact Nat.beq_refl _) hk
    · exact e
theorem aeT : ∀ {l:List (Nat × Nat)} {f:Nat},pE l f≠0→(f,pE l f)∈l
 | [],_,h=>absurd rfl h
 | (k,x) :: r,f,h=>by
  simp only [pE] at h ⊢
  split
  · rename_i hk
    have hk:=Nat.eq_of_beq_eq_true hk
    subst hk
    exact List.mem_cons_self ..
  · rename_i hk
    rw [if_neg hk] at h
    exact List.mem_cons_of_mem _ (aeT h)
theorem adq {ops:Array Oper} {m:Nat} (j:Nat) (o:Oper) (h:ops[j]? = some o):EC bO (eU bO m ops.toList) (m+o.dst.getD 0) o:=by
 have hmem:o∈ops.toList:=by
  obtain ⟨h1,h2⟩:=Array.getElem?_eq_some_iff.1 h
  exact Array.mem_toList_iff.2 (h2 ▸ Array.getElem_mem h1)
 intro c hd
 refine ⟨fun f hf=>aag (fun x hx e1=>?_) fun hne=>?_,fun x d hf hdst h7=>?_⟩
 · have XL : ∀ f':Nat,some (f'+f',bO.I7 f')=some x→x.2=bO.I7 f:=fun f' e=>by
    have e2:=Option.some.inj e
    subst e2
    have e1:f'+f'=f+f:=e1
    obtain rfl:f'=f:=by omega
    rfl
   obtain ⟨o',_,he⟩:=List.mem_filterMap.1 hx
   repeat' split at he
   all_goals first
   | (cases he;done)
   | exact XL _ he
   | (exfalso;have e2:=Option.some.inj he;subst e2;have e1:_=f+f:=e1;simp only at e1;omega)
   | exact XL _ he
 · refine List.mem_filterMap.2 ⟨o,hmem,?_⟩
   simp only [hd,hf]
   rw [if_neg]
   intro h
   exact hne (Nat.eq_of_beq_eq_true h)
 · have h7:=Nat.eq_of_beq_eq_true h7
   have hin:=aeT (l:=eU bO m ops.toList) (f:=d+d+1) (by rw [h7];decide)
   rw [h7] at hin
   have key : ∀ d':Nat,some (d'+d'+1,7)=some (d+d+1,7)→Nat.beq (bO.I7 (m+d'+1024)) 7=true→Nat.beq (bO.I7 (m+o.dst.getD 0+1024)) 7=true:=fun d' e hb=>by
    have:=(Prod.mk.inj (Option.some.inj e)).1
    obtain rfl:d'=d:=by omega
    rw [hdst];exact hb
   obtain ⟨o',_,he⟩:=List.mem_filterMap.1 hin
   repeat' split at he
   all_goals first
   | (cases he;done)
   | (exfalso;have:=(Prod.mk.inj (Option.some.inj he)).1;omega)
   | (rename_i hb;exact key _ he hb)
theorem adr (hT:gH P tt) (hP:P.follows .mixedOrders=true) {ig:List (Option Nat)} {id:Nat} {st st':St} {os:List aU} {a:Act} {w:World} {Q':Exit→Act→World→Prop} (R:RS B0 h0 I0 L st a { w with drawn:=w.drawn+1 })
  (he:iE (std P) tt bO m ops ops.toList st=some (st',os)) (hos : ∀ q∈os,q.run (std P)) (hA : ∀ j a,ig.getD j none=some a→(Ja (std P) tt bO m ops ops.toList st).getD j none=some a) (hd:F5 ops (eU bO m ops.toList) ig=true) (hQ : ∀ a w,RS B0 h0 I0 L st' a w→Q' .normal a w):(Code.region id ops true).wp P Q' a w:=by
 unfold F5 at hd
 rw [Bool.and_eq_true] at hd
 have hB:=hd.1
 simp only [Region.lexB,Bool.and_eq_true] at hB
 refine wp_region_any hP (Wn hT (ig:=ig) (m:=m) (bO:=bO) (Q:=fun s=>s=st') (fun s a w R h=>hQ a w (h ▸ R)) _ _ st a _ R ?_)
 have:=aaf hT (ig:=ig) (B0:=B0) (h0:=h0) (I0:=I0) (L:=L) (m:=m) (own:=eU bO m ops.toList) (fun j o h1=>adq j o h1) (Q:=fun s=>s=st') ops.toList 0 (Array.replicate ops.size false) st st' os a _ R (by simp)
  (by simpa using hB.2) (by simpa using hd.2) he hos (fun j a h=>hA j a (by simpa using h)) rfl
 simpa using this
end
end Go.Vx
