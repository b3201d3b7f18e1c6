/- Two steps that may change places do: the region's any order comes to the text's order. -/
import Derived.Test.YtmkigppfdmghnaaGreatDoorVxCode2
set_option linter.all false
namespace Go.Vx
section
variable {P:Program} {tt:TT} {B0:Nat} {h0:Array Obj} {I0:IS} {L:Lend} {orc:Orc} {m:Nat} {ops:Array Oper}
def Looks (p:Pr) (os:List Prop) (d:D) (id G:Nat):Prop :=
 (∃ g,((∃ j,(strip p d).1 = .bref id g j)∨∃ sz i j,(strip p d).1 = .aref id g sz i j)∧(∀ q∈(strip p d).2,q∈os)∧p.eqN g G∈os)∨(isPick (unW p d).1=true∧(∀ q∈(unW p d).2,q∈os)∧PickAt p id G os (unW p d).1)
theorem unW_strip {p:Pr} (d:D):(strip p (unW p d).1).1=(strip p d).1:=by cases d<;>rfl
theorem looks_id {p:Pr} {os:List Prop} {d:D} {id G:Nat} (h:Looks p os d id G):idD (strip p d).1=some id:=by
 rcases h with ⟨g,⟨j,hx⟩ | ⟨sz,i,j,hx⟩,_⟩ | ⟨h1,_,h2⟩
 · rw [hx];rfl
 · rw [hx];rfl
 · rw [← unW_strip]
   generalize (unW p d).1=d at h1 h2
   unfold isPick at h1
   split at h1
   · obtain ⟨⟨h3,_⟩,_⟩:=h2;subst h3;rfl
   · obtain ⟨⟨h3,_⟩,_⟩:=h2;subst h3;rfl
   · cases h1
theorem pickAt_gOk {h:Array Obj} {I:IS} {β:Nat→Option (Nat × Nat × Array Value)} {objs:List (Option Ob)} {ctr id G:Nat} {os:List Prop} (hos : ∀ q∈os,q) : ∀ (d:D) (y:Value),PickAt (std P) id G os d→Rd h I β objs ctr d y→gOk objs ctr id G:=by
 intro d
 induction d with
 | bref id' g j =>
  intro y hp hy
  obtain ⟨rfl,hg⟩:=hp
  have hg:g=G:=hos _ hg
  subst hg
  exact hy.1
 | cnd b x e ih1 ih2 =>
  intro y hp hy
  cases b with
  | true=>exact ih1 y hp.1 (hy.1 rfl)
  | false=>exact ih2 y hp.2 (hy.2 rfl)
 | _=>intro y hp;exact hp.elim
theorem looks_gOk {h:Array Obj} {I:IS} {β:Nat→Option (Nat × Nat × Array Value)} {objs:List (Option Ob)} {ctr id G:Nat} {os:List Prop} {d:D} {y:Value} (hos : ∀ q∈os,q) (hl:Looks (std P) os d id G) (hy:Rd h I β objs ctr d y):gOk objs ctr id G:=by
 rcases hl with ⟨g,hx,hw,he⟩ | ⟨_,hw,hp⟩
 · have hg:g=G:=hos _ he
   subst hg
   have:=strip_ok _ _ hy (fun q hq=>hos q (hw q hq))
   rcases hx with ⟨j,hx⟩ | ⟨sz,i,j,hx⟩<;>rw [hx] at this<;>exact this.1
 · exact pickAt_gOk hos _ y hp (unW_ok hy fun q hq=>hos q (hw q hq))
theorem pickAt_mono {p:Pr} {id g':Nat} {o o':List Prop} {x:D} (hs : ∀ q∈o,q∈o'):PickAt p id g' o x→PickAt p id g' o' x:=by
 induction x with
 | bref=>exact fun h=>⟨h.1,hs _ h.2⟩
 | cnd _ _ _ i1 i2=>exact fun h=>⟨i1 h.1,i2 h.2⟩
 | _=>exact fun h=>h.elim
theorem loadA_pick {p:Pr} {id g':Nat} {cs:List D} {ti:TI} : ∀ {a d:D} {os:List Prop},loadA p id g' cs ti a=some (d,os)→PickAt p id g' os a:=by
 intro a
 induction a with
 | bref id' g j =>
  intro d os h
  simp only [loadA] at h
  split at h
  · rename_i hid
    cases hl:ldCells ti cs.length j (fun j=>cs.getD j .junk) with
    | none=>rw [hl] at h;cases h
    | some dd =>
     rw [hl] at h;simp only [Option.map_some,Option.some.injEq,Prod.mk.injEq] at h
     exact ⟨Nat.eq_of_beq_eq_true hid,by rw [← h.2];exact List.mem_cons_self ..⟩
  · cases h
 | cnd b x e ih1 ih2 =>
  intro d os h
  simp only [loadA] at h
  split at h
  · rename_i d1 o1 d2 o2 e1 e2
    simp only [Option.some.injEq,Prod.mk.injEq] at h
    obtain ⟨_,rfl⟩:=h
    have mono : ∀ {o o':List Prop} {x:D},(∀ q∈o,q∈o')→PickAt p id g' o x→PickAt p id g' o' x:=by
     intro o o' x hs
     induction x with
     | bref=>exact fun h=>⟨h.1,hs _ h.2⟩
     | cnd _ _ _ i1 i2=>exact fun h=>⟨i1 h.1,i2 h.2⟩
     | _=>exact fun h=>h.elim
    exact ⟨mono (fun q hq=>List.mem_append_left _ hq) (ih1 e1),mono (fun q hq=>List.mem_append_right _ hq) (ih2 e2)⟩
  · cases h
 | _=>intro d os h;simp [loadA] at h
theorem putP_pick {p:Pr} {id g' n:Nat} {ds:List D} : ∀ {a:D} {c:Bool} {cs cs':List D} {os:List Prop},putP p id g' ds n c a cs=some (cs',os)→PickAt p id g' os a:=by
 intro a
 induction a with
 | bref id' g j =>
  intro c cs cs' os h
  simp only [putP] at h
  split at h
  · rename_i hid
    simp only [Bool.and_eq_true] at hid
    simp only [Option.some.injEq,Prod.mk.injEq] at h
    exact ⟨Nat.eq_of_beq_eq_true hid.1,by rw [← h.2];exact List.mem_cons_self ..⟩
  · cases h
 | cnd b x e ih1 ih2 =>
  intro c cs cs' os h
  cases x<;>simp only [putP] at h<;>try (cases h;done)
  split at h
  · rename_i hid
    simp only [Bool.and_eq_true] at hid
    split at h
    · rename_i r o2 e2
      simp only [Option.some.injEq,Prod.mk.injEq] at h
      obtain ⟨_,rfl⟩:=h
      exact ⟨⟨Nat.eq_of_beq_eq_true hid.1,List.mem_cons_self ..⟩,pickAt_mono (fun q hq=>List.mem_cons_of_mem _ hq) (ih2 e2)⟩
    · cases h
  · cases h
 | _=>intro c cs cs' os h;simp [putP] at h
theorem putP0_pick {p:Pr} {id g' n:Nat} {ds:List D} {a:D} {cs cs':List D} {os:List Prop} (h:putP0 p id g' ds n a cs=some (cs',os)):PickAt p id g' os a:=by
 unfold putP0 at h
 split at h
 · rename_i b id' g j e
   split at h
   · rename_i hid
     simp only [Bool.and_eq_true] at hid
     split at h
     · rename_i r o2 e2
       simp only [Option.some.injEq,Prod.mk.injEq] at h
       obtain ⟨_,rfl⟩:=h
       exact ⟨⟨Nat.eq_of_beq_eq_true hid.1,List.mem_cons_self ..⟩,pickAt_mono (fun q hq=>List.mem_cons_of_mem _ hq) (putP_pick e2)⟩
     · cases h
   · cases h
 · cases h
theorem evOp_load {p:Pr} {o:Oper} {key ctr:Nat} {objs:List (Option Ob)} {ρ:Operand→D} {own:List (Nat × Nat)} (hc:cls own o=1∨cls own o=4)
  {d:D} {u:List (Nat × Option Ob)} {os:List Prop} (he:evOp p tt orc key objs ctr ρ o=some (d,u,os)) :
  u=[]∧∃ t x,o.op = .load t x ∧
   ((∀ objs' key',evOp p tt orc key' objs' ctr ρ o=some (d,u,os)) ∨
    ∃ id ob,Looks p os (ρ x) id ob.gen∧objs[id]? = some (some ob) ∧
     ∀ objs':List (Option Ob),∀ key',objs'[id]? = some (some ob)→evOp p tt orc key' objs' ctr ρ o=some (d,u,os)):=by
 obtain ⟨dst,op,ty,pos,after,guard⟩:=o
 cases op
 case load t x =>
  simp only [evOp] at he ⊢
  split at he
  · rename_i ti ht
    split at he
    · rename_i hpk
      obtain ⟨os2,h2,h3⟩:=owe_some he
      obtain ⟨h4,h5⟩:=val_some h2
      subst h5
      refine ⟨rfl,t,x,rfl,.inr ?_⟩
      unfold loadP at h4
      split at h4
      · rename_i g' cs hob
        refine ⟨pickId (unW p (ρ x)).1,.box g' cs,.inr ⟨hpk,fun q hq=>by rw [h3];exact List.mem_append_left _ hq,pickAt_mono (fun q hq=>by rw [h3];exact List.mem_append_right _ hq) (loadA_pick h4)⟩,hob,fun objs' key' h'=>?_⟩
        rw [if_pos hpk]
        rw [← he]
        simp only [loadP,hob,h']
      · cases h4
    rename_i hpk
    simp only [if_neg hpk]
    obtain ⟨os2,h2,h3⟩:=owe_some he
    obtain ⟨h4,h5⟩:=val_some h2
    subst h5
    refine ⟨rfl,t,x,rfl,?_⟩
    unfold loadD at h4
    split at h4
    · rename_i id g j hx
      split at h4
      · rename_i g' cs hob
        refine .inr ⟨id,.box g' cs,.inl ⟨g,.inl ⟨j,hx⟩,?_,?_⟩,hob,?_⟩
        · intro q hq;rw [h3];exact List.mem_append_left _ hq
        · rw [h3]
          refine List.mem_append_right _ ?_
          cases hl:ldCells ti cs.length j (fun j=>cs.getD j .junk) with
          | none=>rw [hl] at h4;cases h4
          | some dd=>rw [hl] at h4;simp only [Option.map_some,Option.some.injEq,Prod.mk.injEq] at h4;rw [← h4.2];exact List.mem_cons_self ..
        · intro objs' key' h'
          rw [← he]
          simp only [loadD,hx,hob,h']
      · cases h4
    · rename_i id g sz i j hx
      split at h4
      · rename_i g' sz' N tg f hob
        refine .inr ⟨id,.arr g' sz' N tg f,.inl ⟨g,.inr ⟨sz,i,j,hx⟩,?_,?_⟩,hob,?_⟩
        · intro q hq;rw [h3];exact List.mem_append_left _ hq
        · rw [h3]
          refine List.mem_append_right _ ?_
          split at h4
          · cases hl:ldCells ti sz j (f i) with
            | none=>rw [hl] at h4;cases h4
            | some dd=>rw [hl] at h4;simp only [Option.map_some,Option.some.injEq,Prod.mk.injEq] at h4;rw [← h4.2];exact List.mem_cons_self ..
          · cases h4
        · intro objs' key' h'
          rw [← he]
          simp only [loadD,hx,hob,h']
      · cases h4
    · rename_i sz n f i j hx
      refine .inl fun objs' key'=>?_
      rw [← he]
      simp only [loadD,hx]
    · cases h4
  · cases he
 case call c =>
  simp only [cls] at hc
  obtain ⟨callee,cargs,ats⟩:=c
  cases callee with
  | invoke=>simp at hc
  | builtin b=>cases b<;>simp at hc<;>(try (split at hc<;>simp at hc))
  | value f =>
   exfalso
   cases f with
   | func f=>simp only at hc;rcases hc with hc | hc<;>(split at hc<;>simp at hc)
   | tmp x=>simp only at hc;rcases hc with hc | hc<;>(repeat' split at hc)<;>simp at hc
   | _=>simp at hc
 all_goals simp [cls] at hc
theorem evOp_view {p:Pr} {o:Oper} {key ctr:Nat} {objs:List (Option Ob)} {ρ:Operand→D} {own:List (Nat × Nat)} (hc:cls own o=5) (hρ : ∀ f,ρ (.func f) = .fn (.func f) 0 (fun _=>.junk)) (hown:OwnK orc own key o)
  {d:D} {u:List (Nat × Option Ob)} {os:List Prop} (he:evOp p tt orc key objs ctr ρ o=some (d,u,os)):u=[]:=by
 obtain ⟨dst,op,ty,pos,after,guard⟩:=o
 cases op
 case load t x=>simp only [cls] at hc;split at hc<;>cases hc
 case call c =>
  simp only [cls] at hc
  obtain ⟨callee,cargs,ats⟩:=c
  cases callee with
  | invoke=>simp at hc
  | builtin b=>cases b<;>simp at hc<;>(try (split at hc<;>simp at hc))
  | value f =>
   cases f with
   | func f =>
    have hk:=(hown _ rfl).1 f rfl
    simp only at hc
    have h4:kOf own (f+f)=4:=by
     split at hc
     · cases hc
     · cases hc
     · assumption
     · cases hc
    rw [hk] at h4
    simp only [evOp,hρ,strip,callF] at he
    unfold callD at he
    rw [h4] at he
    simp only at he
    repeat' split at he
    all_goals first | (cases he;done) | (simp only [Option.some.injEq,Prod.mk.injEq] at he;exact he.2.1.symm)
   | tmp x =>
    exfalso
    simp only at hc
    repeat' split at hc
    all_goals cases hc
   | _=>simp at hc
 all_goals simp [cls] at hc
theorem pass {oi oj:Oper} {own:List (Nat × Nat)} {ki kj ctr:Nat} {objs:List (Option Ob)} {ρi ρj:Operand→D} {di dj:D} {ui uj:List (Nat × Option Ob)} {osi osj:List Prop}
  (hi:OwnK orc own ki oi) (hj:OwnK orc own kj oj)
  (hm:mayPass (cls own oi) (cls own oj)=true)
  (hci0 : ∀ v,ρi (.const v)=cellD v) (hcj0 : ∀ v,ρj (.const v)=cellD v)
  (hri : ∀ f,ρi (.func f) = .fn (.func f) 0 (fun _=>.junk)) (hrj : ∀ f,ρj (.func f) = .fn (.func f) 0 (fun _=>.junk))
  (h1:evOp (std P) tt orc ki objs ctr ρi oi=some (di,ui,osi))
  (h2:evOp (std P) tt orc kj (putObjs objs ui) ctr ρj oj=some (dj,uj,osj))
  (hq:cls own oj=1→∀ q∈osj,q)
  (hg : ∀ x id g os,(∀ q∈os,q)→Looks (std P) os (ρj x) id g→gOk objs ctr id g) :
  evOp (std P) tt orc kj objs ctr ρj oj=some (dj,uj,osj)∧evOp (std P) tt orc ki (putObjs objs uj) ctr ρi oi=some (di,ui,osi) ∧
   putObjs (putObjs objs ui) uj=putObjs (putObjs objs uj) ui:=by
 have hci':cls own oi=0∨cls own oi=1∨cls own oi=2∨cls own oi=3∨cls own oi=4∨cls own oi=5:=by
  unfold cls
  repeat' split
  all_goals simp
 have hcj':cls own oj=0∨cls own oj=1∨cls own oj=2∨cls own oj=3∨cls own oj=4∨cls own oj=5:=by
  unfold cls
  repeat' split
  all_goals simp
 by_cases hi0:cls own oi=0
 · have e:ui=[]:=(evOp_objs0 (objs':=objs) hi0 hri hi).2 _ _ _ h1
   subst e
   exact ⟨h2,by rw [← (evOp_objs0 hi0 hri hi).1];exact h1,rfl⟩
 by_cases hj0:cls own oj=0
 · have e:uj=[]:=(evOp_objs0 (objs':=objs) hj0 hrj hj).2 _ _ _ h2
   subst e
   exact ⟨by rw [(evOp_objs0 hj0 hrj hj).1];exact h2,h1,rfl⟩
 have quiet:(cls own oi=5∨cls own oj=5)→ui=[]∧uj=[]:=by
  intro h5
  constructor
  · rcases hci' with h | h | h | h | h | h
    · exact absurd h hi0
    · exact (evOp_load (.inl h) h1).1
    · rw [h] at hm h5;rcases h5 with h5 | h5
      · cases h5
      · rw [h5] at hm;cases hm
    · rw [h] at hm h5;rcases h5 with h5 | h5
      · cases h5
      · rw [h5] at hm;cases hm
    · exact (evOp_load (.inr h) h1).1
    · exact evOp_view h hri hi h1
  · rcases hcj' with h | h | h | h | h | h
    · exact absurd h hj0
    · exact (evOp_load (.inl h) h2).1
    · rw [h] at hm h5;rcases h5 with h5 | h5
      · rw [h5] at hm;cases hm
      · cases h5
    · rw [h] at hm h5;rcases h5 with h5 | h5
      · rw [h5] at hm;cases hm
      · cases h5
    · exact (evOp_load (.inr h) h2).1
    · exact evOp_view h hrj hj h2
 by_cases hv:cls own oi=5∨cls own oj=5
 · obtain ⟨e1,e2⟩:=quiet hv
   subst e1;subst e2
   exact ⟨h2,h1,rfl⟩
 have hci:cls own oi=0∨cls own oi=1∨cls own oi=2∨cls own oi=3∨cls own oi=4:=by
  rcases hci' with h | h | h | h | h | h
  · exact .inl h
  · exact .inr (.inl h)
  · exact .inr (.inr (.inl h))
  · exact .inr (.inr (.inr (.inl h)))
  · exact .inr (.inr (.inr (.inr h)))
  · exact absurd (.inl h) hv
 have hcj:cls own oj=0∨cls own oj=1∨cls own oj=2∨cls own oj=3∨cls own oj=4:=by
  rcases hcj' with h | h | h | h | h | h
  · exact .inl h
  · exact .inr (.inl h)
  · exact .inr (.inr (.inl h))
  · exact .inr (.inr (.inr (.inl h)))
  · exact .inr (.inr (.inr (.inr h)))
  · exact absurd (.inr h) hv
 by_cases hil:cls own oi=1∨cls own oi=4
 · obtain ⟨e,t,x,hop,hl⟩:=evOp_load hil h1
   subst e
   refine ⟨h2,?_,rfl⟩
   by_cases hjl:cls own oj=1∨cls own oj=4
   · obtain ⟨e,_⟩:=evOp_load hjl h2
     subst e
     exact h1
   · have hj2:cls own oj=2:=by
      rcases hcj with h | h | h | h | h
      · exact absurd h hj0
      · exact absurd (.inl h) hjl
      · exact h
      · rw [h] at hm;rcases hil with h | h<;>rw [h] at hm<;>cases hm
      · exact absurd (.inr h) hjl
     rcases evOp_objs2 hj2 hcj0 hrj hj h2 with ⟨rfl,_⟩ | ⟨ob,rfl,hgen,hk,_⟩
     · exact h1
     rcases hl with hl | ⟨id,ob',_,hob,hl⟩
     · exact hl _ _
     · refine hl _ _ ?_
       have hne:kj≠id:=by
        intro h;subst h
        simp only [putObjs] at hk
        rw [hob] at hk;cases hk
       simp only [putObjs]
       rw [List.getElem?_set_ne hne];exact hob
 · have hi2:cls own oi=2:=by
    rcases hci with h | h | h | h | h
    · exact absurd h hi0
    · exact absurd (.inl h) hil
    · exact h
    · rw [h] at hm;simp [mayPass,hj0] at hm
    · exact absurd (.inr h) hil
   rcases evOp_objs2 hi2 hci0 hri hi h1 with ⟨rfl,hl⟩ | ⟨ob,rfl,hgen,hk,hl⟩
   · exact ⟨h2,hl _,rfl⟩
   have hklt:ki < objs.length:=(List.getElem?_eq_some_iff.1 hk).1
   by_cases hj1:cls own oj=1
   · obtain ⟨e,t,x,hop,hlj⟩:=evOp_load (.inl hj1) h2
     subst e
     refine ⟨?_,h1,rfl⟩
     rcases hlj with hlj | ⟨id,ob',hx,hob,hlj⟩
     · exact hlj _ _
     · refine hlj _ _ ?_
       by_cases hne:ki=id
       · subst hne
         exfalso
         simp only [putObjs] at hob
         rw [List.getElem?_set_self hklt] at hob
         cases hob
         have:=hg x ki ob.gen _ (hq hj1) hx
         rcases this with h | ⟨_,o',ho',_⟩
         · omega
         · rw [hk] at ho';cases ho'
       · simp only [putObjs] at hob
         rwa [List.getElem?_set_ne hne] at hob
   · have hj2:cls own oj=2:=by
      rcases hcj with h | h | h | h | h
      · exact absurd h hj0
      · exact absurd h hj1
      · exact h
      · rw [h] at hm;rw [hi2] at hm;cases hm
      · rw [h] at hm;rw [hi2] at hm;cases hm
     rcases evOp_objs2 hj2 hcj0 hrj hj h2 with ⟨rfl,hl'⟩ | ⟨ob',rfl,hgen',hk',hl'⟩
     · exact ⟨hl' _,h1,rfl⟩
     simp only [putObjs] at hk'
     have hne:ki≠kj:=by
      intro h;subst h
      rw [List.getElem?_set_self hklt] at hk';cases hk'
     rw [List.getElem?_set_ne hne] at hk'
     refine ⟨hl' _ hk',hl _ ?_,?_⟩
     · simp only [putObjs];rw [List.getElem?_set_ne (Ne.symm hne)];exact hk
     · simp only [putObjs];exact List.set_comm _ _ hne
theorem evOp_store {p:Pr} {o:Oper} {key ctr:Nat} {objs:List (Option Ob)} {ρ:Operand→D} (hs:isSt o=true)
  {d:D} {u:List (Nat × Option Ob)} {os:List Prop} (he:evOp p tt orc key objs ctr ρ o=some (d,u,os)) :
  ∃ t x y id ob ob',o.op = .store t x y∧objOfR p ρ o=some id∧u=[(id,some ob')]∧objs[id]? = some (some ob)∧Looks p os (ρ x) id ob.gen ∧
   ∀ objs':List (Option Ob),∀ key',objs'[id]? = some (some ob)→evOp p tt orc key' objs' ctr ρ o=some (d,u,os):=by
 obtain ⟨dst,op,ty,pos,after,guard⟩:=o
 cases op
 case store t x y =>
  simp only [evOp] at he ⊢
  split at he
  · rename_i ti ht
    split at he
    · rename_i hpk
      obtain ⟨os2,h2,h3⟩:=owe_some he
      unfold storeP at h2
      split at h2
      · rename_i ds g' cs hds hob
        split at h2
        · rename_i cs' os3 hp
          simp only [Option.some.injEq,Prod.mk.injEq] at h2
          obtain ⟨rfl,rfl,rfl⟩:=h2
          have hu:unW p (ρ x)=(ρ x,[]):=by
           unfold isPick at hpk
           split at hpk
           · rename_i e;rw [e];rfl
           · rename_i e;rw [e];rfl
           · cases hpk
          have hl:Looks p os (ρ x) (pickId (ρ x)) g':=.inr ⟨by rw [hu];exact hpk,fun q hq=>(by rw [hu] at hq;cases hq),by rw [hu];exact pickAt_mono (fun q hq=>by rw [h3];exact List.mem_append_right _ hq) (putP0_pick hp)⟩
          refine ⟨t,x,y,pickId (ρ x),.box g' cs,_,rfl,looks_id hl,rfl,hob,hl,fun objs' key' h'=>?_⟩
          rw [if_pos hpk]
          rw [← he]
          simp only [storeP,hds,hob,h']
        · cases h2
      · cases h2
    rename_i hpk
    simp only [if_neg hpk]
    obtain ⟨os2,h2,h3⟩:=owe_some he
    unfold storeD at h2
    split at h2
    · cases h2
    · rename_i ds hds
      split at h2
      · rename_i id g j hx
        split at h2
        · rename_i g' cs hob
          split at h2
          · rename_i hlen
            simp only [Option.some.injEq,Prod.mk.injEq] at h2
            obtain ⟨rfl,rfl,rfl⟩:=h2
            refine ⟨t,x,y,id,.box g' cs,_,rfl,by simp only [objOfR,hx,idD],rfl,hob,.inl ⟨g,.inl ⟨j,hx⟩,fun q hq=>?_,?_⟩,fun objs' key' h'=>?_⟩
            · rw [h3];exact List.mem_append_left _ (List.mem_append_left _ hq)
            · rw [h3];exact List.mem_append_right _ (List.mem_singleton.2 rfl)
            · rw [← he];simp only [storeD,hds,hx,hob,h']
          · cases h2
        · cases h2
      · rename_i id g sz i j hx
        split at h2
        · rename_i g' sz' n tg f hob
          split at h2
          · rename_i hlen
            simp only [Option.some.injEq,Prod.mk.injEq] at h2
            obtain ⟨rfl,rfl,rfl⟩:=h2
            refine ⟨t,x,y,id,.arr g' sz' n tg f,_,rfl,by simp only [objOfR,hx,idD],rfl,hob,.inl ⟨g,.inr ⟨sz,i,j,hx⟩,fun q hq=>?_,?_⟩,fun objs' key' h'=>?_⟩
            · rw [h3];exact List.mem_append_left _ (List.mem_append_left _ hq)
            · rw [h3];exact List.mem_append_right _ (List.mem_singleton.2 rfl)
            · rw [← he];simp only [storeD,hds,hx,hob,h']
          · cases h2
        · cases h2
      · cases h2
  · cases he
 all_goals simp [isSt] at hs
theorem passFar {oi oj:Oper} {own:List (Nat × Nat)} {ki kj ctr:Nat} {objs:List (Option Ob)} {ρi ρj:Operand→D} {di dj:D} {ui uj:List (Nat × Option Ob)} {osi osj:List Prop}
  (hi:OwnK orc own ki oi) (hj:OwnK orc own kj oj)
  (hf:(cls own oi=1∧isSt oj=true∧∃ a b,objOfR (std P) ρi oi=some a∧objOfR (std P) ρj oj=some b∧a≠b)∨(isSt oi=true∧cls own oj=1∧∃ a b,objOfR (std P) ρi oi=some a∧objOfR (std P) ρj oj=some b∧a≠b) ∨
   (cls own oi=2∧isSt oj=true)∨(isSt oi=true∧cls own oj=2))
  (hci0 : ∀ v,ρi (.const v)=cellD v) (hcj0 : ∀ v,ρj (.const v)=cellD v)
  (hri : ∀ f,ρi (.func f) = .fn (.func f) 0 (fun _=>.junk)) (hrj : ∀ f,ρj (.func f) = .fn (.func f) 0 (fun _=>.junk))
  (h1:evOp (std P) tt orc ki objs ctr ρi oi=some (di,ui,osi))
  (h2:evOp (std P) tt orc kj (putObjs objs ui) ctr ρj oj=some (dj,uj,osj))
  (hq:isSt oj=true→∀ q∈osj,q)
  (hg : ∀ x id g os,(∀ q∈os,q)→Looks (std P) os (ρj x) id g→gOk objs ctr id g) :
  evOp (std P) tt orc kj objs ctr ρj oj=some (dj,uj,osj)∧evOp (std P) tt orc ki (putObjs objs uj) ctr ρi oi=some (di,ui,osi) ∧
   putObjs (putObjs objs ui) uj=putObjs (putObjs objs uj) ui:=by
 rcases hf with ⟨c1,c2,a,b,ha,hb,hab⟩ | ⟨c1,c2,a,b,ha,hb,hab⟩ | ⟨c1,c2⟩ | ⟨c1,c2⟩
 · obtain ⟨rfl,t,x,hop,hl⟩:=evOp_load (.inl c1) h1
   obtain ⟨t',x',y',id',ob,ob',hop',hid,rfl,hob,_,_⟩:=evOp_store c2 h2
   rw [hid] at hb;cases hb
   refine ⟨h2,?_,rfl⟩
   rcases hl with hl | ⟨id,obl,hx,hobl,hl⟩
   · exact hl _ _
   · have e:id=a:=by
      have ha':objOfR (std P) ρi oi=some id:=by
       unfold objOfR;rw [hop]
       exact looks_id hx
      rw [ha'] at ha;cases ha;rfl
     subst e
     refine hl _ _ ?_
     simp only [putObjs]
     rw [List.getElem?_set_ne (Ne.symm hab)];exact hobl
 · obtain ⟨t',x',y',id',ob,ob',hop',hid,rfl,hob,_,_⟩:=evOp_store c1 h1
   rw [hid] at ha;cases ha
   obtain ⟨rfl,t,x,hop,hl⟩:=evOp_load (.inl c2) h2
   refine ⟨?_,h1,rfl⟩
   rcases hl with hl | ⟨id,obl,hx,hobl,hl⟩
   · exact hl _ _
   · have e:id=b:=by
      have hb':objOfR (std P) ρj oj=some id:=by
       unfold objOfR;rw [hop]
       exact looks_id hx
      rw [hb'] at hb;cases hb;rfl
     subst e
     refine hl _ _ ?_
     simp only [putObjs] at hobl
     rwa [List.getElem?_set_ne hab] at hobl
 · rcases evOp_objs2 c1 hci0 hri hi h1 with ⟨rfl,hl⟩ | ⟨ob,rfl,hgen,hk,hl⟩
   · exact ⟨h2,hl _,rfl⟩
   have hklt:ki < objs.length:=(List.getElem?_eq_some_iff.1 hk).1
   obtain ⟨t',x',y',id',obs,ob',hop',hid,rfl,hob,hx,hls⟩:=evOp_store c2 h2
   have hne:ki≠id':=by
    intro h;subst h
    simp only [putObjs] at hob
    rw [List.getElem?_set_self hklt] at hob
    cases hob
    have:=hg x' ki ob.gen _ (hq c2) hx
    rcases this with h | ⟨_,o',ho',_⟩
    · omega
    · rw [hk] at ho';cases ho'
   simp only [putObjs] at hob
   rw [List.getElem?_set_ne hne] at hob
   refine ⟨hls _ _ hob,hl _ ?_,?_⟩
   · simp only [putObjs];rw [List.getElem?_set_ne (Ne.symm hne)];exact hk
   · simp only [putObjs];exact List.set_comm _ _ hne
 · obtain ⟨t',x',y',id',obs,ob',hop',hid,rfl,hob,hx,hls⟩:=evOp_store c1 h1
   have hlt:id' < objs.length:=(List.getElem?_eq_some_iff.1 hob).1
   rcases evOp_objs2 c2 hcj0 hrj hj h2 with ⟨rfl,hl⟩ | ⟨ob,rfl,hgen,hk,hl⟩
   · exact ⟨hl _,h1,rfl⟩
   have hne:id'≠kj:=by
    intro h;subst h
    simp only [putObjs] at hk
    rw [List.getElem?_set_self hlt] at hk;cases hk
   simp only [putObjs] at hk
   rw [List.getElem?_set_ne hne] at hk
   refine ⟨hl _ hk,hls _ _ ?_,?_⟩
   · simp only [putObjs];rw [List.getElem?_set_ne (Ne.symm hne)];exact hob
   · simp only [putObjs];exact List.set_comm _ _ hne
theorem objOfR_congr {p:Pr} {o:Oper} {ρ ρ':Operand→D} (h : ∀ x∈o.op.operands,ρ x=ρ' x):objOfR p ρ o=objOfR p ρ' o:=by
 unfold objOfR
 cases hop:o.op with
 | load t x=>simp only;rw [h x (by rw [hop];simp [Op.operands])]
 | store t x y=>simp only;rw [h x (by rw [hop];simp [Op.operands])]
 | _=>rfl
theorem rd_put {p:Pr} {slots:List D} {dst:Option Nat} {d:D} {x:Operand} (h : ∀ t,dst=some t→x≠.tmp t):rd p (putSlot slots dst d) x=rd p slots x:=by
 cases dst with
 | none=>rfl
 | some t =>
  cases x with
  | tmp s =>
   have hne:t≠s:=fun e=>h t rfl (e ▸ rfl)
   simp only [rd,putSlot,List.getD,List.getElem?_set_ne hne]
  | _=>rfl
theorem gcond_put {p:Pr} {o:Oper} {slots:List D} {dst:Option Nat} {d:D} {g:Nat × Bool} (hg:o.guard=some g) (h : ∀ t,dst=some t→t ∉ o.looksAt ops) :
  gcond p ops (putSlot slots dst d) g=gcond p ops slots g:=by
 unfold gcond
 split
 · rename_i tg htg
   have:(putSlot slots dst d).getD tg .junk=slots.getD tg .junk:=by
    cases dst with
    | none=>rfl
    | some t =>
     have hne:t≠tg:=by
      intro e;subst e
      refine h t rfl ?_
      unfold Oper.looksAt
      simp only [hg,List.mem_append]
      right
      obtain ⟨gi,gb⟩:=g
      simp only at htg ⊢
      simp [htg]
     simp only [putSlot,List.getD,List.getElem?_set_ne hne]
   rw [this]
 · rfl
theorem looks_ops {o:Oper} {x:Operand} {t:Nat} (h:t ∉ o.looksAt ops) (hx:x∈o.op.operands):x≠.tmp t:=by
 intro e;subst e
 refine h ?_
 unfold Oper.looksAt
 simp only [List.mem_append,List.mem_filterMap]
 exact .inl ⟨_,by simpa using hx,rfl⟩
theorem evStep_pass {oi oj:Oper} {own:List (Nat × Nat)} {ads:List (Option Nat)} {i j:Nat} {st sti sij:St} {osi osj:List Prop} {a:Act} {w:World} (R:RS B0 h0 I0 L st a w)
  (hi:OwnK orc own (m+oi.dst.getD 0) oi) (hj:OwnK orc own (m+oj.dst.getD 0) oj)
  (hm:mayPass (cls own oi) (cls own oj)=true∨farB own ads oi oj i j=true) (hAi : ∀ a,ads.getD i none=some a→objOfR (std P) (rd (std P) st.slots) oi=some a) (hAj : ∀ a,ads.getD j none=some a→objOfR (std P) (rd (std P) sti.slots) oj=some a) (hap:oi.apart ops oj=true)
  (h1:evStep (std P) tt orc m ops oi st=some (sti,osi)) (h2:evStep (std P) tt orc m ops oj sti=some (sij,osj)) (hq : ∀ q∈osj,q) :
  ∃ stj,evStep (std P) tt orc m ops oj st=some (stj,osj)∧evStep (std P) tt orc m ops oi stj=some (sij,osi)∧objOfR (std P) (rd (std P) stj.slots) oi=objOfR (std P) (rd (std P) st.slots) oi∧objOfR (std P) (rd (std P) sti.slots) oj=objOfR (std P) (rd (std P) st.slots) oj:=by
 obtain ⟨a1,a2,a3⟩:=Oper.apart_spec hap
 obtain ⟨di,ui,osi1,di',e1,rfl,c1⟩:=evStep_inv h1
 obtain ⟨dj,uj,osj1,dj',e2,rfl,c2⟩:=evStep_inv h2
 simp only at e2 c2 hAj
 have hoj:objOfR (std P) (rd (std P) (putSlot st.slots oi.dst di')) oj=objOfR (std P) (rd (std P) st.slots) oj:=objOfR_congr fun x hx=>rd_put fun t ht=>looks_ops (a1 t ht) hx
 rw [hoj] at hAj
 have hρ:evOp (std P) tt orc (m+oj.dst.getD 0) (putObjs st.objs ui) st.ctr (rd (std P) st.slots) oj=some (dj,uj,osj1):=by
  rw [← e2]
  refine evOp_congr fun x hx=>(rd_put fun t ht=>?_).symm
  exact looks_ops (a1 t ht) hx
 obtain ⟨I,β,R⟩:=R
 have hgx : ∀ x id g os,(∀ q∈os,q)→Looks (std P) os (rd (std P) st.slots x) id g→gOk st.objs st.ctr id g:=fun x id g os hos hx=>looks_gOk hos hx (R.eval x)
 obtain ⟨p1,p2,p3⟩:evOp (std P) tt orc (m+oj.dst.getD 0) st.objs st.ctr (rd (std P) st.slots) oj=some (dj,uj,osj1)∧evOp (std P) tt orc (m+oi.dst.getD 0) (putObjs st.objs uj) st.ctr (rd (std P) st.slots) oi=some (di,ui,osi1)∧putObjs (putObjs st.objs ui) uj=putObjs (putObjs st.objs uj) ui:=by
  rcases hm with hm | hm
  rotate_left
  · refine passFar hi hj ?_ (fun _=>rfl) (fun _=>rfl) (fun _=>rfl) (fun _=>rfl) e1 hρ ?_ hgx
    · have two:neqId (ads.getD i none) (ads.getD j none)=true→∃ a b,objOfR (std P) (rd (std P) st.slots) oi=some a∧objOfR (std P) (rd (std P) st.slots) oj=some b∧a≠b:=by
       intro h
       cases ha:ads.getD i none with
       | none=>rw [ha] at h;cases h
       | some a =>
        cases hb:ads.getD j none with
        | none=>rw [ha,hb] at h;cases h
        | some b =>
         rw [ha,hb] at h
         refine ⟨a,b,hAi a ha,hAj b hb,fun e=>?_⟩
         subst e
         simp [neqId,Nat.beq_refl] at h
      unfold farB at hm
      simp only [Bool.or_eq_true,Bool.and_eq_true,beq_iff_eq] at hm
      rcases hm with (⟨⟨f1,f2⟩,f3⟩ | ⟨⟨f1,f2⟩,f3⟩) | ⟨_,⟨f1,f2⟩ | ⟨f1,f2⟩⟩
      · exact .inl ⟨f1,f2,two f3⟩
      · exact .inr (.inl ⟨f1,f2,two f3⟩)
      · exact .inr (.inr (.inl ⟨f1,f2⟩))
      · exact .inr (.inr (.inr ⟨f1,f2⟩))
    · intro hs
      rcases c2 with ⟨_,_,rfl⟩ | ⟨g,c,t,hg,hc,hu,_⟩
      · exact hq
      · exfalso
        obtain ⟨_,_,_,_,_,_,_,_,hu',_⟩:=evOp_store hs hρ
        rw [hu] at hu';cases hu'
  exact pass hi hj hm (fun _=>rfl) (fun _=>rfl) (fun _=>rfl) (fun _=>rfl) e1 hρ (by
    intro hc
    rcases c2 with ⟨_,_,rfl⟩ | ⟨g,c,t,hg,_⟩
    · exact hq
    · exfalso
      unfold cls at hc
      simp only [hg,Option.isSome_some,if_true] at hc
      repeat' split at hc
      all_goals cases hc)
   hgx
 refine ⟨{ slots:=putSlot st.slots oj.dst dj',objs:=putObjs st.objs uj,ctr:=st.ctr },evStep_mk p1 ?_,?_,objOfR_congr fun x hx=>rd_put fun t ht=>looks_ops (a3 t ht) hx,hoj⟩
 · rcases c2 with h | ⟨g,c,t,hg,hc,h⟩
   · exact .inl h
   · rw [gcond_put hg a1] at hc
     exact .inr ⟨g,c,t,hg,hc,h⟩
 · have e:({ slots:=putSlot (putSlot st.slots oi.dst di') oj.dst dj',objs:=putObjs (putObjs st.objs ui) uj,ctr:=st.ctr } : St)
     = { slots:=putSlot (putSlot st.slots oj.dst dj') oi.dst di',objs:=putObjs (putObjs st.objs uj) ui,ctr:=st.ctr }:=by
    rw [p3]
    congr 1
    cases hdi:oi.dst with
    | none=>rfl
    | some s =>
     cases hdj:oj.dst with
     | none=>rfl
     | some t =>
      have hne:s≠t:=fun h=>a2 s hdi (by rw [hdj,h])
      simp only [putSlot]
      exact List.set_comm _ _ hne
   rw [e]
   refine evStep_mk (st:={ slots:=putSlot st.slots oj.dst dj',objs:=putObjs st.objs uj,ctr:=st.ctr }) (by
    rw [← p2]
    exact evOp_congr fun x hx=>rd_put fun t ht=>looks_ops (a3 t ht) hx) ?_
   rcases c1 with h | ⟨g,c,t,hg,hc,h⟩
   · exact .inl h
   · refine .inr ⟨g,c,t,hg,?_,h⟩
     show gcond (std P) ops (putSlot st.slots oj.dst dj') g=some c
     rw [gcond_put hg a3];exact hc
theorem evSteps_slot {p:Pr} {t:Nat} : ∀ (l:List Oper) (st st':St) (os:List Prop),evSteps p tt orc m ops l st=some (st',os)→(l.any fun x=>match x.dst with
  | some s=>Nat.beq s t
  | none=>false)=false→st'.slots.getD t .junk=st.slots.getD t .junk
 | [],st,st',os,h,_=>by
  simp only [evSteps,Option.some.injEq,Prod.mk.injEq] at h
  rw [h.1]
 | o :: l,st,st',os,h,hn=>by
  simp only [evSteps] at h
  split at h
  · cases h
  · rename_i st1 os1 h1
    split at h
    · cases h
    · rename_i st2 os2 h2
      simp only [Option.some.injEq,Prod.mk.injEq] at h
      obtain ⟨rfl,_⟩:=h
      simp only [List.any_cons,Bool.or_eq_false_iff] at hn
      rw [evSteps_slot l st1 st2 os2 h2 hn.2]
      obtain ⟨d,u,os0,d',_,rfl,_⟩:=evStep_inv h1
      simp only
      cases hd:o.dst with
      | none=>rfl
      | some s =>
       have hs:s≠t:=fun e=>by
        have:=hn.1
        rw [hd,e] at this
        simp only [Nat.beq_refl] at this
        cases this
       simp only [putSlot,List.getD,List.getElem?_set_ne hs]
theorem adFin_run {p:Pr} : ∀ (l:List Oper) (st st':St) (os:List Prop),evSteps p tt orc m ops l st=some (st',os)→∀ j a,(adFin p st'.slots l).getD j none=some a→(adRun p tt orc m ops l st).getD j none=some a
 | [],st,st',os,_,j,a,ha=>by simp [adFin] at ha
 | o :: l,st,st',os,h,j,a,ha=>by
  have h0:=h
  simp only [evSteps] at h
  split at h
  · cases h
  · rename_i st1 os1 h1
    split at h
    · cases h
    · rename_i st2 os2 h2
      simp only [Option.some.injEq,Prod.mk.injEq] at h
      obtain ⟨rfl,_⟩:=h
      cases j with
      | succ j =>
       simp only [adFin,adRun,h1,List.getD_cons_succ] at ha ⊢
       exact adFin_run l st1 st2 os2 h2 j a ha
      | zero =>
       simp only [adFin,adRun,List.getD_cons_zero] at ha ⊢
       split at ha
       · cases ha
       · rename_i hl
         rw [← ha]
         have hl:lateB o (o :: l)=false:=by simpa using hl
         unfold objOfR
         cases hop:o.op with
         | load t x =>
          simp only
          cases x with
          | tmp s =>
           simp only [lateB,hop] at hl
           have:=evSteps_slot (o :: l) st st2 _ h0 hl
           simp only [rd,this]
          | _=>rfl
         | store t x y =>
          simp only
          cases x with
          | tmp s =>
           simp only [lateB,hop] at hl
           have:=evSteps_slot (o :: l) st st2 _ h0 hl
           simp only [rd,this]
          | _=>rfl
         | _=>rfl
def AnyV (p:Pr) (tt:TT) (orc:Orc) (m:Nat) (ops:Array Oper) (ads:List (Option Nat)) (Q:St→Prop):Nat→Array Bool→St→Prop
 | 0,listed,st=>Region.ready .any ops listed=[]∧Q st
 | fuel+1,listed,st=>(Region.ready .any ops listed=[]→Q st) ∧
  ∀ i∈Region.ready .any ops listed,∃ o st' os,ops[i]? = some o∧evStep p tt orc m ops o st=some (st',os)∧(∀ q∈os,q)∧(∀ a,ads.getD i none=some a→objOfR p (rd p st.slots) o=some a)∧AnyV p tt orc m ops ads Q fuel (listed.setIfInBounds i true) st'
theorem anyV_sound (hT:TTok P tt) {ads:List (Option Nat)} {Q:St→Prop} {Q':Exit→Act→World→Prop} (hQ : ∀ st a w,RS B0 h0 I0 L st a w→Q st→Q' .normal a w) : ∀ (fuel:Nat) (listed:Array Bool) (st:St) (a:Act) (w:World),RS B0 h0 I0 L st a w →
  AnyV (std P) tt orc m ops ads Q fuel listed st→wpAny P .any ops Q' fuel listed a w
 | 0,_,_,_,_,R,h=>⟨h.1,hQ _ _ _ R h.2⟩
 | fuel+1,_,_,_,_,R,h=>⟨fun h0=>hQ _ _ _ R (h.1 h0),fun i hi=>by
  obtain ⟨o,st',os,ho,he,hos,_,hr⟩:=h.2 i hi
  exact evStep_sound hT ho R he hos fun a' w' R'=>anyV_sound hT hQ fuel _ st' a' w' R' hr⟩
theorem waitL_sub {ops:Array Oper} {listed:Array Bool} : ∀ (n j:Nat) (acc:List Nat) (x:Nat),x∈acc→x∈waitL ops listed n j acc
 | 0,_,_,_,h=>h
 | n+1,j,acc,x,h=>by
  unfold waitL
  split
  · exact h
  · split
    · exact waitL_sub n (j+1) _ x (List.mem_cons_of_mem _ h)
    · exact waitL_sub n (j+1) _ x h
theorem waitL_spec {ops:Array Oper} {listed:Array Bool} {k:Nat} : ∀ (n j:Nat) (acc:List Nat),
  (∀ x∈acc,x=k∨(listed.getD x true=false∧∃ ox,ops[x]? = some ox∧∃ e∈ox.after,Region.binds .any e=true∧e.on∈waitL ops listed n j acc)) →
  ∀ x∈waitL ops listed n j acc,x=k∨(listed.getD x true=false∧∃ ox,ops[x]? = some ox∧∃ e∈ox.after,Region.binds .any e=true∧e.on∈waitL ops listed n j acc)
 | 0,j,acc,h=>h
 | n+1,j,acc,h=>by
  unfold waitL at h ⊢
  split
  · rename_i h0
    simpa only [h0] using h
  · rename_i oj h0
    simp only [h0] at h
    split
    · rename_i hc
      rw [if_pos hc] at h
      refine waitL_spec n (j+1) (j :: acc) fun x hx=>?_
      rcases List.mem_cons.1 hx with rfl | hx
      · simp only [Bool.and_eq_true,Bool.not_eq_true'] at hc
        obtain ⟨e,e1,e2⟩:=Array.any_eq_true'.1 hc.2
        simp only [Bool.and_eq_true] at e2
        exact .inr ⟨hc.1,oj,h0,e,e1,e2.1,waitL_sub _ _ _ _ (List.mem_cons_of_mem _ (memN_iff.1 e2.2))⟩
      · exact h x hx
    · rename_i hc
      rw [if_neg hc] at h
      exact waitL_spec n (j+1) acc h
theorem anyV_first (hT:TTok P tt) (S:Nat→Prop) {Q:St→Prop} {own:List (Nat × Nat)} {ads:List (Option Nat)} (hown : ∀ (j:Nat) (o:Oper),ops[j]? = some o→OwnK orc own (m+o.dst.getD 0) o) {i:Nat} {oi:Oper} (hi:ops[i]? = some oi) :
  ∀ (fuel:Nat) (listed:Array Bool) (st sti:St) (osi:List Prop) (a:Act) (w:World),RS B0 h0 I0 L st a w →
   (∀ x,S x→listed.getD x true=false∧∃ ox,ops[x]? = some ox∧∃ e∈ox.after,Region.binds .any e=true∧(e.on=i∨S e.on)) →
   (∀ j oj,ops[j]? = some oj→j≠i→listed.getD j true=false→(∀ e∈oj.after,Region.binds .any e=true→e.on≠i)→¬ S j→oi.apart ops oj=true∧(mayPass (cls own oi) (cls own oj)=true∨farB own ads oi oj i j=true)) →
   i∈Region.ready .any ops listed→evStep (std P) tt orc m ops oi st=some (sti,osi)→(∀ q∈osi,q)→(∀ a,ads.getD i none=some a→objOfR (std P) (rd (std P) st.slots) oi=some a) →
   AnyV (std P) tt orc m ops ads Q fuel (listed.setIfInBounds i true) sti→AnyV (std P) tt orc m ops ads Q (fuel+1) listed st:=by
 intro fuel
 induction fuel with
 | zero =>
  intro listed st sti osi a w R _ _ hr hy hos hAi H
  refine ⟨fun h=>(by rw [h] at hr;cases hr),fun j hj=>?_⟩
  by_cases hji:j=i
  · subst hji;exact ⟨oi,sti,osi,hi,hy,hos,hAi,H⟩
  · have:=ready_mono hj hji
    rw [H.1] at this
    cases this
 | succ fuel ih =>
  intro listed st sti osi a w R hS hfree hr hy hos hAi H
  refine ⟨fun h=>(by rw [h] at hr;cases hr),fun j hj=>?_⟩
  by_cases hji:j=i
  · subst hji;exact ⟨oi,sti,osi,hi,hy,hos,hAi,H⟩
  · obtain ⟨oj',sij,osj,hoj',hyj,hosj,hAj,H'⟩:=H.2 j (ready_mono hj hji)
    obtain ⟨hjun,oj,hoj,hall⟩:=mem_ready.1 hj
    have:oj'=oj:=by rw [hoj'] at hoj;exact Option.some.inj hoj
    subst this
    have hnot : ∀ e∈oj'.after,Region.binds .any e=true→e.on≠i:=fun e he hb heq=>by
     have h1:=hall e he hb
     have h0:=(mem_ready.1 hr).1
     rw [heq] at h1
     rcases Nat.lt_or_ge i listed.size with h' | h'
     · simp [h'] at h0 h1;rw [h0] at h1;cases h1
     · simp [Array.getElem?_eq_none h'] at h1
    have hjS : ¬ S j:=fun h=>by
     obtain ⟨_,ox,hox,e,he,hb,hor⟩:=hS j h
     rw [hoj] at hox;cases hox
     rcases hor with h1 | h1
     · exact hnot e he hb h1
     · have h2:=hall e he hb
       have h3:=(hS _ h1).1
       rcases Nat.lt_or_ge e.on listed.size with h' | h'
       · simp [h'] at h3 h2;rw [h3] at h2;cases h2
       · simp [Array.getElem?_eq_none h'] at h3
    obtain ⟨f1,f2⟩:=hfree j oj' hoj hji hjun hnot hjS
    have hS' : ∀ x,S x→(listed.setIfInBounds j true).getD x true=false∧∃ ox,ops[x]? = some ox∧∃ e∈ox.after,Region.binds .any e=true∧(e.on=i∨S e.on):=fun x hx=>by
     obtain ⟨h1,h2⟩:=hS x hx
     refine ⟨?_,h2⟩
     rw [getD_set_ne true (fun h=>hjS (by rw [h];exact hx))];exact h1
    obtain ⟨stj,s1,s2,s3,s4⟩:=evStep_pass R (hown i oi hi) (hown j oj' hoj) f2 hAi hAj f1 hy hyj hosj
    refine ⟨oj',stj,osj,hoj,s1,hosj,fun a ha=>s4 ▸ hAj a ha,?_⟩
    have hfree' : ∀ k ok,ops[k]? = some ok→k≠i→(listed.setIfInBounds j true).getD k true=false →
      (∀ e∈ok.after,Region.binds .any e=true→e.on≠i)→¬ S k→oi.apart ops ok=true∧(mayPass (cls own oi) (cls own ok)=true∨farB own ads oi ok i k=true):=fun k ok hk hki hun hno hkS=>by
     refine hfree k ok hk hki ?_ hno hkS
     by_cases hjk:j=k
     · subst hjk;exact hjun
     · rw [getD_set_ne true hjk] at hun;exact hun
    obtain ⟨a',w',R'⟩ : ∃ a' w',RS B0 h0 I0 L stj a' w':=wpOp_ex (P:=P) (ops:=ops) (i:=j) (evStep_sound hT hoj R s1 hosj fun a' w' R'=>R')
    refine ih (listed.setIfInBounds j true) stj sij osi a' w' R' hS' hfree' (ready_mono hr (Ne.symm hji)) s2 hos (fun a ha=>s3.trans (hAi a ha)) ?_
    rw [Array.setIfInBounds_comm _ _ hji]
    exact H'
theorem anyV_lex (hT:TTok P tt) {Q:St→Prop} {own:List (Nat × Nat)} {ads:List (Option Nat)} (hown : ∀ (j:Nat) (o:Oper),ops[j]? = some o→OwnK orc own (m+o.dst.getD 0) o) :
  ∀ (l:List Oper) (k:Nat) (listed:Array Bool) (st st':St) (os:List Prop) (a:Act) (w:World),RS B0 h0 I0 L st a w→(∀ j,l[j]? = ops[k+j]?) →
   Region.lexFrom .any ops l.length k listed=true→lexOk own ads ops l.length k listed=true→evSteps (std P) tt orc m ops l st=some (st',os)→(∀ q∈os,q)→(∀ j a,ads.getD (k+j) none=some a→(adRun (std P) tt orc m ops l st).getD j none=some a)→Q st'→AnyV (std P) tt orc m ops ads Q l.length listed st
 | [],_,_,st,st',os,a,w,_,_,hB,_,he,_,_,hQ=>by
  simp only [evSteps,Option.some.injEq,Prod.mk.injEq] at he
  obtain ⟨rfl,rfl⟩:=he
  exact ⟨by simpa [Region.lexFrom] using hB,hQ⟩
 | o :: l,k,listed,st,st',os,a,w,R,hl,hB,hL,he,hos,hA,hQ=>by
  have hk0:ops[k]? = some o:=by simpa using (hl 0).symm
  simp only [List.length_cons,Region.lexFrom,Bool.and_eq_true] at hB
  obtain ⟨⟨hr,hf⟩,hB'⟩:=hB
  simp only [List.length_cons,lexOk,Bool.and_eq_true,hk0] at hL
  obtain ⟨hL1,hL2⟩:=hL
  simp only [evSteps] at he
  split at he
  · cases he
  · rename_i st1 os1 h1
    split at he
    · cases he
    · rename_i st2 os2 h2
      simp only [Option.some.injEq,Prod.mk.injEq] at he
      obtain ⟨rfl,rfl⟩:=he
      have hos1 : ∀ q∈os1,q:=fun q hq=>hos q (List.mem_append_left _ hq)
      obtain ⟨a',w',R'⟩ : ∃ a' w',RS B0 h0 I0 L st1 a' w':=wpOp_ex (P:=P) (ops:=ops) (i:=k) (evStep_sound hT hk0 R h1 hos1 fun a' w' R'=>R')
      have hrest:=anyV_lex hT hown l (k+1) _ st1 st2 os2 a' w' R' (fun j=>by have:=hl (j+1);simpa [Nat.add_assoc,Nat.add_comm 1 j] using this) hB' hL2 h2 (fun q hq=>hos q (List.mem_append_right _ hq)) (fun j b hb=>by have h:=hA (j+1) b (by rw [← hb];congr 1;omega);simpa [adRun,h1] using h) hQ
      have hA0 : ∀ b,ads.getD k none=some b→objOfR (std P) (rd (std P) st.slots) o=some b:=fun b hb=>by have h:=hA 0 b (by simpa using hb);simpa [adRun] using h
      have hfin : ∀ (wl:List Nat) (S:Nat→Prop),(∀ x,x∈wl→x=k∨S x)→(∀ x,S x→listed.getD x true=false∧∃ ox,ops[x]? = some ox∧∃ e∈ox.after,Region.binds .any e=true∧(e.on=k∨S e.on))→passOk own ads ops o k listed wl=true →
        AnyV (std P) tt orc m ops ads Q (l.length+1) listed st:=by
       intro wl S hwl hS hL1
       refine anyV_first hT S hown hk0 l.length listed st st1 os1 a w R hS ?_ (by simpa using hr) h1 hos1 hA0 hrest
       intro j oj hoj hjk hun hno hjS
       refine ⟨Region.free_spec hk0 hf j oj hoj hjk hun hno,?_⟩
       have hlt:j < ops.size:=(Array.getElem?_eq_some_iff.1 hoj).1
       have:=List.all_eq_true.1 hL1 j (List.mem_range.2 hlt)
       simp only [hoj,Bool.or_eq_true,beq_iff_eq,Bool.or_eq_true] at this
       rcases this with ((((h | h) | h) | h) | h) | h
       · exact absurd h hjk
       · rw [hun] at h;cases h
       · exfalso
         obtain ⟨e,he1,he2⟩:=Array.any_eq_true'.1 h
         simp only [Bool.and_eq_true,beq_iff_eq] at he2
         exact hno e he1 he2.1 he2.2
       · exact .inl h
       · exact .inr h
       · rcases hwl j (memN_iff.1 h) with h | h
         · exact absurd h hjk
         · exact absurd h hjS
      rw [Bool.or_eq_true] at hL1
      rcases hL1 with hL1 | hL1
      · exact hfin [] (fun _=>False) (fun x hx=>by cases hx) (fun x hx=>hx.elim) hL1
      · refine hfin _ (fun x=>x≠k∧x∈waitL ops listed l.length (k+1) [k]) (fun x hx=>?_) (fun x hx=>?_) hL1
        · by_cases h:x=k
          · exact .inl h
          · exact .inr ⟨h,hx⟩
        · rcases waitL_spec (k:=k) l.length (k+1) [k] (fun x hx=>.inl (by simpa using hx)) x hx.2 with h | ⟨h,ox,hox,e,e1,e2,e3⟩
          · exact absurd h hx.1
          · refine ⟨h,ox,hox,e,e1,e2,?_⟩
            by_cases h':e.on=k
            · exact .inl h'
            · exact .inr ⟨h',e3⟩
theorem kOf_spec {v:Nat} : ∀ {l:List (Nat × Nat)} {f:Nat},(∀ x∈l,x.1=f→x.2=v)→(v≠0→(f,v)∈l)→kOf l f=v
 | [],f,_,h2=>by
  simp only [kOf]
  by_cases h:v=0
  · exact h.symm
  · exact absurd (h2 h) (by simp)
 | (k,x) :: r,f,h1,h2=>by
  simp only [kOf]
  split
  · rename_i hk
    exact h1 _ (List.mem_cons_self ..) (Nat.eq_of_beq_eq_true hk)
  · rename_i hk
    refine kOf_spec (fun y hy=>h1 y (List.mem_cons_of_mem _ hy)) fun h=>?_
    rcases List.mem_cons.1 (h2 h) with e | e
    · exact absurd (by rw [← (Prod.mk.inj e).1];exact Nat.beq_refl _) hk
    · exact e
theorem kOf_in : ∀ {l:List (Nat × Nat)} {f:Nat},kOf l f≠0→(f,kOf l f)∈l
 | [],_,h=>absurd rfl h
 | (k,x) :: r,f,h=>by
  simp only [kOf] at h ⊢
  split
  · rename_i hk
    have hk:=Nat.eq_of_beq_eq_true hk
    subst hk
    exact List.mem_cons_self ..
  · rename_i hk
    rw [if_neg hk] at h
    exact List.mem_cons_of_mem _ (kOf_in h)
theorem own_owners {ops:Array Oper} {m:Nat} (j:Nat) (o:Oper) (h:ops[j]? = some o):OwnK orc (owners orc m ops.toList) (m+o.dst.getD 0) o:=by
 have hmem:o∈ops.toList:=by
  obtain ⟨h1,h2⟩:=Array.getElem?_eq_some_iff.1 h
  exact Array.mem_toList_iff.2 (h2 ▸ Array.getElem_mem h1)
 intro c hd
 refine ⟨fun f hf=>kOf_spec (fun x hx e1=>?_) fun hne=>?_,fun x d hf hdst h7=>?_⟩
 · have key0 : ∀ f':Nat,some (f'+f',orc.knd f')=some x→x.2=orc.knd f:=fun f' e=>by
    have e2:=Option.some.inj e
    subst e2
    have e1:f'+f'=f+f:=e1
    obtain rfl:f'=f:=by omega
    rfl
   obtain ⟨o',_,he⟩:=List.mem_filterMap.1 hx
   repeat' split at he
   all_goals first
   | (cases he;done)
   | exact key0 _ he
   | (exfalso;have e2:=Option.some.inj he;subst e2;have e1:_=f+f:=e1;simp only at e1;omega)
   | exact key0 _ he
 · refine List.mem_filterMap.2 ⟨o,hmem,?_⟩
   simp only [hd,hf]
   rw [if_neg]
   intro h
   exact hne (Nat.eq_of_beq_eq_true h)
 · have h7:=Nat.eq_of_beq_eq_true h7
   have hin:=kOf_in (l:=owners orc m ops.toList) (f:=d+d+1) (by rw [h7];decide)
   rw [h7] at hin
   have key : ∀ d':Nat,some (d'+d'+1,7)=some (d+d+1,7)→Nat.beq (orc.knd (m+d'+1024)) 7=true→Nat.beq (orc.knd (m+o.dst.getD 0+1024)) 7=true:=fun d' e hb=>by
    have:=(Prod.mk.inj (Option.some.inj e)).1
    obtain rfl:d'=d:=by omega
    rw [hdst];exact hb
   obtain ⟨o',_,he⟩:=List.mem_filterMap.1 hin
   repeat' split at he
   all_goals first
   | (cases he;done)
   | (exfalso;have:=(Prod.mk.inj (Option.some.inj he)).1;omega)
   | (rename_i hb;exact key _ he hb)
theorem region_any (hT:TTok P tt) (hP:P.follows .mixedOrders=true) {ads:List (Option Nat)} {id:Nat} {st st':St} {os:List Prop} {a:Act} {w:World} {Q':Exit→Act→World→Prop} (R:RS B0 h0 I0 L st a { w with drawn:=w.drawn+1 })
  (he:evSteps (std P) tt orc m ops ops.toList st=some (st',os)) (hos : ∀ q∈os,q) (hA : ∀ j a,ads.getD j none=some a→(adRun (std P) tt orc m ops ops.toList st).getD j none=some a) (hd:drOk ops (owners orc m ops.toList) ads=true) (hQ : ∀ a w,RS B0 h0 I0 L st' a w→Q' .normal a w):(Code.region id ops true).wp P Q' a w:=by
 unfold drOk at hd
 rw [Bool.and_eq_true] at hd
 have hB:=hd.1
 simp only [Region.lexB,Bool.and_eq_true] at hB
 refine wp_region_any hP (anyV_sound hT (ads:=ads) (m:=m) (orc:=orc) (Q:=fun s=>s=st') (fun s a w R h=>hQ a w (h ▸ R)) _ _ st a _ R ?_)
 have:=anyV_lex hT (ads:=ads) (B0:=B0) (h0:=h0) (I0:=I0) (L:=L) (m:=m) (own:=owners orc m ops.toList) (fun j o h1=>own_owners j o h1) (Q:=fun s=>s=st') ops.toList 0 (Array.replicate ops.size false) st st' os a _ R (by simp)
  (by simpa using hB.2) (by simpa using hd.2) he hos (fun j a h=>hA j a (by simpa using h)) rfl
 simpa using this
end
end Go.Vx
