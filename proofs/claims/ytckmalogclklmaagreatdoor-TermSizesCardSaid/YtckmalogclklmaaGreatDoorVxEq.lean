/- Two structs or arrays are compared cell by cell. -/
import Derived.Test.YtckmalogclklmaaGreatDoorVxStd
import Derived.Laws.StructEq
set_option linter.all false
namespace Go.Vx
def UN:EK→Value→Value→Option Bool
 | .int k,.int k1 a,.int k2 b=>if k1=k∧k2=k then some (a == b) else none
 | .bool,.bool a,.bool b=>some (a == b)
 | .str,.string a,.string b=>some (a.toList == b.toList)
 | .skip,_,_=>some true
 | _,_,_=>none
def iQ:List EK→List Value→List Value→Option Bool
 | [],[],[]=>some true
 | e :: r,x :: xs,y :: ys=>match UN e x y,iQ r xs ys with
  | some b,some b'=>some (b && b')
  | _,_=>none
 | _,_,_=>none
section
variable {P:Program} (w:World)
def Fits (P:Program) (t:TypeId) (x:Value) (vs:List Value):Prop:=∃ d,P.underlying t=some d∧if lX d then x = .agg vs.toArray else vs=[x]
theorem D5 : ∀ {l:List EK} {vs us:List Value} {b:Bool},iQ l vs us=some b→vs.length=l.length∧us.length=l.length
 | [],[],[],_,_=>⟨rfl,rfl⟩
 | e :: r,x :: xs,y :: ys,b,h=>by
  unfold iQ at h
  split at h
  · rename_i b1 b2 h1 h2
    have:=D5 h2
    simp [this.1,this.2]
  · cases h
 | [],_ :: _,_,_,h=>by simp [iQ] at h
 | [],[],_ :: _,_,h=>by simp [iQ] at h
 | _ :: _,[],_,_,h=>by simp [iQ] at h
 | _ :: _,_ :: _,[],_,h=>by simp [iQ] at h
theorem Je : ∀ {l l':List EK} {vs us:List Value} {b:Bool},iQ (l++l') vs us=some b→∃ b1 b2,iQ l (vs.take l.length) (us.take l.length)=some b1∧iQ l' (vs.drop l.length) (us.drop l.length)=some b2∧b=(b1 && b2)
 | [],l',vs,us,b,h=>⟨true,b,by simp [iQ],by simpa using h,by simp⟩
 | e :: r,l',x :: xs,y :: ys,b,h=>by
  simp only [List.cons_append,iQ] at h
  split at h
  · rename_i b1 b2 h1 h2
    obtain ⟨c1,c2,k1,k2,rfl⟩:=Je h2
    cases h
    refine ⟨b1 && c1,c2,?_,by simpa using k2,by rw [Bool.and_assoc]⟩
    simp [iQ,h1,k1]
  · cases h
 | _ :: _,_,[],_,_,h=>by simp [iQ] at h
 | _ :: _,_,_ :: _,[],_,h=>by simp [iQ] at h
theorem WA : ∀ {n:Nat} {vs us:List Value} {b:Bool},iQ (List.replicate n .skip) vs us=some b→b=true
 | 0,[],[],_,h=>by simpa [iQ,eq_comm] using h
 | n+1,x :: xs,y :: ys,b,h=>by
  simp only [List.replicate_succ,iQ,UN] at h
  split at h
  · rename_i b1 b2 h1 h2
    cases h;cases h1
    simpa using WA h2
  · cases h
 | 0,_ :: _,_,_,h=>by simp [iQ] at h
 | 0,[],_ :: _,_,h=>by simp [iQ] at h
 | _+1,[],_,_,h=>by simp [List.replicate_succ,iQ] at h
 | _+1,_ :: _,[],_,h=>by simp [List.replicate_succ,iQ] at h
theorem Q9 {n:Nat} {t:TypeId} {l:List EK} (h:eqTy P n t=some l) : ∃ i d,P.info? t=some i∧P.underlying t=some d∧i.size=l.length∧(lX d=false→l.length=1):=by
 cases n with
 | zero=>cases h
 | succ n =>
  unfold eqTy at h
  split at h
  · cases h
  · rename_i i hi
    split at h
    · rename_i k hu
      split at h
      · rename_i hz;cases h
        exact ⟨i,_,hi,hu,Nat.eq_of_beq_eq_true hz,fun _=>rfl⟩
      · cases h
    · rename_i hu
      split at h
      · rename_i hz;cases h
        exact ⟨i,_,hi,hu,Nat.eq_of_beq_eq_true hz,fun _=>rfl⟩
      · cases h
    · rename_i hu
      split at h
      · rename_i hz;cases h
        exact ⟨i,_,hi,hu,Nat.eq_of_beq_eq_true hz,fun _=>rfl⟩
      · cases h
    · rename_i fs hu
      split at h
      · cases h
      · split at h
        · split at h
          · rename_i hz;cases h
            exact ⟨i,_,hi,hu,Nat.eq_of_beq_eq_true hz,fun h=>by cases h⟩
          · cases h
        · cases h
    · rename_i len e hu
      split at h
      · rename_i l' hl
        split at h
        · rename_i hz;cases h
          refine ⟨i,_,hi,hu,?_,fun h=>by cases h⟩
          rw [Nat.eq_of_beq_eq_true hz];simp
        · cases h
      · cases h
    · cases h
theorem Jf {n:Nat} {t:TypeId} {l:List EK} (h:eqTy P n t=some l) {vs:List Value} {off:Nat} (hl:off+l.length≤vs.length) :
  ∃ z,(part t vs.toArray off).run P w = .ok z w∧Fits P t z ((vs.drop off).take l.length):=by
 obtain ⟨i,d,h1,h2,h3,h4⟩:=Q9 h
 have ha:(isAgg t).run P w = .ok (lX d) w:=by
  unfold isAgg
  cases d<;>simp [run_underlying h2,lX]
 have hs:(sizeOf t).run P w = .ok l.length w:=by simp [sizeOf,typeInfo,h1,h3]
 cases hd:lX d with
 | true =>
  rw [hd] at ha
  refine ⟨.agg (vs.toArray.extract off (off+l.length)),by simp [part,ha,hs],d,h2,?_⟩
  rw [hd]
  simp [List.extract_eq_take_drop]
 | false =>
  rw [hd] at ha
  have h1:=h4 hd
  rw [h1] at hl ⊢
  refine ⟨vs[off]'(by omega),?_,d,h2,?_⟩
  · have:vs.toArray[off]? = some (vs[off]'(by omega)):=by simp
    simp [part,ha,this]
  · rw [hd]
    have hlt:off < vs.length:=by omega
    simp only [Bool.false_eq_true,if_false]
    rw [List.drop_eq_getElem_cons hlt]
    rfl
theorem WB : ∀ (n:Nat) (t:TypeId) (l:List EK),eqTy P n t=some l→∀ (m:Nat) (x y:Value) (vs us:List Value) (b:Bool),Fits P t x vs→Fits P t y us→iQ l vs us=some b →
  (Op.equalIn (n+m) t x y).run P w = .ok b w:=by
 intro n
 induction n with
 | zero=>intro t l h;cases h
 | succ n ih =>
  intro t l h m x y vs us b hx hy hb
  obtain ⟨hl1,hl2⟩:=D5 hb
  have e1:n+1+m=(n+m)+1:=by omega
  rw [e1]
  unfold eqTy at h
  split at h
  · cases h
  · rename_i i hi
    obtain ⟨d,hx1,hx2⟩:=hx
    obtain ⟨d',hy1,hy2⟩:=hy
    rw [hx1] at hy1;cases hy1
    split at h
    · rename_i k hu
      rw [hx1] at hu;cases hu
      split at h
      · cases h
        simp only [lX,Bool.false_eq_true,if_false] at hx2 hy2
        subst hx2;subst hy2
        simp only [iQ] at hb
        split at hb
        · rename_i b1 b2 h1 h2
          cases h2;cases hb
          cases x<;>cases y<;>simp [UN] at h1
          obtain ⟨⟨rfl,rfl⟩,rfl⟩:=h1
          simp [run_equalIn_int w _ _ _ _ _ _ hx1]
        · cases hb
      · cases h
    · rename_i hu
      rw [hx1] at hu;cases hu
      split at h
      · cases h
        simp only [lX,Bool.false_eq_true,if_false] at hx2 hy2
        subst hx2;subst hy2
        simp only [iQ] at hb
        split at hb
        · rename_i b1 b2 h1 h2
          cases h2;cases hb
          cases x<;>cases y<;>simp [UN] at h1
          subst h1
          simp [run_equalIn_bool' w _ _ _ _ hx1]
        · cases hb
      · cases h
    · rename_i hu
      rw [hx1] at hu;cases hu
      split at h
      · cases h
        simp only [lX,Bool.false_eq_true,if_false] at hx2 hy2
        subst hx2;subst hy2
        simp only [iQ] at hb
        split at hb
        · rename_i b1 b2 h1 h2
          cases h2;cases hb
          cases x<;>cases y<;>simp only [UN,reduceCtorEq,Option.some.injEq] at h1
          subst h1
          simp [run_equalIn_string w _ _ _ _ hx1]
        · cases hb
      · cases h
    · rename_i fs hu
      rw [hx1] at hu;cases hu
      split at h
      · cases h
      · rename_i hst
        split at h
        · rename_i l' hf
          split at h
          · cases h
            simp only [lX,if_true] at hx2 hy2
            subst hx2;subst hy2
            have hff:P.fieldsOf t=fs:=by simp [Program.fieldsOf,hx1]
            rw [run_equalIn_struct w (n+m) t vs.toArray us.toArray (by rw [hff];exact hx1) (by simpa using hst),hff]
            have key : ∀ (fl:List Field) (at_:Nat) (l:List EK) (b:Bool),UO P (eqTy P n) fl at_=some l→iQ l (vs.drop at_) (us.drop at_)=some b→(Op.eqFields (n+m) vs.toArray us.toArray fl).run P w = .ok b w:=by
             intro fl
             induction fl with
             | nil =>
              intro at_ l b hf hb
              cases hf
              cases hv:vs.drop at_<;>cases hu:us.drop at_<;>rw [hv,hu] at hb<;>simp [iQ] at hb
              subst hb;simp [Op.eqFields]
             | cons f r ihf =>
              intro at_ l b hf hb
              unfold UO at hf
              split at hf
              · rename_i ho
                have ho:=Nat.eq_of_beq_eq_true ho
                split at hf
                · rename_i hn
                  split at hf
                  · rename_i i' hi'
                    cases hr:UO P (eqTy P n) r (at_+i'.size) with
                    | none=>rw [hr] at hf;cases hf
                    | some lr =>
                     rw [hr] at hf;cases hf
                     obtain ⟨b1,b2,k1,k2,rfl⟩:=Je hb
                     have:=WA k1
                     subst this
                     simp only [List.length_replicate,List.drop_drop] at k2
                     have:=ihf _ _ _ hr k2
                     simpa [Op.eqFields,hn] using this
                  · cases hf
                · rename_i hn
                  split at hf
                  · rename_i lf hlf
                    cases hr:UO P (eqTy P n) r (at_+lf.length) with
                    | none=>rw [hr] at hf;cases hf
                    | some lr =>
                     rw [hr] at hf;cases hf
                     obtain ⟨b1,b2,k1,k2,rfl⟩:=Je hb
                     obtain ⟨q1,q2⟩:=D5 hb
                     simp only [List.length_append,List.length_drop] at q1 q2
                     have hz:=Q9 hlf
                     obtain ⟨s1,s2⟩:=D5 k1
                     have hle1:f.offset+lf.length≤vs.length∨lf.length=0:=by omega
                     have hle2:f.offset+lf.length≤us.length∨lf.length=0:=by omega
                     by_cases h0:lf.length=0
                     ·
                      obtain ⟨i0,d0,z1,z2,z3,z4⟩:=hz
                      have hag:lX d0=true:=by
                       cases hd:lX d0 with
                       | true=>rfl
                       | false=>have:=z4 hd;omega
                      have hpart : ∀ vs:List Value,∃ z,(part f.type vs.toArray f.offset).run P w = .ok z w∧Fits P f.type z []:=by
                       intro vs
                       have ha:(isAgg f.type).run P w = .ok (lX d0) w:=by
                        unfold isAgg
                        cases d0<;>simp [run_underlying z2,lX]
                       rw [hag] at ha
                       have hs:(sizeOf f.type).run P w = .ok 0 w:=by simp [sizeOf,typeInfo,z1,z3,h0]
                       refine ⟨.agg (vs.toArray.extract f.offset (f.offset+0)),by simp [part,ha,hs],d0,z2,?_⟩
                       rw [hag];simp
                      obtain ⟨za,a1,a2⟩:=hpart vs
                      obtain ⟨zb,c1,c2⟩:=hpart us
                      have agc:lf=[]:=List.length_eq_zero_iff.1 h0
                      subst agc
                      have hb1:b1=true:=by simpa [iQ,eq_comm] using k1
                      subst hb1
                      have heq:=ih _ _ hlf m za zb [] [] true a2 c2 rfl
                      have:=ihf _ _ _ hr (by simpa [List.drop_drop] using k2)
                      simp [Op.eqFields,hn,a1,c1,heq,this]
                     · obtain ⟨za,a1,a2⟩:=Jf w hlf (vs:=vs) (off:=f.offset) (by omega)
                       obtain ⟨zb,c1,c2⟩:=Jf w hlf (vs:=us) (off:=f.offset) (by omega)
                       rw [ho] at a2 c2
                       have heq:=ih _ _ hlf m za zb _ _ b1 a2 c2 k1
                       have:=ihf _ _ _ hr (by simpa [List.drop_drop] using k2)
                       cases b1<;>simp [Op.eqFields,hn,a1,c1,heq,this]
                  · cases hf
              · cases hf
            exact key fs.toList 0 _ b hf (by simpa using hb)
          · cases h
        · cases h
    · rename_i len e hu
      rw [hx1] at hu;cases hu
      split at h
      · rename_i le hle
        split at h
        · cases h
          simp only [lX,if_true] at hx2 hy2
          subst hx2;subst hy2
          obtain ⟨ie,de,z1,z2,z3,z4⟩:=Q9 hle
          have hs:(sizeOf e).run P w = .ok le.length w:=by simp [sizeOf,typeInfo,z1,z3]
          simp only [Op.equalIn,Sem.run_bind,run_underlying hx1,Result.andThen_ok,hs,Std.Legacy.Range.forIn_eq_forIn_range']
          have key : ∀ (k i:Nat) (b:Bool),iQ (List.replicate k le).flatten (vs.drop (i*le.length)) (us.drop (i*le.length))=some b →
            (Sem.run P (forIn (List.range' i k 1) (none,()) fun i __s=>do
           let __do_lift ← part e vs.toArray (i*le.length)
           let __do_lift_1 ← part e us.toArray (i*le.length)
           let __do_lift ← Op.equalIn (n+m) e __do_lift __do_lift_1
           if (!__do_lift)=true then pure (ForInStep.done (some false,())) else pure (ForInStep.yield (none,()))) w) = .ok ((if b then none else some false),()) w:=by
           intro k
           induction k with
           | zero =>
            intro i b hb
            simp only [List.replicate_zero,List.flatten_nil] at hb
            cases hv:vs.drop (i*le.length)<;>cases hu:us.drop (i*le.length)<;>rw [hv,hu] at hb<;>simp [iQ] at hb
            subst hb;simp
           | succ k ihk =>
            intro i b hb
            simp only [List.replicate_succ,List.flatten_cons] at hb
            obtain ⟨b1,b2,k1,k2,rfl⟩:=Je hb
            obtain ⟨s1,s2⟩:=D5 k1
            simp only [List.length_take,List.length_drop] at s1 s2
            by_cases h0:le.length=0
            · have hag:lX de=true:=by
               cases hd:lX de with
               | true=>rfl
               | false=>have:=z4 hd;omega
              have hpart : ∀ vs:List Value,∃ z,(part e vs.toArray (i*le.length)).run P w = .ok z w∧Fits P e z []:=by
               intro vs
               have ha:(isAgg e).run P w = .ok (lX de) w:=by
                unfold isAgg
                cases de<;>simp [run_underlying z2,lX]
               rw [hag] at ha
               refine ⟨.agg (vs.toArray.extract (i*le.length) (i*le.length+0)),by simp [part,ha,hs,h0],de,z2,?_⟩
               rw [hag];simp
              obtain ⟨za,a1,a2⟩:=hpart vs
              obtain ⟨zb,c1,c2⟩:=hpart us
              have agc:le=[]:=List.length_eq_zero_iff.1 h0
              subst agc
              have hb1:b1=true:=by simpa [iQ,eq_comm] using k1
              subst hb1
              have heq:=ih _ _ hle m za zb [] [] true a2 c2 rfl
              have:=ihk (i+1) b2 (by simpa [List.drop_drop,Nat.add_mul] using k2)
              rw [List.range'_succ,List.forIn_cons]
              simp only [Sem.run_bind,a1,c1,heq,Result.andThen_ok,Bool.not_true,Bool.false_eq_true,if_false,Sem.run_pure,Bool.true_and]
              exact this
            · obtain ⟨za,a1,a2⟩:=Jf w hle (vs:=vs) (off:=i*le.length) (by omega)
              obtain ⟨zb,c1,c2⟩:=Jf w hle (vs:=us) (off:=i*le.length) (by omega)
              have heq:=ih _ _ hle m za zb _ _ b1 a2 c2 k1
              have:=ihk (i+1) b2 (by simpa [List.drop_drop,Nat.add_mul] using k2)
              rw [List.range'_succ,List.forIn_cons]
              cases b1
              · simp only [Sem.run_bind,a1,c1,heq,Result.andThen_ok,Bool.not_false,if_true,Sem.run_pure,Bool.false_and,Bool.false_eq_true,if_false]
              · simp only [Sem.run_bind,a1,c1,heq,Result.andThen_ok,Bool.not_true,Bool.false_eq_true,if_false,Sem.run_pure,Bool.true_and]
                exact this
          have:=key len 0 b (by simpa using hb)
          simp only [Std.Legacy.Range.size,Nat.sub_zero,Nat.add_sub_cancel,Nat.div_one]
          rw [this]
          cases b<;>simp
        · cases h
      · cases h
    · cases h
end
theorem UQ {P:Program} {h:Array Obj} {I:IS} {β:Nat→Option (Nat × Nat × Array Value)} {objs:List (Option Ob)} {ctr:Nat} : ∀ {l:List EK} {c c':Nat→D} {b:Bool} {vs us:List Value},Y9 (std P) l c c'=some b→vs.length=l.length→us.length=l.length →
  (∀ j,j < l.length→∃ z,vs[j]? = some z∧Rd h I β objs ctr (c j) z)→(∀ j,j < l.length→∃ z,us[j]? = some z∧Rd h I β objs ctr (c' j) z)→iQ l vs us=some b
 | [],_,_,b,vs,us,he,h1,h2,_,_=>by
  cases he
  have:vs=[]:=List.length_eq_zero_iff.1 (by simpa using h1)
  have:us=[]:=List.length_eq_zero_iff.1 (by simpa using h2)
  subst_vars;rfl
 | e :: r,c,c',b,v :: vs,u :: us,he,h1,h2,h3,h4=>by
  unfold Y9 at he
  split at he
  · rename_i b1 b2 k1 k2
    cases he
    have hr:=UQ (vs:=vs) (us:=us) k2 (by simpa using h1) (by simpa using h2) (fun j hj=>by simpa using h3 (j+1) (by simpa using hj)) (fun j hj=>by simpa using h4 (j+1) (by simpa using hj))
    obtain ⟨z,z1,z2⟩:=h3 0 (by simp)
    obtain ⟨z',z1',z2'⟩:=h4 0 (by simp)
    simp only [List.length_cons,List.getElem?_cons_zero,Option.some.injEq] at z1 z1'
    subst z1;subst z1'
    have:UN e v u=some b1:=by
     unfold aeY at k1
     split at k1
     · rename_i k k1' a k2' b' e1 e2
       rw [e1] at z2;rw [e2] at z2'
       cases z2;cases z2'
       split at k1
       · split at k1
         · cases k1
           subst_vars
           simp only [UN,and_self,if_true];rfl
         · cases k1
       · cases k1
     · rename_i a b' e1 e2
       rw [e1] at z2;rw [e2] at z2'
       cases z2;cases z2';cases k1;rfl
     · rename_i a b' e1 e2
       rw [e1] at z2;rw [e2] at z2'
       cases z2;cases z2';cases k1;rfl
     · cases k1;cases v<;>cases u<;>rfl
     · cases k1
    simp only [iQ,this,hr];rfl
  · cases he
 | _ :: _,_,_,_,[],_,_,h1,_,_,_=>by simp at h1
 | _ :: _,_,_,_,_ :: _,[],_,_,h2,_,_=>by simp at h2
end Go.Vx
