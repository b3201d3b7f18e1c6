/- Twins of lifted functions, by program (twin.py). -/
import Derived.Test.YtofgfpibcoafgaaELift
import Derived.Test.YtofgfpibcoafgaaVxTwin
set_option linter.all false
namespace Go.Vx
set_option linter.all false
def si_push_c (s : T_embed_stack_int_) (x' : Int) : Option (T_embed_stack_int_) :=
  chk (growOk 8 ((lenL s.fl) + 1)) <|
  some (T_embed_stack_int_.mk (s.fl ++ ([x'] : List Int)))
theorem si_push_le (s : T_embed_stack_int_) (x' : Int)  : Tw (si_push_c s x') (si_push s x') := by
  unfold si_push si_push_c
  try simp only [ssubS_eq]
  repeat' (first | (with_reducible exact Tw.refl _) | (with_reducible apply Tw.chk) | (with_reducible apply Tw.ite) | (with_reducible apply Tw.bind) | (with_reducible apply Tw.cut) | (with_reducible apply Tw.loop) | (with_reducible apply Tw.gif) | (intro _) | split)
def si_size_c (s : T_embed_stack_int_) : Option Int :=
  some (lenL s.fl)
theorem si_size_le (s : T_embed_stack_int_)  : Tw (si_size_c s) (si_size s) := by
  unfold si_size si_size_c
  try simp only [ssubS_eq]
  repeat' (first | (with_reducible exact Tw.refl _) | (with_reducible apply Tw.chk) | (with_reducible apply Tw.ite) | (with_reducible apply Tw.bind) | (with_reducible apply Tw.cut) | (with_reducible apply Tw.loop) | (with_reducible apply Tw.gif) | (intro _) | split)
def si_last_c (s : T_embed_stack_int_) : Option Int :=
  chk (inR .i64 ((lenL s.fl) - 1)) <|
  chk (0 ≤ ((lenL s.fl) - 1) ∧ ((lenL s.fl) - 1) < (lenL s.fl)) <|
  some (getL 0 s.fl ((lenL s.fl) - 1))
theorem si_last_le (s : T_embed_stack_int_)  : Tw (si_last_c s) (si_last s) := by
  unfold si_last si_last_c
  try simp only [ssubS_eq]
  repeat' (first | (with_reducible exact Tw.refl _) | (with_reducible apply Tw.chk) | (with_reducible apply Tw.ite) | (with_reducible apply Tw.bind) | (with_reducible apply Tw.cut) | (with_reducible apply Tw.loop) | (with_reducible apply Tw.gif) | (intro _) | split)
def si_pop_c (s : T_embed_stack_int_) : Option (T_embed_stack_int_) :=
  chk (inR .i64 ((lenL s.fl) - 1)) <|
  chk ((0 : Int) ≤ 0 ∧ (0 : Int) ≤ ((lenL s.fl) - 1) ∧ ((lenL s.fl) - 1) ≤ (lenL s.fl)) <|
  some (T_embed_stack_int_.mk (subL s.fl (0 + 0) ((0 + 0) + (((lenL s.fl) - 1) - 0))))
theorem si_pop_le (s : T_embed_stack_int_)  : Tw (si_pop_c s) (si_pop s) := by
  unfold si_pop si_pop_c
  try simp only [ssubS_eq]
  repeat' (first | (with_reducible exact Tw.refl _) | (with_reducible apply Tw.chk) | (with_reducible apply Tw.ite) | (with_reducible apply Tw.bind) | (with_reducible apply Tw.cut) | (with_reducible apply Tw.loop) | (with_reducible apply Tw.gif) | (intro _) | split)
def embed_known_c (l' : (List Int)) : Option (List Int) :=
  chk (makeOk 8 (lenL l') (lenL l')) <|
  cutO (loopF (fun ((v, out1) : Int × List Int) =>
        iteO (decide (v < (lenL l')))
          (chk (0 ≤ v ∧ v < (lenL l')) <|
           let c' := (getL 0 l' v)
           iteO (if (decide (c' < 1)) = true then true else (decide (23 < c')))
             (chk (0 ≤ v ∧ v < (lenL l')) <|
              chk (inR .i64 (v + 1)) <|
              some (.go ((v + 1), (setL out1 v 14))))
             (chk (0 ≤ v ∧ v < (lenL l')) <|
              chk (inR .i64 (v + 1)) <|
              some (.go ((v + 1), (setL out1 v c')))))
          (some (.out (.go out1)))) (0, (repL (lenL l') 0))) fun out =>
  some out
theorem embed_known_le (l' : (List Int))  : Tw (embed_known_c l') (embed_known l') := by
  unfold embed_known embed_known_c
  try simp only [ssubS_eq]
  repeat' (first | (with_reducible exact Tw.refl _) | (with_reducible apply Tw.chk) | (with_reducible apply Tw.ite) | (with_reducible apply Tw.bind) | (with_reducible apply Tw.cut) | (with_reducible apply Tw.loop) | (with_reducible apply Tw.gif) | (intro _) | split)
def embed_parity_c (base : Int) : Option Int :=
  chk ((2 : Int) ≠ 0) <|
  some (Int.tmod (imaxI base 0) 2)
theorem embed_parity_le (base : Int)  : Tw (embed_parity_c base) (embed_parity base) := by
  unfold embed_parity embed_parity_c
  try simp only [ssubS_eq]
  repeat' (first | (with_reducible exact Tw.refl _) | (with_reducible apply Tw.chk) | (with_reducible apply Tw.ite) | (with_reducible apply Tw.bind) | (with_reducible apply Tw.cut) | (with_reducible apply Tw.loop) | (with_reducible apply Tw.gif) | (intro _) | split)
def ss_push_c (s : T_embed_status_) (x' : T_embed_status) : Option (T_embed_status_) :=
  chk (growOk 24 ((lenL s.fl) + 1)) <|
  some (T_embed_status_.mk (s.fl ++ ([x'] : List T_embed_status)))
theorem ss_push_le (s : T_embed_status_) (x' : T_embed_status)  : Tw (ss_push_c s x') (ss_push s x') := by
  unfold ss_push ss_push_c
  try simp only [ssubS_eq]
  repeat' (first | (with_reducible exact Tw.refl _) | (with_reducible apply Tw.chk) | (with_reducible apply Tw.ite) | (with_reducible apply Tw.bind) | (with_reducible apply Tw.cut) | (with_reducible apply Tw.loop) | (with_reducible apply Tw.gif) | (intro _) | split)
def ss_last_c (s : T_embed_status_) : Option T_embed_status :=
  chk (inR .i64 ((lenL s.fl) - 1)) <|
  chk (0 ≤ ((lenL s.fl) - 1) ∧ ((lenL s.fl) - 1) < (lenL s.fl)) <|
  some (getL d_embed_status s.fl ((lenL s.fl) - 1))
theorem ss_last_le (s : T_embed_status_)  : Tw (ss_last_c s) (ss_last s) := by
  unfold ss_last ss_last_c
  try simp only [ssubS_eq]
  repeat' (first | (with_reducible exact Tw.refl _) | (with_reducible apply Tw.chk) | (with_reducible apply Tw.ite) | (with_reducible apply Tw.bind) | (with_reducible apply Tw.cut) | (with_reducible apply Tw.loop) | (with_reducible apply Tw.gif) | (intro _) | split)
def ss_pop_c (s : T_embed_status_) : Option (T_embed_status_) :=
  chk (inR .i64 ((lenL s.fl) - 1)) <|
  chk ((0 : Int) ≤ 0 ∧ (0 : Int) ≤ ((lenL s.fl) - 1) ∧ ((lenL s.fl) - 1) ≤ (lenL s.fl)) <|
  some (T_embed_status_.mk (subL s.fl (0 + 0) ((0 + 0) + (((lenL s.fl) - 1) - 0))))
theorem ss_pop_le (s : T_embed_status_)  : Tw (ss_pop_c s) (ss_pop s) := by
  unfold ss_pop ss_pop_c
  try simp only [ssubS_eq]
  repeat' (first | (with_reducible exact Tw.refl _) | (with_reducible apply Tw.chk) | (with_reducible apply Tw.ite) | (with_reducible apply Tw.bind) | (with_reducible apply Tw.cut) | (with_reducible apply Tw.loop) | (with_reducible apply Tw.gif) | (intro _) | split)
def ss_size_c (s : T_embed_status_) : Option Int :=
  some (lenL s.fl)
theorem ss_size_le (s : T_embed_status_)  : Tw (ss_size_c s) (ss_size s) := by
  unfold ss_size ss_size_c
  try simp only [ssubS_eq]
  repeat' (first | (with_reducible exact Tw.refl _) | (with_reducible apply Tw.chk) | (with_reducible apply Tw.ite) | (with_reducible apply Tw.bind) | (with_reducible apply Tw.cut) | (with_reducible apply Tw.loop) | (with_reducible apply Tw.gif) | (intro _) | split)
def embed_isolate_c (c' : Int) : Option Bool :=
  some (if (if (c' == 20) = true then true else (c' == 21)) = true then true else (c' == 22))
theorem embed_isolate_le (c' : Int)  : Tw (embed_isolate_c c') (embed_isolate c') := by
  unfold embed_isolate embed_isolate_c
  try simp only [ssubS_eq]
  repeat' (first | (with_reducible exact Tw.refl _) | (with_reducible apply Tw.chk) | (with_reducible apply Tw.ite) | (with_reducible apply Tw.bind) | (with_reducible apply Tw.cut) | (with_reducible apply Tw.loop) | (with_reducible apply Tw.gif) | (intro _) | split)
def embed_side_c (level : Int) : Option Int :=
  iteO ((bndI .i64 level 1) == 1)
    (some 2)
    (some 1)
theorem embed_side_le (level : Int)  : Tw (embed_side_c level) (embed_side level) := by
  unfold embed_side embed_side_c
  try simp only [ssubS_eq]
  repeat' (first | (with_reducible exact Tw.refl _) | (with_reducible apply Tw.chk) | (with_reducible apply Tw.ite) | (with_reducible apply Tw.bind) | (with_reducible apply Tw.cut) | (with_reducible apply Tw.loop) | (with_reducible apply Tw.gif) | (intro _) | split)
def embed_base__c (l' : (List Int)) (match' : (List Int)) (from' : Int) (to : Int) : Option Int :=
  cutO (loopF (fun (i : Int) =>
        iteO (decide (i < to))
          (cutO (chk (0 ≤ i ∧ i < (lenL l')) <|
             cutO (iteO ((getL 0 l' i) == 1)
                 (some (.go ((getL 0 l' i) == 1)))
                 (some (.go ((getL 0 l' i) == 11)))) fun v =>
             iteO v
               (some (.out (.out (.out 0))))
               (cutO (iteO ((getL 0 l' i) == 2)
                    (some (.go ((getL 0 l' i) == 2)))
                    (some (.go ((getL 0 l' i) == 3)))) fun v1 =>
                iteO v1
                  (some (.out (.out (.out 1))))
                  (iteO ((getL 0 l' i) == 20)
                     (iteO ((getL 0 l' i) == 20)
                        (chk (0 ≤ i ∧ i < (lenL match')) <|
                         let i3 := (getL 0 match' i)
                         some (.go i3))
                        (some (.go i)))
                     (iteO ((getL 0 l' i) == 21)
                        (iteO ((getL 0 l' i) == 21)
                           (chk (0 ≤ i ∧ i < (lenL match')) <|
                            let i4 := (getL 0 match' i)
                            some (.go i4))
                           (some (.go i)))
                        (iteO ((getL 0 l' i) == 22)
                           (chk (0 ≤ i ∧ i < (lenL match')) <|
                            let i5 := (getL 0 match' i)
                            some (.go i5))
                           (some (.go i))))))) fun i1 =>
           chk (inR .i64 (i1 + 1)) <|
           let i2 := (i1 + 1)
           some (.go i2))
          (some (.out (.go ())))) from') fun (_ : Unit) =>
  some 0
theorem embed_base__le (l' : (List Int)) (match' : (List Int)) (from' : Int) (to : Int)  : Tw (embed_base__c l' match' from' to) (embed_base_ l' match' from' to) := by
  unfold embed_base_ embed_base__c
  try simp only [ssubS_eq]
  repeat' (first | (with_reducible exact Tw.refl _) | (with_reducible apply Tw.chk) | (with_reducible apply Tw.ite) | (with_reducible apply Tw.bind) | (with_reducible apply Tw.cut) | (with_reducible apply Tw.loop) | (with_reducible apply Tw.gif) | (intro _) | split)
def embed_Match_c (l' : (List Int)) : Option (List Int) :=
  chk (makeOk 8 (lenL l') (lenL l')) <|
  cutO (loopF (fun ((v, out1, o) : Int × List Int × List Int) =>
        iteO (decide (v < (lenL l')))
          (cutO (chk (0 ≤ v ∧ v < (lenL l')) <|
             let c' := (getL 0 l' v)
             chk (0 ≤ v ∧ v < (lenL l')) <|
             cutO (iteO (c' == 20)
                 (some (.go (c' == 20)))
                 (iteO (c' == 21)
                    (some (.go (c' == 21)))
                    (some (.go (c' == 22))))) fun v1 =>
             iteO v1
               (chk (0 ≤ v ∧ v < (lenL l')) <|
                bindO (si_push_c (T_embed_stack_int_.mk o) v) fun v2 =>
                some (.go ((setL (setL out1 v (-1)) v (lenL l')), v2.fl)))
               (iteO (c' == 23)
                  (bindO (si_size_c (T_embed_stack_int_.mk o)) fun v3 =>
                   iteO (decide (0 < v3))
                     (bindO (si_last_c (T_embed_stack_int_.mk o)) fun v4 =>
                      chk (0 ≤ v ∧ v < (lenL l')) <|
                      bindO (si_last_c (T_embed_stack_int_.mk o)) fun v5 =>
                      chk (0 ≤ v5 ∧ v5 < (lenL l')) <|
                      bindO (si_pop_c (T_embed_stack_int_.mk o)) fun v6 =>
                      some (.go ((setL (setL (setL out1 v (-1)) v v4) v5 v), v6.fl)))
                     (some (.go ((setL out1 v (-1)), o))))
                  (iteO (c' == 11)
                     (some (.go ((setL out1 v (-1)), ([] : List Int))))
                     (some (.go ((setL out1 v (-1)), o)))))) fun (out2, o1) =>
           chk (inR .i64 (v + 1)) <|
           some (.go ((v + 1), out2, o1)))
          (some (.out (.go out1)))) (0, (repL (lenL l') 0), ([] : List Int))) fun out =>
  some out
theorem embed_Match_le (l' : (List Int))  : Tw (embed_Match_c l') (embed_Match l') := by
  unfold embed_Match embed_Match_c
  try simp only [ssubS_eq]
  repeat' (first | (with_reducible exact Tw.refl _) | (with_reducible apply Tw.chk) | (with_reducible apply Tw.ite) | (with_reducible apply Tw.bind) | (with_reducible apply Tw.cut) | (with_reducible apply Tw.loop) | (with_reducible apply Tw.gif) | (with_reducible apply si_push_le) | (with_reducible apply si_size_le) | (with_reducible apply si_last_le) | (with_reducible apply si_pop_le) | (intro _) | split)
def embed_Base_c (l' : (List Int)) : Option Int :=
  bindO (embed_Match_c l') fun v =>
  bindO (embed_base__c l' v 0 (lenL l')) fun v1 =>
  some v1
theorem embed_Base_le (l' : (List Int))  : Tw (embed_Base_c l') (embed_Base l') := by
  unfold embed_Base embed_Base_c
  try simp only [ssubS_eq]
  repeat' (first | (with_reducible exact Tw.refl _) | (with_reducible apply Tw.chk) | (with_reducible apply Tw.ite) | (with_reducible apply Tw.bind) | (with_reducible apply Tw.cut) | (with_reducible apply Tw.loop) | (with_reducible apply Tw.gif) | (with_reducible apply embed_base__le) | (with_reducible apply embed_Match_le) | (intro _) | split)
def embed_fits_c (l' : (List Int)) (r' : T_embed_Run) : Option Bool :=
  some (if (if ((lenL r'.fLevels) == (lenL l')) = true then ((lenL r'.fClasses) == (lenL l')) else false) = true then ((lenL r'.fRemoved) == (lenL l')) else false)
theorem embed_fits_le (l' : (List Int)) (r' : T_embed_Run)  : Tw (embed_fits_c l' r') (embed_fits l' r') := by
  unfold embed_fits embed_fits_c
  try simp only [ssubS_eq]
  repeat' (first | (with_reducible exact Tw.refl _) | (with_reducible apply Tw.chk) | (with_reducible apply Tw.ite) | (with_reducible apply Tw.bind) | (with_reducible apply Tw.cut) | (with_reducible apply Tw.loop) | (with_reducible apply Tw.gif) | (intro _) | split)
def m_next_c (m : T_embed_machine) (odd : Bool) : Option (Int × Bool) :=
  bindO (ss_last_c m.fopen) fun v =>
  chk (inR .i64 (v.flevel + 1)) <|
  let level := (v.flevel + 1)
  chk ((2 : Int) ≠ 0) <|
  iteO (!(((Int.tmod level 2) == 1) == odd))
    (chk (inR .i64 (level + 1)) <|
     let level1 := (level + 1)
     some (level1, (if (if (decide (level1 ≤ 125)) = true then (m.fisolates == 0) else false) = true then (m.fembeddings == 0) else false)))
    (some (level, (if (if (decide (level ≤ 125)) = true then (m.fisolates == 0) else false) = true then (m.fembeddings == 0) else false)))
theorem m_next_le (m : T_embed_machine) (odd : Bool)  : Tw (m_next_c m odd) (m_next m odd) := by
  unfold m_next m_next_c
  try simp only [ssubS_eq]
  repeat' (first | (with_reducible exact Tw.refl _) | (with_reducible apply Tw.chk) | (with_reducible apply Tw.ite) | (with_reducible apply Tw.bind) | (with_reducible apply Tw.cut) | (with_reducible apply Tw.loop) | (with_reducible apply Tw.gif) | (with_reducible apply ss_last_le) | (intro _) | split)
def m_take_c (m : T_embed_machine) (i : Int) : Option (T_embed_machine) :=
  bindO (ss_last_c m.fopen) fun v =>
  chk (0 ≤ i ∧ i < (lenL m.frun.fLevels)) <|
  iteO (!(v.foverride == 14))
    (chk (0 ≤ i ∧ i < (lenL m.frun.fClasses)) <|
     some (T_embed_machine.mk m.fl m.fmatch m.fbase (T_embed_Run.mk (setL m.frun.fLevels i v.flevel) (setL m.frun.fClasses i v.foverride) m.frun.fRemoved) m.fopen m.fisolates m.fembeddings m.fvalid))
    (some (T_embed_machine.mk m.fl m.fmatch m.fbase (T_embed_Run.mk (setL m.frun.fLevels i v.flevel) m.frun.fClasses m.frun.fRemoved) m.fopen m.fisolates m.fembeddings m.fvalid))
theorem m_take_le (m : T_embed_machine) (i : Int)  : Tw (m_take_c m i) (m_take m i) := by
  unfold m_take m_take_c
  try simp only [ssubS_eq]
  repeat' (first | (with_reducible exact Tw.refl _) | (with_reducible apply Tw.chk) | (with_reducible apply Tw.ite) | (with_reducible apply Tw.bind) | (with_reducible apply Tw.cut) | (with_reducible apply Tw.loop) | (with_reducible apply Tw.gif) | (with_reducible apply ss_last_le) | (intro _) | split)
def m_remove_c (m : T_embed_machine) (i : Int) : Option (T_embed_machine) :=
  bindO (ss_last_c m.fopen) fun v =>
  chk (0 ≤ i ∧ i < (lenL m.frun.fLevels)) <|
  chk (0 ≤ i ∧ i < (lenL m.frun.fRemoved)) <|
  some (T_embed_machine.mk m.fl m.fmatch m.fbase (T_embed_Run.mk (setL m.frun.fLevels i v.flevel) m.frun.fClasses (setL m.frun.fRemoved i true)) m.fopen m.fisolates m.fembeddings m.fvalid)
theorem m_remove_le (m : T_embed_machine) (i : Int)  : Tw (m_remove_c m i) (m_remove m i) := by
  unfold m_remove m_remove_c
  try simp only [ssubS_eq]
  repeat' (first | (with_reducible exact Tw.refl _) | (with_reducible apply Tw.chk) | (with_reducible apply Tw.ite) | (with_reducible apply Tw.bind) | (with_reducible apply Tw.cut) | (with_reducible apply Tw.loop) | (with_reducible apply Tw.gif) | (with_reducible apply ss_last_le) | (intro _) | split)
def m_embed_c (m : T_embed_machine) (i : Int) (c' : Int) : Option (T_embed_machine) :=
  bindO (m_remove_c m i) fun v =>
  bindO (m_next_c v (if (c' == 17) = true then true else (c' == 18))) fun v1 =>
  let level := v1.1
  let may := v1.2
  iteO (!may)
    (iteO (v.fisolates == 0)
       (chk (inR .i64 (v.fembeddings + 1)) <|
        some (T_embed_machine.mk v.fl v.fmatch v.fbase v.frun v.fopen v.fisolates (v.fembeddings + 1) v.fvalid))
       (some v))
    (cutO (iteO (c' == 18)
         (some (.go 2))
         (iteO (c' == 16)
            (some (.go 1))
            (some (.go 14)))) fun override =>
     bindO (ss_push_c v.fopen (T_embed_status.mk level override false)) fun v2 =>
     some (T_embed_machine.mk v.fl v.fmatch v.fbase v.frun v2 v.fisolates v.fembeddings v.fvalid))
theorem m_embed_le (m : T_embed_machine) (i : Int) (c' : Int)  : Tw (m_embed_c m i c') (m_embed m i c') := by
  unfold m_embed m_embed_c
  try simp only [ssubS_eq]
  repeat' (first | (with_reducible exact Tw.refl _) | (with_reducible apply Tw.chk) | (with_reducible apply Tw.ite) | (with_reducible apply Tw.bind) | (with_reducible apply Tw.cut) | (with_reducible apply Tw.loop) | (with_reducible apply Tw.gif) | (with_reducible apply ss_push_le) | (with_reducible apply m_next_le) | (with_reducible apply m_remove_le) | (intro _) | split)
def m_isolate_c (m : T_embed_machine) (i : Int) (c' : Int) : Option (T_embed_machine) :=
  let odd := (c' == 21)
  cutO (iteO (c' == 22)
      (chk (inR .i64 (i + 1)) <|
       chk (0 ≤ i ∧ i < (lenL m.fmatch)) <|
       bindO (embed_base__c m.fl m.fmatch (i + 1) (getL 0 m.fmatch i)) fun v3 =>
       let odd2 := (v3 == 1)
       some (.go odd2))
      (some (.go odd))) fun odd1 =>
  bindO (m_take_c m i) fun v =>
  bindO (m_next_c v odd1) fun v1 =>
  let level := v1.1
  let may := v1.2
  iteO (!may)
    (chk (inR .i64 (v.fisolates + 1)) <|
     some (T_embed_machine.mk v.fl v.fmatch v.fbase v.frun v.fopen (v.fisolates + 1) v.fembeddings v.fvalid))
    (chk (inR .i64 (v.fvalid + 1)) <|
     bindO (ss_push_c v.fopen (T_embed_status.mk level 14 true)) fun v2 =>
     some (T_embed_machine.mk v.fl v.fmatch v.fbase v.frun v2 v.fisolates v.fembeddings (v.fvalid + 1)))
theorem m_isolate_le (m : T_embed_machine) (i : Int) (c' : Int)  : Tw (m_isolate_c m i c') (m_isolate m i c') := by
  unfold m_isolate m_isolate_c
  try simp only [ssubS_eq]
  repeat' (first | (with_reducible exact Tw.refl _) | (with_reducible apply Tw.chk) | (with_reducible apply Tw.ite) | (with_reducible apply Tw.bind) | (with_reducible apply Tw.cut) | (with_reducible apply Tw.loop) | (with_reducible apply Tw.gif) | (with_reducible apply ss_push_le) | (with_reducible apply embed_base__le) | (with_reducible apply m_next_le) | (with_reducible apply m_take_le) | (intro _) | split)
def m_endIsolate_c (m : T_embed_machine) : Option (T_embed_machine) :=
  iteO (decide (0 < m.fisolates))
    (chk (inR .i64 (m.fisolates - 1)) <|
     some (T_embed_machine.mk m.fl m.fmatch m.fbase m.frun m.fopen (m.fisolates - 1) m.fembeddings m.fvalid))
    (iteO (m.fvalid == 0)
       (some m)
       (cutO (loopF (fun (o1 : List T_embed_status) =>
              bindO (ss_last_c (T_embed_status_.mk o1)) fun v1 =>
              iteO (!v1.fisolate)
                (bindO (ss_pop_c (T_embed_status_.mk o1)) fun v2 =>
                 some (.go v2.fl))
                (some (.out (.go o1)))) m.fopen.fl) fun o =>
        bindO (ss_pop_c (T_embed_status_.mk o)) fun v =>
        chk (inR .i64 (m.fvalid - 1)) <|
        some (T_embed_machine.mk m.fl m.fmatch m.fbase m.frun v m.fisolates 0 (m.fvalid - 1))))
theorem m_endIsolate_le (m : T_embed_machine)  : Tw (m_endIsolate_c m) (m_endIsolate m) := by
  unfold m_endIsolate m_endIsolate_c
  try simp only [ssubS_eq]
  repeat' (first | (with_reducible exact Tw.refl _) | (with_reducible apply Tw.chk) | (with_reducible apply Tw.ite) | (with_reducible apply Tw.bind) | (with_reducible apply Tw.cut) | (with_reducible apply Tw.loop) | (with_reducible apply Tw.gif) | (with_reducible apply ss_last_le) | (with_reducible apply ss_pop_le) | (intro _) | split)
def m_endEmbedding_c (m : T_embed_machine) : Option (T_embed_machine) :=
  iteO (decide (0 < m.fisolates))
    (some m)
    (iteO (decide (0 < m.fembeddings))
       (chk (inR .i64 (m.fembeddings - 1)) <|
        some (T_embed_machine.mk m.fl m.fmatch m.fbase m.frun m.fopen m.fisolates (m.fembeddings - 1) m.fvalid))
       (bindO (ss_last_c m.fopen) fun v =>
        bindO (if (!v.fisolate) = true then ss_size_c m.fopen else some 0) fun v1 =>
        iteO (if (!v.fisolate) = true then (decide (2 ≤ v1)) else false)
          (bindO (ss_pop_c m.fopen) fun v2 =>
           some (T_embed_machine.mk m.fl m.fmatch m.fbase m.frun v2 m.fisolates m.fembeddings m.fvalid))
          (some m)))
theorem m_endEmbedding_le (m : T_embed_machine)  : Tw (m_endEmbedding_c m) (m_endEmbedding m) := by
  unfold m_endEmbedding m_endEmbedding_c
  try simp only [ssubS_eq]
  repeat' (first | (with_reducible exact Tw.refl _) | (with_reducible apply Tw.chk) | (with_reducible apply Tw.ite) | (with_reducible apply Tw.bind) | (with_reducible apply Tw.cut) | (with_reducible apply Tw.loop) | (with_reducible apply Tw.gif) | (with_reducible apply ss_last_le) | (with_reducible apply ss_pop_le) | (with_reducible apply ss_size_le) | (intro _) | split)
def embed_Explicit_c (l' : (List Int)) (base : Int) : Option T_embed_Run :=
  cutO (bindO (embed_known_c l') fun v12 =>
    bindO (embed_Match_c v12) fun v13 =>
    bindO (embed_parity_c base) fun v14 =>
    chk (makeOk 8 (lenL v12) (lenL v12)) <|
    chk (growOk 8 (lenL v12)) <|
    chk (makeOk 1 (lenL v12) (lenL v12)) <|
    some (.go (v12, v12, v13, v14, (repL (lenL v12) 0), v12, (repL (lenL v12) false), ([] : List T_embed_status)))) fun (l'1, b5_0, b5_1, b5_2, o, o1, o2, o3) =>
  bindO (ss_push_c (T_embed_status_.mk o3) (T_embed_status.mk b5_2 14 false)) fun v =>
  cutO (loopF (fun ((v1, b5_02, b5_12, b5_22, b5_71, b5_81, b5_91, o8, o9, o10, o11) : Int × List Int × List Int × Int × Int × Int × Int × List Int × List Int × List Bool × List T_embed_status) =>
        iteO (decide (v1 < (lenL l'1)))
          (cutO (chk (0 ≤ v1 ∧ v1 < (lenL l'1)) <|
             let c' := (getL 0 l'1 v1)
             cutO (iteO (c' == 17)
                 (some (.go (c' == 17)))
                 (iteO (c' == 15)
                    (some (.go (c' == 15)))
                    (iteO (c' == 18)
                       (some (.go (c' == 18)))
                       (some (.go (c' == 16)))))) fun v2 =>
             iteO v2
               (bindO (m_embed_c (T_embed_machine.mk b5_02 b5_12 b5_22 (T_embed_Run.mk o8 o9 o10) (T_embed_status_.mk o11) b5_71 b5_81 b5_91) v1 c') fun v3 =>
                some (.go (v3.fl, v3.fmatch, v3.fbase, v3.fisolates, v3.fembeddings, v3.fvalid, v3.frun.fLevels, v3.frun.fClasses, v3.frun.fRemoved, v3.fopen.fl)))
               (cutO (iteO (c' == 21)
                    (some (.go (c' == 21)))
                    (iteO (c' == 20)
                       (some (.go (c' == 20)))
                       (some (.go (c' == 22))))) fun v4 =>
                iteO v4
                  (bindO (m_isolate_c (T_embed_machine.mk b5_02 b5_12 b5_22 (T_embed_Run.mk o8 o9 o10) (T_embed_status_.mk o11) b5_71 b5_81 b5_91) v1 c') fun v5 =>
                   some (.go (v5.fl, v5.fmatch, v5.fbase, v5.fisolates, v5.fembeddings, v5.fvalid, v5.frun.fLevels, v5.frun.fClasses, v5.frun.fRemoved, v5.fopen.fl)))
                  (iteO (c' == 23)
                     (bindO (m_endIsolate_c (T_embed_machine.mk b5_02 b5_12 b5_22 (T_embed_Run.mk o8 o9 o10) (T_embed_status_.mk o11) b5_71 b5_81 b5_91)) fun v6 =>
                      bindO (m_take_c v6 v1) fun v7 =>
                      some (.go (v7.fl, v7.fmatch, v7.fbase, v7.fisolates, v7.fembeddings, v7.fvalid, v7.frun.fLevels, v7.frun.fClasses, v7.frun.fRemoved, v7.fopen.fl)))
                     (iteO (c' == 19)
                        (bindO (m_remove_c (T_embed_machine.mk b5_02 b5_12 b5_22 (T_embed_Run.mk o8 o9 o10) (T_embed_status_.mk o11) b5_71 b5_81 b5_91) v1) fun v8 =>
                         bindO (m_endEmbedding_c v8) fun v9 =>
                         some (.go (v9.fl, v9.fmatch, v9.fbase, v9.fisolates, v9.fembeddings, v9.fvalid, v9.frun.fLevels, v9.frun.fClasses, v9.frun.fRemoved, v9.fopen.fl)))
                        (iteO (c' == 11)
                           (chk (0 ≤ v1 ∧ v1 < (lenL o8)) <|
                            some (.go (b5_02, b5_12, b5_22, b5_71, b5_81, b5_91, (setL o8 v1 b5_22), o9, o10, o11)))
                           (iteO (c' == 10)
                              (bindO (m_remove_c (T_embed_machine.mk b5_02 b5_12 b5_22 (T_embed_Run.mk o8 o9 o10) (T_embed_status_.mk o11) b5_71 b5_81 b5_91) v1) fun v10 =>
                               some (.go (v10.fl, v10.fmatch, v10.fbase, v10.fisolates, v10.fembeddings, v10.fvalid, v10.frun.fLevels, v10.frun.fClasses, v10.frun.fRemoved, v10.fopen.fl)))
                              (bindO (m_take_c (T_embed_machine.mk b5_02 b5_12 b5_22 (T_embed_Run.mk o8 o9 o10) (T_embed_status_.mk o11) b5_71 b5_81 b5_91) v1) fun v11 =>
                               some (.go (v11.fl, v11.fmatch, v11.fbase, v11.fisolates, v11.fembeddings, v11.fvalid, v11.frun.fLevels, v11.frun.fClasses, v11.frun.fRemoved, v11.fopen.fl))))))))) fun (b5_03, b5_13, b5_23, b5_72, b5_82, b5_92, o12, o13, o14, o15) =>
           chk (inR .i64 (v1 + 1)) <|
           some (.go ((v1 + 1), b5_03, b5_13, b5_23, b5_72, b5_82, b5_92, o12, o13, o14, o15)))
          (some (.out (.go (b5_02, b5_12, b5_22, b5_71, b5_81, b5_91, o8, o9, o10, o11))))) (0, b5_0, b5_1, b5_2, 0, 0, 0, o, o1, o2, v.fl)) fun (b5_01, b5_11, b5_21, b5_7, b5_8, b5_9, o4, o5, o6, o7) =>
  some (T_embed_Run.mk o4 o5 o6)
theorem embed_Explicit_le (l' : (List Int)) (base : Int)  : Tw (embed_Explicit_c l' base) (embed_Explicit l' base) := by
  unfold embed_Explicit embed_Explicit_c
  try simp only [ssubS_eq]
  repeat' (first | (with_reducible exact Tw.refl _) | (with_reducible apply Tw.chk) | (with_reducible apply Tw.ite) | (with_reducible apply Tw.bind) | (with_reducible apply Tw.cut) | (with_reducible apply Tw.loop) | (with_reducible apply Tw.gif) | (with_reducible apply embed_known_le) | (with_reducible apply embed_parity_le) | (with_reducible apply ss_push_le) | (with_reducible apply embed_Match_le) | (with_reducible apply m_take_le) | (with_reducible apply m_remove_le) | (with_reducible apply m_embed_le) | (with_reducible apply m_isolate_le) | (with_reducible apply m_endIsolate_le) | (with_reducible apply m_endEmbedding_le) | (intro _) | split)
def lapwingref03_Ints_c (a : (List Int)) (b : (List Int)) : Option Bool :=
  iteO (!((lenL a) == (lenL b)))
    (some false)
    (cutO (loopF (fun (i : Int) =>
           iteO (decide (i < (lenL a)))
             (chk (0 ≤ i ∧ i < (lenL a)) <|
              chk (0 ≤ i ∧ i < (lenL b)) <|
              iteO (!((getL 0 a i) == (getL 0 b i)))
                (some (.out (.out false)))
                (chk (inR .i64 (i + 1)) <|
                 let i1 := (i + 1)
                 some (.go i1)))
             (some (.out (.go ())))) 0) fun (_ : Unit) =>
     some true)
theorem lapwingref03_Ints_le (a : (List Int)) (b : (List Int))  : Tw (lapwingref03_Ints_c a b) (lapwingref03_Ints a b) := by
  unfold lapwingref03_Ints lapwingref03_Ints_c
  try simp only [ssubS_eq]
  repeat' (first | (with_reducible exact Tw.refl _) | (with_reducible apply Tw.chk) | (with_reducible apply Tw.ite) | (with_reducible apply Tw.bind) | (with_reducible apply Tw.cut) | (with_reducible apply Tw.loop) | (with_reducible apply Tw.gif) | (intro _) | split)
def lapwinglaw17_awake_c  : Option Bool :=
  bindO (embed_Explicit_c ([1, 17, 2, 19, 1] : List Int) 0) fun v =>
  bindO (lapwingref03_Ints_c v.fLevels ([0, 0, 1, 1, 0] : List Int)) fun v1 =>
  chk ((if v1 = true then ((lenL v.fRemoved) == 5) else false) = true → (0 : Int) ≤ 1 ∧ (1 : Int) < (lenL v.fRemoved)) <|
  chk ((if (if v1 = true then ((lenL v.fRemoved) == 5) else false) = true then (getL false v.fRemoved 1) else false) = true → (0 : Int) ≤ 2 ∧ (2 : Int) < (lenL v.fRemoved)) <|
  bindO (if (if (if (if v1 = true then ((lenL v.fRemoved) == 5) else false) = true then (getL false v.fRemoved 1) else false) = true then (!(getL false v.fRemoved 2)) else false) = true then embed_Base_c ([14, 3] : List Int) else some 0) fun v2 =>
  some (if (if (if (if v1 = true then ((lenL v.fRemoved) == 5) else false) = true then (getL false v.fRemoved 1) else false) = true then (!(getL false v.fRemoved 2)) else false) = true then (v2 == 1) else false)
theorem lapwinglaw17_awake_le : Tw (lapwinglaw17_awake_c ) (lapwinglaw17_awake ) := by
  unfold lapwinglaw17_awake lapwinglaw17_awake_c
  try simp only [ssubS_eq]
  repeat' (first | (with_reducible exact Tw.refl _) | (with_reducible apply Tw.chk) | (with_reducible apply Tw.ite) | (with_reducible apply Tw.bind) | (with_reducible apply Tw.cut) | (with_reducible apply Tw.loop) | (with_reducible apply Tw.gif) | (with_reducible apply embed_Base_le) | (with_reducible apply embed_Explicit_le) | (with_reducible apply lapwingref03_Ints_le) | (intro _) | split)
end Go.Vx
