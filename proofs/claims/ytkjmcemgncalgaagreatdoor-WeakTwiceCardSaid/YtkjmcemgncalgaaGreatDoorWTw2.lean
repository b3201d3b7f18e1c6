/- Twins of lifted functions, by program (twin.py). -/
import Derived.Test.YtkjmcemgncalgaaGreatDoorWU
import Derived.Test.YtkjmcemgncalgaaGreatDoorWS
set_option linter.all false
namespace Go.Vx
set_option linter.all false
def ranges_Get_c (t' : T_ranges_Table) (r' : Int) : Option Int :=
 cutO (loopF (fun (v : Int) =>
  iteO (decide (v < (lenL t'.fL)))
   (chk (0 ≤ v ∧ v < (lenL t'.fL)) <|
    iteO (if (decide ((getL d_ranges_Row t'.fL v).fLo ≤ r')) = true then (decide (r' ≤ (getL d_ranges_Row t'.fL v).fHi)) else false)
     (some (.out (.out (getL d_ranges_Row t'.fL v).fV)))
     (chk (inR .i64 (v + 1)) <|
      some (.go (v + 1))))
   (some (.out (.go ())))) 0) fun (_ : Unit) =>
 some 0
theorem ranges_Get_le (t' : T_ranges_Table) (r' : Int)  : Tw (ranges_Get_c t' r') (ranges_Get t' r') := by
 unfold ranges_Get ranges_Get_c
 with_reducible repeat' (first | exact Tw.refl _ | apply Tw.chk | apply Tw.ite | apply Tw.bind | apply Tw.cut | apply Tw.loop | apply Tw.gif | intro _ | split)
def ucd_Bracket_c (d' : T_ucd_Data) (r' : Int) : Option (Int × Int) :=
 cutO (loopF (fun (v : Int) =>
  iteO (decide (v < (lenL d'.fBrackets)))
   (chk (0 ≤ v ∧ v < (lenL d'.fBrackets)) <|
    iteO (r' == (getL d_ucd_Pair d'.fBrackets v).fA)
     (some (.out (.out ((getL d_ucd_Pair d'.fBrackets v).fB, 1))))
     (iteO (r' == (getL d_ucd_Pair d'.fBrackets v).fB)
      (some (.out (.out ((getL d_ucd_Pair d'.fBrackets v).fA, 2))))
      (chk (inR .i64 (v + 1)) <|
       some (.go (v + 1)))))
   (some (.out (.go ())))) 0) fun (_ : Unit) =>
 some (0, 0)
theorem ucd_Bracket_le (d' : T_ucd_Data) (r' : Int)  : Tw (ucd_Bracket_c d' r') (ucd_Bracket d' r') := by
 unfold ucd_Bracket ucd_Bracket_c
 with_reducible repeat' (first | exact Tw.refl _ | apply Tw.chk | apply Tw.ite | apply Tw.bind | apply Tw.cut | apply Tw.loop | apply Tw.gif | intro _ | split)
def ucd_Class_c (d' : T_ucd_Data) (r' : Int) : Option Int :=
 bindO (ranges_Get_c d'.fClass r') fun v =>
 iteO (decide (0 < v))
  (some v)
  (some 1)
theorem ucd_Class_le (d' : T_ucd_Data) (r' : Int)  : Tw (ucd_Class_c d' r') (ucd_Class d' r') := by
 unfold ucd_Class ucd_Class_c
 with_reducible repeat' (first | exact Tw.refl _ | apply Tw.chk | apply Tw.ite | apply Tw.bind | apply Tw.cut | apply Tw.loop | apply Tw.gif | apply ranges_Get_le | intro _ | split)
def si_push_c (s : T_embed_stack_int_) (x' : Int) : Option (T_embed_stack_int_) :=
 chk (growOk 8 ((lenL s.fl) + 1)) <|
 some (T_embed_stack_int_.mk (s.fl ++ ([x'] : List Int)))
theorem si_push_le (s : T_embed_stack_int_) (x' : Int)  : Tw (si_push_c s x') (si_push s x') := by
 unfold si_push si_push_c
 with_reducible repeat' (first | exact Tw.refl _ | apply Tw.chk | apply Tw.ite | apply Tw.bind | apply Tw.cut | apply Tw.loop | apply Tw.gif | intro _ | split)
def si_size_c (s : T_embed_stack_int_) : Option Int :=
 some (lenL s.fl)
theorem si_size_le (s : T_embed_stack_int_)  : Tw (si_size_c s) (si_size s) := by
 unfold si_size si_size_c
 with_reducible repeat' (first | exact Tw.refl _ | apply Tw.chk | apply Tw.ite | apply Tw.bind | apply Tw.cut | apply Tw.loop | apply Tw.gif | intro _ | split)
def si_last_c (s : T_embed_stack_int_) : Option Int :=
 chk (inR .i64 ((lenL s.fl) - 1)) <|
 chk (0 ≤ ((lenL s.fl) - 1) ∧ ((lenL s.fl) - 1) < (lenL s.fl)) <|
 some (getL 0 s.fl ((lenL s.fl) - 1))
theorem si_last_le (s : T_embed_stack_int_)  : Tw (si_last_c s) (si_last s) := by
 unfold si_last si_last_c
 with_reducible repeat' (first | exact Tw.refl _ | apply Tw.chk | apply Tw.ite | apply Tw.bind | apply Tw.cut | apply Tw.loop | apply Tw.gif | intro _ | split)
def si_pop_c (s : T_embed_stack_int_) : Option (T_embed_stack_int_) :=
 chk (inR .i64 ((lenL s.fl) - 1)) <|
 chk ((0 : Int) ≤ 0 ∧ (0 : Int) ≤ ((lenL s.fl) - 1) ∧ ((lenL s.fl) - 1) ≤ (lenL s.fl)) <|
 some (T_embed_stack_int_.mk (subL s.fl (0 + 0) ((0 + 0) + (((lenL s.fl) - 1) - 0))))
theorem si_pop_le (s : T_embed_stack_int_)  : Tw (si_pop_c s) (si_pop s) := by
 unfold si_pop si_pop_c
 with_reducible repeat' (first | exact Tw.refl _ | apply Tw.chk | apply Tw.ite | apply Tw.bind | apply Tw.cut | apply Tw.loop | apply Tw.gif | intro _ | split)
def embed_known_c (l' : (List Int)) : Option (List Int) :=
 chk (makeOk 8 (lenL l') (lenL l')) <|
 cutO (loopF (fun ((v, out1) : Int × List Int) =>
  iteO (decide (v < (lenL l')))
   (chk (0 ≤ v ∧ v < (lenL l')) <|
    let c' := (getL 0 l' v)
    iteO (if (decide (c' < 1)) = true then true else (decide (23 < c')))
     (chk (0 ≤ v ∧ v < (lenL l')) <|
      chk (inR .i64 (v + 1)) <|
      some (.go ((v + 1), (setL out1 v 14))))
     (chk (0 ≤ v ∧ v < (lenL l')) <|
      chk (inR .i64 (v + 1)) <|
      some (.go ((v + 1), (setL out1 v c')))))
   (some (.out (.go out1)))) (0, (repL (lenL l') 0))) fun out =>
 some out
theorem embed_known_le (l' : (List Int))  : Tw (embed_known_c l') (embed_known l') := by
 unfold embed_known embed_known_c
 with_reducible repeat' (first | exact Tw.refl _ | apply Tw.chk | apply Tw.ite | apply Tw.bind | apply Tw.cut | apply Tw.loop | apply Tw.gif | intro _ | split)
def embed_parity_c (base : Int) : Option Int :=
 chk ((2 : Int) ≠ 0) <|
 some (Int.tmod (imaxI base 0) 2)
theorem embed_parity_le (base : Int)  : Tw (embed_parity_c base) (embed_parity base) := by
 unfold embed_parity embed_parity_c
 with_reducible repeat' (first | exact Tw.refl _ | apply Tw.chk | apply Tw.ite | apply Tw.bind | apply Tw.cut | apply Tw.loop | apply Tw.gif | intro _ | split)
def ss_push_c (s : T_embed_status_) (x' : T_embed_status) : Option (T_embed_status_) :=
 chk (growOk 24 ((lenL s.fl) + 1)) <|
 some (T_embed_status_.mk (s.fl ++ ([x'] : List T_embed_status)))
theorem ss_push_le (s : T_embed_status_) (x' : T_embed_status)  : Tw (ss_push_c s x') (ss_push s x') := by
 unfold ss_push ss_push_c
 with_reducible repeat' (first | exact Tw.refl _ | apply Tw.chk | apply Tw.ite | apply Tw.bind | apply Tw.cut | apply Tw.loop | apply Tw.gif | intro _ | split)
def ss_last_c (s : T_embed_status_) : Option T_embed_status :=
 chk (inR .i64 ((lenL s.fl) - 1)) <|
 chk (0 ≤ ((lenL s.fl) - 1) ∧ ((lenL s.fl) - 1) < (lenL s.fl)) <|
 some (getL d_embed_status s.fl ((lenL s.fl) - 1))
theorem ss_last_le (s : T_embed_status_)  : Tw (ss_last_c s) (ss_last s) := by
 unfold ss_last ss_last_c
 with_reducible repeat' (first | exact Tw.refl _ | apply Tw.chk | apply Tw.ite | apply Tw.bind | apply Tw.cut | apply Tw.loop | apply Tw.gif | intro _ | split)
def ss_pop_c (s : T_embed_status_) : Option (T_embed_status_) :=
 chk (inR .i64 ((lenL s.fl) - 1)) <|
 chk ((0 : Int) ≤ 0 ∧ (0 : Int) ≤ ((lenL s.fl) - 1) ∧ ((lenL s.fl) - 1) ≤ (lenL s.fl)) <|
 some (T_embed_status_.mk (subL s.fl (0 + 0) ((0 + 0) + (((lenL s.fl) - 1) - 0))))
theorem ss_pop_le (s : T_embed_status_)  : Tw (ss_pop_c s) (ss_pop s) := by
 unfold ss_pop ss_pop_c
 with_reducible repeat' (first | exact Tw.refl _ | apply Tw.chk | apply Tw.ite | apply Tw.bind | apply Tw.cut | apply Tw.loop | apply Tw.gif | intro _ | split)
def ss_size_c (s : T_embed_status_) : Option Int :=
 some (lenL s.fl)
theorem ss_size_le (s : T_embed_status_)  : Tw (ss_size_c s) (ss_size s) := by
 unfold ss_size ss_size_c
 with_reducible repeat' (first | exact Tw.refl _ | apply Tw.chk | apply Tw.ite | apply Tw.bind | apply Tw.cut | apply Tw.loop | apply Tw.gif | intro _ | split)
def embed_isolate_c (c' : Int) : Option Bool :=
 some (if (if (c' == 20) = true then true else (c' == 21)) = true then true else (c' == 22))
theorem embed_isolate_le (c' : Int)  : Tw (embed_isolate_c c') (embed_isolate c') := by
 unfold embed_isolate embed_isolate_c
 with_reducible repeat' (first | exact Tw.refl _ | apply Tw.chk | apply Tw.ite | apply Tw.bind | apply Tw.cut | apply Tw.loop | apply Tw.gif | intro _ | split)
def embed_side_c (level : Int) : Option Int :=
 iteO ((bndI .i64 level 1) == 1)
  (some 2)
  (some 1)
theorem embed_side_le (level : Int)  : Tw (embed_side_c level) (embed_side level) := by
 unfold embed_side embed_side_c
 with_reducible repeat' (first | exact Tw.refl _ | apply Tw.chk | apply Tw.ite | apply Tw.bind | apply Tw.cut | apply Tw.loop | apply Tw.gif | intro _ | split)
def embed_base__c (l' : (List Int)) (match' : (List Int)) (from' : Int) (to : Int) : Option Int :=
 cutO (loopF (fun (i : Int) =>
  iteO (decide (i < to))
   (cutO (chk (0 ≤ i ∧ i < (lenL l')) <|
     cutO (iteO ((getL 0 l' i) == 1)
      (some (.go ((getL 0 l' i) == 1)))
      (some (.go ((getL 0 l' i) == 11)))) fun v =>
     iteO v
      (some (.out (.out (.out 0))))
      (cutO (iteO ((getL 0 l' i) == 2)
        (some (.go ((getL 0 l' i) == 2)))
        (some (.go ((getL 0 l' i) == 3)))) fun v1 =>
       iteO v1
        (some (.out (.out (.out 1))))
        (iteO ((getL 0 l' i) == 20)
         (iteO ((getL 0 l' i) == 20)
          (chk (0 ≤ i ∧ i < (lenL match')) <|
           let i3 := (getL 0 match' i)
           some (.go i3))
          (some (.go i)))
         (iteO ((getL 0 l' i) == 21)
          (iteO ((getL 0 l' i) == 21)
           (chk (0 ≤ i ∧ i < (lenL match')) <|
            let i4 := (getL 0 match' i)
            some (.go i4))
           (some (.go i)))
          (iteO ((getL 0 l' i) == 22)
           (chk (0 ≤ i ∧ i < (lenL match')) <|
            let i5 := (getL 0 match' i)
            some (.go i5))
           (some (.go i))))))) fun i1 =>
    chk (inR .i64 (i1 + 1)) <|
    let i2 := (i1 + 1)
    some (.go i2))
   (some (.out (.go ())))) from') fun (_ : Unit) =>
 some 0
theorem embed_base__le (l' : (List Int)) (match' : (List Int)) (from' : Int) (to : Int)  : Tw (embed_base__c l' match' from' to) (embed_base_ l' match' from' to) := by
 unfold embed_base_ embed_base__c
 with_reducible repeat' (first | exact Tw.refl _ | apply Tw.chk | apply Tw.ite | apply Tw.bind | apply Tw.cut | apply Tw.loop | apply Tw.gif | intro _ | split)
def embed_Match_c (l' : (List Int)) : Option (List Int) :=
 chk (makeOk 8 (lenL l') (lenL l')) <|
 cutO (loopF (fun ((v, out1, o) : Int × List Int × List Int) =>
  iteO (decide (v < (lenL l')))
   (cutO (chk (0 ≤ v ∧ v < (lenL l')) <|
     let c' := (getL 0 l' v)
     chk (0 ≤ v ∧ v < (lenL l')) <|
     cutO (iteO (c' == 20)
      (some (.go (c' == 20)))
      (iteO (c' == 21)
       (some (.go (c' == 21)))
       (some (.go (c' == 22))))) fun v1 =>
     iteO v1
      (chk (0 ≤ v ∧ v < (lenL l')) <|
       bindO (si_push_c (T_embed_stack_int_.mk o) v) fun v2 =>
       some (.go ((setL (setL out1 v (-1)) v (lenL l')), v2.fl)))
      (iteO (c' == 23)
       (bindO (si_size_c (T_embed_stack_int_.mk o)) fun v3 =>
        iteO (decide (0 < v3))
         (bindO (si_last_c (T_embed_stack_int_.mk o)) fun v4 =>
          chk (0 ≤ v ∧ v < (lenL l')) <|
          bindO (si_last_c (T_embed_stack_int_.mk o)) fun v5 =>
          chk (0 ≤ v5 ∧ v5 < (lenL l')) <|
          bindO (si_pop_c (T_embed_stack_int_.mk o)) fun v6 =>
          some (.go ((setL (setL (setL out1 v (-1)) v v4) v5 v), v6.fl)))
         (some (.go ((setL out1 v (-1)), o))))
       (iteO (c' == 11)
        (some (.go ((setL out1 v (-1)), ([] : List Int))))
        (some (.go ((setL out1 v (-1)), o)))))) fun (out2, o1) =>
    chk (inR .i64 (v + 1)) <|
    some (.go ((v + 1), out2, o1)))
   (some (.out (.go out1)))) (0, (repL (lenL l') 0), ([] : List Int))) fun out =>
 some out
theorem embed_Match_le (l' : (List Int))  : Tw (embed_Match_c l') (embed_Match l') := by
 unfold embed_Match embed_Match_c
 with_reducible repeat' (first | exact Tw.refl _ | apply Tw.chk | apply Tw.ite | apply Tw.bind | apply Tw.cut | apply Tw.loop | apply Tw.gif | apply si_push_le | apply si_size_le | apply si_last_le | apply si_pop_le | intro _ | split)
def embed_Base_c (l' : (List Int)) : Option Int :=
 bindO (embed_Match_c l') fun v =>
 bindO (embed_base__c l' v 0 (lenL l')) fun v1 =>
 some v1
theorem embed_Base_le (l' : (List Int))  : Tw (embed_Base_c l') (embed_Base l') := by
 unfold embed_Base embed_Base_c
 with_reducible repeat' (first | exact Tw.refl _ | apply Tw.chk | apply Tw.ite | apply Tw.bind | apply Tw.cut | apply Tw.loop | apply Tw.gif | apply embed_base__le | apply embed_Match_le | intro _ | split)
def embed_fits_c (l' : (List Int)) (r' : T_embed_Run) : Option Bool :=
 some (if (if ((lenL r'.fLevels) == (lenL l')) = true then ((lenL r'.fClasses) == (lenL l')) else false) = true then ((lenL r'.fRemoved) == (lenL l')) else false)
theorem embed_fits_le (l' : (List Int)) (r' : T_embed_Run)  : Tw (embed_fits_c l' r') (embed_fits l' r') := by
 unfold embed_fits embed_fits_c
 with_reducible repeat' (first | exact Tw.refl _ | apply Tw.chk | apply Tw.ite | apply Tw.bind | apply Tw.cut | apply Tw.loop | apply Tw.gif | intro _ | split)
def m_next_c (m : T_embed_machine) (odd : Bool) : Option (Int × Bool) :=
 bindO (ss_last_c m.fopen) fun v =>
 chk (inR .i64 (v.flevel + 1)) <|
 let level := (v.flevel + 1)
 chk ((2 : Int) ≠ 0) <|
 iteO (!(((Int.tmod level 2) == 1) == odd))
  (chk (inR .i64 (level + 1)) <|
   let level1 := (level + 1)
   some (level1, (if (if (decide (level1 ≤ 125)) = true then (m.fisolates == 0) else false) = true then (m.fembeddings == 0) else false)))
  (some (level, (if (if (decide (level ≤ 125)) = true then (m.fisolates == 0) else false) = true then (m.fembeddings == 0) else false)))
theorem m_next_le (m : T_embed_machine) (odd : Bool)  : Tw (m_next_c m odd) (m_next m odd) := by
 unfold m_next m_next_c
 with_reducible repeat' (first | exact Tw.refl _ | apply Tw.chk | apply Tw.ite | apply Tw.bind | apply Tw.cut | apply Tw.loop | apply Tw.gif | apply ss_last_le | intro _ | split)
def m_take_c (m : T_embed_machine) (i : Int) : Option (T_embed_machine) :=
 bindO (ss_last_c m.fopen) fun v =>
 chk (0 ≤ i ∧ i < (lenL m.frun.fLevels)) <|
 iteO (!(v.foverride == 14))
  (chk (0 ≤ i ∧ i < (lenL m.frun.fClasses)) <|
   some (T_embed_machine.mk m.fl m.fmatch m.fbase (T_embed_Run.mk (setL m.frun.fLevels i v.flevel) (setL m.frun.fClasses i v.foverride) m.frun.fRemoved) m.fopen m.fisolates m.fembeddings m.fvalid))
  (some (T_embed_machine.mk m.fl m.fmatch m.fbase (T_embed_Run.mk (setL m.frun.fLevels i v.flevel) m.frun.fClasses m.frun.fRemoved) m.fopen m.fisolates m.fembeddings m.fvalid))
theorem m_take_le (m : T_embed_machine) (i : Int)  : Tw (m_take_c m i) (m_take m i) := by
 unfold m_take m_take_c
 with_reducible repeat' (first | exact Tw.refl _ | apply Tw.chk | apply Tw.ite | apply Tw.bind | apply Tw.cut | apply Tw.loop | apply Tw.gif | apply ss_last_le | intro _ | split)
def m_remove_c (m : T_embed_machine) (i : Int) : Option (T_embed_machine) :=
 bindO (ss_last_c m.fopen) fun v =>
 chk (0 ≤ i ∧ i < (lenL m.frun.fLevels)) <|
 chk (0 ≤ i ∧ i < (lenL m.frun.fRemoved)) <|
 some (T_embed_machine.mk m.fl m.fmatch m.fbase (T_embed_Run.mk (setL m.frun.fLevels i v.flevel) m.frun.fClasses (setL m.frun.fRemoved i true)) m.fopen m.fisolates m.fembeddings m.fvalid)
theorem m_remove_le (m : T_embed_machine) (i : Int)  : Tw (m_remove_c m i) (m_remove m i) := by
 unfold m_remove m_remove_c
 with_reducible repeat' (first | exact Tw.refl _ | apply Tw.chk | apply Tw.ite | apply Tw.bind | apply Tw.cut | apply Tw.loop | apply Tw.gif | apply ss_last_le | intro _ | split)
def m_embed_c (m : T_embed_machine) (i : Int) (c' : Int) : Option (T_embed_machine) :=
 bindO (m_remove_c m i) fun v =>
 bindO (m_next_c v (if (c' == 17) = true then true else (c' == 18))) fun v1 =>
 let level := v1.1
 let may := v1.2
 iteO (!may)
  (iteO (v.fisolates == 0)
   (chk (inR .i64 (v.fembeddings + 1)) <|
    some (T_embed_machine.mk v.fl v.fmatch v.fbase v.frun v.fopen v.fisolates (v.fembeddings + 1) v.fvalid))
   (some v))
  (cutO (iteO (c' == 18)
    (some (.go 2))
    (iteO (c' == 16)
     (some (.go 1))
     (some (.go 14)))) fun override =>
   bindO (ss_push_c v.fopen (T_embed_status.mk level override false)) fun v2 =>
   some (T_embed_machine.mk v.fl v.fmatch v.fbase v.frun v2 v.fisolates v.fembeddings v.fvalid))
theorem m_embed_le (m : T_embed_machine) (i : Int) (c' : Int)  : Tw (m_embed_c m i c') (m_embed m i c') := by
 unfold m_embed m_embed_c
 with_reducible repeat' (first | exact Tw.refl _ | apply Tw.chk | apply Tw.ite | apply Tw.bind | apply Tw.cut | apply Tw.loop | apply Tw.gif | apply ss_push_le | apply m_next_le | apply m_remove_le | intro _ | split)
def m_isolate_c (m : T_embed_machine) (i : Int) (c' : Int) : Option (T_embed_machine) :=
 let odd := (c' == 21)
 cutO (iteO (c' == 22)
  (chk (inR .i64 (i + 1)) <|
   chk (0 ≤ i ∧ i < (lenL m.fmatch)) <|
   bindO (embed_base__c m.fl m.fmatch (i + 1) (getL 0 m.fmatch i)) fun v3 =>
   let odd2 := (v3 == 1)
   some (.go odd2))
  (some (.go odd))) fun odd1 =>
 bindO (m_take_c m i) fun v =>
 bindO (m_next_c v odd1) fun v1 =>
 let level := v1.1
 let may := v1.2
 iteO (!may)
  (chk (inR .i64 (v.fisolates + 1)) <|
   some (T_embed_machine.mk v.fl v.fmatch v.fbase v.frun v.fopen (v.fisolates + 1) v.fembeddings v.fvalid))
  (chk (inR .i64 (v.fvalid + 1)) <|
   bindO (ss_push_c v.fopen (T_embed_status.mk level 14 true)) fun v2 =>
   some (T_embed_machine.mk v.fl v.fmatch v.fbase v.frun v2 v.fisolates v.fembeddings (v.fvalid + 1)))
theorem m_isolate_le (m : T_embed_machine) (i : Int) (c' : Int)  : Tw (m_isolate_c m i c') (m_isolate m i c') := by
 unfold m_isolate m_isolate_c
 with_reducible repeat' (first | exact Tw.refl _ | apply Tw.chk | apply Tw.ite | apply Tw.bind | apply Tw.cut | apply Tw.loop | apply Tw.gif | apply ss_push_le | apply embed_base__le | apply m_next_le | apply m_take_le | intro _ | split)
def m_endIsolate_c (m : T_embed_machine) : Option (T_embed_machine) :=
 iteO (decide (0 < m.fisolates))
  (chk (inR .i64 (m.fisolates - 1)) <|
   some (T_embed_machine.mk m.fl m.fmatch m.fbase m.frun m.fopen (m.fisolates - 1) m.fembeddings m.fvalid))
  (iteO (m.fvalid == 0)
   (some m)
   (cutO (loopF (fun (o1 : List T_embed_status) =>
     bindO (ss_last_c (T_embed_status_.mk o1)) fun v1 =>
     iteO (!v1.fisolate)
      (bindO (ss_pop_c (T_embed_status_.mk o1)) fun v2 =>
       some (.go v2.fl))
      (some (.out (.go o1)))) m.fopen.fl) fun o =>
    bindO (ss_pop_c (T_embed_status_.mk o)) fun v =>
    chk (inR .i64 (m.fvalid - 1)) <|
    some (T_embed_machine.mk m.fl m.fmatch m.fbase m.frun v m.fisolates 0 (m.fvalid - 1))))
theorem m_endIsolate_le (m : T_embed_machine)  : Tw (m_endIsolate_c m) (m_endIsolate m) := by
 unfold m_endIsolate m_endIsolate_c
 with_reducible repeat' (first | exact Tw.refl _ | apply Tw.chk | apply Tw.ite | apply Tw.bind | apply Tw.cut | apply Tw.loop | apply Tw.gif | apply ss_last_le | apply ss_pop_le | intro _ | split)
def m_endEmbedding_c (m : T_embed_machine) : Option (T_embed_machine) :=
 iteO (decide (0 < m.fisolates))
  (some m)
  (iteO (decide (0 < m.fembeddings))
   (chk (inR .i64 (m.fembeddings - 1)) <|
    some (T_embed_machine.mk m.fl m.fmatch m.fbase m.frun m.fopen m.fisolates (m.fembeddings - 1) m.fvalid))
   (bindO (ss_last_c m.fopen) fun v =>
    bindO (if (!v.fisolate) = true then ss_size_c m.fopen else some 0) fun v1 =>
    iteO (if (!v.fisolate) = true then (decide (2 ≤ v1)) else false)
     (bindO (ss_pop_c m.fopen) fun v2 =>
      some (T_embed_machine.mk m.fl m.fmatch m.fbase m.frun v2 m.fisolates m.fembeddings m.fvalid))
     (some m)))
theorem m_endEmbedding_le (m : T_embed_machine)  : Tw (m_endEmbedding_c m) (m_endEmbedding m) := by
 unfold m_endEmbedding m_endEmbedding_c
 with_reducible repeat' (first | exact Tw.refl _ | apply Tw.chk | apply Tw.ite | apply Tw.bind | apply Tw.cut | apply Tw.loop | apply Tw.gif | apply ss_last_le | apply ss_pop_le | apply ss_size_le | intro _ | split)
def embed_Explicit_c (l' : (List Int)) (base : Int) : Option T_embed_Run :=
 cutO (bindO (embed_known_c l') fun v12 =>
  bindO (embed_Match_c v12) fun v13 =>
  bindO (embed_parity_c base) fun v14 =>
  chk (makeOk 8 (lenL v12) (lenL v12)) <|
  chk (growOk 8 (lenL v12)) <|
  chk (makeOk 1 (lenL v12) (lenL v12)) <|
  some (.go (v12, v12, v13, v14, (repL (lenL v12) 0), v12, (repL (lenL v12) false), ([] : List T_embed_status)))) fun (l'1, b5_0, b5_1, b5_2, o, o1, o2, o3) =>
 bindO (ss_push_c (T_embed_status_.mk o3) (T_embed_status.mk b5_2 14 false)) fun v =>
 cutO (loopF (fun ((v1, b5_02, b5_12, b5_22, b5_71, b5_81, b5_91, o8, o9, o10, o11) : Int × List Int × List Int × Int × Int × Int × Int × List Int × List Int × List Bool × List T_embed_status) =>
  iteO (decide (v1 < (lenL l'1)))
   (cutO (chk (0 ≤ v1 ∧ v1 < (lenL l'1)) <|
     let c' := (getL 0 l'1 v1)
     cutO (iteO (c' == 17)
      (some (.go (c' == 17)))
      (iteO (c' == 15)
       (some (.go (c' == 15)))
       (iteO (c' == 18)
        (some (.go (c' == 18)))
        (some (.go (c' == 16)))))) fun v2 =>
     iteO v2
      (bindO (m_embed_c (T_embed_machine.mk b5_02 b5_12 b5_22 (T_embed_Run.mk o8 o9 o10) (T_embed_status_.mk o11) b5_71 b5_81 b5_91) v1 c') fun v3 =>
       some (.go (v3.fl, v3.fmatch, v3.fbase, v3.fisolates, v3.fembeddings, v3.fvalid, v3.frun.fLevels, v3.frun.fClasses, v3.frun.fRemoved, v3.fopen.fl)))
      (cutO (iteO (c' == 21)
        (some (.go (c' == 21)))
        (iteO (c' == 20)
         (some (.go (c' == 20)))
         (some (.go (c' == 22))))) fun v4 =>
       iteO v4
        (bindO (m_isolate_c (T_embed_machine.mk b5_02 b5_12 b5_22 (T_embed_Run.mk o8 o9 o10) (T_embed_status_.mk o11) b5_71 b5_81 b5_91) v1 c') fun v5 =>
         some (.go (v5.fl, v5.fmatch, v5.fbase, v5.fisolates, v5.fembeddings, v5.fvalid, v5.frun.fLevels, v5.frun.fClasses, v5.frun.fRemoved, v5.fopen.fl)))
        (iteO (c' == 23)
         (bindO (m_endIsolate_c (T_embed_machine.mk b5_02 b5_12 b5_22 (T_embed_Run.mk o8 o9 o10) (T_embed_status_.mk o11) b5_71 b5_81 b5_91)) fun v6 =>
          bindO (m_take_c v6 v1) fun v7 =>
          some (.go (v7.fl, v7.fmatch, v7.fbase, v7.fisolates, v7.fembeddings, v7.fvalid, v7.frun.fLevels, v7.frun.fClasses, v7.frun.fRemoved, v7.fopen.fl)))
         (iteO (c' == 19)
          (bindO (m_remove_c (T_embed_machine.mk b5_02 b5_12 b5_22 (T_embed_Run.mk o8 o9 o10) (T_embed_status_.mk o11) b5_71 b5_81 b5_91) v1) fun v8 =>
           bindO (m_endEmbedding_c v8) fun v9 =>
           some (.go (v9.fl, v9.fmatch, v9.fbase, v9.fisolates, v9.fembeddings, v9.fvalid, v9.frun.fLevels, v9.frun.fClasses, v9.frun.fRemoved, v9.fopen.fl)))
          (iteO (c' == 11)
           (chk (0 ≤ v1 ∧ v1 < (lenL o8)) <|
            some (.go (b5_02, b5_12, b5_22, b5_71, b5_81, b5_91, (setL o8 v1 b5_22), o9, o10, o11)))
           (iteO (c' == 10)
            (bindO (m_remove_c (T_embed_machine.mk b5_02 b5_12 b5_22 (T_embed_Run.mk o8 o9 o10) (T_embed_status_.mk o11) b5_71 b5_81 b5_91) v1) fun v10 =>
             some (.go (v10.fl, v10.fmatch, v10.fbase, v10.fisolates, v10.fembeddings, v10.fvalid, v10.frun.fLevels, v10.frun.fClasses, v10.frun.fRemoved, v10.fopen.fl)))
            (bindO (m_take_c (T_embed_machine.mk b5_02 b5_12 b5_22 (T_embed_Run.mk o8 o9 o10) (T_embed_status_.mk o11) b5_71 b5_81 b5_91) v1) fun v11 =>
             some (.go (v11.fl, v11.fmatch, v11.fbase, v11.fisolates, v11.fembeddings, v11.fvalid, v11.frun.fLevels, v11.frun.fClasses, v11.frun.fRemoved, v11.fopen.fl))))))))) fun (b5_03, b5_13, b5_23, b5_72, b5_82, b5_92, o12, o13, o14, o15) =>
    chk (inR .i64 (v1 + 1)) <|
    some (.go ((v1 + 1), b5_03, b5_13, b5_23, b5_72, b5_82, b5_92, o12, o13, o14, o15)))
   (some (.out (.go (b5_02, b5_12, b5_22, b5_71, b5_81, b5_91, o8, o9, o10, o11))))) (0, b5_0, b5_1, b5_2, 0, 0, 0, o, o1, o2, v.fl)) fun (b5_01, b5_11, b5_21, b5_7, b5_8, b5_9, o4, o5, o6, o7) =>
 some (T_embed_Run.mk o4 o5 o6)
theorem embed_Explicit_le (l' : (List Int)) (base : Int)  : Tw (embed_Explicit_c l' base) (embed_Explicit l' base) := by
 unfold embed_Explicit embed_Explicit_c
 with_reducible repeat' (first | exact Tw.refl _ | apply Tw.chk | apply Tw.ite | apply Tw.bind | apply Tw.cut | apply Tw.loop | apply Tw.gif | apply embed_known_le | apply embed_parity_le | apply ss_push_le | apply embed_Match_le | apply m_take_le | apply m_remove_le | apply m_embed_le | apply m_isolate_le | apply m_endIsolate_le | apply m_endEmbedding_le | intro _ | split)
def embed_runs_c (r' : T_embed_Run) : Option (List (List Int)) :=
 cutO (loopF (fun ((v, out1) : Int × List (List Int)) =>
  iteO (decide (v < (lenL r'.fRemoved)))
   (chk (0 ≤ v ∧ v < (lenL r'.fRemoved)) <|
    let gone := (getL false r'.fRemoved v)
    iteO gone
     (chk (inR .i64 (v + 1)) <|
      some (.go ((v + 1), out1)))
     (let n := (lenL out1)
      chk ((!(n == 0)) = true → inR .i64 (n - 1)) <|
      chk ((!(n == 0)) = true → 0 ≤ (n - 1) ∧ (n - 1) < (lenL out1)) <|
      chk ((!(n == 0)) = true → (0 : Int) ≤ 0 ∧ (0 : Int) < (lenL (getL [] out1 ((lenL out1) - 1)))) <|
      chk ((!(n == 0)) = true → 0 ≤ (getL 0 (getL [] out1 ((lenL out1) - 1)) (0 + 0)) ∧ (getL 0 (getL [] out1 ((lenL out1) - 1)) (0 + 0)) < (lenL r'.fLevels)) <|
      chk ((!(n == 0)) = true → 0 ≤ v ∧ v < (lenL r'.fLevels)) <|
      iteO (if (n == 0) = true then true else (!((getL 0 r'.fLevels (getL 0 (getL [] out1 ((lenL out1) - 1)) (0 + 0))) == (getL 0 r'.fLevels v))))
       (chk (growOk 24 ((lenL out1) + 1)) <|
        chk (inR .i64 (v + 1)) <|
        some (.go ((v + 1), (out1 ++ ([([v] : List Int)] : List (List Int))))))
       (chk (inR .i64 (n - 1)) <|
        chk (inR .i64 (n - 1)) <|
        chk (0 ≤ (n - 1) ∧ (n - 1) < (lenL out1)) <|
        chk (growOk 8 ((lenL (getL [] out1 ((lenL out1) - 1))) + 1)) <|
        chk (0 ≤ (n - 1) ∧ (n - 1) < (lenL out1)) <|
        chk (inR .i64 (v + 1)) <|
        some (.go ((v + 1), (setL out1 (n - 1) ((getL [] out1 ((lenL out1) - 1)) ++ ([v] : List Int))))))))
   (some (.out (.go out1)))) (0, ([] : List (List Int)))) fun out =>
 some out
theorem embed_runs_le (r' : T_embed_Run)  : Tw (embed_runs_c r') (embed_runs r') := by
 unfold embed_runs embed_runs_c
 with_reducible repeat' (first | exact Tw.refl _ | apply Tw.chk | apply Tw.ite | apply Tw.bind | apply Tw.cut | apply Tw.loop | apply Tw.gif | intro _ | split)
def embed_Sequences_c (l' : (List Int)) (r' : T_embed_Run) (base : Int) : Option (List (List Int)) :=
 bindO (embed_fits_c l' r') fun v =>
 iteO (!v)
  (some ([] : List (List Int)))
  (bindO (embed_Match_c l') fun v1 =>
   bindO (embed_runs_c r') fun v2 =>
   chk (inR .i64 ((lenL l') + 1)) <|
   chk (makeOk 8 ((lenL l') + 1) ((lenL l') + 1)) <|
   cutO (loopF (fun ((v7, heads3) : Int × List Int) =>
    iteO (decide (v7 < ((lenL l') + 1)))
     (chk (0 ≤ v7 ∧ v7 < ((lenL l') + 1)) <|
      chk (inR .i64 (v7 + 1)) <|
      some (.go ((v7 + 1), (setL heads3 v7 (-1)))))
     (some (.out (.go heads3)))) (0, (repL ((lenL l') + 1) 0))) fun heads =>
   cutO (loopF (fun ((v6, heads2) : Int × List Int) =>
    iteO (decide (v6 < (lenL v2)))
     (chk (0 ≤ v6 ∧ v6 < (lenL v2)) <|
      chk ((0 : Int) ≤ 0 ∧ (0 : Int) < (lenL (getL [] v2 (0 + v6)))) <|
      chk (0 ≤ (getL 0 (getL [] v2 (0 + v6)) 0) ∧ (getL 0 (getL [] v2 (0 + v6)) 0) < ((lenL l') + 1)) <|
      chk (inR .i64 (v6 + 1)) <|
      some (.go ((v6 + 1), (setL heads2 (getL 0 (getL [] v2 (0 + v6)) 0) v6))))
     (some (.out (.go heads2)))) (0, heads)) fun heads1 =>
   chk (makeOk 8 (lenL v2) (lenL v2)) <|
   chk (makeOk 1 (lenL v2) (lenL v2)) <|
   cutO (loopF (fun ((v4, behind1, joined1) : Int × List Int × List Bool) =>
    iteO (decide (v4 < (lenL v2)))
     (chk (0 ≤ v4 ∧ v4 < (lenL v2)) <|
      chk (0 ≤ v4 ∧ v4 < (lenL v2)) <|
      chk (inR .i64 ((lenL (getL [] v2 (0 + v4))) - 1)) <|
      chk (0 ≤ ((lenL (getL [] v2 (0 + v4))) - 1) ∧ ((lenL (getL [] v2 (0 + v4))) - 1) < (lenL (getL [] v2 (0 + v4)))) <|
      let end' := (getL 0 (getL [] v2 (0 + v4)) ((lenL (getL [] v2 (0 + v4))) - 1))
      chk (0 ≤ end' ∧ end' < (lenL l')) <|
      bindO (embed_isolate_c (getL 0 l' end')) fun v5 =>
      iteO (!v5)
       (chk (inR .i64 (v4 + 1)) <|
        some (.go ((v4 + 1), (setL behind1 v4 (-1)), joined1)))
       (chk (0 ≤ end' ∧ end' < (lenL v1)) <|
        chk (0 ≤ (getL 0 v1 (0 + end')) ∧ (getL 0 v1 (0 + end')) < ((lenL l') + 1)) <|
        let to := (getL 0 heads1 (0 + (getL 0 v1 (0 + end'))))
        iteO (decide (0 ≤ to))
         (chk (0 ≤ v4 ∧ v4 < (lenL v2)) <|
          chk (0 ≤ to ∧ to < (lenL v2)) <|
          chk (inR .i64 (v4 + 1)) <|
          some (.go ((v4 + 1), (setL (setL behind1 v4 (-1)) v4 to), (setL joined1 to true))))
         (chk (inR .i64 (v4 + 1)) <|
          some (.go ((v4 + 1), (setL behind1 v4 (-1)), joined1)))))
     (some (.out (.go (behind1, joined1))))) (0, (repL (lenL v2) 0), (repL (lenL v2) false))) fun (behind, joined) =>
   cutO (loopF (fun ((v3, out1) : Int × List (List Int)) =>
    iteO (decide (v3 < (lenL v2)))
     (cutO (chk (0 ≤ v3 ∧ v3 < (lenL v2)) <|
       iteO (getL false joined (0 + v3))
        (some (.go out1))
        (cutO (loopF (fun ((at', seq1) : Int × List Int) =>
          iteO (decide (0 ≤ at'))
           (chk (0 ≤ at' ∧ at' < (lenL v2)) <|
            chk (growOk 8 ((lenL seq1) + (lenL (getL [] v2 (0 + at'))))) <|
            chk (0 ≤ at' ∧ at' < (lenL v2)) <|
            let at'1 := (getL 0 behind (0 + at'))
            some (.go (at'1, (seq1 ++ (getL [] v2 (0 + at'))))))
           (some (.out (.go seq1)))) (v3, ([] : List Int))) fun seq =>
         chk (growOk 24 ((lenL out1) + 1)) <|
         some (.go (out1 ++ ([seq] : List (List Int)))))) fun out2 =>
      chk (inR .i64 (v3 + 1)) <|
      some (.go ((v3 + 1), out2)))
     (some (.out (.go out1)))) (0, ([] : List (List Int)))) fun out =>
   some out)
theorem embed_Sequences_le (l' : (List Int)) (r' : T_embed_Run) (base : Int)  : Tw (embed_Sequences_c l' r' base) (embed_Sequences l' r' base) := by
 unfold embed_Sequences embed_Sequences_c
 with_reducible repeat' (first | exact Tw.refl _ | apply Tw.chk | apply Tw.ite | apply Tw.bind | apply Tw.cut | apply Tw.loop | apply Tw.gif | apply embed_isolate_le | apply embed_Match_le | apply embed_fits_le | apply embed_runs_le | intro _ | split)
def embed_Edges_c (l' : (List Int)) (r' : T_embed_Run) (base : Int) (seq : (List Int)) : Option (Int × Int) :=
 bindO (embed_fits_c l' r') fun v =>
 iteO (if (!v) = true then true else ((lenL seq) == 0))
  (some (0, 0))
  (cutO (loopF (fun (v7 : Int) =>
    iteO (decide (v7 < (lenL seq)))
     (chk (0 ≤ v7 ∧ v7 < (lenL seq)) <|
      let at' := (getL 0 seq v7)
      iteO (if (decide (at' < 0)) = true then true else (decide ((lenL l') ≤ at')))
       (some (.out (.out (0, 0))))
       (chk (inR .i64 (v7 + 1)) <|
        some (.go (v7 + 1))))
     (some (.out (.go ())))) 0) fun (_ : Unit) =>
   chk ((0 : Int) ≤ 0 ∧ (0 : Int) < (lenL seq)) <|
   chk (inR .i64 ((lenL seq) - 1)) <|
   chk (0 ≤ ((lenL seq) - 1) ∧ ((lenL seq) - 1) < (lenL seq)) <|
   let first := (getL 0 seq 0)
   let last := (getL 0 seq ((lenL seq) - 1))
   bindO (embed_parity_c base) fun v1 =>
   bindO (embed_parity_c base) fun v2 =>
   cutO (chk (inR .i64 (first - 1)) <|
    let i3 := (first - 1)
    loopF (fun (i4 : Int) =>
     iteO (decide (0 ≤ i4))
      (chk (0 ≤ i4 ∧ i4 < (lenL r'.fRemoved)) <|
       iteO (!(getL false r'.fRemoved i4))
        (chk (0 ≤ i4 ∧ i4 < (lenL r'.fLevels)) <|
         let ahead1 := (getL 0 r'.fLevels i4)
         some (.out (.go ahead1)))
        (chk (inR .i64 (i4 - 1)) <|
         let i5 := (i4 - 1)
         some (.go i5)))
      (some (.out (.go v1)))) i3) fun ahead =>
   cutO (chk (0 ≤ last ∧ last < (lenL l')) <|
    bindO (embed_isolate_c (getL 0 l' last)) fun v5 =>
    bindO (if (!(!v5)) = true then embed_Match_c l' else some []) fun v6 =>
    chk ((!(!v5)) = true → 0 ≤ last ∧ last < (lenL v6)) <|
    iteO (if (!v5) = true then true else (decide ((getL 0 v6 last) < (lenL l'))))
     (chk (inR .i64 (last + 1)) <|
      let i := (last + 1)
      loopF (fun (i1 : Int) =>
       iteO (decide (i1 < (lenL l')))
        (chk (0 ≤ i1 ∧ i1 < (lenL r'.fRemoved)) <|
         iteO (!(getL false r'.fRemoved i1))
          (chk (0 ≤ i1 ∧ i1 < (lenL r'.fLevels)) <|
           let behind1 := (getL 0 r'.fLevels i1)
           some (.out (.go behind1)))
          (chk (inR .i64 (i1 + 1)) <|
           let i2 := (i1 + 1)
           some (.go i2)))
        (some (.out (.go v2)))) i)
     (some (.go v2))) fun behind =>
   chk (0 ≤ first ∧ first < (lenL r'.fLevels)) <|
   let level := (getL 0 r'.fLevels first)
   bindO (embed_side_c (imaxI level ahead)) fun v3 =>
   bindO (embed_side_c (imaxI level behind)) fun v4 =>
   some (v3, v4))
theorem embed_Edges_le (l' : (List Int)) (r' : T_embed_Run) (base : Int) (seq : (List Int))  : Tw (embed_Edges_c l' r' base seq) (embed_Edges l' r' base seq) := by
 unfold embed_Edges embed_Edges_c
 with_reducible repeat' (first | exact Tw.refl _ | apply Tw.chk | apply Tw.ite | apply Tw.bind | apply Tw.cut | apply Tw.loop | apply Tw.gif | apply embed_parity_le | apply embed_isolate_le | apply embed_side_le | apply embed_Match_le | apply embed_fits_le | intro _ | split)
def lapwingref03_Ints_c (a : (List Int)) (b : (List Int)) : Option Bool :=
 iteO (!((lenL a) == (lenL b)))
  (some false)
  (cutO (loopF (fun (i : Int) =>
    iteO (decide (i < (lenL a)))
     (chk (0 ≤ i ∧ i < (lenL a)) <|
      chk (0 ≤ i ∧ i < (lenL b)) <|
      iteO (!((getL 0 a i) == (getL 0 b i)))
       (some (.out (.out false)))
       (chk (inR .i64 (i + 1)) <|
        let i1 := (i + 1)
        some (.go i1)))
     (some (.out (.go ())))) 0) fun (_ : Unit) =>
   some true)
theorem lapwingref03_Ints_le (a : (List Int)) (b : (List Int))  : Tw (lapwingref03_Ints_c a b) (lapwingref03_Ints a b) := by
 unfold lapwingref03_Ints lapwingref03_Ints_c
 with_reducible repeat' (first | exact Tw.refl _ | apply Tw.chk | apply Tw.ite | apply Tw.bind | apply Tw.cut | apply Tw.loop | apply Tw.gif | intro _ | split)
def weak_neutral_c (c' : Int) : Option Bool :=
 cutO (cutO (iteO (c' == 11)
   (some (.go (c' == 11)))
   (iteO (c' == 12)
    (some (.go (c' == 12)))
    (iteO (c' == 13)
     (some (.go (c' == 13)))
     (iteO (c' == 14)
      (some (.go (c' == 14)))
      (iteO (c' == 20)
       (some (.go (c' == 20)))
       (iteO (c' == 21)
        (some (.go (c' == 21)))
        (iteO (c' == 22)
         (some (.go (c' == 22)))
         (some (.go (c' == 23)))))))))) fun v =>
  iteO v
   (some (.out true))
   (some (.go ()))) fun (_ : Unit) =>
 some false
theorem weak_neutral_le (c' : Int)  : Tw (weak_neutral_c c') (weak_neutral c') := by
 unfold weak_neutral weak_neutral_c
 with_reducible repeat' (first | exact Tw.refl _ | apply Tw.chk | apply Tw.ite | apply Tw.bind | apply Tw.cut | apply Tw.loop | apply Tw.gif | intro _ | split)
def weak_strong_c (c' : Int) : Option Int :=
 iteO (c' == 1)
  (some 1)
  (iteO (c' == 2)
   (iteO (c' == 2)
    (some 2)
    (some 0))
   (iteO (c' == 4)
    (iteO (c' == 4)
     (some 2)
     (some 0))
    (iteO (c' == 7)
     (some 2)
     (some 0))))
theorem weak_strong_le (c' : Int)  : Tw (weak_strong_c c') (weak_strong c') := by
 unfold weak_strong weak_strong_c
 with_reducible repeat' (first | exact Tw.refl _ | apply Tw.chk | apply Tw.ite | apply Tw.bind | apply Tw.cut | apply Tw.loop | apply Tw.gif | intro _ | split)
def weak_Implicit_c (c' : Int) (level : Int) : Option Int :=
 let odd := ((bndI .i64 level 1) == 1)
 iteO (if odd = true then (if (if (c' == 1) = true then true else (c' == 4)) = true then true else (c' == 7)) else false)
  (chk (inR .i64 (level + 1)) <|
   some (level + 1))
  (iteO (if (!odd) = true then (c' == 2) else false)
   (chk (inR .i64 (level + 1)) <|
    some (level + 1))
   (iteO (if (!odd) = true then (if (c' == 4) = true then true else (c' == 7)) else false)
    (chk (inR .i64 (level + 2)) <|
     some (level + 2))
    (some level)))
theorem weak_Implicit_le (c' : Int) (level : Int)  : Tw (weak_Implicit_c c' level) (weak_Implicit c' level) := by
 unfold weak_Implicit weak_Implicit_c
 with_reducible repeat' (first | exact Tw.refl _ | apply Tw.chk | apply Tw.ite | apply Tw.bind | apply Tw.cut | apply Tw.loop | apply Tw.gif | intro _ | split)
def weak_classes_c (d' : T_ucd_Data) (r' : (List Int)) : Option (List Int) :=
 chk (makeOk 8 (lenL r') (lenL r')) <|
 cutO (loopF (fun ((v, out1) : Int × List Int) =>
  iteO (decide (v < (lenL r')))
   (chk (0 ≤ v ∧ v < (lenL r')) <|
    let x' := (getL 0 r' v)
    bindO (ucd_Class_c d' x') fun v1 =>
    chk (0 ≤ v ∧ v < (lenL r')) <|
    chk (inR .i64 (v + 1)) <|
    some (.go ((v + 1), (setL out1 v v1))))
   (some (.out (.go out1)))) (0, (repL (lenL r') 0))) fun out =>
 some out
theorem weak_classes_le (d' : T_ucd_Data) (r' : (List Int))  : Tw (weak_classes_c d' r') (weak_classes d' r') := by
 unfold weak_classes weak_classes_c
 with_reducible repeat' (first | exact Tw.refl _ | apply Tw.chk | apply Tw.ite | apply Tw.bind | apply Tw.cut | apply Tw.loop | apply Tw.gif | apply ucd_Class_le | intro _ | split)
def weak_pick_c (l' : (List Int)) (seq : (List Int)) : Option (List Int) :=
 chk (makeOk 8 (lenL seq) (lenL seq)) <|
 cutO (loopF (fun ((v, out1) : Int × List Int) =>
  iteO (decide (v < (lenL seq)))
   (chk (0 ≤ v ∧ v < (lenL seq)) <|
    let at' := (getL 0 seq v)
    chk (0 ≤ at' ∧ at' < (lenL l')) <|
    chk (0 ≤ v ∧ v < (lenL seq)) <|
    chk (inR .i64 (v + 1)) <|
    some (.go ((v + 1), (setL out1 v (getL 0 l' at')))))
   (some (.out (.go out1)))) (0, (repL (lenL seq) 0))) fun out =>
 some out
theorem weak_pick_le (l' : (List Int)) (seq : (List Int))  : Tw (weak_pick_c l' seq) (weak_pick l' seq) := by
 unfold weak_pick weak_pick_c
 with_reducible repeat' (first | exact Tw.refl _ | apply Tw.chk | apply Tw.ite | apply Tw.bind | apply Tw.cut | apply Tw.loop | apply Tw.gif | intro _ | split)
def weak_text__at_c (t' : T_weak_text) (i : Int) : Option Int :=
 iteO (if (decide (i < 0)) = true then true else (decide ((lenL t'.fl) ≤ i)))
  (some 0)
  (chk (0 ≤ i ∧ i < (lenL t'.fl)) <|
   some (getL 0 t'.fl i))
theorem weak_text__at_le (t' : T_weak_text) (i : Int)  : Tw (weak_text__at_c t' i) (weak_text__at t' i) := by
 unfold weak_text__at weak_text__at_c
 with_reducible repeat' (first | exact Tw.refl _ | apply Tw.chk | apply Tw.ite | apply Tw.bind | apply Tw.cut | apply Tw.loop | apply Tw.gif | intro _ | split)
def w1_c (t' : T_weak_text) : Option (List Int) :=
 let ahead := t'.fsos
 loopF (fun ((ahead1, v, o) : Int × Int × List Int) =>
  iteO (decide (v < (lenL t'.fl)))
   (cutO (chk (0 ≤ v ∧ v < (lenL t'.fl)) <|
     let c' := (getL 0 o (0 + v))
     cutO (iteO (c' == 9)
      (chk (0 ≤ v ∧ v < (lenL t'.fl)) <|
       some (.go (setL o v ahead1)))
      (some (.go o))) fun o2 =>
     chk (0 ≤ v ∧ v < (lenL t'.fl)) <|
     let ahead3 := (getL 0 o2 (0 + v))
     iteO (ahead3 == 20)
      (iteO (ahead3 == 20)
       (some (.go (14, o2)))
       (some (.go (ahead3, o2))))
      (iteO (ahead3 == 21)
       (iteO (ahead3 == 21)
        (some (.go (14, o2)))
        (some (.go (ahead3, o2))))
       (iteO (ahead3 == 22)
        (iteO (ahead3 == 22)
         (some (.go (14, o2)))
         (some (.go (ahead3, o2))))
        (iteO (ahead3 == 23)
         (some (.go (14, o2)))
         (some (.go (ahead3, o2))))))) fun (ahead2, o1) =>
    chk (inR .i64 (v + 1)) <|
    some (.go (ahead2, (v + 1), o1)))
   (some (.out o))) (ahead, 0, t'.fl)
theorem w1_le (t' : T_weak_text)  : Tw (w1_c t') (w1 t') := by
 unfold w1 w1_c
 with_reducible repeat' (first | exact Tw.refl _ | apply Tw.chk | apply Tw.ite | apply Tw.bind | apply Tw.cut | apply Tw.loop | apply Tw.gif | intro _ | split)
def w2_c (t' : T_weak_text) : Option (List Int) :=
 let last := t'.fsos
 loopF (fun ((last1, v, o) : Int × Int × List Int) =>
  iteO (decide (v < (lenL t'.fl)))
   (cutO (chk (0 ≤ v ∧ v < (lenL t'.fl)) <|
     let c' := (getL 0 o (0 + v))
     cutO (iteO (c' == 2)
      (some (.go (c' == 2)))
      (iteO (c' == 1)
       (some (.go (c' == 1)))
       (some (.go (c' == 3))))) fun v1 =>
     iteO v1
      (some (.go (c', o)))
      (iteO (c' == 4)
       (iteO (last1 == 3)
        (chk (0 ≤ v ∧ v < (lenL t'.fl)) <|
         some (.go (last1, (setL o v 7))))
        (some (.go (last1, o))))
       (some (.go (last1, o))))) fun (last2, o1) =>
    chk (inR .i64 (v + 1)) <|
    some (.go (last2, (v + 1), o1)))
   (some (.out o))) (last, 0, t'.fl)
theorem w2_le (t' : T_weak_text)  : Tw (w2_c t') (w2 t') := by
 unfold w2 w2_c
 with_reducible repeat' (first | exact Tw.refl _ | apply Tw.chk | apply Tw.ite | apply Tw.bind | apply Tw.cut | apply Tw.loop | apply Tw.gif | intro _ | split)
def w3_c (t' : T_weak_text) : Option (List Int) :=
 loopF (fun ((v, o) : Int × List Int) =>
  iteO (decide (v < (lenL t'.fl)))
   (chk (0 ≤ v ∧ v < (lenL t'.fl)) <|
    let c' := (getL 0 o (0 + v))
    iteO (c' == 3)
     (chk (0 ≤ v ∧ v < (lenL t'.fl)) <|
      chk (inR .i64 (v + 1)) <|
      some (.go ((v + 1), (setL o v 2))))
     (chk (inR .i64 (v + 1)) <|
      some (.go ((v + 1), o))))
   (some (.out o))) (0, t'.fl)
theorem w3_le (t' : T_weak_text)  : Tw (w3_c t') (w3 t') := by
 unfold w3 w3_c
 with_reducible repeat' (first | exact Tw.refl _ | apply Tw.chk | apply Tw.ite | apply Tw.bind | apply Tw.cut | apply Tw.loop | apply Tw.gif | intro _ | split)
def w4_c (t' : T_weak_text) : Option (List Int) :=
 loopF (fun ((v, o) : Int × List Int) =>
  iteO (decide (v < (lenL t'.fl)))
   (chk (0 ≤ v ∧ v < (lenL t'.fl)) <|
    let c' := (getL 0 o (0 + v))
    chk (inR .i64 (v - 1)) <|
    bindO (weak_text__at_c (T_weak_text.mk o t'.fsos) (v - 1)) fun v1 =>
    chk (inR .i64 (v + 1)) <|
    bindO (weak_text__at_c (T_weak_text.mk o t'.fsos) (v + 1)) fun v2 =>
    iteO (!(v1 == v2))
     (chk (inR .i64 (v + 1)) <|
      some (.go ((v + 1), o)))
     (iteO (if (if (v1 == 4) = true then (if (c' == 5) = true then true else (c' == 8)) else false) = true then true else (if (v1 == 7) = true then (c' == 8) else false))
      (chk (0 ≤ v ∧ v < (lenL t'.fl)) <|
       chk (inR .i64 (v + 1)) <|
       some (.go ((v + 1), (setL o v v1))))
      (chk (inR .i64 (v + 1)) <|
       some (.go ((v + 1), o)))))
   (some (.out o))) (0, t'.fl)
theorem w4_le (t' : T_weak_text)  : Tw (w4_c t') (w4 t') := by
 unfold w4 w4_c
 with_reducible repeat' (first | exact Tw.refl _ | apply Tw.chk | apply Tw.ite | apply Tw.bind | apply Tw.cut | apply Tw.loop | apply Tw.gif | apply weak_text__at_le | intro _ | split)
def w5_c (t' : T_weak_text) : Option (List Int) :=
 loopF (fun ((i, o) : Int × List Int) =>
  iteO (decide (i < (lenL t'.fl)))
   (chk (0 ≤ i ∧ i < (lenL t'.fl)) <|
    iteO (!((getL 0 o (0 + i)) == 6))
     (chk (inR .i64 (i + 1)) <|
      let i1 := (i + 1)
      some (.go (i1, o)))
     (cutO (loopF (fun (end'1 : Int) =>
       bindO (weak_text__at_c (T_weak_text.mk o t'.fsos) end'1) fun v2 =>
       iteO (v2 == 6)
        (chk (inR .i64 (end'1 + 1)) <|
         let end'2 := (end'1 + 1)
         some (.go end'2))
        (some (.out (.go end'1)))) i) fun end' =>
      cutO (chk (inR .i64 (i - 1)) <|
       bindO (weak_text__at_c (T_weak_text.mk o t'.fsos) (i - 1)) fun v =>
       bindO (if (!(v == 4)) = true then weak_text__at_c (T_weak_text.mk o t'.fsos) end' else some 0) fun v1 =>
       iteO (if (v == 4) = true then true else (v1 == 4))
        (loopF (fun ((j, o2) : Int × List Int) =>
         iteO (decide (j < end'))
          (chk (0 ≤ j ∧ j < (lenL t'.fl)) <|
           chk (inR .i64 (j + 1)) <|
           let j1 := (j + 1)
           some (.go (j1, (setL o2 j 4))))
          (some (.out (.go o2)))) (i, o))
        (some (.go o))) fun o1 =>
      some (.go (end', o1))))
   (some (.out o))) (0, t'.fl)
theorem w5_le (t' : T_weak_text)  : Tw (w5_c t') (w5 t') := by
 unfold w5 w5_c
 with_reducible repeat' (first | exact Tw.refl _ | apply Tw.chk | apply Tw.ite | apply Tw.bind | apply Tw.cut | apply Tw.loop | apply Tw.gif | apply weak_text__at_le | intro _ | split)
def w6_c (t' : T_weak_text) : Option (List Int) :=
 loopF (fun ((v, o) : Int × List Int) =>
  iteO (decide (v < (lenL t'.fl)))
   (chk (0 ≤ v ∧ v < (lenL t'.fl)) <|
    let c' := (getL 0 o (0 + v))
    iteO (c' == 5)
     (iteO (c' == 5)
      (chk (0 ≤ v ∧ v < (lenL t'.fl)) <|
       chk (inR .i64 (v + 1)) <|
       some (.go ((v + 1), (setL o v 14))))
      (chk (inR .i64 (v + 1)) <|
       some (.go ((v + 1), o))))
     (iteO (c' == 6)
      (iteO (c' == 6)
       (chk (0 ≤ v ∧ v < (lenL t'.fl)) <|
        chk (inR .i64 (v + 1)) <|
        some (.go ((v + 1), (setL o v 14))))
       (chk (inR .i64 (v + 1)) <|
        some (.go ((v + 1), o))))
      (iteO (c' == 8)
       (chk (0 ≤ v ∧ v < (lenL t'.fl)) <|
        chk (inR .i64 (v + 1)) <|
        some (.go ((v + 1), (setL o v 14))))
       (chk (inR .i64 (v + 1)) <|
        some (.go ((v + 1), o))))))
   (some (.out o))) (0, t'.fl)
theorem w6_le (t' : T_weak_text)  : Tw (w6_c t') (w6 t') := by
 unfold w6 w6_c
 with_reducible repeat' (first | exact Tw.refl _ | apply Tw.chk | apply Tw.ite | apply Tw.bind | apply Tw.cut | apply Tw.loop | apply Tw.gif | intro _ | split)
def w7_c (t' : T_weak_text) : Option (List Int) :=
 let last := t'.fsos
 loopF (fun ((last1, v, o) : Int × Int × List Int) =>
  iteO (decide (v < (lenL t'.fl)))
   (chk (0 ≤ v ∧ v < (lenL t'.fl)) <|
    let c' := (getL 0 o (0 + v))
    iteO (c' == 2)
     (iteO (c' == 2)
      (chk (inR .i64 (v + 1)) <|
       some (.go (c', (v + 1), o)))
      (iteO (c' == 4)
       (iteO (last1 == 1)
        (chk (0 ≤ v ∧ v < (lenL t'.fl)) <|
         chk (inR .i64 (v + 1)) <|
         some (.go (last1, (v + 1), (setL o v 1))))
        (chk (inR .i64 (v + 1)) <|
         some (.go (last1, (v + 1), o))))
       (chk (inR .i64 (v + 1)) <|
        some (.go (last1, (v + 1), o)))))
     (iteO (c' == 1)
      (chk (inR .i64 (v + 1)) <|
       some (.go (c', (v + 1), o)))
      (iteO (c' == 4)
       (iteO (last1 == 1)
        (chk (0 ≤ v ∧ v < (lenL t'.fl)) <|
         chk (inR .i64 (v + 1)) <|
         some (.go (last1, (v + 1), (setL o v 1))))
        (chk (inR .i64 (v + 1)) <|
         some (.go (last1, (v + 1), o))))
       (chk (inR .i64 (v + 1)) <|
        some (.go (last1, (v + 1), o))))))
   (some (.out o))) (last, 0, t'.fl)
theorem w7_le (t' : T_weak_text)  : Tw (w7_c t') (w7 t') := by
 unfold w7 w7_c
 with_reducible repeat' (first | exact Tw.refl _ | apply Tw.chk | apply Tw.ite | apply Tw.bind | apply Tw.cut | apply Tw.loop | apply Tw.gif | intro _ | split)
def weak_Weak_c (l' : (List Int)) (sos : Int) : Option (List Int) :=
 bindO (clone_k l') fun v =>
 cutO (cutO (cutO (cutO (chk ((0 : Int) ≤ 0 ∧ (0 : Int) < 7) <|
     some (.go ())) fun (_ : Unit) =>
    bindO (w1_c (T_weak_text.mk v sos)) fun v7 =>
    chk (lenL v7 = lenL v) <|
    some (.go v7)) fun o14 =>
   chk (inR .i64 (0 + 1)) <|
   some (.go o14)) fun o1 =>
  cutO (cutO (cutO (chk ((0 : Int) ≤ 1 ∧ (1 : Int) < 7) <|
     some (.go ())) fun (_ : Unit) =>
    bindO (w2_c (T_weak_text.mk o1 sos)) fun v6 =>
    chk (lenL v6 = lenL o1) <|
    some (.go v6)) fun o13 =>
   chk (inR .i64 (1 + 1)) <|
   some (.go o13)) fun o2 =>
  cutO (cutO (cutO (chk ((0 : Int) ≤ 2 ∧ (2 : Int) < 7) <|
     some (.go ())) fun (_ : Unit) =>
    bindO (w3_c (T_weak_text.mk o2 sos)) fun v5 =>
    chk (lenL v5 = lenL o2) <|
    some (.go v5)) fun o12 =>
   chk (inR .i64 (2 + 1)) <|
   some (.go o12)) fun o3 =>
  cutO (cutO (cutO (chk ((0 : Int) ≤ 3 ∧ (3 : Int) < 7) <|
     some (.go ())) fun (_ : Unit) =>
    bindO (w4_c (T_weak_text.mk o3 sos)) fun v4 =>
    chk (lenL v4 = lenL o3) <|
    some (.go v4)) fun o11 =>
   chk (inR .i64 (3 + 1)) <|
   some (.go o11)) fun o4 =>
  cutO (cutO (cutO (chk ((0 : Int) ≤ 4 ∧ (4 : Int) < 7) <|
     some (.go ())) fun (_ : Unit) =>
    bindO (w5_c (T_weak_text.mk o4 sos)) fun v3 =>
    chk (lenL v3 = lenL o4) <|
    some (.go v3)) fun o10 =>
   chk (inR .i64 (4 + 1)) <|
   some (.go o10)) fun o5 =>
  cutO (cutO (cutO (chk ((0 : Int) ≤ 5 ∧ (5 : Int) < 7) <|
     some (.go ())) fun (_ : Unit) =>
    bindO (w6_c (T_weak_text.mk o5 sos)) fun v2 =>
    chk (lenL v2 = lenL o5) <|
    some (.go v2)) fun o9 =>
   chk (inR .i64 (5 + 1)) <|
   some (.go o9)) fun o6 =>
  cutO (cutO (cutO (chk ((0 : Int) ≤ 6 ∧ (6 : Int) < 7) <|
     some (.go ())) fun (_ : Unit) =>
    bindO (w7_c (T_weak_text.mk o6 sos)) fun v1 =>
    chk (lenL v1 = lenL o6) <|
    some (.go v1)) fun o8 =>
   chk (inR .i64 (6 + 1)) <|
   some (.go o8)) fun o7 =>
  some (.go o7)) fun o =>
 some o
theorem weak_Weak_le (l' : (List Int)) (sos : Int)  : Tw (weak_Weak_c l' sos) (weak_Weak l' sos) := by
 unfold weak_Weak weak_Weak_c
 with_reducible repeat' (first | exact Tw.refl _ | apply Tw.chk | apply Tw.ite | apply Tw.bind | apply Tw.cut | apply Tw.loop | apply Tw.gif | apply slices_Clone___int_int__le | apply w1_le | apply w2_le | apply w3_le | apply w4_le | apply w5_le | apply w6_le | apply w7_le | intro _ | split)
def weak_line__direction_c (x' : T_weak_line) (p' : T_Arr2_i64) : Option Int :=
 cutO (chk (inR .i64 (p'.x0 + 1)) <|
  chk (0 ≤ (p'.x0 + 1) ∧ (p'.x0 + 1) ≤ p'.x1 ∧ p'.x1 ≤ (lenL x'.fl)) <|
  loopF (fun ((found1, v1) : Bool × Int) =>
   iteO (decide (v1 < (p'.x1 - (p'.x0 + 1))))
    (chk (0 ≤ v1 ∧ v1 < (lenL (subL x'.fl (p'.x0 + 1) p'.x1))) <|
     let c' := (getL 0 (subL x'.fl (p'.x0 + 1) p'.x1) v1)
     bindO (weak_strong_c c') fun v2 =>
     iteO (v2 == x'.fdir)
      (some (.out (.out x'.fdir)))
      (iteO (v2 == x'.fagainst)
       (chk (inR .i64 (v1 + 1)) <|
        some (.go (true, (v1 + 1))))
       (chk (inR .i64 (v1 + 1)) <|
        some (.go (found1, (v1 + 1))))))
    (some (.out (.go found1)))) (false, 0)) fun found =>
 iteO (!found)
  (some 0)
  (let last := x'.fsos
   cutO (chk (inR .i64 (p'.x0 - 1)) <|
    let i := (p'.x0 - 1)
    loopF (fun (i1 : Int) =>
     iteO (decide (0 ≤ i1))
      (chk (0 ≤ i1 ∧ i1 < (lenL x'.fl)) <|
       bindO (weak_strong_c (getL 0 x'.fl i1)) fun v =>
       iteO (!(v == 0))
        (some (.out (.go v)))
        (chk (inR .i64 (i1 - 1)) <|
         let i2 := (i1 - 1)
         some (.go i2)))
      (some (.out (.go last)))) i) fun last1 =>
   iteO (last1 == x'.fagainst)
    (some x'.fagainst)
    (some x'.fdir))
theorem weak_line__direction_le (x' : T_weak_line) (p' : T_Arr2_i64)  : Tw (weak_line__direction_c x' p') (weak_line__direction x' p') := by
 unfold weak_line__direction weak_line__direction_c
 with_reducible repeat' (first | exact Tw.refl _ | apply Tw.chk | apply Tw.ite | apply Tw.bind | apply Tw.cut | apply Tw.loop | apply Tw.gif | apply weak_strong_le | intro _ | split)
def weak_Pairs_c (d' : T_ucd_Data) (r' : (List Int)) (l' : (List Int)) : Option (List T_Arr2_i64) :=
 iteO (!((lenL r') == (lenL l')))
  (some ([] : List T_Arr2_i64))
  (cutO (loopF (fun ((open_off, open_n, v1, open', out1) : Int × Int × Int × List Int × List T_Arr2_i64) =>
    iteO (decide (v1 < (lenL l')))
     (cutO (chk (0 ≤ v1 ∧ v1 < (lenL l')) <|
       let c' := (getL 0 l' v1)
       iteO (!(c' == 14))
        (some (.go (open_off, open_n, open', out1)))
        (chk (0 ≤ v1 ∧ v1 < (lenL r')) <|
         bindO (ucd_Bracket_c d' (getL 0 r' v1)) fun v2 =>
         let other := v2.1
         let kind := v2.2
         iteO (kind == 1)
          (iteO (open_n == 63)
           (some (.out (.out (.out ([] : List T_Arr2_i64)))))
           (chk (0 ≤ open_off ∧ 0 ≤ open_n ∧ open_off + open_n ≤ lenL open') <|
            chk (growOk 8 (open_n + 1)) <|
            some (.go (0, (open_n + 1), ((subL open' open_off (open_off + open_n)) ++ ([v1] : List Int)), out1))))
          (iteO (kind == 2)
           (chk (inR .i64 (open_n - 1)) <|
            let n := (open_n - 1)
            loopF (fun (n1 : Int) =>
             iteO (decide (0 ≤ n1))
              (chk (0 ≤ n1 ∧ n1 < open_n) <|
               chk (0 ≤ (getL 0 open' (open_off + n1)) ∧ (getL 0 open' (open_off + n1)) < (lenL r')) <|
               iteO ((getL 0 r' (getL 0 open' (open_off + n1))) == other)
                (chk (0 ≤ n1 ∧ n1 < open_n) <|
                 chk (growOk 16 ((lenL out1) + 1)) <|
                 chk ((0 : Int) ≤ 0 ∧ (0 : Int) ≤ n1 ∧ n1 ≤ open_n) <|
                 some (.out (.go ((open_off + 0), (n1 - 0), open', (out1 ++ ([(T_Arr2_i64.mk (getL 0 open' (open_off + n1)) v1)] : List T_Arr2_i64))))))
                (chk (inR .i64 (n1 - 1)) <|
                 let n2 := (n1 - 1)
                 some (.go n2)))
              (some (.out (.go (open_off, open_n, open', out1))))) n)
           (some (.go (open_off, open_n, open', out1)))))) fun (open_off1, open_n1, open'1, out2) =>
      chk (inR .i64 (v1 + 1)) <|
      some (.go (open_off1, open_n1, (v1 + 1), open'1, out2)))
     (some (.out (.go out1)))) (0, 0, 0, ([] : List Int), ([] : List T_Arr2_i64))) fun out =>
   bindO (sortPairs_c out 0 (lenL out)) fun v =>
   chk (lenL v = lenL out) <|
   some v)
theorem weak_Pairs_le (d' : T_ucd_Data) (r' : (List Int)) (l' : (List Int))  : Tw (weak_Pairs_c d' r' l') (weak_Pairs d' r' l') := by
 unfold weak_Pairs weak_Pairs_c
 with_reducible repeat' (first | exact Tw.refl _ | apply Tw.chk | apply Tw.ite | apply Tw.bind | apply Tw.cut | apply Tw.loop | apply Tw.gif | apply sortPairs_le | apply ucd_Bracket_le | intro _ | split)
def n0_c (x' : T_weak_line) : Option (List Int) :=
 loopF (fun ((v, o) : Int × List Int) =>
  iteO (decide (v < (lenL x'.fpairs)))
   (cutO (chk (0 ≤ v ∧ v < (lenL x'.fpairs)) <|
     bindO (weak_line__direction_c (T_weak_line.mk o x'.fwas x'.fsos x'.feos x'.fdir x'.fagainst x'.fpairs) (getL d_Arr2_i64 x'.fpairs v)) fun v1 =>
     iteO (v1 == 0)
      (some (.go o))
      (cutO (cutO (let at'1 := (getL d_Arr2_i64 x'.fpairs v).x0
         chk (0 ≤ at'1 ∧ at'1 < (lenL x'.fl)) <|
         chk (inR .i64 (at'1 + 1)) <|
         let j3 := (at'1 + 1)
         loopF (fun ((j4, o7) : Int × List Int) =>
          chk ((decide (j4 < (lenL x'.fl))) = true → 0 ≤ j4 ∧ j4 < (lenL x'.fwas)) <|
          iteO (if (decide (j4 < (lenL x'.fl))) = true then ((getL 0 x'.fwas j4) == 9) else false)
           (chk (0 ≤ j4 ∧ j4 < (lenL x'.fl)) <|
            chk (inR .i64 (j4 + 1)) <|
            let j5 := (j4 + 1)
            some (.go (j5, (setL o7 j4 v1))))
           (some (.out (.go o7)))) (j3, (setL o at'1 v1))) fun o6 =>
        chk (inR .i64 (0 + 1)) <|
        some (.go o6)) fun o2 =>
       cutO (cutO (let at' := (getL d_Arr2_i64 x'.fpairs v).x1
         chk (0 ≤ at' ∧ at' < (lenL x'.fl)) <|
         chk (inR .i64 (at' + 1)) <|
         let j := (at' + 1)
         loopF (fun ((j1, o5) : Int × List Int) =>
          chk ((decide (j1 < (lenL x'.fl))) = true → 0 ≤ j1 ∧ j1 < (lenL x'.fwas)) <|
          iteO (if (decide (j1 < (lenL x'.fl))) = true then ((getL 0 x'.fwas j1) == 9) else false)
           (chk (0 ≤ j1 ∧ j1 < (lenL x'.fl)) <|
            chk (inR .i64 (j1 + 1)) <|
            let j2 := (j1 + 1)
            some (.go (j2, (setL o5 j1 v1))))
           (some (.out (.go o5)))) (j, (setL o2 at' v1))) fun o4 =>
        chk (inR .i64 (1 + 1)) <|
        some (.go o4)) fun o3 =>
       some (.go o3))) fun o1 =>
    chk (inR .i64 (v + 1)) <|
    some (.go ((v + 1), o1)))
   (some (.out o))) (0, x'.fl)
theorem n0_le (x' : T_weak_line)  : Tw (n0_c x') (n0 x') := by
 unfold n0 n0_c
 with_reducible repeat' (first | exact Tw.refl _ | apply Tw.chk | apply Tw.ite | apply Tw.bind | apply Tw.cut | apply Tw.loop | apply Tw.gif | apply weak_line__direction_le | intro _ | split)
def n12_c (x' : T_weak_line) : Option (List Int) :=
 loopF (fun ((i, o) : Int × List Int) =>
  iteO (decide (i < (lenL x'.fl)))
   (chk (0 ≤ i ∧ i < (lenL x'.fl)) <|
    bindO (weak_neutral_c (getL 0 o (0 + i))) fun v =>
    iteO (!v)
     (chk (inR .i64 (i + 1)) <|
      let i1 := (i + 1)
      some (.go (i1, o)))
     (cutO (loopF (fun (end'1 : Int) =>
       chk ((decide (end'1 < (lenL x'.fl))) = true → 0 ≤ end'1 ∧ end'1 < (lenL x'.fl)) <|
       bindO (if (decide (end'1 < (lenL x'.fl))) = true then weak_neutral_c (getL 0 o (0 + end'1)) else some false) fun v3 =>
       iteO (if (decide (end'1 < (lenL x'.fl))) = true then v3 else false)
        (chk (inR .i64 (end'1 + 1)) <|
         let end'2 := (end'1 + 1)
         some (.go end'2))
        (some (.out (.go end'1)))) i) fun end' =>
      let ahead := x'.fsos
      let behind := x'.feos
      cutO (iteO (decide (0 < i))
       (chk (inR .i64 (i - 1)) <|
        chk (0 ≤ (i - 1) ∧ (i - 1) < (lenL x'.fl)) <|
        bindO (weak_strong_c (getL 0 o (0 + (i - 1)))) fun v2 =>
        some (.go v2))
       (some (.go ahead))) fun ahead1 =>
      cutO (iteO (decide (end' < (lenL x'.fl)))
       (chk (0 ≤ end' ∧ end' < (lenL x'.fl)) <|
        bindO (weak_strong_c (getL 0 o (0 + end'))) fun v1 =>
        some (.go v1))
       (some (.go behind))) fun behind1 =>
      let c' := x'.fdir
      cutO (iteO (if (ahead1 == behind1) = true then (!(ahead1 == 0)) else false)
       (some (.go ahead1))
       (some (.go c'))) fun c'1 =>
      loopF (fun ((i2, o1) : Int × List Int) =>
       iteO (decide (i2 < end'))
        (chk (0 ≤ i2 ∧ i2 < (lenL x'.fl)) <|
         chk (inR .i64 (i2 + 1)) <|
         let i3 := (i2 + 1)
         some (.go (i3, (setL o1 i2 c'1))))
        (some (.out (.go (i2, o1))))) (i, o)))
   (some (.out o))) (0, x'.fl)
theorem n12_le (x' : T_weak_line)  : Tw (n12_c x') (n12 x') := by
 unfold n12 n12_c
 with_reducible repeat' (first | exact Tw.refl _ | apply Tw.chk | apply Tw.ite | apply Tw.bind | apply Tw.cut | apply Tw.loop | apply Tw.gif | apply weak_neutral_le | apply weak_strong_le | intro _ | split)
def weak_Neutral_c (d' : T_ucd_Data) (r' : (List Int)) (was : (List Int)) (l' : (List Int)) (level : Int) (sos : Int) (eos : Int) : Option (List Int) :=
 bindO (clone_k l') fun v =>
 iteO (if (!((lenL r') == (lenL l'))) = true then true else (!((lenL was) == (lenL l'))))
  (some v)
  (bindO (weak_Pairs_c d' r' l') fun v1 =>
   cutO (iteO ((bndI .i64 level 1) == 1)
    (some (.go (2, 1)))
    (some (.go (1, 2)))) fun (b16_4, b16_5) =>
   cutO (cutO (cutO (cutO (chk ((0 : Int) ≤ 0 ∧ (0 : Int) < 2) <|
       some (.go ())) fun (_ : Unit) =>
      bindO (n0_c (T_weak_line.mk v was sos eos b16_4 b16_5 v1)) fun v3 =>
      chk (lenL v3 = lenL v) <|
      some (.go v3)) fun out4 =>
     chk (inR .i64 (0 + 1)) <|
     some (.go out4)) fun out1 =>
    cutO (cutO (cutO (chk ((0 : Int) ≤ 1 ∧ (1 : Int) < 2) <|
       some (.go ())) fun (_ : Unit) =>
      bindO (n12_c (T_weak_line.mk out1 was sos eos b16_4 b16_5 v1)) fun v2 =>
      chk (lenL v2 = lenL out1) <|
      some (.go v2)) fun out3 =>
     chk (inR .i64 (1 + 1)) <|
     some (.go out3)) fun out2 =>
    some (.go out2)) fun out =>
   some out)
theorem weak_Neutral_le (d' : T_ucd_Data) (r' : (List Int)) (was : (List Int)) (l' : (List Int)) (level : Int) (sos : Int) (eos : Int)  : Tw (weak_Neutral_c d' r' was l' level sos eos) (weak_Neutral d' r' was l' level sos eos) := by
 unfold weak_Neutral weak_Neutral_c
 with_reducible repeat' (first | exact Tw.refl _ | apply Tw.chk | apply Tw.ite | apply Tw.bind | apply Tw.cut | apply Tw.loop | apply Tw.gif | apply slices_Clone___int_int__le | apply weak_Pairs_le | apply n0_le | apply n12_le | intro _ | split)
def weak_levels_c (d' : T_ucd_Data) (r' : (List Int)) (l' : (List Int)) (base : Int) : Option (List Int) :=
 bindO (embed_Explicit_c l' base) fun v =>
 bindO (clone_k v.fLevels) fun v1 =>
 cutO (bindO (embed_Sequences_c l' v base) fun v3 =>
  loopF (fun ((v4, out5) : Int × List Int) =>
   iteO (decide (v4 < (lenL v3)))
    (cutO (chk (0 ≤ v4 ∧ v4 < (lenL v3)) <|
      bindO (weak_pick_c v.fClasses (getL [] v3 (0 + v4))) fun v5 =>
      chk ((0 : Int) ≤ 0 ∧ (0 : Int) < (lenL (getL [] v3 (0 + v4)))) <|
      chk (0 ≤ (getL 0 (getL [] v3 (0 + v4)) 0) ∧ (getL 0 (getL [] v3 (0 + v4)) 0) < (lenL v.fLevels)) <|
      let level := (getL 0 v.fLevels (getL 0 (getL [] v3 (0 + v4)) 0))
      bindO (embed_Edges_c l' v base (getL [] v3 (0 + v4))) fun v6 =>
      let sos := v6.1
      let eos := v6.2
      bindO (weak_pick_c r' (getL [] v3 (0 + v4))) fun v7 =>
      bindO (weak_Weak_c v5 sos) fun v8 =>
      bindO (weak_Neutral_c d' v7 v5 v8 level sos eos) fun v9 =>
      loopF (fun ((v10, out7) : Int × List Int) =>
       iteO (decide (v10 < (lenL (getL [] v3 (0 + v4)))))
        (chk (0 ≤ v10 ∧ v10 < (lenL (getL [] v3 (0 + v4)))) <|
         let at' := (getL 0 (getL [] v3 (0 + v4)) v10)
         chk (0 ≤ v10 ∧ v10 < (lenL v9)) <|
         bindO (weak_Implicit_c (getL 0 v9 (0 + v10)) level) fun v11 =>
         chk (0 ≤ at' ∧ at' < (lenL v1)) <|
         chk (inR .i64 (v10 + 1)) <|
         some (.go ((v10 + 1), (setL out7 at' v11))))
        (some (.out (.go out7)))) (0, out5)) fun out6 =>
     chk (inR .i64 (v4 + 1)) <|
     some (.go ((v4 + 1), out6)))
    (some (.out (.go out5)))) (0, v1)) fun out =>
 chk ((2 : Int) ≠ 0) <|
 let ahead := (Int.tmod (imaxI base 0) 2)
 cutO (loopF (fun ((ahead1, v2, out2) : Int × Int × List Int) =>
  iteO (decide (v2 < (lenL v.fRemoved)))
   (cutO (chk (0 ≤ v2 ∧ v2 < (lenL v.fRemoved)) <|
     let gone := (getL false v.fRemoved v2)
     cutO (iteO gone
      (chk (0 ≤ v2 ∧ v2 < (lenL v1)) <|
       some (.go (setL out2 v2 ahead1)))
      (some (.go out2))) fun out4 =>
     chk (0 ≤ v2 ∧ v2 < (lenL v1)) <|
     let ahead3 := (getL 0 out4 (0 + v2))
     some (.go (ahead3, out4))) fun (ahead2, out3) =>
    chk (inR .i64 (v2 + 1)) <|
    some (.go (ahead2, (v2 + 1), out3)))
   (some (.out (.go out2)))) (ahead, 0, out)) fun out1 =>
 some out1
theorem weak_levels_le (d' : T_ucd_Data) (r' : (List Int)) (l' : (List Int)) (base : Int)  : Tw (weak_levels_c d' r' l' base) (weak_levels d' r' l' base) := by
 unfold weak_levels weak_levels_c
 with_reducible repeat' (first | exact Tw.refl _ | apply Tw.chk | apply Tw.ite | apply Tw.bind | apply Tw.cut | apply Tw.loop | apply Tw.gif | apply slices_Clone___int_int__le | apply embed_Explicit_le | apply embed_Sequences_le | apply embed_Edges_le | apply weak_Implicit_le | apply weak_pick_le | apply weak_Weak_le | apply weak_Neutral_le | intro _ | split)
def weak_Paragraph_c (d' : T_ucd_Data) (r' : (List Int)) (dir : Int) : Option ((List Int) × Int) :=
 bindO (weak_classes_c d' r') fun v =>
 cutO (iteO (if (!(dir == 0)) = true then (!(dir == 1)) else false)
  (bindO (embed_Base_c v) fun v2 =>
   some (.go v2))
  (some (.go dir))) fun base =>
 bindO (weak_levels_c d' r' v base) fun v1 =>
 some (v1, base)
theorem weak_Paragraph_le (d' : T_ucd_Data) (r' : (List Int)) (dir : Int)  : Tw (weak_Paragraph_c d' r' dir) (weak_Paragraph d' r' dir) := by
 unfold weak_Paragraph weak_Paragraph_c
 with_reducible repeat' (first | exact Tw.refl _ | apply Tw.chk | apply Tw.ite | apply Tw.bind | apply Tw.cut | apply Tw.loop | apply Tw.gif | apply embed_Base_le | apply weak_classes_le | apply weak_levels_le | intro _ | split)
end Go.Vx
namespace Go.Vx
theorem awake_par : weak_Paragraph dLoad [97, 1488, 49] 2 = some ([0, 1, 2], 0) := (weak_Paragraph_le _ _ _).of (by kernel_rfl)
theorem awake_true : lapwinglaw18_awake = some true := by
 have h1 : weak_Implicit 2 0 = some 1 := (weak_Implicit_le _ _).of (by kernel_rfl)
 have h2 : weak_Weak [3, 4] 1 = some [2, 7] := (weak_Weak_le _ _).of (by kernel_rfl)
 have h3 : lapwingref03_Ints [0, 1, 2] [0, 1, 2] = some true := (lapwingref03_Ints_le _ _).of (by kernel_rfl)
 have h4 : lapwingref03_Ints [2, 7] [2, 7] = some true := (lapwingref03_Ints_le _ _).of (by kernel_rfl)
 unfold lapwinglaw18_awake
 exact Yields.eq (.call load_eq (.call awake_par (.call h3 (.call h1 (.call h2 (.call h4 (.ret rfl)))))))
end Go.Vx
