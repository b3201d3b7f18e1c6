/- Lifted functions, by program (lift.py). -/
import Derived.Test.YtofgfpibcoafgaaVxPart
set_option linter.all false
namespace Go.Vx
structure T_embed_stack_int_ where
  fl : (List Int)
def d_embed_stack_int_ : T_embed_stack_int_ := ⟨[]⟩
structure T_embed_status where
  flevel : Int
  foverride : Int
  fisolate : Bool
def d_embed_status : T_embed_status := ⟨0, 0, false⟩
structure T_embed_status_ where
  fl : (List T_embed_status)
def d_embed_status_ : T_embed_status_ := ⟨[]⟩
structure T_embed_Run where
  fLevels : (List Int)
  fClasses : (List Int)
  fRemoved : (List Bool)
def d_embed_Run : T_embed_Run := ⟨[], [], []⟩
structure T_embed_machine where
  fl : (List Int)
  fmatch : (List Int)
  fbase : Int
  frun : T_embed_Run
  fopen : T_embed_status_
  fisolates : Int
  fembeddings : Int
  fvalid : Int
def d_embed_machine : T_embed_machine := ⟨[], [], 0, d_embed_Run, d_embed_status_, 0, 0, 0⟩

/-- (*lapwing/embed.stack[int]).push -/
noncomputable def si_push (s : T_embed_stack_int_) (x' : Int) : Option (T_embed_stack_int_) :=
  chk (growOk 8 ((lenL s.fl) + 1)) <|
  some (T_embed_stack_int_.mk (s.fl ++ ([x'] : List Int)))

/-- (*lapwing/embed.stack[int]).size -/
noncomputable def si_size (s : T_embed_stack_int_) : Option Int :=
  some (lenL s.fl)

/-- (*lapwing/embed.stack[int]).last -/
noncomputable def si_last (s : T_embed_stack_int_) : Option Int :=
  chk (inR .i64 ((lenL s.fl) - 1)) <|
  chk (0 ≤ ((lenL s.fl) - 1) ∧ ((lenL s.fl) - 1) < (lenL s.fl)) <|
  some (getL 0 s.fl ((lenL s.fl) - 1))

/-- (*lapwing/embed.stack[int]).pop -/
noncomputable def si_pop (s : T_embed_stack_int_) : Option (T_embed_stack_int_) :=
  chk (inR .i64 ((lenL s.fl) - 1)) <|
  chk ((0 : Int) ≤ 0 ∧ (0 : Int) ≤ ((lenL s.fl) - 1) ∧ ((lenL s.fl) - 1) ≤ (lenL s.fl)) <|
  some (T_embed_stack_int_.mk (subL s.fl (0 + 0) ((0 + 0) + (((lenL s.fl) - 1) - 0))))

/-- lapwing/embed.known -/
noncomputable def embed_known (l' : (List Int)) : Option (List Int) :=
  chk (makeOk 8 (lenL l') (lenL l')) <|
  cutO (loopO (fun ((v, out1) : Int × List Int) =>
        iteO (decide (v < (lenL l')))
          (chk (0 ≤ v ∧ v < (lenL l')) <|
           let c' := (getL 0 l' v)
           iteO (if (decide (c' < 1)) = true then true else (decide (23 < c')))
             (chk (0 ≤ v ∧ v < (lenL l')) <|
              chk (inR .i64 (v + 1)) <|
              some (.go ((v + 1), (setL out1 v 14))))
             (chk (0 ≤ v ∧ v < (lenL l')) <|
              chk (inR .i64 (v + 1)) <|
              some (.go ((v + 1), (setL out1 v c')))))
          (some (.out (.go out1)))) (0, (repL (lenL l') 0))) fun out =>
  some out

/-- lapwing/embed.parity -/
noncomputable def embed_parity (base : Int) : Option Int :=
  chk ((2 : Int) ≠ 0) <|
  some (Int.tmod (imaxI base 0) 2)

/-- (*lapwing/embed.stack[lapwing/embed.status]).push -/
noncomputable def ss_push (s : T_embed_status_) (x' : T_embed_status) : Option (T_embed_status_) :=
  chk (growOk 24 ((lenL s.fl) + 1)) <|
  some (T_embed_status_.mk (s.fl ++ ([x'] : List T_embed_status)))

/-- (*lapwing/embed.stack[lapwing/embed.status]).last -/
noncomputable def ss_last (s : T_embed_status_) : Option T_embed_status :=
  chk (inR .i64 ((lenL s.fl) - 1)) <|
  chk (0 ≤ ((lenL s.fl) - 1) ∧ ((lenL s.fl) - 1) < (lenL s.fl)) <|
  some (getL d_embed_status s.fl ((lenL s.fl) - 1))

/-- (*lapwing/embed.stack[lapwing/embed.status]).pop -/
noncomputable def ss_pop (s : T_embed_status_) : Option (T_embed_status_) :=
  chk (inR .i64 ((lenL s.fl) - 1)) <|
  chk ((0 : Int) ≤ 0 ∧ (0 : Int) ≤ ((lenL s.fl) - 1) ∧ ((lenL s.fl) - 1) ≤ (lenL s.fl)) <|
  some (T_embed_status_.mk (subL s.fl (0 + 0) ((0 + 0) + (((lenL s.fl) - 1) - 0))))

/-- (*lapwing/embed.stack[lapwing/embed.status]).size -/
noncomputable def ss_size (s : T_embed_status_) : Option Int :=
  some (lenL s.fl)

/-- lapwing/embed.isolate -/
noncomputable def embed_isolate (c' : Int) : Option Bool :=
  some (if (if (c' == 20) = true then true else (c' == 21)) = true then true else (c' == 22))

/-- lapwing/embed.side -/
noncomputable def embed_side (level : Int) : Option Int :=
  iteO ((bndI .i64 level 1) == 1)
    (some 2)
    (some 1)

/-- lapwing/embed.base -/
noncomputable def embed_base_ (l' : (List Int)) (match' : (List Int)) (from' : Int) (to : Int) : Option Int :=
  cutO (loopO (fun (i : Int) =>
        iteO (decide (i < to))
          (cutO (chk (0 ≤ i ∧ i < (lenL l')) <|
             cutO (iteO ((getL 0 l' i) == 1)
                 (some (.go ((getL 0 l' i) == 1)))
                 (some (.go ((getL 0 l' i) == 11)))) fun v =>
             iteO v
               (some (.out (.out (.out 0))))
               (cutO (iteO ((getL 0 l' i) == 2)
                    (some (.go ((getL 0 l' i) == 2)))
                    (some (.go ((getL 0 l' i) == 3)))) fun v1 =>
                iteO v1
                  (some (.out (.out (.out 1))))
                  (iteO ((getL 0 l' i) == 20)
                     (iteO ((getL 0 l' i) == 20)
                        (chk (0 ≤ i ∧ i < (lenL match')) <|
                         let i3 := (getL 0 match' i)
                         some (.go i3))
                        (some (.go i)))
                     (iteO ((getL 0 l' i) == 21)
                        (iteO ((getL 0 l' i) == 21)
                           (chk (0 ≤ i ∧ i < (lenL match')) <|
                            let i4 := (getL 0 match' i)
                            some (.go i4))
                           (some (.go i)))
                        (iteO ((getL 0 l' i) == 22)
                           (chk (0 ≤ i ∧ i < (lenL match')) <|
                            let i5 := (getL 0 match' i)
                            some (.go i5))
                           (some (.go i))))))) fun i1 =>
           chk (inR .i64 (i1 + 1)) <|
           let i2 := (i1 + 1)
           some (.go i2))
          (some (.out (.go ())))) from') fun (_ : Unit) =>
  some 0

/-- lapwing/embed.Match -/
noncomputable def embed_Match (l' : (List Int)) : Option (List Int) :=
  chk (makeOk 8 (lenL l') (lenL l')) <|
  cutO (loopO (fun ((v, out1, o) : Int × List Int × List Int) =>
        iteO (decide (v < (lenL l')))
          (cutO (chk (0 ≤ v ∧ v < (lenL l')) <|
             let c' := (getL 0 l' v)
             chk (0 ≤ v ∧ v < (lenL l')) <|
             cutO (iteO (c' == 20)
                 (some (.go (c' == 20)))
                 (iteO (c' == 21)
                    (some (.go (c' == 21)))
                    (some (.go (c' == 22))))) fun v1 =>
             iteO v1
               (chk (0 ≤ v ∧ v < (lenL l')) <|
                bindO (si_push (T_embed_stack_int_.mk o) v) fun v2 =>
                some (.go ((setL (setL out1 v (-1)) v (lenL l')), v2.fl)))
               (iteO (c' == 23)
                  (bindO (si_size (T_embed_stack_int_.mk o)) fun v3 =>
                   iteO (decide (0 < v3))
                     (bindO (si_last (T_embed_stack_int_.mk o)) fun v4 =>
                      chk (0 ≤ v ∧ v < (lenL l')) <|
                      bindO (si_last (T_embed_stack_int_.mk o)) fun v5 =>
                      chk (0 ≤ v5 ∧ v5 < (lenL l')) <|
                      bindO (si_pop (T_embed_stack_int_.mk o)) fun v6 =>
                      some (.go ((setL (setL (setL out1 v (-1)) v v4) v5 v), v6.fl)))
                     (some (.go ((setL out1 v (-1)), o))))
                  (iteO (c' == 11)
                     (some (.go ((setL out1 v (-1)), ([] : List Int))))
                     (some (.go ((setL out1 v (-1)), o)))))) fun (out2, o1) =>
           chk (inR .i64 (v + 1)) <|
           some (.go ((v + 1), out2, o1)))
          (some (.out (.go out1)))) (0, (repL (lenL l') 0), ([] : List Int))) fun out =>
  some out

/-- lapwing/embed.Base -/
noncomputable def embed_Base (l' : (List Int)) : Option Int :=
  bindO (embed_Match l') fun v =>
  bindO (embed_base_ l' v 0 (lenL l')) fun v1 =>
  some v1

/-- lapwing/embed.fits -/
noncomputable def embed_fits (l' : (List Int)) (r' : T_embed_Run) : Option Bool :=
  some (if (if ((lenL r'.fLevels) == (lenL l')) = true then ((lenL r'.fClasses) == (lenL l')) else false) = true then ((lenL r'.fRemoved) == (lenL l')) else false)

/-- (*lapwing/embed.machine).next -/
noncomputable def m_next (m : T_embed_machine) (odd : Bool) : Option (Int × Bool) :=
  bindO (ss_last m.fopen) fun v =>
  chk (inR .i64 (v.flevel + 1)) <|
  let level := (v.flevel + 1)
  chk ((2 : Int) ≠ 0) <|
  iteO (!(((Int.tmod level 2) == 1) == odd))
    (chk (inR .i64 (level + 1)) <|
     let level1 := (level + 1)
     some (level1, (if (if (decide (level1 ≤ 125)) = true then (m.fisolates == 0) else false) = true then (m.fembeddings == 0) else false)))
    (some (level, (if (if (decide (level ≤ 125)) = true then (m.fisolates == 0) else false) = true then (m.fembeddings == 0) else false)))

/-- (*lapwing/embed.machine).take -/
noncomputable def m_take (m : T_embed_machine) (i : Int) : Option (T_embed_machine) :=
  bindO (ss_last m.fopen) fun v =>
  chk (0 ≤ i ∧ i < (lenL m.frun.fLevels)) <|
  iteO (!(v.foverride == 14))
    (chk (0 ≤ i ∧ i < (lenL m.frun.fClasses)) <|
     some (T_embed_machine.mk m.fl m.fmatch m.fbase (T_embed_Run.mk (setL m.frun.fLevels i v.flevel) (setL m.frun.fClasses i v.foverride) m.frun.fRemoved) m.fopen m.fisolates m.fembeddings m.fvalid))
    (some (T_embed_machine.mk m.fl m.fmatch m.fbase (T_embed_Run.mk (setL m.frun.fLevels i v.flevel) m.frun.fClasses m.frun.fRemoved) m.fopen m.fisolates m.fembeddings m.fvalid))

/-- (*lapwing/embed.machine).remove -/
noncomputable def m_remove (m : T_embed_machine) (i : Int) : Option (T_embed_machine) :=
  bindO (ss_last m.fopen) fun v =>
  chk (0 ≤ i ∧ i < (lenL m.frun.fLevels)) <|
  chk (0 ≤ i ∧ i < (lenL m.frun.fRemoved)) <|
  some (T_embed_machine.mk m.fl m.fmatch m.fbase (T_embed_Run.mk (setL m.frun.fLevels i v.flevel) m.frun.fClasses (setL m.frun.fRemoved i true)) m.fopen m.fisolates m.fembeddings m.fvalid)

/-- (*lapwing/embed.machine).embed -/
noncomputable def m_embed (m : T_embed_machine) (i : Int) (c' : Int) : Option (T_embed_machine) :=
  bindO (m_remove m i) fun v =>
  bindO (m_next v (if (c' == 17) = true then true else (c' == 18))) fun v1 =>
  let level := v1.1
  let may := v1.2
  iteO (!may)
    (iteO (v.fisolates == 0)
       (chk (inR .i64 (v.fembeddings + 1)) <|
        some (T_embed_machine.mk v.fl v.fmatch v.fbase v.frun v.fopen v.fisolates (v.fembeddings + 1) v.fvalid))
       (some v))
    (cutO (iteO (c' == 18)
         (some (.go 2))
         (iteO (c' == 16)
            (some (.go 1))
            (some (.go 14)))) fun override =>
     bindO (ss_push v.fopen (T_embed_status.mk level override false)) fun v2 =>
     some (T_embed_machine.mk v.fl v.fmatch v.fbase v.frun v2 v.fisolates v.fembeddings v.fvalid))

/-- (*lapwing/embed.machine).isolate -/
noncomputable def m_isolate (m : T_embed_machine) (i : Int) (c' : Int) : Option (T_embed_machine) :=
  let odd := (c' == 21)
  cutO (iteO (c' == 22)
      (chk (inR .i64 (i + 1)) <|
       chk (0 ≤ i ∧ i < (lenL m.fmatch)) <|
       bindO (embed_base_ m.fl m.fmatch (i + 1) (getL 0 m.fmatch i)) fun v3 =>
       let odd2 := (v3 == 1)
       some (.go odd2))
      (some (.go odd))) fun odd1 =>
  bindO (m_take m i) fun v =>
  bindO (m_next v odd1) fun v1 =>
  let level := v1.1
  let may := v1.2
  iteO (!may)
    (chk (inR .i64 (v.fisolates + 1)) <|
     some (T_embed_machine.mk v.fl v.fmatch v.fbase v.frun v.fopen (v.fisolates + 1) v.fembeddings v.fvalid))
    (chk (inR .i64 (v.fvalid + 1)) <|
     bindO (ss_push v.fopen (T_embed_status.mk level 14 true)) fun v2 =>
     some (T_embed_machine.mk v.fl v.fmatch v.fbase v.frun v2 v.fisolates v.fembeddings (v.fvalid + 1)))

/-- (*lapwing/embed.machine).endIsolate -/
noncomputable def m_endIsolate (m : T_embed_machine) : Option (T_embed_machine) :=
  iteO (decide (0 < m.fisolates))
    (chk (inR .i64 (m.fisolates - 1)) <|
     some (T_embed_machine.mk m.fl m.fmatch m.fbase m.frun m.fopen (m.fisolates - 1) m.fembeddings m.fvalid))
    (iteO (m.fvalid == 0)
       (some m)
       (cutO (loopO (fun (o1 : List T_embed_status) =>
              bindO (ss_last (T_embed_status_.mk o1)) fun v1 =>
              iteO (!v1.fisolate)
                (bindO (ss_pop (T_embed_status_.mk o1)) fun v2 =>
                 some (.go v2.fl))
                (some (.out (.go o1)))) m.fopen.fl) fun o =>
        bindO (ss_pop (T_embed_status_.mk o)) fun v =>
        chk (inR .i64 (m.fvalid - 1)) <|
        some (T_embed_machine.mk m.fl m.fmatch m.fbase m.frun v m.fisolates 0 (m.fvalid - 1))))

/-- (*lapwing/embed.machine).endEmbedding -/
noncomputable def m_endEmbedding (m : T_embed_machine) : Option (T_embed_machine) :=
  iteO (decide (0 < m.fisolates))
    (some m)
    (iteO (decide (0 < m.fembeddings))
       (chk (inR .i64 (m.fembeddings - 1)) <|
        some (T_embed_machine.mk m.fl m.fmatch m.fbase m.frun m.fopen m.fisolates (m.fembeddings - 1) m.fvalid))
       (bindO (ss_last m.fopen) fun v =>
        bindO (if (!v.fisolate) = true then ss_size m.fopen else some 0) fun v1 =>
        iteO (if (!v.fisolate) = true then (decide (2 ≤ v1)) else false)
          (bindO (ss_pop m.fopen) fun v2 =>
           some (T_embed_machine.mk m.fl m.fmatch m.fbase m.frun v2 m.fisolates m.fembeddings m.fvalid))
          (some m)))

/-- lapwing/embed.Explicit -/
noncomputable def embed_Explicit (l' : (List Int)) (base : Int) : Option T_embed_Run :=
  cutO (bindO (embed_known l') fun v12 =>
    bindO (embed_Match v12) fun v13 =>
    bindO (embed_parity base) fun v14 =>
    chk (makeOk 8 (lenL v12) (lenL v12)) <|
    chk (growOk 8 (lenL v12)) <|
    chk (makeOk 1 (lenL v12) (lenL v12)) <|
    some (.go (v12, v12, v13, v14, (repL (lenL v12) 0), v12, (repL (lenL v12) false), ([] : List T_embed_status)))) fun (l'1, b5_0, b5_1, b5_2, o, o1, o2, o3) =>
  bindO (ss_push (T_embed_status_.mk o3) (T_embed_status.mk b5_2 14 false)) fun v =>
  cutO (loopO (fun ((v1, b5_02, b5_12, b5_22, b5_71, b5_81, b5_91, o8, o9, o10, o11) : Int × List Int × List Int × Int × Int × Int × Int × List Int × List Int × List Bool × List T_embed_status) =>
        iteO (decide (v1 < (lenL l'1)))
          (cutO (chk (0 ≤ v1 ∧ v1 < (lenL l'1)) <|
             let c' := (getL 0 l'1 v1)
             cutO (iteO (c' == 17)
                 (some (.go (c' == 17)))
                 (iteO (c' == 15)
                    (some (.go (c' == 15)))
                    (iteO (c' == 18)
                       (some (.go (c' == 18)))
                       (some (.go (c' == 16)))))) fun v2 =>
             iteO v2
               (bindO (m_embed (T_embed_machine.mk b5_02 b5_12 b5_22 (T_embed_Run.mk o8 o9 o10) (T_embed_status_.mk o11) b5_71 b5_81 b5_91) v1 c') fun v3 =>
                some (.go (v3.fl, v3.fmatch, v3.fbase, v3.fisolates, v3.fembeddings, v3.fvalid, v3.frun.fLevels, v3.frun.fClasses, v3.frun.fRemoved, v3.fopen.fl)))
               (cutO (iteO (c' == 21)
                    (some (.go (c' == 21)))
                    (iteO (c' == 20)
                       (some (.go (c' == 20)))
                       (some (.go (c' == 22))))) fun v4 =>
                iteO v4
                  (bindO (m_isolate (T_embed_machine.mk b5_02 b5_12 b5_22 (T_embed_Run.mk o8 o9 o10) (T_embed_status_.mk o11) b5_71 b5_81 b5_91) v1 c') fun v5 =>
                   some (.go (v5.fl, v5.fmatch, v5.fbase, v5.fisolates, v5.fembeddings, v5.fvalid, v5.frun.fLevels, v5.frun.fClasses, v5.frun.fRemoved, v5.fopen.fl)))
                  (iteO (c' == 23)
                     (bindO (m_endIsolate (T_embed_machine.mk b5_02 b5_12 b5_22 (T_embed_Run.mk o8 o9 o10) (T_embed_status_.mk o11) b5_71 b5_81 b5_91)) fun v6 =>
                      bindO (m_take v6 v1) fun v7 =>
                      some (.go (v7.fl, v7.fmatch, v7.fbase, v7.fisolates, v7.fembeddings, v7.fvalid, v7.frun.fLevels, v7.frun.fClasses, v7.frun.fRemoved, v7.fopen.fl)))
                     (iteO (c' == 19)
                        (bindO (m_remove (T_embed_machine.mk b5_02 b5_12 b5_22 (T_embed_Run.mk o8 o9 o10) (T_embed_status_.mk o11) b5_71 b5_81 b5_91) v1) fun v8 =>
                         bindO (m_endEmbedding v8) fun v9 =>
                         some (.go (v9.fl, v9.fmatch, v9.fbase, v9.fisolates, v9.fembeddings, v9.fvalid, v9.frun.fLevels, v9.frun.fClasses, v9.frun.fRemoved, v9.fopen.fl)))
                        (iteO (c' == 11)
                           (chk (0 ≤ v1 ∧ v1 < (lenL o8)) <|
                            some (.go (b5_02, b5_12, b5_22, b5_71, b5_81, b5_91, (setL o8 v1 b5_22), o9, o10, o11)))
                           (iteO (c' == 10)
                              (bindO (m_remove (T_embed_machine.mk b5_02 b5_12 b5_22 (T_embed_Run.mk o8 o9 o10) (T_embed_status_.mk o11) b5_71 b5_81 b5_91) v1) fun v10 =>
                               some (.go (v10.fl, v10.fmatch, v10.fbase, v10.fisolates, v10.fembeddings, v10.fvalid, v10.frun.fLevels, v10.frun.fClasses, v10.frun.fRemoved, v10.fopen.fl)))
                              (bindO (m_take (T_embed_machine.mk b5_02 b5_12 b5_22 (T_embed_Run.mk o8 o9 o10) (T_embed_status_.mk o11) b5_71 b5_81 b5_91) v1) fun v11 =>
                               some (.go (v11.fl, v11.fmatch, v11.fbase, v11.fisolates, v11.fembeddings, v11.fvalid, v11.frun.fLevels, v11.frun.fClasses, v11.frun.fRemoved, v11.fopen.fl))))))))) fun (b5_03, b5_13, b5_23, b5_72, b5_82, b5_92, o12, o13, o14, o15) =>
           chk (inR .i64 (v1 + 1)) <|
           some (.go ((v1 + 1), b5_03, b5_13, b5_23, b5_72, b5_82, b5_92, o12, o13, o14, o15)))
          (some (.out (.go (b5_02, b5_12, b5_22, b5_71, b5_81, b5_91, o8, o9, o10, o11))))) (0, b5_0, b5_1, b5_2, 0, 0, 0, o, o1, o2, v.fl)) fun (b5_01, b5_11, b5_21, b5_7, b5_8, b5_9, o4, o5, o6, o7) =>
  some (T_embed_Run.mk o4 o5 o6)

/-- lapwing/embed.runs -/
noncomputable def embed_runs (r' : T_embed_Run) : Option (List (List Int)) :=
  cutO (loopO (fun ((v, out1) : Int × List (List Int)) =>
        iteO (decide (v < (lenL r'.fRemoved)))
          (chk (0 ≤ v ∧ v < (lenL r'.fRemoved)) <|
           let gone := (getL false r'.fRemoved v)
           iteO gone
             (chk (inR .i64 (v + 1)) <|
              some (.go ((v + 1), out1)))
             (let n := (lenL out1)
              chk ((!(n == 0)) = true → inR .i64 (n - 1)) <|
              chk ((!(n == 0)) = true → 0 ≤ (n - 1) ∧ (n - 1) < (lenL out1)) <|
              chk ((!(n == 0)) = true → (0 : Int) ≤ 0 ∧ (0 : Int) < (lenL (getL [] out1 ((lenL out1) - 1)))) <|
              chk ((!(n == 0)) = true → 0 ≤ (getL 0 (getL [] out1 ((lenL out1) - 1)) (0 + 0)) ∧ (getL 0 (getL [] out1 ((lenL out1) - 1)) (0 + 0)) < (lenL r'.fLevels)) <|
              chk ((!(n == 0)) = true → 0 ≤ v ∧ v < (lenL r'.fLevels)) <|
              iteO (if (n == 0) = true then true else (!((getL 0 r'.fLevels (getL 0 (getL [] out1 ((lenL out1) - 1)) (0 + 0))) == (getL 0 r'.fLevels v))))
                (chk (growOk 24 ((lenL out1) + 1)) <|
                 chk (inR .i64 (v + 1)) <|
                 some (.go ((v + 1), (out1 ++ ([([v] : List Int)] : List (List Int))))))
                (chk (inR .i64 (n - 1)) <|
                 chk (inR .i64 (n - 1)) <|
                 chk (0 ≤ (n - 1) ∧ (n - 1) < (lenL out1)) <|
                 chk (growOk 8 ((lenL (getL [] out1 ((lenL out1) - 1))) + 1)) <|
                 chk (0 ≤ (n - 1) ∧ (n - 1) < (lenL out1)) <|
                 chk (inR .i64 (v + 1)) <|
                 some (.go ((v + 1), (setL out1 (n - 1) ((getL [] out1 ((lenL out1) - 1)) ++ ([v] : List Int))))))))
          (some (.out (.go out1)))) (0, ([] : List (List Int)))) fun out =>
  some out

/-- lapwing/embed.Sequences -/
noncomputable def embed_Sequences (l' : (List Int)) (r' : T_embed_Run) (base : Int) : Option (List (List Int)) :=
  bindO (embed_fits l' r') fun v =>
  iteO (!v)
    (some ([] : List (List Int)))
    (bindO (embed_Match l') fun v1 =>
     bindO (embed_runs r') fun v2 =>
     chk (inR .i64 ((lenL l') + 1)) <|
     chk (makeOk 8 ((lenL l') + 1) ((lenL l') + 1)) <|
     cutO (loopO (fun ((v7, heads3) : Int × List Int) =>
           iteO (decide (v7 < ((lenL l') + 1)))
             (chk (0 ≤ v7 ∧ v7 < ((lenL l') + 1)) <|
              chk (inR .i64 (v7 + 1)) <|
              some (.go ((v7 + 1), (setL heads3 v7 (-1)))))
             (some (.out (.go heads3)))) (0, (repL ((lenL l') + 1) 0))) fun heads =>
     cutO (loopO (fun ((v6, heads2) : Int × List Int) =>
           iteO (decide (v6 < (lenL v2)))
             (chk (0 ≤ v6 ∧ v6 < (lenL v2)) <|
              chk ((0 : Int) ≤ 0 ∧ (0 : Int) < (lenL (getL [] v2 (0 + v6)))) <|
              chk (0 ≤ (getL 0 (getL [] v2 (0 + v6)) 0) ∧ (getL 0 (getL [] v2 (0 + v6)) 0) < ((lenL l') + 1)) <|
              chk (inR .i64 (v6 + 1)) <|
              some (.go ((v6 + 1), (setL heads2 (getL 0 (getL [] v2 (0 + v6)) 0) v6))))
             (some (.out (.go heads2)))) (0, heads)) fun heads1 =>
     chk (makeOk 8 (lenL v2) (lenL v2)) <|
     chk (makeOk 1 (lenL v2) (lenL v2)) <|
     cutO (loopO (fun ((v4, behind1, joined1) : Int × List Int × List Bool) =>
           iteO (decide (v4 < (lenL v2)))
             (chk (0 ≤ v4 ∧ v4 < (lenL v2)) <|
              chk (0 ≤ v4 ∧ v4 < (lenL v2)) <|
              chk (inR .i64 ((lenL (getL [] v2 (0 + v4))) - 1)) <|
              chk (0 ≤ ((lenL (getL [] v2 (0 + v4))) - 1) ∧ ((lenL (getL [] v2 (0 + v4))) - 1) < (lenL (getL [] v2 (0 + v4)))) <|
              let end' := (getL 0 (getL [] v2 (0 + v4)) ((lenL (getL [] v2 (0 + v4))) - 1))
              chk (0 ≤ end' ∧ end' < (lenL l')) <|
              bindO (embed_isolate (getL 0 l' end')) fun v5 =>
              iteO (!v5)
                (chk (inR .i64 (v4 + 1)) <|
                 some (.go ((v4 + 1), (setL behind1 v4 (-1)), joined1)))
                (chk (0 ≤ end' ∧ end' < (lenL v1)) <|
                 chk (0 ≤ (getL 0 v1 (0 + end')) ∧ (getL 0 v1 (0 + end')) < ((lenL l') + 1)) <|
                 let to := (getL 0 heads1 (0 + (getL 0 v1 (0 + end'))))
                 iteO (decide (0 ≤ to))
                   (chk (0 ≤ v4 ∧ v4 < (lenL v2)) <|
                    chk (0 ≤ to ∧ to < (lenL v2)) <|
                    chk (inR .i64 (v4 + 1)) <|
                    some (.go ((v4 + 1), (setL (setL behind1 v4 (-1)) v4 to), (setL joined1 to true))))
                   (chk (inR .i64 (v4 + 1)) <|
                    some (.go ((v4 + 1), (setL behind1 v4 (-1)), joined1)))))
             (some (.out (.go (behind1, joined1))))) (0, (repL (lenL v2) 0), (repL (lenL v2) false))) fun (behind, joined) =>
     cutO (loopO (fun ((v3, out1) : Int × List (List Int)) =>
           iteO (decide (v3 < (lenL v2)))
             (cutO (chk (0 ≤ v3 ∧ v3 < (lenL v2)) <|
                iteO (getL false joined (0 + v3))
                  (some (.go out1))
                  (cutO (loopO (fun ((at', seq1) : Int × List Int) =>
                         iteO (decide (0 ≤ at'))
                           (chk (0 ≤ at' ∧ at' < (lenL v2)) <|
                            chk (growOk 8 ((lenL seq1) + (lenL (getL [] v2 (0 + at'))))) <|
                            chk (0 ≤ at' ∧ at' < (lenL v2)) <|
                            let at'1 := (getL 0 behind (0 + at'))
                            some (.go (at'1, (seq1 ++ (getL [] v2 (0 + at'))))))
                           (some (.out (.go seq1)))) (v3, ([] : List Int))) fun seq =>
                   chk (growOk 24 ((lenL out1) + 1)) <|
                   some (.go (out1 ++ ([seq] : List (List Int)))))) fun out2 =>
              chk (inR .i64 (v3 + 1)) <|
              some (.go ((v3 + 1), out2)))
             (some (.out (.go out1)))) (0, ([] : List (List Int)))) fun out =>
     some out)

/-- lapwing/embed.Edges -/
noncomputable def embed_Edges (l' : (List Int)) (r' : T_embed_Run) (base : Int) (seq : (List Int)) : Option (Int × Int) :=
  bindO (embed_fits l' r') fun v =>
  iteO (if (!v) = true then true else ((lenL seq) == 0))
    (some (0, 0))
    (cutO (loopO (fun (v7 : Int) =>
           iteO (decide (v7 < (lenL seq)))
             (chk (0 ≤ v7 ∧ v7 < (lenL seq)) <|
              let at' := (getL 0 seq v7)
              iteO (if (decide (at' < 0)) = true then true else (decide ((lenL l') ≤ at')))
                (some (.out (.out (0, 0))))
                (chk (inR .i64 (v7 + 1)) <|
                 some (.go (v7 + 1))))
             (some (.out (.go ())))) 0) fun (_ : Unit) =>
     chk ((0 : Int) ≤ 0 ∧ (0 : Int) < (lenL seq)) <|
     chk (inR .i64 ((lenL seq) - 1)) <|
     chk (0 ≤ ((lenL seq) - 1) ∧ ((lenL seq) - 1) < (lenL seq)) <|
     let first := (getL 0 seq 0)
     let last := (getL 0 seq ((lenL seq) - 1))
     bindO (embed_parity base) fun v1 =>
     bindO (embed_parity base) fun v2 =>
     cutO (chk (inR .i64 (first - 1)) <|
       let i3 := (first - 1)
       loopO (fun (i4 : Int) =>
           iteO (decide (0 ≤ i4))
             (chk (0 ≤ i4 ∧ i4 < (lenL r'.fRemoved)) <|
              iteO (!(getL false r'.fRemoved i4))
                (chk (0 ≤ i4 ∧ i4 < (lenL r'.fLevels)) <|
                 let ahead1 := (getL 0 r'.fLevels i4)
                 some (.out (.go ahead1)))
                (chk (inR .i64 (i4 - 1)) <|
                 let i5 := (i4 - 1)
                 some (.go i5)))
             (some (.out (.go v1)))) i3) fun ahead =>
     cutO (chk (0 ≤ last ∧ last < (lenL l')) <|
       bindO (embed_isolate (getL 0 l' last)) fun v5 =>
       bindO (if (!(!v5)) = true then embed_Match l' else some []) fun v6 =>
       chk ((!(!v5)) = true → 0 ≤ last ∧ last < (lenL v6)) <|
       iteO (if (!v5) = true then true else (decide ((getL 0 v6 last) < (lenL l'))))
         (chk (inR .i64 (last + 1)) <|
          let i := (last + 1)
          loopO (fun (i1 : Int) =>
              iteO (decide (i1 < (lenL l')))
                (chk (0 ≤ i1 ∧ i1 < (lenL r'.fRemoved)) <|
                 iteO (!(getL false r'.fRemoved i1))
                   (chk (0 ≤ i1 ∧ i1 < (lenL r'.fLevels)) <|
                    let behind1 := (getL 0 r'.fLevels i1)
                    some (.out (.go behind1)))
                   (chk (inR .i64 (i1 + 1)) <|
                    let i2 := (i1 + 1)
                    some (.go i2)))
                (some (.out (.go v2)))) i)
         (some (.go v2))) fun behind =>
     chk (0 ≤ first ∧ first < (lenL r'.fLevels)) <|
     let level := (getL 0 r'.fLevels first)
     bindO (embed_side (imaxI level ahead)) fun v3 =>
     bindO (embed_side (imaxI level behind)) fun v4 =>
     some (v3, v4))

/-- lapwing/lapwingref03.Ints -/
noncomputable def lapwingref03_Ints (a : (List Int)) (b : (List Int)) : Option Bool :=
  iteO (!((lenL a) == (lenL b)))
    (some false)
    (cutO (loopO (fun (i : Int) =>
           iteO (decide (i < (lenL a)))
             (chk (0 ≤ i ∧ i < (lenL a)) <|
              chk (0 ≤ i ∧ i < (lenL b)) <|
              iteO (!((getL 0 a i) == (getL 0 b i)))
                (some (.out (.out false)))
                (chk (inR .i64 (i + 1)) <|
                 let i1 := (i + 1)
                 some (.go i1)))
             (some (.out (.go ())))) 0) fun (_ : Unit) =>
     some true)

/-- lapwing/lapwinglaw17.awake -/
noncomputable def lapwinglaw17_awake  : Option Bool :=
  bindO (embed_Explicit ([1, 17, 2, 19, 1] : List Int) 0) fun v =>
  bindO (lapwingref03_Ints v.fLevels ([0, 0, 1, 1, 0] : List Int)) fun v1 =>
  chk ((if v1 = true then ((lenL v.fRemoved) == 5) else false) = true → (0 : Int) ≤ 1 ∧ (1 : Int) < (lenL v.fRemoved)) <|
  chk ((if (if v1 = true then ((lenL v.fRemoved) == 5) else false) = true then (getL false v.fRemoved 1) else false) = true → (0 : Int) ≤ 2 ∧ (2 : Int) < (lenL v.fRemoved)) <|
  bindO (if (if (if (if v1 = true then ((lenL v.fRemoved) == 5) else false) = true then (getL false v.fRemoved 1) else false) = true then (!(getL false v.fRemoved 2)) else false) = true then embed_Base ([14, 3] : List Int) else some 0) fun v2 =>
  some (if (if (if (if v1 = true then ((lenL v.fRemoved) == 5) else false) = true then (getL false v.fRemoved 1) else false) = true then (!(getL false v.fRemoved 2)) else false) = true then (v2 == 1) else false)

/-- lapwing/lapwinglaw17.EmbedOnce -/
noncomputable def lapwinglaw17_EmbedOnce (l' : (List Int)) (base : Int) : Option Bool :=
  bindO (lapwinglaw17_awake) fun v =>
  iteO (decide (300 < (lenL l')))
    (some v)
    (bindO (embed_Explicit l' base) fun v1 =>
     bindO (embed_Sequences l' v1 base) fun v2 =>
     iteO (!((lenL v1.fLevels) == (lenL l')))
       (some false)
       (chk (makeOk 8 (lenL l') (lenL l')) <|
        cutO (loopO (fun ((i2, met1) : Int × List Int) =>
              iteO (decide (i2 < (lenL v2)))
                (cutO (chk (0 ≤ i2 ∧ i2 < (lenL v2)) <|
                   chk (((!((lenL (getL [] v2 (0 + i2))) == 0)) && ((!((lenL (getL [] v2 (0 + i2))) == 0)) && (decide (0 < i2)))) = true → 0 ≤ i2 ∧ i2 < (lenL v2)) <|
                   chk (((!((lenL (getL [] v2 (0 + i2))) == 0)) && ((!((lenL (getL [] v2 (0 + i2))) == 0)) && (decide (0 < i2)))) = true → (0 : Int) ≤ 0 ∧ (0 : Int) < (lenL (getL [] v2 (0 + i2)))) <|
                   chk (((!((lenL (getL [] v2 (0 + i2))) == 0)) && ((!((lenL (getL [] v2 (0 + i2))) == 0)) && (decide (0 < i2)))) = true → inR .i64 (i2 - 1)) <|
                   chk (((!((lenL (getL [] v2 (0 + i2))) == 0)) && ((!((lenL (getL [] v2 (0 + i2))) == 0)) && (decide (0 < i2)))) = true → 0 ≤ (i2 - 1) ∧ (i2 - 1) < (lenL v2)) <|
                   chk (((!((lenL (getL [] v2 (0 + i2))) == 0)) && ((!((lenL (getL [] v2 (0 + i2))) == 0)) && (decide (0 < i2)))) = true → (0 : Int) ≤ 0 ∧ (0 : Int) < (lenL (getL [] v2 (0 + (i2 - 1))))) <|
                   iteO (if ((lenL (getL [] v2 (0 + i2))) == 0) = true then true else (if (decide (0 < i2)) = true then (decide ((getL 0 (getL [] v2 (0 + i2)) 0) ≤ (getL 0 (getL [] v2 (0 + (i2 - 1))) 0))) else false))
                     (some (.out (.out (.out false))))
                     (cutO (loopO (fun ((k', met4) : Int × List Int) =>
                            chk (0 ≤ i2 ∧ i2 < (lenL v2)) <|
                            iteO (decide (k' < (lenL (getL [] v2 (0 + i2)))))
                              (cutO (chk (0 ≤ i2 ∧ i2 < (lenL v2)) <|
                                 chk (0 ≤ k' ∧ k' < (lenL (getL [] v2 (0 + i2)))) <|
                                 let at' := (getL 0 (getL [] v2 (0 + i2)) k')
                                 cutO (chk (((!(if (decide (at' < 0)) = true then true else (decide ((lenL l') ≤ at')))) && ((!(if (decide (at' < 0)) = true then true else (decide ((lenL l') ≤ at')))) && (decide (0 < k')))) = true → 0 ≤ i2 ∧ i2 < (lenL v2)) <|
                                   chk (((!(if (decide (at' < 0)) = true then true else (decide ((lenL l') ≤ at')))) && ((!(if (decide (at' < 0)) = true then true else (decide ((lenL l') ≤ at')))) && (decide (0 < k')))) = true → inR .i64 (k' - 1)) <|
                                   chk (((!(if (decide (at' < 0)) = true then true else (decide ((lenL l') ≤ at')))) && ((!(if (decide (at' < 0)) = true then true else (decide ((lenL l') ≤ at')))) && (decide (0 < k')))) = true → 0 ≤ (k' - 1) ∧ (k' - 1) < (lenL (getL [] v2 (0 + i2)))) <|
                                   chk ((!(if (if (decide (at' < 0)) = true then true else (decide ((lenL l') ≤ at'))) = true then true else (if (decide (0 < k')) = true then (decide (at' ≤ (getL 0 (getL [] v2 (0 + i2)) (k' - 1)))) else false))) = true → 0 ≤ at' ∧ at' < (lenL v1.fLevels)) <|
                                   chk ((!(if (if (decide (at' < 0)) = true then true else (decide ((lenL l') ≤ at'))) = true then true else (if (decide (0 < k')) = true then (decide (at' ≤ (getL 0 (getL [] v2 (0 + i2)) (k' - 1)))) else false))) = true → 0 ≤ i2 ∧ i2 < (lenL v2)) <|
                                   chk ((!(if (if (decide (at' < 0)) = true then true else (decide ((lenL l') ≤ at'))) = true then true else (if (decide (0 < k')) = true then (decide (at' ≤ (getL 0 (getL [] v2 (0 + i2)) (k' - 1)))) else false))) = true → (0 : Int) ≤ 0 ∧ (0 : Int) < (lenL (getL [] v2 (0 + i2)))) <|
                                   chk ((!(if (if (decide (at' < 0)) = true then true else (decide ((lenL l') ≤ at'))) = true then true else (if (decide (0 < k')) = true then (decide (at' ≤ (getL 0 (getL [] v2 (0 + i2)) (k' - 1)))) else false))) = true → 0 ≤ (getL 0 (getL [] v2 (0 + i2)) 0) ∧ (getL 0 (getL [] v2 (0 + i2)) 0) < (lenL v1.fLevels)) <|
                                   iteO (if (if (if (decide (at' < 0)) = true then true else (decide ((lenL l') ≤ at'))) = true then true else (if (decide (0 < k')) = true then (decide (at' ≤ (getL 0 (getL [] v2 (0 + i2)) (k' - 1)))) else false)) = true then true else (!((getL 0 v1.fLevels at') == (getL 0 v1.fLevels (getL 0 (getL [] v2 (0 + i2)) 0)))))
                                     (some (.out (.out (.out (.out (.out (.out (.out false))))))))
                                     (some (.go ()))) fun (_ : Unit) =>
                                 chk (0 ≤ at' ∧ at' < (lenL l')) <|
                                 chk (inR .i64 ((getL 0 met4 (0 + at')) + 1)) <|
                                 chk (0 ≤ at' ∧ at' < (lenL l')) <|
                                 some (.go ())) fun (_ : Unit) =>
                               chk (inR .i64 (k' + 1)) <|
                               let k'1 := (k' + 1)
                               some (.go (k'1, (setL met4 (getL 0 (getL [] v2 (0 + i2)) k') ((getL 0 met4 (0 + (getL 0 (getL [] v2 (0 + i2)) k'))) + 1)))))
                              (some (.out (.go met4)))) (0, met1)) fun met3 =>
                      chk (0 ≤ i2 ∧ i2 < (lenL v2)) <|
                      bindO (embed_Edges l' v1 base (getL [] v2 (0 + i2))) fun v3 =>
                      let a := v3.1
                      let b := v3.2
                      iteO (if (if (if (decide (a < 1)) = true then true else (decide (2 < a))) = true then true else (decide (b < 1))) = true then true else (decide (2 < b)))
                        (some (.out (.out (.out false))))
                        (some (.go met3)))) fun met2 =>
                 chk (inR .i64 (i2 + 1)) <|
                 let i3 := (i2 + 1)
                 some (.go (i3, met2)))
                (some (.out (.go met1)))) (0, (repL (lenL l') 0))) fun met =>
        cutO (loopO (fun (i : Int) =>
              iteO (decide (i < (lenL l')))
                (chk (0 ≤ i ∧ i < (lenL v1.fRemoved)) <|
                 chk ((getL false v1.fRemoved i) = true → 0 ≤ i ∧ i < (lenL l')) <|
                 chk ((!(if (getL false v1.fRemoved i) = true then (!((getL 0 met (0 + i)) == 0)) else false)) = true → 0 ≤ i ∧ i < (lenL v1.fRemoved)) <|
                 chk (((!(if (getL false v1.fRemoved i) = true then (!((getL 0 met (0 + i)) == 0)) else false)) && ((!(if (getL false v1.fRemoved i) = true then (!((getL 0 met (0 + i)) == 0)) else false)) && (!(getL false v1.fRemoved i)))) = true → 0 ≤ i ∧ i < (lenL l')) <|
                 iteO (if (if (getL false v1.fRemoved i) = true then (!((getL 0 met (0 + i)) == 0)) else false) = true then true else (if (!(getL false v1.fRemoved i)) = true then (!((getL 0 met (0 + i)) == 1)) else false))
                   (some (.out (.out false)))
                   (chk (inR .i64 (i + 1)) <|
                    let i1 := (i + 1)
                    some (.go i1)))
                (some (.out (.go ())))) 0) fun (_ : Unit) =>
        some v))
end Go.Vx
