/- Lifted functions, by program (lift.py). -/
import Derived.Test.YtgkpmoapkjlopaaVxNat
set_option linter.all false
namespace Go.Vx
structure T_Arr2_i64 where
  x0 : Int
  x1 : Int
def d_Arr2_i64 : T_Arr2_i64 := ⟨0, 0⟩
structure T_lapwingref01_Row where
  fLo : Int
  fHi : Int
  fV : Int
def d_lapwingref01_Row : T_lapwingref01_Row := ⟨0, 0, 0⟩
structure T_lapwingref01_Table where
  fL : (List T_lapwingref01_Row)
def d_lapwingref01_Table : T_lapwingref01_Table := ⟨[]⟩
structure T_lapwingref02_Pair where
  fA : Int
  fB : Int
def d_lapwingref02_Pair : T_lapwingref02_Pair := ⟨0, 0⟩
structure T_lapwingref02_Form where
  fR : Int
  fAt : Int
  fN : Int
def d_lapwingref02_Form : T_lapwingref02_Form := ⟨0, 0, 0⟩
structure T_lapwingref02_Data where
  fClass : T_lapwingref01_Table
  fWide : T_lapwingref01_Table
  fJoin : T_lapwingref01_Table
  fMirror : (List T_lapwingref02_Pair)
  fBrackets : (List T_lapwingref02_Pair)
  fForms : (List T_lapwingref02_Form)
def d_lapwingref02_Data : T_lapwingref02_Data := ⟨d_lapwingref01_Table, d_lapwingref01_Table, d_lapwingref01_Table, [], [], []⟩
structure T_ranges_Row where
  fLo : Int
  fHi : Int
  fV : Int
def d_ranges_Row : T_ranges_Row := ⟨0, 0, 0⟩
structure T_ranges_Table where
  fL : (List T_ranges_Row)
def d_ranges_Table : T_ranges_Table := ⟨[]⟩
structure T_ucd_Pair where
  fA : Int
  fB : Int
def d_ucd_Pair : T_ucd_Pair := ⟨0, 0⟩
structure T_ucd_Form where
  fR : Int
  fAt : Int
  fN : Int
def d_ucd_Form : T_ucd_Form := ⟨0, 0, 0⟩
structure T_ucd_Data where
  fClass : T_ranges_Table
  fWide : T_ranges_Table
  fJoin : T_ranges_Table
  fMirror : (List T_ucd_Pair)
  fBrackets : (List T_ucd_Pair)
  fForms : (List T_ucd_Form)
def d_ucd_Data : T_ucd_Data := ⟨d_ranges_Table, d_ranges_Table, d_ranges_Table, [], [], []⟩

/-- lapwing/lapwingref03.Ints -/
noncomputable def lapwingref03_Ints (a : (List Int)) (b : (List Int)) : Option Bool :=
  iteO (!((lenL a) == (lenL b)))
    (some false)
    (cutO (loopO (fun (i : Int) =>
           iteO (decide (i < (lenL a)))
             (chk (0 ≤ i ∧ i < (lenL a)) <|
              chk (0 ≤ i ∧ i < (lenL b)) <|
              iteO (!((getL 0 a i) == (getL 0 b i)))
                (some (.out (.out false)))
                (chk (inR .i64 (i + 1)) <|
                 let i1 := (i + 1)
                 some (.go i1)))
             (some (.out (.go ())))) 0) fun (_ : Unit) =>
     some true)

/-- lapwing/order.Invert -/
noncomputable def order_Invert (l' : (List Int)) : Option ((List Int) × Bool) :=
  chk (makeOk 8 (lenL l') (lenL l')) <|
  cutO (loopO (fun ((v1, out3) : Int × List Int) =>
        iteO (decide (v1 < (lenL l')))
          (chk (0 ≤ v1 ∧ v1 < (lenL l')) <|
           chk (inR .i64 (v1 + 1)) <|
           some (.go ((v1 + 1), (setL out3 v1 (-1)))))
          (some (.out (.go out3)))) (0, (repL (lenL l') 0))) fun out =>
  cutO (loopO (fun ((v, out2) : Int × List Int) =>
        iteO (decide (v < (lenL l')))
          (chk (0 ≤ v ∧ v < (lenL l')) <|
           let x' := (getL 0 l' v)
           chk ((!(if (decide (x' < 0)) = true then true else (decide ((lenL l') ≤ x')))) = true → 0 ≤ x' ∧ x' < (lenL l')) <|
           iteO (if (if (decide (x' < 0)) = true then true else (decide ((lenL l') ≤ x'))) = true then true else (decide (0 ≤ (getL 0 out2 (0 + x')))))
             (some (.out (.out (([] : List Int), false))))
             (chk (0 ≤ x' ∧ x' < (lenL l')) <|
              chk (inR .i64 (v + 1)) <|
              some (.go ((v + 1), (setL out2 x' v)))))
          (some (.out (.go out2)))) (0, out)) fun out1 =>
  some (out1, true)

/-- lapwing/order.Runs -/
noncomputable def order_Runs (levels : (List Int)) : Option (List T_Arr2_i64) :=
  cutO (loopO (fun ((from', out1) : Int × List T_Arr2_i64) =>
        iteO (decide (from' < (lenL levels)))
          (cutO (chk (inR .i64 (from' + 1)) <|
             let to := (from' + 1)
             loopO (fun (to1 : Int) =>
                 iteO (decide (to1 < (lenL levels)))
                   (chk (0 ≤ to1 ∧ to1 < (lenL levels)) <|
                    chk (0 ≤ from' ∧ from' < (lenL levels)) <|
                    iteO (!((getL 0 levels to1) == (getL 0 levels from')))
                      (chk (growOk 16 ((lenL out1) + 1)) <|
                       some (.out (.out (.go (to1, (out1 ++ ([(T_Arr2_i64.mk from' to1)] : List T_Arr2_i64)))))))
                      (chk (inR .i64 (to1 + 1)) <|
                       let to2 := (to1 + 1)
                       some (.go to2)))
                   (some (.out (.go ())))) to) fun (_ : Unit) =>
           chk (growOk 16 ((lenL out1) + 1)) <|
           some (.out (.go (out1 ++ ([(T_Arr2_i64.mk from' (lenL levels))] : List T_Arr2_i64)))))
          (some (.out (.go out1)))) (0, ([] : List T_Arr2_i64))) fun out =>
  some out

/-- slices.Reverse[[]int,int] -/
noncomputable def slices_Reverse___int_int_ (s : List Int) (s_off : Int) (s_n : Int) : Option (List Int) :=
  chk (0 ≤ s_off ∧ 0 ≤ s_n ∧ s_off + s_n ≤ lenL s) <|
  chk (inR .i64 (s_n - 1)) <|
  let j := (s_n - 1)
  loopO (fun ((i, j1, s1) : Int × Int × List Int) =>
      iteO (decide (i < j1))
        (chk (0 ≤ j1 ∧ j1 < s_n) <|
         chk (0 ≤ i ∧ i < s_n) <|
         chk (0 ≤ i ∧ i < s_n) <|
         chk (0 ≤ j1 ∧ j1 < s_n) <|
         chk (inR .i64 (i + 1)) <|
         chk (inR .i64 (j1 - 1)) <|
         let i1 := (i + 1)
         let j2 := (j1 - 1)
         some (.go (i1, j2, (setL (setL s1 (s_off + i) (getL 0 s1 (s_off + j1))) (s_off + j1) (getL 0 s1 (s_off + i))))))
        (some (.out s1))) (0, j, s)

/-- lapwing/order.Visual -/
noncomputable def order_Visual (levels : (List Int)) : Option (List Int) :=
  chk (makeOk 8 (lenL levels) (lenL levels)) <|
  chk (makeOk 8 (lenL levels) (lenL levels)) <|
  cutO (loopO (fun ((most1, least1, v1, l'1, out5) : Int × Int × Int × List Int × List Int) =>
        iteO (decide (v1 < (lenL levels)))
          (chk (0 ≤ v1 ∧ v1 < (lenL levels)) <|
           let x' := (getL 0 levels v1)
           let x'1 := (imaxI 0 (iminI x' 127))
           chk (0 ≤ v1 ∧ v1 < (lenL levels)) <|
           chk (0 ≤ v1 ∧ v1 < (lenL levels)) <|
           let most2 := (imaxI most1 x'1)
           chk ((2 : Int) ≠ 0) <|
           iteO ((Int.tmod x'1 2) == 1)
             (let least2 := (iminI least1 x'1)
              chk (inR .i64 (v1 + 1)) <|
              some (.go (most2, least2, (v1 + 1), (setL l'1 v1 x'1), (setL out5 v1 v1))))
             (chk (inR .i64 (v1 + 1)) <|
              some (.go (most2, least1, (v1 + 1), (setL l'1 v1 x'1), (setL out5 v1 v1)))))
          (some (.out (.go (most1, least1, l'1, out5))))) (0, 128, 0, (repL (lenL levels) 0), (repL (lenL levels) 0))) fun (most, least, l', out) =>
  cutO (loopO (fun ((level, out2) : Int × List Int) =>
        iteO (decide (least ≤ level))
          (cutO (loopO (fun ((from', out4) : Int × List Int) =>
                 iteO (decide (from' < (lenL levels)))
                   (cutO (loopO (fun (to1 : Int) =>
                          chk ((decide (to1 < (lenL levels))) = true → 0 ≤ to1 ∧ to1 < (lenL levels)) <|
                          iteO (if (decide (to1 < (lenL levels))) = true then (decide (level ≤ (getL 0 l' (0 + to1)))) else false)
                            (chk (inR .i64 (to1 + 1)) <|
                             let to2 := (to1 + 1)
                             some (.go to2))
                            (some (.out (.go to1)))) from') fun to =>
                    chk (0 ≤ from' ∧ from' ≤ to ∧ to ≤ (lenL levels)) <|
                    bindO (slices_Reverse___int_int_ out4 (0 + from') (to - from')) fun v =>
                    chk (lenL v = lenL out4) <|
                    chk (inR .i64 (to + 1)) <|
                    let from'1 := (to + 1)
                    some (.go (from'1, v)))
                   (some (.out (.go out4)))) (0, out2)) fun out3 =>
           chk (inR .i64 (level - 1)) <|
           let level1 := (level - 1)
           some (.go (level1, out3)))
          (some (.out (.go out2)))) (most, out)) fun out1 =>
  some out1

/-- lapwing/order.Cells -/
noncomputable def order_Cells (levels : (List Int)) (widths : (List Int)) : Option ((List Int) × Bool) :=
  iteO (!((lenL levels) == (lenL widths)))
    (some (([] : List Int), false))
    (chk (makeOk 8 (lenL widths) (lenL widths)) <|
     cutO (loopO (fun ((n1, v3, starts1) : Int × Int × List Int) =>
           iteO (decide (v3 < (lenL widths)))
             (chk (0 ≤ v3 ∧ v3 < (lenL widths)) <|
              let w := (getL 0 widths v3)
              iteO (if (!(w == 1)) = true then (!(w == 2)) else false)
                (some (.out (.out (([] : List Int), false))))
                (chk (0 ≤ v3 ∧ v3 < (lenL widths)) <|
                 chk (inR .i64 (n1 + w)) <|
                 let n2 := (n1 + w)
                 chk (inR .i64 (v3 + 1)) <|
                 some (.go (n2, (v3 + 1), (setL starts1 v3 n1)))))
             (some (.out (.go (n1, starts1))))) (0, 0, (repL (lenL widths) 0))) fun (n, starts) =>
     chk (makeOk 8 0 n) <|
     cutO (bindO (order_Visual levels) fun v =>
       loopO (fun ((v1, out1) : Int × List Int) =>
           iteO (decide (v1 < (lenL v)))
             (cutO (chk (0 ≤ v1 ∧ v1 < (lenL v)) <|
                let i := (getL 0 v (0 + v1))
                chk (0 ≤ i ∧ i < (lenL widths)) <|
                loopO (fun ((v2, out3) : Int × List Int) =>
                    iteO (decide (v2 < (getL 0 widths i)))
                      (chk (0 ≤ i ∧ i < (lenL widths)) <|
                       chk (inR .i64 ((getL 0 starts (0 + i)) + v2)) <|
                       chk (growOk 8 ((lenL out3) + 1)) <|
                       chk (inR .i64 (v2 + 1)) <|
                       some (.go ((v2 + 1), (out3 ++ ([((getL 0 starts (0 + i)) + v2)] : List Int)))))
                      (some (.out (.go out3)))) (0, out1)) fun out2 =>
              chk (inR .i64 (v1 + 1)) <|
              some (.go ((v1 + 1), out2)))
             (some (.out (.go out1)))) (0, (repL 0 0))) fun out =>
     some (out, true))

/-- lapwing/lapwinglaw19.awake -/
noncomputable def lapwinglaw19_awake  : Option Bool :=
  bindO (order_Invert ([2, 0, 1] : List Int)) fun v =>
  let ok := v.2
  bindO (if ok = true then order_Visual ([0, 1, 1, 0] : List Int) else some []) fun v1 =>
  bindO (if ok = true then lapwingref03_Ints v1 ([0, 2, 1, 3] : List Int) else some false) fun v2 =>
  bindO (if (if ok = true then v2 else false) = true then lapwingref03_Ints v.1 ([1, 2, 0] : List Int) else some false) fun v3 =>
  some (if (if ok = true then v2 else false) = true then v3 else false)

/-- lapwing/lapwingref01.Get -/
noncomputable def lapwingref01_Get (t' : T_lapwingref01_Table) (r' : Int) : Option Int :=
  cutO (loopO (fun (i : Int) =>
        iteO (decide (i < (lenL t'.fL)))
          (chk (0 ≤ i ∧ i < (lenL t'.fL)) <|
           chk ((decide ((getL d_lapwingref01_Row t'.fL i).fLo ≤ r')) = true → 0 ≤ i ∧ i < (lenL t'.fL)) <|
           iteO (if (decide ((getL d_lapwingref01_Row t'.fL i).fLo ≤ r')) = true then (decide (r' ≤ (getL d_lapwingref01_Row t'.fL i).fHi)) else false)
             (chk (0 ≤ i ∧ i < (lenL t'.fL)) <|
              some (.out (.out (getL d_lapwingref01_Row t'.fL i).fV)))
             (chk (inR .i64 (i + 1)) <|
              let i1 := (i + 1)
              some (.go i1)))
          (some (.out (.go ())))) 0) fun (_ : Unit) =>
  some 0

/-- lapwing/lapwingref02.Class -/
noncomputable def lapwingref02_Class (d' : T_lapwingref02_Data) (r' : Int) : Option Int :=
  bindO (lapwingref01_Get d'.fClass r') fun v =>
  some (imaxI 1 v)

/-- lapwing/lapwingref02.Few -/
noncomputable def lapwingref02_Few (d' : T_lapwingref02_Data) : Option Bool :=
  some (if (if (if (if (if (decide ((lenL d'.fClass.fL) ≤ 200)) = true then (decide ((lenL d'.fWide.fL) ≤ 100)) else false) = true then (decide ((lenL d'.fJoin.fL) ≤ 100)) else false) = true then (decide ((lenL d'.fMirror) ≤ 60)) else false) = true then (decide ((lenL d'.fBrackets) ≤ 60)) else false) = true then (decide ((lenL d'.fForms) ≤ 60)) else false)

/-- lapwing/lapwingref19.level -/
noncomputable def lapwingref19_level (n : Int) : Option Int :=
  some (imaxI 0 (iminI n 127))

/-- lapwing/lapwingref19.Visual -/
noncomputable def lapwingref19_Visual (levels : (List Int)) : Option (List Int) :=
  let n := (lenL levels)
  cutO (loopO (fun ((i2, out7) : Int × List Int) =>
        iteO (decide (i2 < n))
          (chk (growOk 8 ((lenL out7) + 1)) <|
           chk (inR .i64 (i2 + 1)) <|
           let i3 := (i2 + 1)
           some (.go (i3, (out7 ++ ([i2] : List Int)))))
          (some (.out (.go out7)))) (0, ([] : List Int))) fun out =>
  cutO (loopO (fun ((at', out2) : Int × List Int) =>
        iteO (decide (1 ≤ at'))
          (cutO (loopO (fun ((i, out4) : Int × List Int) =>
                 iteO (decide (i < n))
                   (cutO (loopO (fun (end'1 : Int) =>
                          chk ((decide (end'1 < n)) = true → 0 ≤ end'1 ∧ end'1 < (lenL out)) <|
                          chk ((decide (end'1 < n)) = true → 0 ≤ (getL 0 out4 (0 + end'1)) ∧ (getL 0 out4 (0 + end'1)) < (lenL levels)) <|
                          bindO (if (decide (end'1 < n)) = true then lapwingref19_level (getL 0 levels (getL 0 out4 (0 + end'1))) else some 0) fun v =>
                          iteO (if (decide (end'1 < n)) = true then (decide (at' ≤ v)) else false)
                            (chk (inR .i64 (end'1 + 1)) <|
                             let end'2 := (end'1 + 1)
                             some (.go end'2))
                            (some (.out (.go end'1)))) i) fun end' =>
                    cutO (loopO (fun ((k', out6) : Int × List Int) =>
                          chk (inR .i64 (end' - i)) <|
                          chk ((2 : Int) ≠ 0) <|
                          chk (inR .i64 (Int.tdiv (end' - i) 2)) <|
                          iteO (decide (k' < (Int.tdiv (end' - i) 2)))
                            (chk (inR .i64 (i + k')) <|
                             chk (0 ≤ (i + k') ∧ (i + k') < (lenL out)) <|
                             let x' := (getL 0 out6 (0 + (i + k')))
                             chk (inR .i64 (i + k')) <|
                             chk (inR .i64 (end' - 1)) <|
                             chk (inR .i64 ((end' - 1) - k')) <|
                             chk (0 ≤ ((end' - 1) - k') ∧ ((end' - 1) - k') < (lenL out)) <|
                             chk (0 ≤ (i + k') ∧ (i + k') < (lenL out)) <|
                             chk (inR .i64 (end' - 1)) <|
                             chk (inR .i64 ((end' - 1) - k')) <|
                             chk (0 ≤ ((end' - 1) - k') ∧ ((end' - 1) - k') < (lenL out)) <|
                             chk (inR .i64 (k' + 1)) <|
                             let k'1 := (k' + 1)
                             some (.go (k'1, (setL (setL out6 (i + k') (getL 0 out6 (0 + ((end' - 1) - k')))) ((end' - 1) - k') x'))))
                            (some (.out (.go out6)))) (0, out4)) fun out5 =>
                    chk (inR .i64 (i + 1)) <|
                    let i1 := (imaxI end' (i + 1))
                    some (.go (i1, out5)))
                   (some (.out (.go out4)))) (0, out2)) fun out3 =>
           chk (inR .i64 (at' - 1)) <|
           let at'1 := (at' - 1)
           some (.go (at'1, out3)))
          (some (.out (.go out2)))) (127, out)) fun out1 =>
  some out1

/-- lapwing/lapwingref19.Cells -/
noncomputable def lapwingref19_Cells (levels : (List Int)) (widths : (List Int)) : Option ((List Int) × Bool) :=
  iteO (!((lenL levels) == (lenL widths)))
    (some (([] : List Int), false))
    (cutO (loopO (fun ((n, i2, at'1) : Int × Int × List Int) =>
           iteO (decide (i2 < (lenL widths)))
             (chk (0 ≤ i2 ∧ i2 < (lenL widths)) <|
              chk ((!((getL 0 widths i2) == 1)) = true → 0 ≤ i2 ∧ i2 < (lenL widths)) <|
              iteO (if (!((getL 0 widths i2) == 1)) = true then (!((getL 0 widths i2) == 2)) else false)
                (some (.out (.out (([] : List Int), false))))
                (chk (growOk 8 ((lenL at'1) + 1)) <|
                 chk (0 ≤ i2 ∧ i2 < (lenL widths)) <|
                 chk (inR .i64 (n + (getL 0 widths i2))) <|
                 let n1 := (n + (getL 0 widths i2))
                 chk (inR .i64 (i2 + 1)) <|
                 let i3 := (i2 + 1)
                 some (.go (n1, i3, (at'1 ++ ([n] : List Int))))))
             (some (.out (.go at'1)))) (0, 0, ([] : List Int))) fun at' =>
     bindO (lapwingref19_Visual levels) fun v =>
     cutO (loopO (fun ((i, out1) : Int × List Int) =>
           iteO (decide (i < (lenL v)))
             (cutO (loopO (fun ((k', out3) : Int × List Int) =>
                    chk (0 ≤ i ∧ i < (lenL v)) <|
                    chk (0 ≤ (getL 0 v (0 + i)) ∧ (getL 0 v (0 + i)) < (lenL widths)) <|
                    iteO (decide (k' < (getL 0 widths (getL 0 v (0 + i)))))
                      (chk (0 ≤ i ∧ i < (lenL v)) <|
                       chk (0 ≤ (getL 0 v (0 + i)) ∧ (getL 0 v (0 + i)) < (lenL at')) <|
                       chk (inR .i64 ((getL 0 at' (0 + (getL 0 v (0 + i)))) + k')) <|
                       chk (growOk 8 ((lenL out3) + 1)) <|
                       chk (inR .i64 (k' + 1)) <|
                       let k'1 := (k' + 1)
                       some (.go (k'1, (out3 ++ ([((getL 0 at' (0 + (getL 0 v (0 + i)))) + k')] : List Int)))))
                      (some (.out (.go out3)))) (0, out1)) fun out2 =>
              chk (inR .i64 (i + 1)) <|
              let i1 := (i + 1)
              some (.go (i1, out2)))
             (some (.out (.go out1)))) (0, ([] : List Int))) fun out =>
     some (out, true))

/-- lapwing/lapwingref19.Invert -/
noncomputable def lapwingref19_Invert (l' : (List Int)) : Option ((List Int) × Bool) :=
  chk (makeOk 8 (lenL l') (lenL l')) <|
  chk (makeOk 1 (lenL l') (lenL l')) <|
  cutO (loopO (fun ((i, out1, met) : Int × List Int × List Bool) =>
        iteO (decide (i < (lenL l')))
          (chk (0 ≤ i ∧ i < (lenL l')) <|
           chk ((!(decide ((getL 0 l' i) < 0))) = true → 0 ≤ i ∧ i < (lenL l')) <|
           chk ((!(if (decide ((getL 0 l' i) < 0)) = true then true else (decide ((lenL l') ≤ (getL 0 l' i))))) = true → 0 ≤ i ∧ i < (lenL l')) <|
           chk ((!(if (decide ((getL 0 l' i) < 0)) = true then true else (decide ((lenL l') ≤ (getL 0 l' i))))) = true → 0 ≤ (getL 0 l' i) ∧ (getL 0 l' i) < (lenL l')) <|
           iteO (if (if (decide ((getL 0 l' i) < 0)) = true then true else (decide ((lenL l') ≤ (getL 0 l' i)))) = true then true else (getL false met (0 + (getL 0 l' i))))
             (some (.out (.out (([] : List Int), false))))
             (chk (0 ≤ i ∧ i < (lenL l')) <|
              chk (0 ≤ (getL 0 l' i) ∧ (getL 0 l' i) < (lenL l')) <|
              chk (0 ≤ i ∧ i < (lenL l')) <|
              chk (0 ≤ (getL 0 l' i) ∧ (getL 0 l' i) < (lenL l')) <|
              chk (inR .i64 (i + 1)) <|
              let i1 := (i + 1)
              some (.go (i1, (setL out1 (getL 0 l' i) i), (setL met (getL 0 l' i) true)))))
          (some (.out (.go out1)))) (0, (repL (lenL l') 0), (repL (lenL l') false))) fun out =>
  some (out, true)

/-- lapwing/lapwingref19.Runs -/
noncomputable def lapwingref19_Runs (levels : (List Int)) : Option (List T_Arr2_i64) :=
  cutO (loopO (fun ((from', i, out1) : Int × Int × List T_Arr2_i64) =>
        iteO (decide (i ≤ (lenL levels)))
          (chk ((!(i == (lenL levels))) = true → 0 ≤ i ∧ i < (lenL levels)) <|
           chk ((!(i == (lenL levels))) = true → 0 ≤ from' ∧ from' < (lenL levels)) <|
           iteO (if (i == (lenL levels)) = true then true else (!((getL 0 levels i) == (getL 0 levels from'))))
             (chk (growOk 16 ((lenL out1) + 1)) <|
              chk (inR .i64 (i + 1)) <|
              let i1 := (i + 1)
              some (.go (i, i1, (out1 ++ ([(T_Arr2_i64.mk from' i)] : List T_Arr2_i64)))))
             (chk (inR .i64 (i + 1)) <|
              let i2 := (i + 1)
              some (.go (from', i2, out1))))
          (some (.out (.go out1)))) (0, 1, ([] : List T_Arr2_i64))) fun out =>
  some out

/-- lapwing/lapwingref18.Pairwise -/
noncomputable def lapwingref18_Pairwise (a : (List T_Arr2_i64)) (b : (List T_Arr2_i64)) : Option Bool :=
  iteO (!((lenL a) == (lenL b)))
    (some false)
    (cutO (loopO (fun (i : Int) =>
           iteO (decide (i < (lenL a)))
             (chk (0 ≤ i ∧ i < (lenL a)) <|
              chk (0 ≤ i ∧ i < (lenL b)) <|
              iteO (!(((getL d_Arr2_i64 a i).x0 == (getL d_Arr2_i64 b i).x0) && (((getL d_Arr2_i64 a i).x1 == (getL d_Arr2_i64 b i).x1) && true)))
                (some (.out (.out false)))
                (chk (inR .i64 (i + 1)) <|
                 let i1 := (i + 1)
                 some (.go i1)))
             (some (.out (.go ())))) 0) fun (_ : Unit) =>
     some true)

/-- lapwing/order.passed -/
noncomputable def order_passed (c' : Int) : Option Bool :=
  cutO (cutO (iteO (c' == 13)
        (some (.go (c' == 13)))
        (iteO (c' == 10)
           (some (.go (c' == 10)))
           (iteO (c' == 15)
              (some (.go (c' == 15)))
              (iteO (c' == 16)
                 (some (.go (c' == 16)))
                 (iteO (c' == 17)
                    (some (.go (c' == 17)))
                    (iteO (c' == 18)
                       (some (.go (c' == 18)))
                       (iteO (c' == 19)
                          (some (.go (c' == 19)))
                          (iteO (c' == 20)
                             (some (.go (c' == 20)))
                             (iteO (c' == 21)
                                (some (.go (c' == 21)))
                                (iteO (c' == 22)
                                   (some (.go (c' == 22)))
                                   (some (.go (c' == 23))))))))))))) fun v =>
    iteO v
      (some (.out true))
      (some (.go ()))) fun (_ : Unit) =>
  some false

/-- lapwing/ranges.Get -/
noncomputable def ranges_Get (t' : T_ranges_Table) (r' : Int) : Option Int :=
  cutO (loopO (fun (v : Int) =>
        iteO (decide (v < (lenL t'.fL)))
          (chk (0 ≤ v ∧ v < (lenL t'.fL)) <|
           iteO (if (decide ((getL d_ranges_Row t'.fL v).fLo ≤ r')) = true then (decide (r' ≤ (getL d_ranges_Row t'.fL v).fHi)) else false)
             (some (.out (.out (getL d_ranges_Row t'.fL v).fV)))
             (chk (inR .i64 (v + 1)) <|
              some (.go (v + 1))))
          (some (.out (.go ())))) 0) fun (_ : Unit) =>
  some 0

/-- lapwing/ucd.Class -/
noncomputable def ucd_Class (d' : T_ucd_Data) (r' : Int) : Option Int :=
  bindO (ranges_Get d'.fClass r') fun v =>
  iteO (decide (0 < v))
    (some v)
    (some 1)

/-- lapwing/lapwinglaw19.rows -/
noncomputable def lapwinglaw19_rows (t' : T_lapwingref01_Table) : Option T_ranges_Table :=
  cutO (loopO (fun ((i, o1) : Int × List T_ranges_Row) =>
        iteO (decide (i < (lenL t'.fL)))
          (chk (0 ≤ i ∧ i < (lenL t'.fL)) <|
           chk (0 ≤ i ∧ i < (lenL t'.fL)) <|
           chk (0 ≤ i ∧ i < (lenL t'.fL)) <|
           chk (growOk 24 ((lenL o1) + 1)) <|
           chk (inR .i64 (i + 1)) <|
           let i1 := (i + 1)
           some (.go (i1, (o1 ++ ([(T_ranges_Row.mk (getL d_lapwingref01_Row t'.fL i).fLo (getL d_lapwingref01_Row t'.fL i).fHi (getL d_lapwingref01_Row t'.fL i).fV)] : List T_ranges_Row)))))
          (some (.out (.go o1)))) (0, ([] : List T_ranges_Row))) fun o =>
  some (T_ranges_Table.mk o)

/-- slices.Clone[[]int,int] -/
noncomputable def slices_Clone___int_int_ (s : (List Int)) : Option (List Int) :=
  nilO (lenL s)
    (cutO (some (.out ([] : List Int))) fun (_ : Unit) =>
     chk (growOk 8 (lenL s)) <|
     some s)
    (cutO (some (.go ())) fun (_ : Unit) =>
     chk (growOk 8 (lenL s)) <|
     some s)

/-- lapwing/lapwinglaw19.tables -/
noncomputable def lapwinglaw19_tables (d' : T_lapwingref02_Data) : Option T_ucd_Data :=
  bindO (lapwinglaw19_rows d'.fClass) fun v =>
  bindO (lapwinglaw19_rows d'.fWide) fun v1 =>
  bindO (lapwinglaw19_rows d'.fJoin) fun v2 =>
  cutO (loopO (fun ((i4, o5) : Int × List T_ucd_Pair) =>
        iteO (decide (i4 < (lenL d'.fMirror)))
          (chk (0 ≤ i4 ∧ i4 < (lenL d'.fMirror)) <|
           chk (0 ≤ i4 ∧ i4 < (lenL d'.fMirror)) <|
           chk (growOk 16 ((lenL o5) + 1)) <|
           chk (inR .i64 (i4 + 1)) <|
           let i5 := (i4 + 1)
           some (.go (i5, (o5 ++ ([(T_ucd_Pair.mk (getL d_lapwingref02_Pair d'.fMirror i4).fA (getL d_lapwingref02_Pair d'.fMirror i4).fB)] : List T_ucd_Pair)))))
          (some (.out (.go o5)))) (0, ([] : List T_ucd_Pair))) fun o =>
  cutO (loopO (fun ((i2, o4) : Int × List T_ucd_Pair) =>
        iteO (decide (i2 < (lenL d'.fBrackets)))
          (chk (0 ≤ i2 ∧ i2 < (lenL d'.fBrackets)) <|
           chk (0 ≤ i2 ∧ i2 < (lenL d'.fBrackets)) <|
           chk (growOk 16 ((lenL o4) + 1)) <|
           chk (inR .i64 (i2 + 1)) <|
           let i3 := (i2 + 1)
           some (.go (i3, (o4 ++ ([(T_ucd_Pair.mk (getL d_lapwingref02_Pair d'.fBrackets i2).fA (getL d_lapwingref02_Pair d'.fBrackets i2).fB)] : List T_ucd_Pair)))))
          (some (.out (.go o4)))) (0, ([] : List T_ucd_Pair))) fun o1 =>
  cutO (loopO (fun ((i, o3) : Int × List T_ucd_Form) =>
        iteO (decide (i < (lenL d'.fForms)))
          (chk (0 ≤ i ∧ i < (lenL d'.fForms)) <|
           chk (0 ≤ i ∧ i < (lenL d'.fForms)) <|
           chk (0 ≤ i ∧ i < (lenL d'.fForms)) <|
           chk (growOk 24 ((lenL o3) + 1)) <|
           chk (inR .i64 (i + 1)) <|
           let i1 := (i + 1)
           some (.go (i1, (o3 ++ ([(T_ucd_Form.mk (getL d_lapwingref02_Form d'.fForms i).fR (getL d_lapwingref02_Form d'.fForms i).fAt (getL d_lapwingref02_Form d'.fForms i).fN)] : List T_ucd_Form)))))
          (some (.out (.go o3)))) (0, ([] : List T_ucd_Form))) fun o2 =>
  some (T_ucd_Data.mk v v1 v2 o o1 o2)

/-- lapwing/lapwingref19.soft -/
noncomputable def lapwingref19_soft (c' : Int) : Option Bool :=
  some (if (if (if (c' == 13) = true then true else (if (decide (20 ≤ c')) = true then (decide (c' ≤ 23)) else false)) = true then true else (if (decide (15 ≤ c')) = true then (decide (c' ≤ 19)) else false)) = true then true else (c' == 10))

/-- lapwing/lapwingref19.Reset -/
noncomputable def lapwingref19_Reset (d' : T_lapwingref02_Data) (r' : (List Int)) (levels : (List Int)) (base : Int) : Option (List Int) :=
  chk (growOk 8 (lenL levels)) <|
  iteO (!((lenL r') == (lenL levels)))
    (some levels)
    (cutO (chk (inR .i64 ((lenL r') - 1)) <|
       let i := ((lenL r') - 1)
       loopO (fun ((end', i1, out1) : Bool × Int × List Int) =>
           iteO (decide (0 ≤ i1))
             (chk (0 ≤ i1 ∧ i1 < (lenL r')) <|
              bindO (lapwingref02_Class d' (getL 0 r' i1)) fun v =>
              iteO (if (v == 11) = true then true else (v == 12))
                (chk (0 ≤ i1 ∧ i1 < (lenL levels)) <|
                 chk (inR .i64 (i1 - 1)) <|
                 let i2 := (i1 - 1)
                 some (.go (true, i2, (setL out1 i1 base))))
                (bindO (if end' = true then lapwingref19_soft v else some false) fun v1 =>
                 iteO (if end' = true then v1 else false)
                   (chk (0 ≤ i1 ∧ i1 < (lenL levels)) <|
                    chk (inR .i64 (i1 - 1)) <|
                    let i3 := (i1 - 1)
                    some (.go (end', i3, (setL out1 i1 base))))
                   (chk (inR .i64 (i1 - 1)) <|
                    let i4 := (i1 - 1)
                    some (.go (false, i4, out1)))))
             (some (.out (.go out1)))) (true, i, levels)) fun out =>
     some out)

/-- lapwing/order.Reset -/
noncomputable def order_Reset (d' : T_ucd_Data) (r' : (List Int)) (levels : (List Int)) (base : Int) : Option (List Int) :=
  bindO (slices_Clone___int_int_ levels) fun v =>
  iteO (!((lenL r') == (lenL levels)))
    (some v)
    (cutO (chk (inR .i64 ((lenL r') - 1)) <|
       let i := ((lenL r') - 1)
       loopO (fun ((end', i1, out1) : Bool × Int × List Int) =>
           iteO (decide (0 ≤ i1))
             (chk (0 ≤ i1 ∧ i1 < (lenL r')) <|
              bindO (ucd_Class d' (getL 0 r' i1)) fun v1 =>
              iteO (if (v1 == 11) = true then true else (v1 == 12))
                (chk (0 ≤ i1 ∧ i1 < (lenL v)) <|
                 chk (inR .i64 (i1 - 1)) <|
                 let i2 := (i1 - 1)
                 some (.go (true, i2, (setL out1 i1 base))))
                (bindO (order_passed v1) fun v2 =>
                 iteO (!v2)
                   (chk (inR .i64 (i1 - 1)) <|
                    let i3 := (i1 - 1)
                    some (.go (false, i3, out1)))
                   (iteO end'
                      (chk (0 ≤ i1 ∧ i1 < (lenL v)) <|
                       chk (inR .i64 (i1 - 1)) <|
                       let i4 := (i1 - 1)
                       some (.go (end', i4, (setL out1 i1 base))))
                      (chk (inR .i64 (i1 - 1)) <|
                       let i5 := (i1 - 1)
                       some (.go (end', i5, out1))))))
             (some (.out (.go out1)))) (true, i, v)) fun out =>
     some out)

/-- lapwing/lapwinglaw19.OrderIs -/
noncomputable def lapwinglaw19_OrderIs (x' : T_lapwingref02_Data) (r' : (List Int)) (levels : (List Int)) (widths : (List Int)) (base : Int) : Option Bool :=
  bindO (lapwinglaw19_awake) fun v =>
  bindO (if (!(if (if (decide (200 < (lenL levels))) = true then true else (decide (200 < (lenL widths)))) = true then true else (decide (200 < (lenL r'))))) = true then lapwingref02_Few x' else some false) fun v1 =>
  iteO (if (if (if (decide (200 < (lenL levels))) = true then true else (decide (200 < (lenL widths)))) = true then true else (decide (200 < (lenL r')))) = true then true else (!v1))
    (some v)
    (bindO (order_Cells levels widths) fun v2 =>
     let ok := v2.2
     bindO (lapwingref19_Cells levels widths) fun v3 =>
     let also := v3.2
     bindO (order_Invert widths) fun v4 =>
     let is := v4.2
     bindO (lapwingref19_Invert widths) fun v5 =>
     let was := v5.2
     bindO (if v = true then order_Visual levels else some []) fun v6 =>
     bindO (if v = true then lapwingref19_Visual levels else some []) fun v7 =>
     bindO (if v = true then lapwingref03_Ints v6 v7 else some false) fun v8 =>
     bindO (if (if v = true then v8 else false) = true then lapwinglaw19_tables x' else some d_ucd_Data) fun v9 =>
     bindO (if (if v = true then v8 else false) = true then order_Reset v9 r' levels base else some []) fun v10 =>
     bindO (if (if v = true then v8 else false) = true then lapwingref19_Reset x' r' levels base else some []) fun v11 =>
     bindO (if (if v = true then v8 else false) = true then lapwingref03_Ints v10 v11 else some false) fun v12 =>
     bindO (if (if (if v = true then v8 else false) = true then v12 else false) = true then lapwingref03_Ints v2.1 v3.1 else some false) fun v13 =>
     bindO (if (if (if (if (if v = true then v8 else false) = true then v12 else false) = true then v13 else false) = true then (ok == also) else false) = true then lapwingref03_Ints v4.1 v5.1 else some false) fun v14 =>
     bindO (if (if (if (if (if (if (if v = true then v8 else false) = true then v12 else false) = true then v13 else false) = true then (ok == also) else false) = true then v14 else false) = true then (is == was) else false) = true then order_Runs levels else some []) fun v15 =>
     bindO (if (if (if (if (if (if (if v = true then v8 else false) = true then v12 else false) = true then v13 else false) = true then (ok == also) else false) = true then v14 else false) = true then (is == was) else false) = true then lapwingref19_Runs levels else some []) fun v16 =>
     bindO (if (if (if (if (if (if (if v = true then v8 else false) = true then v12 else false) = true then v13 else false) = true then (ok == also) else false) = true then v14 else false) = true then (is == was) else false) = true then lapwingref18_Pairwise v15 v16 else some false) fun v17 =>
     some (if (if (if (if (if (if (if v = true then v8 else false) = true then v12 else false) = true then v13 else false) = true then (ok == also) else false) = true then v14 else false) = true then (is == was) else false) = true then v17 else false))
end Go.Vx
