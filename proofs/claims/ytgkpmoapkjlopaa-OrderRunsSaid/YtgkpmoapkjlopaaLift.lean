/- Lifted functions, by program (lift.py). -/
import Derived.Test.YtgkpmoapkjlopaaVxNat
set_option linter.all false
namespace Go.Vx
structure T_Arr2_i64 where
  x0 : Int
  x1 : Int
def d_Arr2_i64 : T_Arr2_i64 := ⟨0, 0⟩

/-- lapwing/lapwingref03.Ints -/
noncomputable def lapwingref03_Ints (a : (List Int)) (b : (List Int)) : Option Bool :=
  iteO (!((lenL a) == (lenL b)))
    (some false)
    (cutO (loopO (fun (i : Int) =>
           iteO (decide (i < (lenL a)))
             (chk (0 ≤ i ∧ i < (lenL a)) <|
              chk (0 ≤ i ∧ i < (lenL b)) <|
              iteO (!((getL 0 a i) == (getL 0 b i)))
                (some (.out (.out false)))
                (chk (inR .i64 (i + 1)) <|
                 let i1 := (i + 1)
                 some (.go i1)))
             (some (.out (.go ())))) 0) fun (_ : Unit) =>
     some true)

/-- lapwing/order.Invert -/
noncomputable def order_Invert (l' : (List Int)) : Option ((List Int) × Bool) :=
  chk (makeOk 8 (lenL l') (lenL l')) <|
  cutO (loopO (fun ((v1, out3) : Int × List Int) =>
        iteO (decide (v1 < (lenL l')))
          (chk (0 ≤ v1 ∧ v1 < (lenL l')) <|
           chk (inR .i64 (v1 + 1)) <|
           some (.go ((v1 + 1), (setL out3 v1 (-1)))))
          (some (.out (.go out3)))) (0, (repL (lenL l') 0))) fun out =>
  cutO (loopO (fun ((v, out2) : Int × List Int) =>
        iteO (decide (v < (lenL l')))
          (chk (0 ≤ v ∧ v < (lenL l')) <|
           let x' := (getL 0 l' v)
           chk ((!(if (decide (x' < 0)) = true then true else (decide ((lenL l') ≤ x')))) = true → 0 ≤ x' ∧ x' < (lenL l')) <|
           iteO (if (if (decide (x' < 0)) = true then true else (decide ((lenL l') ≤ x'))) = true then true else (decide (0 ≤ (getL 0 out2 (0 + x')))))
             (some (.out (.out (([] : List Int), false))))
             (chk (0 ≤ x' ∧ x' < (lenL l')) <|
              chk (inR .i64 (v + 1)) <|
              some (.go ((v + 1), (setL out2 x' v)))))
          (some (.out (.go out2)))) (0, out)) fun out1 =>
  some (out1, true)

/-- lapwing/order.Runs -/
noncomputable def order_Runs (levels : (List Int)) : Option (List T_Arr2_i64) :=
  cutO (loopO (fun ((from', out1) : Int × List T_Arr2_i64) =>
        iteO (decide (from' < (lenL levels)))
          (cutO (chk (inR .i64 (from' + 1)) <|
             let to := (from' + 1)
             loopO (fun (to1 : Int) =>
                 iteO (decide (to1 < (lenL levels)))
                   (chk (0 ≤ to1 ∧ to1 < (lenL levels)) <|
                    chk (0 ≤ from' ∧ from' < (lenL levels)) <|
                    iteO (!((getL 0 levels to1) == (getL 0 levels from')))
                      (chk (growOk 16 ((lenL out1) + 1)) <|
                       some (.out (.out (.go (to1, (out1 ++ ([(T_Arr2_i64.mk from' to1)] : List T_Arr2_i64)))))))
                      (chk (inR .i64 (to1 + 1)) <|
                       let to2 := (to1 + 1)
                       some (.go to2)))
                   (some (.out (.go ())))) to) fun (_ : Unit) =>
           chk (growOk 16 ((lenL out1) + 1)) <|
           some (.out (.go (out1 ++ ([(T_Arr2_i64.mk from' (lenL levels))] : List T_Arr2_i64)))))
          (some (.out (.go out1)))) (0, ([] : List T_Arr2_i64))) fun out =>
  some out

/-- slices.Reverse[[]int,int] -/
noncomputable def slices_Reverse___int_int_ (s : List Int) (s_off : Int) (s_n : Int) : Option (List Int) :=
  chk (0 ≤ s_off ∧ 0 ≤ s_n ∧ s_off + s_n ≤ lenL s) <|
  chk (inR .i64 (s_n - 1)) <|
  let j := (s_n - 1)
  loopO (fun ((i, j1, s1) : Int × Int × List Int) =>
      iteO (decide (i < j1))
        (chk (0 ≤ j1 ∧ j1 < s_n) <|
         chk (0 ≤ i ∧ i < s_n) <|
         chk (0 ≤ i ∧ i < s_n) <|
         chk (0 ≤ j1 ∧ j1 < s_n) <|
         chk (inR .i64 (i + 1)) <|
         chk (inR .i64 (j1 - 1)) <|
         let i1 := (i + 1)
         let j2 := (j1 - 1)
         some (.go (i1, j2, (setL (setL s1 (s_off + i) (getL 0 s1 (s_off + j1))) (s_off + j1) (getL 0 s1 (s_off + i))))))
        (some (.out s1))) (0, j, s)

/-- lapwing/order.Visual -/
noncomputable def order_Visual (levels : (List Int)) : Option (List Int) :=
  chk (makeOk 8 (lenL levels) (lenL levels)) <|
  chk (makeOk 8 (lenL levels) (lenL levels)) <|
  cutO (loopO (fun ((most1, least1, v1, l'1, out5) : Int × Int × Int × List Int × List Int) =>
        iteO (decide (v1 < (lenL levels)))
          (chk (0 ≤ v1 ∧ v1 < (lenL levels)) <|
           let x' := (getL 0 levels v1)
           let x'1 := (imaxI 0 (iminI x' 127))
           chk (0 ≤ v1 ∧ v1 < (lenL levels)) <|
           chk (0 ≤ v1 ∧ v1 < (lenL levels)) <|
           let most2 := (imaxI most1 x'1)
           chk ((2 : Int) ≠ 0) <|
           iteO ((Int.tmod x'1 2) == 1)
             (let least2 := (iminI least1 x'1)
              chk (inR .i64 (v1 + 1)) <|
              some (.go (most2, least2, (v1 + 1), (setL l'1 v1 x'1), (setL out5 v1 v1))))
             (chk (inR .i64 (v1 + 1)) <|
              some (.go (most2, least1, (v1 + 1), (setL l'1 v1 x'1), (setL out5 v1 v1)))))
          (some (.out (.go (most1, least1, l'1, out5))))) (0, 128, 0, (repL (lenL levels) 0), (repL (lenL levels) 0))) fun (most, least, l', out) =>
  cutO (loopO (fun ((level, out2) : Int × List Int) =>
        iteO (decide (least ≤ level))
          (cutO (loopO (fun ((from', out4) : Int × List Int) =>
                 iteO (decide (from' < (lenL levels)))
                   (cutO (loopO (fun (to1 : Int) =>
                          chk ((decide (to1 < (lenL levels))) = true → 0 ≤ to1 ∧ to1 < (lenL levels)) <|
                          iteO (if (decide (to1 < (lenL levels))) = true then (decide (level ≤ (getL 0 l' (0 + to1)))) else false)
                            (chk (inR .i64 (to1 + 1)) <|
                             let to2 := (to1 + 1)
                             some (.go to2))
                            (some (.out (.go to1)))) from') fun to =>
                    chk (0 ≤ from' ∧ from' ≤ to ∧ to ≤ (lenL levels)) <|
                    bindO (slices_Reverse___int_int_ out4 (0 + from') (to - from')) fun v =>
                    chk (lenL v = lenL out4) <|
                    chk (inR .i64 (to + 1)) <|
                    let from'1 := (to + 1)
                    some (.go (from'1, v)))
                   (some (.out (.go out4)))) (0, out2)) fun out3 =>
           chk (inR .i64 (level - 1)) <|
           let level1 := (level - 1)
           some (.go (level1, out3)))
          (some (.out (.go out2)))) (most, out)) fun out1 =>
  some out1

/-- lapwing/order.Cells -/
noncomputable def order_Cells (levels : (List Int)) (widths : (List Int)) : Option ((List Int) × Bool) :=
  iteO (!((lenL levels) == (lenL widths)))
    (some (([] : List Int), false))
    (chk (makeOk 8 (lenL widths) (lenL widths)) <|
     cutO (loopO (fun ((n1, v3, starts1) : Int × Int × List Int) =>
           iteO (decide (v3 < (lenL widths)))
             (chk (0 ≤ v3 ∧ v3 < (lenL widths)) <|
              let w := (getL 0 widths v3)
              iteO (if (!(w == 1)) = true then (!(w == 2)) else false)
                (some (.out (.out (([] : List Int), false))))
                (chk (0 ≤ v3 ∧ v3 < (lenL widths)) <|
                 chk (inR .i64 (n1 + w)) <|
                 let n2 := (n1 + w)
                 chk (inR .i64 (v3 + 1)) <|
                 some (.go (n2, (v3 + 1), (setL starts1 v3 n1)))))
             (some (.out (.go (n1, starts1))))) (0, 0, (repL (lenL widths) 0))) fun (n, starts) =>
     chk (makeOk 8 0 n) <|
     cutO (bindO (order_Visual levels) fun v =>
       loopO (fun ((v1, out1) : Int × List Int) =>
           iteO (decide (v1 < (lenL v)))
             (cutO (chk (0 ≤ v1 ∧ v1 < (lenL v)) <|
                let i := (getL 0 v (0 + v1))
                chk (0 ≤ i ∧ i < (lenL widths)) <|
                loopO (fun ((v2, out3) : Int × List Int) =>
                    iteO (decide (v2 < (getL 0 widths i)))
                      (chk (0 ≤ i ∧ i < (lenL widths)) <|
                       chk (inR .i64 ((getL 0 starts (0 + i)) + v2)) <|
                       chk (growOk 8 ((lenL out3) + 1)) <|
                       chk (inR .i64 (v2 + 1)) <|
                       some (.go ((v2 + 1), (out3 ++ ([((getL 0 starts (0 + i)) + v2)] : List Int)))))
                      (some (.out (.go out3)))) (0, out1)) fun out2 =>
              chk (inR .i64 (v1 + 1)) <|
              some (.go ((v1 + 1), out2)))
             (some (.out (.go out1)))) (0, (repL 0 0))) fun out =>
     some (out, true))

/-- lapwing/lapwinglaw19.awake -/
noncomputable def lapwinglaw19_awake  : Option Bool :=
  bindO (order_Invert ([2, 0, 1] : List Int)) fun v =>
  let ok := v.2
  bindO (if ok = true then order_Visual ([0, 1, 1, 0] : List Int) else some []) fun v1 =>
  bindO (if ok = true then lapwingref03_Ints v1 ([0, 2, 1, 3] : List Int) else some false) fun v2 =>
  bindO (if (if ok = true then v2 else false) = true then lapwingref03_Ints v.1 ([1, 2, 0] : List Int) else some false) fun v3 =>
  some (if (if ok = true then v2 else false) = true then v3 else false)

/-- lapwing/lapwinglaw19.OrderOne -/
noncomputable def lapwinglaw19_OrderOne (n : Int) (level : Int) (ahead : (List Int)) : Option Bool :=
  bindO (lapwinglaw19_awake) fun v =>
  let m := (bndI .i64 n 63)
  let l' := (bndI .i64 level 127)
  iteO (decide (100 < (lenL ahead)))
    (some v)
    (cutO (loopO (fun ((i4, levels1) : Int × List Int) =>
           iteO (decide (i4 < (lenL ahead)))
             (chk (0 ≤ i4 ∧ i4 < (lenL ahead)) <|
              chk (growOk 8 ((lenL levels1) + 1)) <|
              chk (inR .i64 (i4 + 1)) <|
              let i5 := (i4 + 1)
              some (.go (i5, (levels1 ++ ([(bndI .i64 (getL 0 ahead i4) 1)] : List Int)))))
             (some (.out (.go levels1)))) (0, ([] : List Int))) fun levels =>
     chk (makeOk 8 m m) <|
     cutO (loopO (fun ((i2, same1) : Int × List Int) =>
           iteO (decide (i2 < m))
             (chk (0 ≤ i2 ∧ i2 < m) <|
              chk (inR .i64 (i2 + 1)) <|
              let i3 := (i2 + 1)
              some (.go (i3, (setL same1 i2 l'))))
             (some (.out (.go same1)))) (0, (repL m 0))) fun same =>
     bindO (order_Visual same) fun v1 =>
     iteO (!((lenL v1) == m))
       (some false)
       (cutO (loopO (fun (i : Int) =>
              iteO (decide (i < m))
                (chk (((bndI .i64 l' 1) == 0) = true → 0 ≤ i ∧ i < (lenL v1)) <|
                 chk (((!(if ((bndI .i64 l' 1) == 0) = true then (!((getL 0 v1 (0 + i)) == i)) else false)) && ((!(if ((bndI .i64 l' 1) == 0) = true then (!((getL 0 v1 (0 + i)) == i)) else false)) && ((bndI .i64 l' 1) == 1))) = true → 0 ≤ i ∧ i < (lenL v1)) <|
                 chk (((!(if ((bndI .i64 l' 1) == 0) = true then (!((getL 0 v1 (0 + i)) == i)) else false)) && ((!(if ((bndI .i64 l' 1) == 0) = true then (!((getL 0 v1 (0 + i)) == i)) else false)) && ((bndI .i64 l' 1) == 1))) = true → inR .i64 (m - 1)) <|
                 chk (((!(if ((bndI .i64 l' 1) == 0) = true then (!((getL 0 v1 (0 + i)) == i)) else false)) && ((!(if ((bndI .i64 l' 1) == 0) = true then (!((getL 0 v1 (0 + i)) == i)) else false)) && ((bndI .i64 l' 1) == 1))) = true → inR .i64 ((m - 1) - i)) <|
                 iteO (if (if ((bndI .i64 l' 1) == 0) = true then (!((getL 0 v1 (0 + i)) == i)) else false) = true then true else (if ((bndI .i64 l' 1) == 1) = true then (!((getL 0 v1 (0 + i)) == ((m - 1) - i))) else false))
                   (some (.out (.out false)))
                   (chk (inR .i64 (i + 1)) <|
                    let i1 := (i + 1)
                    some (.go i1)))
                (some (.out (.go ())))) 0) fun (_ : Unit) =>
        bindO (order_Visual levels) fun v2 =>
        chk (growOk 8 (lenL levels)) <|
        chk (growOk 8 ((lenL levels) + 1)) <|
        bindO (order_Visual (levels ++ ([0] : List Int))) fun v3 =>
        chk (v = true → inR .i64 ((lenL levels) + 1)) <|
        chk ((if v = true then ((lenL v3) == ((lenL levels) + 1)) else false) = true → (0 : Int) ≤ 0 ∧ (0 : Int) ≤ (lenL levels) ∧ (lenL levels) ≤ (lenL v3)) <|
        bindO (if (if v = true then ((lenL v3) == ((lenL levels) + 1)) else false) = true then lapwingref03_Ints (subL v3 (0 + 0) ((0 + 0) + ((lenL levels) - 0))) v2 else some false) fun v4 =>
        chk ((if (if v = true then ((lenL v3) == ((lenL levels) + 1)) else false) = true then v4 else false) = true → 0 ≤ (lenL levels) ∧ (lenL levels) < (lenL v3)) <|
        some (if (if (if v = true then ((lenL v3) == ((lenL levels) + 1)) else false) = true then v4 else false) = true then ((getL 0 v3 (0 + (lenL levels))) == (lenL levels)) else false)))

/-- lapwing/lapwinglaw19.OrderTurns -/
noncomputable def lapwinglaw19_OrderTurns (levels : (List Int)) : Option Bool :=
  bindO (lapwinglaw19_awake) fun v =>
  iteO (decide (200 < (lenL levels)))
    (some v)
    (cutO (loopO (fun ((i, more1) : Int × List Int) =>
           iteO (decide (i < (lenL levels)))
             (chk (0 ≤ i ∧ i < (lenL levels)) <|
              chk ((!(decide ((getL 0 levels i) < 0))) = true → 0 ≤ i ∧ i < (lenL levels)) <|
              iteO (if (decide ((getL 0 levels i) < 0)) = true then true else (decide (120 < (getL 0 levels i))))
                (some (.out (.out v)))
                (chk (0 ≤ i ∧ i < (lenL levels)) <|
                 chk (inR .i64 ((getL 0 levels i) + 2)) <|
                 chk (growOk 8 ((lenL more1) + 1)) <|
                 chk (inR .i64 (i + 1)) <|
                 let i1 := (i + 1)
                 some (.go (i1, (more1 ++ ([((getL 0 levels i) + 2)] : List Int))))))
             (some (.out (.go more1)))) (0, ([] : List Int))) fun more =>
     bindO (if v = true then order_Visual levels else some []) fun v1 =>
     bindO (if v = true then order_Visual more else some []) fun v2 =>
     bindO (if v = true then lapwingref03_Ints v1 v2 else some false) fun v3 =>
     some (if v = true then v3 else false))

/-- lapwing/lapwinglaw19.OrderRuns -/
noncomputable def lapwinglaw19_OrderRuns (levels : (List Int)) : Option Bool :=
  bindO (lapwinglaw19_awake) fun v =>
  iteO (decide (200 < (lenL levels)))
    (some v)
    (bindO (order_Runs levels) fun v1 =>
     bindO (order_Visual levels) fun v2 =>
     bindO (order_Invert v2) fun v3 =>
     let ok := v3.2
     cutO (loopO (fun ((at'1, i) : Int × Int) =>
           iteO (decide (i < (lenL v1)))
             (cutO (chk (0 ≤ i ∧ i < (lenL v1)) <|
                chk ((!(!((getL d_Arr2_i64 v1 (0 + i)).x0 == at'1))) = true → 0 ≤ i ∧ i < (lenL v1)) <|
                chk ((!(if (!((getL d_Arr2_i64 v1 (0 + i)).x0 == at'1)) = true then true else (decide ((getL d_Arr2_i64 v1 (0 + i)).x1 ≤ at'1)))) = true → 0 ≤ i ∧ i < (lenL v1)) <|
                chk (((!(if (if (!((getL d_Arr2_i64 v1 (0 + i)).x0 == at'1)) = true then true else (decide ((getL d_Arr2_i64 v1 (0 + i)).x1 ≤ at'1))) = true then true else (decide ((lenL levels) < (getL d_Arr2_i64 v1 (0 + i)).x1)))) && ((!(if (if (!((getL d_Arr2_i64 v1 (0 + i)).x0 == at'1)) = true then true else (decide ((getL d_Arr2_i64 v1 (0 + i)).x1 ≤ at'1))) = true then true else (decide ((lenL levels) < (getL d_Arr2_i64 v1 (0 + i)).x1)))) && (decide (0 < i)))) = true → 0 ≤ at'1 ∧ at'1 < (lenL levels)) <|
                chk (((!(if (if (!((getL d_Arr2_i64 v1 (0 + i)).x0 == at'1)) = true then true else (decide ((getL d_Arr2_i64 v1 (0 + i)).x1 ≤ at'1))) = true then true else (decide ((lenL levels) < (getL d_Arr2_i64 v1 (0 + i)).x1)))) && ((!(if (if (!((getL d_Arr2_i64 v1 (0 + i)).x0 == at'1)) = true then true else (decide ((getL d_Arr2_i64 v1 (0 + i)).x1 ≤ at'1))) = true then true else (decide ((lenL levels) < (getL d_Arr2_i64 v1 (0 + i)).x1)))) && (decide (0 < i)))) = true → inR .i64 (at'1 - 1)) <|
                chk (((!(if (if (!((getL d_Arr2_i64 v1 (0 + i)).x0 == at'1)) = true then true else (decide ((getL d_Arr2_i64 v1 (0 + i)).x1 ≤ at'1))) = true then true else (decide ((lenL levels) < (getL d_Arr2_i64 v1 (0 + i)).x1)))) && ((!(if (if (!((getL d_Arr2_i64 v1 (0 + i)).x0 == at'1)) = true then true else (decide ((getL d_Arr2_i64 v1 (0 + i)).x1 ≤ at'1))) = true then true else (decide ((lenL levels) < (getL d_Arr2_i64 v1 (0 + i)).x1)))) && (decide (0 < i)))) = true → 0 ≤ (at'1 - 1) ∧ (at'1 - 1) < (lenL levels)) <|
                iteO (if (if (if (!((getL d_Arr2_i64 v1 (0 + i)).x0 == at'1)) = true then true else (decide ((getL d_Arr2_i64 v1 (0 + i)).x1 ≤ at'1))) = true then true else (decide ((lenL levels) < (getL d_Arr2_i64 v1 (0 + i)).x1))) = true then true else (if (decide (0 < i)) = true then ((getL 0 levels at'1) == (getL 0 levels (at'1 - 1))) else false))
                  (some (.out (.out (.out false))))
                  (cutO (chk (inR .i64 (at'1 + 1)) <|
                     let k' := (at'1 + 1)
                     loopO (fun (k'1 : Int) =>
                         chk (0 ≤ i ∧ i < (lenL v1)) <|
                         iteO (decide (k'1 < (getL d_Arr2_i64 v1 (0 + i)).x1))
                           (chk (0 ≤ k'1 ∧ k'1 < (lenL levels)) <|
                            chk (0 ≤ at'1 ∧ at'1 < (lenL levels)) <|
                            chk ((!(if (if (!((getL 0 levels k'1) == (getL 0 levels at'1))) = true then true else (!ok)) = true then true else (!((lenL v3.1) == (lenL levels))))) = true → 0 ≤ k'1 ∧ k'1 < (lenL v3.1)) <|
                            chk ((!(if (if (!((getL 0 levels k'1) == (getL 0 levels at'1))) = true then true else (!ok)) = true then true else (!((lenL v3.1) == (lenL levels))))) = true → inR .i64 (k'1 - 1)) <|
                            chk ((!(if (if (!((getL 0 levels k'1) == (getL 0 levels at'1))) = true then true else (!ok)) = true then true else (!((lenL v3.1) == (lenL levels))))) = true → 0 ≤ (k'1 - 1) ∧ (k'1 - 1) < (lenL v3.1)) <|
                            chk ((!(if (if (!((getL 0 levels k'1) == (getL 0 levels at'1))) = true then true else (!ok)) = true then true else (!((lenL v3.1) == (lenL levels))))) = true → inR .i64 ((getL 0 v3.1 k'1) - (getL 0 v3.1 (k'1 - 1)))) <|
                            chk (((!(if (if (!((getL 0 levels k'1) == (getL 0 levels at'1))) = true then true else (!ok)) = true then true else (!((lenL v3.1) == (lenL levels))))) && ((!(if (if (!((getL 0 levels k'1) == (getL 0 levels at'1))) = true then true else (!ok)) = true then true else (!((lenL v3.1) == (lenL levels))))) && (!(((getL 0 v3.1 k'1) - (getL 0 v3.1 (k'1 - 1))) == 1)))) = true → 0 ≤ k'1 ∧ k'1 < (lenL v3.1)) <|
                            chk (((!(if (if (!((getL 0 levels k'1) == (getL 0 levels at'1))) = true then true else (!ok)) = true then true else (!((lenL v3.1) == (lenL levels))))) && ((!(if (if (!((getL 0 levels k'1) == (getL 0 levels at'1))) = true then true else (!ok)) = true then true else (!((lenL v3.1) == (lenL levels))))) && (!(((getL 0 v3.1 k'1) - (getL 0 v3.1 (k'1 - 1))) == 1)))) = true → inR .i64 (k'1 - 1)) <|
                            chk (((!(if (if (!((getL 0 levels k'1) == (getL 0 levels at'1))) = true then true else (!ok)) = true then true else (!((lenL v3.1) == (lenL levels))))) && ((!(if (if (!((getL 0 levels k'1) == (getL 0 levels at'1))) = true then true else (!ok)) = true then true else (!((lenL v3.1) == (lenL levels))))) && (!(((getL 0 v3.1 k'1) - (getL 0 v3.1 (k'1 - 1))) == 1)))) = true → 0 ≤ (k'1 - 1) ∧ (k'1 - 1) < (lenL v3.1)) <|
                            chk (((!(if (if (!((getL 0 levels k'1) == (getL 0 levels at'1))) = true then true else (!ok)) = true then true else (!((lenL v3.1) == (lenL levels))))) && ((!(if (if (!((getL 0 levels k'1) == (getL 0 levels at'1))) = true then true else (!ok)) = true then true else (!((lenL v3.1) == (lenL levels))))) && (!(((getL 0 v3.1 k'1) - (getL 0 v3.1 (k'1 - 1))) == 1)))) = true → inR .i64 ((getL 0 v3.1 k'1) - (getL 0 v3.1 (k'1 - 1)))) <|
                            iteO (if (if (if (!((getL 0 levels k'1) == (getL 0 levels at'1))) = true then true else (!ok)) = true then true else (!((lenL v3.1) == (lenL levels)))) = true then true else (if (!(((getL 0 v3.1 k'1) - (getL 0 v3.1 (k'1 - 1))) == 1)) = true then (!(((getL 0 v3.1 k'1) - (getL 0 v3.1 (k'1 - 1))) == (-1))) else false))
                              (some (.out (.out (.out (.out (.out false))))))
                              (chk (inR .i64 (k'1 + 1)) <|
                               let k'2 := (k'1 + 1)
                               some (.go k'2)))
                           (some (.out (.go ())))) k') fun (_ : Unit) =>
                   chk (0 ≤ i ∧ i < (lenL v1)) <|
                   let at'2 := (getL d_Arr2_i64 v1 (0 + i)).x1
                   some (.go ()))) fun (_ : Unit) =>
              chk (inR .i64 (i + 1)) <|
              let i1 := (i + 1)
              some (.go ((getL d_Arr2_i64 v1 (0 + i)).x1, i1)))
             (some (.out (.go at'1)))) (0, 0)) fun at' =>
     some (if v = true then (at' == (lenL levels)) else false))

/-- lapwing/lapwinglaw19.OrderOnce -/
noncomputable def lapwinglaw19_OrderOnce (levels : (List Int)) (widths : (List Int)) : Option Bool :=
  bindO (lapwinglaw19_awake) fun v =>
  iteO (if (decide (200 < (lenL levels))) = true then true else (decide (200 < (lenL widths))))
    (some v)
    (bindO (order_Visual levels) fun v1 =>
     bindO (order_Invert v1) fun v2 =>
     let ok := v2.2
     bindO (order_Invert v2.1) fun v3 =>
     let also := v3.2
     bindO (if (!(if (if (!((lenL v1) == (lenL levels))) = true then true else (!ok)) = true then true else (!also))) = true then lapwingref03_Ints v3.1 v1 else some false) fun v4 =>
     iteO (if (if (if (!((lenL v1) == (lenL levels))) = true then true else (!ok)) = true then true else (!also)) = true then true else (!v4))
       (some false)
       (bindO (order_Cells levels widths) fun v5 =>
        let is := v5.2
        iteO (!is)
          (some (if v = true then ((lenL v5.1) == 0) else false))
          (bindO (order_Invert v5.1) fun v6 =>
           let was := v6.2
           cutO (loopO (fun ((n1, m) : Int × Int) =>
                 iteO (decide (m < (lenL widths)))
                   (chk (0 ≤ m ∧ m < (lenL widths)) <|
                    chk (inR .i64 (n1 + (getL 0 widths m))) <|
                    let n2 := (n1 + (getL 0 widths m))
                    chk (0 ≤ m ∧ m < (lenL widths)) <|
                    chk (((if ((getL 0 widths m) == 2) = true then was else false) && ((if ((getL 0 widths m) == 2) = true then was else false) && (!(decide ((lenL v6.1) < n2))))) = true → inR .i64 (n2 - 1)) <|
                    chk (((if ((getL 0 widths m) == 2) = true then was else false) && ((if ((getL 0 widths m) == 2) = true then was else false) && (!(decide ((lenL v6.1) < n2))))) = true → 0 ≤ (n2 - 1) ∧ (n2 - 1) < (lenL v6.1)) <|
                    chk (((if ((getL 0 widths m) == 2) = true then was else false) && ((if ((getL 0 widths m) == 2) = true then was else false) && (!(decide ((lenL v6.1) < n2))))) = true → inR .i64 (n2 - 2)) <|
                    chk (((if ((getL 0 widths m) == 2) = true then was else false) && ((if ((getL 0 widths m) == 2) = true then was else false) && (!(decide ((lenL v6.1) < n2))))) = true → 0 ≤ (n2 - 2) ∧ (n2 - 2) < (lenL v6.1)) <|
                    chk (((if ((getL 0 widths m) == 2) = true then was else false) && ((if ((getL 0 widths m) == 2) = true then was else false) && (!(decide ((lenL v6.1) < n2))))) = true → inR .i64 ((getL 0 v6.1 (n2 - 2)) + 1)) <|
                    iteO (if (if ((getL 0 widths m) == 2) = true then was else false) = true then (if (decide ((lenL v6.1) < n2)) = true then true else (!((getL 0 v6.1 (n2 - 1)) == ((getL 0 v6.1 (n2 - 2)) + 1)))) else false)
                      (some (.out (.out false)))
                      (chk (inR .i64 (m + 1)) <|
                       let m1 := (m + 1)
                       some (.go (n2, m1))))
                   (some (.out (.go n1)))) (0, 0)) fun n =>
           some (if (if (if v = true then was else false) = true then ((lenL v5.1) == n) else false) = true then ((lenL v6.1) == n) else false))))
end Go.Vx
