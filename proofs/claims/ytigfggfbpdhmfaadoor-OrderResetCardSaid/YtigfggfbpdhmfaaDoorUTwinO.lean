/- Twins of lifted functions, by program (twin.py). -/
import Derived.Test.YtigfggfbpdhmfaaDoorULift
import Derived.Test.YtigfggfbpdhmfaaDoorVxTwin
set_option linter.all false
namespace Go.Vx
def slices_Reverse___int_int__c (s : List Int) (s_off : Int) (s_n : Int) : Option (List Int) :=
  chk (0 ≤ s_off ∧ 0 ≤ s_n ∧ s_off + s_n ≤ lenL s) <|
  chk (inR .i64 (s_n - 1)) <|
  let j := (s_n - 1)
  loopF (fun ((i, j1, s1) : Int × Int × List Int) =>
      iteO (decide (i < j1))
        (chk (0 ≤ j1 ∧ j1 < s_n) <|
         chk (0 ≤ i ∧ i < s_n) <|
         chk (0 ≤ i ∧ i < s_n) <|
         chk (0 ≤ j1 ∧ j1 < s_n) <|
         chk (inR .i64 (i + 1)) <|
         chk (inR .i64 (j1 - 1)) <|
         let i1 := (i + 1)
         let j2 := (j1 - 1)
         some (.go (i1, j2, (setL (setL s1 (s_off + i) (getL 0 s1 (s_off + j1))) (s_off + j1) (getL 0 s1 (s_off + i))))))
        (some (.out s1))) (0, j, s)
theorem slices_Reverse___int_int__le (s : List Int) (s_off : Int) (s_n : Int)  : Tw (slices_Reverse___int_int__c s s_off s_n) (slices_Reverse___int_int_ s s_off s_n) := by
  unfold slices_Reverse___int_int_ slices_Reverse___int_int__c
  try simp only [ssubS_eq]
  repeat' (first | (with_reducible exact Tw.refl _) | (with_reducible apply Tw.chk) | (with_reducible apply Tw.ite) | (with_reducible apply Tw.bind) | (with_reducible apply Tw.cut) | (with_reducible apply Tw.loop) | (with_reducible apply Tw.gif) | (intro _) | split)
def order_Visual_c (levels : (List Int)) : Option (List Int) :=
  chk (makeOk 8 (lenL levels) (lenL levels)) <|
  chk (makeOk 8 (lenL levels) (lenL levels)) <|
  cutO (loopF (fun ((most1, least1, v1, l'1, out5) : Int × Int × Int × List Int × List Int) =>
        iteO (decide (v1 < (lenL levels)))
          (chk (0 ≤ v1 ∧ v1 < (lenL levels)) <|
           let x' := (getL 0 levels v1)
           let x'1 := (imaxI 0 (iminI x' 127))
           chk (0 ≤ v1 ∧ v1 < (lenL levels)) <|
           chk (0 ≤ v1 ∧ v1 < (lenL levels)) <|
           let most2 := (imaxI most1 x'1)
           chk ((2 : Int) ≠ 0) <|
           iteO ((Int.tmod x'1 2) == 1)
             (let least2 := (iminI least1 x'1)
              chk (inR .i64 (v1 + 1)) <|
              some (.go (most2, least2, (v1 + 1), (setL l'1 v1 x'1), (setL out5 v1 v1))))
             (chk (inR .i64 (v1 + 1)) <|
              some (.go (most2, least1, (v1 + 1), (setL l'1 v1 x'1), (setL out5 v1 v1)))))
          (some (.out (.go (most1, least1, l'1, out5))))) (0, 128, 0, (repL (lenL levels) 0), (repL (lenL levels) 0))) fun (most, least, l', out) =>
  cutO (loopF (fun ((level, out2) : Int × List Int) =>
        iteO (decide (least ≤ level))
          (cutO (loopF (fun ((from', out4) : Int × List Int) =>
                 iteO (decide (from' < (lenL levels)))
                   (cutO (loopF (fun (to1 : Int) =>
                          chk ((decide (to1 < (lenL levels))) = true → 0 ≤ to1 ∧ to1 < (lenL levels)) <|
                          iteO (if (decide (to1 < (lenL levels))) = true then (decide (level ≤ (getL 0 l' (0 + to1)))) else false)
                            (chk (inR .i64 (to1 + 1)) <|
                             let to2 := (to1 + 1)
                             some (.go to2))
                            (some (.out (.go to1)))) from') fun to =>
                    chk (0 ≤ from' ∧ from' ≤ to ∧ to ≤ (lenL levels)) <|
                    bindO (slices_Reverse___int_int__c out4 (0 + from') (to - from')) fun v =>
                    chk (lenL v = lenL out4) <|
                    chk (inR .i64 (to + 1)) <|
                    let from'1 := (to + 1)
                    some (.go (from'1, v)))
                   (some (.out (.go out4)))) (0, out2)) fun out3 =>
           chk (inR .i64 (level - 1)) <|
           let level1 := (level - 1)
           some (.go (level1, out3)))
          (some (.out (.go out2)))) (most, out)) fun out1 =>
  some out1
theorem order_Visual_le (levels : (List Int))  : Tw (order_Visual_c levels) (order_Visual levels) := by
  unfold order_Visual order_Visual_c
  try simp only [ssubS_eq]
  repeat' (first | (with_reducible exact Tw.refl _) | (with_reducible apply Tw.chk) | (with_reducible apply Tw.ite) | (with_reducible apply Tw.bind) | (with_reducible apply Tw.cut) | (with_reducible apply Tw.loop) | (with_reducible apply Tw.gif) | (with_reducible apply slices_Reverse___int_int__le) | (intro _) | split)
def order_Invert_c (l' : (List Int)) : Option ((List Int) × Bool) :=
  chk (makeOk 8 (lenL l') (lenL l')) <|
  cutO (loopF (fun ((v1, out3) : Int × List Int) =>
        iteO (decide (v1 < (lenL l')))
          (chk (0 ≤ v1 ∧ v1 < (lenL l')) <|
           chk (inR .i64 (v1 + 1)) <|
           some (.go ((v1 + 1), (setL out3 v1 (-1)))))
          (some (.out (.go out3)))) (0, (repL (lenL l') 0))) fun out =>
  cutO (loopF (fun ((v, out2) : Int × List Int) =>
        iteO (decide (v < (lenL l')))
          (chk (0 ≤ v ∧ v < (lenL l')) <|
           let x' := (getL 0 l' v)
           chk ((!(if (decide (x' < 0)) = true then true else (decide ((lenL l') ≤ x')))) = true → 0 ≤ x' ∧ x' < (lenL l')) <|
           iteO (if (if (decide (x' < 0)) = true then true else (decide ((lenL l') ≤ x'))) = true then true else (decide (0 ≤ (getL 0 out2 (0 + x')))))
             (some (.out (.out (([] : List Int), false))))
             (chk (0 ≤ x' ∧ x' < (lenL l')) <|
              chk (inR .i64 (v + 1)) <|
              some (.go ((v + 1), (setL out2 x' v)))))
          (some (.out (.go out2)))) (0, out)) fun out1 =>
  some (out1, true)
theorem order_Invert_le (l' : (List Int))  : Tw (order_Invert_c l') (order_Invert l') := by
  unfold order_Invert order_Invert_c
  try simp only [ssubS_eq]
  repeat' (first | (with_reducible exact Tw.refl _) | (with_reducible apply Tw.chk) | (with_reducible apply Tw.ite) | (with_reducible apply Tw.bind) | (with_reducible apply Tw.cut) | (with_reducible apply Tw.loop) | (with_reducible apply Tw.gif) | (intro _) | split)
def lapwingref03_Ints_c (a : (List Int)) (b : (List Int)) : Option Bool :=
  iteO (!((lenL a) == (lenL b)))
    (some false)
    (cutO (loopF (fun (i : Int) =>
           iteO (decide (i < (lenL a)))
             (chk (0 ≤ i ∧ i < (lenL a)) <|
              chk (0 ≤ i ∧ i < (lenL b)) <|
              iteO (!((getL 0 a i) == (getL 0 b i)))
                (some (.out (.out false)))
                (chk (inR .i64 (i + 1)) <|
                 let i1 := (i + 1)
                 some (.go i1)))
             (some (.out (.go ())))) 0) fun (_ : Unit) =>
     some true)
theorem lapwingref03_Ints_le (a : (List Int)) (b : (List Int))  : Tw (lapwingref03_Ints_c a b) (lapwingref03_Ints a b) := by
  unfold lapwingref03_Ints lapwingref03_Ints_c
  try simp only [ssubS_eq]
  repeat' (first | (with_reducible exact Tw.refl _) | (with_reducible apply Tw.chk) | (with_reducible apply Tw.ite) | (with_reducible apply Tw.bind) | (with_reducible apply Tw.cut) | (with_reducible apply Tw.loop) | (with_reducible apply Tw.gif) | (intro _) | split)
def lapwinglaw19_awake_c  : Option Bool :=
  bindO (order_Invert_c ([2, 0, 1] : List Int)) fun v =>
  let ok := v.2
  bindO (if ok = true then order_Visual_c ([0, 1, 1, 0] : List Int) else some []) fun v1 =>
  bindO (if ok = true then lapwingref03_Ints_c v1 ([0, 2, 1, 3] : List Int) else some false) fun v2 =>
  bindO (if (if ok = true then v2 else false) = true then lapwingref03_Ints_c v.1 ([1, 2, 0] : List Int) else some false) fun v3 =>
  some (if (if ok = true then v2 else false) = true then v3 else false)
theorem lapwinglaw19_awake_le : Tw (lapwinglaw19_awake_c ) (lapwinglaw19_awake ) := by
  unfold lapwinglaw19_awake lapwinglaw19_awake_c
  try simp only [ssubS_eq]
  repeat' (first | (with_reducible exact Tw.refl _) | (with_reducible apply Tw.chk) | (with_reducible apply Tw.ite) | (with_reducible apply Tw.bind) | (with_reducible apply Tw.cut) | (with_reducible apply Tw.loop) | (with_reducible apply Tw.gif) | (with_reducible apply order_Visual_le) | (with_reducible apply order_Invert_le) | (with_reducible apply lapwingref03_Ints_le) | (intro _) | split)
end Go.Vx
