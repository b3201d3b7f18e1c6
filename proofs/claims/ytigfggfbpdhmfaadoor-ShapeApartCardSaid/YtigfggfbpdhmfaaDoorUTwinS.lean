/- Twins of lifted functions, by program (twin.py). -/
import Derived.Test.YtigfggfbpdhmfaaDoorUCln
set_option linter.all false
namespace Go.Vx
set_option linter.all false
def ranges_Get_c (t' : T_ranges_Table) (r' : Int) : Option Int :=
  cutO (loopF (fun (v : Int) =>
        iteO (decide (v < (lenL t'.fL)))
          (chk (0 ≤ v ∧ v < (lenL t'.fL)) <|
           iteO (if (decide ((getL d_ranges_Row t'.fL v).fLo ≤ r')) = true then (decide (r' ≤ (getL d_ranges_Row t'.fL v).fHi)) else false)
             (some (.out (.out (getL d_ranges_Row t'.fL v).fV)))
             (chk (inR .i64 (v + 1)) <|
              some (.go (v + 1))))
          (some (.out (.go ())))) 0) fun (_ : Unit) =>
  some 0
theorem ranges_Get_le (t' : T_ranges_Table) (r' : Int)  : Tw (ranges_Get_c t' r') (ranges_Get t' r') := by
  unfold ranges_Get ranges_Get_c
  try simp only [ssubS_eq]
  repeat' (first | (with_reducible exact Tw.refl _) | (with_reducible apply Tw.chk) | (with_reducible apply Tw.ite) | (with_reducible apply Tw.bind) | (with_reducible apply Tw.cut) | (with_reducible apply Tw.loop) | (with_reducible apply Tw.gif) | (intro _) | split)
def ucd_Join_c (d' : T_ucd_Data) (r' : Int) : Option Int :=
  bindO (ranges_Get_c d'.fJoin r') fun v =>
  some v
theorem ucd_Join_le (d' : T_ucd_Data) (r' : Int)  : Tw (ucd_Join_c d' r') (ucd_Join d' r') := by
  unfold ucd_Join ucd_Join_c
  try simp only [ssubS_eq]
  repeat' (first | (with_reducible exact Tw.refl _) | (with_reducible apply Tw.chk) | (with_reducible apply Tw.ite) | (with_reducible apply Tw.bind) | (with_reducible apply Tw.cut) | (with_reducible apply Tw.loop) | (with_reducible apply Tw.gif) | (with_reducible apply ranges_Get_le) | (intro _) | split)
def ucd_Shape_c (d' : T_ucd_Data) (r' : Int) (which : Int) : Option Int :=
  iteO (if (decide (which < 0)) = true then true else (decide (3 < which)))
    (some r')
    (cutO (loopF (fun (v : Int) =>
           iteO (decide (v < (lenL d'.fForms)))
             (chk (0 ≤ v ∧ v < (lenL d'.fForms)) <|
              iteO (!((getL d_ucd_Form d'.fForms v).fR == r'))
                (chk (inR .i64 (v + 1)) <|
                 some (.go (v + 1)))
                (iteO ((getL d_ucd_Form d'.fForms v).fN == 4)
                   (chk (inR .i64 ((getL d_ucd_Form d'.fForms v).fAt + which)) <|
                    some (.out (.out ((getL d_ucd_Form d'.fForms v).fAt + which))))
                   (iteO (if ((getL d_ucd_Form d'.fForms v).fN == 2) = true then (if (which == 1) = true then true else (which == 3)) else false)
                      (chk (inR .i64 ((getL d_ucd_Form d'.fForms v).fAt + 1)) <|
                       some (.out (.out ((getL d_ucd_Form d'.fForms v).fAt + 1))))
                      (some (.out (.out (getL d_ucd_Form d'.fForms v).fAt))))))
             (some (.out (.go ())))) 0) fun (_ : Unit) =>
     some r')
theorem ucd_Shape_le (d' : T_ucd_Data) (r' : Int) (which : Int)  : Tw (ucd_Shape_c d' r' which) (ucd_Shape d' r' which) := by
  unfold ucd_Shape ucd_Shape_c
  try simp only [ssubS_eq]
  repeat' (first | (with_reducible exact Tw.refl _) | (with_reducible apply Tw.chk) | (with_reducible apply Tw.ite) | (with_reducible apply Tw.bind) | (with_reducible apply Tw.cut) | (with_reducible apply Tw.loop) | (with_reducible apply Tw.gif) | (intro _) | split)
def ucd_Mirror_c (d' : T_ucd_Data) (r' : Int) : Option Int :=
  cutO (loopF (fun (v : Int) =>
        iteO (decide (v < (lenL d'.fMirror)))
          (chk (0 ≤ v ∧ v < (lenL d'.fMirror)) <|
           iteO (r' == (getL d_ucd_Pair d'.fMirror v).fA)
             (some (.out (.out (getL d_ucd_Pair d'.fMirror v).fB)))
             (iteO (r' == (getL d_ucd_Pair d'.fMirror v).fB)
                (some (.out (.out (getL d_ucd_Pair d'.fMirror v).fA)))
                (chk (inR .i64 (v + 1)) <|
                 some (.go (v + 1)))))
          (some (.out (.go ())))) 0) fun (_ : Unit) =>
  some r'
theorem ucd_Mirror_le (d' : T_ucd_Data) (r' : Int)  : Tw (ucd_Mirror_c d' r') (ucd_Mirror d' r') := by
  unfold ucd_Mirror ucd_Mirror_c
  try simp only [ssubS_eq]
  repeat' (first | (with_reducible exact Tw.refl _) | (with_reducible apply Tw.chk) | (with_reducible apply Tw.ite) | (with_reducible apply Tw.bind) | (with_reducible apply Tw.cut) | (with_reducible apply Tw.loop) | (with_reducible apply Tw.gif) | (intro _) | split)
def ucd_Ligature_c (lam : Int) (alef : Int) (final : Bool) : Option (Int × Bool) :=
  iteO (!(lam == 1604))
    (some (0, false))
    (iteO (alef == 1570)
       (iteO final
          (chk (inR .i64 (65269 + 1)) <|
           let r' := (65269 + 1)
           some (r', true))
          (some (65269, true)))
       (iteO (alef == 1571)
          (iteO final
             (chk (inR .i64 (65271 + 1)) <|
              let r'1 := (65271 + 1)
              some (r'1, true))
             (some (65271, true)))
          (iteO (alef == 1573)
             (iteO final
                (chk (inR .i64 (65273 + 1)) <|
                 let r'2 := (65273 + 1)
                 some (r'2, true))
                (some (65273, true)))
             (iteO (alef == 1575)
                (iteO final
                   (chk (inR .i64 (65275 + 1)) <|
                    let r'3 := (65275 + 1)
                    some (r'3, true))
                   (some (65275, true)))
                (some (0, false))))))
theorem ucd_Ligature_le (lam : Int) (alef : Int) (final : Bool)  : Tw (ucd_Ligature_c lam alef final) (ucd_Ligature lam alef final) := by
  unfold ucd_Ligature ucd_Ligature_c
  try simp only [ssubS_eq]
  repeat' (first | (with_reducible exact Tw.refl _) | (with_reducible apply Tw.chk) | (with_reducible apply Tw.ite) | (with_reducible apply Tw.bind) | (with_reducible apply Tw.cut) | (with_reducible apply Tw.loop) | (with_reducible apply Tw.gif) | (intro _) | split)
def shape_Before_c (d' : T_ucd_Data) (r' : (List Int)) (at' : Int) : Option Int :=
  iteO (if (decide (at' < 0)) = true then true else (decide ((lenL r') ≤ at')))
    (some (-1))
    (cutO (chk (inR .i64 (at' - 1)) <|
       let i := (at' - 1)
       loopF (fun (i1 : Int) =>
           iteO (decide (0 ≤ i1))
             (chk (0 ≤ i1 ∧ i1 < (lenL r')) <|
              bindO (ucd_Join_c d' (getL 0 r' i1)) fun v =>
              iteO (!(v == 4))
                (some (.out (.out i1)))
                (chk (inR .i64 (i1 - 1)) <|
                 let i2 := (i1 - 1)
                 some (.go i2)))
             (some (.out (.go ())))) i) fun (_ : Unit) =>
     some (-1))
theorem shape_Before_le (d' : T_ucd_Data) (r' : (List Int)) (at' : Int)  : Tw (shape_Before_c d' r' at') (shape_Before d' r' at') := by
  unfold shape_Before shape_Before_c
  try simp only [ssubS_eq]
  repeat' (first | (with_reducible exact Tw.refl _) | (with_reducible apply Tw.chk) | (with_reducible apply Tw.ite) | (with_reducible apply Tw.bind) | (with_reducible apply Tw.cut) | (with_reducible apply Tw.loop) | (with_reducible apply Tw.gif) | (with_reducible apply ucd_Join_le) | (intro _) | split)
def shape_After_c (d' : T_ucd_Data) (r' : (List Int)) (at' : Int) : Option Int :=
  iteO (if (decide (at' < 0)) = true then true else (decide ((lenL r') ≤ at')))
    (some (-1))
    (cutO (chk (inR .i64 (at' + 1)) <|
       let i := (at' + 1)
       loopF (fun (i1 : Int) =>
           iteO (decide (i1 < (lenL r')))
             (chk (0 ≤ i1 ∧ i1 < (lenL r')) <|
              bindO (ucd_Join_c d' (getL 0 r' i1)) fun v =>
              iteO (!(v == 4))
                (some (.out (.out i1)))
                (chk (inR .i64 (i1 + 1)) <|
                 let i2 := (i1 + 1)
                 some (.go i2)))
             (some (.out (.go ())))) i) fun (_ : Unit) =>
     some (-1))
theorem shape_After_le (d' : T_ucd_Data) (r' : (List Int)) (at' : Int)  : Tw (shape_After_c d' r' at') (shape_After d' r' at') := by
  unfold shape_After shape_After_c
  try simp only [ssubS_eq]
  repeat' (first | (with_reducible exact Tw.refl _) | (with_reducible apply Tw.chk) | (with_reducible apply Tw.ite) | (with_reducible apply Tw.bind) | (with_reducible apply Tw.cut) | (with_reducible apply Tw.loop) | (with_reducible apply Tw.gif) | (with_reducible apply ucd_Join_le) | (intro _) | split)
def shape_Forms_1_c (at' : Int) (side : Int) (cap0 : (List (Int × Int))) (cap1 : T_ucd_Data) (cap2 : (List Int)) : Option Bool :=
  chk ((decide (0 ≤ at')) = true → 0 ≤ at' ∧ at' < (lenL cap2)) <|
  bindO (if (decide (0 ≤ at')) = true then ucd_Join_c cap1 (getL 0 cap2 at') else some 0) fun v =>
  some (if (decide (0 ≤ at')) = true then (!((bndI .i64 (mgetI cap0 v) side) == 0)) else false)
theorem shape_Forms_1_le (at' : Int) (side : Int) (cap0 : (List (Int × Int))) (cap1 : T_ucd_Data) (cap2 : (List Int))  : Tw (shape_Forms_1_c at' side cap0 cap1 cap2) (shape_Forms_1 at' side cap0 cap1 cap2) := by
  unfold shape_Forms_1 shape_Forms_1_c
  try simp only [ssubS_eq]
  repeat' (first | (with_reducible exact Tw.refl _) | (with_reducible apply Tw.chk) | (with_reducible apply Tw.ite) | (with_reducible apply Tw.bind) | (with_reducible apply Tw.cut) | (with_reducible apply Tw.loop) | (with_reducible apply Tw.gif) | (with_reducible apply ucd_Join_le) | (intro _) | split)
def shape_sides_c : Option (List (Int × Int)) := some [(1, 1), (2, 3), (3, 3)]
theorem shape_sides_le : Tw (shape_sides_c ) (shape_sides ) := by
  unfold shape_sides shape_sides_c
  try simp only [ssubS_eq]
  repeat' (first | (with_reducible exact Tw.refl _) | (with_reducible apply Tw.chk) | (with_reducible apply Tw.ite) | (with_reducible apply Tw.bind) | (with_reducible apply Tw.cut) | (with_reducible apply Tw.loop) | (with_reducible apply Tw.gif) | (intro _) | split)
def shape_Forms_c (d' : T_ucd_Data) (r' : (List Int)) : Option (List Int) :=
  bindO (shape_sides_c) fun v =>
  chk (makeOk 8 (lenL r') (lenL r')) <|
  cutO (loopF (fun ((v1, out1) : Int × List Int) =>
        iteO (decide (v1 < (lenL r')))
          (bindO (shape_Forms_1_c v1 1 v d' r') fun v2 =>
           bindO (if v2 = true then shape_Before_c d' r' v1 else some 0) fun v3 =>
           bindO (if v2 = true then shape_Forms_1_c v3 2 v d' r' else some false) fun v4 =>
           let first := (if v2 = true then v4 else false)
           bindO (shape_Forms_1_c v1 2 v d' r') fun v5 =>
           bindO (if v5 = true then shape_After_c d' r' v1 else some 0) fun v6 =>
           bindO (if v5 = true then shape_Forms_1_c v6 1 v d' r' else some false) fun v7 =>
           let second := (if v5 = true then v7 else false)
           iteO (if first = true then second else false)
             (chk (0 ≤ v1 ∧ v1 < (lenL r')) <|
              chk (inR .i64 (v1 + 1)) <|
              some (.go ((v1 + 1), (setL out1 v1 3))))
             (iteO first
                (chk (0 ≤ v1 ∧ v1 < (lenL r')) <|
                 chk (inR .i64 (v1 + 1)) <|
                 some (.go ((v1 + 1), (setL out1 v1 1))))
                (iteO second
                   (chk (0 ≤ v1 ∧ v1 < (lenL r')) <|
                    chk (inR .i64 (v1 + 1)) <|
                    some (.go ((v1 + 1), (setL out1 v1 2))))
                   (chk (0 ≤ v1 ∧ v1 < (lenL r')) <|
                    chk (inR .i64 (v1 + 1)) <|
                    some (.go ((v1 + 1), (setL out1 v1 0)))))))
          (some (.out (.go out1)))) (0, (repL (lenL r') 0))) fun out =>
  some out
theorem shape_Forms_le (d' : T_ucd_Data) (r' : (List Int))  : Tw (shape_Forms_c d' r') (shape_Forms d' r') := by
  unfold shape_Forms shape_Forms_c
  try simp only [ssubS_eq]
  repeat' (first | (with_reducible exact Tw.refl _) | (with_reducible apply Tw.chk) | (with_reducible apply Tw.ite) | (with_reducible apply Tw.bind) | (with_reducible apply Tw.cut) | (with_reducible apply Tw.loop) | (with_reducible apply Tw.gif) | (with_reducible apply shape_Before_le) | (with_reducible apply shape_After_le) | (with_reducible apply shape_Forms_1_le) | (with_reducible apply shape_sides_le) | (intro _) | split)
def shape_Mirror_c (d' : T_ucd_Data) (r' : Int) (level : Int) (boxes : Bool) : Option Int :=
  iteO (if ((bndI .i64 level 1) == 0) = true then true else (if (if (decide (9472 ≤ r')) = true then (decide (r' ≤ 9631)) else false) = true then (!boxes) else false))
    (some r')
    (bindO (ucd_Mirror_c d' r') fun v =>
     some v)
theorem shape_Mirror_le (d' : T_ucd_Data) (r' : Int) (level : Int) (boxes : Bool)  : Tw (shape_Mirror_c d' r' level boxes) (shape_Mirror d' r' level boxes) := by
  unfold shape_Mirror shape_Mirror_c
  try simp only [ssubS_eq]
  repeat' (first | (with_reducible exact Tw.refl _) | (with_reducible apply Tw.chk) | (with_reducible apply Tw.ite) | (with_reducible apply Tw.bind) | (with_reducible apply Tw.cut) | (with_reducible apply Tw.loop) | (with_reducible apply Tw.gif) | (with_reducible apply ucd_Mirror_le) | (intro _) | split)
def shape_Glyphs_c (d' : T_ucd_Data) (r' : (List Int)) (levels : (List Int)) (boxes : Bool) : Option (List Int) :=
  bindO (clone_k r') fun v =>
  iteO (!((lenL r') == (lenL levels)))
    (some v)
    (bindO (shape_Forms_c d' r') fun v1 =>
     cutO (loopF (fun ((v5, out3) : Int × List Int) =>
           iteO (decide (v5 < (lenL r')))
             (cutO (cutO (chk (0 ≤ v5 ∧ v5 < (lenL r')) <|
                  let x'1 := (getL 0 r' v5)
                  chk (0 ≤ v5 ∧ v5 < (lenL v1)) <|
                  bindO (ucd_Shape_c d' x'1 (getL 0 v1 (0 + v5))) fun v7 =>
                  chk (0 ≤ v5 ∧ v5 < (lenL v)) <|
                  some (.go (setL out3 v5 v7))) fun out5 =>
                chk (0 ≤ v5 ∧ v5 < (lenL v)) <|
                iteO ((getL 0 out5 (0 + v5)) == (getL 0 r' v5))
                  (chk (0 ≤ v5 ∧ v5 < (lenL levels)) <|
                   bindO (shape_Mirror_c d' (getL 0 r' v5) (getL 0 levels v5) boxes) fun v6 =>
                   chk (0 ≤ v5 ∧ v5 < (lenL v)) <|
                   some (.go (setL out5 v5 v6)))
                  (some (.go out5))) fun out4 =>
              chk (inR .i64 (v5 + 1)) <|
              some (.go ((v5 + 1), out4)))
             (some (.out (.go out3)))) (0, v)) fun out =>
     cutO (loopF (fun ((v2, out2) : Int × List Int) =>
           iteO (decide (v2 < (lenL r')))
             (chk (0 ≤ v2 ∧ v2 < (lenL r')) <|
              let x' := (getL 0 r' v2)
              bindO (shape_After_c d' r' v2) fun v3 =>
              iteO (if (!(x' == 1604)) = true then true else (decide (v3 < 0)))
                (chk (inR .i64 (v2 + 1)) <|
                 some (.go ((v2 + 1), out2)))
                (chk (0 ≤ v2 ∧ v2 < (lenL v1)) <|
                 chk ((!((getL 0 v1 (0 + v2)) == 1)) = true → 0 ≤ v2 ∧ v2 < (lenL v1)) <|
                 let final := (if ((getL 0 v1 (0 + v2)) == 1) = true then true else ((getL 0 v1 (0 + v2)) == 3))
                 chk (0 ≤ v3 ∧ v3 < (lenL r')) <|
                 bindO (ucd_Ligature_c x' (getL 0 r' v3) final) fun v4 =>
                 let g' := v4.1
                 let ok := v4.2
                 iteO ok
                   (chk (0 ≤ v2 ∧ v2 < (lenL v)) <|
                    chk (0 ≤ v3 ∧ v3 < (lenL v)) <|
                    chk (inR .i64 (v2 + 1)) <|
                    some (.go ((v2 + 1), (setL (setL out2 v2 g') v3 0))))
                   (chk (inR .i64 (v2 + 1)) <|
                    some (.go ((v2 + 1), out2)))))
             (some (.out (.go out2)))) (0, out)) fun out1 =>
     some out1)
theorem shape_Glyphs_le (d' : T_ucd_Data) (r' : (List Int)) (levels : (List Int)) (boxes : Bool)  : Tw (shape_Glyphs_c d' r' levels boxes) (shape_Glyphs d' r' levels boxes) := by
  unfold shape_Glyphs shape_Glyphs_c
  try simp only [ssubS_eq]
  repeat' (first | (with_reducible exact Tw.refl _) | (with_reducible apply Tw.chk) | (with_reducible apply Tw.ite) | (with_reducible apply Tw.bind) | (with_reducible apply Tw.cut) | (with_reducible apply Tw.loop) | (with_reducible apply Tw.gif) | (with_reducible apply slices_Clone___int_int__le) | (with_reducible apply ucd_Shape_le) | (with_reducible apply ucd_Ligature_le) | (with_reducible apply shape_After_le) | (with_reducible apply shape_Forms_le) | (with_reducible apply shape_Mirror_le) | (intro _) | split)
end Go.Vx
