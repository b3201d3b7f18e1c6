/- Twins of lifted functions, by program (twin.py). -/
import Derived.Test.YtigfggfbpdhmfaaDoorUTwin
set_option linter.all false
namespace Go.Vx
def ranges_fits_c (r' : T_ranges_Row) : Option Bool :=
  some (if (if (if (if (decide (0 ≤ r'.fLo)) = true then (decide (r'.fLo ≤ r'.fHi)) else false) = true then (decide (r'.fHi ≤ 1114111)) else false) = true then (decide (1 ≤ r'.fV)) else false) = true then (decide (r'.fV ≤ 255)) else false)
theorem ranges_fits_le (r' : T_ranges_Row)  : Tw (ranges_fits_c r') (ranges_fits r') := by
  unfold ranges_fits ranges_fits_c
  try simp only [ssubS_eq]
  repeat' (first | (with_reducible exact Tw.refl _) | (with_reducible apply Tw.chk) | (with_reducible apply Tw.ite) | (with_reducible apply Tw.bind) | (with_reducible apply Tw.cut) | (with_reducible apply Tw.loop) | (with_reducible apply Tw.gif) | (intro _) | split)
def ranges_touches_c (a : T_ranges_Row) (b : T_ranges_Row) : Option Bool :=
  chk (inR .i64 (a.fHi + 1)) <|
  some (if (b.fLo == (a.fHi + 1)) = true then (b.fV == a.fV) else false)
theorem ranges_touches_le (a : T_ranges_Row) (b : T_ranges_Row)  : Tw (ranges_touches_c a b) (ranges_touches a b) := by
  unfold ranges_touches ranges_touches_c
  try simp only [ssubS_eq]
  repeat' (first | (with_reducible exact Tw.refl _) | (with_reducible apply Tw.chk) | (with_reducible apply Tw.ite) | (with_reducible apply Tw.bind) | (with_reducible apply Tw.cut) | (with_reducible apply Tw.loop) | (with_reducible apply Tw.gif) | (intro _) | split)
def ranges_Sane_c (t' : T_ranges_Table) : Option Bool :=
  iteO (decide (4096 < (lenL t'.fL)))
    (some false)
    (cutO (loopF (fun (v : Int) =>
           iteO (decide (v < (lenL t'.fL)))
             (chk (0 ≤ v ∧ v < (lenL t'.fL)) <|
              bindO (ranges_fits_c (getL d_ranges_Row t'.fL v)) fun v1 =>
              iteO (!v1)
                (some (.out (.out false)))
                (chk ((decide (0 < v)) = true → inR .i64 (v - 1)) <|
                 chk ((decide (0 < v)) = true → 0 ≤ (v - 1) ∧ (v - 1) < (lenL t'.fL)) <|
                 chk (((decide (0 < v)) && ((decide (0 < v)) && (!(decide ((getL d_ranges_Row t'.fL v).fLo ≤ (getL d_ranges_Row t'.fL (v - 1)).fHi))))) = true → inR .i64 (v - 1)) <|
                 chk (((decide (0 < v)) && ((decide (0 < v)) && (!(decide ((getL d_ranges_Row t'.fL v).fLo ≤ (getL d_ranges_Row t'.fL (v - 1)).fHi))))) = true → 0 ≤ (v - 1) ∧ (v - 1) < (lenL t'.fL)) <|
                 bindO (if ((decide (0 < v)) && ((decide (0 < v)) && (!(decide ((getL d_ranges_Row t'.fL v).fLo ≤ (getL d_ranges_Row t'.fL (v - 1)).fHi))))) = true then ranges_touches_c (getL d_ranges_Row t'.fL (v - 1)) (getL d_ranges_Row t'.fL v) else some false) fun v2 =>
                 iteO (if (decide (0 < v)) = true then (if (decide ((getL d_ranges_Row t'.fL v).fLo ≤ (getL d_ranges_Row t'.fL (v - 1)).fHi)) = true then true else v2) else false)
                   (some (.out (.out false)))
                   (chk (inR .i64 (v + 1)) <|
                    some (.go (v + 1)))))
             (some (.out (.go ())))) 0) fun (_ : Unit) =>
     some true)
theorem ranges_Sane_le (t' : T_ranges_Table)  : Tw (ranges_Sane_c t') (ranges_Sane t') := by
  unfold ranges_Sane ranges_Sane_c
  try simp only [ssubS_eq]
  repeat' (first | (with_reducible exact Tw.refl _) | (with_reducible apply Tw.chk) | (with_reducible apply Tw.ite) | (with_reducible apply Tw.bind) | (with_reducible apply Tw.cut) | (with_reducible apply Tw.loop) | (with_reducible apply Tw.gif) | (with_reducible apply ranges_fits_le) | (with_reducible apply ranges_touches_le) | (intro _) | split)
end Go.Vx
