/- Twins of lifted functions, by program (twin.py). -/
import Derived.Test.YtkjmcemgncalgaaGreatDoorWLift
import Derived.Test.YtkjmcemgncalgaaGreatDoorVxTwin
set_option linter.all false
namespace Go.Vx
set_option linter.all false
def bytealg_CountString_c (s : ByteArray) (c : Int) : Option Int := some (Lib.countByte s.data.toList c.toNat.toUInt8 : Nat)
theorem bytealg_CountString_le (s : ByteArray) (c : Int)  : Tw (bytealg_CountString_c s c) (bytealg_CountString s c) := by
 unfold bytealg_CountString bytealg_CountString_c
 with_reducible repeat' (first | exact Tw.refl _ | apply Tw.chk | apply Tw.ite | apply Tw.bind | apply Tw.cut | apply Tw.loop | apply Tw.gif | intro _ | split)
def bytealg_IndexByteString_c (s : ByteArray) (c : Int) : Option Int := some (Lib.indexByte s.data.toList c.toNat.toUInt8)
theorem bytealg_IndexByteString_le (s : ByteArray) (c : Int)  : Tw (bytealg_IndexByteString_c s c) (bytealg_IndexByteString s c) := by
 unfold bytealg_IndexByteString bytealg_IndexByteString_c
 with_reducible repeat' (first | exact Tw.refl _ | apply Tw.chk | apply Tw.ite | apply Tw.bind | apply Tw.cut | apply Tw.loop | apply Tw.gif | intro _ | split)
def strconv_lower_c (c' : Int) : Option Int :=
 some (borI .u8 c' 32)
theorem strconv_lower_le (c' : Int)  : Tw (strconv_lower_c c') (strconv_lower c') := by
 unfold strconv_lower strconv_lower_c
 with_reducible repeat' (first | exact Tw.refl _ | apply Tw.chk | apply Tw.ite | apply Tw.bind | apply Tw.cut | apply Tw.loop | apply Tw.gif | intro _ | split)
def stringslite_IndexByte_c (s : ByteArray) (c' : Int) : Option Int :=
 bindO (bytealg_IndexByteString_c s c') fun v =>
 some v
theorem stringslite_IndexByte_le (s : ByteArray) (c' : Int)  : Tw (stringslite_IndexByte_c s c') (stringslite_IndexByte s c') := by
 unfold stringslite_IndexByte stringslite_IndexByte_c
 with_reducible repeat' (first | exact Tw.refl _ | apply Tw.chk | apply Tw.ite | apply Tw.bind | apply Tw.cut | apply Tw.loop | apply Tw.gif | apply bytealg_IndexByteString_le | intro _ | split)
def stringslite_Index_c (s : ByteArray) (substr : ByteArray) : Option Int :=
 let n := (slenS substr)
 iteO (if (n == 0) = true then true else (seqS substr s))
  (some 0)
  (iteO (n == 1)
   (chk ((0 : Int) ≤ 0 ∧ (0 : Int) < (slenS substr)) <|
    bindO (stringslite_IndexByte_c s (sidxS substr 0)) fun v =>
    some v)
   (iteO (decide ((slenS s) ≤ n))
    (some (-1))
    (none)))
theorem stringslite_Index_le (s : ByteArray) (substr : ByteArray)  : Tw (stringslite_Index_c s substr) (stringslite_Index s substr) := by
 unfold stringslite_Index stringslite_Index_c
 with_reducible repeat' (first | exact Tw.refl _ | apply Tw.chk | apply Tw.ite | apply Tw.bind | apply Tw.cut | apply Tw.loop | apply Tw.gif | apply stringslite_IndexByte_le | intro _ | split)
def strings_Index_c (s : ByteArray) (substr : ByteArray) : Option Int :=
 bindO (stringslite_Index_c s substr) fun v =>
 some v
theorem strings_Index_le (s : ByteArray) (substr : ByteArray)  : Tw (strings_Index_c s substr) (strings_Index s substr) := by
 unfold strings_Index strings_Index_c
 with_reducible repeat' (first | exact Tw.refl _ | apply Tw.chk | apply Tw.ite | apply Tw.bind | apply Tw.cut | apply Tw.loop | apply Tw.gif | apply stringslite_Index_le | intro _ | split)
def strings_Count_c (s : ByteArray) (substr : ByteArray) : Option Int :=
 iteO ((slenS substr) == 0)
  (none)
  (iteO ((slenS substr) == 1)
   (chk ((0 : Int) ≤ 0 ∧ (0 : Int) < (slenS substr)) <|
    bindO (bytealg_CountString_c s (sidxS substr 0)) fun v =>
    some v)
   (loopF (fun ((s1, n) : ByteArray × Int) =>
    bindO (strings_Index_c s1 substr) fun v1 =>
    iteO (v1 == (-1))
     (some (.out n))
     (chk (inR .i64 (n + 1)) <|
      let n1 := (n + 1)
      chk (inR .i64 (v1 + (slenS substr))) <|
      chk (0 ≤ (v1 + (slenS substr)) ∧ (v1 + (slenS substr)) ≤ (slenS s1) ∧ (slenS s1) ≤ (slenS s1)) <|
      let s2 := (ssubC s1 (v1 + (slenS substr)) (slenS s1))
      some (.go (s2, n1)))) (s, 0)))
theorem strings_Count_le (s : ByteArray) (substr : ByteArray)  : Tw (strings_Count_c s substr) (strings_Count s substr) := by
 unfold strings_Count strings_Count_c; try simp only [ssubS_eq]
 with_reducible repeat' (first | exact Tw.refl _ | apply Tw.chk | apply Tw.ite | apply Tw.bind | apply Tw.cut | apply Tw.loop | apply Tw.gif | apply bytealg_CountString_le | apply strings_Index_le | intro _ | split)
def strings_genSplit_c (s : ByteArray) (sep : ByteArray) (sepSave : Int) (n : Int) : Option (List ByteArray) :=
 iteO (n == 0)
  (some ([] : List ByteArray))
  (iteO (seqS sep (⟨#[]⟩ : ByteArray))
   (none)
   (cutO (iteO (decide (n < 0))
     (bindO (strings_Count_c s sep) fun v1 =>
      chk (inR .i64 (v1 + 1)) <|
      let n4 := (v1 + 1)
      some (.go n4))
     (some (.go n))) fun n1 =>
    chk (inR .i64 ((slenS s) + 1)) <|
    let n2 := (iminI n1 ((slenS s) + 1))
    chk (makeOk 16 n2 n2) <|
    chk (inR .i64 (n2 - 1)) <|
    let n3 := (n2 - 1)
    cutO (loopF (fun ((s2, i1, a1) : ByteArray × Int × List ByteArray) =>
     iteO (decide (i1 < n3))
      (bindO (strings_Index_c s2 sep) fun v =>
       iteO (decide (v < 0))
        (some (.out (.go (s2, i1, a1))))
        (chk (inR .i64 (v + sepSave)) <|
         chk ((0 : Int) ≤ 0 ∧ (0 : Int) ≤ (v + sepSave) ∧ (v + sepSave) ≤ (slenS s2)) <|
         chk (0 ≤ i1 ∧ i1 < n2) <|
         chk (inR .i64 (v + (slenS sep))) <|
         chk (0 ≤ (v + (slenS sep)) ∧ (v + (slenS sep)) ≤ (slenS s2) ∧ (slenS s2) ≤ (slenS s2)) <|
         let s3 := (ssubC s2 (v + (slenS sep)) (slenS s2))
         chk (inR .i64 (i1 + 1)) <|
         let i2 := (i1 + 1)
         some (.go (s3, i2, (setL a1 i1 (ssubC s2 0 (v + sepSave)))))))
      (some (.out (.go (s2, i1, a1))))) (s, 0, (repL n2 ByteArray.empty))) fun (s1, i, a) =>
    chk (0 ≤ i ∧ i < n2) <|
    chk (inR .i64 (i + 1)) <|
    chk ((0 : Int) ≤ 0 ∧ (0 : Int) ≤ (i + 1) ∧ (i + 1) ≤ n2) <|
    some (subL (setL a i s1) (0 + 0) ((0 + 0) + ((i + 1) - 0)))))
theorem strings_genSplit_le (s : ByteArray) (sep : ByteArray) (sepSave : Int) (n : Int)  : Tw (strings_genSplit_c s sep sepSave n) (strings_genSplit s sep sepSave n) := by
 unfold strings_genSplit strings_genSplit_c; try simp only [ssubS_eq]
 with_reducible repeat' (first | exact Tw.refl _ | apply Tw.chk | apply Tw.ite | apply Tw.bind | apply Tw.cut | apply Tw.loop | apply Tw.gif | apply strings_Index_le | apply strings_Count_le | intro _ | split)
def strings_Split_c (s : ByteArray) (sep : ByteArray) : Option (List ByteArray) :=
 bindO (strings_genSplit_c s sep 0 (-1)) fun v =>
 some v
theorem strings_Split_le (s : ByteArray) (sep : ByteArray)  : Tw (strings_Split_c s sep) (strings_Split s sep) := by
 unfold strings_Split strings_Split_c
 with_reducible repeat' (first | exact Tw.refl _ | apply Tw.chk | apply Tw.ite | apply Tw.bind | apply Tw.cut | apply Tw.loop | apply Tw.gif | apply strings_genSplit_le | intro _ | split)
def ucd_words_1_c (c' : Int) : Option Bool :=
 some (if (if (c' == 32) = true then true else (c' == 10)) = true then true else (c' == 45))
theorem ucd_words_1_le (c' : Int)  : Tw (ucd_words_1_c c') (ucd_words_1 c') := by
 unfold ucd_words_1 ucd_words_1_c
 with_reducible repeat' (first | exact Tw.refl _ | apply Tw.chk | apply Tw.ite | apply Tw.bind | apply Tw.cut | apply Tw.loop | apply Tw.gif | intro _ | split)
def strings_FieldsFunc_52_c (s : ByteArray) : Option (List ByteArray) :=
 chk (makeOk 16 0 32) <|
 cutO (loopF (fun ((start1, spans2, pos) : Int × List T_strings_span × Int) =>
  iteO (decide (pos < (slenS s)))
   (let rune := (rdecS s pos)
    bindO (ucd_words_1_c rune) fun v1 =>
    iteO v1
     (iteO (decide (0 ≤ start1))
      (chk (growOk 16 ((lenL spans2) + 1)) <|
       let start2 := (bxorI .i64 (-1) start1)
       some (.go (start2, (spans2 ++ ([(T_strings_span.mk start1 pos)] : List T_strings_span)), (if (decide (pos < (slenS s))) = true then (pos + (rwidS s pos)) else pos))))
      (some (.go (start1, spans2, (if (decide (pos < (slenS s))) = true then (pos + (rwidS s pos)) else pos)))))
     (iteO (decide (start1 < 0))
      (some (.go (pos, spans2, (if (decide (pos < (slenS s))) = true then (pos + (rwidS s pos)) else pos))))
      (some (.go (start1, spans2, (if (decide (pos < (slenS s))) = true then (pos + (rwidS s pos)) else pos))))))
   (some (.out (.go (start1, spans2))))) ((-1), (repL 0 d_strings_span), 0)) fun (start, spans) =>
 cutO (iteO (decide (0 ≤ start))
  (chk (growOk 16 ((lenL spans) + 1)) <|
   some (.go (spans ++ ([(T_strings_span.mk start (slenS s))] : List T_strings_span))))
  (some (.go spans))) fun spans1 =>
 chk (makeOk 16 (lenL spans1) (lenL spans1)) <|
 cutO (loopF (fun ((v, a1) : Int × List ByteArray) =>
  iteO (decide (v < (lenL spans1)))
   (chk (0 ≤ v ∧ v < (lenL spans1)) <|
    chk (0 ≤ (getL d_strings_span spans1 (0 + v)).fstart ∧ (getL d_strings_span spans1 (0 + v)).fstart ≤ (getL d_strings_span spans1 (0 + v)).fend ∧ (getL d_strings_span spans1 (0 + v)).fend ≤ (slenS s)) <|
    chk (0 ≤ v ∧ v < (lenL spans1)) <|
    chk (inR .i64 (v + 1)) <|
    some (.go ((v + 1), (setL a1 v (ssubC s (getL d_strings_span spans1 (0 + v)).fstart (getL d_strings_span spans1 (0 + v)).fend)))))
   (some (.out (.go a1)))) (0, (repL (lenL spans1) ByteArray.empty))) fun a =>
 some a
theorem strings_FieldsFunc_52_le (s : ByteArray)  : Tw (strings_FieldsFunc_52_c s) (strings_FieldsFunc_52 s) := by
 unfold strings_FieldsFunc_52 strings_FieldsFunc_52_c; try simp only [ssubS_eq]
 with_reducible repeat' (first | exact Tw.refl _ | apply Tw.chk | apply Tw.ite | apply Tw.bind | apply Tw.cut | apply Tw.loop | apply Tw.gif | apply ucd_words_1_le | intro _ | split)
def ucd_words_c (e : ByteArray) : Option (List ByteArray) :=
 bindO (strings_FieldsFunc_52_c e) fun v =>
 some v
theorem ucd_words_le (e : ByteArray)  : Tw (ucd_words_c e) (ucd_words e) := by
 unfold ucd_words ucd_words_c
 with_reducible repeat' (first | exact Tw.refl _ | apply Tw.chk | apply Tw.ite | apply Tw.bind | apply Tw.cut | apply Tw.loop | apply Tw.gif | apply strings_FieldsFunc_52_le | intro _ | split)
def istrconv_underscoreOK_c (a0 : ByteArray) : Option Bool := none
theorem istrconv_underscoreOK_le (a0 : ByteArray)  : Tw (istrconv_underscoreOK_c a0) (istrconv_underscoreOK a0) := by
 unfold istrconv_underscoreOK istrconv_underscoreOK_c
 with_reducible repeat' (first | exact Tw.refl _ | apply Tw.chk | apply Tw.ite | apply Tw.bind | apply Tw.cut | apply Tw.loop | apply Tw.gif | intro _ | split)
def istrconv_ParseUint_c (s : ByteArray) (base : Int) (bitSize : Int) : Option (Int × Unit) :=
 iteO (seqS s (⟨#[]⟩ : ByteArray))
  (none)
  (let base0 := (base == 0)
   cutO (iteO (if (decide (2 ≤ base)) = true then (decide (base ≤ 36)) else false)
    (some (.go (s, base)))
    (iteO (base == 0)
     (chk ((0 : Int) ≤ 0 ∧ (0 : Int) < (slenS s)) <|
      iteO ((sidxS s 0) == 48)
       (chk ((decide (3 ≤ (slenS s))) = true → (0 : Int) ≤ 1 ∧ (1 : Int) < (slenS s)) <|
        bindO (if (decide (3 ≤ (slenS s))) = true then strconv_lower_c (sidxS s 1) else some 0) fun v5 =>
        iteO (if (decide (3 ≤ (slenS s))) = true then (v5 == 98) else false)
         (chk ((0 : Int) ≤ 2 ∧ (2 : Int) ≤ (slenS s) ∧ (slenS s) ≤ (slenS s)) <|
          let s2 := (ssubC s 2 (slenS s))
          some (.go (s2, 2)))
         (chk ((decide (3 ≤ (slenS s))) = true → (0 : Int) ≤ 1 ∧ (1 : Int) < (slenS s)) <|
          bindO (if (decide (3 ≤ (slenS s))) = true then strconv_lower_c (sidxS s 1) else some 0) fun v6 =>
          iteO (if (decide (3 ≤ (slenS s))) = true then (v6 == 111) else false)
           (chk ((0 : Int) ≤ 2 ∧ (2 : Int) ≤ (slenS s) ∧ (slenS s) ≤ (slenS s)) <|
            let s3 := (ssubC s 2 (slenS s))
            some (.go (s3, 8)))
           (chk ((decide (3 ≤ (slenS s))) = true → (0 : Int) ≤ 1 ∧ (1 : Int) < (slenS s)) <|
            bindO (if (decide (3 ≤ (slenS s))) = true then strconv_lower_c (sidxS s 1) else some 0) fun v7 =>
            iteO (if (decide (3 ≤ (slenS s))) = true then (v7 == 120) else false)
             (chk ((0 : Int) ≤ 2 ∧ (2 : Int) ≤ (slenS s) ∧ (slenS s) ≤ (slenS s)) <|
              let s4 := (ssubC s 2 (slenS s))
              some (.go (s4, 16)))
             (chk ((0 : Int) ≤ 1 ∧ (1 : Int) ≤ (slenS s) ∧ (slenS s) ≤ (slenS s)) <|
              let s5 := (ssubC s 1 (slenS s))
              some (.go (s5, 8))))))
       (some (.go (s, 10))))
     (none))) fun (s1, base1) =>
   cutO (iteO (bitSize == 0)
    (some (.go 64))
    (iteO (if (decide (bitSize < 0)) = true then true else (decide (64 < bitSize)))
     (none)
     (some (.go bitSize)))) fun bitSize1 =>
   cutO (iteO (base1 == 10)
    (some (.go 1844674407370955162))
    (iteO (base1 == 16)
     (some (.go 1152921504606846976))
     (chk (((IntKind.wrap .u64 base1) : Int) ≠ 0) <|
      chk (inR .u64 (Int.tdiv 18446744073709551615 (IntKind.wrap .u64 base1))) <|
      chk (inR .u64 ((Int.tdiv 18446744073709551615 (IntKind.wrap .u64 base1)) + 1)) <|
      let cutoff1 := ((Int.tdiv 18446744073709551615 (IntKind.wrap .u64 base1)) + 1)
      some (.go cutoff1)))) fun cutoff =>
   chk ((0 : Int) ≤ (IntKind.wrap .u64 bitSize1)) <|
   chk (inR .u64 ((shlI .u64 1 (IntKind.wrap .u64 bitSize1)) - 1)) <|
   let maxVal := ((shlI .u64 1 (IntKind.wrap .u64 bitSize1)) - 1)
   cutO (loopF (fun ((underscores1, n1, v1) : Bool × Int × Int) =>
    iteO (decide (v1 < (slenS s1)))
     (cutO (chk (0 ≤ v1 ∧ v1 < (lenL (bytesL s1))) <|
       let c' := (getL 0 (bytesL s1) v1)
       cutO (iteO (if (c' == 95) = true then base0 else false)
        (some (.out (.go (true, n1))))
        (iteO (if (decide (48 ≤ c')) = true then (decide (c' ≤ 57)) else false)
         (chk (inR .u8 (c' - 48)) <|
          let d'1 := (c' - 48)
          some (.go d'1))
         (bindO (strconv_lower_c c') fun v2 =>
          bindO (if (decide (97 ≤ v2)) = true then strconv_lower_c c' else some 0) fun v3 =>
          iteO (if (decide (97 ≤ v2)) = true then (decide (v3 ≤ 122)) else false)
           (bindO (strconv_lower_c c') fun v4 =>
            chk (inR .u8 (v4 - 97)) <|
            chk (inR .u8 ((v4 - 97) + 10)) <|
            let d'2 := ((v4 - 97) + 10)
            some (.go d'2))
           (none)))) fun d' =>
       iteO (decide ((IntKind.wrap .u8 base1) ≤ d'))
        (none)
        (iteO (decide (cutoff ≤ n1))
         (none)
         (chk (inR .u64 (n1 * (IntKind.wrap .u64 base1))) <|
          let n3 := (n1 * (IntKind.wrap .u64 base1))
          chk (inR .u64 (n3 + (IntKind.wrap .u64 d'))) <|
          let n11 := (n3 + (IntKind.wrap .u64 d'))
          iteO (if (decide (n11 < n3)) = true then true else (decide (maxVal < n11)))
           (none)
           (some (.go (underscores1, n11)))))) fun (underscores2, n2) =>
      chk (inR .i64 (v1 + 1)) <|
      some (.go (underscores2, n2, (v1 + 1))))
     (some (.out (.go (underscores1, n1))))) (false, 0, 0)) fun (underscores, n) =>
   bindO (if underscores = true then istrconv_underscoreOK_c s else some false) fun v =>
   iteO (if underscores = true then (!v) else false)
    (none)
    (some (n, ())))
theorem istrconv_ParseUint_le (s : ByteArray) (base : Int) (bitSize : Int)  : Tw (istrconv_ParseUint_c s base bitSize) (istrconv_ParseUint s base bitSize) := by
 unfold istrconv_ParseUint istrconv_ParseUint_c; try simp only [ssubS_eq]
 with_reducible repeat' (first | exact Tw.refl _ | apply Tw.chk | apply Tw.ite | apply Tw.bind | apply Tw.cut | apply Tw.loop | apply Tw.gif | apply strconv_lower_le | apply istrconv_underscoreOK_le | intro _ | split)
def istrconv_ParseInt_c (s : ByteArray) (base : Int) (bitSize : Int) : Option (Int × Unit) :=
 iteO (seqS s (⟨#[]⟩ : ByteArray))
  (none)
  (cutO (chk ((0 : Int) ≤ 0 ∧ (0 : Int) < (slenS s)) <|
    iteO ((sidxS s 0) == 43)
     (chk ((0 : Int) ≤ 1 ∧ (1 : Int) ≤ (slenS s) ∧ (slenS s) ≤ (slenS s)) <|
      let s2 := (ssubC s 1 (slenS s))
      some (.go (s2, false)))
     (iteO ((sidxS s 0) == 45)
      (chk ((0 : Int) ≤ 1 ∧ (1 : Int) ≤ (slenS s) ∧ (slenS s) ≤ (slenS s)) <|
       let s3 := (ssubC s 1 (slenS s))
       some (.go (s3, true)))
      (some (.go (s, false))))) fun (s1, neg) =>
   bindO (istrconv_ParseUint_c s1 base bitSize) fun v =>
   let un := v.1
   iteO (if false = true then false else false)
    (some (0, ()))
    (iteO (bitSize == 0)
     (chk (inR .i64 (64 - 1)) <|
      chk ((0 : Int) ≤ (IntKind.wrap .u64 (64 - 1))) <|
      let cutoff := (shlI .u64 1 (IntKind.wrap .u64 (64 - 1)))
      iteO (if (!neg) = true then (decide (cutoff ≤ un)) else false)
       (none)
       (iteO (if neg = true then (decide (cutoff < un)) else false)
        (none)
        (let n := (IntKind.wrap .i64 un)
         iteO neg
          (chk (inR .i64 (0 - n)) <|
           let n1 := (0 - n)
           some (n1, ()))
          (some (n, ())))))
     (chk (inR .i64 (bitSize - 1)) <|
      chk ((0 : Int) ≤ (IntKind.wrap .u64 (bitSize - 1))) <|
      let cutoff1 := (shlI .u64 1 (IntKind.wrap .u64 (bitSize - 1)))
      iteO (if (!neg) = true then (decide (cutoff1 ≤ un)) else false)
       (none)
       (iteO (if neg = true then (decide (cutoff1 < un)) else false)
        (none)
        (let n2 := (IntKind.wrap .i64 un)
         iteO neg
          (chk (inR .i64 (0 - n2)) <|
           let n3 := (0 - n2)
           some (n3, ()))
          (some (n2, ())))))))
theorem istrconv_ParseInt_le (s : ByteArray) (base : Int) (bitSize : Int)  : Tw (istrconv_ParseInt_c s base bitSize) (istrconv_ParseInt s base bitSize) := by
 unfold istrconv_ParseInt istrconv_ParseInt_c; try simp only [ssubS_eq]
 with_reducible repeat' (first | exact Tw.refl _ | apply Tw.chk | apply Tw.ite | apply Tw.bind | apply Tw.cut | apply Tw.loop | apply Tw.gif | apply istrconv_ParseUint_le | intro _ | split)
def strconv_ParseInt_c (s : ByteArray) (base : Int) (bitSize : Int) : Option (Int × Unit) :=
 bindO (istrconv_ParseInt_c s base bitSize) fun v =>
 let x' := v.1
 some (x', ())
theorem strconv_ParseInt_le (s : ByteArray) (base : Int) (bitSize : Int)  : Tw (strconv_ParseInt_c s base bitSize) (strconv_ParseInt s base bitSize) := by
 unfold strconv_ParseInt strconv_ParseInt_c
 with_reducible repeat' (first | exact Tw.refl _ | apply Tw.chk | apply Tw.ite | apply Tw.bind | apply Tw.cut | apply Tw.loop | apply Tw.gif | apply istrconv_ParseInt_le | intro _ | split)
def ucd_hex_c (s : ByteArray) : Option Int :=
 bindO (strconv_ParseInt_c s 16 32) fun v =>
 let n := v.1
 some n
theorem ucd_hex_le (s : ByteArray)  : Tw (ucd_hex_c s) (ucd_hex s) := by
 unfold ucd_hex ucd_hex_c
 with_reducible repeat' (first | exact Tw.refl _ | apply Tw.chk | apply Tw.ite | apply Tw.bind | apply Tw.cut | apply Tw.loop | apply Tw.gif | apply strconv_ParseInt_le | intro _ | split)
def strings_Fields_c (s : ByteArray) : Option (List ByteArray) :=
 cutO (loopF (fun ((n1, wasSpace, setBits1, i9) : Int × Int × Int × Int) =>
  iteO (decide (i9 < (slenS s)))
   (chk (0 ≤ i9 ∧ i9 < (slenS s)) <|
    let r' := (sidxS s i9)
    let setBits2 := (borI .u8 setBits1 r')
    chk (0 ≤ r' ∧ r' < (256 : Int)) <|
    let isSpace := (IntKind.wrap .i64 (gtabS 0 r'))
    chk (inR .i64 (n1 + (bndI .i64 wasSpace (bxorI .i64 (-1) isSpace)))) <|
    let n2 := (n1 + (bndI .i64 wasSpace (bxorI .i64 (-1) isSpace)))
    chk (inR .i64 (i9 + 1)) <|
    let i10 := (i9 + 1)
    some (.go (n2, isSpace, setBits2, i10)))
   (some (.out (.go (n1, setBits1))))) (0, 1, 0, 0)) fun (n, setBits) =>
 iteO (decide (128 ≤ setBits))
  (none)
  (chk (makeOk 16 n n) <|
   cutO (loopF (fun (i7 : Int) =>
    chk ((decide (i7 < (slenS s))) = true → 0 ≤ i7 ∧ i7 < (slenS s)) <|
    chk ((decide (i7 < (slenS s))) = true → 0 ≤ (sidxS s i7) ∧ (sidxS s i7) < (256 : Int)) <|
    iteO (if (decide (i7 < (slenS s))) = true then (!((gtabS 0 (sidxS s i7)) == 0)) else false)
     (chk (inR .i64 (i7 + 1)) <|
      let i8 := (i7 + 1)
      some (.go i8))
     (some (.out (.go i7)))) 0) fun i =>
   cutO (loopF (fun ((na1, fieldStart1, i1, a1) : Int × Int × Int × List ByteArray) =>
    iteO (decide (i1 < (slenS s)))
     (chk (0 ≤ i1 ∧ i1 < (slenS s)) <|
      chk (0 ≤ (sidxS s i1) ∧ (sidxS s i1) < (256 : Int)) <|
      iteO ((gtabS 0 (sidxS s i1)) == 0)
       (chk (inR .i64 (i1 + 1)) <|
        let i2 := (i1 + 1)
        some (.go (na1, fieldStart1, i2, a1)))
       (chk (0 ≤ fieldStart1 ∧ fieldStart1 ≤ i1 ∧ i1 ≤ (slenS s)) <|
        chk (0 ≤ na1 ∧ na1 < n) <|
        chk (inR .i64 (na1 + 1)) <|
        let na2 := (na1 + 1)
        chk (inR .i64 (i1 + 1)) <|
        let i3 := (i1 + 1)
        cutO (loopF (fun (i5 : Int) =>
         chk ((decide (i5 < (slenS s))) = true → 0 ≤ i5 ∧ i5 < (slenS s)) <|
         chk ((decide (i5 < (slenS s))) = true → 0 ≤ (sidxS s i5) ∧ (sidxS s i5) < (256 : Int)) <|
         iteO (if (decide (i5 < (slenS s))) = true then (!((gtabS 0 (sidxS s i5)) == 0)) else false)
          (chk (inR .i64 (i5 + 1)) <|
           let i6 := (i5 + 1)
           some (.go i6))
          (some (.out (.go i5)))) i3) fun i4 =>
        some (.go (na2, i4, i4, (setL a1 na1 (ssubC s fieldStart1 i1))))))
     (some (.out (.go (na1, fieldStart1, a1))))) (0, i, i, (repL n ByteArray.empty))) fun (na, fieldStart, a) =>
   iteO (decide (fieldStart < (slenS s)))
    (chk (0 ≤ fieldStart ∧ fieldStart ≤ (slenS s) ∧ (slenS s) ≤ (slenS s)) <|
     chk (0 ≤ na ∧ na < n) <|
     some (setL a na (ssubC s fieldStart (slenS s))))
    (some a))
theorem strings_Fields_le (s : ByteArray)  : Tw (strings_Fields_c s) (strings_Fields s) := by
 unfold strings_Fields strings_Fields_c; try simp only [ssubS_eq]
 with_reducible repeat' (first | exact Tw.refl _ | apply Tw.chk | apply Tw.ite | apply Tw.bind | apply Tw.cut | apply Tw.loop | apply Tw.gif | intro _ | split)
def ucd_className_c (s : ByteArray) : Option Int :=
 cutO (bindO (strings_Fields_c kS0) fun v =>
  loopF (fun (v1 : Int) =>
   iteO (decide (v1 < (lenL v)))
    (chk (0 ≤ v1 ∧ v1 < (lenL v)) <|
     let n := (getL ByteArray.empty v (0 + v1))
     iteO (seqS n s)
      (chk (inR .i64 (v1 + 1)) <|
       some (.out (.out (v1 + 1))))
      (chk (inR .i64 (v1 + 1)) <|
       some (.go (v1 + 1))))
    (some (.out (.go ())))) 0) fun (_ : Unit) =>
 some 0
theorem ucd_className_le (s : ByteArray)  : Tw (ucd_className_c s) (ucd_className s) := by
 unfold ucd_className ucd_className_c
 with_reducible repeat' (first | exact Tw.refl _ | apply Tw.chk | apply Tw.ite | apply Tw.bind | apply Tw.cut | apply Tw.loop | apply Tw.gif | apply strings_Fields_le | intro _ | split)
def ucd_wideName_c (s : ByteArray) : Option Int :=
 bindO (ucd_hex_c s) fun v =>
 chk (inR .i64 (v + 1)) <|
 some (v + 1)
theorem ucd_wideName_le (s : ByteArray)  : Tw (ucd_wideName_c s) (ucd_wideName s) := by
 unfold ucd_wideName ucd_wideName_c
 with_reducible repeat' (first | exact Tw.refl _ | apply Tw.chk | apply Tw.ite | apply Tw.bind | apply Tw.cut | apply Tw.loop | apply Tw.gif | apply ucd_hex_le | intro _ | split)
def ucd_joinName_c (s : ByteArray) : Option Int :=
 iteO (seqS s (⟨#[82]⟩ : ByteArray))
  (some 1)
  (iteO (seqS s (⟨#[68]⟩ : ByteArray))
   (some 2)
   (iteO (seqS s (⟨#[67]⟩ : ByteArray))
    (some 3)
    (iteO (seqS s (⟨#[84]⟩ : ByteArray))
     (some 4)
     (some 0))))
theorem ucd_joinName_le (s : ByteArray)  : Tw (ucd_joinName_c s) (ucd_joinName s) := by
 unfold ucd_joinName ucd_joinName_c
 with_reducible repeat' (first | exact Tw.refl _ | apply Tw.chk | apply Tw.ite | apply Tw.bind | apply Tw.cut | apply Tw.loop | apply Tw.gif | intro _ | split)
def ucd_table_class_c (text : ByteArray) : Option T_ranges_Table :=
 cutO (bindO (strings_Split_c text (⟨#[44]⟩ : ByteArray)) fun v =>
  loopF (fun ((v1, o1) : Int × List T_ranges_Row) =>
   iteO (decide (v1 < (lenL v)))
    (cutO (chk (0 ≤ v1 ∧ v1 < (lenL v)) <|
      let e := (getL ByteArray.empty v (0 + v1))
      bindO (ucd_words_c e) fun v2 =>
      cutO (cutO (iteO ((lenL v2) == 3)
        (chk ((0 : Int) ≤ 1 ∧ (1 : Int) < (lenL v2)) <|
         bindO (ucd_hex_c (getL ByteArray.empty v2 (0 + 1))) fun v5 =>
         some (.go v5))
        (iteO ((lenL v2) == 2)
         (some (.go 0))
         (some (.out (.go (0, 0, 0)))))) fun b9_11 =>
       chk ((0 : Int) ≤ 0 ∧ (0 : Int) < (lenL v2)) <|
       bindO (ucd_hex_c (getL ByteArray.empty v2 (0 + 0))) fun v3 =>
       chk (inR .i64 ((lenL v2) - 1)) <|
       chk (0 ≤ ((lenL v2) - 1) ∧ ((lenL v2) - 1) < (lenL v2)) <|
       bindO (ucd_className_c (getL ByteArray.empty v2 (0 + ((lenL v2) - 1)))) fun v4 =>
       some (.go (v3, b9_11, v4))) fun (b9_0, b9_1, b9_2) =>
      chk (growOk 24 ((lenL o1) + 1)) <|
      some (.go (o1 ++ ([(T_ranges_Row.mk b9_0 (imaxI b9_0 b9_1) b9_2)] : List T_ranges_Row)))) fun o2 =>
     chk (inR .i64 (v1 + 1)) <|
     some (.go ((v1 + 1), o2)))
    (some (.out (.go o1)))) (0, ([] : List T_ranges_Row))) fun o =>
 some (T_ranges_Table.mk o)
theorem ucd_table_class_le (text : ByteArray)  : Tw (ucd_table_class_c text) (ucd_table_class text) := by
 unfold ucd_table_class ucd_table_class_c
 with_reducible repeat' (first | exact Tw.refl _ | apply Tw.chk | apply Tw.ite | apply Tw.bind | apply Tw.cut | apply Tw.loop | apply Tw.gif | apply strings_Split_le | apply ucd_words_le | apply ucd_hex_le | apply ucd_className_le | intro _ | split)
def ucd_table_wide_c (text : ByteArray) : Option T_ranges_Table :=
 cutO (bindO (strings_Split_c text (⟨#[44]⟩ : ByteArray)) fun v =>
  loopF (fun ((v1, o1) : Int × List T_ranges_Row) =>
   iteO (decide (v1 < (lenL v)))
    (cutO (chk (0 ≤ v1 ∧ v1 < (lenL v)) <|
      let e := (getL ByteArray.empty v (0 + v1))
      bindO (ucd_words_c e) fun v2 =>
      cutO (cutO (iteO ((lenL v2) == 3)
        (chk ((0 : Int) ≤ 1 ∧ (1 : Int) < (lenL v2)) <|
         bindO (ucd_hex_c (getL ByteArray.empty v2 (0 + 1))) fun v5 =>
         some (.go v5))
        (iteO ((lenL v2) == 2)
         (some (.go 0))
         (some (.out (.go (0, 0, 0)))))) fun b9_11 =>
       chk ((0 : Int) ≤ 0 ∧ (0 : Int) < (lenL v2)) <|
       bindO (ucd_hex_c (getL ByteArray.empty v2 (0 + 0))) fun v3 =>
       chk (inR .i64 ((lenL v2) - 1)) <|
       chk (0 ≤ ((lenL v2) - 1) ∧ ((lenL v2) - 1) < (lenL v2)) <|
       bindO (ucd_wideName_c (getL ByteArray.empty v2 (0 + ((lenL v2) - 1)))) fun v4 =>
       some (.go (v3, b9_11, v4))) fun (b9_0, b9_1, b9_2) =>
      chk (growOk 24 ((lenL o1) + 1)) <|
      some (.go (o1 ++ ([(T_ranges_Row.mk b9_0 (imaxI b9_0 b9_1) b9_2)] : List T_ranges_Row)))) fun o2 =>
     chk (inR .i64 (v1 + 1)) <|
     some (.go ((v1 + 1), o2)))
    (some (.out (.go o1)))) (0, ([] : List T_ranges_Row))) fun o =>
 some (T_ranges_Table.mk o)
theorem ucd_table_wide_le (text : ByteArray)  : Tw (ucd_table_wide_c text) (ucd_table_wide text) := by
 unfold ucd_table_wide ucd_table_wide_c
 with_reducible repeat' (first | exact Tw.refl _ | apply Tw.chk | apply Tw.ite | apply Tw.bind | apply Tw.cut | apply Tw.loop | apply Tw.gif | apply strings_Split_le | apply ucd_words_le | apply ucd_hex_le | apply ucd_wideName_le | intro _ | split)
def ucd_table_join_c (text : ByteArray) : Option T_ranges_Table :=
 cutO (bindO (strings_Split_c text (⟨#[44]⟩ : ByteArray)) fun v =>
  loopF (fun ((v1, o1) : Int × List T_ranges_Row) =>
   iteO (decide (v1 < (lenL v)))
    (cutO (chk (0 ≤ v1 ∧ v1 < (lenL v)) <|
      let e := (getL ByteArray.empty v (0 + v1))
      bindO (ucd_words_c e) fun v2 =>
      cutO (cutO (iteO ((lenL v2) == 3)
        (chk ((0 : Int) ≤ 1 ∧ (1 : Int) < (lenL v2)) <|
         bindO (ucd_hex_c (getL ByteArray.empty v2 (0 + 1))) fun v5 =>
         some (.go v5))
        (iteO ((lenL v2) == 2)
         (some (.go 0))
         (some (.out (.go (0, 0, 0)))))) fun b9_11 =>
       chk ((0 : Int) ≤ 0 ∧ (0 : Int) < (lenL v2)) <|
       bindO (ucd_hex_c (getL ByteArray.empty v2 (0 + 0))) fun v3 =>
       chk (inR .i64 ((lenL v2) - 1)) <|
       chk (0 ≤ ((lenL v2) - 1) ∧ ((lenL v2) - 1) < (lenL v2)) <|
       bindO (ucd_joinName_c (getL ByteArray.empty v2 (0 + ((lenL v2) - 1)))) fun v4 =>
       some (.go (v3, b9_11, v4))) fun (b9_0, b9_1, b9_2) =>
      chk (growOk 24 ((lenL o1) + 1)) <|
      some (.go (o1 ++ ([(T_ranges_Row.mk b9_0 (imaxI b9_0 b9_1) b9_2)] : List T_ranges_Row)))) fun o2 =>
     chk (inR .i64 (v1 + 1)) <|
     some (.go ((v1 + 1), o2)))
    (some (.out (.go o1)))) (0, ([] : List T_ranges_Row))) fun o =>
 some (T_ranges_Table.mk o)
theorem ucd_table_join_le (text : ByteArray)  : Tw (ucd_table_join_c text) (ucd_table_join text) := by
 unfold ucd_table_join ucd_table_join_c
 with_reducible repeat' (first | exact Tw.refl _ | apply Tw.chk | apply Tw.ite | apply Tw.bind | apply Tw.cut | apply Tw.loop | apply Tw.gif | apply strings_Split_le | apply ucd_words_le | apply ucd_hex_le | apply ucd_joinName_le | intro _ | split)
def ucd_pairs_c (text : ByteArray) : Option (List T_ucd_Pair) :=
 cutO (bindO (strings_Split_c text (⟨#[44]⟩ : ByteArray)) fun v =>
  loopF (fun ((v1, l'1) : Int × List T_ucd_Pair) =>
   iteO (decide (v1 < (lenL v)))
    (chk (0 ≤ v1 ∧ v1 < (lenL v)) <|
     let e := (getL ByteArray.empty v (0 + v1))
     bindO (ucd_words_c e) fun v2 =>
     iteO ((lenL v2) == 2)
      (chk ((0 : Int) ≤ 0 ∧ (0 : Int) < (lenL v2)) <|
       bindO (ucd_hex_c (getL ByteArray.empty v2 (0 + 0))) fun v3 =>
       chk ((0 : Int) ≤ 1 ∧ (1 : Int) < (lenL v2)) <|
       bindO (ucd_hex_c (getL ByteArray.empty v2 (0 + 1))) fun v4 =>
       chk (growOk 16 ((lenL l'1) + 1)) <|
       chk (inR .i64 (v1 + 1)) <|
       some (.go ((v1 + 1), (l'1 ++ ([(T_ucd_Pair.mk v3 v4)] : List T_ucd_Pair)))))
      (chk (inR .i64 (v1 + 1)) <|
       some (.go ((v1 + 1), l'1))))
    (some (.out (.go l'1)))) (0, ([] : List T_ucd_Pair))) fun l' =>
 some l'
theorem ucd_pairs_le (text : ByteArray)  : Tw (ucd_pairs_c text) (ucd_pairs text) := by
 unfold ucd_pairs ucd_pairs_c
 with_reducible repeat' (first | exact Tw.refl _ | apply Tw.chk | apply Tw.ite | apply Tw.bind | apply Tw.cut | apply Tw.loop | apply Tw.gif | apply strings_Split_le | apply ucd_words_le | apply ucd_hex_le | intro _ | split)
def ucd_forms_c (text : ByteArray) : Option (List T_ucd_Form) :=
 cutO (bindO (strings_Split_c text (⟨#[44]⟩ : ByteArray)) fun v =>
  loopF (fun ((v1, l'1) : Int × List T_ucd_Form) =>
   iteO (decide (v1 < (lenL v)))
    (chk (0 ≤ v1 ∧ v1 < (lenL v)) <|
     let e := (getL ByteArray.empty v (0 + v1))
     bindO (ucd_words_c e) fun v2 =>
     iteO ((lenL v2) == 3)
      (chk ((0 : Int) ≤ 0 ∧ (0 : Int) < (lenL v2)) <|
       bindO (ucd_hex_c (getL ByteArray.empty v2 (0 + 0))) fun v3 =>
       chk ((0 : Int) ≤ 1 ∧ (1 : Int) < (lenL v2)) <|
       bindO (ucd_hex_c (getL ByteArray.empty v2 (0 + 1))) fun v4 =>
       chk ((0 : Int) ≤ 2 ∧ (2 : Int) < (lenL v2)) <|
       bindO (ucd_hex_c (getL ByteArray.empty v2 (0 + 2))) fun v5 =>
       chk (growOk 24 ((lenL l'1) + 1)) <|
       chk (inR .i64 (v1 + 1)) <|
       some (.go ((v1 + 1), (l'1 ++ ([(T_ucd_Form.mk v3 v4 v5)] : List T_ucd_Form)))))
      (chk (inR .i64 (v1 + 1)) <|
       some (.go ((v1 + 1), l'1))))
    (some (.out (.go l'1)))) (0, ([] : List T_ucd_Form))) fun l' =>
 some l'
theorem ucd_forms_le (text : ByteArray)  : Tw (ucd_forms_c text) (ucd_forms text) := by
 unfold ucd_forms ucd_forms_c
 with_reducible repeat' (first | exact Tw.refl _ | apply Tw.chk | apply Tw.ite | apply Tw.bind | apply Tw.cut | apply Tw.loop | apply Tw.gif | apply strings_Split_le | apply ucd_words_le | apply ucd_hex_le | intro _ | split)
def ucd_Load_c  : Option T_ucd_Data :=
 bindO (ucd_table_class_c kS1) fun v =>
 bindO (ucd_table_wide_c kS2) fun v1 =>
 bindO (ucd_table_join_c kS3) fun v2 =>
 bindO (ucd_pairs_c kS4) fun v3 =>
 bindO (ucd_pairs_c kS5) fun v4 =>
 bindO (ucd_forms_c kS6) fun v5 =>
 some (T_ucd_Data.mk v v1 v2 v3 v4 v5)
theorem ucd_Load_le : Tw (ucd_Load_c ) (ucd_Load ) := by
 unfold ucd_Load ucd_Load_c
 with_reducible repeat' (first | exact Tw.refl _ | apply Tw.chk | apply Tw.ite | apply Tw.bind | apply Tw.cut | apply Tw.loop | apply Tw.gif | apply ucd_table_class_le | apply ucd_table_wide_le | apply ucd_table_join_le | apply ucd_pairs_le | apply ucd_forms_le | intro _ | split)
end Go.Vx
