/- For every row of bytes the law FnForms answers true: forms are recovered from their texts. No condition.
This file (part 5 of 7) holds what the proof needs: plain functions with rounds and contracts written by programs of this work over the translation, and the lemmas. -/
import Derived.Test.YtiaiohoadefgjaaDoorZFnForms2
import Derived.Test.YtiaiohoadefgjaaDoorZFnForms3
import Derived.Test.YtiaiohoadefgjaaDoorZFnForms4
import Derived.Shelf.Strings.Builder1
import Derived.Shelf.Strings.Builder2
import Derived.Shelf.Strings.OnBuilder
import Derived.Shelf.Strconv.Atoi
import Derived.Shelf.Strconv.Itoa0
import Derived.Shelf.Strconv.Itoa1
import Derived.Shelf.LaysM
import Derived.Shelf.Strconv.Itoa2
import Derived.Shelf.Strconv.Itoa3
import Derived.Shelf.Strconv.AtoiErrFast
import Derived.Shelf.Strconv.ParseIntEmpty
import Derived.Shelf.Strconv.AtoiFail
import Derived.Shelf.Strconv.Clone
import Derived.Shelf.Strconv.SyntaxError
import Derived.Shelf.LaysC
import Derived.Shelf.Strconv.ToError
import Derived.Shelf.Strconv.AtoiErr
import Derived.Shelf.Strconv.Lower
import Derived.Shelf.Strconv.ParseUint10
import Derived.Shelf.Strconv.ParseUint10Empty
import Derived.Shelf.Strconv.ParseUint10Any
import Derived.Shelf.Strconv.ParseInt10
import Derived.Shelf.Strconv.AtoiLong
import Derived.Shelf.Strconv.AtoiInnerAll
import Derived.Shelf.Strconv.RangeError
import Derived.Shelf.Strconv.ToErrorRange
import Derived.Shelf.Strconv.AtoiAll
import Derived.Shelf.Strconv.ErrVarAll
import Derived.Shelf.Strings.Search1
import Derived.Shelf.Strings.Search2
import Derived.Shelf.Strings.Search3
import Derived.Shelf.Strings.Count
import Derived.Shelf.Strings.Shaped
import Derived.Shelf.Strings.Split
import Derived.Shelf.Unicode.DecodeSlow
import Derived.Test.YtiaiohoadefgjaaDoorProg
import Derived.Lib.AppendIntMem
import Derived.Lib.SmallJoins
import Derived.Lib.SplitLaws
import Derived.Lib.AtoiErrMem
import Derived.Lib.AtoiAllCases
import Derived.Lib.Strings
namespace Go.Proofs.YtiaiohoadefgjaaDoor.X
open Go.RowKit Go.Proofs.YtiaiohoadefgjaaDoorW.PrintWords Go.Proofs.YtiaiohoadefgjaaDoorW.PrintLast Go.Proofs.YtiaiohoadefgjaaDoorW.PrintMore
attribute [local go_sem] max2_int min2_int max_two min_two max_three min_three max_four min_four
set_option linter.unusedVariables false
set_option linter.unusedSimpArgs false
attribute [-simp] ByteArray.size_append ByteArray.size_extract
attribute [-go_sem] ByteArray.size_append'
/-! ### spec_l1Cur_spoilt: function 36 -/
def spec_l1Cur_spoilt.f (s0_0 : List Int) (s0_1 : Int) (s0_2 : Int) (a1 : ByteArray) (a2 : ByteArray) : Option (ByteArray × Int × Int) := if a1.toList = ([] : List UInt8) then (if 0 ≤ 1 then (if 1 ≤ (a2.size : Int) then (some (a2.extract 0 1, s0_1, s0_2)) else (none)) else (none)) else ((spec_l1Cur_pick.f s0_0 s0_1 s0_2 (a1.size : Int)).bind fun bt101 => ((spec_l1Cur_pick.f s0_0 bt101.2.1 bt101.2.2 (a2.size : Int)).bind fun bt104 => (if 0 ≤ bt104.1 then (if bt104.1 ≤ (a2.size : Int) then (if 0 ≤ 1 then (if 1 ≤ ((a2.extract (bt104.1 : Int).toNat a2.size).size : Int) then ((spec_l1Cur_pick.f s0_0 bt104.2.1 bt104.2.2 3).bind fun bt107 => (if bt107.1 = 0 then (if 0 ≤ bt101.1 then (if bt101.1 ≤ (a1.size : Int) then (if (a1.extract 0 (bt101.1 : Int).toNat).size + ((a2.extract (bt104.1 : Int).toNat a2.size).extract 0 1).size ≤ 9223372036854775807 then (if ((a1.extract 0 (bt101.1 : Int).toNat) ++ ((a2.extract (bt104.1 : Int).toNat a2.size).extract 0 1)).size + (a1.extract (bt101.1 : Int).toNat a1.size).size ≤ 9223372036854775807 then (some (((a1.extract 0 (bt101.1 : Int).toNat) ++ ((a2.extract (bt104.1 : Int).toNat a2.size).extract 0 1)) ++ (a1.extract (bt101.1 : Int).toNat a1.size), bt107.2.1, bt107.2.2)) else (none)) else (none)) else (none)) else (none)) else (if bt107.1 = 1 then (if 0 ≤ bt101.1 then (if bt101.1 ≤ (a1.size : Int) then (if (a1.extract 0 (bt101.1 : Int).toNat).size + ((a2.extract (bt104.1 : Int).toNat a2.size).extract 0 1).size ≤ 9223372036854775807 then (if 0 ≤ (wrap64 (bt101.1 + 1)) then (if (wrap64 (bt101.1 + 1)) ≤ (a1.size : Int) then (if ((a1.extract 0 (bt101.1 : Int).toNat) ++ ((a2.extract (bt104.1 : Int).toNat a2.size).extract 0 1)).size + (a1.extract ((wrap64 (bt101.1 + 1)) : Int).toNat a1.size).size ≤ 9223372036854775807 then (some (((a1.extract 0 (bt101.1 : Int).toNat) ++ ((a2.extract (bt104.1 : Int).toNat a2.size).extract 0 1)) ++ (a1.extract ((wrap64 (bt101.1 + 1)) : Int).toNat a1.size), bt107.2.1, bt107.2.2)) else (none)) else (none)) else (none)) else (none)) else (none)) else (none)) else (if 0 ≤ bt101.1 then (if bt101.1 ≤ (a1.size : Int) then (if 0 ≤ (wrap64 (bt101.1 + 1)) then (if (wrap64 (bt101.1 + 1)) ≤ (a1.size : Int) then (if (a1.extract 0 (bt101.1 : Int).toNat).size + (a1.extract ((wrap64 (bt101.1 + 1)) : Int).toNat a1.size).size ≤ 9223372036854775807 then (some ((a1.extract 0 (bt101.1 : Int).toNat) ++ (a1.extract ((wrap64 (bt101.1 + 1)) : Int).toNat a1.size), bt107.2.1, bt107.2.2)) else (none)) else (none)) else (none)) else (none)) else (none))))) else (none)) else (none)) else (none)) else (none))))
set_option maxHeartbeats 8000000 in
set_option maxRecDepth 100000 in
theorem spec_l1Cur_spoilt.calls (g : Nat) (s0_0 : List Int) (s0_1 : Int) (s0_2 : Int) (a1 : ByteArray) (a2 : ByteArray) (r1 : ByteArray) (r2 : Int) (r3 : Int) (w0 w : World) (hI : IsS65 w0 w g s0_0 s0_1 s0_2) (hB : Below w0.heap.size w0 w) (h : spec_l1Cur_spoilt.f s0_0 s0_1 s0_2 a1 a2 = some (r1, r2, r3)) :
  Calls Tryd.prog 36 #[.pointer (some ⟨g, 0, none⟩), .string a1, .string a2] w fun e w' => e = .returned (.string r1) ∧ IsS65 w0 w' g s0_0 r2 r3 ∧ Below w0.heap.size w0 w' ∧ KeepBut w w' g none := by
 (have HI0 := Aside0.mk hI); (have HK := Aside0.mk (KeepBut.refl w g none)); (have HL := Aside0.mk hB.size); clear hI; (have HW0 := Aside0.mk hB.size); (have HB := Aside0.mk hB); clear hB; (unfold spec_l1Cur_spoilt.f at h); (have H := h); clear h; (by_cases c4 : a1.toList = ([] : List UInt8))
 ·rw [if_pos c4] at H
  (have c4b0 : a1.toList.isEmpty = true := List.isEmpty_iff.mpr c4); (have c4b1 : (!a1.toList.isEmpty) = false := by rw [List.isEmpty_iff.mpr c4]; rfl); (have c4b2 : (a1.toList == ([] : List UInt8)) = true := beq_iff_eq.mpr c4); (have c4b3 : (a1.toList != ([] : List UInt8)) = false := bne_eq_false_iff_eq.mpr c4); clear c4; (by_cases c5 : 0 ≤ 1)
  ·rw [if_pos c5] at H
   (have c5b0 := eq_true c5); (have c5b1 := decide_eq_true c5); clear c5; (by_cases c6 : 1 ≤ (a2.size : Int)); (· (rw [if_pos c6] at H); (have c6b0 := eq_true c6); (have c6b1 := decide_eq_true c6); clear c6; (simp only [Option.some.injEq, Prod.mk.injEq] at H); (obtain ⟨rfl, rfl, rfl⟩ := H); (go_enter Tryd.func36, Tryd.ntmps36); (go_wp2); (repeat (go_quiet (fail); try go_wp2)); go_ret; (exact Q80)); (· (rw [if_neg c6] at H); (exact Q3))
  ·rw [if_neg c5] at H
   exact Q3
 ·rw [if_neg c4] at H
  (have c4b0 : a1.toList.isEmpty = false := Q145); (have c4b1 : (!a1.toList.isEmpty) = true := by rw [show a1.toList.isEmpty = false from Q145]; rfl); (have c4b2 : (a1.toList == ([] : List UInt8)) = false := beq_eq_false_iff_ne.mpr c4); (have c4b3 : (a1.toList != ([] : List UInt8)) = true := bne_iff_ne.mpr c4); (replace H := obS H); (obtain ⟨⟨t101, t102, t103⟩, A7, H⟩ := H); (replace H : ((spec_l1Cur_pick.f s0_0 t102 t103 (a2.size : Int)).bind fun bt104 => (if 0 ≤ bt104.1 then (if bt104.1 ≤ (a2.size : Int) then (if 0 ≤ 1 then (if 1 ≤ ((a2.extract (bt104.1 : Int).toNat a2.size).size : Int) then ((spec_l1Cur_pick.f s0_0 bt104.2.1 bt104.2.2 3).bind fun bt107 => (if bt107.1 = 0 then (if 0 ≤ t101 then (if t101 ≤ (a1.size : Int) then (if (a1.extract 0 (t101 : Int).toNat).size + ((a2.extract (bt104.1 : Int).toNat a2.size).extract 0 1).size ≤ 9223372036854775807 then (if ((a1.extract 0 (t101 : Int).toNat) ++ ((a2.extract (bt104.1 : Int).toNat a2.size).extract 0 1)).size + (a1.extract (t101 : Int).toNat a1.size).size ≤ 9223372036854775807 then (some (((a1.extract 0 (t101 : Int).toNat) ++ ((a2.extract (bt104.1 : Int).toNat a2.size).extract 0 1)) ++ (a1.extract (t101 : Int).toNat a1.size), bt107.2.1, bt107.2.2)) else (none)) else (none)) else (none)) else (none)) else (if bt107.1 = 1 then (if 0 ≤ t101 then (if t101 ≤ (a1.size : Int) then (if (a1.extract 0 (t101 : Int).toNat).size + ((a2.extract (bt104.1 : Int).toNat a2.size).extract 0 1).size ≤ 9223372036854775807 then (if 0 ≤ (wrap64 (t101 + 1)) then (if (wrap64 (t101 + 1)) ≤ (a1.size : Int) then (if ((a1.extract 0 (t101 : Int).toNat) ++ ((a2.extract (bt104.1 : Int).toNat a2.size).extract 0 1)).size + (a1.extract ((wrap64 (t101 + 1)) : Int).toNat a1.size).size ≤ 9223372036854775807 then (some (((a1.extract 0 (t101 : Int).toNat) ++ ((a2.extract (bt104.1 : Int).toNat a2.size).extract 0 1)) ++ (a1.extract ((wrap64 (t101 + 1)) : Int).toNat a1.size), bt107.2.1, bt107.2.2)) else (none)) else (none)) else (none)) else (none)) else (none)) else (none)) else (if 0 ≤ t101 then (if t101 ≤ (a1.size : Int) then (if 0 ≤ (wrap64 (t101 + 1)) then (if (wrap64 (t101 + 1)) ≤ (a1.size : Int) then (if (a1.extract 0 (t101 : Int).toNat).size + (a1.extract ((wrap64 (t101 + 1)) : Int).toNat a1.size).size ≤ 9223372036854775807 then (some ((a1.extract 0 (t101 : Int).toNat) ++ (a1.extract ((wrap64 (t101 + 1)) : Int).toNat a1.size), bt107.2.1, bt107.2.2)) else (none)) else (none)) else (none)) else (none)) else (none))))) else (none)) else (none)) else (none)) else (none))) = some (r1, r2, r3) := H); (replace H := obS H); (obtain ⟨⟨t104, t105, t106⟩, A8, H⟩ := H); (replace H : (if 0 ≤ t104 then (if t104 ≤ (a2.size : Int) then (if 0 ≤ 1 then (if 1 ≤ ((a2.extract (t104 : Int).toNat a2.size).size : Int) then ((spec_l1Cur_pick.f s0_0 t105 t106 3).bind fun bt107 => (if bt107.1 = 0 then (if 0 ≤ t101 then (if t101 ≤ (a1.size : Int) then (if (a1.extract 0 (t101 : Int).toNat).size + ((a2.extract (t104 : Int).toNat a2.size).extract 0 1).size ≤ 9223372036854775807 then (if ((a1.extract 0 (t101 : Int).toNat) ++ ((a2.extract (t104 : Int).toNat a2.size).extract 0 1)).size + (a1.extract (t101 : Int).toNat a1.size).size ≤ 9223372036854775807 then (some (((a1.extract 0 (t101 : Int).toNat) ++ ((a2.extract (t104 : Int).toNat a2.size).extract 0 1)) ++ (a1.extract (t101 : Int).toNat a1.size), bt107.2.1, bt107.2.2)) else (none)) else (none)) else (none)) else (none)) else (if bt107.1 = 1 then (if 0 ≤ t101 then (if t101 ≤ (a1.size : Int) then (if (a1.extract 0 (t101 : Int).toNat).size + ((a2.extract (t104 : Int).toNat a2.size).extract 0 1).size ≤ 9223372036854775807 then (if 0 ≤ (wrap64 (t101 + 1)) then (if (wrap64 (t101 + 1)) ≤ (a1.size : Int) then (if ((a1.extract 0 (t101 : Int).toNat) ++ ((a2.extract (t104 : Int).toNat a2.size).extract 0 1)).size + (a1.extract ((wrap64 (t101 + 1)) : Int).toNat a1.size).size ≤ 9223372036854775807 then (some (((a1.extract 0 (t101 : Int).toNat) ++ ((a2.extract (t104 : Int).toNat a2.size).extract 0 1)) ++ (a1.extract ((wrap64 (t101 + 1)) : Int).toNat a1.size), bt107.2.1, bt107.2.2)) else (none)) else (none)) else (none)) else (none)) else (none)) else (none)) else (if 0 ≤ t101 then (if t101 ≤ (a1.size : Int) then (if 0 ≤ (wrap64 (t101 + 1)) then (if (wrap64 (t101 + 1)) ≤ (a1.size : Int) then (if (a1.extract 0 (t101 : Int).toNat).size + (a1.extract ((wrap64 (t101 + 1)) : Int).toNat a1.size).size ≤ 9223372036854775807 then (some ((a1.extract 0 (t101 : Int).toNat) ++ (a1.extract ((wrap64 (t101 + 1)) : Int).toNat a1.size), bt107.2.1, bt107.2.2)) else (none)) else (none)) else (none)) else (none)) else (none))))) else (none)) else (none)) else (none)) else (none)) = some (r1, r2, r3) := H); (by_cases c9 : 0 ≤ t104)
  ·rw [if_pos c9] at H
   (have c9b0 := eq_true c9); (have c9b1 := decide_eq_true c9); clear c9; (by_cases c10 : t104 ≤ (a2.size : Int))
   ·rw [if_pos c10] at H
    (have c10b0 := eq_true c10); (have c10b1 := decide_eq_true c10); clear c10; (by_cases c11 : 0 ≤ 1)
    ·rw [if_pos c11] at H
     (have c11b0 := eq_true c11); (have c11b1 := decide_eq_true c11); clear c11; (by_cases c12 : 1 ≤ ((a2.extract (t104 : Int).toNat a2.size).size : Int))
     ·rw [if_pos c12] at H
      (have c12b0 := eq_true c12); (have c12b1 := decide_eq_true c12); (try have c12n0 := c12b0); (try (push_cast [Int.toNat_natCast, ByteArray.size_append] at c12n0)); (try have c12n1 := c12b1); (try (push_cast [Int.toNat_natCast, ByteArray.size_append] at c12n1)); clear c12; (replace H := obS H); (obtain ⟨⟨t107, t108, t109⟩, A13, H⟩ := H); (replace H : (if t107 = 0 then (if 0 ≤ t101 then (if t101 ≤ (a1.size : Int) then (if (a1.extract 0 (t101 : Int).toNat).size + ((a2.extract (t104 : Int).toNat a2.size).extract 0 1).size ≤ 9223372036854775807 then (if ((a1.extract 0 (t101 : Int).toNat) ++ ((a2.extract (t104 : Int).toNat a2.size).extract 0 1)).size + (a1.extract (t101 : Int).toNat a1.size).size ≤ 9223372036854775807 then (some (((a1.extract 0 (t101 : Int).toNat) ++ ((a2.extract (t104 : Int).toNat a2.size).extract 0 1)) ++ (a1.extract (t101 : Int).toNat a1.size), t108, t109)) else (none)) else (none)) else (none)) else (none)) else (if t107 = 1 then (if 0 ≤ t101 then (if t101 ≤ (a1.size : Int) then (if (a1.extract 0 (t101 : Int).toNat).size + ((a2.extract (t104 : Int).toNat a2.size).extract 0 1).size ≤ 9223372036854775807 then (if 0 ≤ (wrap64 (t101 + 1)) then (if (wrap64 (t101 + 1)) ≤ (a1.size : Int) then (if ((a1.extract 0 (t101 : Int).toNat) ++ ((a2.extract (t104 : Int).toNat a2.size).extract 0 1)).size + (a1.extract ((wrap64 (t101 + 1)) : Int).toNat a1.size).size ≤ 9223372036854775807 then (some (((a1.extract 0 (t101 : Int).toNat) ++ ((a2.extract (t104 : Int).toNat a2.size).extract 0 1)) ++ (a1.extract ((wrap64 (t101 + 1)) : Int).toNat a1.size), t108, t109)) else (none)) else (none)) else (none)) else (none)) else (none)) else (none)) else (if 0 ≤ t101 then (if t101 ≤ (a1.size : Int) then (if 0 ≤ (wrap64 (t101 + 1)) then (if (wrap64 (t101 + 1)) ≤ (a1.size : Int) then (if (a1.extract 0 (t101 : Int).toNat).size + (a1.extract ((wrap64 (t101 + 1)) : Int).toNat a1.size).size ≤ 9223372036854775807 then (some ((a1.extract 0 (t101 : Int).toNat) ++ (a1.extract ((wrap64 (t101 + 1)) : Int).toNat a1.size), t108, t109)) else (none)) else (none)) else (none)) else (none)) else (none)))) = some (r1, r2, r3) := H); (by_cases c14 : t107 = 0)
      ·rw [if_pos c14] at H
       (have c14b0 : (t107 == 0) = true := beq_iff_eq.mpr c14); (have c14b1 : (t107 != 0) = false := bne_eq_false_iff_eq.mpr c14); clear c14; (by_cases c15 : 0 ≤ t101)
       ·rw [if_pos c15] at H
        (have c15b0 := eq_true c15); (have c15b1 := decide_eq_true c15); clear c15; (by_cases c16 : t101 ≤ (a1.size : Int))
        ·rw [if_pos c16] at H
         (have c16b0 := eq_true c16); (have c16b1 := decide_eq_true c16); clear c16; (by_cases c17 : (a1.extract 0 (t101 : Int).toNat).size + ((a2.extract (t104 : Int).toNat a2.size).extract 0 1).size ≤ 9223372036854775807)
         ·rw [if_pos c17] at H
          (have c17b0 := eq_true c17); (have c17b1 := decide_eq_true c17); (try have c17n0 := c17b0); (try (push_cast [Int.toNat_natCast, ByteArray.size_append] at c17n0)); (try have c17n1 := c17b1); (try (push_cast [Int.toNat_natCast, ByteArray.size_append] at c17n1)); (try have c17b2 : (9223372036854775807 < (a1.extract 0 (t101 : Int).toNat).size + ((a2.extract (t104 : Int).toNat a2.size).extract 0 1).size) = False := eq_false (Nat.not_lt.2 c17)); (try have c17b3 := c17b2); (try simp only [show (a1.extract 0 (t101 : Int).toNat).size = (t101 : Int).toNat - 0 from Q146, show (a2.extract (t104 : Int).toNat a2.size).size = a2.size - (t104 : Int).toNat from Q146, show ((a2.extract (t104 : Int).toNat a2.size).extract 0 1).size = 1 - 0 from Q146, ByteArray.size_append] at c17b3); (have c18b0 := eq_true (odt : 0 ≤ t101)); (have c19b0 := eq_true (odt : t101 ≤ (a1.size : Int))); (by_cases c20 : ((a1.extract 0 (t101 : Int).toNat) ++ ((a2.extract (t104 : Int).toNat a2.size).extract 0 1)).size + (a1.extract (t101 : Int).toNat a1.size).size ≤ 9223372036854775807)
          ·rw [if_pos c20] at H
           (have c20b0 := eq_true c20); (have c20b1 := decide_eq_true c20); (try have c20n0 := c20b0); (try (push_cast [Int.toNat_natCast, ByteArray.size_append] at c20n0)); (try have c20n1 := c20b1); (try (push_cast [Int.toNat_natCast, ByteArray.size_append] at c20n1)); (try have c20b2 : (9223372036854775807 < ((a1.extract 0 (t101 : Int).toNat) ++ ((a2.extract (t104 : Int).toNat a2.size).extract 0 1)).size + (a1.extract (t101 : Int).toNat a1.size).size) = False := eq_false (Nat.not_lt.2 c20)); (try have c20b3 := c20b2); (try simp only [show (a1.extract 0 (t101 : Int).toNat).size = (t101 : Int).toNat - 0 from Q146, show (a2.extract (t104 : Int).toNat a2.size).size = a2.size - (t104 : Int).toNat from Q146, show ((a2.extract (t104 : Int).toNat a2.size).extract 0 1).size = 1 - 0 from Q146, show (a1.extract (t101 : Int).toNat a1.size).size = a1.size - (t101 : Int).toNat from Q146, ByteArray.size_append] at c20b3); (simp only [Option.some.injEq, Prod.mk.injEq] at H); (obtain ⟨rfl, rfl, rfl⟩ := H); (go_enter Tryd.func36, Tryd.ntmps36); (go_wp2_with (first | (go_at_call 60; (with_reducible refine (spec_l1Cur_pick.calls g s0_0 s0_1 s0_2 (a1.size : Int) t101 t102 t103 w0 _ ?side1 ?side2 A7.out).mono ?_); (case side1 => repeat (first | (with_reducible first | exact HI0.out | apply IsS65.alloc | apply IsS65.drewN | apply IsS65.drew | apply IsS65.set_1 | apply IsS65.set_2) | exact HI0.out)); (case side2 => repeat (first | (with_reducible first | exact HB.out | apply bA | apply bN | apply bD | refine below_set ?_ (IsS65.ge HI0.out)) | exact HB.out)); rintro e w21 ⟨rfl, hi, hb, hk⟩; have n0_ := Aside0.mk (KeepBut.trans Q81 hk (.inl rfl)); have n1_ := Aside0.mk (hb); have n2_ := Aside0.mk (hi); clear HK HB HI0; have HK := n0_; have HB := n1_; have HI0 := n2_; clear n0_ n1_ n2_; (try clear hb); (try clear hb2); (try clear hk); (try clear hi)) | (go_at_call 60; (with_reducible refine (spec_l1Cur_pick.calls g s0_0 t102 t103 (a2.size : Int) t104 t105 t106 w0 _ ?side1 ?side2 A8.out).mono ?_); (case side1 => repeat (first | (with_reducible first | exact HI0.out | apply IsS65.alloc | apply IsS65.drewN | apply IsS65.drew | apply IsS65.set_1 | apply IsS65.set_2) | exact HI0.out)); (case side2 => repeat (first | (with_reducible first | exact HB.out | apply bA | apply bN | apply bD | refine below_set ?_ (IsS65.ge HI0.out)) | exact HB.out)); rintro e w22 ⟨rfl, hi, hb, hk⟩; have n0_ := Aside0.mk (KeepBut.trans Q81 hk (.inl rfl)); have n1_ := Aside0.mk (hb); have n2_ := Aside0.mk (hi); clear HK HB HI0; have HK := n0_; have HB := n1_; have HI0 := n2_; clear n0_ n1_ n2_; (try clear hb); (try clear hb2); (try clear hk); (try clear hi)) | (go_at_call 60; (with_reducible refine (spec_l1Cur_pick.calls g s0_0 t105 t106 3 t107 t108 t109 w0 _ ?side1 ?side2 A13.out).mono ?_); (case side1 => repeat (first | (with_reducible first | exact HI0.out | apply IsS65.alloc | apply IsS65.drewN | apply IsS65.drew | apply IsS65.set_1 | apply IsS65.set_2) | exact HI0.out)); (case side2 => repeat (first | (with_reducible first | exact HB.out | apply bA | apply bN | apply bD | refine below_set ?_ (IsS65.ge HI0.out)) | exact HB.out)); rintro e w23 ⟨rfl, hi, hb, hk⟩; have n0_ := Aside0.mk (KeepBut.trans Q81 hk (.inl rfl)); have n1_ := Aside0.mk (hb); have n2_ := Aside0.mk (hi); clear HK HB HI0; have HK := n0_; have HB := n1_; have HI0 := n2_; clear n0_ n1_ n2_; (try clear hb); (try clear hb2); (try clear hk); (try clear hi))))
           (repeat (go_quiet (first | (go_at_call 60; (with_reducible refine (spec_l1Cur_pick.calls g s0_0 s0_1 s0_2 (a1.size : Int) t101 t102 t103 w0 _ ?side1 ?side2 A7.out).mono ?_); (case side1 => repeat (first | (with_reducible first | exact HI0.out | apply IsS65.alloc | apply IsS65.drewN | apply IsS65.drew | apply IsS65.set_1 | apply IsS65.set_2) | exact HI0.out)); (case side2 => repeat (first | (with_reducible first | exact HB.out | apply bA | apply bN | apply bD | refine below_set ?_ (IsS65.ge HI0.out)) | exact HB.out)); rintro e w21 ⟨rfl, hi, hb, hk⟩; have n0_ := Aside0.mk (KeepBut.trans Q81 hk (.inl rfl)); have n1_ := Aside0.mk (hb); have n2_ := Aside0.mk (hi); clear HK HB HI0; have HK := n0_; have HB := n1_; have HI0 := n2_; clear n0_ n1_ n2_; (try clear hb); (try clear hb2); (try clear hk); (try clear hi)) | (go_at_call 60; (with_reducible refine (spec_l1Cur_pick.calls g s0_0 t102 t103 (a2.size : Int) t104 t105 t106 w0 _ ?side1 ?side2 A8.out).mono ?_); (case side1 => repeat (first | (with_reducible first | exact HI0.out | apply IsS65.alloc | apply IsS65.drewN | apply IsS65.drew | apply IsS65.set_1 | apply IsS65.set_2) | exact HI0.out)); (case side2 => repeat (first | (with_reducible first | exact HB.out | apply bA | apply bN | apply bD | refine below_set ?_ (IsS65.ge HI0.out)) | exact HB.out)); rintro e w22 ⟨rfl, hi, hb, hk⟩; have n0_ := Aside0.mk (KeepBut.trans Q81 hk (.inl rfl)); have n1_ := Aside0.mk (hb); have n2_ := Aside0.mk (hi); clear HK HB HI0; have HK := n0_; have HB := n1_; have HI0 := n2_; clear n0_ n1_ n2_; (try clear hb); (try clear hb2); (try clear hk); (try clear hi)) | (go_at_call 60; (with_reducible refine (spec_l1Cur_pick.calls g s0_0 t105 t106 3 t107 t108 t109 w0 _ ?side1 ?side2 A13.out).mono ?_); (case side1 => repeat (first | (with_reducible first | exact HI0.out | apply IsS65.alloc | apply IsS65.drewN | apply IsS65.drew | apply IsS65.set_1 | apply IsS65.set_2) | exact HI0.out)); (case side2 => repeat (first | (with_reducible first | exact HB.out | apply bA | apply bN | apply bD | refine below_set ?_ (IsS65.ge HI0.out)) | exact HB.out)); rintro e w23 ⟨rfl, hi, hb, hk⟩; have n0_ := Aside0.mk (KeepBut.trans Q81 hk (.inl rfl)); have n1_ := Aside0.mk (hb); have n2_ := Aside0.mk (hi); clear HK HB HI0; have HK := n0_; have HB := n1_; have HI0 := n2_; clear n0_ n1_ n2_; (try clear hb); (try clear hb2); (try clear hk); (try clear hi))); try go_wp2_with (first | (go_at_call 60; (with_reducible refine (spec_l1Cur_pick.calls g s0_0 s0_1 s0_2 (a1.size : Int) t101 t102 t103 w0 _ ?side1 ?side2 A7.out).mono ?_); (case side1 => repeat (first | (with_reducible first | exact HI0.out | apply IsS65.alloc | apply IsS65.drewN | apply IsS65.drew | apply IsS65.set_1 | apply IsS65.set_2) | exact HI0.out)); (case side2 => repeat (first | (with_reducible first | exact HB.out | apply bA | apply bN | apply bD | refine below_set ?_ (IsS65.ge HI0.out)) | exact HB.out)); rintro e w21 ⟨rfl, hi, hb, hk⟩; have n0_ := Aside0.mk (KeepBut.trans Q81 hk (.inl rfl)); have n1_ := Aside0.mk (hb); have n2_ := Aside0.mk (hi); clear HK HB HI0; have HK := n0_; have HB := n1_; have HI0 := n2_; clear n0_ n1_ n2_; (try clear hb); (try clear hb2); (try clear hk); (try clear hi)) | (go_at_call 60; (with_reducible refine (spec_l1Cur_pick.calls g s0_0 t102 t103 (a2.size : Int) t104 t105 t106 w0 _ ?side1 ?side2 A8.out).mono ?_); (case side1 => repeat (first | (with_reducible first | exact HI0.out | apply IsS65.alloc | apply IsS65.drewN | apply IsS65.drew | apply IsS65.set_1 | apply IsS65.set_2) | exact HI0.out)); (case side2 => repeat (first | (with_reducible first | exact HB.out | apply bA | apply bN | apply bD | refine below_set ?_ (IsS65.ge HI0.out)) | exact HB.out)); rintro e w22 ⟨rfl, hi, hb, hk⟩; have n0_ := Aside0.mk (KeepBut.trans Q81 hk (.inl rfl)); have n1_ := Aside0.mk (hb); have n2_ := Aside0.mk (hi); clear HK HB HI0; have HK := n0_; have HB := n1_; have HI0 := n2_; clear n0_ n1_ n2_; (try clear hb); (try clear hb2); (try clear hk); (try clear hi)) | (go_at_call 60; (with_reducible refine (spec_l1Cur_pick.calls g s0_0 t105 t106 3 t107 t108 t109 w0 _ ?side1 ?side2 A13.out).mono ?_); (case side1 => repeat (first | (with_reducible first | exact HI0.out | apply IsS65.alloc | apply IsS65.drewN | apply IsS65.drew | apply IsS65.set_1 | apply IsS65.set_2) | exact HI0.out)); (case side2 => repeat (first | (with_reducible first | exact HB.out | apply bA | apply bN | apply bD | refine below_set ?_ (IsS65.ge HI0.out)) | exact HB.out)); rintro e w23 ⟨rfl, hi, hb, hk⟩; have n0_ := Aside0.mk (KeepBut.trans Q81 hk (.inl rfl)); have n1_ := Aside0.mk (hb); have n2_ := Aside0.mk (hi); clear HK HB HI0; have HK := n0_; have HB := n1_; have HI0 := n2_; clear n0_ n1_ n2_; (try clear hb); (try clear hb2); (try clear hk); (try clear hi))))); go_ret
           exact Q80
          ·rw [if_neg c20] at H
           exact Q3
         ·rw [if_neg c17] at H
          exact Q3
        ·rw [if_neg c16] at H
         exact Q3
       ·rw [if_neg c15] at H
        exact Q3
      ·rw [if_neg c14] at H
       (have c14b0 : (t107 == 0) = false := beq_eq_false_iff_ne.mpr c14); (have c14b1 : (t107 != 0) = true := bne_iff_ne.mpr c14); (by_cases c24 : t107 = 1)
       ·rw [if_pos c24] at H
        (have c24b0 : (t107 == 1) = true := beq_iff_eq.mpr c24); (have c24b1 : (t107 != 1) = false := bne_eq_false_iff_eq.mpr c24); clear c24; (by_cases c25 : 0 ≤ t101)
        ·rw [if_pos c25] at H
         (have c25b0 := eq_true c25); (have c25b1 := decide_eq_true c25); clear c25; (by_cases c26 : t101 ≤ (a1.size : Int))
         ·rw [if_pos c26] at H
          (have c26b0 := eq_true c26); (have c26b1 := decide_eq_true c26); clear c26; (by_cases c27 : (a1.extract 0 (t101 : Int).toNat).size + ((a2.extract (t104 : Int).toNat a2.size).extract 0 1).size ≤ 9223372036854775807)
          ·rw [if_pos c27] at H
           (have c27b0 := eq_true c27); (have c27b1 := decide_eq_true c27); (try have c27n0 := c27b0); (try (push_cast [Int.toNat_natCast, ByteArray.size_append] at c27n0)); (try have c27n1 := c27b1); (try (push_cast [Int.toNat_natCast, ByteArray.size_append] at c27n1)); (try have c27b2 : (9223372036854775807 < (a1.extract 0 (t101 : Int).toNat).size + ((a2.extract (t104 : Int).toNat a2.size).extract 0 1).size) = False := eq_false (Nat.not_lt.2 c27)); (try have c27b3 := c27b2); (try simp only [show (a1.extract 0 (t101 : Int).toNat).size = (t101 : Int).toNat - 0 from Q146, show (a2.extract (t104 : Int).toNat a2.size).size = a2.size - (t104 : Int).toNat from Q146, show ((a2.extract (t104 : Int).toNat a2.size).extract 0 1).size = 1 - 0 from Q146, ByteArray.size_append] at c27b3); (obtain ⟨ji28, hji28⟩ : ∃ j_ : Int, (wrap64 (t101 + 1)) = j_ := ⟨_, rfl⟩); (replace H : (if 0 ≤ (ji28) then (if (ji28) ≤ (a1.size : Int) then (if ((a1.extract 0 (t101 : Int).toNat) ++ ((a2.extract (t104 : Int).toNat a2.size).extract 0 1)).size + (a1.extract ((ji28) : Int).toNat a1.size).size ≤ 9223372036854775807 then (some (((a1.extract 0 (t101 : Int).toNat) ++ ((a2.extract (t104 : Int).toNat a2.size).extract 0 1)) ++ (a1.extract ((ji28) : Int).toNat a1.size), t108, t109)) else (none)) else (none)) else (none)) = some (r1, r2, r3) := by first | (rw [hji28] at H; exact H) | (simp only [hji28] at H ⊢; exact H)); ((try rw [hji28] at A7)); ((try rw [hji28] at A8)); ((try rw [hji28] at A13)); (have hji28w : (IntKind.i64.wrap (t101 + 1)) = ji28 := (i64_w _).trans hji28); (by_cases c29 : 0 ≤ (ji28))
           ·rw [if_pos c29] at H
            (have c29b0 := eq_true c29); (have c29b1 := decide_eq_true c29); clear c29; (by_cases c30 : (ji28) ≤ (a1.size : Int))
            ·rw [if_pos c30] at H
             (have c30b0 := eq_true c30); (have c30b1 := decide_eq_true c30); clear c30; (by_cases c31 : ((a1.extract 0 (t101 : Int).toNat) ++ ((a2.extract (t104 : Int).toNat a2.size).extract 0 1)).size + (a1.extract ((ji28) : Int).toNat a1.size).size ≤ 9223372036854775807)
             ·rw [if_pos c31] at H
              (have c31b0 := eq_true c31); (have c31b1 := decide_eq_true c31); (try have c31n0 := c31b0); (try (push_cast [Int.toNat_natCast, ByteArray.size_append] at c31n0)); (try have c31n1 := c31b1); (try (push_cast [Int.toNat_natCast, ByteArray.size_append] at c31n1)); (try have c31b2 : (9223372036854775807 < ((a1.extract 0 (t101 : Int).toNat) ++ ((a2.extract (t104 : Int).toNat a2.size).extract 0 1)).size + (a1.extract ((ji28) : Int).toNat a1.size).size) = False := eq_false (Nat.not_lt.2 c31)); (try have c31b3 := c31b2); (try simp only [show (a1.extract 0 (t101 : Int).toNat).size = (t101 : Int).toNat - 0 from Q146, show (a2.extract (t104 : Int).toNat a2.size).size = a2.size - (t104 : Int).toNat from Q146, show ((a2.extract (t104 : Int).toNat a2.size).extract 0 1).size = 1 - 0 from Q146, show (a1.extract ((ji28) : Int).toNat a1.size).size = a1.size - ((ji28) : Int).toNat from Q146, ByteArray.size_append] at c31b3); (simp only [Option.some.injEq, Prod.mk.injEq] at H); (obtain ⟨rfl, rfl, rfl⟩ := H); (go_enter Tryd.func36, Tryd.ntmps36); (go_wp2_with (first | (go_at_call 60; (with_reducible refine (spec_l1Cur_pick.calls g s0_0 s0_1 s0_2 (a1.size : Int) t101 t102 t103 w0 _ ?side1 ?side2 A7.out).mono ?_); (case side1 => repeat (first | (with_reducible first | exact HI0.out | apply IsS65.alloc | apply IsS65.drewN | apply IsS65.drew | apply IsS65.set_1 | apply IsS65.set_2) | exact HI0.out)); (case side2 => repeat (first | (with_reducible first | exact HB.out | apply bA | apply bN | apply bD | refine below_set ?_ (IsS65.ge HI0.out)) | exact HB.out)); rintro e w32 ⟨rfl, hi, hb, hk⟩; have n0_ := Aside0.mk (KeepBut.trans Q81 hk (.inl rfl)); have n1_ := Aside0.mk (hb); have n2_ := Aside0.mk (hi); clear HK HB HI0; have HK := n0_; have HB := n1_; have HI0 := n2_; clear n0_ n1_ n2_; (try clear hb); (try clear hb2); (try clear hk); (try clear hi)) | (go_at_call 60; (with_reducible refine (spec_l1Cur_pick.calls g s0_0 t102 t103 (a2.size : Int) t104 t105 t106 w0 _ ?side1 ?side2 A8.out).mono ?_); (case side1 => repeat (first | (with_reducible first | exact HI0.out | apply IsS65.alloc | apply IsS65.drewN | apply IsS65.drew | apply IsS65.set_1 | apply IsS65.set_2) | exact HI0.out)); (case side2 => repeat (first | (with_reducible first | exact HB.out | apply bA | apply bN | apply bD | refine below_set ?_ (IsS65.ge HI0.out)) | exact HB.out)); rintro e w33 ⟨rfl, hi, hb, hk⟩; have n0_ := Aside0.mk (KeepBut.trans Q81 hk (.inl rfl)); have n1_ := Aside0.mk (hb); have n2_ := Aside0.mk (hi); clear HK HB HI0; have HK := n0_; have HB := n1_; have HI0 := n2_; clear n0_ n1_ n2_; (try clear hb); (try clear hb2); (try clear hk); (try clear hi)) | (go_at_call 60; (with_reducible refine (spec_l1Cur_pick.calls g s0_0 t105 t106 3 t107 t108 t109 w0 _ ?side1 ?side2 A13.out).mono ?_); (case side1 => repeat (first | (with_reducible first | exact HI0.out | apply IsS65.alloc | apply IsS65.drewN | apply IsS65.drew | apply IsS65.set_1 | apply IsS65.set_2) | exact HI0.out)); (case side2 => repeat (first | (with_reducible first | exact HB.out | apply bA | apply bN | apply bD | refine below_set ?_ (IsS65.ge HI0.out)) | exact HB.out)); rintro e w34 ⟨rfl, hi, hb, hk⟩; have n0_ := Aside0.mk (KeepBut.trans Q81 hk (.inl rfl)); have n1_ := Aside0.mk (hb); have n2_ := Aside0.mk (hi); clear HK HB HI0; have HK := n0_; have HB := n1_; have HI0 := n2_; clear n0_ n1_ n2_; (try clear hb); (try clear hb2); (try clear hk); (try clear hi))))
              (repeat (go_quiet (first | (go_at_call 60; (with_reducible refine (spec_l1Cur_pick.calls g s0_0 s0_1 s0_2 (a1.size : Int) t101 t102 t103 w0 _ ?side1 ?side2 A7.out).mono ?_); (case side1 => repeat (first | (with_reducible first | exact HI0.out | apply IsS65.alloc | apply IsS65.drewN | apply IsS65.drew | apply IsS65.set_1 | apply IsS65.set_2) | exact HI0.out)); (case side2 => repeat (first | (with_reducible first | exact HB.out | apply bA | apply bN | apply bD | refine below_set ?_ (IsS65.ge HI0.out)) | exact HB.out)); rintro e w32 ⟨rfl, hi, hb, hk⟩; have n0_ := Aside0.mk (KeepBut.trans Q81 hk (.inl rfl)); have n1_ := Aside0.mk (hb); have n2_ := Aside0.mk (hi); clear HK HB HI0; have HK := n0_; have HB := n1_; have HI0 := n2_; clear n0_ n1_ n2_; (try clear hb); (try clear hb2); (try clear hk); (try clear hi)) | (go_at_call 60; (with_reducible refine (spec_l1Cur_pick.calls g s0_0 t102 t103 (a2.size : Int) t104 t105 t106 w0 _ ?side1 ?side2 A8.out).mono ?_); (case side1 => repeat (first | (with_reducible first | exact HI0.out | apply IsS65.alloc | apply IsS65.drewN | apply IsS65.drew | apply IsS65.set_1 | apply IsS65.set_2) | exact HI0.out)); (case side2 => repeat (first | (with_reducible first | exact HB.out | apply bA | apply bN | apply bD | refine below_set ?_ (IsS65.ge HI0.out)) | exact HB.out)); rintro e w33 ⟨rfl, hi, hb, hk⟩; have n0_ := Aside0.mk (KeepBut.trans Q81 hk (.inl rfl)); have n1_ := Aside0.mk (hb); have n2_ := Aside0.mk (hi); clear HK HB HI0; have HK := n0_; have HB := n1_; have HI0 := n2_; clear n0_ n1_ n2_; (try clear hb); (try clear hb2); (try clear hk); (try clear hi)) | (go_at_call 60; (with_reducible refine (spec_l1Cur_pick.calls g s0_0 t105 t106 3 t107 t108 t109 w0 _ ?side1 ?side2 A13.out).mono ?_); (case side1 => repeat (first | (with_reducible first | exact HI0.out | apply IsS65.alloc | apply IsS65.drewN | apply IsS65.drew | apply IsS65.set_1 | apply IsS65.set_2) | exact HI0.out)); (case side2 => repeat (first | (with_reducible first | exact HB.out | apply bA | apply bN | apply bD | refine below_set ?_ (IsS65.ge HI0.out)) | exact HB.out)); rintro e w34 ⟨rfl, hi, hb, hk⟩; have n0_ := Aside0.mk (KeepBut.trans Q81 hk (.inl rfl)); have n1_ := Aside0.mk (hb); have n2_ := Aside0.mk (hi); clear HK HB HI0; have HK := n0_; have HB := n1_; have HI0 := n2_; clear n0_ n1_ n2_; (try clear hb); (try clear hb2); (try clear hk); (try clear hi))); try go_wp2_with (first | (go_at_call 60; (with_reducible refine (spec_l1Cur_pick.calls g s0_0 s0_1 s0_2 (a1.size : Int) t101 t102 t103 w0 _ ?side1 ?side2 A7.out).mono ?_); (case side1 => repeat (first | (with_reducible first | exact HI0.out | apply IsS65.alloc | apply IsS65.drewN | apply IsS65.drew | apply IsS65.set_1 | apply IsS65.set_2) | exact HI0.out)); (case side2 => repeat (first | (with_reducible first | exact HB.out | apply bA | apply bN | apply bD | refine below_set ?_ (IsS65.ge HI0.out)) | exact HB.out)); rintro e w32 ⟨rfl, hi, hb, hk⟩; have n0_ := Aside0.mk (KeepBut.trans Q81 hk (.inl rfl)); have n1_ := Aside0.mk (hb); have n2_ := Aside0.mk (hi); clear HK HB HI0; have HK := n0_; have HB := n1_; have HI0 := n2_; clear n0_ n1_ n2_; (try clear hb); (try clear hb2); (try clear hk); (try clear hi)) | (go_at_call 60; (with_reducible refine (spec_l1Cur_pick.calls g s0_0 t102 t103 (a2.size : Int) t104 t105 t106 w0 _ ?side1 ?side2 A8.out).mono ?_); (case side1 => repeat (first | (with_reducible first | exact HI0.out | apply IsS65.alloc | apply IsS65.drewN | apply IsS65.drew | apply IsS65.set_1 | apply IsS65.set_2) | exact HI0.out)); (case side2 => repeat (first | (with_reducible first | exact HB.out | apply bA | apply bN | apply bD | refine below_set ?_ (IsS65.ge HI0.out)) | exact HB.out)); rintro e w33 ⟨rfl, hi, hb, hk⟩; have n0_ := Aside0.mk (KeepBut.trans Q81 hk (.inl rfl)); have n1_ := Aside0.mk (hb); have n2_ := Aside0.mk (hi); clear HK HB HI0; have HK := n0_; have HB := n1_; have HI0 := n2_; clear n0_ n1_ n2_; (try clear hb); (try clear hb2); (try clear hk); (try clear hi)) | (go_at_call 60; (with_reducible refine (spec_l1Cur_pick.calls g s0_0 t105 t106 3 t107 t108 t109 w0 _ ?side1 ?side2 A13.out).mono ?_); (case side1 => repeat (first | (with_reducible first | exact HI0.out | apply IsS65.alloc | apply IsS65.drewN | apply IsS65.drew | apply IsS65.set_1 | apply IsS65.set_2) | exact HI0.out)); (case side2 => repeat (first | (with_reducible first | exact HB.out | apply bA | apply bN | apply bD | refine below_set ?_ (IsS65.ge HI0.out)) | exact HB.out)); rintro e w34 ⟨rfl, hi, hb, hk⟩; have n0_ := Aside0.mk (KeepBut.trans Q81 hk (.inl rfl)); have n1_ := Aside0.mk (hb); have n2_ := Aside0.mk (hi); clear HK HB HI0; have HK := n0_; have HB := n1_; have HI0 := n2_; clear n0_ n1_ n2_; (try clear hb); (try clear hb2); (try clear hk); (try clear hi))))); go_ret
              exact ⟨by first | rfl | (simp [errW_none, errW_some] <;> rfl) | (simp only [← hji28]; first | rfl | (simp [errW_none, errW_some] <;> rfl)) | (simp [*, errW_none, errW_some] <;> rfl), Q84, Q86, Q81⟩
             ·rw [if_neg c31] at H
              exact Q3
            ·rw [if_neg c30] at H
             exact Q3
           ·rw [if_neg c29] at H
            exact Q3
          ·rw [if_neg c27] at H
           exact Q3
         ·rw [if_neg c26] at H
          exact Q3
        ·rw [if_neg c25] at H
         exact Q3
       ·rw [if_neg c24] at H
        (have c24b0 : (t107 == 1) = false := beq_eq_false_iff_ne.mpr c24); (have c24b1 : (t107 != 1) = true := bne_iff_ne.mpr c24); (by_cases c35 : 0 ≤ t101)
        ·rw [if_pos c35] at H
         (have c35b0 := eq_true c35); (have c35b1 := decide_eq_true c35); clear c35; (by_cases c36 : t101 ≤ (a1.size : Int))
         ·rw [if_pos c36] at H
          (have c36b0 := eq_true c36); (have c36b1 := decide_eq_true c36); clear c36; (obtain ⟨ji37, hji37⟩ : ∃ j_ : Int, (wrap64 (t101 + 1)) = j_ := ⟨_, rfl⟩); (replace H : (if 0 ≤ (ji37) then (if (ji37) ≤ (a1.size : Int) then (if (a1.extract 0 (t101 : Int).toNat).size + (a1.extract ((ji37) : Int).toNat a1.size).size ≤ 9223372036854775807 then (some ((a1.extract 0 (t101 : Int).toNat) ++ (a1.extract ((ji37) : Int).toNat a1.size), t108, t109)) else (none)) else (none)) else (none)) = some (r1, r2, r3) := by first | (rw [hji37] at H; exact H) | (simp only [hji37] at H ⊢; exact H)); ((try rw [hji37] at A7)); ((try rw [hji37] at A8)); ((try rw [hji37] at A13)); (have hji37w : (IntKind.i64.wrap (t101 + 1)) = ji37 := (i64_w _).trans hji37); (by_cases c38 : 0 ≤ (ji37))
          ·rw [if_pos c38] at H
           (have c38b0 := eq_true c38); (have c38b1 := decide_eq_true c38); clear c38; (by_cases c39 : (ji37) ≤ (a1.size : Int))
           ·rw [if_pos c39] at H
            (have c39b0 := eq_true c39); (have c39b1 := decide_eq_true c39); clear c39; (by_cases c40 : (a1.extract 0 (t101 : Int).toNat).size + (a1.extract ((ji37) : Int).toNat a1.size).size ≤ 9223372036854775807)
            ·rw [if_pos c40] at H
             (have c40b0 := eq_true c40); (have c40b1 := decide_eq_true c40); (try have c40n0 := c40b0); (try (push_cast [Int.toNat_natCast, ByteArray.size_append] at c40n0)); (try have c40n1 := c40b1); (try (push_cast [Int.toNat_natCast, ByteArray.size_append] at c40n1)); (try have c40b2 : (9223372036854775807 < (a1.extract 0 (t101 : Int).toNat).size + (a1.extract ((ji37) : Int).toNat a1.size).size) = False := eq_false (Nat.not_lt.2 c40)); (try have c40b3 := c40b2); (try simp only [show (a1.extract 0 (t101 : Int).toNat).size = (t101 : Int).toNat - 0 from Q146, show (a1.extract ((ji37) : Int).toNat a1.size).size = a1.size - ((ji37) : Int).toNat from Q146, ByteArray.size_append] at c40b3); (simp only [Option.some.injEq, Prod.mk.injEq] at H); (obtain ⟨rfl, rfl, rfl⟩ := H); (go_enter Tryd.func36, Tryd.ntmps36); (go_wp2_with (first | (go_at_call 60; (with_reducible refine (spec_l1Cur_pick.calls g s0_0 s0_1 s0_2 (a1.size : Int) t101 t102 t103 w0 _ ?side1 ?side2 A7.out).mono ?_); (case side1 => repeat (first | (with_reducible first | exact HI0.out | apply IsS65.alloc | apply IsS65.drewN | apply IsS65.drew | apply IsS65.set_1 | apply IsS65.set_2) | exact HI0.out)); (case side2 => repeat (first | (with_reducible first | exact HB.out | apply bA | apply bN | apply bD | refine below_set ?_ (IsS65.ge HI0.out)) | exact HB.out)); rintro e w41 ⟨rfl, hi, hb, hk⟩; have n0_ := Aside0.mk (KeepBut.trans Q81 hk (.inl rfl)); have n1_ := Aside0.mk (hb); have n2_ := Aside0.mk (hi); clear HK HB HI0; have HK := n0_; have HB := n1_; have HI0 := n2_; clear n0_ n1_ n2_; (try clear hb); (try clear hb2); (try clear hk); (try clear hi)) | (go_at_call 60; (with_reducible refine (spec_l1Cur_pick.calls g s0_0 t102 t103 (a2.size : Int) t104 t105 t106 w0 _ ?side1 ?side2 A8.out).mono ?_); (case side1 => repeat (first | (with_reducible first | exact HI0.out | apply IsS65.alloc | apply IsS65.drewN | apply IsS65.drew | apply IsS65.set_1 | apply IsS65.set_2) | exact HI0.out)); (case side2 => repeat (first | (with_reducible first | exact HB.out | apply bA | apply bN | apply bD | refine below_set ?_ (IsS65.ge HI0.out)) | exact HB.out)); rintro e w42 ⟨rfl, hi, hb, hk⟩; have n0_ := Aside0.mk (KeepBut.trans Q81 hk (.inl rfl)); have n1_ := Aside0.mk (hb); have n2_ := Aside0.mk (hi); clear HK HB HI0; have HK := n0_; have HB := n1_; have HI0 := n2_; clear n0_ n1_ n2_; (try clear hb); (try clear hb2); (try clear hk); (try clear hi)) | (go_at_call 60; (with_reducible refine (spec_l1Cur_pick.calls g s0_0 t105 t106 3 t107 t108 t109 w0 _ ?side1 ?side2 A13.out).mono ?_); (case side1 => repeat (first | (with_reducible first | exact HI0.out | apply IsS65.alloc | apply IsS65.drewN | apply IsS65.drew | apply IsS65.set_1 | apply IsS65.set_2) | exact HI0.out)); (case side2 => repeat (first | (with_reducible first | exact HB.out | apply bA | apply bN | apply bD | refine below_set ?_ (IsS65.ge HI0.out)) | exact HB.out)); rintro e w43 ⟨rfl, hi, hb, hk⟩; have n0_ := Aside0.mk (KeepBut.trans Q81 hk (.inl rfl)); have n1_ := Aside0.mk (hb); have n2_ := Aside0.mk (hi); clear HK HB HI0; have HK := n0_; have HB := n1_; have HI0 := n2_; clear n0_ n1_ n2_; (try clear hb); (try clear hb2); (try clear hk); (try clear hi))))
             (repeat (go_quiet (first | (go_at_call 60; (with_reducible refine (spec_l1Cur_pick.calls g s0_0 s0_1 s0_2 (a1.size : Int) t101 t102 t103 w0 _ ?side1 ?side2 A7.out).mono ?_); (case side1 => repeat (first | (with_reducible first | exact HI0.out | apply IsS65.alloc | apply IsS65.drewN | apply IsS65.drew | apply IsS65.set_1 | apply IsS65.set_2) | exact HI0.out)); (case side2 => repeat (first | (with_reducible first | exact HB.out | apply bA | apply bN | apply bD | refine below_set ?_ (IsS65.ge HI0.out)) | exact HB.out)); rintro e w41 ⟨rfl, hi, hb, hk⟩; have n0_ := Aside0.mk (KeepBut.trans Q81 hk (.inl rfl)); have n1_ := Aside0.mk (hb); have n2_ := Aside0.mk (hi); clear HK HB HI0; have HK := n0_; have HB := n1_; have HI0 := n2_; clear n0_ n1_ n2_; (try clear hb); (try clear hb2); (try clear hk); (try clear hi)) | (go_at_call 60; (with_reducible refine (spec_l1Cur_pick.calls g s0_0 t102 t103 (a2.size : Int) t104 t105 t106 w0 _ ?side1 ?side2 A8.out).mono ?_); (case side1 => repeat (first | (with_reducible first | exact HI0.out | apply IsS65.alloc | apply IsS65.drewN | apply IsS65.drew | apply IsS65.set_1 | apply IsS65.set_2) | exact HI0.out)); (case side2 => repeat (first | (with_reducible first | exact HB.out | apply bA | apply bN | apply bD | refine below_set ?_ (IsS65.ge HI0.out)) | exact HB.out)); rintro e w42 ⟨rfl, hi, hb, hk⟩; have n0_ := Aside0.mk (KeepBut.trans Q81 hk (.inl rfl)); have n1_ := Aside0.mk (hb); have n2_ := Aside0.mk (hi); clear HK HB HI0; have HK := n0_; have HB := n1_; have HI0 := n2_; clear n0_ n1_ n2_; (try clear hb); (try clear hb2); (try clear hk); (try clear hi)) | (go_at_call 60; (with_reducible refine (spec_l1Cur_pick.calls g s0_0 t105 t106 3 t107 t108 t109 w0 _ ?side1 ?side2 A13.out).mono ?_); (case side1 => repeat (first | (with_reducible first | exact HI0.out | apply IsS65.alloc | apply IsS65.drewN | apply IsS65.drew | apply IsS65.set_1 | apply IsS65.set_2) | exact HI0.out)); (case side2 => repeat (first | (with_reducible first | exact HB.out | apply bA | apply bN | apply bD | refine below_set ?_ (IsS65.ge HI0.out)) | exact HB.out)); rintro e w43 ⟨rfl, hi, hb, hk⟩; have n0_ := Aside0.mk (KeepBut.trans Q81 hk (.inl rfl)); have n1_ := Aside0.mk (hb); have n2_ := Aside0.mk (hi); clear HK HB HI0; have HK := n0_; have HB := n1_; have HI0 := n2_; clear n0_ n1_ n2_; (try clear hb); (try clear hb2); (try clear hk); (try clear hi))); try go_wp2_with (first | (go_at_call 60; (with_reducible refine (spec_l1Cur_pick.calls g s0_0 s0_1 s0_2 (a1.size : Int) t101 t102 t103 w0 _ ?side1 ?side2 A7.out).mono ?_); (case side1 => repeat (first | (with_reducible first | exact HI0.out | apply IsS65.alloc | apply IsS65.drewN | apply IsS65.drew | apply IsS65.set_1 | apply IsS65.set_2) | exact HI0.out)); (case side2 => repeat (first | (with_reducible first | exact HB.out | apply bA | apply bN | apply bD | refine below_set ?_ (IsS65.ge HI0.out)) | exact HB.out)); rintro e w41 ⟨rfl, hi, hb, hk⟩; have n0_ := Aside0.mk (KeepBut.trans Q81 hk (.inl rfl)); have n1_ := Aside0.mk (hb); have n2_ := Aside0.mk (hi); clear HK HB HI0; have HK := n0_; have HB := n1_; have HI0 := n2_; clear n0_ n1_ n2_; (try clear hb); (try clear hb2); (try clear hk); (try clear hi)) | (go_at_call 60; (with_reducible refine (spec_l1Cur_pick.calls g s0_0 t102 t103 (a2.size : Int) t104 t105 t106 w0 _ ?side1 ?side2 A8.out).mono ?_); (case side1 => repeat (first | (with_reducible first | exact HI0.out | apply IsS65.alloc | apply IsS65.drewN | apply IsS65.drew | apply IsS65.set_1 | apply IsS65.set_2) | exact HI0.out)); (case side2 => repeat (first | (with_reducible first | exact HB.out | apply bA | apply bN | apply bD | refine below_set ?_ (IsS65.ge HI0.out)) | exact HB.out)); rintro e w42 ⟨rfl, hi, hb, hk⟩; have n0_ := Aside0.mk (KeepBut.trans Q81 hk (.inl rfl)); have n1_ := Aside0.mk (hb); have n2_ := Aside0.mk (hi); clear HK HB HI0; have HK := n0_; have HB := n1_; have HI0 := n2_; clear n0_ n1_ n2_; (try clear hb); (try clear hb2); (try clear hk); (try clear hi)) | (go_at_call 60; (with_reducible refine (spec_l1Cur_pick.calls g s0_0 t105 t106 3 t107 t108 t109 w0 _ ?side1 ?side2 A13.out).mono ?_); (case side1 => repeat (first | (with_reducible first | exact HI0.out | apply IsS65.alloc | apply IsS65.drewN | apply IsS65.drew | apply IsS65.set_1 | apply IsS65.set_2) | exact HI0.out)); (case side2 => repeat (first | (with_reducible first | exact HB.out | apply bA | apply bN | apply bD | refine below_set ?_ (IsS65.ge HI0.out)) | exact HB.out)); rintro e w43 ⟨rfl, hi, hb, hk⟩; have n0_ := Aside0.mk (KeepBut.trans Q81 hk (.inl rfl)); have n1_ := Aside0.mk (hb); have n2_ := Aside0.mk (hi); clear HK HB HI0; have HK := n0_; have HB := n1_; have HI0 := n2_; clear n0_ n1_ n2_; (try clear hb); (try clear hb2); (try clear hk); (try clear hi))))); go_ret
             exact ⟨by first | rfl | (simp [errW_none, errW_some] <;> rfl) | (simp only [← hji37]; first | rfl | (simp [errW_none, errW_some] <;> rfl)) | (simp [*, errW_none, errW_some] <;> rfl), Q84, Q86, Q81⟩
            ·rw [if_neg c40] at H
             exact Q3
           ·rw [if_neg c39] at H
            exact Q3
          ·rw [if_neg c38] at H
           exact Q3
         ·rw [if_neg c36] at H
          exact Q3
        ·rw [if_neg c35] at H
         exact Q3
     ·rw [if_neg c12] at H
      exact Q3
    ·rw [if_neg c11] at H
     exact Q3
   ·rw [if_neg c10] at H
    exact Q3
  ·rw [if_neg c9] at H
   exact Q3
/-! ### spec_DrawParseForm: function 13 -/
def spec_DrawParseForm.f (k : Nat) (l0 : List Int) : Option (ByteArray) := (spec_l1Cur_form.f k l0 0 0).bind fun bt102 => ((spec_l23Lines.f k bt102.1).bind fun bt107 => ((spec_l1Cur_one.f l0 bt102.2.1 bt102.2.2 3).bind fun bt109 => (if bt109.1 = true then ((spec_l1Cur_spoilt.f l0 bt109.2.1 bt109.2.2 bt107.1 (⟨#[97, 32, 49, 48, 110, 105, 102, 10]⟩ : ByteArray)).bind fun bt112 => (some bt112.1)) else (some bt107.1))))
set_option maxHeartbeats 8000000 in
set_option maxRecDepth 100000 in
theorem spec_DrawParseForm.calls (k : Nat) (A0 : Option Addr) (c0 : Nat) (l0 : List Int) (r : ByteArray) (w : World) (hr0 : Kd.C (Kd.int .u8) w A0 l0.length l0) (hc0 : l0.length ≤ c0) (h : spec_DrawParseForm.f k l0 = some r) :
  Calls Tryd.prog 13 #[.slice A0 l0.length c0] w fun e w' => e = .returned (.string r) ∧ Below w.heap.size w w' := by
 (have hu65 := Tryd.underlying65); (have HR0 := Aside0.mk hr0); (have HC0 := Aside0.mk hc0); clear hr0 hc0; (have HB := Aside0.mk (Below.refl w.heap.size w)); (have H : ((spec_l1Cur_form.f k l0 0 0).bind fun bt102 => ((spec_l23Lines.f k bt102.1).bind fun bt107 => ((spec_l1Cur_one.f l0 bt102.2.1 bt102.2.2 3).bind fun bt109 => (if bt109.1 = true then ((spec_l1Cur_spoilt.f l0 bt109.2.1 bt109.2.2 bt107.1 (⟨#[97, 32, 49, 48, 110, 105, 102, 10]⟩ : ByteArray)).bind fun bt112 => (some bt112.1)) else (some bt107.1))))) = some r := h); clear h; (replace H := Option.bind_eq_some_iff.mp H); (obtain ⟨⟨t102, t105, t106⟩, A20, H⟩ := H); (replace H : ((spec_l23Lines.f k t102).bind fun bt107 => ((spec_l1Cur_one.f l0 t105 t106 3).bind fun bt109 => (if bt109.1 = true then ((spec_l1Cur_spoilt.f l0 bt109.2.1 bt109.2.2 bt107.1 (⟨#[97, 32, 49, 48, 110, 105, 102, 10]⟩ : ByteArray)).bind fun bt112 => (some bt112.1)) else (some bt107.1)))) = some r := H); (have A2 := Aside0.mk A20); clear A20; (replace H := Option.bind_eq_some_iff.mp H); (obtain ⟨⟨t107, t108⟩, A30, H⟩ := H); (replace H : ((spec_l1Cur_one.f l0 t105 t106 3).bind fun bt109 => (if bt109.1 = true then ((spec_l1Cur_spoilt.f l0 bt109.2.1 bt109.2.2 t107 (⟨#[97, 32, 49, 48, 110, 105, 102, 10]⟩ : ByteArray)).bind fun bt112 => (some bt112.1)) else (some t107))) = some r := H); (have A3 := Aside0.mk A30); clear A30; (replace H := Option.bind_eq_some_iff.mp H); (obtain ⟨⟨t109, t110, t111⟩, A40, H⟩ := H); (replace H : (if t109 = true then ((spec_l1Cur_spoilt.f l0 t110 t111 t107 (⟨#[97, 32, 49, 48, 110, 105, 102, 10]⟩ : ByteArray)).bind fun bt112 => (some bt112.1)) else (some t107)) = some r := H); (have A4 := Aside0.mk A40); clear A40; (by_cases c5 : t109 = true)
 ·subst c5
  (rw [if_pos rfl] at H); (replace H := Option.bind_eq_some_iff.mp H); (obtain ⟨⟨t112, t113, t114⟩, A60, H⟩ := H); (replace H : (some t112) = some r := H); (have A6 := Aside0.mk A60); clear A60; (obtain rfl := Option.some.inj H); (go_enter Tryd.func13, Tryd.ntmps13)
  go_wp2_with (first | ((with_reducible refine gate_dst (N := 8) rfl ?_); refine box_event ?hg (N := 8) ?hd (cs := #[.slice A0 l0.length c0, .int .i64 0, .int .u64 0]) (t := 65) ?hr ?_; (case hd => rfl); (case hg => rfl); (case hr => first | (go_simp; done) | (go_simp; rfl)); intro gb101 hg w7 hbox hb; have hB_ := bz Q31 hb; have n0_ := Aside0.mk (below_step hB_ hb); have n1_ := Aside0.mk ((⟨_, _, hbox, (Q147 : w.heap.size ≤ gb101), HR0.out⟩ : IsS65 w w7 gb101 l0 0 0)); clear HB; have HB := n0_; have HI101 := n1_; clear n0_ n1_ hB_ hb hbox hg) | ((with_reducible refine gate_callee (f := 34) rfl ?_); refine gL (some 11) Tryd.func34 #[.pointer (some ⟨gb101, 0, none⟩)] ?_; (with_reducible refine (spec_l1Cur_form.calls k gb101 l0 0 0 t102 t105 t106 w _ ?side1 ?side2 A2.out).mono ?_); (case side1 => repeat (first | (with_reducible first | exact HI101.out | apply IsS65.alloc | apply IsS65.drewN | apply IsS65.drew | apply IsS65.set_1 | apply IsS65.set_2) | exact HI101.out)); (case side2 => repeat (first | (with_reducible first | exact HB.out | apply bA | apply bN | apply bD | refine below_set ?_ (IsS65.ge HI101.out)) | exact HB.out)); rintro e w8 ⟨v103, rfl, ho0, hi, hb, hk⟩; refine ⟨_, rfl, ?_⟩; have n0_ := Aside0.mk (Kd.N_lower (Kd.N_mono (ok' := fun k_ => k_ ≠ gb101) ho0 (fun k_ hk_ => (IsS65.fresh Q148 k_ hk_))) (below_size Q149)); have n1_ := Aside0.mk (hb); have n2_ := Aside0.mk (hi); clear HB HI101; have HO104 := n0_; have HB := n1_; have HI101 := n2_; clear n0_ n1_ n2_; (try clear hb); (try clear hb2); (try clear hk); (try clear hi); (try clear ho0); obtain ⟨Ao9, co9, eo9⟩ := Kd.N_slice HO104.out; subst eo9) | ((with_reducible refine gate_callee (f := 32) rfl ?_); refine gL (some 12) Tryd.func32 #[.slice Ao9 t102.length co9] ?_; (with_reducible refine (spec_l23Lines.calls k _ _ t102 t107 t108 _ ?side1 ?side2 A3.out).mono ?_); (case side1 => repeat (first | exact Q150 | (with_reducible first | refine cA ?_ _ | refine cN ?_ _ | refine cD ?_))); (case side2 => exact Q151); rintro e w10 ⟨rfl, hb⟩; refine ⟨_, rfl, ?_⟩; have n0_ := Aside0.mk (Kd.N_below Q152 hb); have n1_ := Aside0.mk (IsS65.below Q148 hb); have n2_ := Aside0.mk (below_step Q149 hb); clear HO104 HI101 HB; have HO104 := n0_; have HI101 := n1_; have HB := n2_; clear n0_ n1_ n2_; (try clear hb); (try clear hb2); (try clear hk); (try clear hi)) | ((with_reducible refine gate_callee (f := 35) rfl ?_); refine gL (some 16) Tryd.func35 #[.pointer (some ⟨gb101, 0, none⟩), .int .i64 3] ?_; (with_reducible refine (spec_l1Cur_one.calls gb101 l0 t105 t106 3 true t110 t111 w _ ?side1 ?side2 A4.out).mono ?_); (case side1 => repeat (first | (with_reducible first | exact HI101.out | apply IsS65.alloc | apply IsS65.drewN | apply IsS65.drew | apply IsS65.set_1 | apply IsS65.set_2) | exact HI101.out)); (case side2 => repeat (first | (with_reducible first | exact HB.out | apply bA | apply bN | apply bD | refine below_set ?_ (IsS65.ge HI101.out)) | exact HB.out)); rintro e w11 ⟨rfl, hi, hb, hk⟩; refine ⟨_, rfl, ?_⟩; have n0_ := Aside0.mk (Kd.N_mono (Kd.N_keep (Kd.N_mono (ok := fun k_ => k_ ≠ gb101) Q152 (fun k_ hk_ => (⟨hk_, hk_⟩ : _ ∧ k_ ≠ gb101))) hk (fun _ h => h.2)) (fun _ h => h.1)); have n1_ := Aside0.mk (hb); have n2_ := Aside0.mk (hi); clear HO104 HB HI101; have HO104 := n0_; have HB := n1_; have HI101 := n2_; clear n0_ n1_ n2_; (try clear hb); (try clear hb2); (try clear hk); (try clear hi)) | ((with_reducible refine gate_callee (f := 36) rfl ?_); refine gL (some 19) Tryd.func36 #[.pointer (some ⟨gb101, 0, none⟩), .string t107, .string (⟨#[97, 32, 49, 48, 110, 105, 102, 10]⟩ : ByteArray)] ?_; (with_reducible refine (spec_l1Cur_spoilt.calls gb101 l0 t110 t111 t107 (⟨#[97, 32, 49, 48, 110, 105, 102, 10]⟩ : ByteArray) t112 t113 t114 w _ ?side1 ?side2 A6.out).mono ?_); (case side1 => repeat (first | (with_reducible first | exact HI101.out | apply IsS65.alloc | apply IsS65.drewN | apply IsS65.drew | apply IsS65.set_1 | apply IsS65.set_2) | exact HI101.out)); (case side2 => repeat (first | (with_reducible first | exact HB.out | apply bA | apply bN | apply bD | refine below_set ?_ (IsS65.ge HI101.out)) | exact HB.out)); rintro e w12 ⟨rfl, hi, hb, hk⟩; refine ⟨_, rfl, ?_⟩; have n0_ := Aside0.mk (Kd.N_mono (Kd.N_keep (Kd.N_mono (ok := fun k_ => k_ ≠ gb101) Q152 (fun k_ hk_ => (⟨hk_, hk_⟩ : _ ∧ k_ ≠ gb101))) hk (fun _ h => h.2)) (fun _ h => h.1)); have n1_ := Aside0.mk (hb); have n2_ := Aside0.mk (hi); clear HO104 HB HI101; have HO104 := n0_; have HB := n1_; have HI101 := n2_; clear n0_ n1_ n2_; (try clear hb); (try clear hb2); (try clear hk); (try clear hi)))
  go_ret; (exact Q153)
 ·replace c5 := Bool.eq_false_iff.mpr c5
  subst c5; (rw [if_neg (show ¬ (false = true) by decide)] at H); (obtain rfl := Option.some.inj H); (go_enter Tryd.func13, Tryd.ntmps13); (go_wp2_with (first | ((with_reducible refine gate_dst (N := 8) rfl ?_); refine box_event ?hg (N := 8) ?hd (cs := #[.slice A0 l0.length c0, .int .i64 0, .int .u64 0]) (t := 65) ?hr ?_; (case hd => rfl); (case hg => rfl); (case hr => first | (go_simp; done) | (go_simp; rfl)); intro gb101 hg w13 hbox hb; have hB_ := bz Q31 hb; have n0_ := Aside0.mk (below_step hB_ hb); have n1_ := Aside0.mk ((⟨_, _, hbox, (Q147 : w.heap.size ≤ gb101), HR0.out⟩ : IsS65 w w13 gb101 l0 0 0)); clear HB; have HB := n0_; have HI101 := n1_; clear n0_ n1_ hB_ hb hbox hg) | ((with_reducible refine gate_callee (f := 34) rfl ?_); refine gL (some 11) Tryd.func34 #[.pointer (some ⟨gb101, 0, none⟩)] ?_; (with_reducible refine (spec_l1Cur_form.calls k gb101 l0 0 0 t102 t105 t106 w _ ?side1 ?side2 A2.out).mono ?_); (case side1 => repeat (first | (with_reducible first | exact HI101.out | apply IsS65.alloc | apply IsS65.drewN | apply IsS65.drew | apply IsS65.set_1 | apply IsS65.set_2) | exact HI101.out)); (case side2 => repeat (first | (with_reducible first | exact HB.out | apply bA | apply bN | apply bD | refine below_set ?_ (IsS65.ge HI101.out)) | exact HB.out)); rintro e w14 ⟨v103, rfl, ho0, hi, hb, hk⟩; refine ⟨_, rfl, ?_⟩; have n0_ := Aside0.mk (Kd.N_lower (Kd.N_mono (ok' := fun k_ => k_ ≠ gb101) ho0 (fun k_ hk_ => (IsS65.fresh Q148 k_ hk_))) (below_size Q149)); have n1_ := Aside0.mk (hb); have n2_ := Aside0.mk (hi); clear HB HI101; have HO104 := n0_; have HB := n1_; have HI101 := n2_; clear n0_ n1_ n2_; (try clear hb); (try clear hb2); (try clear hk); (try clear hi); (try clear ho0); obtain ⟨Ao15, co15, eo15⟩ := Kd.N_slice HO104.out; subst eo15) | ((with_reducible refine gate_callee (f := 32) rfl ?_); refine gL (some 12) Tryd.func32 #[.slice Ao15 t102.length co15] ?_; (with_reducible refine (spec_l23Lines.calls k _ _ t102 t107 t108 _ ?side1 ?side2 A3.out).mono ?_); (case side1 => repeat (first | exact Q150 | (with_reducible first | refine cA ?_ _ | refine cN ?_ _ | refine cD ?_))); (case side2 => exact Q151); rintro e w16 ⟨rfl, hb⟩; refine ⟨_, rfl, ?_⟩; have n0_ := Aside0.mk (Kd.N_below Q152 hb); have n1_ := Aside0.mk (IsS65.below Q148 hb); have n2_ := Aside0.mk (below_step Q149 hb); clear HO104 HI101 HB; have HO104 := n0_; have HI101 := n1_; have HB := n2_; clear n0_ n1_ n2_; (try clear hb); (try clear hb2); (try clear hk); (try clear hi)) | ((with_reducible refine gate_callee (f := 35) rfl ?_); refine gL (some 16) Tryd.func35 #[.pointer (some ⟨gb101, 0, none⟩), .int .i64 3] ?_; (with_reducible refine (spec_l1Cur_one.calls gb101 l0 t105 t106 3 false t110 t111 w _ ?side1 ?side2 A4.out).mono ?_); (case side1 => repeat (first | (with_reducible first | exact HI101.out | apply IsS65.alloc | apply IsS65.drewN | apply IsS65.drew | apply IsS65.set_1 | apply IsS65.set_2) | exact HI101.out)); (case side2 => repeat (first | (with_reducible first | exact HB.out | apply bA | apply bN | apply bD | refine below_set ?_ (IsS65.ge HI101.out)) | exact HB.out)); rintro e w17 ⟨rfl, hi, hb, hk⟩; refine ⟨_, rfl, ?_⟩; have n0_ := Aside0.mk (Kd.N_mono (Kd.N_keep (Kd.N_mono (ok := fun k_ => k_ ≠ gb101) Q152 (fun k_ hk_ => (⟨hk_, hk_⟩ : _ ∧ k_ ≠ gb101))) hk (fun _ h => h.2)) (fun _ h => h.1)); have n1_ := Aside0.mk (hb); have n2_ := Aside0.mk (hi); clear HO104 HB HI101; have HO104 := n0_; have HB := n1_; have HI101 := n2_; clear n0_ n1_ n2_; (try clear hb); (try clear hb2); (try clear hk); (try clear hi)))); go_ret; (exact Q153)
/-! ### laws_vBig: function 5 -/
def laws_vBig.f (l0 : List Int) : Option (Bool) := some (decide ((l0.length : Int) > 65536))
set_option maxHeartbeats 8000000 in
set_option maxRecDepth 100000 in
theorem laws_vBig.calls (A0 : Option Addr) (c0 : Nat) (l0 : List Int) (r : Bool) (w : World) (hr0 : Kd.C (Kd.int .u8) w A0 l0.length l0) (hc0 : l0.length ≤ c0) (h : laws_vBig.f l0 = some r) :
  Calls Tryd.prog 5 #[.slice A0 l0.length c0] w fun e w' => e = .returned (.bool r) ∧ Drawn0 w w' := by
 (have HR0 := Aside0.mk hr0); (have HC0 := Aside0.mk hc0); clear hr0 hc0; (unfold laws_vBig.f at h); (have H := h); clear h; (obtain rfl := Option.some.inj H); (go_enter Tryd.func5, Tryd.ntmps5); (go_wp2); go_ret; (exact Q1)
/-! ### spec_DrawIsValidForm: function 25 -/
def spec_DrawIsValidForm.f (k : Nat) (l0 : List Int) : Option ((List (S54))) := (spec_l1Cur_form.f k l0 0 0).bind fun bt102 => (some bt102.1)
set_option maxHeartbeats 8000000 in
set_option maxRecDepth 100000 in
theorem spec_DrawIsValidForm.calls (k : Nat) (A0 : Option Addr) (c0 : Nat) (l0 : List Int) (r : List (S54)) (w : World) (hr0 : Kd.C (Kd.int .u8) w A0 l0.length l0) (hc0 : l0.length ≤ c0) (h : spec_DrawIsValidForm.f k l0 = some r) :
  Calls Tryd.prog 25 #[.slice A0 l0.length c0] w fun e w' => ∃ v0_ : Value, e = .returned (v0_) ∧ Kd.N k54 54 w' w.heap.size (fun k_ => (w.heap.size ≤ k_)) v0_ r ∧ Below w.heap.size w w' := by
 (have hu65 := Tryd.underlying65); (have HR0 := Aside0.mk hr0); (have HC0 := Aside0.mk hc0); clear hr0 hc0; (have HB := Aside0.mk (Below.refl w.heap.size w)); (unfold spec_DrawIsValidForm.f at h); (have H := h); clear h; (replace H := obS H); (obtain ⟨⟨t102, t105, t106⟩, A2, H⟩ := H); (replace H : (some t102) = some r := H); (obtain rfl := Option.some.inj H); (go_enter Tryd.func25, Tryd.ntmps25); (go_wp2_with (first | ((with_reducible refine gate_dst (N := 6) rfl ?_); refine box_event ?hg (N := 6) ?hd (cs := #[.slice A0 l0.length c0, .int .i64 0, .int .u64 0]) (t := 65) ?hr ?_; (case hd => rfl); (case hg => rfl); (case hr => first | (go_simp; done) | (go_simp; rfl)); intro gb101 hg w3 hbox hb; have hB_ := zI hb HB; have n0_ := Aside0.mk (below_step hB_ hb); have n1_ := Aside0.mk ((⟨_, _, hbox, (Q147 : w.heap.size ≤ gb101), HR0.out⟩ : IsS65 w w3 gb101 l0 0 0)); clear HB; have HB := n0_; have HI101 := n1_; clear n0_ n1_ hB_ hb hbox hg) | ((with_reducible refine gate_callee (f := 34) rfl ?_); refine gL (some 8) Tryd.func34 #[.pointer (some ⟨gb101, 0, none⟩)] ?_; (with_reducible refine (spec_l1Cur_form.calls k gb101 l0 0 0 t102 t105 t106 w _ ?side1 ?side2 A2.out).mono ?_); (case side1 => repeat (first | (with_reducible first | exact HI101.out | apply IsS65.alloc | apply IsS65.drewN | apply IsS65.drew | apply IsS65.set_1 | apply IsS65.set_2) | exact HI101.out)); (case side2 => repeat (first | (with_reducible first | exact HB.out | apply bA | apply bN | apply bD | refine below_set ?_ (IsS65.ge HI101.out)) | exact HB.out)); rintro e w4 ⟨v103, rfl, ho0, hi, hb, hk⟩; refine ⟨_, rfl, ?_⟩; have n0_ := Aside0.mk (Kd.N_lower (Kd.N_mono (ok' := fun k_ => (w.heap.size ≤ k_) ∧ k_ ≠ gb101) ho0 (fun k_ hk_ => ⟨(Nat.le_trans (below_size Q149) hk_), (IsS65.fresh Q148 k_ hk_)⟩)) (below_size Q149)); have n1_ := Aside0.mk (hb); have n2_ := Aside0.mk (hi); clear HB HI101; have HO104 := n0_; have HB := n1_; have HI101 := n2_; clear n0_ n1_ n2_; (try clear hb); (try clear hb2); (try clear hk); (try clear hi); (try clear ho0)))); go_ret; (exact ⟨_, Q97, by (with_reducible repeat (first | apply Kd.N_alloc | apply Kd.N_drewN | apply Kd.N_drew)); exact Kd.N_mono HO104.out (fun _ hk => hk.1), Q149⟩)
/-! ### spec_DrawFormatForm: function 6 -/
def spec_DrawFormatForm.f (k : Nat) (l0 : List Int) : Option ((List (S54))) := (spec_DrawIsValidForm.f k l0).bind fun t101 => (some t101)
set_option maxHeartbeats 8000000 in
set_option maxRecDepth 100000 in
theorem spec_DrawFormatForm.calls (k : Nat) (A0 : Option Addr) (c0 : Nat) (l0 : List Int) (r : List (S54)) (w : World) (hr0 : Kd.C (Kd.int .u8) w A0 l0.length l0) (hc0 : l0.length ≤ c0) (h : spec_DrawFormatForm.f k l0 = some r) :
  Calls Tryd.prog 6 #[.slice A0 l0.length c0] w fun e w' => ∃ v0_ : Value, e = .returned (v0_) ∧ Kd.N k54 54 w' w.heap.size (fun k_ => (w.heap.size ≤ k_)) v0_ r ∧ Below w.heap.size w w' := by
 (have HR0 := Aside0.mk hr0); (have HC0 := Aside0.mk hc0); clear hr0 hc0; (have HB := Aside0.mk (Below.refl w.heap.size w)); (unfold spec_DrawFormatForm.f at h); (have H := h); clear h; (replace H := obS H); (obtain ⟨t101, A2, H⟩ := H); (obtain rfl := Option.some.inj H); (go_enter Tryd.func6, Tryd.ntmps6); (go_wp2_with (first | ((with_reducible refine gate_callee (f := 25) rfl ?_); refine gL (some 4) Tryd.func25 #[.slice A0 l0.length c0] ?_; (with_reducible refine (spec_DrawIsValidForm.calls k _ _ l0 t101 _ ?side1 ?side2 A2.out).mono ?_); (case side1 => exact cI HR0.out); (case side2 => exact HC0.out); rintro e w3 ⟨v102, rfl, ho0, hb⟩; refine ⟨_, rfl, ?_⟩; have n0_ := Aside0.mk (Kd.N_lower (Kd.N_mono (ok' := fun k_ => (w.heap.size ≤ k_)) ho0 (fun k_ hk_ => (Nat.le_trans (below_size (eI HB)) hk_))) (below_size (eI HB))); have n1_ := Aside0.mk (sI hb HB); clear HB; have HO103 := n0_; have HB := n1_; clear n0_ n1_; (try clear hb); (try clear hb2); (try clear hk); (try clear hi); (try clear ho0)))); go_ret; (exact ⟨_, Q97, by (with_reducible repeat (first | apply Kd.N_alloc | apply Kd.N_drewN | apply Kd.N_drew)); exact HO103.out, eI HB⟩)
end Go.Proofs.YtiaiohoadefgjaaDoor.X
namespace Go.Proofs
open Go.Shelf
def Tryd.lays156_ren : Go.Shelf.Ren := ⟨fun | 156 => 53 | 165 => 74 | 166 => 75 | 169 => 76 | 240 => 88 | 241 => 89 | 276 => 101 | 277 => 102 | n => n, fun | 31 => 42 | 9 => 9 | 3 => 3 | 4 => 4 | 0 => 0 | 20 => 20 | 72 => 97 | 76 => 101 | 70 => 95 | 37 => 22 | 75 => 100 | 127 => 109 | 164 => 121 | 5 => 5 | 80 => 103 | n => n, fun | n => n⟩
theorem Tryd.lays156 : Go.Proofs.Lays.n156 Tryd.prog Tryd.lays156_ren := {
 mixed := by kernel_rfl
 f156 := Tryd.func53.trans (congrArg some (by kernel_rfl))
 f165 := Tryd.func74.trans (congrArg some (by kernel_rfl))
 f166 := Tryd.func75.trans (congrArg some (by kernel_rfl))
 f169 := Tryd.func76.trans (congrArg some (by kernel_rfl))
 f240 := Tryd.func88.trans (congrArg some (by kernel_rfl))
 f241 := Tryd.func89.trans (congrArg some (by kernel_rfl))
 f276 := Tryd.func101.trans (congrArg some (by kernel_rfl))
 f277 := Tryd.func102.trans (congrArg some (by kernel_rfl))
 t0 := Tryd.underlying0
 a0 := Tryd.isAgg0
 z0 := Tryd.sizeOf0
 v0 := Tryd.zeroValue0
 t3 := Tryd.underlying3
 a3 := Tryd.isAgg3
 z3 := Tryd.sizeOf3
 v3 := Tryd.zeroValue3
 t4 := Tryd.underlying4
 a4 := Tryd.isAgg4
 z4 := Tryd.sizeOf4
 v4 := Tryd.zeroValue4
 t9 := Tryd.underlying9
 a9 := Tryd.isAgg9
 z9 := Tryd.sizeOf9
 v9 := Tryd.zeroValue9
 t20 := Tryd.underlying20
 a20 := Tryd.isAgg20
 z20 := Tryd.sizeOf20
 v20 := Tryd.zeroValue20
 t31 := Tryd.underlying42
 a31 := Tryd.isAgg42
 z31 := Tryd.sizeOf42
 v31 := Tryd.zeroValue42
 t37 := Tryd.underlying22
 a37 := Tryd.isAgg22
 z37 := Tryd.sizeOf22
 v37 := Tryd.zeroValue22
 t70 := Tryd.underlying95
 a70 := Tryd.isAgg95
 z70 := Tryd.sizeOf95
 v70 := Tryd.zeroValue95
 t72 := Tryd.underlying97
 a72 := Tryd.isAgg97
 z72 := Tryd.sizeOf97
 v72 := Tryd.zeroValue97
 t75 := Tryd.underlying100
 a75 := Tryd.isAgg100
 z75 := Tryd.sizeOf100
 v75 := Tryd.zeroValue100
 t76 := Tryd.underlying101
 a76 := Tryd.isAgg101
 z76 := Tryd.sizeOf101
 v76 := Tryd.zeroValue101
 t127 := Tryd.underlying109
 a127 := Tryd.isAgg109
 z127 := Tryd.sizeOf109
 v127 := Tryd.zeroValue109
 t164 := Tryd.underlying121
 a164 := Tryd.isAgg121
 z164 := Tryd.sizeOf121
 v164 := Tryd.zeroValue121 }
theorem Tryd.Builder_Extra_156 : Builder.Extra Tryd.prog Tryd.lays156_ren := {
 sizeBuilder := by kernel_rfl
 liesBuilder := by kernel_rfl
 t5 := Tryd.underlying5
 a5 := Tryd.isAgg5
 z5 := Tryd.sizeOf5
 v5 := Tryd.zeroValue5
 infoByte := by kernel_rfl
 cellsByte := by kernel_rfl
 sizeByte := by kernel_rfl
 neB5 := by decide }
open Go.RowKit in
theorem Tryd.strings_Join_none (a : Option Addr) (c : Nat) (sep : ByteArray) (w : World) :
  Calls Tryd.prog 53 #[.slice a 0 c, .string sep] w fun e w' => e = .returned (.string ⟨#[]⟩) ∧ w' = w := Any.strings_Join_none Tryd.lays156 Tryd.Builder_Extra_156 a c sep w
open Go.RowKit in
theorem Tryd.strings_Join (bk o c : Nat) (xs : List ByteArray) (sep : ByteArray) (w : World) (hcells : ∀ (j : Nat) x, xs[j]? = some x → w.cell? ⟨bk, o + j, none⟩ = some (.string x)) (hbk : bk < w.heap.size) (hN : xs.length ≤ 140737488355328) (hcap : xs.length ≤ c) (hlen : (Lib.join (xs.map (·.data.toList)) sep.data.toList).length ≤ 140737488355328) :
  Calls Tryd.prog 53 #[.slice (some ⟨bk, o, none⟩) xs.length c, .string sep] w fun e w' => e = .returned (.string ⟨(Lib.join (xs.map (·.data.toList)) sep.data.toList).toArray⟩) ∧ Below w.heap.size w w' := Any.strings_Join Tryd.lays156 Tryd.Builder_Extra_156 bk o c xs sep w hcells hbk hN hcap hlen
def Tryd.laysM171_ren : Go.Shelf.Ren := ⟨fun | 171 => 52 | 243 => 73 | 246 => 87 | 283 => 97 | 284 => 98 | 285 => 99 | 286 => 100 | 129 => 114 | 317 => 113 | 318 => 115 | 319 => 116 | 320 => 117 | 337 => 123 | 338 => 124 | n => n, fun | 3 => 3 | 9 => 9 | 2 => 2 | 4 => 4 | 171 => 116 | 0 => 0 | 53 => 63 | 37 => 22 | 5 => 5 | 173 => 119 | 212 => 131 | 51 => 132 | 20 => 20 | 213 => 133 | 46 => 115 | 232 => 152 | 233 => 153 | n => n, fun | 17 => 1 | 18 => 6 | 19 => 7 | n => n⟩
theorem Tryd.laysM171 : Go.Proofs.LaysM.n171 Tryd.prog Tryd.laysM171_ren := {
 mixed := by kernel_rfl
 f129 := Tryd.func114.trans (congrArg some (by kernel_rfl))
 f171 := Tryd.func52.trans (congrArg some (by kernel_rfl))
 f243 := Tryd.func73.trans (congrArg some (by kernel_rfl))
 f246 := Tryd.func87.trans (congrArg some (by kernel_rfl))
 f283 := Tryd.func97.trans (congrArg some (by kernel_rfl))
 f284 := Tryd.func98.trans (congrArg some (by kernel_rfl))
 f285 := Tryd.func99.trans (congrArg some (by kernel_rfl))
 f286 := Tryd.func100.trans (congrArg some (by kernel_rfl))
 f317 := Tryd.func113.trans (congrArg some (by kernel_rfl))
 f318 := Tryd.func115.trans (congrArg some (by kernel_rfl))
 f319 := Tryd.func116.trans (congrArg some (by kernel_rfl))
 f320 := Tryd.func117.trans (congrArg some (by kernel_rfl))
 f337 := Tryd.func123.trans (congrArg some (by kernel_rfl))
 f338 := Tryd.func124.trans (congrArg some (by kernel_rfl))
 t0 := Tryd.underlying0
 a0 := Tryd.isAgg0
 z0 := Tryd.sizeOf0
 v0 := Tryd.zeroValue0
 t2 := Tryd.underlying2
 a2 := Tryd.isAgg2
 z2 := Tryd.sizeOf2
 v2 := Tryd.zeroValue2
 t3 := Tryd.underlying3
 a3 := Tryd.isAgg3
 z3 := Tryd.sizeOf3
 v3 := Tryd.zeroValue3
 t4 := Tryd.underlying4
 a4 := Tryd.isAgg4
 z4 := Tryd.sizeOf4
 v4 := Tryd.zeroValue4
 t5 := Tryd.underlying5
 a5 := Tryd.isAgg5
 z5 := Tryd.sizeOf5
 v5 := Tryd.zeroValue5
 t9 := Tryd.underlying9
 a9 := Tryd.isAgg9
 z9 := Tryd.sizeOf9
 v9 := Tryd.zeroValue9
 t20 := Tryd.underlying20
 a20 := Tryd.isAgg20
 z20 := Tryd.sizeOf20
 v20 := Tryd.zeroValue20
 t37 := Tryd.underlying22
 a37 := Tryd.isAgg22
 z37 := Tryd.sizeOf22
 v37 := Tryd.zeroValue22
 t46 := Tryd.underlying115
 a46 := Tryd.isAgg115
 z46 := Tryd.sizeOf115
 v46 := Tryd.zeroValue115
 t51 := Tryd.underlying132
 a51 := Tryd.isAgg132
 z51 := Tryd.sizeOf132
 v51 := Tryd.zeroValue132
 t53 := Tryd.underlying63
 a53 := Tryd.isAgg63
 z53 := Tryd.sizeOf63
 v53 := Tryd.zeroValue63
 t171 := Tryd.underlying116
 a171 := Tryd.isAgg116
 z171 := Tryd.sizeOf116
 v171 := Tryd.zeroValue116
 t173 := Tryd.underlying119
 a173 := Tryd.isAgg119
 z173 := Tryd.sizeOf119
 v173 := Tryd.zeroValue119
 t212 := Tryd.underlying131
 a212 := Tryd.isAgg131
 z212 := Tryd.sizeOf131
 v212 := Tryd.zeroValue131
 t213 := Tryd.underlying133
 a213 := Tryd.isAgg133
 z213 := Tryd.sizeOf133
 t232 := Tryd.underlying152
 a232 := Tryd.isAgg152
 z232 := Tryd.sizeOf152
 v232 := Tryd.zeroValue152
 t233 := Tryd.underlying153
 a233 := Tryd.isAgg153
 z233 := Tryd.sizeOf153
 v233 := Tryd.zeroValue153
 g17 := by kernel_rfl
 g18 := by kernel_rfl
 g19 := by kernel_rfl
 i0 := by kernel_rfl
 i2 := by kernel_rfl
 i3 := by kernel_rfl
 i4 := by kernel_rfl
 i5 := by kernel_rfl
 i9 := by kernel_rfl
 i20 := by kernel_rfl
 i37 := by kernel_rfl
 i46 := by kernel_rfl
 i51 := by kernel_rfl
 i53 := by kernel_rfl
 i171 := by kernel_rfl
 i173 := by kernel_rfl
 i212 := by kernel_rfl
 i232 := by kernel_rfl
 i233 := by kernel_rfl
 m17 := by kernel_rfl
 m18 := by kernel_rfl
 m19 := by kernel_rfl }
open Go.RowKit Go.Sort Go.Lib in
theorem Tryd.strconv_Itoa (n : Int) (h0 : -9223372036854775808 ≤ n) (h1 : n ≤ 9223372036854775807) (w : World) (htab : Lib.TabIs Tryd.prog w "internal/strconv.uint64pow10" .u64 Lib.pow10Tab) :
  Calls Tryd.prog 52 #[.int .i64 n] w fun e w' => e = .returned (.string ⟨(Lib.itoa n).toArray⟩) ∧ ∃ k os, w' = grow (w.drewN k) os := Any.strconv_Itoa Tryd.laysM171 n h0 h1 w htab
def Tryd.laysC172_ren : Go.Shelf.Ren := ⟨fun | 172 => 80 | 244 => 94 | 245 => 95 | 247 => 108 | 279 => 109 | 280 => 110 | 281 => 111 | 282 => 112 | 287 => 120 | 316 => 121 | 171 => 52 | 205 => 122 | 321 => 125 | 322 => 126 | 243 => 73 | 246 => 87 | 283 => 97 | 284 => 98 | 285 => 99 | 286 => 100 | 129 => 114 | 317 => 113 | 318 => 115 | 319 => 116 | 320 => 117 | 337 => 123 | 338 => 124 | n => n, fun | 9 => 9 | 3 => 3 | 75 => 100 | 76 => 101 | 4 => 4 | 5 => 5 | 167 => 124 | 37 => 22 | 0 => 0 | 85 => 125 | 2 => 2 | 168 => 127 | 53 => 63 | 175 => 141 | 46 => 115 | 210 => 145 | 127 => 109 | 145 => 151 | 143 => 149 | 21 => 21 | 171 => 116 | 173 => 119 | 212 => 131 | 51 => 132 | 20 => 20 | 213 => 133 | 232 => 152 | 233 => 153 | 80 => 103 | n => n, fun | 15 => 4 | 16 => 5 | 17 => 1 | 18 => 6 | 19 => 7 | n => n⟩
theorem Tryd.laysC172 : Go.Proofs.LaysC.n172 Tryd.prog Tryd.laysC172_ren := {
 mixed := by kernel_rfl
 f129 := Tryd.func114.trans (congrArg some (by kernel_rfl))
 f171 := Tryd.func52.trans (congrArg some (by kernel_rfl))
 f172 := Tryd.func80.trans (congrArg some (by kernel_rfl))
 f205 := Tryd.func122.trans (congrArg some (by kernel_rfl))
 f243 := Tryd.func73.trans (congrArg some (by kernel_rfl))
 f244 := Tryd.func94.trans (congrArg some (by kernel_rfl))
 f245 := Tryd.func95.trans (congrArg some (by kernel_rfl))
 f246 := Tryd.func87.trans (congrArg some (by kernel_rfl))
 f247 := Tryd.func108.trans (congrArg some (by kernel_rfl))
 f279 := Tryd.func109.trans (congrArg some (by kernel_rfl))
 f280 := Tryd.func110.trans (congrArg some (by kernel_rfl))
 f281 := Tryd.func111.trans (congrArg some (by kernel_rfl))
 f282 := Tryd.func112.trans (congrArg some (by kernel_rfl))
 f283 := Tryd.func97.trans (congrArg some (by kernel_rfl))
 f284 := Tryd.func98.trans (congrArg some (by kernel_rfl))
 f285 := Tryd.func99.trans (congrArg some (by kernel_rfl))
 f286 := Tryd.func100.trans (congrArg some (by kernel_rfl))
 f287 := Tryd.func120.trans (congrArg some (by kernel_rfl))
 f316 := Tryd.func121.trans (congrArg some (by kernel_rfl))
 f317 := Tryd.func113.trans (congrArg some (by kernel_rfl))
 f318 := Tryd.func115.trans (congrArg some (by kernel_rfl))
 f319 := Tryd.func116.trans (congrArg some (by kernel_rfl))
 f320 := Tryd.func117.trans (congrArg some (by kernel_rfl))
 f321 := Tryd.func125.trans (congrArg some (by kernel_rfl))
 f322 := Tryd.func126.trans (congrArg some (by kernel_rfl))
 f337 := Tryd.func123.trans (congrArg some (by kernel_rfl))
 f338 := Tryd.func124.trans (congrArg some (by kernel_rfl))
 t0 := Tryd.underlying0
 a0 := Tryd.isAgg0
 z0 := Tryd.sizeOf0
 v0 := Tryd.zeroValue0
 t2 := Tryd.underlying2
 a2 := Tryd.isAgg2
 z2 := Tryd.sizeOf2
 v2 := Tryd.zeroValue2
 t3 := Tryd.underlying3
 a3 := Tryd.isAgg3
 z3 := Tryd.sizeOf3
 v3 := Tryd.zeroValue3
 t4 := Tryd.underlying4
 a4 := Tryd.isAgg4
 z4 := Tryd.sizeOf4
 v4 := Tryd.zeroValue4
 t5 := Tryd.underlying5
 a5 := Tryd.isAgg5
 z5 := Tryd.sizeOf5
 v5 := Tryd.zeroValue5
 t9 := Tryd.underlying9
 a9 := Tryd.isAgg9
 z9 := Tryd.sizeOf9
 v9 := Tryd.zeroValue9
 t20 := Tryd.underlying20
 a20 := Tryd.isAgg20
 z20 := Tryd.sizeOf20
 v20 := Tryd.zeroValue20
 t21 := Tryd.underlying21
 a21 := Tryd.isAgg21
 z21 := Tryd.sizeOf21
 v21 := Tryd.zeroValue21
 t37 := Tryd.underlying22
 a37 := Tryd.isAgg22
 z37 := Tryd.sizeOf22
 v37 := Tryd.zeroValue22
 t46 := Tryd.underlying115
 a46 := Tryd.isAgg115
 z46 := Tryd.sizeOf115
 v46 := Tryd.zeroValue115
 t51 := Tryd.underlying132
 a51 := Tryd.isAgg132
 z51 := Tryd.sizeOf132
 v51 := Tryd.zeroValue132
 t53 := Tryd.underlying63
 a53 := Tryd.isAgg63
 z53 := Tryd.sizeOf63
 v53 := Tryd.zeroValue63
 t75 := Tryd.underlying100
 a75 := Tryd.isAgg100
 z75 := Tryd.sizeOf100
 v75 := Tryd.zeroValue100
 t76 := Tryd.underlying101
 a76 := Tryd.isAgg101
 z76 := Tryd.sizeOf101
 v76 := Tryd.zeroValue101
 t85 := Tryd.underlying125
 a85 := Tryd.isAgg125
 z85 := Tryd.sizeOf125
 v85 := Tryd.zeroValue125
 t127 := Tryd.underlying109
 a127 := Tryd.isAgg109
 z127 := Tryd.sizeOf109
 v127 := Tryd.zeroValue109
 t143 := Tryd.underlying149
 a143 := Tryd.isAgg149
 z143 := Tryd.sizeOf149
 v143 := Tryd.zeroValue149
 t145 := Tryd.underlying151
 a145 := Tryd.isAgg151
 z145 := Tryd.sizeOf151
 v145 := Tryd.zeroValue151
 t167 := Tryd.underlying124
 a167 := Tryd.isAgg124
 z167 := Tryd.sizeOf124
 v167 := Tryd.zeroValue124
 t168 := Tryd.underlying127
 a168 := Tryd.isAgg127
 z168 := Tryd.sizeOf127
 v168 := Tryd.zeroValue127
 t171 := Tryd.underlying116
 a171 := Tryd.isAgg116
 z171 := Tryd.sizeOf116
 v171 := Tryd.zeroValue116
 t173 := Tryd.underlying119
 a173 := Tryd.isAgg119
 z173 := Tryd.sizeOf119
 v173 := Tryd.zeroValue119
 t175 := Tryd.underlying141
 a175 := Tryd.isAgg141
 z175 := Tryd.sizeOf141
 v175 := Tryd.zeroValue141
 t210 := Tryd.underlying145
 a210 := Tryd.isAgg145
 z210 := Tryd.sizeOf145
 v210 := Tryd.zeroValue145
 t212 := Tryd.underlying131
 a212 := Tryd.isAgg131
 z212 := Tryd.sizeOf131
 v212 := Tryd.zeroValue131
 t213 := Tryd.underlying133
 a213 := Tryd.isAgg133
 z213 := Tryd.sizeOf133
 t232 := Tryd.underlying152
 a232 := Tryd.isAgg152
 z232 := Tryd.sizeOf152
 v232 := Tryd.zeroValue152
 t233 := Tryd.underlying153
 a233 := Tryd.isAgg153
 z233 := Tryd.sizeOf153
 v233 := Tryd.zeroValue153
 g15 := by kernel_rfl
 g16 := by kernel_rfl
 g17 := by kernel_rfl
 g18 := by kernel_rfl
 g19 := by kernel_rfl
 t80 := Tryd.underlying103
 a80 := Tryd.isAgg103
 z80 := Tryd.sizeOf103
 v80 := Tryd.zeroValue103
 i0 := by kernel_rfl
 i2 := by kernel_rfl
 i3 := by kernel_rfl
 i4 := by kernel_rfl
 i5 := by kernel_rfl
 i9 := by kernel_rfl
 i20 := by kernel_rfl
 i21 := by kernel_rfl
 i37 := by kernel_rfl
 i46 := by kernel_rfl
 i51 := by kernel_rfl
 i53 := by kernel_rfl
 i75 := by kernel_rfl
 i76 := by kernel_rfl
 i80 := by kernel_rfl
 i85 := by kernel_rfl
 i127 := by kernel_rfl
 i143 := by kernel_rfl
 i145 := by kernel_rfl
 i167 := by kernel_rfl
 i168 := by kernel_rfl
 i171 := by kernel_rfl
 i173 := by kernel_rfl
 i175 := by kernel_rfl
 i210 := by kernel_rfl
 i212 := by kernel_rfl
 i232 := by kernel_rfl
 i233 := by kernel_rfl
 m15 := by kernel_rfl
 m16 := by kernel_rfl
 m17 := by kernel_rfl
 m18 := by kernel_rfl
 m19 := by kernel_rfl
 c0 := by kernel_rfl
 c2 := by kernel_rfl
 c3 := by kernel_rfl
 c4 := by kernel_rfl
 c5 := by kernel_rfl
 c9 := by kernel_rfl
 c20 := by kernel_rfl
 c21 := by kernel_rfl
 c37 := by kernel_rfl
 c46 := by kernel_rfl
 c51 := by kernel_rfl
 c53 := by kernel_rfl
 c75 := by kernel_rfl
 c76 := by kernel_rfl
 c80 := by kernel_rfl
 c85 := by kernel_rfl
 c127 := by kernel_rfl
 c143 := by kernel_rfl
 c145 := by kernel_rfl
 c167 := by kernel_rfl
 c168 := by kernel_rfl
 c171 := by kernel_rfl
 c173 := by kernel_rfl
 c175 := by kernel_rfl
 c210 := by kernel_rfl
 c212 := by kernel_rfl
 c213 := by kernel_rfl
 c232 := by kernel_rfl
 c233 := by kernel_rfl }
open Go.RowKit in
theorem Tryd.strconv_Atoi_ok (s : ByteArray) (hmax : s.size ≤ 9223372036854775806) (v : Int) (h : Lib.atoiAll s.data.toList = .ok v) (w : World) :
  Calls Tryd.prog 80 #[.string s] w fun e w' => e = .returned (.tuple #[.int .i64 v, .nilIface]) ∧ (w' = w ∨ ∃ t, w' = Lib.bytesWorld w 5 t) := Any.strconv_Atoi_ok Tryd.laysC172 s hmax v h w
open Go.RowKit in
theorem Tryd.strconv_Atoi_range (s : ByteArray) (hlim : s.size ≤ 281474976710656) (h : Lib.atoiAll s.data.toList = .range) (ev : Value) (w : World) (hv : w.cell? ⟨5, 0, none⟩ = some ev) (hev : ev = .nilIface ∨ ∃ te pe, ev = .iface te pe) :
  Calls Tryd.prog 80 #[.string s] w fun e w' => ∃ N, e = .returned (.tuple #[.int .i64 (Lib.atoiSat s.data.toList), .iface 127 (.pointer (some ⟨N, 0, none⟩))]) ∧ w.heap.size ≤ N ∧ w'.heap[N]? = some (.cells #[.string ⟨#[65, 116, 111, 105]⟩, .string s, ev] 145 (0, 0)) ∧ Below w.heap.size w w' := Any.strconv_Atoi_range Tryd.laysC172 s hlim h ev w hv hev
def Tryd.laysM143_ren : Go.Shelf.Ren := ⟨fun | 143 => 79 | 219 => 93 | 217 => 104 | 225 => 105 | 224 => 106 | 267 => 107 | 266 => 118 | 314 => 119 | n => n, fun | 9 => 9 | 3 => 3 | 4 => 4 | 5 => 5 | 46 => 115 | 146 => 139 | 51 => 132 | n => n, fun | 1 => 0 | n => n⟩
theorem Tryd.laysM143 : Go.Proofs.LaysM.n143 Tryd.prog Tryd.laysM143_ren := {
 mixed := by kernel_rfl
 f143 := Tryd.func79.trans (congrArg some (by kernel_rfl))
 f217 := Tryd.func104.trans (congrArg some (by kernel_rfl))
 f219 := Tryd.func93.trans (congrArg some (by kernel_rfl))
 f224 := Tryd.func106.trans (congrArg some (by kernel_rfl))
 f225 := Tryd.func105.trans (congrArg some (by kernel_rfl))
 f266 := Tryd.func118.trans (congrArg some (by kernel_rfl))
 f267 := Tryd.func107.trans (congrArg some (by kernel_rfl))
 f314 := Tryd.func119.trans (congrArg some (by kernel_rfl))
 t3 := Tryd.underlying3
 a3 := Tryd.isAgg3
 z3 := Tryd.sizeOf3
 v3 := Tryd.zeroValue3
 t4 := Tryd.underlying4
 a4 := Tryd.isAgg4
 z4 := Tryd.sizeOf4
 v4 := Tryd.zeroValue4
 t5 := Tryd.underlying5
 a5 := Tryd.isAgg5
 z5 := Tryd.sizeOf5
 v5 := Tryd.zeroValue5
 t9 := Tryd.underlying9
 a9 := Tryd.isAgg9
 z9 := Tryd.sizeOf9
 v9 := Tryd.zeroValue9
 t46 := Tryd.underlying115
 a46 := Tryd.isAgg115
 z46 := Tryd.sizeOf115
 v46 := Tryd.zeroValue115
 t51 := Tryd.underlying132
 a51 := Tryd.isAgg132
 z51 := Tryd.sizeOf132
 v51 := Tryd.zeroValue132
 t146 := Tryd.underlying139
 a146 := Tryd.isAgg139
 z146 := Tryd.sizeOf139
 v146 := Tryd.zeroValue139
 g1 := by kernel_rfl
 i3 := by kernel_rfl
 i4 := by kernel_rfl
 i5 := by kernel_rfl
 i9 := by kernel_rfl
 i46 := by kernel_rfl
 i51 := by kernel_rfl
 i146 := by kernel_rfl
 m1 := by kernel_rfl
 s1_3 := fun w h => Go.Proofs.cell_of_shapedOpen_int (zero := #[.int .i64 0]) (t := 3) h (of_decide_eq_true (by kernel_rfl)) (by kernel_rfl) rfl (by kernel_rfl) (by kernel_rfl) Tryd.underlying3 }
def Tryd.lays146_ren : Go.Shelf.Ren := ⟨fun | 146 => 29 | 221 => 54 | 268 => 77 | 138 => 78 | 143 => 79 | 195 => 90 | 197 => 91 | 218 => 92 | 219 => 93 | 260 => 103 | 217 => 104 | 225 => 105 | 224 => 106 | 267 => 107 | 266 => 118 | 314 => 119 | n => n, fun | 9 => 9 | 31 => 42 | 3 => 3 | 4 => 4 | 0 => 0 | 105 => 111 | 21 => 21 | 5 => 5 | 46 => 115 | 119 => 135 | 139 => 138 | 138 => 137 | 146 => 139 | 51 => 132 | n => n, fun | 1 => 0 | 3 => 2 | 4 => 3 | n => n⟩
theorem Tryd.lays146 : Go.Proofs.Lays.n146 Tryd.prog Tryd.lays146_ren := {
 mixed := by kernel_rfl
 f138 := Tryd.func78.trans (congrArg some (by kernel_rfl))
 f143 := Tryd.func79.trans (congrArg some (by kernel_rfl))
 f146 := Tryd.func29.trans (congrArg some (by kernel_rfl))
 f195 := Tryd.func90.trans (congrArg some (by kernel_rfl))
 f197 := Tryd.func91.trans (congrArg some (by kernel_rfl))
 f217 := Tryd.func104.trans (congrArg some (by kernel_rfl))
 f218 := Tryd.func92.trans (congrArg some (by kernel_rfl))
 f219 := Tryd.func93.trans (congrArg some (by kernel_rfl))
 f221 := Tryd.func54.trans (congrArg some (by kernel_rfl))
 f224 := Tryd.func106.trans (congrArg some (by kernel_rfl))
 f225 := Tryd.func105.trans (congrArg some (by kernel_rfl))
 f260 := Tryd.func103.trans (congrArg some (by kernel_rfl))
 f266 := Tryd.func118.trans (congrArg some (by kernel_rfl))
 f267 := Tryd.func107.trans (congrArg some (by kernel_rfl))
 f268 := Tryd.func77.trans (congrArg some (by kernel_rfl))
 f314 := Tryd.func119.trans (congrArg some (by kernel_rfl))
 t0 := Tryd.underlying0
 a0 := Tryd.isAgg0
 z0 := Tryd.sizeOf0
 v0 := Tryd.zeroValue0
 t3 := Tryd.underlying3
 a3 := Tryd.isAgg3
 z3 := Tryd.sizeOf3
 v3 := Tryd.zeroValue3
 t4 := Tryd.underlying4
 a4 := Tryd.isAgg4
 z4 := Tryd.sizeOf4
 v4 := Tryd.zeroValue4
 t5 := Tryd.underlying5
 a5 := Tryd.isAgg5
 z5 := Tryd.sizeOf5
 v5 := Tryd.zeroValue5
 t9 := Tryd.underlying9
 a9 := Tryd.isAgg9
 z9 := Tryd.sizeOf9
 v9 := Tryd.zeroValue9
 t21 := Tryd.underlying21
 a21 := Tryd.isAgg21
 z21 := Tryd.sizeOf21
 v21 := Tryd.zeroValue21
 t31 := Tryd.underlying42
 a31 := Tryd.isAgg42
 z31 := Tryd.sizeOf42
 v31 := Tryd.zeroValue42
 t46 := Tryd.underlying115
 a46 := Tryd.isAgg115
 z46 := Tryd.sizeOf115
 v46 := Tryd.zeroValue115
 t51 := Tryd.underlying132
 a51 := Tryd.isAgg132
 z51 := Tryd.sizeOf132
 v51 := Tryd.zeroValue132
 t105 := Tryd.underlying111
 a105 := Tryd.isAgg111
 z105 := Tryd.sizeOf111
 v105 := Tryd.zeroValue111
 t119 := Tryd.underlying135
 a119 := Tryd.isAgg135
 z119 := Tryd.sizeOf135
 t138 := Tryd.underlying137
 a138 := Tryd.isAgg137
 z138 := Tryd.sizeOf137
 v138 := Tryd.zeroValue137
 t139 := Tryd.underlying138
 a139 := Tryd.isAgg138
 z139 := Tryd.sizeOf138
 v139 := Tryd.zeroValue138
 t146 := Tryd.underlying139
 a146 := Tryd.isAgg139
 z146 := Tryd.sizeOf139
 v146 := Tryd.zeroValue139
 g1 := by kernel_rfl
 g3 := by kernel_rfl
 g4 := by kernel_rfl }
open Go.RowKit Go.Lib in
theorem Tryd.strings_Split (s sep : ByteArray) (m : Int) (w : World) (hs : s.size < 4294967281) (hm : w.cell? ⟨0, 0, none⟩ = some (.int .i64 m)) (h1 : 1 ≤ sep.size) :
  Calls Tryd.prog 29 #[.string s, .string sep] w fun e w' =>
   e = .returned (.slice (some ⟨w.heap.size, 0, none⟩) (Lib.countB s sep + 1) (Lib.countB s sep + 1)) ∧ w' = w.alloc (.cells ((Lib.splitB sep 0 (Lib.countB s sep) s).map Value.string).toArray 9) := Any.strings_Split Tryd.lays146 (by kernel_rfl) s sep m w hs hm h1
end Go.Proofs
namespace Go.Proofs.YtiaiohoadefgjaaDoor.X
open Go.RowKit Go.Proofs.YtiaiohoadefgjaaDoorW.PrintWords Go.Proofs.YtiaiohoadefgjaaDoorW.PrintLast Go.Proofs.YtiaiohoadefgjaaDoorW.PrintMore Go.Proofs.YtiaiohoadefgjaaDoor.E
attribute [local go_sem] max2_int min2_int max_two min_two max_three min_three max_four min_four
set_option linter.unusedVariables false
set_option linter.unusedSimpArgs false
attribute [-simp] ByteArray.size_append ByteArray.size_extract
attribute [-go_sem] ByteArray.size_append'
/-! ### strconv_Itoa: function 52 -/
def strconv_Itoa.f (a0 : Int) : Option ByteArray := if -9223372036854775808 ≤ a0 ∧ a0 ≤ 9223372036854775807 then some ⟨(Lib.itoa a0).toArray⟩ else none
theorem strconv_Itoa.calls (a0 : Int) (r : ByteArray) (w : World) (hG : GT w) (h : strconv_Itoa.f a0 = some r) :
  Calls Tryd.prog 52 #[.int .i64 a0] w fun e w' => e = .returned (.string r) ∧ Below w.heap.size w w' := by
 (unfold strconv_Itoa.f at h); (split at h); (· (rename_i hc); (cases h); (refine (Tryd.strconv_Itoa a0 hc.1 hc.2 w hG).mono ?_); (rintro e w' ⟨rfl, k, os, rfl⟩); (exact ⟨rfl, Lib.below_grow _ _ (Nat.le_refl _) _ _⟩)); (· (cases h))
/-! ### strings_Join: function 53 -/
def strings_Join.f (l0 : List ByteArray) (a1 : ByteArray) : Option ByteArray := if (Lib.join (l0.map (·.data.toList)) a1.data.toList).length ≤ 140737488355328 ∧ l0.length ≤ 140737488355328 then some ⟨(Lib.join (l0.map (·.data.toList)) a1.data.toList).toArray⟩ else none
theorem strings_Join.calls (A0 : Option Addr) (c0 : Nat) (l0 : List ByteArray) (a1 : ByteArray) (r : ByteArray) (w : World) (hr0 : Kd.C Kd.string w A0 l0.length l0) (hc0 : l0.length ≤ c0) (h : strings_Join.f l0 a1 = some r) :
  Calls Tryd.prog 53 #[.slice A0 l0.length c0, .string a1] w fun e w' => e = .returned (.string r) ∧ Below w.heap.size w w' := by
 (unfold strings_Join.f at h); (split at h)
 case isFalse => cases h
 (rename_i hb); (obtain rfl := Option.some.inj h)
 cases l0 with
 | nil => exact (Tryd.strings_Join_none A0 c0 a1 w).mono fun e w' ⟨he, hw⟩ => ⟨he, hw ▸ Below.refl _ _⟩
 | cons x l =>
  obtain ⟨ad, rfl, hx⟩ := Kd.at_string hr0 (0 : Int) (Int.le_refl _) (by rw [List.length_cons]; omega)
  have hsp : ∃ b o, ad = ⟨b, o, none⟩ := by
   (rw [show ((0 : Int)).toNat = 0 from rfl, Addr.add_zero'] at hx); (obtain ⟨b, o, s⟩ := ad)
   cases s with
   | none => exact ⟨b, o, rfl⟩
   | some s =>
    (unfold World.cell? at hx); (split at hx <;> simp at hx)
  obtain ⟨b, o, rfl⟩ := hsp
  have hcell : ∀ (j : Nat) y, (x :: l)[j]? = some y → w.cell? ⟨b, o + j, none⟩ = some (.string y) := by
   intro j y hy; (have hj : j < (x :: l).length := (List.getElem?_eq_some_iff.1 hy).1); (obtain ⟨ad', e, hx'⟩ := Kd.at_string hr0 (j : Int) (by omega) (by omega)); (injection e with e); subst e; (rw [Int.toNat_natCast] at hx'); (have e1 : (⟨b, o, none⟩ : Addr).add j = ⟨b, o + j, none⟩ := by unfold Addr.add; split <;> simp_all); (rw [e1] at hx'); (rw [hx']); (unfold rdOf); (rw [Int.toNat_natCast, List.getD_eq_getElem?_getD, hy]); rfl
  exact Tryd.strings_Join b o c0 (x :: l) a1 w hcell (by have := hcell 0 x rfl; exact bltc w _ this) hb.2 hc0 hb.1
end Go.Proofs.YtiaiohoadefgjaaDoor.X
namespace Go.Proofs.YtiaiohoadefgjaaDoor.X
open Go.RowKit Go.Proofs.YtiaiohoadefgjaaDoorW.PrintWords Go.Proofs.YtiaiohoadefgjaaDoorW.PrintLast Go.Proofs.YtiaiohoadefgjaaDoorW.PrintMore
attribute [local go_sem] max2_int min2_int max_two min_two max_three min_three max_four min_four
set_option linter.unusedVariables false
set_option linter.unusedSimpArgs false
attribute [-simp] ByteArray.size_append ByteArray.size_extract
attribute [-go_sem] ByteArray.size_append'
/-! ### impl_fieldLine: function 27 -/
def impl_fieldLine.j0 : Nat → List ByteArray → ByteArray → Int → Int → Int → List ByteArray → Bool → ByteArray → Option (ByteArray)
 | 0, _, _, _, _, _, _, _, _ => none
 | k + 1, x3, x102000, x102001, x102002, x102003, x102004, x102005, x102006 => if x102005 = true then (if x3.length < 8796093022208 then ((some (x3 ++ [(⟨#[110, 101, 101, 100, 101, 100]⟩ : ByteArray)] : List ByteArray)).bind fun y130 => (if x102006.toList = ([] : List UInt8) then ((strings_Join.f y130 (⟨#[32]⟩ : ByteArray)).bind fun t133 => (some t133)) else ((some (([(⟨#[105, 102]⟩ : ByteArray), x102006] : List ByteArray) : List ByteArray)).bind fun y134 => (if y130.length + y134.length < 8796093022208 then ((strings_Join.f (y130 ++ y134) (⟨#[32]⟩ : ByteArray)).bind fun t140 => (some t140)) else (none))))) else (none)) else (if x102006.toList = ([] : List UInt8) then ((strings_Join.f x3 (⟨#[32]⟩ : ByteArray)).bind fun t141 => (some t141)) else ((some (([(⟨#[105, 102]⟩ : ByteArray), x102006] : List ByteArray) : List ByteArray)).bind fun y142 => (if x3.length + y142.length < 8796093022208 then ((strings_Join.f (x3 ++ y142) (⟨#[32]⟩ : ByteArray)).bind fun t148 => (some t148)) else (none))))
def impl_fieldLine.f (k : Nat) (a0_0 : ByteArray) (a0_1 : Int) (a0_2 : Int) (a0_3 : Int) (l0_4 : List ByteArray) (a0_5 : Bool) (a0_6 : ByteArray) : Option (ByteArray) := (some (([a0_0] : List ByteArray) : List ByteArray)).bind fun y102 => (if a0_1 = 1 then ((strconv_Itoa.f a0_2).bind fun t105 => ((strconv_Itoa.f a0_3).bind fun t106 => ((some (([(⟨#[110, 117, 109, 98, 101, 114]⟩ : ByteArray), t105, t106] : List ByteArray) : List ByteArray)).bind fun y107 => (if y102.length + y107.length < 8796093022208 then (impl_fieldLine.j0 k (y102 ++ y107) a0_0 a0_1 a0_2 a0_3 l0_4 a0_5 a0_6) else (none))))) else (if a0_1 = 2 then ((strconv_Itoa.f a0_2).bind fun t113 => ((strconv_Itoa.f a0_3).bind fun t114 => ((some (([(⟨#[116, 101, 120, 116]⟩ : ByteArray), t113, t114] : List ByteArray) : List ByteArray)).bind fun y115 => (if y102.length + y115.length < 8796093022208 then (impl_fieldLine.j0 k (y102 ++ y115) a0_0 a0_1 a0_2 a0_3 l0_4 a0_5 a0_6) else (none))))) else (if a0_1 = 3 then (if y102.length < 8796093022208 then ((some (y102 ++ [(⟨#[99, 104, 111, 105, 99, 101]⟩ : ByteArray)] : List ByteArray)).bind fun y121 => (if y121.length + l0_4.length < 8796093022208 then (impl_fieldLine.j0 k (y121 ++ l0_4) a0_0 a0_1 a0_2 a0_3 l0_4 a0_5 a0_6) else (none))) else (none)) else (if y102.length < 8796093022208 then (impl_fieldLine.j0 k (y102 ++ [(⟨#[102, 108, 97, 103]⟩ : ByteArray)]) a0_0 a0_1 a0_2 a0_3 l0_4 a0_5 a0_6) else (none)))))
def impl_fieldLine.T5 : Bool × List (List Nat × List Nat) := (true, [([], []), ([], []), ([1], [1]), ([2], [2]), ([], []), ([4], [4]), ([5, 3], [5]), ([3, 6], [3, 6]), ([0, 7, 6], [0, 7]), ([8, 8, 0, 1, 2, 3, 4, 5, 6, 7, 8], [0, 8])])
def impl_fieldLine.B5 : List Nat := [0, 0, 2, 6, 0, 16, 62, 126, 255, 511]
theorem impl_fieldLine.tab5 : rtab .any (opsOf Tryd.f27 5) = impl_fieldLine.T5 := by kernel_rfl
theorem impl_fieldLine.bits5 : waitsOk impl_fieldLine.T5.2 impl_fieldLine.B5 = true := by kernel_rfl
def impl_fieldLine.T7 : Bool × List (List Nat × List Nat) := (true, [([], []), ([], []), ([1], [1]), ([2], [2]), ([], []), ([4], [4]), ([5, 3], [5]), ([3, 6], [3, 6]), ([0, 7, 6], [0, 7]), ([8, 8, 0, 1, 2, 3, 4, 5, 6, 7, 8], [0, 8])])
def impl_fieldLine.B7 : List Nat := [0, 0, 2, 6, 0, 16, 62, 126, 255, 511]
theorem impl_fieldLine.tab7 : rtab .any (opsOf Tryd.f27 7) = impl_fieldLine.T7 := by kernel_rfl
theorem impl_fieldLine.bits7 : waitsOk impl_fieldLine.T7.2 impl_fieldLine.B7 = true := by kernel_rfl
set_option maxHeartbeats 8000000 in
set_option maxRecDepth 100000 in
theorem impl_fieldLine.calls (k : Nat) (a0_0 : ByteArray) (a0_1 : Int) (a0_2 : Int) (a0_3 : Int) (A0_4 : Option Addr) (c0_4 : Nat) (l0_4 : List ByteArray) (a0_5 : Bool) (a0_6 : ByteArray) (r : ByteArray) (w : World) (hr0_4 : Kd.C Kd.string w A0_4 l0_4.length l0_4) (hc0_4 : l0_4.length ≤ c0_4) (hG : GT w) (h : impl_fieldLine.f k a0_0 a0_1 a0_2 a0_3 l0_4 a0_5 a0_6 = some r) :
  Calls Tryd.prog 27 #[.agg #[.string a0_0, .int .i64 a0_1, .int .i64 a0_2, .int .i64 a0_3, .slice A0_4 l0_4.length c0_4, .bool a0_5, .string a0_6]] w fun e w' => e = .returned (.string r) ∧ Below w.heap.size w w' := by
 (have hu54 := Tryd.underlying54); (have HR0_4 := Aside0.mk hr0_4); (have HC0_4 := Aside0.mk hc0_4); clear hr0_4 hc0_4; (have HG := Aside0.mk hG); clear hG; (have HB := Aside0.mk (Below.refl w.heap.size w)); (unfold impl_fieldLine.f at h); (have H := h); clear h; (obtain ⟨y102, hy102⟩ : ∃ y_ : List ByteArray, y_ = (([a0_0] : List ByteArray)) := ⟨_, rfl⟩); (replace H : (if a0_1 = 1 then ((strconv_Itoa.f a0_2).bind fun t105 => ((strconv_Itoa.f a0_3).bind fun t106 => ((some (([(⟨#[110, 117, 109, 98, 101, 114]⟩ : ByteArray), t105, t106] : List ByteArray) : List ByteArray)).bind fun y107 => (if y102.length + y107.length < 8796093022208 then (impl_fieldLine.j0 k (y102 ++ y107) a0_0 a0_1 a0_2 a0_3 l0_4 a0_5 a0_6) else (none))))) else (if a0_1 = 2 then ((strconv_Itoa.f a0_2).bind fun t113 => ((strconv_Itoa.f a0_3).bind fun t114 => ((some (([(⟨#[116, 101, 120, 116]⟩ : ByteArray), t113, t114] : List ByteArray) : List ByteArray)).bind fun y115 => (if y102.length + y115.length < 8796093022208 then (impl_fieldLine.j0 k (y102 ++ y115) a0_0 a0_1 a0_2 a0_3 l0_4 a0_5 a0_6) else (none))))) else (if a0_1 = 3 then (if y102.length < 8796093022208 then ((some (y102 ++ [(⟨#[99, 104, 111, 105, 99, 101]⟩ : ByteArray)] : List ByteArray)).bind fun y121 => (if y121.length + l0_4.length < 8796093022208 then (impl_fieldLine.j0 k (y121 ++ l0_4) a0_0 a0_1 a0_2 a0_3 l0_4 a0_5 a0_6) else (none))) else (none)) else (if y102.length < 8796093022208 then (impl_fieldLine.j0 k (y102 ++ [(⟨#[102, 108, 97, 103]⟩ : ByteArray)]) a0_0 a0_1 a0_2 a0_3 l0_4 a0_5 a0_6) else (none))))) = some r := Q154); (have Ny102 := Aside0.mk hy102); clear hy102; (have HC2 := Aside0.mk H); clear H; (go_enter Tryd.func27, Tryd.ntmps27)
 (go_upto_block 0 with (first | ((with_reducible refine gate_dst (N := 1) rfl ?_); refine box_event ?hg (N := 1) ?hd (cs := #[.string a0_0, .int .i64 a0_1, .int .i64 a0_2, .int .i64 a0_3, .slice A0_4 l0_4.length c0_4, .bool a0_5, .string a0_6]) (t := 54) ?hr ?_; (case hd => rfl); (case hg => rfl); (case hr => first | (go_simp; done) | (go_simp; rfl)); intro gb101 hg w3 hbox hb; have n0_ := Aside0.mk (sI hb HB); have n1_ := Aside0.mk (hbox); have n2_ := Aside0.mk (bx0 hg (eI HB)); have n3_ := Aside0.mk (bx0 hg (eI HB)); clear HB; have HB := n0_; have BK101 := n1_; have GW101 := n2_; have GE101 := n3_; clear n0_ n1_ n2_ n3_ hb hbox hg; have hcz4_0 := cz BK101.out 0; have hcz4_1 := cz BK101.out 1; have hcz4_2 := cz BK101.out 2; have hcz4_3 := cz BK101.out 3; have hcz4_4 := cz BK101.out 4; have hcz4_5 := cz BK101.out 5; have hcz4_6 := cz BK101.out 6; have hfz4_0 := blk_frozen BK101.out 0; have hfz4_1 := blk_frozen BK101.out 1; have hfz4_2 := blk_frozen BK101.out 2; have hfz4_3 := blk_frozen BK101.out 3; have hfz4_4 := blk_frozen BK101.out 4; have hfz4_5 := blk_frozen BK101.out 5; have hfz4_6 := blk_frozen BK101.out 6) | ((with_reducible refine gate_dst (N := 6) rfl ?_); refine Kd.R_lit Kd.string _ 9 ?hg (N := 6) ?hd (xs := ([a0_0] : List ByteArray)) (inner := [.string a0_0]) (ok := fun _ => True) (okp := fun _ => True) ?hr ?hp (fun _ hk => hk) trivial (Below.refl _ _) (Nat.le_refl _) (by simp) ?_; (case hd => rfl); (case hg => rfl); (case hr => first | (go_simp; done) | (go_simp; rfl)); (case hp => exact (Reps.one (show Kd.M Kd.string _ _ _ a0_0 [.string a0_0] from rfl) (Reps.none _ _))); intro v103 w5 ho6 hb hg_ hnew_; clear hg_ hnew_; (first | rw [← Ny102.out] at ho6 | (simp only [Int.reduceToNat] at ho6; rw [← Ny102.out] at ho6)); have n0_ := Aside0.mk (Kd.R_lower ho6 (below_size (eI HB))); have n1_ := Aside0.mk (kbI hb BK101); have n2_ := Aside0.mk (sI hb HB); clear BK101 HB; have HO104 := n0_; have BK101 := n1_; have HB := n2_; clear n0_ n1_ n2_ hb ho6; have hcz7_0 := cz BK101.out 0; have hcz7_1 := cz BK101.out 1; have hcz7_2 := cz BK101.out 2; have hcz7_3 := cz BK101.out 3; have hcz7_4 := cz BK101.out 4; have hcz7_5 := cz BK101.out 5; have hcz7_6 := cz BK101.out 6; have hfz7_0 := blk_frozen BK101.out 0; have hfz7_1 := blk_frozen BK101.out 1; have hfz7_2 := blk_frozen BK101.out 2; have hfz7_3 := blk_frozen BK101.out 3; have hfz7_4 := blk_frozen BK101.out 4; have hfz7_5 := blk_frozen BK101.out 5; have hfz7_6 := blk_frozen BK101.out 6))); ((try simp only [Act.put, aS1, aS2, aS3])); (go_cut [3] (fun v3 wc => ∃ (kq : Nat) (x3_1 : List ByteArray), Aside0 (impl_fieldLine.j0 kq x3_1 a0_0 a0_1 a0_2 a0_3 l0_4 a0_5 a0_6 = some r) ∧ Aside0 (kq ≤ k) ∧ Aside0 (Kd.R Kd.string 9 wc w.heap.size (fun _ => True) v3 x3_1) ∧ Aside0 (wc.heap[gb101]? = some (.cells #[.string a0_0, .int .i64 a0_1, .int .i64 a0_2, .int .i64 a0_3, (.slice A0_4 l0_4.length c0_4), .bool a0_5, .string a0_6] 54 (0, 0))) ∧ Aside0 (Below w.heap.size w wc)))
 case first =>
  (have H := HC2.out); clear HC2; (by_cases c8 : a0_1 = 1)
  ·rw [if_pos c8] at H
   (have c8b0 : (a0_1 == 1) = true := beq_iff_eq.mpr c8); (have c8b1 : (a0_1 != 1) = false := bne_eq_false_iff_eq.mpr c8); clear c8; ((first | rw [c8b0] | (simp only [i64_w, i32_w]; rw [c8b0]) | skip)); (replace H := obS H); (obtain ⟨t105, A9, H⟩ := H); (replace H := obS H); (obtain ⟨t106, A10, H⟩ := H); (obtain ⟨y107, hy107⟩ : ∃ y_ : List ByteArray, y_ = (([(⟨#[110, 117, 109, 98, 101, 114]⟩ : ByteArray), t105, t106] : List ByteArray)) := ⟨_, rfl⟩); (replace H : (if y102.length + y107.length < 8796093022208 then (impl_fieldLine.j0 k (y102 ++ y107) a0_0 a0_1 a0_2 a0_3 l0_4 a0_5 a0_6) else (none)) = some r := Q105); (have Ny107 := Aside0.mk hy107); clear hy107; (by_cases c11 : y102.length + y107.length < 8796093022208)
   ·rw [if_pos c11] at H
    (have LMc11 := Aside0.mk c11); clear c11; (obtain ⟨y110, hy110⟩ : ∃ y_ : List ByteArray, y_ = (y102 ++ y107) := ⟨_, rfl⟩); (replace H : (impl_fieldLine.j0 k y110 a0_0 a0_1 a0_2 a0_3 l0_4 a0_5 a0_6) = some r := by first | (rw [hy110]; with_reducible exact H) | (have H2_ := (Option.bind_some _ _).symm.trans H; rw [hy110]; with_reducible exact H2_) | (have H2_ := (Option.bind_some _ _).symm.trans H; with_reducible exact H2_) | with_reducible exact H | (rw [hy110]; exact H) | exact H); (have Ny110 := Aside0.mk hy110); clear hy110; (have H' := Aside0.mk H); clear H; (try go_wp2); (have n0_ := Aside0.mk (Kd.R_drew HO104.out)); (have n1_ := Aside0.mk (blk_drew BK101.out)); (have n2_ := Aside0.mk (below_drew1 HB.out)); clear HO104 BK101 HB; (have HO104 := n0_); (have BK101 := n1_); (have HB := n2_); clear n0_ n1_ n2_; (refine start_ (n := 10) (S := fun w' => w'.cell? ⟨gb101, 0, none⟩ = some (.string a0_0) ∧ w'.cell? ⟨gb101, 1, none⟩ = some (.int .i64 a0_1) ∧ w'.cell? ⟨gb101, 2, none⟩ = some (.int .i64 a0_2) ∧ w'.cell? ⟨gb101, 3, none⟩ = some (.int .i64 a0_3) ∧ w'.cell? ⟨gb101, 4, none⟩ = some (.slice A0_4 l0_4.length c0_4) ∧ w'.cell? ⟨gb101, 5, none⟩ = some (.bool a0_5) ∧ w'.cell? ⟨gb101, 6, none⟩ = some (.string a0_6)) (ds := []) (cn 10 0) (by kernel_rfl) rfl (by kernel_rfl) ⟨cz BK101.out 0, cz BK101.out 1, cz BK101.out 2, cz BK101.out 3, cz BK101.out 4, cz BK101.out 5, cz BK101.out 6⟩ (fun hHeld => ?_); refine with_tabW impl_fieldLine.tab5 impl_fieldLine.bits5 (fun HT_ HW_ => ?_)); (generalize w5.drew = w12 at HO104 BK101 HB hHeld ⊢); (refine pB 0 (cn 10 1) (some 14) HT_ (h := ?_)); (refine pB 1 (cn 10 2) (some 15) HT_ (h := ?_)); (refine pB 4 (cb 10 19) (some 18) HT_ (h := ?_)); (refine tB 2 (cb 10 23) (some 16) HT_ HW_ hHeld (h := ?_)); (refine tB 5 (cb 10 55) (some 19) HT_ HW_ hHeld (h := ?_)); (refine oN 3 (some 17) (cn 10 6) HT_ (fun K hK => ?_)); (refine gG Tryd.func52 #[.int .i64 a0_2] ?_); (with_reducible refine (strconv_Itoa.calls a0_2 t105 _ ?side1 A9.out).mono ?_); ((case side1 => first | exact Q155 | (repeat (first | exact HG.out | (with_reducible first | apply GT.drewN | apply GT.drew | apply GT.alloc))))); (rintro e w13 ⟨rfl, hb⟩); (refine ⟨_, rfl, ?_⟩); (have n0_ := Aside0.mk (rbI hb HO104)); (have n1_ := Aside0.mk (kbI hb BK101)); (have n2_ := Aside0.mk (sI hb HB)); clear HO104 BK101 HB; (have HO104 := n0_); (have BK101 := n1_); (have HB := n2_); clear n0_ n1_ n2_; ((try clear hb)); ((try clear hb2)); ((try clear hk)); ((try clear hi)); (refine hK.out _ _ ⟨cz BK101.out 0, cz BK101.out 1, cz BK101.out 2, cz BK101.out 3, cz BK101.out 4, cz BK101.out 5, cz BK101.out 6⟩ (fun hHeld => ?_)); clear hK K; (refine nP (some 17) (h := ?_)); (refine oN 6 (some 20) (cn 10 7) HT_ (fun K hK => ?_)); (refine gG Tryd.func52 #[.int .i64 a0_3] ?_); (with_reducible refine (strconv_Itoa.calls a0_3 t106 _ ?side1 A10.out).mono ?_)
    ((case side1 => first | exact Q155 | (repeat (first | exact HG.out | (with_reducible first | apply GT.drewN | apply GT.drew | apply GT.alloc))))); (rintro e w14 ⟨rfl, hb⟩); (refine ⟨_, rfl, ?_⟩); (have n0_ := Aside0.mk (rbI hb HO104)); (have n1_ := Aside0.mk (kbI hb BK101)); (have n2_ := Aside0.mk (sI hb HB)); clear HO104 BK101 HB; (have HO104 := n0_); (have BK101 := n1_); (have HB := n2_); clear n0_ n1_ n2_; ((try clear hb)); ((try clear hb2)); ((try clear hk)); ((try clear hi)); (refine hK.out _ _ ⟨cz BK101.out 0, cz BK101.out 1, cz BK101.out 2, cz BK101.out 3, cz BK101.out 4, cz BK101.out 5, cz BK101.out 6⟩ (fun hHeld => ?_)); clear hK K; (refine nP (some 20) (h := ?_)); (refine oN 7 (some 21) (cn 10 8) HT_ (fun K hK => ?_)); (refine Kd.R_lit_step Kd.string _ 9 ?hg (N := 21) ?hd (xs := ([(⟨#[110, 117, 109, 98, 101, 114]⟩ : ByteArray), t105, t106] : List ByteArray)) (inner := [.string (⟨#[110, 117, 109, 98, 101, 114]⟩ : ByteArray), .string t105, .string t106]) (ok := fun _ => True) (okp := fun _ => True) ?hr ?hp (fun _ hk => hk) trivial (Below.refl _ _) (Nat.le_refl _) (by simp) ?_; (case hd => rfl); (case hg => rfl); (case hr => first | (go_simp; done) | (go_simp; rfl)); (case hp => exact (Reps.one (show Kd.M Kd.string _ _ _ (⟨#[110, 117, 109, 98, 101, 114]⟩ : ByteArray) [.string (⟨#[110, 117, 109, 98, 101, 114]⟩ : ByteArray)] from rfl) (Reps.one (show Kd.M Kd.string _ _ _ t105 [.string t105] from rfl) (Reps.one (show Kd.M Kd.string _ _ _ t106 [.string t106] from rfl) (Reps.none _ _)))))); intro v108 w15 ho16 hb hg_ hnew_; clear hg_ hnew_; ((first | rw [← Ny107.out] at ho16 | (simp only [Int.reduceToNat] at ho16; rw [← Ny107.out] at ho16))); (have n0_ := Aside0.mk (Kd.R_elder' (rI HO104) (Kd.R_base ho16) hb)); (have n1_ := Aside0.mk (Kd.R_lower (Kd.R_new' ho16 (Kd.R_lt (rI HO104))) (below_size (eI HB)))); (have n2_ := Aside0.mk (kbI hb BK101)); (have n3_ := Aside0.mk (sI hb HB)); clear HO104 BK101 HB; (have HO104 := n0_); (have HO109 := n1_); (have BK101 := n2_); (have HB := n3_); clear n0_ n1_ n2_ n3_ hb ho16; (obtain ⟨Ao18, co18, eo18⟩ := Kd.R_slice HO109.out); ((first | subst eo18 | (injection eo18 with f1_ f2_ f3_; have f4_ := f1_.symm; have f5_ := f3_.symm; clear f1_ f2_ f3_; subst f4_; subst f5_))); (refine hK.out _ _ ⟨cz BK101.out 0, cz BK101.out 1, cz BK101.out 2, cz BK101.out 3, cz BK101.out 4, cz BK101.out 5, cz BK101.out 6⟩ (fun hHeld => ?_)); clear hK K; (refine nP (some 21) (h := ?_)); (refine oN 8 (some 22) (cn 10 9) HT_ (fun K hK => ?_)); (refine Kd.R_append_rows_step Kd.string (w0 := w) w.heap.size (by rfl) (.tmp 14) (.tmp 21) 42 9 (.string ⟨#[]⟩) 16 rfl Tryd.underlying42 info9 rfl (by decide) (by omega) v103 y102 y107 _ _ _ (fun k_ => some k_ ≠ (.slice Ao18 y107.length co18 : Value).ownBlock) (fun _ => False) rfl rfl ?aO ?aR (fun _ _ h => h) (fun _ h => h.elim) ?aF ?aB ?aS ?aL ?_); ((case aR => repeat (first | exact (Kd.R_reads' HO109.out).2.2 | (with_reducible first | refine cA ?_ _ | refine cN ?_ _ | refine cD ?_)))); ((case aB => exact (eI HB))); ((case aF => exact (fun k_ hk => Kd.fresh' (Kd.R_lt (rI HO109)) k_ hk))); ((case aO => exact Q156)); ((case aS => exact Q157)); ((case aL => have := LMc11.out; omega)); intro v111 w17 ho hb hg hat; (rw [← Ny110.out] at ho)
    (have n0_ := Aside0.mk (blk_grown (kI BK101) hg (Kd.R_ne HO104.out BK101.out (by decide)))); (have n1_ := Aside0.mk (Kd.R_after (ok := (fun _ => True)) (rI HO109) hg hat)); (have n2_ := Aside0.mk (hb)); (have n3_ := Aside0.mk (ho)); clear BK101 HO109 HB HO104; (have BK101 := n0_); (have HO109 := n1_); (have HB := n2_); (have HO112 := n3_); clear n0_ n1_ n2_ n3_ ho hb hg hat; (refine hK.out _ _ ⟨cz BK101.out 0, cz BK101.out 1, cz BK101.out 2, cz BK101.out 3, cz BK101.out 4, cz BK101.out 5, cz BK101.out 6⟩ (fun hHeld => ?_)); clear hK K; (refine nP (some 22) (h := ?_)); (refine pB 9 (cn 10 10) (some 3) HT_ (h := ?_)); (refine done_ (done_of HT_.out (by kernel_rfl)) ?_); (try go_wp2); (go_meet)
    case rel => exact ⟨_, (y110), H', ⟨Q6⟩, ⟨by (with_reducible repeat (first | apply rA | apply rN | apply rD)); exact Kd.R_mono HO112.out (fun _ hk => trivial)⟩, ⟨kI BK101⟩, ⟨eI HB⟩⟩
   ·rw [if_neg c11] at H
    exact Q3
  ·rw [if_neg c8] at H
   (have c8b0 : (a0_1 == 1) = false := beq_eq_false_iff_ne.mpr c8); (have c8b1 : (a0_1 != 1) = true := bne_iff_ne.mpr c8); ((first | rw [c8b0] | (simp only [i64_w, i32_w]; rw [c8b0]) | skip)); (by_cases c19 : a0_1 = 2)
   ·rw [if_pos c19] at H
    (have c19b0 : (a0_1 == 2) = true := beq_iff_eq.mpr c19); (have c19b1 : (a0_1 != 2) = false := bne_eq_false_iff_eq.mpr c19); clear c19; (replace H := obS H); (obtain ⟨t113, A20, H⟩ := H); (replace H := obS H); (obtain ⟨t114, A21, H⟩ := H); (obtain ⟨y115, hy115⟩ : ∃ y_ : List ByteArray, y_ = (([(⟨#[116, 101, 120, 116]⟩ : ByteArray), t113, t114] : List ByteArray)) := ⟨_, rfl⟩); (replace H : (if y102.length + y115.length < 8796093022208 then (impl_fieldLine.j0 k (y102 ++ y115) a0_0 a0_1 a0_2 a0_3 l0_4 a0_5 a0_6) else (none)) = some r := by first | (rw [hy115]; with_reducible exact H) | (have H2_ := (Option.bind_some _ _).symm.trans H; rw [hy115]; with_reducible exact H2_) | (have H2_ := (Option.bind_some _ _).symm.trans H; with_reducible exact H2_) | with_reducible exact H | (rw [hy115]; exact H) | exact H); (have Ny115 := Aside0.mk hy115); clear hy115; (by_cases c22 : y102.length + y115.length < 8796093022208)
    ·rw [if_pos c22] at H
     (have LMc22 := Aside0.mk c22); clear c22; (obtain ⟨y118, hy118⟩ : ∃ y_ : List ByteArray, y_ = (y102 ++ y115) := ⟨_, rfl⟩); (replace H : (impl_fieldLine.j0 k y118 a0_0 a0_1 a0_2 a0_3 l0_4 a0_5 a0_6) = some r := by first | (rw [hy118]; with_reducible exact H) | (have H2_ := (Option.bind_some _ _).symm.trans H; rw [hy118]; with_reducible exact H2_) | (have H2_ := (Option.bind_some _ _).symm.trans H; with_reducible exact H2_) | with_reducible exact H | (rw [hy118]; exact H) | exact H); (have Ny118 := Aside0.mk hy118); clear hy118; (have H' := Aside0.mk H); clear H; (try go_wp2); (have n0_ := Aside0.mk (Kd.R_drew HO104.out)); (have n1_ := Aside0.mk (blk_drew BK101.out)); (have n2_ := Aside0.mk (below_drew1 HB.out)); clear HO104 BK101 HB; (have HO104 := n0_); (have BK101 := n1_); (have HB := n2_); clear n0_ n1_ n2_; (refine start_ (n := 10) (S := fun w' => w'.cell? ⟨gb101, 0, none⟩ = some (.string a0_0) ∧ w'.cell? ⟨gb101, 1, none⟩ = some (.int .i64 a0_1) ∧ w'.cell? ⟨gb101, 2, none⟩ = some (.int .i64 a0_2) ∧ w'.cell? ⟨gb101, 3, none⟩ = some (.int .i64 a0_3) ∧ w'.cell? ⟨gb101, 4, none⟩ = some (.slice A0_4 l0_4.length c0_4) ∧ w'.cell? ⟨gb101, 5, none⟩ = some (.bool a0_5) ∧ w'.cell? ⟨gb101, 6, none⟩ = some (.string a0_6)) (ds := []) (cn 10 0) (by kernel_rfl) rfl (by kernel_rfl) ⟨cz BK101.out 0, cz BK101.out 1, cz BK101.out 2, cz BK101.out 3, cz BK101.out 4, cz BK101.out 5, cz BK101.out 6⟩ (fun hHeld => ?_); refine with_tabW impl_fieldLine.tab7 impl_fieldLine.bits7 (fun HT_ HW_ => ?_)); (generalize w5.drew = w23 at HO104 BK101 HB hHeld ⊢); (refine pB 0 (cn 10 1) (some 25) HT_ (h := ?_)); (refine pB 1 (cn 10 2) (some 26) HT_ (h := ?_)); (refine pB 4 (cb 10 19) (some 29) HT_ (h := ?_)); (refine tB 2 (cb 10 23) (some 27) HT_ HW_ hHeld (h := ?_)); (refine tB 5 (cb 10 55) (some 30) HT_ HW_ hHeld (h := ?_)); (refine oN 3 (some 28) (cn 10 6) HT_ (fun K hK => ?_)); (refine gG Tryd.func52 #[.int .i64 a0_2] ?_); (with_reducible refine (strconv_Itoa.calls a0_2 t113 _ ?side1 A20.out).mono ?_); ((case side1 => first | exact Q155 | (repeat (first | exact HG.out | (with_reducible first | apply GT.drewN | apply GT.drew | apply GT.alloc))))); (rintro e w24 ⟨rfl, hb⟩); (refine ⟨_, rfl, ?_⟩); (have n0_ := Aside0.mk (rbI hb HO104)); (have n1_ := Aside0.mk (kbI hb BK101)); (have n2_ := Aside0.mk (sI hb HB)); clear HO104 BK101 HB; (have HO104 := n0_); (have BK101 := n1_); (have HB := n2_); clear n0_ n1_ n2_; ((try clear hb)); ((try clear hb2)); ((try clear hk)); ((try clear hi)); (refine hK.out _ _ ⟨cz BK101.out 0, cz BK101.out 1, cz BK101.out 2, cz BK101.out 3, cz BK101.out 4, cz BK101.out 5, cz BK101.out 6⟩ (fun hHeld => ?_)); clear hK K; (refine nP (some 28) (h := ?_)); (refine oN 6 (some 31) (cn 10 7) HT_ (fun K hK => ?_)); (refine gG Tryd.func52 #[.int .i64 a0_3] ?_); (with_reducible refine (strconv_Itoa.calls a0_3 t114 _ ?side1 A21.out).mono ?_)
     ((case side1 => first | exact Q155 | (repeat (first | exact HG.out | (with_reducible first | apply GT.drewN | apply GT.drew | apply GT.alloc))))); (rintro e w25 ⟨rfl, hb⟩); (refine ⟨_, rfl, ?_⟩); (have n0_ := Aside0.mk (rbI hb HO104)); (have n1_ := Aside0.mk (kbI hb BK101)); (have n2_ := Aside0.mk (sI hb HB)); clear HO104 BK101 HB; (have HO104 := n0_); (have BK101 := n1_); (have HB := n2_); clear n0_ n1_ n2_; ((try clear hb)); ((try clear hb2)); ((try clear hk)); ((try clear hi)); (refine hK.out _ _ ⟨cz BK101.out 0, cz BK101.out 1, cz BK101.out 2, cz BK101.out 3, cz BK101.out 4, cz BK101.out 5, cz BK101.out 6⟩ (fun hHeld => ?_)); clear hK K; (refine nP (some 31) (h := ?_)); (refine oN 7 (some 32) (cn 10 8) HT_ (fun K hK => ?_)); (refine Kd.R_lit_step Kd.string _ 9 ?hg (N := 32) ?hd (xs := ([(⟨#[116, 101, 120, 116]⟩ : ByteArray), t113, t114] : List ByteArray)) (inner := [.string (⟨#[116, 101, 120, 116]⟩ : ByteArray), .string t113, .string t114]) (ok := fun _ => True) (okp := fun _ => True) ?hr ?hp (fun _ hk => hk) trivial (Below.refl _ _) (Nat.le_refl _) (by simp) ?_; (case hd => rfl); (case hg => rfl); (case hr => first | (go_simp; done) | (go_simp; rfl)); (case hp => exact (Reps.one (show Kd.M Kd.string _ _ _ (⟨#[116, 101, 120, 116]⟩ : ByteArray) [.string (⟨#[116, 101, 120, 116]⟩ : ByteArray)] from rfl) (Reps.one (show Kd.M Kd.string _ _ _ t113 [.string t113] from rfl) (Reps.one (show Kd.M Kd.string _ _ _ t114 [.string t114] from rfl) (Reps.none _ _)))))); intro v116 w26 ho27 hb hg_ hnew_; clear hg_ hnew_; ((first | rw [← Ny115.out] at ho27 | (simp only [Int.reduceToNat] at ho27; rw [← Ny115.out] at ho27))); (have n0_ := Aside0.mk (Kd.R_elder' (rI HO104) (Kd.R_base ho27) hb)); (have n1_ := Aside0.mk (Kd.R_lower (Kd.R_new' ho27 (Kd.R_lt (rI HO104))) (below_size (eI HB)))); (have n2_ := Aside0.mk (kbI hb BK101)); (have n3_ := Aside0.mk (sI hb HB)); clear HO104 BK101 HB; (have HO104 := n0_); (have HO117 := n1_); (have BK101 := n2_); (have HB := n3_); clear n0_ n1_ n2_ n3_ hb ho27; (obtain ⟨Ao29, co29, eo29⟩ := Kd.R_slice HO117.out); ((first | subst eo29 | (injection eo29 with f1_ f2_ f3_; have f4_ := f1_.symm; have f5_ := f3_.symm; clear f1_ f2_ f3_; subst f4_; subst f5_))); (refine hK.out _ _ ⟨cz BK101.out 0, cz BK101.out 1, cz BK101.out 2, cz BK101.out 3, cz BK101.out 4, cz BK101.out 5, cz BK101.out 6⟩ (fun hHeld => ?_)); clear hK K; (refine nP (some 32) (h := ?_)); (refine oN 8 (some 33) (cn 10 9) HT_ (fun K hK => ?_)); (refine Kd.R_append_rows_step Kd.string (w0 := w) w.heap.size (by rfl) (.tmp 25) (.tmp 32) 42 9 (.string ⟨#[]⟩) 16 rfl Tryd.underlying42 info9 rfl (by decide) (by omega) v103 y102 y115 _ _ _ (fun k_ => some k_ ≠ (.slice Ao29 y115.length co29 : Value).ownBlock) (fun _ => False) rfl rfl ?aO ?aR (fun _ _ h => h) (fun _ h => h.elim) ?aF ?aB ?aS ?aL ?_); ((case aR => repeat (first | exact (Kd.R_reads' HO117.out).2.2 | (with_reducible first | refine cA ?_ _ | refine cN ?_ _ | refine cD ?_)))); ((case aB => exact (eI HB))); ((case aF => exact (fun k_ hk => Kd.fresh' (Kd.R_lt (rI HO117)) k_ hk))); ((case aO => exact Q156)); ((case aS => exact Q157)); ((case aL => have := LMc22.out; omega)); intro v119 w28 ho hb hg hat; (rw [← Ny118.out] at ho)
     (have n0_ := Aside0.mk (blk_grown (kI BK101) hg (Kd.R_ne HO104.out BK101.out (by decide)))); (have n1_ := Aside0.mk (Kd.R_after (ok := (fun _ => True)) (rI HO117) hg hat)); (have n2_ := Aside0.mk (hb)); (have n3_ := Aside0.mk (ho)); clear BK101 HO117 HB HO104; (have BK101 := n0_); (have HO117 := n1_); (have HB := n2_); (have HO120 := n3_); clear n0_ n1_ n2_ n3_ ho hb hg hat; (refine hK.out _ _ ⟨cz BK101.out 0, cz BK101.out 1, cz BK101.out 2, cz BK101.out 3, cz BK101.out 4, cz BK101.out 5, cz BK101.out 6⟩ (fun hHeld => ?_)); clear hK K; (refine nP (some 33) (h := ?_)); (refine pB 9 (cn 10 10) (some 3) HT_ (h := ?_)); (refine done_ (done_of HT_.out (by kernel_rfl)) ?_); (try go_wp2); (go_meet)
     case rel => exact ⟨_, (y118), H', ⟨Q6⟩, ⟨by (with_reducible repeat (first | apply rA | apply rN | apply rD)); exact Kd.R_mono HO120.out (fun _ hk => trivial)⟩, ⟨kI BK101⟩, ⟨eI HB⟩⟩
    ·rw [if_neg c22] at H
     exact Q3
   ·rw [if_neg c19] at H
    (have c19b0 : (a0_1 == 2) = false := beq_eq_false_iff_ne.mpr c19); (have c19b1 : (a0_1 != 2) = true := bne_iff_ne.mpr c19); (by_cases c30 : a0_1 = 3)
    ·rw [if_pos c30] at H
     (have c30b0 : (a0_1 == 3) = true := beq_iff_eq.mpr c30); (have c30b1 : (a0_1 != 3) = false := bne_eq_false_iff_eq.mpr c30); clear c30; (by_cases c31 : y102.length < 8796093022208)
     ·rw [if_pos c31] at H
      (have LMc31 := Aside0.mk c31); clear c31; (obtain ⟨y121, hy121⟩ : ∃ y_ : List ByteArray, y_ = (y102 ++ [(⟨#[99, 104, 111, 105, 99, 101]⟩ : ByteArray)]) := ⟨_, rfl⟩); (replace H : (if y121.length + l0_4.length < 8796093022208 then (impl_fieldLine.j0 k (y121 ++ l0_4) a0_0 a0_1 a0_2 a0_3 l0_4 a0_5 a0_6) else (none)) = some r := by first | (rw [hy121]; with_reducible exact H) | (have H2_ := (Option.bind_some _ _).symm.trans H; rw [hy121]; with_reducible exact H2_) | (have H2_ := (Option.bind_some _ _).symm.trans H; with_reducible exact H2_) | with_reducible exact H | (rw [hy121]; exact H) | exact H); (have Ny121 := Aside0.mk hy121); clear hy121; (by_cases c32 : y121.length + l0_4.length < 8796093022208)
      ·rw [if_pos c32] at H
       (have LMc32 := Aside0.mk c32); clear c32; (obtain ⟨y124, hy124⟩ : ∃ y_ : List ByteArray, y_ = (y121 ++ l0_4) := ⟨_, rfl⟩); (replace H : (impl_fieldLine.j0 k y124 a0_0 a0_1 a0_2 a0_3 l0_4 a0_5 a0_6) = some r := Q116); (have Ny124 := Aside0.mk hy124); clear hy124; (have H' := Aside0.mk H); clear H; (try go_wp2); (have n0_ := Aside0.mk (Kd.R_drew HO104.out)); (have n1_ := Aside0.mk (blk_drew BK101.out)); (have n2_ := Aside0.mk (below_drew1 HB.out)); clear HO104 BK101 HB; (have HO104 := n0_); (have BK101 := n1_); (have HB := n2_); clear n0_ n1_ n2_; (refine start_ (n := 7) (S := fun w' => w'.cell? ⟨gb101, 0, none⟩ = some (.string a0_0) ∧ w'.cell? ⟨gb101, 1, none⟩ = some (.int .i64 a0_1) ∧ w'.cell? ⟨gb101, 2, none⟩ = some (.int .i64 a0_2) ∧ w'.cell? ⟨gb101, 3, none⟩ = some (.int .i64 a0_3) ∧ w'.cell? ⟨gb101, 4, none⟩ = some (.slice A0_4 l0_4.length c0_4) ∧ w'.cell? ⟨gb101, 5, none⟩ = some (.bool a0_5) ∧ w'.cell? ⟨gb101, 6, none⟩ = some (.string a0_6)) (ds := []) (cn 7 0) (by kernel_rfl) rfl (by kernel_rfl) ⟨cz BK101.out 0, cz BK101.out 1, cz BK101.out 2, cz BK101.out 3, cz BK101.out 4, cz BK101.out 5, cz BK101.out 6⟩ (fun hHeld => ?_)); (generalize w5.drew = w33 at HO104 BK101 HB hHeld ⊢); (refine pure_ (i := 0) (N := some 36) (v := ?_) (a' := ?_) (cn 7 1) rfl rfl (by kernel_rfl) (fun _ _ _ h => h) (Or.inl ⟨by rfl, ?_⟩) ?_ ?_); rotate_left; (· intro w'; go_simp; with_reducible rfl); rotate_left; (· (simp only [Act.put, aS1, aS2, aS3, i64_w, i32_w]); rfl); (refine pure_ (i := 3) (N := some 39) (v := ?_) (a' := ?_) (cb 7 9) rfl rfl (by kernel_rfl) (fun _ _ _ h => h) (Or.inl ⟨by rfl, ?_⟩) ?_ ?_); rotate_left; (· intro w'; go_simp; with_reducible rfl); rotate_left; (· (simp only [Act.put, aS1, aS2, aS3, i64_w, i32_w]); rfl); (refine take_ (i := 4) (N := some 40) (v := ?_) (a' := ?_) (cb 7 25) rfl rfl (by kernel_rfl) (fun _ _ _ h => h) (Or.inl ⟨by rfl, ?_⟩) hHeld ?_ ?_); rotate_left; (· (rintro w' ⟨s0, s1, s2, s3, s4, s5, s6⟩); go_simp; with_reducible rfl); rotate_left; (· (simp only [Act.put, aS1, aS2, aS3, i64_w, i32_w]); rfl); (refine one_ (i := 1) (N := some 37) (cb 7 27) rfl rfl (by kernel_rfl) (by decide) (fun K hK => ?_)); (refine value_ (w1 := ?_) (v := ?_) (by rfl) rfl ?_ ?_); (rotate_left 2)
       ·go_simp
        (constructor); (· rfl); (· rfl)
       (refine hK.out _ _ ⟨(blk_cell (blk_alloc BK101.out _) 0).trans rfl, (blk_cell (blk_alloc BK101.out _) 1).trans rfl, (blk_cell (blk_alloc BK101.out _) 2).trans rfl, (blk_cell (blk_alloc BK101.out _) 3).trans rfl, (blk_cell (blk_alloc BK101.out _) 4).trans rfl, (blk_cell (blk_alloc BK101.out _) 5).trans rfl, (blk_cell (blk_alloc BK101.out _) 6).trans rfl⟩ (fun hHeld => ?_)); clear hK K; (refine nP (some 37) (h := ?_)); (refine one_ (i := 2) (N := some 38) (cn 7 5) rfl rfl (by kernel_rfl) (by decide) (fun K hK => ?_)); (refine Kd.R_append_step Kd.string (w0 := w) w.heap.size (by rfl) (.tmp 36) (.tmp 37) 42 9 (.string ⟨#[]⟩) 16 rfl Tryd.underlying42 info9 rfl (by decide) (by omega) v103 y102 (⟨#[99, 104, 111, 105, 99, 101]⟩ : ByteArray) [.string (⟨#[99, 104, 111, 105, 99, 101]⟩ : ByteArray)] (fun _ => True) (fun _ => False) rfl rfl ?aP (fun _ hk => hk.elim) ?aF ?aO ?aB ?aS ?aL ?_); ((case aP => exact rfl)); ((case aB => exact (eI HB))); ((case aF => exact Q158)); ((case aO => exact (rI HO104))); ((case aS => exact Q157)); ((case aL => have := LMc31.out; omega)); intro v122 w34 ho hb hg hat; (rw [← Ny121.out] at ho); (have n0_ := Aside0.mk (blk_grown (kI BK101) hg (Kd.R_ne HO104.out BK101.out (by decide)))); (have n1_ := Aside0.mk (hb)); (have n2_ := Aside0.mk (ho)); clear BK101 HB HO104; (have BK101 := n0_); (have HB := n1_); (have HO123 := n2_); clear n0_ n1_ n2_ ho hb hg hat; (refine hK.out _ _ ⟨cz BK101.out 0, cz BK101.out 1, cz BK101.out 2, cz BK101.out 3, cz BK101.out 4, cz BK101.out 5, cz BK101.out 6⟩ (fun hHeld => ?_)); clear hK K; (refine nP (some 38) (h := ?_)); (refine one_ (i := 5) (N := some 41) (cn 7 6) rfl rfl (by kernel_rfl) (by decide) (fun K hK => ?_)); (refine Kd.R_append_rows_step Kd.string (w0 := w) w.heap.size (by rfl) (.tmp 38) (.tmp 40) 42 9 (.string ⟨#[]⟩) 16 rfl Tryd.underlying42 info9 rfl (by decide) (by omega) v122 y121 l0_4 _ _ _ (fun _ => True) (fun _ => False) rfl rfl ?aO ?aR (fun _ _ h => h) (fun _ h => h.elim) ?aF ?aB ?aS ?aL ?_); ((case aR => exact Kd.C_below HR0_4.out (eI HB))); ((case aB => exact (eI HB))); ((case aF => exact Q158)); ((case aO => exact (rI HO123))); ((case aS => exact Q157)); ((case aL => have := LMc32.out; omega)); intro v125 w35 ho hb hg hat; (rw [← Ny124.out] at ho); (have n0_ := Aside0.mk (blk_grown (kI BK101) hg (Kd.R_ne HO123.out BK101.out (by decide)))); (have n1_ := Aside0.mk (hb)); (have n2_ := Aside0.mk (ho)); clear BK101 HB HO123; (have BK101 := n0_); (have HB := n1_); (have HO126 := n2_); clear n0_ n1_ n2_ ho hb hg hat; (refine hK.out _ _ ⟨cz BK101.out 0, cz BK101.out 1, cz BK101.out 2, cz BK101.out 3, cz BK101.out 4, cz BK101.out 5, cz BK101.out 6⟩ (fun hHeld => ?_)); clear hK K; (refine nP (some 41) (h := ?_)); (refine pure_ (i := 6) (N := some 3) (v := ?_) (a' := ?_) (cn 7 7) rfl rfl (by kernel_rfl) (fun _ _ _ h => h) (Or.inl ⟨by rfl, ?_⟩) ?_ ?_); rotate_left; (· intro w'; go_simp; with_reducible rfl); rotate_left; (· (simp only [Act.put, aS1, aS2, aS3, i64_w, i32_w]); rfl); (refine done_ (by kernel_rfl) ?_); (try go_wp2); (go_meet)
       case rel => exact ⟨_, (y124), H', ⟨Q6⟩, ⟨rI HO126⟩, ⟨kI BK101⟩, ⟨eI HB⟩⟩
      ·rw [if_neg c32] at H
       exact Q3
     ·rw [if_neg c31] at H
      exact Q3
    ·rw [if_neg c30] at H
     (have c30b0 : (a0_1 == 3) = false := beq_eq_false_iff_ne.mpr c30); (have c30b1 : (a0_1 != 3) = true := bne_iff_ne.mpr c30); (by_cases c36 : y102.length < 8796093022208)
     ·rw [if_pos c36] at H
      (have LMc36 := Aside0.mk c36); clear c36; (obtain ⟨y127, hy127⟩ : ∃ y_ : List ByteArray, y_ = (y102 ++ [(⟨#[102, 108, 97, 103]⟩ : ByteArray)]) := ⟨_, rfl⟩); (replace H : (impl_fieldLine.j0 k y127 a0_0 a0_1 a0_2 a0_3 l0_4 a0_5 a0_6) = some r := Q159); (have Ny127 := Aside0.mk hy127); clear hy127; (have H' := Aside0.mk H); clear H; (go_wp2_with (first | ((with_reducible refine gate_builtin (b := .append) (xs := #[.tmp 9, .tmp 10]) rfl ?_); at_builtin; refine Kd.R_append Kd.string (w0 := w) w.heap.size rfl (.tmp 9) (.tmp 10) 42 9 (.string ⟨#[]⟩) 16 rfl Tryd.underlying42 info9 rfl (by decide) (by omega) v103 y102 (⟨#[102, 108, 97, 103]⟩ : ByteArray) [.string (⟨#[102, 108, 97, 103]⟩ : ByteArray)] (fun _ => True) (fun _ => False) rfl rfl ?aP (fun _ hk => hk.elim) ?aF ?aO ?aB ?aS ?aL ?_; (case aP => exact rfl); (case aB => exact (eI HB)); (case aF => exact Q158); (case aO => exact (rI HO104)); (case aS => exact Q157); (case aL => have := LMc36.out; omega); intro v128 w37 ho hb hg hat; rw [← Ny127.out] at ho; have n0_ := Aside0.mk (blk_grown (kI BK101) hg (Kd.R_ne HO104.out BK101.out (by decide))); have n1_ := Aside0.mk (hb); have n2_ := Aside0.mk (ho); clear BK101 HB HO104; have BK101 := n0_; have HB := n1_; have HO129 := n2_; clear n0_ n1_ n2_ ho hb hg hat))); (go_meet)
      case rel => exact ⟨_, (y127), H', ⟨Q6⟩, ⟨rI HO129⟩, ⟨kI BK101⟩, ⟨eI HB⟩⟩
     ·rw [if_neg c36] at H
      exact Q3
 case rest =>
  clear HC2; (try clear c1); (try clear c2); (try clear p2); (try clear c3); (try clear c5); (try clear c8); (try clear c8b0); (try clear c8b1); (try clear c11); (try clear c19); (try clear c19b0); (try clear c19b1); (try clear c22); (try clear c27); (try clear c30); (try clear c30b0); (try clear c30b1); (try clear c31); (try clear c32); (try clear c36); (try clear hcz4_0); (try clear hcz4_1); (try clear hcz4_2); (try clear hcz4_3); (try clear hcz4_4); (try clear hcz4_5); (try clear hcz4_6); (try clear hcz7_0); (try clear hcz7_1); (try clear hcz7_2); (try clear hcz7_3); (try clear hcz7_4); (try clear hcz7_5); (try clear hcz7_6); (try clear hfz4_0); (try clear hfz4_1); (try clear hfz4_2); (try clear hfz4_3); (try clear hfz4_4); (try clear hfz4_5); (try clear hfz4_6); (try clear hfz7_0); (try clear hfz7_1); (try clear hfz7_2); (try clear hfz7_3); (try clear hfz7_4); (try clear hfz7_5); (try clear hfz7_6); (obtain ⟨kq, x3_1, HA, HJ1, HO_3, BK101, HB⟩ := hcut)
  cases kq with
  | zero => exact absurd HA.out (by simp [impl_fieldLine.j0])
  | succ kj1 =>
   (have H := HA.out); clear HA; (simp only [impl_fieldLine.j0] at H); (by_cases c38 : a0_5 = true)
   ·subst c38
    (rw [if_pos rfl] at H); (by_cases c39 : x3_1.length < 8796093022208)
    ·rw [if_pos c39] at H
     (have LMc39 := Aside0.mk c39); clear c39; (obtain ⟨y130, hy130⟩ : ∃ y_ : List ByteArray, y_ = (x3_1 ++ [(⟨#[110, 101, 101, 100, 101, 100]⟩ : ByteArray)]) := ⟨_, rfl⟩); (replace H : (if a0_6.toList = ([] : List UInt8) then ((strings_Join.f y130 (⟨#[32]⟩ : ByteArray)).bind fun t133 => (some t133)) else ((some (([(⟨#[105, 102]⟩ : ByteArray), a0_6] : List ByteArray) : List ByteArray)).bind fun y134 => (if y130.length + y134.length < 8796093022208 then ((strings_Join.f (y130 ++ y134) (⟨#[32]⟩ : ByteArray)).bind fun t140 => (some t140)) else (none)))) = some r := Q117); (have Ny130 := Aside0.mk hy130); clear hy130; (by_cases c40 : a0_6.toList = ([] : List UInt8))
     ·rw [if_pos c40] at H
      (have c40b0 : a0_6.toList.isEmpty = true := List.isEmpty_iff.mpr c40); (have c40b1 : (!a0_6.toList.isEmpty) = false := by rw [List.isEmpty_iff.mpr c40]; rfl); (have c40b2 : (a0_6.toList == ([] : List UInt8)) = true := beq_iff_eq.mpr c40); (have c40b3 : (a0_6.toList != ([] : List UInt8)) = false := bne_eq_false_iff_eq.mpr c40); clear c40; (replace H := obS H); (obtain ⟨t133, A41, H⟩ := H); (obtain rfl := Option.some.inj H); (have hcz42_0 := cz BK101.out 0); (have hcz42_1 := cz BK101.out 1); (have hcz42_2 := cz BK101.out 2); (have hcz42_3 := cz BK101.out 3); (have hcz42_4 := cz BK101.out 4); (have hcz42_5 := cz BK101.out 5); (have hcz42_6 := cz BK101.out 6); (have hfz42_0 := blk_frozen BK101.out 0); (have hfz42_1 := blk_frozen BK101.out 1); (have hfz42_2 := blk_frozen BK101.out 2); (have hfz42_3 := blk_frozen BK101.out 3); (have hfz42_4 := blk_frozen BK101.out 4); (have hfz42_5 := blk_frozen BK101.out 5); (have hfz42_6 := blk_frozen BK101.out 6); (go_wp2_with (first | ((with_reducible refine gate_builtin (b := .append) (xs := #[.tmp 44, .tmp 45]) rfl ?_); at_builtin; refine Kd.R_append Kd.string (w0 := w) w.heap.size rfl (.tmp 44) (.tmp 45) 42 9 (.string ⟨#[]⟩) 16 rfl Tryd.underlying42 info9 rfl (by decide) (by omega) u3 x3_1 (⟨#[110, 101, 101, 100, 101, 100]⟩ : ByteArray) [.string (⟨#[110, 101, 101, 100, 101, 100]⟩ : ByteArray)] (fun _ => True) (fun _ => False) rfl rfl ?aP (fun _ hk => hk.elim) ?aF ?aO ?aB ?aS ?aL ?_; (case aP => exact rfl); (case aB => exact (eI HB)); (case aF => exact Q158); (case aO => exact (rI HO_3)); (case aS => exact Q157); (case aL => have := LMc39.out; omega); intro v131 w43 ho hb hg hat; rw [← Ny130.out] at ho; have n0_ := Aside0.mk (blk_grown (kI BK101) hg (Kd.R_ne HO_3.out BK101.out (by decide))); have n1_ := Aside0.mk (hb); have n2_ := Aside0.mk (ho); clear BK101 HB HO_3; have BK101 := n0_; have HB := n1_; have HO132 := n2_; clear n0_ n1_ n2_ ho hb hg hat; have hcz44_0 := cz BK101.out 0; have hcz44_1 := cz BK101.out 1; have hcz44_2 := cz BK101.out 2; have hcz44_3 := cz BK101.out 3; have hcz44_4 := cz BK101.out 4; have hcz44_5 := cz BK101.out 5; have hcz44_6 := cz BK101.out 6; have hfz44_0 := blk_frozen BK101.out 0; have hfz44_1 := blk_frozen BK101.out 1; have hfz44_2 := blk_frozen BK101.out 2; have hfz44_3 := blk_frozen BK101.out 3; have hfz44_4 := blk_frozen BK101.out 4; have hfz44_5 := blk_frozen BK101.out 5; have hfz44_6 := blk_frozen BK101.out 6; obtain ⟨Ao45, co45, eo45⟩ := Kd.R_slice HO132.out; subst eo45) | ((with_reducible refine gate_callee (f := 53) rfl ?_); refine gL (some 56) Tryd.func53 #[.slice Ao45 y130.length co45, .string (⟨#[32]⟩ : ByteArray)] ?_; (with_reducible refine (strings_Join.calls _ _ y130 (⟨#[32]⟩ : ByteArray) t133 _ ?side1 ?side2 A41.out).mono ?_); (case side1 => repeat (first | exact (Kd.R_reads' HO132.out).2.2 | (with_reducible first | refine cA ?_ _ | refine cN ?_ _ | refine cD ?_))); (case side2 => exact (Kd.R_reads' HO132.out).2.1); rintro e w46 ⟨rfl, hb⟩; refine ⟨_, rfl, ?_⟩; have n0_ := Aside0.mk (rbI hb HO132); have n1_ := Aside0.mk (kbI hb BK101); have n2_ := Aside0.mk (sI hb HB); clear HO132 BK101 HB; have HO132 := n0_; have BK101 := n1_; have HB := n2_; clear n0_ n1_ n2_; (try clear hb); (try clear hb2); (try clear hk); (try clear hi)))); go_ret; (exact Q7)
     ·rw [if_neg c40] at H
      (have c40b0 : a0_6.toList.isEmpty = false := Q160); (have c40b1 : (!a0_6.toList.isEmpty) = true := by rw [show a0_6.toList.isEmpty = false from Q160]; rfl); (have c40b2 : (a0_6.toList == ([] : List UInt8)) = false := beq_eq_false_iff_ne.mpr c40); (have c40b3 : (a0_6.toList != ([] : List UInt8)) = true := bne_iff_ne.mpr c40); (obtain ⟨y134, hy134⟩ : ∃ y_ : List ByteArray, y_ = (([(⟨#[105, 102]⟩ : ByteArray), a0_6] : List ByteArray)) := ⟨_, rfl⟩); (replace H : (if y130.length + y134.length < 8796093022208 then ((strings_Join.f (y130 ++ y134) (⟨#[32]⟩ : ByteArray)).bind fun t140 => (some t140)) else (none)) = some r := by first | (rw [hy134]; with_reducible exact H) | (have H2_ := (Option.bind_some _ _).symm.trans H; rw [hy134]; with_reducible exact H2_) | (have H2_ := (Option.bind_some _ _).symm.trans H; with_reducible exact H2_) | with_reducible exact H | (rw [hy134]; exact H) | exact H); (have Ny134 := Aside0.mk hy134); clear hy134; (by_cases c47 : y130.length + y134.length < 8796093022208)
      ·rw [if_pos c47] at H
       (have LMc47 := Aside0.mk c47); clear c47; (obtain ⟨y137, hy137⟩ : ∃ y_ : List ByteArray, y_ = (y130 ++ y134) := ⟨_, rfl⟩); (replace H : ((strings_Join.f y137 (⟨#[32]⟩ : ByteArray)).bind fun t140 => (some t140)) = some r := by first | (rw [hy137]; with_reducible exact H) | (have H2_ := (Option.bind_some _ _).symm.trans H; rw [hy137]; with_reducible exact H2_) | (have H2_ := (Option.bind_some _ _).symm.trans H; with_reducible exact H2_) | with_reducible exact H | (rw [hy137]; exact H) | exact H); (have Ny137 := Aside0.mk hy137); clear hy137; (replace H := obS H); (obtain ⟨t140, A48, H⟩ := H); (obtain rfl := Option.some.inj H); (have hcz49_0 := cz BK101.out 0); (have hcz49_1 := cz BK101.out 1); (have hcz49_2 := cz BK101.out 2); (have hcz49_3 := cz BK101.out 3); (have hcz49_4 := cz BK101.out 4); (have hcz49_5 := cz BK101.out 5); (have hcz49_6 := cz BK101.out 6); (have hfz49_0 := blk_frozen BK101.out 0); (have hfz49_1 := blk_frozen BK101.out 1); (have hfz49_2 := blk_frozen BK101.out 2); (have hfz49_3 := blk_frozen BK101.out 3); (have hfz49_4 := blk_frozen BK101.out 4); (have hfz49_5 := blk_frozen BK101.out 5); (have hfz49_6 := blk_frozen BK101.out 6)
       go_wp2_with (first | ((with_reducible refine gate_builtin (b := .append) (xs := #[.tmp 44, .tmp 45]) rfl ?_); at_builtin; refine Kd.R_append Kd.string (w0 := w) w.heap.size rfl (.tmp 44) (.tmp 45) 42 9 (.string ⟨#[]⟩) 16 rfl Tryd.underlying42 info9 rfl (by decide) (by omega) u3 x3_1 (⟨#[110, 101, 101, 100, 101, 100]⟩ : ByteArray) [.string (⟨#[110, 101, 101, 100, 101, 100]⟩ : ByteArray)] (fun _ => True) (fun _ => False) rfl rfl ?aP (fun _ hk => hk.elim) ?aF ?aO ?aB ?aS ?aL ?_; (case aP => exact rfl); (case aB => exact (eI HB)); (case aF => exact Q158); (case aO => exact (rI HO_3)); (case aS => exact Q157); (case aL => have := LMc39.out; omega); intro v131 w50 ho hb hg hat; rw [← Ny130.out] at ho; have n0_ := Aside0.mk (blk_grown (kI BK101) hg (Kd.R_ne HO_3.out BK101.out (by decide))); have n1_ := Aside0.mk (hb); have n2_ := Aside0.mk (ho); clear BK101 HB HO_3; have BK101 := n0_; have HB := n1_; have HO132 := n2_; clear n0_ n1_ n2_ ho hb hg hat; have hcz51_0 := cz BK101.out 0; have hcz51_1 := cz BK101.out 1; have hcz51_2 := cz BK101.out 2; have hcz51_3 := cz BK101.out 3; have hcz51_4 := cz BK101.out 4; have hcz51_5 := cz BK101.out 5; have hcz51_6 := cz BK101.out 6; have hfz51_0 := blk_frozen BK101.out 0; have hfz51_1 := blk_frozen BK101.out 1; have hfz51_2 := blk_frozen BK101.out 2; have hfz51_3 := blk_frozen BK101.out 3; have hfz51_4 := blk_frozen BK101.out 4; have hfz51_5 := blk_frozen BK101.out 5; have hfz51_6 := blk_frozen BK101.out 6) | ((with_reducible refine gate_dst (N := 53) rfl ?_); refine Kd.R_lit Kd.string _ 9 ?hg (N := 53) ?hd (xs := ([(⟨#[105, 102]⟩ : ByteArray), a0_6] : List ByteArray)) (inner := [.string (⟨#[105, 102]⟩ : ByteArray), .string a0_6]) (ok := fun _ => True) (okp := fun _ => True) ?hr ?hp (fun _ hk => hk) trivial (Below.refl _ _) (Nat.le_refl _) (by simp) ?_; (case hd => rfl); (case hg => rfl); (case hr => first | (go_simp; done) | (go_simp; rfl)); (case hp => exact Q161); intro v135 w52 ho53 hb hg_ hnew_; clear hg_ hnew_; (first | rw [← Ny134.out] at ho53 | (simp only [Int.reduceToNat] at ho53; rw [← Ny134.out] at ho53)); have n0_ := Aside0.mk (Kd.R_elder' (rI HO132) (Kd.R_base ho53) hb); have hB_ := zI hb HB; have n1_ := Aside0.mk (Kd.R_lower (Kd.R_new' ho53 (Kd.R_lt (rI HO132))) (below_size hB_)); have n2_ := Aside0.mk (kbI hb BK101); have n3_ := Aside0.mk (below_step hB_ hb); clear HO132 BK101 HB; have HO132 := n0_; have HO136 := n1_; have BK101 := n2_; have HB := n3_; clear n0_ n1_ n2_ n3_ hB_ hb ho53; obtain ⟨Ao55, co55, eo55⟩ := Kd.R_slice HO136.out; subst eo55) | ((with_reducible refine gate_builtin (b := .append) (xs := #[.tmp 50, .tmp 53]) rfl ?_); at_builtin; refine Kd.R_append_rows Kd.string (w0 := w) w.heap.size rfl (.tmp 50) (.tmp 53) 42 9 (.string ⟨#[]⟩) 16 rfl Tryd.underlying42 info9 rfl (by decide) (by omega) v131 y130 y134 _ _ _ (fun k_ => some k_ ≠ (.slice Ao55 y134.length co55 : Value).ownBlock) (fun _ => False) rfl rfl ?aO ?aR (fun _ _ h => h) (fun _ h => h.elim) ?aF ?aB ?aS ?aL ?_; (case aR => repeat (first | exact (Kd.R_reads' HO136.out).2.2 | (with_reducible first | refine cA ?_ _ | refine cN ?_ _ | refine cD ?_))); (case aB => exact (eI HB)); (case aF => exact (fun k_ hk => Kd.fresh' (Kd.R_lt (rI HO136)) k_ hk)); (case aO => exact (by (with_reducible repeat (first | apply rA | apply rN | apply rD)); exact Kd.R_mono HO132.out (fun _ hk => hk.2))); (case aS => exact Q157); (case aL => have := LMc47.out; omega); intro v138 w54 ho hb hg hat; rw [← Ny137.out] at ho; have n0_ := Aside0.mk (blk_grown (kI BK101) hg (Kd.R_ne HO132.out BK101.out (by decide))); have n1_ := Aside0.mk (Kd.R_after (ok := (fun _ => True)) (rI HO136) hg hat); have n2_ := Aside0.mk (hb); have n3_ := Aside0.mk (ho); clear BK101 HO136 HB HO132; have BK101 := n0_; have HO136 := n1_; have HB := n2_; have HO139 := n3_; clear n0_ n1_ n2_ n3_ ho hb hg hat; obtain ⟨Ao56, co56, eo56⟩ := Kd.R_slice HO139.out; subst eo56) | ((with_reducible refine gate_callee (f := 53) rfl ?_); refine gL (some 56) Tryd.func53 #[.slice Ao56 y137.length co56, .string (⟨#[32]⟩ : ByteArray)] ?_; (with_reducible refine (strings_Join.calls _ _ y137 (⟨#[32]⟩ : ByteArray) t140 _ ?side1 ?side2 A48.out).mono ?_); (case side1 => repeat (first | exact (Kd.R_reads' HO139.out).2.2 | (with_reducible first | refine cA ?_ _ | refine cN ?_ _ | refine cD ?_))); (case side2 => exact (Kd.R_reads' HO139.out).2.1); rintro e w57 ⟨rfl, hb⟩; refine ⟨_, rfl, ?_⟩; have n0_ := Aside0.mk (rbI hb HO136); have n1_ := Aside0.mk (rbI hb HO139); have n2_ := Aside0.mk (kbI hb BK101); have n3_ := Aside0.mk (sI hb HB); clear HO136 HO139 BK101 HB; have HO136 := n0_; have HO139 := n1_; have BK101 := n2_; have HB := n3_; clear n0_ n1_ n2_ n3_; (try clear hb); (try clear hb2); (try clear hk); (try clear hi)))
       go_ret; (exact Q7)
      ·rw [if_neg c47] at H
       exact Q3
    ·rw [if_neg c39] at H
     exact Q3
   ·replace c38 := Bool.eq_false_iff.mpr c38
    subst c38; (rw [if_neg (show ¬ (false = true) by decide)] at H); (by_cases c58 : a0_6.toList = ([] : List UInt8))
    ·rw [if_pos c58] at H
     (have c58b0 : a0_6.toList.isEmpty = true := List.isEmpty_iff.mpr c58); (have c58b1 : (!a0_6.toList.isEmpty) = false := by rw [List.isEmpty_iff.mpr c58]; rfl); (have c58b2 : (a0_6.toList == ([] : List UInt8)) = true := beq_iff_eq.mpr c58); (have c58b3 : (a0_6.toList != ([] : List UInt8)) = false := bne_eq_false_iff_eq.mpr c58); clear c58; (replace H := obS H); (obtain ⟨t141, A59, H⟩ := H); (obtain rfl := Option.some.inj H); (have hcz60_0 := cz BK101.out 0); (have hcz60_1 := cz BK101.out 1); (have hcz60_2 := cz BK101.out 2); (have hcz60_3 := cz BK101.out 3); (have hcz60_4 := cz BK101.out 4); (have hcz60_5 := cz BK101.out 5); (have hcz60_6 := cz BK101.out 6); (have hfz60_0 := blk_frozen BK101.out 0); (have hfz60_1 := blk_frozen BK101.out 1); (have hfz60_2 := blk_frozen BK101.out 2); (have hfz60_3 := blk_frozen BK101.out 3); (have hfz60_4 := blk_frozen BK101.out 4); (have hfz60_5 := blk_frozen BK101.out 5); (have hfz60_6 := blk_frozen BK101.out 6); (obtain ⟨Ao61, co61, eo61⟩ := Kd.R_slice HO_3.out); subst eo61; (go_wp2_with (first | ((with_reducible refine gate_callee (f := 53) rfl ?_); refine gL (some 56) Tryd.func53 #[.slice Ao61 x3_1.length co61, .string (⟨#[32]⟩ : ByteArray)] ?_; (with_reducible refine (strings_Join.calls _ _ x3_1 (⟨#[32]⟩ : ByteArray) t141 _ ?side1 ?side2 A59.out).mono ?_); (case side1 => repeat (first | exact (Kd.R_reads' HO_3.out).2.2 | (with_reducible first | refine cA ?_ _ | refine cN ?_ _ | refine cD ?_))); (case side2 => exact (Kd.R_reads' HO_3.out).2.1); rintro e w62 ⟨rfl, hb⟩; refine ⟨_, rfl, ?_⟩; have n0_ := Aside0.mk (rbI hb HO_3); have n1_ := Aside0.mk (kbI hb BK101); have n2_ := Aside0.mk (sI hb HB); clear HO_3 BK101 HB; have HO_3 := n0_; have BK101 := n1_; have HB := n2_; clear n0_ n1_ n2_; (try clear hb); (try clear hb2); (try clear hk); (try clear hi)))); go_ret; (exact Q7)
    ·rw [if_neg c58] at H
     (have c58b0 : a0_6.toList.isEmpty = false := Q162); (have c58b1 : (!a0_6.toList.isEmpty) = true := by rw [show a0_6.toList.isEmpty = false from Q162]; rfl); (have c58b2 : (a0_6.toList == ([] : List UInt8)) = false := beq_eq_false_iff_ne.mpr c58); (have c58b3 : (a0_6.toList != ([] : List UInt8)) = true := bne_iff_ne.mpr c58); (obtain ⟨y142, hy142⟩ : ∃ y_ : List ByteArray, y_ = (([(⟨#[105, 102]⟩ : ByteArray), a0_6] : List ByteArray)) := ⟨_, rfl⟩); (replace H : (if x3_1.length + y142.length < 8796093022208 then ((strings_Join.f (x3_1 ++ y142) (⟨#[32]⟩ : ByteArray)).bind fun t148 => (some t148)) else (none)) = some r := Q128); (have Ny142 := Aside0.mk hy142); clear hy142; (by_cases c63 : x3_1.length + y142.length < 8796093022208)
     ·rw [if_pos c63] at H
      (have LMc63 := Aside0.mk c63); clear c63; (obtain ⟨y145, hy145⟩ : ∃ y_ : List ByteArray, y_ = (x3_1 ++ y142) := ⟨_, rfl⟩); (replace H : ((strings_Join.f y145 (⟨#[32]⟩ : ByteArray)).bind fun t148 => (some t148)) = some r := by first | (rw [hy145]; with_reducible exact H) | (have H2_ := (Option.bind_some _ _).symm.trans H; rw [hy145]; with_reducible exact H2_) | (have H2_ := (Option.bind_some _ _).symm.trans H; with_reducible exact H2_) | with_reducible exact H | (rw [hy145]; exact H) | exact H); (have Ny145 := Aside0.mk hy145); clear hy145; (replace H := obS H); (obtain ⟨t148, A64, H⟩ := H); (obtain rfl := Option.some.inj H); (have hcz65_0 := cz BK101.out 0); (have hcz65_1 := cz BK101.out 1); (have hcz65_2 := cz BK101.out 2); (have hcz65_3 := cz BK101.out 3); (have hcz65_4 := cz BK101.out 4); (have hcz65_5 := cz BK101.out 5); (have hcz65_6 := cz BK101.out 6); (have hfz65_0 := blk_frozen BK101.out 0); (have hfz65_1 := blk_frozen BK101.out 1); (have hfz65_2 := blk_frozen BK101.out 2); (have hfz65_3 := blk_frozen BK101.out 3); (have hfz65_4 := blk_frozen BK101.out 4); (have hfz65_5 := blk_frozen BK101.out 5); (have hfz65_6 := blk_frozen BK101.out 6)
      (go_wp2_with (first | ((with_reducible refine gate_dst (N := 53) rfl ?_); refine Kd.R_lit Kd.string _ 9 ?hg (N := 53) ?hd (xs := ([(⟨#[105, 102]⟩ : ByteArray), a0_6] : List ByteArray)) (inner := [.string (⟨#[105, 102]⟩ : ByteArray), .string a0_6]) (ok := fun _ => True) (okp := fun _ => True) ?hr ?hp (fun _ hk => hk) trivial (Below.refl _ _) (Nat.le_refl _) (by simp) ?_; (case hd => rfl); (case hg => rfl); (case hr => first | (go_simp; done) | (go_simp; rfl)); (case hp => exact Q161); intro v143 w66 ho67 hb hg_ hnew_; clear hg_ hnew_; (first | rw [← Ny142.out] at ho67 | (simp only [Int.reduceToNat] at ho67; rw [← Ny142.out] at ho67)); have n0_ := Aside0.mk (Kd.R_elder' (rI HO_3) (Kd.R_base ho67) hb); have hB_ := zI hb HB; have n1_ := Aside0.mk (Kd.R_lower (Kd.R_new' ho67 (Kd.R_lt (rI HO_3))) (below_size hB_)); have n2_ := Aside0.mk (kbI hb BK101); have n3_ := Aside0.mk (below_step hB_ hb); clear HO_3 BK101 HB; have HO_3 := n0_; have HO144 := n1_; have BK101 := n2_; have HB := n3_; clear n0_ n1_ n2_ n3_ hB_ hb ho67; obtain ⟨Ao69, co69, eo69⟩ := Kd.R_slice HO144.out; subst eo69) | ((with_reducible refine gate_builtin (b := .append) (xs := #[.tmp 50, .tmp 53]) rfl ?_); at_builtin; refine Kd.R_append_rows Kd.string (w0 := w) w.heap.size rfl (.tmp 50) (.tmp 53) 42 9 (.string ⟨#[]⟩) 16 rfl Tryd.underlying42 info9 rfl (by decide) (by omega) u3 x3_1 y142 _ _ _ (fun k_ => some k_ ≠ (.slice Ao69 y142.length co69 : Value).ownBlock) (fun _ => False) rfl rfl ?aO ?aR (fun _ _ h => h) (fun _ h => h.elim) ?aF ?aB ?aS ?aL ?_; (case aR => repeat (first | exact (Kd.R_reads' HO144.out).2.2 | (with_reducible first | refine cA ?_ _ | refine cN ?_ _ | refine cD ?_))); (case aB => exact (eI HB)); (case aF => exact (fun k_ hk => Kd.fresh' (Kd.R_lt (rI HO144)) k_ hk)); (case aO => exact (by (with_reducible repeat (first | apply rA | apply rN | apply rD)); exact Kd.R_mono HO_3.out (fun _ hk => hk.2))); (case aS => exact Q157); (case aL => have := LMc63.out; omega); intro v146 w68 ho hb hg hat; rw [← Ny145.out] at ho; have n0_ := Aside0.mk (blk_grown (kI BK101) hg (Kd.R_ne HO_3.out BK101.out (by decide))); have n1_ := Aside0.mk (Kd.R_after (ok := (fun _ => True)) (rI HO144) hg hat); have n2_ := Aside0.mk (hb); have n3_ := Aside0.mk (ho); clear BK101 HO144 HB HO_3; have BK101 := n0_; have HO144 := n1_; have HB := n2_; have HO147 := n3_; clear n0_ n1_ n2_ n3_ ho hb hg hat; obtain ⟨Ao70, co70, eo70⟩ := Kd.R_slice HO147.out; subst eo70) | ((with_reducible refine gate_callee (f := 53) rfl ?_); refine gL (some 56) Tryd.func53 #[.slice Ao70 y145.length co70, .string (⟨#[32]⟩ : ByteArray)] ?_; (with_reducible refine (strings_Join.calls _ _ y145 (⟨#[32]⟩ : ByteArray) t148 _ ?side1 ?side2 A64.out).mono ?_); (case side1 => repeat (first | exact (Kd.R_reads' HO147.out).2.2 | (with_reducible first | refine cA ?_ _ | refine cN ?_ _ | refine cD ?_))); (case side2 => exact (Kd.R_reads' HO147.out).2.1); rintro e w71 ⟨rfl, hb⟩; refine ⟨_, rfl, ?_⟩; have n0_ := Aside0.mk (rbI hb HO144); have n1_ := Aside0.mk (rbI hb HO147); have n2_ := Aside0.mk (kbI hb BK101); have n3_ := Aside0.mk (sI hb HB); clear HO144 HO147 BK101 HB; have HO144 := n0_; have HO147 := n1_; have BK101 := n2_; have HB := n3_; clear n0_ n1_ n2_ n3_; (try clear hb); (try clear hb2); (try clear hk); (try clear hi)))); go_ret; (exact Q7)
     ·rw [if_neg c63] at H
      exact Q3
/-! ### impl_withNewlines: function 28 -/
def impl_withNewlines.l0 : Nat → ByteArray → List ByteArray → Int → Int → Option (ByteArray)
 | 0, _, _, _, _ => none
 | k + 1, x3, x6, x7, x8 => if x8 < x7 then (if 0 ≤ x8 then (if x8 < (x6.length : Int) then (if (rdOf ByteArray.empty x6 x8).size + 1 ≤ 9223372036854775807 then (if x3.size + ((rdOf ByteArray.empty x6 x8) ++ (⟨#[10]⟩ : ByteArray)).size ≤ 9223372036854775807 then (impl_withNewlines.l0 k (x3 ++ ((rdOf ByteArray.empty x6 x8) ++ (⟨#[10]⟩ : ByteArray))) x6 x7 (wrap64 (x8 + 1))) else (none)) else (none)) else (none)) else (none)) else (some x3)
def impl_withNewlines.f (k : Nat) (l0 : List ByteArray) : Option (ByteArray) := impl_withNewlines.l0 k (⟨#[]⟩ : ByteArray) l0 (l0.length : Int) 0
set_option maxHeartbeats 8000000 in
set_option maxRecDepth 100000 in
theorem impl_withNewlines.calls (k : Nat) (A0 : Option Addr) (c0 : Nat) (l0 : List ByteArray) (r : ByteArray) (w : World) (hr0 : Kd.C Kd.string w A0 l0.length l0) (hc0 : l0.length ≤ c0) (h : impl_withNewlines.f k l0 = some r) :
  Calls Tryd.prog 28 #[.slice A0 l0.length c0] w fun e w' => e = .returned (.string r) ∧ Drawn0 w w' := by
 (have HR0 := Aside0.mk hr0); (have HC0 := Aside0.mk hc0); clear hr0 hc0; (unfold impl_withNewlines.f at h); (have H := h); clear h; (have H' := Aside0.mk H); clear H; (go_enter Tryd.func28, Tryd.ntmps28); (go_wp2); (go_loopg [3, 8] k (fun kq v3 v8 w' => ∃ (x3_1 : ByteArray) (x8_1 : Int), v3 = .string x3_1 ∧ v8 = .int .i64 x8_1 ∧ Aside0 (impl_withNewlines.l0 kq x3_1 l0 (l0.length : Int) x8_1 = some r) ∧ Aside0 (kq ≤ k) ∧ Drawn0 w w'))
 case atStart => exact ⟨((⟨#[]⟩ : ByteArray)), (0), Q5, Q5, H', ⟨Nat.le_refl _⟩, Q20⟩
 case round =>
  (clear H'); (obtain ⟨x3_1, x8_1, rfl, rfl, HA, HK1, ⟨m1, rfl⟩⟩ := hrel)
  cases gk with
  | zero => exact absurd HA.out (by simp [impl_withNewlines.l0])
  | succ k1 =>
   (have H := HA.out); clear HA; (simp only [impl_withNewlines.l0] at H); (by_cases c2 : x8_1 < (l0.length : Int))
   ·rw [if_pos c2] at H
    (have c2b0 := decide_eq_true c2); clear c2; (by_cases c3 : 0 ≤ x8_1)
    ·rw [if_pos c3] at H
     (have c3b0 := decide_eq_true c3); clear c3; (by_cases c4 : x8_1 < (l0.length : Int))
     ·rw [if_pos c4] at H
      (have c4b0 := decide_eq_true c4); clear c4; (by_cases c5 : (rdOf ByteArray.empty l0 x8_1).size + 1 ≤ 9223372036854775807)
      ·rw [if_pos c5] at H
       (have c5b0 := eq_true c5); (have c5b1 := decide_eq_true c5); (try have c5b2 : (9223372036854775807 < (rdOf ByteArray.empty l0 x8_1).size + 1) = False := eq_false (Nat.not_lt.2 c5)); (by_cases c6 : x3_1.size + ((rdOf ByteArray.empty l0 x8_1) ++ (⟨#[10]⟩ : ByteArray)).size ≤ 9223372036854775807)
       ·rw [if_pos c6] at H
        (have c6b0 := eq_true c6); (have c6b1 := decide_eq_true c6); (try have c6n0 := c6b0); (try (push_cast [Int.toNat_natCast, ByteArray.size_append, show (⟨#[10]⟩ : ByteArray).size = 1 from rfl] at c6n0)); (try have c6n1 := c6b1); (try (push_cast [Int.toNat_natCast, ByteArray.size_append, show (⟨#[10]⟩ : ByteArray).size = 1 from rfl] at c6n1)); (try have c6b2 : (9223372036854775807 < x3_1.size + ((rdOf ByteArray.empty l0 x8_1) ++ (⟨#[10]⟩ : ByteArray)).size) = False := eq_false (Nat.not_lt.2 c6)); (try have c6b3 := c6b2); (try simp only [ByteArray.size_append, show (⟨#[10]⟩ : ByteArray).size = 1 from rfl] at c6b3); (have H' := Aside0.mk H); clear H; (have p101 : 0 ≤ (x8_1 : Int) := odt); (have q101 : x8_1 < (l0.length : Int) := odt); (obtain ⟨ad101, e101, hx101_0⟩ := Kd.at_string HR0.out x8_1 p101 q101); (cases e101); (replace p101 := eq_true p101); (replace q101 := eq_true q101); (go_wp2); go_roundg k1
        case measure => have := HK1.out; omega
        case rel => exact ⟨(x3_1 ++ ((rdOf ByteArray.empty l0 x8_1) ++ (⟨#[10]⟩ : ByteArray))), (wrap64 (x8_1 + 1)), Q5, Q5, H', ⟨Q16⟩, Q20⟩
       ·rw [if_neg c6] at H
        exact Q3
      ·rw [if_neg c5] at H
       exact Q3
     ·rw [if_neg c4] at H
      exact Q3
    ·rw [if_neg c3] at H
     exact Q3
   ·rw [if_neg c2] at H
    (have c2b0 := decide_eq_false c2); clear c2; (obtain rfl := Option.some.inj H); (go_wp2); go_ret; (exact Q1)
/-! ### impl_FormatForm: function 7 -/
def impl_FormatForm.l0 : Nat → List ByteArray → List (S54) → Int → Int → Option (ByteArray × Bool)
 | 0, _, _, _, _ => none
 | k + 1, x4, x11, x12, x13 => if x13 < x12 then (if 0 ≤ x13 then (if x13 < (x11.length : Int) then ((slices_Contains_string_string.f k ((rd_T54 x11 x13).f4) (⟨#[110, 101, 101, 100, 101, 100]⟩ : ByteArray)).bind fun t108 => (if t108 = true then (some ((⟨#[]⟩ : ByteArray), false)) else ((slices_Contains_string_string.f k ((rd_T54 x11 x13).f4) (⟨#[105, 102]⟩ : ByteArray)).bind fun t109 => (if t109 = true then (some ((⟨#[]⟩ : ByteArray), false)) else ((impl_fieldLine.f k ((rd_T54 x11 x13).f0) ((rd_T54 x11 x13).f1) ((rd_T54 x11 x13).f2) ((rd_T54 x11 x13).f3) ((rd_T54 x11 x13).f4) ((rd_T54 x11 x13).f5) ((rd_T54 x11 x13).f6)).bind fun t110 => (if x4.length < 8796093022208 then (impl_FormatForm.l0 k (x4 ++ [t110]) x11 x12 (wrap64 (x13 + 1))) else (none))))))) else (none)) else (none)) else ((impl_withNewlines.f k x4).bind fun t105 => (some (t105, true)))
def impl_FormatForm.f (k : Nat) (l0 : List (S54)) : Option (ByteArray × Bool) := (impl_IsValidForm.f k l0).bind fun t101 => (if t101 = true then (impl_FormatForm.l0 k (([] : List ByteArray)) l0 (l0.length : Int) 0) else (some ((⟨#[]⟩ : ByteArray), false)))
set_option maxHeartbeats 8000000 in
set_option maxRecDepth 100000 in
theorem impl_FormatForm.calls (k : Nat) (A0 : Option Addr) (c0 : Nat) (l0 : List (S54)) (r1 : ByteArray) (r2 : Bool) (w : World) (hr0 : Kd.C k54 w A0 l0.length l0) (hc0 : l0.length ≤ c0) (hG : GT w) (h : impl_FormatForm.f k l0 = some (r1, r2)) :
  Calls Tryd.prog 7 #[.slice A0 l0.length c0] w fun e w' => e = .returned (.tuple #[.string r1, .bool r2]) ∧ Below w.heap.size w w' := by
 (have hu54 := Tryd.underlying54); (have HR0 := Aside0.mk hr0); (have HC0 := Aside0.mk hc0); clear hr0 hc0; (have HG := Aside0.mk hG); clear hG; (have HB := Aside0.mk (Below.refl w.heap.size w)); (unfold impl_FormatForm.f at h); (have H := h); clear h; (replace H := obS H); (obtain ⟨t101, A2, H⟩ := H); (by_cases c3 : t101 = true)
 ·subst c3
  (rw [if_pos rfl] at H); (obtain ⟨y102, hy102⟩ : ∃ y_ : List ByteArray, y_ = (([] : List ByteArray)) := ⟨_, rfl⟩); (replace H : (impl_FormatForm.l0 k y102 l0 (l0.length : Int) 0) = some (r1, r2) := Q154); (have Ny102 := Aside0.mk hy102); clear hy102; (have H' := Aside0.mk H); clear H; (go_enter Tryd.func7, Tryd.ntmps7); (go_wp2_with (first | ((with_reducible refine gate_callee (f := 10) rfl ?_); refine gL (some 8) Tryd.func10 #[.slice A0 l0.length c0] ?_; (with_reducible refine (impl_IsValidForm.calls k _ _ l0 true _ ?side1 ?side2 A2.out).mono ?_); (case side1 => exact cI HR0.out); (case side2 => exact HC0.out); rintro e w4 ⟨rfl, hb⟩; refine ⟨_, rfl, ?_⟩; have n0_ := Aside0.mk (sI hb HB); clear HB; have HB := n0_; clear n0_; (try clear hb); (try clear hb2); (try clear hk); (try clear hi)) | ((with_reducible refine gate_dst (N := 10) rfl ?_); refine Kd.R_lit Kd.string _ 9 ?hg (N := 10) ?hd (xs := ([] : List ByteArray)) (inner := []) (ok := fun _ => True) (okp := fun _ => True) ?hr ?hp (fun _ hk => hk) trivial (Below.refl _ _) (Nat.le_refl _) (by simp) ?_; (case hd => rfl); (case hg => rfl); (case hr => first | (go_simp; done) | (go_simp; rfl)); (case hp => exact (Reps.none _ _)); intro v103 w5 ho6 hb hg_ hnew_; clear hg_ hnew_; (first | rw [← Ny102.out] at ho6 | (simp only [Int.reduceToNat] at ho6; rw [← Ny102.out] at ho6)); have hB_ := zI hb HB; have n0_ := Aside0.mk (Kd.R_lower ho6 (below_size hB_)); have n1_ := Aside0.mk (below_step hB_ hb); clear HB; have HO104 := n0_; have HB := n1_; clear n0_ n1_ hB_ hb ho6))); (go_loopg [4, 13] k (fun kq v4 v13 w' => ∃ (x4_1 : List ByteArray) (x13_1 : Int), v13 = .int .i64 x13_1 ∧ Aside0 (impl_FormatForm.l0 kq x4_1 l0 (l0.length : Int) x13_1 = some (r1, r2)) ∧ Aside0 (kq ≤ k) ∧ Aside0 (Kd.R Kd.string 9 w' w.heap.size (fun _ => True) v4 x4_1) ∧ Aside0 (Below w.heap.size w w')))
  case atStart => exact ⟨(y102), (0), Q5, H', ⟨Nat.le_refl _⟩, ⟨rI HO104⟩, ⟨eI HB⟩⟩
  case round =>
   (clear H'); (try clear c1); (try clear p2); (try clear c3); (obtain ⟨x4_1, x13_1, rfl, HA, HK1, HO_4, HB⟩ := hrel)
   cases gk with
   | zero => exact absurd HA.out (by simp [impl_FormatForm.l0])
   | succ k1 =>
    (have H := HA.out); clear HA; (simp only [impl_FormatForm.l0] at H); (by_cases c7 : x13_1 < (l0.length : Int))
    ·rw [if_pos c7] at H
     (have c7b0 := decide_eq_true c7); clear c7; (by_cases c8 : 0 ≤ x13_1)
     ·rw [if_pos c8] at H
      (have c8b0 := decide_eq_true c8); clear c8; (by_cases c9 : x13_1 < (l0.length : Int))
      ·rw [if_pos c9] at H
       (have c9b0 := decide_eq_true c9); clear c9; (replace H := obS H); (obtain ⟨t108, A10, H⟩ := H); (by_cases c11 : t108 = true)
       ·subst c11
        (rw [if_pos rfl] at H); (simp only [Option.some.injEq, Prod.mk.injEq] at H); (obtain ⟨rfl, rfl⟩ := H); (have p106 : 0 ≤ (x13_1 : Int) := of_decide_eq_true Q32); (have q106 : x13_1 < (l0.length : Int) := of_decide_eq_true Q32); (obtain ⟨ad106, A106_4, c106_4, e106, hx106_0, hx106_1, hx106_2, hx106_3, hx106_4, hx106_5, hx106_6, hl106_4, hi106_4⟩ := at_T54 HR0.out x13_1 p106 q106); (cases e106); (replace hx106_0 := (HB.out.cell (bltc w _ hx106_0)).trans hx106_0); (replace hx106_1 := (HB.out.cell (bltc w _ hx106_1)).trans hx106_1); (replace hx106_2 := (HB.out.cell (bltc w _ hx106_2)).trans hx106_2); (replace hx106_3 := (HB.out.cell (bltc w _ hx106_3)).trans hx106_3); (replace hx106_4 := (HB.out.cell (bltc w _ hx106_4)).trans hx106_4); (replace hx106_5 := (HB.out.cell (bltc w _ hx106_5)).trans hx106_5); (replace hx106_6 := (HB.out.cell (bltc w _ hx106_6)).trans hx106_6); (have HR106_4 := Aside0.mk hi106_4); (have HC106_4 := Aside0.mk hl106_4); clear hi106_4 hl106_4; (replace p106 := eq_true p106); (replace q106 := eq_true q106); (go_wp2_with (first | ((with_reducible refine gate_dst (N := 6) rfl ?_); refine box_event ?hg (N := 6) ?hd (cs := #[.string (⟨#[]⟩ : ByteArray), .int .i64 0, .int .i64 0, .int .i64 0, .slice none 0 0, .bool false, .string (⟨#[]⟩ : ByteArray)]) (t := 54) ?hr ?_; (case hd => rfl); (case hg => rfl); (case hr => first | (go_simp; done) | (go_simp; rfl)); intro gb107 hg w12 hbox hb; have n0_ := Aside0.mk (Kd.R_below Q93 hb); have hB_ := bz Q31 hb; have n1_ := Aside0.mk (below_step hB_ hb); have n2_ := Aside0.mk (hbox); have n3_ := Aside0.mk ((Q147 : w.heap.size ≤ gb107)); have n4_ := n3_; clear HO_4 HB; have HO_4 := n0_; have HB := n1_; have BK107 := n2_; have GW107 := n3_; have GE107 := n4_; clear n0_ n1_ n2_ n3_ n4_ hB_ hb hbox hg; have hcz13_0 := cz BK107.out 0; have hcz13_1 := cz BK107.out 1; have hcz13_2 := cz BK107.out 2; have hcz13_3 := cz BK107.out 3; have hcz13_4 := cz BK107.out 4; have hcz13_5 := cz BK107.out 5; have hcz13_6 := cz BK107.out 6; have hfz13_0 := blk_frozen BK107.out 0; have hfz13_1 := blk_frozen BK107.out 1; have hfz13_2 := blk_frozen BK107.out 2; have hfz13_3 := blk_frozen BK107.out 3; have hfz13_4 := blk_frozen BK107.out 4; have hfz13_5 := blk_frozen BK107.out 5; have hfz13_6 := blk_frozen BK107.out 6) | ((with_reducible refine gate_callee (f := 26) rfl ?_); refine gL (some 19) Tryd.func26 #[.slice A106_4 ((rd_T54 l0 x13_1).f4).length c106_4, .string (⟨#[110, 101, 101, 100, 101, 100]⟩ : ByteArray)] ?_; (with_reducible refine (slices_Contains_string_string.calls k1 _ _ ((rd_T54 l0 x13_1).f4) (⟨#[110, 101, 101, 100, 101, 100]⟩ : ByteArray) true _ ?side1 ?side2 A10.out).mono ?_); (case side1 => exact Q163); (case side2 => exact Q79); rintro e w' ⟨rfl, ⟨nd, rfl⟩⟩; refine ⟨_, rfl, ?_⟩))); (go_ret2); (exact Q164)
       ·replace c11 := Bool.eq_false_iff.mpr c11
        subst c11; (rw [if_neg (show ¬ (false = true) by decide)] at H); (replace H := obS H); (obtain ⟨t109, A14, H⟩ := H); (by_cases c15 : t109 = true)
        ·subst c15
         (rw [if_pos rfl] at H); (simp only [Option.some.injEq, Prod.mk.injEq] at H); (obtain ⟨rfl, rfl⟩ := H); (have p106 : 0 ≤ (x13_1 : Int) := of_decide_eq_true Q32); (have q106 : x13_1 < (l0.length : Int) := of_decide_eq_true Q32); (obtain ⟨ad106, A106_4, c106_4, e106, hx106_0, hx106_1, hx106_2, hx106_3, hx106_4, hx106_5, hx106_6, hl106_4, hi106_4⟩ := at_T54 HR0.out x13_1 p106 q106); (cases e106); (replace hx106_0 := (HB.out.cell (bltc w _ hx106_0)).trans hx106_0); (replace hx106_1 := (HB.out.cell (bltc w _ hx106_1)).trans hx106_1); (replace hx106_2 := (HB.out.cell (bltc w _ hx106_2)).trans hx106_2); (replace hx106_3 := (HB.out.cell (bltc w _ hx106_3)).trans hx106_3); (replace hx106_4 := (HB.out.cell (bltc w _ hx106_4)).trans hx106_4); (replace hx106_5 := (HB.out.cell (bltc w _ hx106_5)).trans hx106_5); (replace hx106_6 := (HB.out.cell (bltc w _ hx106_6)).trans hx106_6); (have HR106_4 := Aside0.mk hi106_4); (have HC106_4 := Aside0.mk hl106_4); clear hi106_4 hl106_4; (replace p106 := eq_true p106); (replace q106 := eq_true q106); (go_wp2_with (first | ((with_reducible refine gate_dst (N := 6) rfl ?_); refine box_event ?hg (N := 6) ?hd (cs := #[.string (⟨#[]⟩ : ByteArray), .int .i64 0, .int .i64 0, .int .i64 0, .slice none 0 0, .bool false, .string (⟨#[]⟩ : ByteArray)]) (t := 54) ?hr ?_; (case hd => rfl); (case hg => rfl); (case hr => first | (go_simp; done) | (go_simp; rfl)); intro gb107 hg w16 hbox hb; have n0_ := Aside0.mk (Kd.R_below Q93 hb); have hB_ := bz Q31 hb; have n1_ := Aside0.mk (below_step hB_ hb); have n2_ := Aside0.mk (hbox); have n3_ := Aside0.mk ((Q147 : w.heap.size ≤ gb107)); have n4_ := n3_; clear HO_4 HB; have HO_4 := n0_; have HB := n1_; have BK107 := n2_; have GW107 := n3_; have GE107 := n4_; clear n0_ n1_ n2_ n3_ n4_ hB_ hb hbox hg; have hcz17_0 := cz BK107.out 0; have hcz17_1 := cz BK107.out 1; have hcz17_2 := cz BK107.out 2; have hcz17_3 := cz BK107.out 3; have hcz17_4 := cz BK107.out 4; have hcz17_5 := cz BK107.out 5; have hcz17_6 := cz BK107.out 6; have hfz17_0 := blk_frozen BK107.out 0; have hfz17_1 := blk_frozen BK107.out 1; have hfz17_2 := blk_frozen BK107.out 2; have hfz17_3 := blk_frozen BK107.out 3; have hfz17_4 := blk_frozen BK107.out 4; have hfz17_5 := blk_frozen BK107.out 5; have hfz17_6 := blk_frozen BK107.out 6) | ((with_reducible refine gate_callee (f := 26) rfl ?_); refine gL (some 19) Tryd.func26 #[.slice A106_4 ((rd_T54 l0 x13_1).f4).length c106_4, .string (⟨#[110, 101, 101, 100, 101, 100]⟩ : ByteArray)] ?_; (with_reducible refine (slices_Contains_string_string.calls k1 _ _ ((rd_T54 l0 x13_1).f4) (⟨#[110, 101, 101, 100, 101, 100]⟩ : ByteArray) false _ ?side1 ?side2 A10.out).mono ?_); (case side1 => exact Q163); (case side2 => exact Q79); rintro e w' ⟨rfl, ⟨nd, rfl⟩⟩; refine ⟨_, rfl, ?_⟩) | (go_at_call 26; (with_reducible refine (slices_Contains_string_string.calls k1 _ _ ((rd_T54 l0 x13_1).f4) (⟨#[105, 102]⟩ : ByteArray) true _ ?side1 ?side2 A14.out).mono ?_); (case side1 => exact Q163); (case side2 => exact Q79); rintro e w' ⟨rfl, ⟨nd, rfl⟩⟩))); (go_ret2); (exact Q164)
        ·replace c15 := Bool.eq_false_iff.mpr c15
         subst c15; (rw [if_neg (show ¬ (false = true) by decide)] at H); (replace H := obS H); (obtain ⟨t110, A18, H⟩ := H); (by_cases c19 : x4_1.length < 8796093022208)
         ·rw [if_pos c19] at H
          (have LMc19 := Aside0.mk c19); clear c19; (obtain ⟨y111, hy111⟩ : ∃ y_ : List ByteArray, y_ = (x4_1 ++ [t110]) := ⟨_, rfl⟩); (replace H : (impl_FormatForm.l0 k1 y111 l0 (l0.length : Int) (wrap64 (x13_1 + 1))) = some (r1, r2) := by first | (rw [hy111]; with_reducible exact H) | (have H2_ := (Option.bind_some _ _).symm.trans H; rw [hy111]; with_reducible exact H2_) | (have H2_ := (Option.bind_some _ _).symm.trans H; with_reducible exact H2_) | with_reducible exact H | (rw [hy111]; exact H) | exact H); (have Ny111 := Aside0.mk hy111); clear hy111; (have H' := Aside0.mk H); clear H; (have p106 : 0 ≤ (x13_1 : Int) := of_decide_eq_true Q32); (have q106 : x13_1 < (l0.length : Int) := of_decide_eq_true Q32); (obtain ⟨ad106, A106_4, c106_4, e106, hx106_0, hx106_1, hx106_2, hx106_3, hx106_4, hx106_5, hx106_6, hl106_4, hi106_4⟩ := at_T54 HR0.out x13_1 p106 q106); (cases e106); (replace hx106_0 := (HB.out.cell (bltc w _ hx106_0)).trans hx106_0); (replace hx106_1 := (HB.out.cell (bltc w _ hx106_1)).trans hx106_1); (replace hx106_2 := (HB.out.cell (bltc w _ hx106_2)).trans hx106_2); (replace hx106_3 := (HB.out.cell (bltc w _ hx106_3)).trans hx106_3); (replace hx106_4 := (HB.out.cell (bltc w _ hx106_4)).trans hx106_4); (replace hx106_5 := (HB.out.cell (bltc w _ hx106_5)).trans hx106_5); (replace hx106_6 := (HB.out.cell (bltc w _ hx106_6)).trans hx106_6); (have HR106_4 := Aside0.mk hi106_4); (have HC106_4 := Aside0.mk hl106_4); clear hi106_4 hl106_4; (replace p106 := eq_true p106); (replace q106 := eq_true q106)
          go_wp2_with (first | ((with_reducible refine gate_dst (N := 6) rfl ?_); refine box_event ?hg (N := 6) ?hd (cs := #[.string (⟨#[]⟩ : ByteArray), .int .i64 0, .int .i64 0, .int .i64 0, .slice none 0 0, .bool false, .string (⟨#[]⟩ : ByteArray)]) (t := 54) ?hr ?_; (case hd => rfl); (case hg => rfl); (case hr => first | (go_simp; done) | (go_simp; rfl)); intro gb107 hg w20 hbox hb; have n0_ := Aside0.mk (Kd.R_below Q93 hb); have hB_ := bz Q31 hb; have n1_ := Aside0.mk (below_step hB_ hb); have n2_ := Aside0.mk (hbox); have n3_ := Aside0.mk ((Q147 : w.heap.size ≤ gb107)); have n4_ := n3_; clear HO_4 HB; have HO_4 := n0_; have HB := n1_; have BK107 := n2_; have GW107 := n3_; have GE107 := n4_; clear n0_ n1_ n2_ n3_ n4_ hB_ hb hbox hg; have hcz21_0 := cz BK107.out 0; have hcz21_1 := cz BK107.out 1; have hcz21_2 := cz BK107.out 2; have hcz21_3 := cz BK107.out 3; have hcz21_4 := cz BK107.out 4; have hcz21_5 := cz BK107.out 5; have hcz21_6 := cz BK107.out 6; have hfz21_0 := blk_frozen BK107.out 0; have hfz21_1 := blk_frozen BK107.out 1; have hfz21_2 := blk_frozen BK107.out 2; have hfz21_3 := blk_frozen BK107.out 3; have hfz21_4 := blk_frozen BK107.out 4; have hfz21_5 := blk_frozen BK107.out 5; have hfz21_6 := blk_frozen BK107.out 6) | ((with_reducible refine gate_callee (f := 26) rfl ?_); refine gL (some 19) Tryd.func26 #[.slice A106_4 ((rd_T54 l0 x13_1).f4).length c106_4, .string (⟨#[110, 101, 101, 100, 101, 100]⟩ : ByteArray)] ?_; (with_reducible refine (slices_Contains_string_string.calls k1 _ _ ((rd_T54 l0 x13_1).f4) (⟨#[110, 101, 101, 100, 101, 100]⟩ : ByteArray) false _ ?side1 ?side2 A10.out).mono ?_); (case side1 => exact Q163); (case side2 => exact Q79); rintro e w' ⟨rfl, ⟨nd, rfl⟩⟩; refine ⟨_, rfl, ?_⟩) | (go_at_call 26; (with_reducible refine (slices_Contains_string_string.calls k1 _ _ ((rd_T54 l0 x13_1).f4) (⟨#[105, 102]⟩ : ByteArray) false _ ?side1 ?side2 A14.out).mono ?_); (case side1 => exact Q163); (case side2 => exact Q79); rintro e w' ⟨rfl, ⟨nd, rfl⟩⟩) | ((with_reducible refine gate_callee (f := 27) rfl ?_); refine gL (some 27) Tryd.func27 #[.agg #[.string ((rd_T54 l0 x13_1).f0), .int .i64 ((rd_T54 l0 x13_1).f1), .int .i64 ((rd_T54 l0 x13_1).f2), .int .i64 ((rd_T54 l0 x13_1).f3), .slice A106_4 ((rd_T54 l0 x13_1).f4).length c106_4, .bool ((rd_T54 l0 x13_1).f5), .string ((rd_T54 l0 x13_1).f6)]] ?_; (with_reducible refine (impl_fieldLine.calls k1 ((rd_T54 l0 x13_1).f0) ((rd_T54 l0 x13_1).f1) ((rd_T54 l0 x13_1).f2) ((rd_T54 l0 x13_1).f3) _ _ ((rd_T54 l0 x13_1).f4) ((rd_T54 l0 x13_1).f5) ((rd_T54 l0 x13_1).f6) t110 _ ?side1 ?side2 ?side3 A18.out).mono ?_); (case side1 => exact Q163); (case side2 => exact Q79); (case side3 => first | exact GT.below HG.out Q165 | (repeat (first | exact HG.out | (with_reducible first | apply GT.drewN | apply GT.drew | apply GT.alloc)))); rintro e w22 ⟨rfl, hb⟩; refine ⟨_, rfl, ?_⟩; have n0_ := Aside0.mk (Kd.R_below (by (with_reducible repeat (first | apply rA | apply rN | apply rD)); exact (Kd.R_mono (Kd.R_far (p := ⟨gb107, 6, none⟩) (Kd.R_far (p := ⟨gb107, 5, none⟩) (Kd.R_far (p := ⟨gb107, 4, none⟩) (Kd.R_far (p := ⟨gb107, 3, none⟩) (Kd.R_far (p := ⟨gb107, 2, none⟩) (Kd.R_far (p := ⟨gb107, 1, none⟩) (Kd.R_far (p := ⟨gb107, 0, none⟩) (Kd.R_types HO_4.out BK107.out (by decide)) (fun _ hk => hk.2) (.string ((rd_T54 l0 x13_1).f0))) (fun _ hk => hk.2) (.int .i64 ((rd_T54 l0 x13_1).f1))) (fun _ hk => hk.2) (.int .i64 ((rd_T54 l0 x13_1).f2))) (fun _ hk => hk.2) (.int .i64 ((rd_T54 l0 x13_1).f3))) (fun _ hk => hk.2) (.slice A106_4 ((rd_T54 l0 x13_1).f4).length c106_4)) (fun _ hk => hk.2) (.bool ((rd_T54 l0 x13_1).f5))) (fun _ hk => hk.2) (.string ((rd_T54 l0 x13_1).f6))) (fun _ h_ => h_.1))) hb); have n1_ := Aside0.mk (blk_below (g := gb107) (o := .cells #[.string ((rd_T54 l0 x13_1).f0), .int .i64 ((rd_T54 l0 x13_1).f1), .int .i64 ((rd_T54 l0 x13_1).f2), .int .i64 ((rd_T54 l0 x13_1).f3), .slice A106_4 ((rd_T54 l0 x13_1).f4).length c106_4, .bool ((rd_T54 l0 x13_1).f5), .string ((rd_T54 l0 x13_1).f6)] 54 (0, 0)) (by (with_reducible repeat (first | refine kN ?_ _ | refine kD ?_ | refine kA ?_ _)); refine blk_put (cs := #[.string ((rd_T54 l0 x13_1).f0), .int .i64 ((rd_T54 l0 x13_1).f1), .int .i64 ((rd_T54 l0 x13_1).f2), .int .i64 ((rd_T54 l0 x13_1).f3), .slice A106_4 ((rd_T54 l0 x13_1).f4).length c106_4, .bool ((rd_T54 l0 x13_1).f5), .string (⟨#[]⟩ : ByteArray)]) ?_ 6 _ rfl; (with_reducible repeat (first | refine kN ?_ _ | refine kD ?_ | refine kA ?_ _)); refine blk_put (cs := #[.string ((rd_T54 l0 x13_1).f0), .int .i64 ((rd_T54 l0 x13_1).f1), .int .i64 ((rd_T54 l0 x13_1).f2), .int .i64 ((rd_T54 l0 x13_1).f3), .slice A106_4 ((rd_T54 l0 x13_1).f4).length c106_4, .bool false, .string (⟨#[]⟩ : ByteArray)]) ?_ 5 _ rfl; (with_reducible repeat (first | refine kN ?_ _ | refine kD ?_ | refine kA ?_ _)); refine blk_put (cs := #[.string ((rd_T54 l0 x13_1).f0), .int .i64 ((rd_T54 l0 x13_1).f1), .int .i64 ((rd_T54 l0 x13_1).f2), .int .i64 ((rd_T54 l0 x13_1).f3), .slice none 0 0, .bool false, .string (⟨#[]⟩ : ByteArray)]) ?_ 4 _ rfl; (with_reducible repeat (first | refine kN ?_ _ | refine kD ?_ | refine kA ?_ _)); refine blk_put (cs := #[.string ((rd_T54 l0 x13_1).f0), .int .i64 ((rd_T54 l0 x13_1).f1), .int .i64 ((rd_T54 l0 x13_1).f2), .int .i64 0, .slice none 0 0, .bool false, .string (⟨#[]⟩ : ByteArray)]) ?_ 3 _ rfl; (with_reducible repeat (first | refine kN ?_ _ | refine kD ?_ | refine kA ?_ _)); refine blk_put (cs := #[.string ((rd_T54 l0 x13_1).f0), .int .i64 ((rd_T54 l0 x13_1).f1), .int .i64 0, .int .i64 0, .slice none 0 0, .bool false, .string (⟨#[]⟩ : ByteArray)]) ?_ 2 _ rfl; (with_reducible repeat (first | refine kN ?_ _ | refine kD ?_ | refine kA ?_ _)); refine blk_put (cs := #[.string ((rd_T54 l0 x13_1).f0), .int .i64 0, .int .i64 0, .int .i64 0, .slice none 0 0, .bool false, .string (⟨#[]⟩ : ByteArray)]) ?_ 1 _ rfl; (with_reducible repeat (first | refine kN ?_ _ | refine kD ?_ | refine kA ?_ _)); refine blk_put (cs := #[.string (⟨#[]⟩ : ByteArray), .int .i64 0, .int .i64 0, .int .i64 0, .slice none 0 0, .bool false, .string (⟨#[]⟩ : ByteArray)]) ?_ 0 _ rfl; (with_reducible repeat (first | refine kN ?_ _ | refine kD ?_ | refine kA ?_ _)); exact BK107.out) hb); have n2_ := Aside0.mk (below_step Q165 hb); clear HO_4 BK107 HB; have HO_4 := n0_; have BK107 := n1_; have HB := n2_; clear n0_ n1_ n2_; (try clear hb); (try clear hb2); (try clear hk); (try clear hi)) | ((with_reducible refine gate_builtin (b := .append) (xs := #[.tmp 25, .tmp 28]) rfl ?_); at_builtin; refine Kd.R_append Kd.string (w0 := w) w.heap.size rfl (.tmp 25) (.tmp 28) 42 9 (.string ⟨#[]⟩) 16 rfl Tryd.underlying42 info9 rfl (by decide) (by omega) u4 x4_1 t110 [.string t110] (fun _ => True) (fun _ => False) rfl rfl ?aP (fun _ hk => hk.elim) ?aF ?aO ?aB ?aS ?aL ?_; (case aP => exact rfl); (case aB => exact Q165); (case aF => exact Q158); (case aO => exact Q93); (case aS => exact (below_size Q165)); (case aL => have := LMc19.out; omega); intro v112 w23 ho hb hg hat; rw [← Ny111.out] at ho; have n0_ := Aside0.mk (blk_grown (by (with_reducible repeat (first | refine kN ?_ _ | refine kD ?_ | refine kA ?_ _)); exact BK107.out) hg (Kd.R_ne HO_4.out BK107.out (by decide))); have n1_ := Aside0.mk (hb); have n2_ := Aside0.mk (ho); clear BK107 HB HO_4; have BK107 := n0_; have HB := n1_; have HO113 := n2_; clear n0_ n1_ n2_ ho hb hg hat))
          go_roundg k1
          case measure => have := HK1.out; omega
          case rel => exact ⟨(y111), (wrap64 (x13_1 + 1)), Q5, H', ⟨Q16⟩, ⟨rI HO113⟩, ⟨eI HB⟩⟩
         ·rw [if_neg c19] at H
          exact Q3
      ·rw [if_neg c9] at H
       exact Q3
     ·rw [if_neg c8] at H
      exact Q3
    ·rw [if_neg c7] at H
     (have c7b0 := decide_eq_false c7); clear c7; (replace H := obS H); (obtain ⟨t105, A24, H⟩ := H); (simp only [Option.some.injEq, Prod.mk.injEq] at H); (obtain ⟨rfl, rfl⟩ := H); (obtain ⟨Ao25, co25, eo25⟩ := Kd.R_slice HO_4.out); subst eo25; (go_wp2_with (first | ((with_reducible refine gate_callee (f := 28) rfl ?_); refine gL (some 32) Tryd.func28 #[.slice Ao25 x4_1.length co25] ?_; (with_reducible refine (impl_withNewlines.calls k1 _ _ x4_1 t105 _ ?side1 ?side2 A24.out).mono ?_); (case side1 => repeat (first | exact (Kd.R_reads' HO_4.out).2.2 | (with_reducible first | refine cA ?_ _ | refine cN ?_ _ | refine cD ?_))); (case side2 => exact (Kd.R_reads' HO_4.out).2.1); rintro e w' ⟨rfl, ⟨nd, rfl⟩⟩; refine ⟨_, rfl, ?_⟩))); (go_ret2); (exact Q7)
 ·replace c3 := Bool.eq_false_iff.mpr c3
  subst c3; (rw [if_neg (show ¬ (false = true) by decide)] at H); (simp only [Option.some.injEq, Prod.mk.injEq] at H); (obtain ⟨rfl, rfl⟩ := H); (go_enter Tryd.func7, Tryd.ntmps7); (go_wp2_with (first | ((with_reducible refine gate_callee (f := 10) rfl ?_); refine gL (some 8) Tryd.func10 #[.slice A0 l0.length c0] ?_; (with_reducible refine (impl_IsValidForm.calls k _ _ l0 false _ ?side1 ?side2 A2.out).mono ?_); (case side1 => exact cI HR0.out); (case side2 => exact HC0.out); rintro e w26 ⟨rfl, hb⟩; refine ⟨_, rfl, ?_⟩; have n0_ := Aside0.mk (sI hb HB); clear HB; have HB := n0_; clear n0_; (try clear hb); (try clear hb2); (try clear hk); (try clear hi)))); (go_ret2); (exact Q7)
end Go.Proofs.YtiaiohoadefgjaaDoor.X
namespace Go.Proofs.YtiaiohoadefgjaaDoor.X
open Go.RowKit Go.Proofs.YtiaiohoadefgjaaDoorW.PrintWords Go.Proofs.YtiaiohoadefgjaaDoorW.PrintLast Go.Proofs.YtiaiohoadefgjaaDoorW.PrintMore Go.Proofs.YtiaiohoadefgjaaDoor.E
attribute [local go_sem] max2_int min2_int max_two min_two max_three min_three max_four min_four
set_option linter.unusedVariables false
set_option linter.unusedSimpArgs false
attribute [-simp] ByteArray.size_append ByteArray.size_extract
attribute [-go_sem] ByteArray.size_append'
/-! ### strings_Split: function 29 -/
theorem reps_app {R : ByteArray → List Value → Prop} (hR : ∀ p, R p [Value.string p]) : ∀ (l acc : List ByteArray) (cs : List Value), Reps R 1 acc cs → Reps R 1 (acc ++ l) (cs ++ l.map Value.string)
 | [], acc, cs, h => by rw [List.append_nil, List.map_nil, List.append_nil]; exact h
 | a :: l, acc, cs, h => by
  (have := reps_app hR l (acc ++ [a]) (cs ++ [Value.string a]) (h.snoc (hR a) rfl)); (rw [List.append_assoc, List.append_assoc] at this); (exact this)
theorem reps_map {R : ByteArray → List Value → Prop} (hR : ∀ p, R p [Value.string p]) (l : List ByteArray) : Reps R 1 l (l.map Value.string) := reps_app hR l [] [] (Reps.none _ _)
def strings_Split.f (a0 : ByteArray) (a1 : ByteArray) : Option (List ByteArray) := if (a0.size < 4294967281 ∧ 1 ≤ a1.size) ∧ Lib.countB a0 a1 ≤ 4294967281 then some (Lib.splitB a1 0 (Lib.countB a0 a1) a0) else none
theorem strings_Split.calls (a0 : ByteArray) (a1 : ByteArray) (r : List ByteArray) (w : World) (hG : GE w) (h : strings_Split.f a0 a1 = some r) :
  Calls Tryd.prog 29 #[.string a0, .string a1] w fun e w' => ∃ v0_ : Value, e = .returned (v0_) ∧ Kd.R Kd.string 9 w' w.heap.size (fun _ => True) v0_ r ∧ Below w.heap.size w w' := by
 (unfold strings_Split.f at h); (split at h)
 case isFalse => cases h
 (rename_i hz); (obtain rfl := Option.some.inj h); (obtain ⟨m, hm⟩ := hG.mx); (refine (Tryd.strings_Split a0 a1 m w hz.1.1 hm hz.1.2).mono ?_); (rintro e w' ⟨rfl, rfl⟩); (have hlen := Lib.splitB_all a1 hz.1.2 0 _ a0 rfl); (refine ⟨_, rfl, ⟨fun k hk => trivial, ?_⟩, below_alloc (Below.refl _ _) _⟩); (rw [← hlen]); (exact OwnRow.lit w _ (reps_map (R := Kd.string.M _ _ _) (fun p => rfl) _) (Nat.le_refl _) (by omega))
/-! ### impl_ParseInt: function 55 -/
def parseE (s : ByteArray) : Int × Bool := match Lib.atoiAll s.data.toList with
 | .ok v => if (-999999 ≤ v ∧ v ≤ 999999) ∧ Lib.itoa v = s.data.toList then (v, true) else (0, false)
 | _ => (0, false)
def impl_ParseInt.f (a0 : ByteArray) : Option (Int × Bool) := if a0.size ≤ 281474976710656 then some (parseE a0) else none
theorem atoi_ok_below {s : ByteArray} {v : Int} (hz : s.size ≤ 281474976710656) (h : Lib.atoiAll s.data.toList = .ok v) (w : World) : Calls Tryd.prog 80 #[.string s] w fun e w' => e = .returned (.tuple #[.int .i64 v, .nilIface]) ∧ Below w.heap.size w w' := by
 (refine (Tryd.strconv_Atoi_ok s (by omega) v h w).mono ?_); (rintro e w' ⟨he, hw⟩); (refine ⟨he, ?_⟩); (rcases hw with rfl | ⟨t, rfl⟩); (· (exact Below.refl _ _)); (· (exact Joins.below_bytesWorld _ _ _ _ (Nat.le_refl _)))
theorem atoi_bad {s : ByteArray} (hz : s.size ≤ 281474976710656) (h : ∀ v, Lib.atoiAll s.data.toList ≠ .ok v) (w : World) (hE : GE w) : Calls Tryd.prog 80 #[.string s] w fun e w' => ∃ (n : Int) (t : TypeId) (v : Value), e = .returned (.tuple #[.int .i64 n, .iface t v]) ∧ Below w.heap.size w w' := by
 (obtain ⟨_, ⟨t1, p1, h1⟩, ⟨t2, p2, h2⟩, _⟩ := hE); (cases hc : Lib.atoiAll s.data.toList); (· (rename_i v; exact absurd hc (h v))); (· (exact (Any.strconv_Atoi_syntax Tryd.laysC172 s hz hc _ w h1 (Or.inr ⟨_, _, rfl⟩)).mono fun e w' ⟨N, he, _, _, hb⟩ => ⟨_, _, _, he, hb⟩)); (· (exact (Any.strconv_Atoi_range Tryd.laysC172 s hz hc _ w h2 (Or.inr ⟨_, _, rfl⟩)).mono fun e w' ⟨N, he, _, _, hb⟩ => ⟨_, _, _, he, hb⟩))
set_option maxHeartbeats 1000000 in
set_option maxRecDepth 100000 in
theorem impl_ParseInt.calls (a0 : ByteArray) (r1 : Int) (r2 : Bool) (w : World) (hG : GE w) (h : impl_ParseInt.f a0 = some (r1, r2)) :
  Calls Tryd.prog 55 #[.string a0] w fun e w' => e = .returned (.tuple #[.int .i64 r1, .bool r2]) ∧ Below w.heap.size w w' := by
 (unfold impl_ParseInt.f at h); (split at h)
 case isFalse => cases h
 (rename_i hz); (have HZ := Aside0.mk hz); clear hz; (have h := Option.some.inj h); (have HG := Aside0.mk hG); clear hG; (have HB := Aside0.mk (Below.refl w.heap.size w)); (by_cases hok : ∃ v, Lib.atoiAll a0.data.toList = .ok v)
 case neg =>
  have hbad : ∀ v, Lib.atoiAll a0.data.toList ≠ .ok v := fun v hv => hok ⟨v, hv⟩
  have hr : parseE a0 = (0, false) := by
   (unfold parseE); (split); (· (rename_i v hv; exact absurd hv (hbad v))); (· rfl)
  (rw [hr] at h); (injection h with h1 h2); (subst h1; subst h2); (have HBAD := Aside0.mk hbad); clear hr hbad hok; (go_enter Tryd.func55, Tryd.ntmps55); (go_wp2_with ((with_reducible refine gate_callee (f := 80) rfl ?_); refine gL (some 8) Tryd.func80 #[.string a0] ?_; (with_reducible refine (atoi_bad HZ.out HBAD.out _ HG.out).mono ?_); rintro e w1 ⟨n, t, v, rfl, hb⟩; refine ⟨_, rfl, ?_⟩; have n0_ := Aside0.mk (sI hb HB); clear HB hb; have HB := n0_; clear n0_)); (go_ret2); (exact Q7)
 (obtain ⟨v, hv⟩ := hok); (have hbd := Lib.atoiAll_bounds hv); (have hI : strconv_Itoa.f v = some ⟨(Lib.itoa v).toArray⟩ := by unfold strconv_Itoa.f; rw [if_pos hbd])
 have hW : impl_within.f v (-999999) 999999 = some (decide (-999999 ≤ v ∧ v ≤ 999999)) := by
  (unfold impl_within.f); (by_cases h1 : v ≥ -999999); (· (rw [if_pos h1]; congr 1; rw [decide_eq_decide]; omega)); (· (rw [if_neg h1, decide_eq_false (fun hh => h1 hh.1)]))
 (have HI := Aside0.mk hI); (have HV := Aside0.mk hv); (unfold parseE at h); (rw [hv] at h); (simp only at h); (by_cases c1 : -999999 ≤ v ∧ v ≤ 999999)
 case neg =>
  (rw [if_neg (fun hh => c1 hh.1)] at h); (injection h with h1 h2); (subst h1; subst h2); (rw [decide_eq_false c1] at hW); (have HWI := Aside0.mk hW); clear hv hI hW c1 hbd; (go_enter Tryd.func55, Tryd.ntmps55); (go_wp2_with (first | ((with_reducible refine gate_callee (f := 80) rfl ?_); refine gL (some 8) Tryd.func80 #[.string a0] ?_; (with_reducible refine (atoi_ok_below HZ.out HV.out _).mono ?_); rintro e w1 ⟨rfl, hb⟩; refine ⟨_, rfl, ?_⟩; have n0_ := Aside0.mk (sI hb HB); clear HB hb; have HB := n0_; clear n0_) | ((with_reducible refine gate_callee (f := 59) rfl ?_); refine gate_guard Q166 ?_; refine gL (some 15) Tryd.func59 #[.int .i64 v, .int .i64 (-999999), .int .i64 999999] ?_; (with_reducible refine (impl_within.calls _ _ _ _ _ HWI.out).mono ?_); rintro e w' ⟨rfl, ⟨nd, rfl⟩⟩; refine ⟨_, rfl, ?_⟩))); (go_ret2); (exact Q7)
 (rw [decide_eq_true c1] at hW); (have HWI := Aside0.mk hW); (by_cases c2 : Lib.itoa v = a0.data.toList); (· (rw [if_pos ⟨c1, c2⟩] at h); (injection h with h1 h2); (subst h1; subst h2); (have c3 : (⟨(Lib.itoa v).toArray⟩ : ByteArray) = a0 := by rw [c2]); (rw [c3] at hI); (have HI := Aside0.mk hI); clear hv hI hW c1 c2 c3 hbd; (go_enter Tryd.func55, Tryd.ntmps55); (go_wp2_with (first | ((with_reducible refine gate_callee (f := 80) rfl ?_); refine gL (some 8) Tryd.func80 #[.string a0] ?_; (with_reducible refine (atoi_ok_below HZ.out HV.out _).mono ?_); rintro e w1 ⟨rfl, hb⟩; refine ⟨_, rfl, ?_⟩; have n0_ := Aside0.mk (sI hb HB); clear HB hb; have HB := n0_; clear n0_) | ((with_reducible refine gate_callee (f := 59) rfl ?_); refine gate_guard Q166 ?_; refine gL (some 15) Tryd.func59 #[.int .i64 v, .int .i64 (-999999), .int .i64 999999] ?_; (with_reducible refine (impl_within.calls _ _ _ _ _ HWI.out).mono ?_); rintro e w' ⟨rfl, ⟨nd, rfl⟩⟩; refine ⟨_, rfl, ?_⟩) | ((with_reducible refine gate_callee (f := 52) rfl ?_); refine gate_guard Q166 ?_; refine gL (some 20) Tryd.func52 #[.int .i64 v] ?_; (with_reducible refine (strconv_Itoa.calls _ _ _ (GT.below HG.out.gt (eI HB)) HI.out).mono ?_); rintro e w2 ⟨rfl, hb⟩; refine ⟨_, rfl, ?_⟩; have n0_ := Aside0.mk (sI hb HB); clear HB hb; have HB := n0_; clear n0_))); (go_ret2); (exact Q7))
 ·rw [if_neg (fun hh => c2 hh.2)] at h
  (injection h with h1 h2); (subst h1; subst h2)
  have c3 : ((⟨(Lib.itoa v).toArray⟩ : ByteArray).toList != a0.toList) = true := by
   (rw [bne_iff_ne]); intro he; (rw [Lib.toList_data, Lib.toList_data] at he); (exact c2 (by simpa using he))
  have c4 : (Lib.itoa v == a0.toList) = false := by
   (rw [beq_eq_false_iff_ne]); intro he; (rw [Lib.toList_data] at he); (exact c2 he)
  clear hv hI hW c1 c2 hbd; (go_enter Tryd.func55, Tryd.ntmps55); (go_wp2_with (first | ((with_reducible refine gate_callee (f := 80) rfl ?_); refine gL (some 8) Tryd.func80 #[.string a0] ?_; (with_reducible refine (atoi_ok_below HZ.out HV.out _).mono ?_); rintro e w1 ⟨rfl, hb⟩; refine ⟨_, rfl, ?_⟩; have n0_ := Aside0.mk (sI hb HB); clear HB hb; have HB := n0_; clear n0_) | ((with_reducible refine gate_callee (f := 59) rfl ?_); refine gate_guard Q166 ?_; refine gL (some 15) Tryd.func59 #[.int .i64 v, .int .i64 (-999999), .int .i64 999999] ?_; (with_reducible refine (impl_within.calls _ _ _ _ _ HWI.out).mono ?_); rintro e w' ⟨rfl, ⟨nd, rfl⟩⟩; refine ⟨_, rfl, ?_⟩) | ((with_reducible refine gate_callee (f := 52) rfl ?_); refine gate_guard Q166 ?_; refine gL (some 20) Tryd.func52 #[.int .i64 v] ?_; (with_reducible refine (strconv_Itoa.calls _ _ _ (GT.below HG.out.gt (eI HB)) HI.out).mono ?_); rintro e w2 ⟨rfl, hb⟩; refine ⟨_, rfl, ?_⟩; have n0_ := Aside0.mk (sI hb HB); clear HB hb; have HB := n0_; clear n0_))); (go_ret2); (exact Q7)
end Go.Proofs.YtiaiohoadefgjaaDoor.X
