/- For every row of bytes the law FnCrashRecovery answers true. No condition beyond what a reading tells.
This file (part 4 of 5) holds what the proof needs: plain functions with rounds and contracts written by programs of this work over the translation, and the lemmas. -/
import Derived.Test.YtkdibcifamlciaaDoorZFnCrashRecovery2
import Derived.Test.YtkdibcifamlciaaDoorZFnCrashRecovery3
import Derived.Lib.ConvBytes
import Derived.Lib.SmallJoins
import Derived.Shelf.Abstract
import Derived.Test.YtkdibcifamlciaaDoorZFnCrashRecovery1
import Derived.ChangeArms
import Derived.DataReads
import Derived.Deep.Slices
import Derived.ChangeOld
import Derived.OpenShut
import Derived.Laws.BitsAllLaws
import Derived.Lib.Strings
import Derived.Lib.ItoaNum
import Derived.Lib.ItoaLen
import Derived.Lib.IndexAny
import Derived.Laws.Strings
namespace Go.Proofs.YtkdibcifamlciaaDoor.X
open Go.RowKit Go.Proofs.YtkdibcifamlciaaDoorW.PrintWords Go.Proofs.YtkdibcifamlciaaDoorW.PrintLast Go.Proofs.YtkdibcifamlciaaDoorW.PrintMore
attribute [local go_sem] max2_int min2_int max_two min_two max_three min_three max_four min_four   -- for this text's walks alone
set_option linter.unusedVariables false
set_option linter.unusedSimpArgs false
attribute [-simp] ByteArray.size_append ByteArray.size_extract
attribute [-go_sem] ByteArray.size_append'

/-! ### spec_l1Cur_spoilt: function 36 -/
def spec_l1Cur_spoilt.f (s0_0 : List Int) (s0_1 : Int) (s0_2 : Int) (a1 : ByteArray) (a2 : ByteArray) : Option (ByteArray × Int × Int) := if a1.toList = ([] : List UInt8) then (if 0 ≤ 1 then (if 1 ≤ (a2.size : Int) then (some (a2.extract 0 1, s0_1, s0_2)) else (none)) else (none)) else ((spec_l1Cur_pick.f s0_0 s0_1 s0_2 (a1.size : Int)).bind fun bt101 => ((spec_l1Cur_pick.f s0_0 bt101.2.1 bt101.2.2 (a2.size : Int)).bind fun bt104 => (if 0 ≤ bt104.1 then (if bt104.1 ≤ (a2.size : Int) then (if 0 ≤ 1 then (if 1 ≤ ((a2.extract (bt104.1 : Int).toNat a2.size).size : Int) then ((spec_l1Cur_pick.f s0_0 bt104.2.1 bt104.2.2 3).bind fun bt107 => (if bt107.1 = 0 then (if 0 ≤ bt101.1 then (if bt101.1 ≤ (a1.size : Int) then (if (a1.extract 0 (bt101.1 : Int).toNat).size + ((a2.extract (bt104.1 : Int).toNat a2.size).extract 0 1).size ≤ 9223372036854775807 then (if ((a1.extract 0 (bt101.1 : Int).toNat) ++ ((a2.extract (bt104.1 : Int).toNat a2.size).extract 0 1)).size + (a1.extract (bt101.1 : Int).toNat a1.size).size ≤ 9223372036854775807 then (some (((a1.extract 0 (bt101.1 : Int).toNat) ++ ((a2.extract (bt104.1 : Int).toNat a2.size).extract 0 1)) ++ (a1.extract (bt101.1 : Int).toNat a1.size), bt107.2.1, bt107.2.2)) else (none)) else (none)) else (none)) else (none)) else (if bt107.1 = 1 then (if 0 ≤ bt101.1 then (if bt101.1 ≤ (a1.size : Int) then (if (a1.extract 0 (bt101.1 : Int).toNat).size + ((a2.extract (bt104.1 : Int).toNat a2.size).extract 0 1).size ≤ 9223372036854775807 then (if 0 ≤ (wrap64 (bt101.1 + 1)) then (if (wrap64 (bt101.1 + 1)) ≤ (a1.size : Int) then (if ((a1.extract 0 (bt101.1 : Int).toNat) ++ ((a2.extract (bt104.1 : Int).toNat a2.size).extract 0 1)).size + (a1.extract ((wrap64 (bt101.1 + 1)) : Int).toNat a1.size).size ≤ 9223372036854775807 then (some (((a1.extract 0 (bt101.1 : Int).toNat) ++ ((a2.extract (bt104.1 : Int).toNat a2.size).extract 0 1)) ++ (a1.extract ((wrap64 (bt101.1 + 1)) : Int).toNat a1.size), bt107.2.1, bt107.2.2)) else (none)) else (none)) else (none)) else (none)) else (none)) else (none)) else (if 0 ≤ bt101.1 then (if bt101.1 ≤ (a1.size : Int) then (if 0 ≤ (wrap64 (bt101.1 + 1)) then (if (wrap64 (bt101.1 + 1)) ≤ (a1.size : Int) then (if (a1.extract 0 (bt101.1 : Int).toNat).size + (a1.extract ((wrap64 (bt101.1 + 1)) : Int).toNat a1.size).size ≤ 9223372036854775807 then (some ((a1.extract 0 (bt101.1 : Int).toNat) ++ (a1.extract ((wrap64 (bt101.1 + 1)) : Int).toNat a1.size), bt107.2.1, bt107.2.2)) else (none)) else (none)) else (none)) else (none)) else (none))))) else (none)) else (none)) else (none)) else (none))))
set_option maxHeartbeats 8000000 in
set_option maxRecDepth 100000 in
theorem spec_l1Cur_spoilt.calls (g : Nat) (s0_0 : List Int) (s0_1 : Int) (s0_2 : Int) (a1 : ByteArray) (a2 : ByteArray) (r1 : ByteArray) (r2 : Int) (r3 : Int) (w0 w : World) (hI : IsS51 w0 w g s0_0 s0_1 s0_2) (hB : Below w0.heap.size w0 w) (h : spec_l1Cur_spoilt.f s0_0 s0_1 s0_2 a1 a2 = some (r1, r2, r3)) :
  Calls Tryd.prog 36 #[.pointer (some ⟨g, 0, none⟩), .string a1, .string a2] w fun e w' => e = .returned (.string r1) ∧ IsS51 w0 w' g s0_0 r2 r3 ∧ Below w0.heap.size w0 w' ∧ KeepBut w w' g none := by
 (have HI0 := Aside0.mk hI); (have HK := Aside0.mk (KeepBut.refl w g none)); (have HL := Aside0.mk hB.size); clear hI; (have HW0 := Aside0.mk hB.size); (have HB := Aside0.mk hB); clear hB; (unfold spec_l1Cur_spoilt.f at h); (have H := h); clear h; (by_cases c4 : a1.toList = ([] : List UInt8))
 ·rw [if_pos c4] at H
  (have c4b0 : a1.toList.isEmpty = true := List.isEmpty_iff.mpr c4); (have c4b1 : (!a1.toList.isEmpty) = false := by rw [List.isEmpty_iff.mpr c4]; rfl); (have c4b2 : (a1.toList == ([] : List UInt8)) = true := beq_iff_eq.mpr c4); (have c4b3 : (a1.toList != ([] : List UInt8)) = false := bne_eq_false_iff_eq.mpr c4); clear c4; (by_cases c5 : 0 ≤ 1)
  ·rw [if_pos c5] at H
   (have c5b0 := eq_true c5); (have c5b1 := decide_eq_true c5); clear c5; (by_cases c6 : 1 ≤ (a2.size : Int)); (· (rw [if_pos c6] at H); (have c6b0 := eq_true c6); (have c6b1 := decide_eq_true c6); clear c6; (simp only [Option.some.injEq, Prod.mk.injEq] at H); (obtain ⟨rfl, rfl, rfl⟩ := H); (go_enter Tryd.func36, Tryd.ntmps36); (go_wp2); (repeat (go_quiet (fail); try go_wp2)); go_ret; (exact ⟨rfl, by repeat (first | (with_reducible first | exact HI0.out | apply IsS51.alloc | apply IsS51.drewN | apply IsS51.drew | apply IsS51.set_1 | apply IsS51.set_2) | exact HI0.out), by repeat (first | (with_reducible first | exact HB.out | apply bA | apply bN | apply bD | refine below_set ?_ (IsS51.ge HI0.out)) | exact HB.out), by repeat (first | (with_reducible first | exact HK.out | apply KeepBut.set_ | apply keep_drewN | apply keep_drew | apply keep_alloc) | exact HK.out)⟩)); (· (rw [if_neg c6] at H); (exact absurd H (by simp)))
  ·rw [if_neg c5] at H
   exact absurd H (by simp)
 ·rw [if_neg c4] at H
  (have c4b0 : a1.toList.isEmpty = false := by rw [Bool.eq_false_iff]; exact fun h_ => c4 (List.isEmpty_iff.mp h_)); (have c4b1 : (!a1.toList.isEmpty) = true := by rw [show a1.toList.isEmpty = false from by rw [Bool.eq_false_iff]; exact fun h_ => c4 (List.isEmpty_iff.mp h_)]; rfl); (have c4b2 : (a1.toList == ([] : List UInt8)) = false := beq_eq_false_iff_ne.mpr c4); (have c4b3 : (a1.toList != ([] : List UInt8)) = true := bne_iff_ne.mpr c4); (replace H := obS H); (obtain ⟨⟨t101, t102, t103⟩, A7, H⟩ := H); (replace H : ((spec_l1Cur_pick.f s0_0 t102 t103 (a2.size : Int)).bind fun bt104 => (if 0 ≤ bt104.1 then (if bt104.1 ≤ (a2.size : Int) then (if 0 ≤ 1 then (if 1 ≤ ((a2.extract (bt104.1 : Int).toNat a2.size).size : Int) then ((spec_l1Cur_pick.f s0_0 bt104.2.1 bt104.2.2 3).bind fun bt107 => (if bt107.1 = 0 then (if 0 ≤ t101 then (if t101 ≤ (a1.size : Int) then (if (a1.extract 0 (t101 : Int).toNat).size + ((a2.extract (bt104.1 : Int).toNat a2.size).extract 0 1).size ≤ 9223372036854775807 then (if ((a1.extract 0 (t101 : Int).toNat) ++ ((a2.extract (bt104.1 : Int).toNat a2.size).extract 0 1)).size + (a1.extract (t101 : Int).toNat a1.size).size ≤ 9223372036854775807 then (some (((a1.extract 0 (t101 : Int).toNat) ++ ((a2.extract (bt104.1 : Int).toNat a2.size).extract 0 1)) ++ (a1.extract (t101 : Int).toNat a1.size), bt107.2.1, bt107.2.2)) else (none)) else (none)) else (none)) else (none)) else (if bt107.1 = 1 then (if 0 ≤ t101 then (if t101 ≤ (a1.size : Int) then (if (a1.extract 0 (t101 : Int).toNat).size + ((a2.extract (bt104.1 : Int).toNat a2.size).extract 0 1).size ≤ 9223372036854775807 then (if 0 ≤ (wrap64 (t101 + 1)) then (if (wrap64 (t101 + 1)) ≤ (a1.size : Int) then (if ((a1.extract 0 (t101 : Int).toNat) ++ ((a2.extract (bt104.1 : Int).toNat a2.size).extract 0 1)).size + (a1.extract ((wrap64 (t101 + 1)) : Int).toNat a1.size).size ≤ 9223372036854775807 then (some (((a1.extract 0 (t101 : Int).toNat) ++ ((a2.extract (bt104.1 : Int).toNat a2.size).extract 0 1)) ++ (a1.extract ((wrap64 (t101 + 1)) : Int).toNat a1.size), bt107.2.1, bt107.2.2)) else (none)) else (none)) else (none)) else (none)) else (none)) else (none)) else (if 0 ≤ t101 then (if t101 ≤ (a1.size : Int) then (if 0 ≤ (wrap64 (t101 + 1)) then (if (wrap64 (t101 + 1)) ≤ (a1.size : Int) then (if (a1.extract 0 (t101 : Int).toNat).size + (a1.extract ((wrap64 (t101 + 1)) : Int).toNat a1.size).size ≤ 9223372036854775807 then (some ((a1.extract 0 (t101 : Int).toNat) ++ (a1.extract ((wrap64 (t101 + 1)) : Int).toNat a1.size), bt107.2.1, bt107.2.2)) else (none)) else (none)) else (none)) else (none)) else (none))))) else (none)) else (none)) else (none)) else (none))) = some (r1, r2, r3) := H); (replace H := obS H); (obtain ⟨⟨t104, t105, t106⟩, A8, H⟩ := H); (replace H : (if 0 ≤ t104 then (if t104 ≤ (a2.size : Int) then (if 0 ≤ 1 then (if 1 ≤ ((a2.extract (t104 : Int).toNat a2.size).size : Int) then ((spec_l1Cur_pick.f s0_0 t105 t106 3).bind fun bt107 => (if bt107.1 = 0 then (if 0 ≤ t101 then (if t101 ≤ (a1.size : Int) then (if (a1.extract 0 (t101 : Int).toNat).size + ((a2.extract (t104 : Int).toNat a2.size).extract 0 1).size ≤ 9223372036854775807 then (if ((a1.extract 0 (t101 : Int).toNat) ++ ((a2.extract (t104 : Int).toNat a2.size).extract 0 1)).size + (a1.extract (t101 : Int).toNat a1.size).size ≤ 9223372036854775807 then (some (((a1.extract 0 (t101 : Int).toNat) ++ ((a2.extract (t104 : Int).toNat a2.size).extract 0 1)) ++ (a1.extract (t101 : Int).toNat a1.size), bt107.2.1, bt107.2.2)) else (none)) else (none)) else (none)) else (none)) else (if bt107.1 = 1 then (if 0 ≤ t101 then (if t101 ≤ (a1.size : Int) then (if (a1.extract 0 (t101 : Int).toNat).size + ((a2.extract (t104 : Int).toNat a2.size).extract 0 1).size ≤ 9223372036854775807 then (if 0 ≤ (wrap64 (t101 + 1)) then (if (wrap64 (t101 + 1)) ≤ (a1.size : Int) then (if ((a1.extract 0 (t101 : Int).toNat) ++ ((a2.extract (t104 : Int).toNat a2.size).extract 0 1)).size + (a1.extract ((wrap64 (t101 + 1)) : Int).toNat a1.size).size ≤ 9223372036854775807 then (some (((a1.extract 0 (t101 : Int).toNat) ++ ((a2.extract (t104 : Int).toNat a2.size).extract 0 1)) ++ (a1.extract ((wrap64 (t101 + 1)) : Int).toNat a1.size), bt107.2.1, bt107.2.2)) else (none)) else (none)) else (none)) else (none)) else (none)) else (none)) else (if 0 ≤ t101 then (if t101 ≤ (a1.size : Int) then (if 0 ≤ (wrap64 (t101 + 1)) then (if (wrap64 (t101 + 1)) ≤ (a1.size : Int) then (if (a1.extract 0 (t101 : Int).toNat).size + (a1.extract ((wrap64 (t101 + 1)) : Int).toNat a1.size).size ≤ 9223372036854775807 then (some ((a1.extract 0 (t101 : Int).toNat) ++ (a1.extract ((wrap64 (t101 + 1)) : Int).toNat a1.size), bt107.2.1, bt107.2.2)) else (none)) else (none)) else (none)) else (none)) else (none))))) else (none)) else (none)) else (none)) else (none)) = some (r1, r2, r3) := H); (by_cases c9 : 0 ≤ t104)
  ·rw [if_pos c9] at H
   (have c9b0 := eq_true c9); (have c9b1 := decide_eq_true c9); clear c9; (by_cases c10 : t104 ≤ (a2.size : Int))
   ·rw [if_pos c10] at H
    (have c10b0 := eq_true c10); (have c10b1 := decide_eq_true c10); clear c10; (by_cases c11 : 0 ≤ 1)
    ·rw [if_pos c11] at H
     (have c11b0 := eq_true c11); (have c11b1 := decide_eq_true c11); clear c11; (by_cases c12 : 1 ≤ ((a2.extract (t104 : Int).toNat a2.size).size : Int))
     ·rw [if_pos c12] at H
      (have c12b0 := eq_true c12); (have c12b1 := decide_eq_true c12); (try have c12n0 := c12b0); (try (push_cast [Int.toNat_natCast, ByteArray.size_append] at c12n0)); (try have c12n1 := c12b1); (try (push_cast [Int.toNat_natCast, ByteArray.size_append] at c12n1)); clear c12; (replace H := obS H); (obtain ⟨⟨t107, t108, t109⟩, A13, H⟩ := H); (replace H : (if t107 = 0 then (if 0 ≤ t101 then (if t101 ≤ (a1.size : Int) then (if (a1.extract 0 (t101 : Int).toNat).size + ((a2.extract (t104 : Int).toNat a2.size).extract 0 1).size ≤ 9223372036854775807 then (if ((a1.extract 0 (t101 : Int).toNat) ++ ((a2.extract (t104 : Int).toNat a2.size).extract 0 1)).size + (a1.extract (t101 : Int).toNat a1.size).size ≤ 9223372036854775807 then (some (((a1.extract 0 (t101 : Int).toNat) ++ ((a2.extract (t104 : Int).toNat a2.size).extract 0 1)) ++ (a1.extract (t101 : Int).toNat a1.size), t108, t109)) else (none)) else (none)) else (none)) else (none)) else (if t107 = 1 then (if 0 ≤ t101 then (if t101 ≤ (a1.size : Int) then (if (a1.extract 0 (t101 : Int).toNat).size + ((a2.extract (t104 : Int).toNat a2.size).extract 0 1).size ≤ 9223372036854775807 then (if 0 ≤ (wrap64 (t101 + 1)) then (if (wrap64 (t101 + 1)) ≤ (a1.size : Int) then (if ((a1.extract 0 (t101 : Int).toNat) ++ ((a2.extract (t104 : Int).toNat a2.size).extract 0 1)).size + (a1.extract ((wrap64 (t101 + 1)) : Int).toNat a1.size).size ≤ 9223372036854775807 then (some (((a1.extract 0 (t101 : Int).toNat) ++ ((a2.extract (t104 : Int).toNat a2.size).extract 0 1)) ++ (a1.extract ((wrap64 (t101 + 1)) : Int).toNat a1.size), t108, t109)) else (none)) else (none)) else (none)) else (none)) else (none)) else (none)) else (if 0 ≤ t101 then (if t101 ≤ (a1.size : Int) then (if 0 ≤ (wrap64 (t101 + 1)) then (if (wrap64 (t101 + 1)) ≤ (a1.size : Int) then (if (a1.extract 0 (t101 : Int).toNat).size + (a1.extract ((wrap64 (t101 + 1)) : Int).toNat a1.size).size ≤ 9223372036854775807 then (some ((a1.extract 0 (t101 : Int).toNat) ++ (a1.extract ((wrap64 (t101 + 1)) : Int).toNat a1.size), t108, t109)) else (none)) else (none)) else (none)) else (none)) else (none)))) = some (r1, r2, r3) := H); (by_cases c14 : t107 = 0)
      ·rw [if_pos c14] at H
       (have c14b0 : (t107 == 0) = true := beq_iff_eq.mpr c14); (have c14b1 : (t107 != 0) = false := bne_eq_false_iff_eq.mpr c14); clear c14; (by_cases c15 : 0 ≤ t101)
       ·rw [if_pos c15] at H
        (have c15b0 := eq_true c15); (have c15b1 := decide_eq_true c15); clear c15; (by_cases c16 : t101 ≤ (a1.size : Int))
        ·rw [if_pos c16] at H
         (have c16b0 := eq_true c16); (have c16b1 := decide_eq_true c16); clear c16; (by_cases c17 : (a1.extract 0 (t101 : Int).toNat).size + ((a2.extract (t104 : Int).toNat a2.size).extract 0 1).size ≤ 9223372036854775807)
         ·rw [if_pos c17] at H
          (have c17b0 := eq_true c17); (have c17b1 := decide_eq_true c17); (try have c17n0 := c17b0); (try (push_cast [Int.toNat_natCast, ByteArray.size_append] at c17n0)); (try have c17n1 := c17b1); (try (push_cast [Int.toNat_natCast, ByteArray.size_append] at c17n1)); (try have c17b2 : (9223372036854775807 < (a1.extract 0 (t101 : Int).toNat).size + ((a2.extract (t104 : Int).toNat a2.size).extract 0 1).size) = False := eq_false (Nat.not_lt.2 c17)); (try have c17b3 := c17b2); (try simp only [show (a1.extract 0 (t101 : Int).toNat).size = (t101 : Int).toNat - 0 from by (rw [ByteArray.size_extract];  omega), show (a2.extract (t104 : Int).toNat a2.size).size = a2.size - (t104 : Int).toNat from by (rw [ByteArray.size_extract];  omega), show ((a2.extract (t104 : Int).toNat a2.size).extract 0 1).size = 1 - 0 from by (rw [ByteArray.size_extract];  omega), ByteArray.size_append] at c17b3); (have c18b0 := eq_true (odt : 0 ≤ t101)); (have c19b0 := eq_true (odt : t101 ≤ (a1.size : Int))); (by_cases c20 : ((a1.extract 0 (t101 : Int).toNat) ++ ((a2.extract (t104 : Int).toNat a2.size).extract 0 1)).size + (a1.extract (t101 : Int).toNat a1.size).size ≤ 9223372036854775807)
          ·rw [if_pos c20] at H
           (have c20b0 := eq_true c20); (have c20b1 := decide_eq_true c20); (try have c20n0 := c20b0); (try (push_cast [Int.toNat_natCast, ByteArray.size_append] at c20n0)); (try have c20n1 := c20b1); (try (push_cast [Int.toNat_natCast, ByteArray.size_append] at c20n1)); (try have c20b2 : (9223372036854775807 < ((a1.extract 0 (t101 : Int).toNat) ++ ((a2.extract (t104 : Int).toNat a2.size).extract 0 1)).size + (a1.extract (t101 : Int).toNat a1.size).size) = False := eq_false (Nat.not_lt.2 c20)); (try have c20b3 := c20b2); (try simp only [show (a1.extract 0 (t101 : Int).toNat).size = (t101 : Int).toNat - 0 from by (rw [ByteArray.size_extract];  omega), show (a2.extract (t104 : Int).toNat a2.size).size = a2.size - (t104 : Int).toNat from by (rw [ByteArray.size_extract];  omega), show ((a2.extract (t104 : Int).toNat a2.size).extract 0 1).size = 1 - 0 from by (rw [ByteArray.size_extract];  omega), show (a1.extract (t101 : Int).toNat a1.size).size = a1.size - (t101 : Int).toNat from by (rw [ByteArray.size_extract];  omega), ByteArray.size_append] at c20b3); (simp only [Option.some.injEq, Prod.mk.injEq] at H); (obtain ⟨rfl, rfl, rfl⟩ := H); (go_enter Tryd.func36, Tryd.ntmps36); (go_wp2_with (first | (go_at_call 35; (with_reducible refine (spec_l1Cur_pick.calls g s0_0 s0_1 s0_2 (a1.size : Int) t101 t102 t103 w0 _ ?side1 ?side2 A7.out).mono ?_); (case side1 => repeat (first | (with_reducible first | exact HI0.out | apply IsS51.alloc | apply IsS51.drewN | apply IsS51.drew | apply IsS51.set_1 | apply IsS51.set_2) | exact HI0.out)); (case side2 => repeat (first | (with_reducible first | exact HB.out | apply bA | apply bN | apply bD | refine below_set ?_ (IsS51.ge HI0.out)) | exact HB.out)); rintro e w21 ⟨rfl, hi, hb, hk⟩; have n0_ := Aside0.mk (KeepBut.trans (by repeat (first | (with_reducible first | exact HK.out | apply KeepBut.set_ | apply keep_drewN | apply keep_drew | apply keep_alloc) | exact HK.out)) hk (.inl rfl)); have n1_ := Aside0.mk (hb); have n2_ := Aside0.mk (hi); clear HK HB HI0; have HK := n0_; have HB := n1_; have HI0 := n2_; clear n0_ n1_ n2_; (try clear hb); (try clear hb2); (try clear hk); (try clear hi)) | (go_at_call 35; (with_reducible refine (spec_l1Cur_pick.calls g s0_0 t102 t103 (a2.size : Int) t104 t105 t106 w0 _ ?side1 ?side2 A8.out).mono ?_); (case side1 => repeat (first | (with_reducible first | exact HI0.out | apply IsS51.alloc | apply IsS51.drewN | apply IsS51.drew | apply IsS51.set_1 | apply IsS51.set_2) | exact HI0.out)); (case side2 => repeat (first | (with_reducible first | exact HB.out | apply bA | apply bN | apply bD | refine below_set ?_ (IsS51.ge HI0.out)) | exact HB.out)); rintro e w22 ⟨rfl, hi, hb, hk⟩; have n0_ := Aside0.mk (KeepBut.trans (by repeat (first | (with_reducible first | exact HK.out | apply KeepBut.set_ | apply keep_drewN | apply keep_drew | apply keep_alloc) | exact HK.out)) hk (.inl rfl)); have n1_ := Aside0.mk (hb); have n2_ := Aside0.mk (hi); clear HK HB HI0; have HK := n0_; have HB := n1_; have HI0 := n2_; clear n0_ n1_ n2_; (try clear hb); (try clear hb2); (try clear hk); (try clear hi)) | (go_at_call 35; (with_reducible refine (spec_l1Cur_pick.calls g s0_0 t105 t106 3 t107 t108 t109 w0 _ ?side1 ?side2 A13.out).mono ?_); (case side1 => repeat (first | (with_reducible first | exact HI0.out | apply IsS51.alloc | apply IsS51.drewN | apply IsS51.drew | apply IsS51.set_1 | apply IsS51.set_2) | exact HI0.out)); (case side2 => repeat (first | (with_reducible first | exact HB.out | apply bA | apply bN | apply bD | refine below_set ?_ (IsS51.ge HI0.out)) | exact HB.out)); rintro e w23 ⟨rfl, hi, hb, hk⟩; have n0_ := Aside0.mk (KeepBut.trans (by repeat (first | (with_reducible first | exact HK.out | apply KeepBut.set_ | apply keep_drewN | apply keep_drew | apply keep_alloc) | exact HK.out)) hk (.inl rfl)); have n1_ := Aside0.mk (hb); have n2_ := Aside0.mk (hi); clear HK HB HI0; have HK := n0_; have HB := n1_; have HI0 := n2_; clear n0_ n1_ n2_; (try clear hb); (try clear hb2); (try clear hk); (try clear hi))))
           (repeat (go_quiet (first | (go_at_call 35; (with_reducible refine (spec_l1Cur_pick.calls g s0_0 s0_1 s0_2 (a1.size : Int) t101 t102 t103 w0 _ ?side1 ?side2 A7.out).mono ?_); (case side1 => repeat (first | (with_reducible first | exact HI0.out | apply IsS51.alloc | apply IsS51.drewN | apply IsS51.drew | apply IsS51.set_1 | apply IsS51.set_2) | exact HI0.out)); (case side2 => repeat (first | (with_reducible first | exact HB.out | apply bA | apply bN | apply bD | refine below_set ?_ (IsS51.ge HI0.out)) | exact HB.out)); rintro e w21 ⟨rfl, hi, hb, hk⟩; have n0_ := Aside0.mk (KeepBut.trans (by repeat (first | (with_reducible first | exact HK.out | apply KeepBut.set_ | apply keep_drewN | apply keep_drew | apply keep_alloc) | exact HK.out)) hk (.inl rfl)); have n1_ := Aside0.mk (hb); have n2_ := Aside0.mk (hi); clear HK HB HI0; have HK := n0_; have HB := n1_; have HI0 := n2_; clear n0_ n1_ n2_; (try clear hb); (try clear hb2); (try clear hk); (try clear hi)) | (go_at_call 35; (with_reducible refine (spec_l1Cur_pick.calls g s0_0 t102 t103 (a2.size : Int) t104 t105 t106 w0 _ ?side1 ?side2 A8.out).mono ?_); (case side1 => repeat (first | (with_reducible first | exact HI0.out | apply IsS51.alloc | apply IsS51.drewN | apply IsS51.drew | apply IsS51.set_1 | apply IsS51.set_2) | exact HI0.out)); (case side2 => repeat (first | (with_reducible first | exact HB.out | apply bA | apply bN | apply bD | refine below_set ?_ (IsS51.ge HI0.out)) | exact HB.out)); rintro e w22 ⟨rfl, hi, hb, hk⟩; have n0_ := Aside0.mk (KeepBut.trans (by repeat (first | (with_reducible first | exact HK.out | apply KeepBut.set_ | apply keep_drewN | apply keep_drew | apply keep_alloc) | exact HK.out)) hk (.inl rfl)); have n1_ := Aside0.mk (hb); have n2_ := Aside0.mk (hi); clear HK HB HI0; have HK := n0_; have HB := n1_; have HI0 := n2_; clear n0_ n1_ n2_; (try clear hb); (try clear hb2); (try clear hk); (try clear hi)) | (go_at_call 35; (with_reducible refine (spec_l1Cur_pick.calls g s0_0 t105 t106 3 t107 t108 t109 w0 _ ?side1 ?side2 A13.out).mono ?_); (case side1 => repeat (first | (with_reducible first | exact HI0.out | apply IsS51.alloc | apply IsS51.drewN | apply IsS51.drew | apply IsS51.set_1 | apply IsS51.set_2) | exact HI0.out)); (case side2 => repeat (first | (with_reducible first | exact HB.out | apply bA | apply bN | apply bD | refine below_set ?_ (IsS51.ge HI0.out)) | exact HB.out)); rintro e w23 ⟨rfl, hi, hb, hk⟩; have n0_ := Aside0.mk (KeepBut.trans (by repeat (first | (with_reducible first | exact HK.out | apply KeepBut.set_ | apply keep_drewN | apply keep_drew | apply keep_alloc) | exact HK.out)) hk (.inl rfl)); have n1_ := Aside0.mk (hb); have n2_ := Aside0.mk (hi); clear HK HB HI0; have HK := n0_; have HB := n1_; have HI0 := n2_; clear n0_ n1_ n2_; (try clear hb); (try clear hb2); (try clear hk); (try clear hi))); try go_wp2_with (first | (go_at_call 35; (with_reducible refine (spec_l1Cur_pick.calls g s0_0 s0_1 s0_2 (a1.size : Int) t101 t102 t103 w0 _ ?side1 ?side2 A7.out).mono ?_); (case side1 => repeat (first | (with_reducible first | exact HI0.out | apply IsS51.alloc | apply IsS51.drewN | apply IsS51.drew | apply IsS51.set_1 | apply IsS51.set_2) | exact HI0.out)); (case side2 => repeat (first | (with_reducible first | exact HB.out | apply bA | apply bN | apply bD | refine below_set ?_ (IsS51.ge HI0.out)) | exact HB.out)); rintro e w21 ⟨rfl, hi, hb, hk⟩; have n0_ := Aside0.mk (KeepBut.trans (by repeat (first | (with_reducible first | exact HK.out | apply KeepBut.set_ | apply keep_drewN | apply keep_drew | apply keep_alloc) | exact HK.out)) hk (.inl rfl)); have n1_ := Aside0.mk (hb); have n2_ := Aside0.mk (hi); clear HK HB HI0; have HK := n0_; have HB := n1_; have HI0 := n2_; clear n0_ n1_ n2_; (try clear hb); (try clear hb2); (try clear hk); (try clear hi)) | (go_at_call 35; (with_reducible refine (spec_l1Cur_pick.calls g s0_0 t102 t103 (a2.size : Int) t104 t105 t106 w0 _ ?side1 ?side2 A8.out).mono ?_); (case side1 => repeat (first | (with_reducible first | exact HI0.out | apply IsS51.alloc | apply IsS51.drewN | apply IsS51.drew | apply IsS51.set_1 | apply IsS51.set_2) | exact HI0.out)); (case side2 => repeat (first | (with_reducible first | exact HB.out | apply bA | apply bN | apply bD | refine below_set ?_ (IsS51.ge HI0.out)) | exact HB.out)); rintro e w22 ⟨rfl, hi, hb, hk⟩; have n0_ := Aside0.mk (KeepBut.trans (by repeat (first | (with_reducible first | exact HK.out | apply KeepBut.set_ | apply keep_drewN | apply keep_drew | apply keep_alloc) | exact HK.out)) hk (.inl rfl)); have n1_ := Aside0.mk (hb); have n2_ := Aside0.mk (hi); clear HK HB HI0; have HK := n0_; have HB := n1_; have HI0 := n2_; clear n0_ n1_ n2_; (try clear hb); (try clear hb2); (try clear hk); (try clear hi)) | (go_at_call 35; (with_reducible refine (spec_l1Cur_pick.calls g s0_0 t105 t106 3 t107 t108 t109 w0 _ ?side1 ?side2 A13.out).mono ?_); (case side1 => repeat (first | (with_reducible first | exact HI0.out | apply IsS51.alloc | apply IsS51.drewN | apply IsS51.drew | apply IsS51.set_1 | apply IsS51.set_2) | exact HI0.out)); (case side2 => repeat (first | (with_reducible first | exact HB.out | apply bA | apply bN | apply bD | refine below_set ?_ (IsS51.ge HI0.out)) | exact HB.out)); rintro e w23 ⟨rfl, hi, hb, hk⟩; have n0_ := Aside0.mk (KeepBut.trans (by repeat (first | (with_reducible first | exact HK.out | apply KeepBut.set_ | apply keep_drewN | apply keep_drew | apply keep_alloc) | exact HK.out)) hk (.inl rfl)); have n1_ := Aside0.mk (hb); have n2_ := Aside0.mk (hi); clear HK HB HI0; have HK := n0_; have HB := n1_; have HI0 := n2_; clear n0_ n1_ n2_; (try clear hb); (try clear hb2); (try clear hk); (try clear hi))))); go_ret
           exact ⟨rfl, by repeat (first | (with_reducible first | exact HI0.out | apply IsS51.alloc | apply IsS51.drewN | apply IsS51.drew | apply IsS51.set_1 | apply IsS51.set_2) | exact HI0.out), by repeat (first | (with_reducible first | exact HB.out | apply bA | apply bN | apply bD | refine below_set ?_ (IsS51.ge HI0.out)) | exact HB.out), by repeat (first | (with_reducible first | exact HK.out | apply KeepBut.set_ | apply keep_drewN | apply keep_drew | apply keep_alloc) | exact HK.out)⟩
          ·rw [if_neg c20] at H
           exact absurd H (by simp)
         ·rw [if_neg c17] at H
          exact absurd H (by simp)
        ·rw [if_neg c16] at H
         exact absurd H (by simp)
       ·rw [if_neg c15] at H
        exact absurd H (by simp)
      ·rw [if_neg c14] at H
       (have c14b0 : (t107 == 0) = false := beq_eq_false_iff_ne.mpr c14); (have c14b1 : (t107 != 0) = true := bne_iff_ne.mpr c14); (by_cases c24 : t107 = 1)
       ·rw [if_pos c24] at H
        (have c24b0 : (t107 == 1) = true := beq_iff_eq.mpr c24); (have c24b1 : (t107 != 1) = false := bne_eq_false_iff_eq.mpr c24); clear c24; (by_cases c25 : 0 ≤ t101)
        ·rw [if_pos c25] at H
         (have c25b0 := eq_true c25); (have c25b1 := decide_eq_true c25); clear c25; (by_cases c26 : t101 ≤ (a1.size : Int))
         ·rw [if_pos c26] at H
          (have c26b0 := eq_true c26); (have c26b1 := decide_eq_true c26); clear c26; (by_cases c27 : (a1.extract 0 (t101 : Int).toNat).size + ((a2.extract (t104 : Int).toNat a2.size).extract 0 1).size ≤ 9223372036854775807)
          ·rw [if_pos c27] at H
           (have c27b0 := eq_true c27); (have c27b1 := decide_eq_true c27); (try have c27n0 := c27b0); (try (push_cast [Int.toNat_natCast, ByteArray.size_append] at c27n0)); (try have c27n1 := c27b1); (try (push_cast [Int.toNat_natCast, ByteArray.size_append] at c27n1)); (try have c27b2 : (9223372036854775807 < (a1.extract 0 (t101 : Int).toNat).size + ((a2.extract (t104 : Int).toNat a2.size).extract 0 1).size) = False := eq_false (Nat.not_lt.2 c27)); (try have c27b3 := c27b2); (try simp only [show (a1.extract 0 (t101 : Int).toNat).size = (t101 : Int).toNat - 0 from by (rw [ByteArray.size_extract];  omega), show (a2.extract (t104 : Int).toNat a2.size).size = a2.size - (t104 : Int).toNat from by (rw [ByteArray.size_extract];  omega), show ((a2.extract (t104 : Int).toNat a2.size).extract 0 1).size = 1 - 0 from by (rw [ByteArray.size_extract];  omega), ByteArray.size_append] at c27b3); (obtain ⟨ji28, hji28⟩ : ∃ j_ : Int, (wrap64 (t101 + 1)) = j_ := ⟨_, rfl⟩); (replace H : (if 0 ≤ (ji28) then (if (ji28) ≤ (a1.size : Int) then (if ((a1.extract 0 (t101 : Int).toNat) ++ ((a2.extract (t104 : Int).toNat a2.size).extract 0 1)).size + (a1.extract ((ji28) : Int).toNat a1.size).size ≤ 9223372036854775807 then (some (((a1.extract 0 (t101 : Int).toNat) ++ ((a2.extract (t104 : Int).toNat a2.size).extract 0 1)) ++ (a1.extract ((ji28) : Int).toNat a1.size), t108, t109)) else (none)) else (none)) else (none)) = some (r1, r2, r3) := by first | (rw [hji28] at H; exact H) | (simp only [hji28] at H ⊢; exact H)); ((try rw [hji28] at A7)); ((try rw [hji28] at A8)); ((try rw [hji28] at A13)); (have hji28w : (IntKind.i64.wrap (t101 + 1)) = ji28 := (i64_w _).trans hji28); (by_cases c29 : 0 ≤ (ji28))
           ·rw [if_pos c29] at H
            (have c29b0 := eq_true c29); (have c29b1 := decide_eq_true c29); clear c29; (by_cases c30 : (ji28) ≤ (a1.size : Int))
            ·rw [if_pos c30] at H
             (have c30b0 := eq_true c30); (have c30b1 := decide_eq_true c30); clear c30; (by_cases c31 : ((a1.extract 0 (t101 : Int).toNat) ++ ((a2.extract (t104 : Int).toNat a2.size).extract 0 1)).size + (a1.extract ((ji28) : Int).toNat a1.size).size ≤ 9223372036854775807)
             ·rw [if_pos c31] at H
              (have c31b0 := eq_true c31); (have c31b1 := decide_eq_true c31); (try have c31n0 := c31b0); (try (push_cast [Int.toNat_natCast, ByteArray.size_append] at c31n0)); (try have c31n1 := c31b1); (try (push_cast [Int.toNat_natCast, ByteArray.size_append] at c31n1)); (try have c31b2 : (9223372036854775807 < ((a1.extract 0 (t101 : Int).toNat) ++ ((a2.extract (t104 : Int).toNat a2.size).extract 0 1)).size + (a1.extract ((ji28) : Int).toNat a1.size).size) = False := eq_false (Nat.not_lt.2 c31)); (try have c31b3 := c31b2); (try simp only [show (a1.extract 0 (t101 : Int).toNat).size = (t101 : Int).toNat - 0 from by (rw [ByteArray.size_extract];  omega), show (a2.extract (t104 : Int).toNat a2.size).size = a2.size - (t104 : Int).toNat from by (rw [ByteArray.size_extract];  omega), show ((a2.extract (t104 : Int).toNat a2.size).extract 0 1).size = 1 - 0 from by (rw [ByteArray.size_extract];  omega), show (a1.extract ((ji28) : Int).toNat a1.size).size = a1.size - ((ji28) : Int).toNat from by (rw [ByteArray.size_extract];  omega), ByteArray.size_append] at c31b3); (simp only [Option.some.injEq, Prod.mk.injEq] at H); (obtain ⟨rfl, rfl, rfl⟩ := H); (go_enter Tryd.func36, Tryd.ntmps36); (go_wp2_with (first | (go_at_call 35; (with_reducible refine (spec_l1Cur_pick.calls g s0_0 s0_1 s0_2 (a1.size : Int) t101 t102 t103 w0 _ ?side1 ?side2 A7.out).mono ?_); (case side1 => repeat (first | (with_reducible first | exact HI0.out | apply IsS51.alloc | apply IsS51.drewN | apply IsS51.drew | apply IsS51.set_1 | apply IsS51.set_2) | exact HI0.out)); (case side2 => repeat (first | (with_reducible first | exact HB.out | apply bA | apply bN | apply bD | refine below_set ?_ (IsS51.ge HI0.out)) | exact HB.out)); rintro e w32 ⟨rfl, hi, hb, hk⟩; have n0_ := Aside0.mk (KeepBut.trans (by repeat (first | (with_reducible first | exact HK.out | apply KeepBut.set_ | apply keep_drewN | apply keep_drew | apply keep_alloc) | exact HK.out)) hk (.inl rfl)); have n1_ := Aside0.mk (hb); have n2_ := Aside0.mk (hi); clear HK HB HI0; have HK := n0_; have HB := n1_; have HI0 := n2_; clear n0_ n1_ n2_; (try clear hb); (try clear hb2); (try clear hk); (try clear hi)) | (go_at_call 35; (with_reducible refine (spec_l1Cur_pick.calls g s0_0 t102 t103 (a2.size : Int) t104 t105 t106 w0 _ ?side1 ?side2 A8.out).mono ?_); (case side1 => repeat (first | (with_reducible first | exact HI0.out | apply IsS51.alloc | apply IsS51.drewN | apply IsS51.drew | apply IsS51.set_1 | apply IsS51.set_2) | exact HI0.out)); (case side2 => repeat (first | (with_reducible first | exact HB.out | apply bA | apply bN | apply bD | refine below_set ?_ (IsS51.ge HI0.out)) | exact HB.out)); rintro e w33 ⟨rfl, hi, hb, hk⟩; have n0_ := Aside0.mk (KeepBut.trans (by repeat (first | (with_reducible first | exact HK.out | apply KeepBut.set_ | apply keep_drewN | apply keep_drew | apply keep_alloc) | exact HK.out)) hk (.inl rfl)); have n1_ := Aside0.mk (hb); have n2_ := Aside0.mk (hi); clear HK HB HI0; have HK := n0_; have HB := n1_; have HI0 := n2_; clear n0_ n1_ n2_; (try clear hb); (try clear hb2); (try clear hk); (try clear hi)) | (go_at_call 35; (with_reducible refine (spec_l1Cur_pick.calls g s0_0 t105 t106 3 t107 t108 t109 w0 _ ?side1 ?side2 A13.out).mono ?_); (case side1 => repeat (first | (with_reducible first | exact HI0.out | apply IsS51.alloc | apply IsS51.drewN | apply IsS51.drew | apply IsS51.set_1 | apply IsS51.set_2) | exact HI0.out)); (case side2 => repeat (first | (with_reducible first | exact HB.out | apply bA | apply bN | apply bD | refine below_set ?_ (IsS51.ge HI0.out)) | exact HB.out)); rintro e w34 ⟨rfl, hi, hb, hk⟩; have n0_ := Aside0.mk (KeepBut.trans (by repeat (first | (with_reducible first | exact HK.out | apply KeepBut.set_ | apply keep_drewN | apply keep_drew | apply keep_alloc) | exact HK.out)) hk (.inl rfl)); have n1_ := Aside0.mk (hb); have n2_ := Aside0.mk (hi); clear HK HB HI0; have HK := n0_; have HB := n1_; have HI0 := n2_; clear n0_ n1_ n2_; (try clear hb); (try clear hb2); (try clear hk); (try clear hi))))
              (repeat (go_quiet (first | (go_at_call 35; (with_reducible refine (spec_l1Cur_pick.calls g s0_0 s0_1 s0_2 (a1.size : Int) t101 t102 t103 w0 _ ?side1 ?side2 A7.out).mono ?_); (case side1 => repeat (first | (with_reducible first | exact HI0.out | apply IsS51.alloc | apply IsS51.drewN | apply IsS51.drew | apply IsS51.set_1 | apply IsS51.set_2) | exact HI0.out)); (case side2 => repeat (first | (with_reducible first | exact HB.out | apply bA | apply bN | apply bD | refine below_set ?_ (IsS51.ge HI0.out)) | exact HB.out)); rintro e w32 ⟨rfl, hi, hb, hk⟩; have n0_ := Aside0.mk (KeepBut.trans (by repeat (first | (with_reducible first | exact HK.out | apply KeepBut.set_ | apply keep_drewN | apply keep_drew | apply keep_alloc) | exact HK.out)) hk (.inl rfl)); have n1_ := Aside0.mk (hb); have n2_ := Aside0.mk (hi); clear HK HB HI0; have HK := n0_; have HB := n1_; have HI0 := n2_; clear n0_ n1_ n2_; (try clear hb); (try clear hb2); (try clear hk); (try clear hi)) | (go_at_call 35; (with_reducible refine (spec_l1Cur_pick.calls g s0_0 t102 t103 (a2.size : Int) t104 t105 t106 w0 _ ?side1 ?side2 A8.out).mono ?_); (case side1 => repeat (first | (with_reducible first | exact HI0.out | apply IsS51.alloc | apply IsS51.drewN | apply IsS51.drew | apply IsS51.set_1 | apply IsS51.set_2) | exact HI0.out)); (case side2 => repeat (first | (with_reducible first | exact HB.out | apply bA | apply bN | apply bD | refine below_set ?_ (IsS51.ge HI0.out)) | exact HB.out)); rintro e w33 ⟨rfl, hi, hb, hk⟩; have n0_ := Aside0.mk (KeepBut.trans (by repeat (first | (with_reducible first | exact HK.out | apply KeepBut.set_ | apply keep_drewN | apply keep_drew | apply keep_alloc) | exact HK.out)) hk (.inl rfl)); have n1_ := Aside0.mk (hb); have n2_ := Aside0.mk (hi); clear HK HB HI0; have HK := n0_; have HB := n1_; have HI0 := n2_; clear n0_ n1_ n2_; (try clear hb); (try clear hb2); (try clear hk); (try clear hi)) | (go_at_call 35; (with_reducible refine (spec_l1Cur_pick.calls g s0_0 t105 t106 3 t107 t108 t109 w0 _ ?side1 ?side2 A13.out).mono ?_); (case side1 => repeat (first | (with_reducible first | exact HI0.out | apply IsS51.alloc | apply IsS51.drewN | apply IsS51.drew | apply IsS51.set_1 | apply IsS51.set_2) | exact HI0.out)); (case side2 => repeat (first | (with_reducible first | exact HB.out | apply bA | apply bN | apply bD | refine below_set ?_ (IsS51.ge HI0.out)) | exact HB.out)); rintro e w34 ⟨rfl, hi, hb, hk⟩; have n0_ := Aside0.mk (KeepBut.trans (by repeat (first | (with_reducible first | exact HK.out | apply KeepBut.set_ | apply keep_drewN | apply keep_drew | apply keep_alloc) | exact HK.out)) hk (.inl rfl)); have n1_ := Aside0.mk (hb); have n2_ := Aside0.mk (hi); clear HK HB HI0; have HK := n0_; have HB := n1_; have HI0 := n2_; clear n0_ n1_ n2_; (try clear hb); (try clear hb2); (try clear hk); (try clear hi))); try go_wp2_with (first | (go_at_call 35; (with_reducible refine (spec_l1Cur_pick.calls g s0_0 s0_1 s0_2 (a1.size : Int) t101 t102 t103 w0 _ ?side1 ?side2 A7.out).mono ?_); (case side1 => repeat (first | (with_reducible first | exact HI0.out | apply IsS51.alloc | apply IsS51.drewN | apply IsS51.drew | apply IsS51.set_1 | apply IsS51.set_2) | exact HI0.out)); (case side2 => repeat (first | (with_reducible first | exact HB.out | apply bA | apply bN | apply bD | refine below_set ?_ (IsS51.ge HI0.out)) | exact HB.out)); rintro e w32 ⟨rfl, hi, hb, hk⟩; have n0_ := Aside0.mk (KeepBut.trans (by repeat (first | (with_reducible first | exact HK.out | apply KeepBut.set_ | apply keep_drewN | apply keep_drew | apply keep_alloc) | exact HK.out)) hk (.inl rfl)); have n1_ := Aside0.mk (hb); have n2_ := Aside0.mk (hi); clear HK HB HI0; have HK := n0_; have HB := n1_; have HI0 := n2_; clear n0_ n1_ n2_; (try clear hb); (try clear hb2); (try clear hk); (try clear hi)) | (go_at_call 35; (with_reducible refine (spec_l1Cur_pick.calls g s0_0 t102 t103 (a2.size : Int) t104 t105 t106 w0 _ ?side1 ?side2 A8.out).mono ?_); (case side1 => repeat (first | (with_reducible first | exact HI0.out | apply IsS51.alloc | apply IsS51.drewN | apply IsS51.drew | apply IsS51.set_1 | apply IsS51.set_2) | exact HI0.out)); (case side2 => repeat (first | (with_reducible first | exact HB.out | apply bA | apply bN | apply bD | refine below_set ?_ (IsS51.ge HI0.out)) | exact HB.out)); rintro e w33 ⟨rfl, hi, hb, hk⟩; have n0_ := Aside0.mk (KeepBut.trans (by repeat (first | (with_reducible first | exact HK.out | apply KeepBut.set_ | apply keep_drewN | apply keep_drew | apply keep_alloc) | exact HK.out)) hk (.inl rfl)); have n1_ := Aside0.mk (hb); have n2_ := Aside0.mk (hi); clear HK HB HI0; have HK := n0_; have HB := n1_; have HI0 := n2_; clear n0_ n1_ n2_; (try clear hb); (try clear hb2); (try clear hk); (try clear hi)) | (go_at_call 35; (with_reducible refine (spec_l1Cur_pick.calls g s0_0 t105 t106 3 t107 t108 t109 w0 _ ?side1 ?side2 A13.out).mono ?_); (case side1 => repeat (first | (with_reducible first | exact HI0.out | apply IsS51.alloc | apply IsS51.drewN | apply IsS51.drew | apply IsS51.set_1 | apply IsS51.set_2) | exact HI0.out)); (case side2 => repeat (first | (with_reducible first | exact HB.out | apply bA | apply bN | apply bD | refine below_set ?_ (IsS51.ge HI0.out)) | exact HB.out)); rintro e w34 ⟨rfl, hi, hb, hk⟩; have n0_ := Aside0.mk (KeepBut.trans (by repeat (first | (with_reducible first | exact HK.out | apply KeepBut.set_ | apply keep_drewN | apply keep_drew | apply keep_alloc) | exact HK.out)) hk (.inl rfl)); have n1_ := Aside0.mk (hb); have n2_ := Aside0.mk (hi); clear HK HB HI0; have HK := n0_; have HB := n1_; have HI0 := n2_; clear n0_ n1_ n2_; (try clear hb); (try clear hb2); (try clear hk); (try clear hi))))); go_ret
              exact ⟨by first | rfl | (simp [errW_none, errW_some] <;> rfl) | (simp only [← hji28]; first | rfl | (simp [errW_none, errW_some] <;> rfl)) | (simp [*, errW_none, errW_some] <;> rfl), by repeat (first | (with_reducible first | exact HI0.out | apply IsS51.alloc | apply IsS51.drewN | apply IsS51.drew | apply IsS51.set_1 | apply IsS51.set_2) | exact HI0.out), by repeat (first | (with_reducible first | exact HB.out | apply bA | apply bN | apply bD | refine below_set ?_ (IsS51.ge HI0.out)) | exact HB.out), by repeat (first | (with_reducible first | exact HK.out | apply KeepBut.set_ | apply keep_drewN | apply keep_drew | apply keep_alloc) | exact HK.out)⟩
             ·rw [if_neg c31] at H
              exact absurd H (by simp)
            ·rw [if_neg c30] at H
             exact absurd H (by simp)
           ·rw [if_neg c29] at H
            exact absurd H (by simp)
          ·rw [if_neg c27] at H
           exact absurd H (by simp)
         ·rw [if_neg c26] at H
          exact absurd H (by simp)
        ·rw [if_neg c25] at H
         exact absurd H (by simp)
       ·rw [if_neg c24] at H
        (have c24b0 : (t107 == 1) = false := beq_eq_false_iff_ne.mpr c24); (have c24b1 : (t107 != 1) = true := bne_iff_ne.mpr c24); (by_cases c35 : 0 ≤ t101)
        ·rw [if_pos c35] at H
         (have c35b0 := eq_true c35); (have c35b1 := decide_eq_true c35); clear c35; (by_cases c36 : t101 ≤ (a1.size : Int))
         ·rw [if_pos c36] at H
          (have c36b0 := eq_true c36); (have c36b1 := decide_eq_true c36); clear c36; (obtain ⟨ji37, hji37⟩ : ∃ j_ : Int, (wrap64 (t101 + 1)) = j_ := ⟨_, rfl⟩); (replace H : (if 0 ≤ (ji37) then (if (ji37) ≤ (a1.size : Int) then (if (a1.extract 0 (t101 : Int).toNat).size + (a1.extract ((ji37) : Int).toNat a1.size).size ≤ 9223372036854775807 then (some ((a1.extract 0 (t101 : Int).toNat) ++ (a1.extract ((ji37) : Int).toNat a1.size), t108, t109)) else (none)) else (none)) else (none)) = some (r1, r2, r3) := by first | (rw [hji37] at H; exact H) | (simp only [hji37] at H ⊢; exact H)); ((try rw [hji37] at A7)); ((try rw [hji37] at A8)); ((try rw [hji37] at A13)); (have hji37w : (IntKind.i64.wrap (t101 + 1)) = ji37 := (i64_w _).trans hji37); (by_cases c38 : 0 ≤ (ji37))
          ·rw [if_pos c38] at H
           (have c38b0 := eq_true c38); (have c38b1 := decide_eq_true c38); clear c38; (by_cases c39 : (ji37) ≤ (a1.size : Int))
           ·rw [if_pos c39] at H
            (have c39b0 := eq_true c39); (have c39b1 := decide_eq_true c39); clear c39; (by_cases c40 : (a1.extract 0 (t101 : Int).toNat).size + (a1.extract ((ji37) : Int).toNat a1.size).size ≤ 9223372036854775807)
            ·rw [if_pos c40] at H
             (have c40b0 := eq_true c40); (have c40b1 := decide_eq_true c40); (try have c40n0 := c40b0); (try (push_cast [Int.toNat_natCast, ByteArray.size_append] at c40n0)); (try have c40n1 := c40b1); (try (push_cast [Int.toNat_natCast, ByteArray.size_append] at c40n1)); (try have c40b2 : (9223372036854775807 < (a1.extract 0 (t101 : Int).toNat).size + (a1.extract ((ji37) : Int).toNat a1.size).size) = False := eq_false (Nat.not_lt.2 c40)); (try have c40b3 := c40b2); (try simp only [show (a1.extract 0 (t101 : Int).toNat).size = (t101 : Int).toNat - 0 from by (rw [ByteArray.size_extract];  omega), show (a1.extract ((ji37) : Int).toNat a1.size).size = a1.size - ((ji37) : Int).toNat from by (rw [ByteArray.size_extract];  omega), ByteArray.size_append] at c40b3); (simp only [Option.some.injEq, Prod.mk.injEq] at H); (obtain ⟨rfl, rfl, rfl⟩ := H); (go_enter Tryd.func36, Tryd.ntmps36); (go_wp2_with (first | (go_at_call 35; (with_reducible refine (spec_l1Cur_pick.calls g s0_0 s0_1 s0_2 (a1.size : Int) t101 t102 t103 w0 _ ?side1 ?side2 A7.out).mono ?_); (case side1 => repeat (first | (with_reducible first | exact HI0.out | apply IsS51.alloc | apply IsS51.drewN | apply IsS51.drew | apply IsS51.set_1 | apply IsS51.set_2) | exact HI0.out)); (case side2 => repeat (first | (with_reducible first | exact HB.out | apply bA | apply bN | apply bD | refine below_set ?_ (IsS51.ge HI0.out)) | exact HB.out)); rintro e w41 ⟨rfl, hi, hb, hk⟩; have n0_ := Aside0.mk (KeepBut.trans (by repeat (first | (with_reducible first | exact HK.out | apply KeepBut.set_ | apply keep_drewN | apply keep_drew | apply keep_alloc) | exact HK.out)) hk (.inl rfl)); have n1_ := Aside0.mk (hb); have n2_ := Aside0.mk (hi); clear HK HB HI0; have HK := n0_; have HB := n1_; have HI0 := n2_; clear n0_ n1_ n2_; (try clear hb); (try clear hb2); (try clear hk); (try clear hi)) | (go_at_call 35; (with_reducible refine (spec_l1Cur_pick.calls g s0_0 t102 t103 (a2.size : Int) t104 t105 t106 w0 _ ?side1 ?side2 A8.out).mono ?_); (case side1 => repeat (first | (with_reducible first | exact HI0.out | apply IsS51.alloc | apply IsS51.drewN | apply IsS51.drew | apply IsS51.set_1 | apply IsS51.set_2) | exact HI0.out)); (case side2 => repeat (first | (with_reducible first | exact HB.out | apply bA | apply bN | apply bD | refine below_set ?_ (IsS51.ge HI0.out)) | exact HB.out)); rintro e w42 ⟨rfl, hi, hb, hk⟩; have n0_ := Aside0.mk (KeepBut.trans (by repeat (first | (with_reducible first | exact HK.out | apply KeepBut.set_ | apply keep_drewN | apply keep_drew | apply keep_alloc) | exact HK.out)) hk (.inl rfl)); have n1_ := Aside0.mk (hb); have n2_ := Aside0.mk (hi); clear HK HB HI0; have HK := n0_; have HB := n1_; have HI0 := n2_; clear n0_ n1_ n2_; (try clear hb); (try clear hb2); (try clear hk); (try clear hi)) | (go_at_call 35; (with_reducible refine (spec_l1Cur_pick.calls g s0_0 t105 t106 3 t107 t108 t109 w0 _ ?side1 ?side2 A13.out).mono ?_); (case side1 => repeat (first | (with_reducible first | exact HI0.out | apply IsS51.alloc | apply IsS51.drewN | apply IsS51.drew | apply IsS51.set_1 | apply IsS51.set_2) | exact HI0.out)); (case side2 => repeat (first | (with_reducible first | exact HB.out | apply bA | apply bN | apply bD | refine below_set ?_ (IsS51.ge HI0.out)) | exact HB.out)); rintro e w43 ⟨rfl, hi, hb, hk⟩; have n0_ := Aside0.mk (KeepBut.trans (by repeat (first | (with_reducible first | exact HK.out | apply KeepBut.set_ | apply keep_drewN | apply keep_drew | apply keep_alloc) | exact HK.out)) hk (.inl rfl)); have n1_ := Aside0.mk (hb); have n2_ := Aside0.mk (hi); clear HK HB HI0; have HK := n0_; have HB := n1_; have HI0 := n2_; clear n0_ n1_ n2_; (try clear hb); (try clear hb2); (try clear hk); (try clear hi))))
             (repeat (go_quiet (first | (go_at_call 35; (with_reducible refine (spec_l1Cur_pick.calls g s0_0 s0_1 s0_2 (a1.size : Int) t101 t102 t103 w0 _ ?side1 ?side2 A7.out).mono ?_); (case side1 => repeat (first | (with_reducible first | exact HI0.out | apply IsS51.alloc | apply IsS51.drewN | apply IsS51.drew | apply IsS51.set_1 | apply IsS51.set_2) | exact HI0.out)); (case side2 => repeat (first | (with_reducible first | exact HB.out | apply bA | apply bN | apply bD | refine below_set ?_ (IsS51.ge HI0.out)) | exact HB.out)); rintro e w41 ⟨rfl, hi, hb, hk⟩; have n0_ := Aside0.mk (KeepBut.trans (by repeat (first | (with_reducible first | exact HK.out | apply KeepBut.set_ | apply keep_drewN | apply keep_drew | apply keep_alloc) | exact HK.out)) hk (.inl rfl)); have n1_ := Aside0.mk (hb); have n2_ := Aside0.mk (hi); clear HK HB HI0; have HK := n0_; have HB := n1_; have HI0 := n2_; clear n0_ n1_ n2_; (try clear hb); (try clear hb2); (try clear hk); (try clear hi)) | (go_at_call 35; (with_reducible refine (spec_l1Cur_pick.calls g s0_0 t102 t103 (a2.size : Int) t104 t105 t106 w0 _ ?side1 ?side2 A8.out).mono ?_); (case side1 => repeat (first | (with_reducible first | exact HI0.out | apply IsS51.alloc | apply IsS51.drewN | apply IsS51.drew | apply IsS51.set_1 | apply IsS51.set_2) | exact HI0.out)); (case side2 => repeat (first | (with_reducible first | exact HB.out | apply bA | apply bN | apply bD | refine below_set ?_ (IsS51.ge HI0.out)) | exact HB.out)); rintro e w42 ⟨rfl, hi, hb, hk⟩; have n0_ := Aside0.mk (KeepBut.trans (by repeat (first | (with_reducible first | exact HK.out | apply KeepBut.set_ | apply keep_drewN | apply keep_drew | apply keep_alloc) | exact HK.out)) hk (.inl rfl)); have n1_ := Aside0.mk (hb); have n2_ := Aside0.mk (hi); clear HK HB HI0; have HK := n0_; have HB := n1_; have HI0 := n2_; clear n0_ n1_ n2_; (try clear hb); (try clear hb2); (try clear hk); (try clear hi)) | (go_at_call 35; (with_reducible refine (spec_l1Cur_pick.calls g s0_0 t105 t106 3 t107 t108 t109 w0 _ ?side1 ?side2 A13.out).mono ?_); (case side1 => repeat (first | (with_reducible first | exact HI0.out | apply IsS51.alloc | apply IsS51.drewN | apply IsS51.drew | apply IsS51.set_1 | apply IsS51.set_2) | exact HI0.out)); (case side2 => repeat (first | (with_reducible first | exact HB.out | apply bA | apply bN | apply bD | refine below_set ?_ (IsS51.ge HI0.out)) | exact HB.out)); rintro e w43 ⟨rfl, hi, hb, hk⟩; have n0_ := Aside0.mk (KeepBut.trans (by repeat (first | (with_reducible first | exact HK.out | apply KeepBut.set_ | apply keep_drewN | apply keep_drew | apply keep_alloc) | exact HK.out)) hk (.inl rfl)); have n1_ := Aside0.mk (hb); have n2_ := Aside0.mk (hi); clear HK HB HI0; have HK := n0_; have HB := n1_; have HI0 := n2_; clear n0_ n1_ n2_; (try clear hb); (try clear hb2); (try clear hk); (try clear hi))); try go_wp2_with (first | (go_at_call 35; (with_reducible refine (spec_l1Cur_pick.calls g s0_0 s0_1 s0_2 (a1.size : Int) t101 t102 t103 w0 _ ?side1 ?side2 A7.out).mono ?_); (case side1 => repeat (first | (with_reducible first | exact HI0.out | apply IsS51.alloc | apply IsS51.drewN | apply IsS51.drew | apply IsS51.set_1 | apply IsS51.set_2) | exact HI0.out)); (case side2 => repeat (first | (with_reducible first | exact HB.out | apply bA | apply bN | apply bD | refine below_set ?_ (IsS51.ge HI0.out)) | exact HB.out)); rintro e w41 ⟨rfl, hi, hb, hk⟩; have n0_ := Aside0.mk (KeepBut.trans (by repeat (first | (with_reducible first | exact HK.out | apply KeepBut.set_ | apply keep_drewN | apply keep_drew | apply keep_alloc) | exact HK.out)) hk (.inl rfl)); have n1_ := Aside0.mk (hb); have n2_ := Aside0.mk (hi); clear HK HB HI0; have HK := n0_; have HB := n1_; have HI0 := n2_; clear n0_ n1_ n2_; (try clear hb); (try clear hb2); (try clear hk); (try clear hi)) | (go_at_call 35; (with_reducible refine (spec_l1Cur_pick.calls g s0_0 t102 t103 (a2.size : Int) t104 t105 t106 w0 _ ?side1 ?side2 A8.out).mono ?_); (case side1 => repeat (first | (with_reducible first | exact HI0.out | apply IsS51.alloc | apply IsS51.drewN | apply IsS51.drew | apply IsS51.set_1 | apply IsS51.set_2) | exact HI0.out)); (case side2 => repeat (first | (with_reducible first | exact HB.out | apply bA | apply bN | apply bD | refine below_set ?_ (IsS51.ge HI0.out)) | exact HB.out)); rintro e w42 ⟨rfl, hi, hb, hk⟩; have n0_ := Aside0.mk (KeepBut.trans (by repeat (first | (with_reducible first | exact HK.out | apply KeepBut.set_ | apply keep_drewN | apply keep_drew | apply keep_alloc) | exact HK.out)) hk (.inl rfl)); have n1_ := Aside0.mk (hb); have n2_ := Aside0.mk (hi); clear HK HB HI0; have HK := n0_; have HB := n1_; have HI0 := n2_; clear n0_ n1_ n2_; (try clear hb); (try clear hb2); (try clear hk); (try clear hi)) | (go_at_call 35; (with_reducible refine (spec_l1Cur_pick.calls g s0_0 t105 t106 3 t107 t108 t109 w0 _ ?side1 ?side2 A13.out).mono ?_); (case side1 => repeat (first | (with_reducible first | exact HI0.out | apply IsS51.alloc | apply IsS51.drewN | apply IsS51.drew | apply IsS51.set_1 | apply IsS51.set_2) | exact HI0.out)); (case side2 => repeat (first | (with_reducible first | exact HB.out | apply bA | apply bN | apply bD | refine below_set ?_ (IsS51.ge HI0.out)) | exact HB.out)); rintro e w43 ⟨rfl, hi, hb, hk⟩; have n0_ := Aside0.mk (KeepBut.trans (by repeat (first | (with_reducible first | exact HK.out | apply KeepBut.set_ | apply keep_drewN | apply keep_drew | apply keep_alloc) | exact HK.out)) hk (.inl rfl)); have n1_ := Aside0.mk (hb); have n2_ := Aside0.mk (hi); clear HK HB HI0; have HK := n0_; have HB := n1_; have HI0 := n2_; clear n0_ n1_ n2_; (try clear hb); (try clear hb2); (try clear hk); (try clear hi))))); go_ret
             exact ⟨by first | rfl | (simp [errW_none, errW_some] <;> rfl) | (simp only [← hji37]; first | rfl | (simp [errW_none, errW_some] <;> rfl)) | (simp [*, errW_none, errW_some] <;> rfl), by repeat (first | (with_reducible first | exact HI0.out | apply IsS51.alloc | apply IsS51.drewN | apply IsS51.drew | apply IsS51.set_1 | apply IsS51.set_2) | exact HI0.out), by repeat (first | (with_reducible first | exact HB.out | apply bA | apply bN | apply bD | refine below_set ?_ (IsS51.ge HI0.out)) | exact HB.out), by repeat (first | (with_reducible first | exact HK.out | apply KeepBut.set_ | apply keep_drewN | apply keep_drew | apply keep_alloc) | exact HK.out)⟩
            ·rw [if_neg c40] at H
             exact absurd H (by simp)
           ·rw [if_neg c39] at H
            exact absurd H (by simp)
          ·rw [if_neg c38] at H
           exact absurd H (by simp)
         ·rw [if_neg c36] at H
          exact absurd H (by simp)
        ·rw [if_neg c35] at H
         exact absurd H (by simp)
     ·rw [if_neg c12] at H
      exact absurd H (by simp)
    ·rw [if_neg c11] at H
     exact absurd H (by simp)
   ·rw [if_neg c10] at H
    exact absurd H (by simp)
  ·rw [if_neg c9] at H
   exact absurd H (by simp)
/-! ### spec_l1Cur_anyLog: function 41 -/
def spec_l1Cur_anyLog.f (k : Nat) (s0_0 : List Int) (s0_1 : Int) (s0_2 : Int) : Option (ByteArray × ByteArray × Int × Int × Int) := (spec_l1Cur_log.f k s0_0 s0_1 s0_2).bind fun bt102 => ((spec_l1Cur_pick.f s0_0 bt102.2.2.2.1 bt102.2.2.2.2 24).bind fun bt108 => (if bt108.1 = 0 then (some (bt102.1, bt102.2.1, wrap64 (bt102.2.2.1 + 1), bt108.2.1, bt108.2.2)) else (if bt108.1 = 1 then ((spec_l1Cur_spoilt.f s0_0 bt108.2.1 bt108.2.2 bt102.2.1 (⟨#[35, 64, 10, 48, 49]⟩ : ByteArray)).bind fun bt111 => (some (bt102.1, bt111.1, bt102.2.2.1, bt111.2.1, bt111.2.2))) else (if bt108.1 = 2 then (if bt102.1.size + bt102.2.1.size ≤ 9223372036854775807 then (some (bt102.1 ++ bt102.2.1, bt102.2.1, bt102.2.2.1, bt108.2.1, bt108.2.2)) else (none)) else (some (bt102.1, bt102.2.1, bt102.2.2.1, bt108.2.1, bt108.2.2))))))
set_option maxHeartbeats 8000000 in
set_option maxRecDepth 100000 in
theorem spec_l1Cur_anyLog.calls (k : Nat) (g : Nat) (s0_0 : List Int) (s0_1 : Int) (s0_2 : Int) (r1 : ByteArray) (r2 : ByteArray) (r3 : Int) (r4 : Int) (r5 : Int) (w0 w : World) (hI : IsS51 w0 w g s0_0 s0_1 s0_2) (hB : Below w0.heap.size w0 w) (h : spec_l1Cur_anyLog.f k s0_0 s0_1 s0_2 = some (r1, r2, r3, r4, r5)) :
  Calls Tryd.prog 41 #[.pointer (some ⟨g, 0, none⟩)] w fun e w' => e = .returned (.agg #[.string r1, .string r2, .int .i64 r3]) ∧ IsS51 w0 w' g s0_0 r4 r5 ∧ Below w0.heap.size w0 w' ∧ KeepBut w w' g none := by
 (have hu32 := Tryd.underlying32); (have HI0 := Aside0.mk hI); (have HK := Aside0.mk (KeepBut.refl w g none)); (have HL := Aside0.mk hB.size); clear hI; (have HW0 := Aside0.mk hB.size); (have HB := Aside0.mk hB); clear hB; (unfold spec_l1Cur_anyLog.f at h); (have H := h); clear h; (replace H := obS H); (obtain ⟨⟨t102, t103, t104, t105, t106⟩, A2, H⟩ := H); (replace H : ((spec_l1Cur_pick.f s0_0 t105 t106 24).bind fun bt108 => (if bt108.1 = 0 then (some (t102, t103, wrap64 (t104 + 1), bt108.2.1, bt108.2.2)) else (if bt108.1 = 1 then ((spec_l1Cur_spoilt.f s0_0 bt108.2.1 bt108.2.2 t103 (⟨#[35, 64, 10, 48, 49]⟩ : ByteArray)).bind fun bt111 => (some (t102, bt111.1, t104, bt111.2.1, bt111.2.2))) else (if bt108.1 = 2 then (if t102.size + t103.size ≤ 9223372036854775807 then (some (t102 ++ t103, t103, t104, bt108.2.1, bt108.2.2)) else (none)) else (some (t102, t103, t104, bt108.2.1, bt108.2.2)))))) = some (r1, r2, r3, r4, r5) := H); (replace H := obS H); (obtain ⟨⟨t108, t109, t110⟩, A3, H⟩ := H); (replace H : (if t108 = 0 then (some (t102, t103, wrap64 (t104 + 1), t109, t110)) else (if t108 = 1 then ((spec_l1Cur_spoilt.f s0_0 t109 t110 t103 (⟨#[35, 64, 10, 48, 49]⟩ : ByteArray)).bind fun bt111 => (some (t102, bt111.1, t104, bt111.2.1, bt111.2.2))) else (if t108 = 2 then (if t102.size + t103.size ≤ 9223372036854775807 then (some (t102 ++ t103, t103, t104, t109, t110)) else (none)) else (some (t102, t103, t104, t109, t110))))) = some (r1, r2, r3, r4, r5) := H); (by_cases c4 : t108 = 0)
 ·rw [if_pos c4] at H
  (have c4b0 : (t108 == 0) = true := beq_iff_eq.mpr c4); (have c4b1 : (t108 != 0) = false := bne_eq_false_iff_eq.mpr c4); clear c4; (simp only [Option.some.injEq, Prod.mk.injEq] at H); (obtain ⟨rfl, rfl, rfl, rfl, rfl⟩ := H); (go_enter Tryd.func41, Tryd.ntmps41)
  go_wp2_with (first | ((with_reducible refine gate_dst (N := 2) rfl ?_); refine box_event ?hg (N := 2) ?hd (cs := #[.string (⟨#[]⟩ : ByteArray), .string (⟨#[]⟩ : ByteArray), .int .i64 0]) (t := 32) ?hr ?_; (case hd => rfl); (case hg => rfl); (case hr => first | (go_simp; done) | (go_simp; rfl)); intro gb101 hg w5 hbox hb; have n0_ := Aside0.mk (IsS51.below (by repeat (first | (with_reducible first | exact HI0.out | apply IsS51.alloc | apply IsS51.drewN | apply IsS51.drew | apply IsS51.set_1 | apply IsS51.set_2) | exact HI0.out)) hb); have n1_ := Aside0.mk (KeepBut.trans (by repeat (first | (with_reducible first | exact HK.out | apply KeepBut.set_ | apply keep_drewN | apply keep_drew | apply keep_alloc) | exact HK.out)) (KeepBut.of_below hb g none) (.inl rfl)); have n2_ := Aside0.mk (below_step (by repeat (first | (with_reducible first | exact HB.out | apply bA | apply bN | apply bD | refine below_set ?_ (IsS51.ge HI0.out)) | exact HB.out)) hb); have n3_ := Aside0.mk (hbox); have n4_ := Aside0.mk ((by rw [hg]; exact (keep_size (w := w) (g := g) (row := none) (by repeat (first | (with_reducible first | exact HK.out | apply KeepBut.set_ | apply keep_drewN | apply keep_drew | apply keep_alloc) | exact HK.out))) : w.heap.size ≤ gb101)); have n5_ := Aside0.mk ((Nat.le_trans HW0.out (by rw [hg]; exact (keep_size (w := w) (g := g) (row := none) (by repeat (first | (with_reducible first | exact HK.out | apply KeepBut.set_ | apply keep_drewN | apply keep_drew | apply keep_alloc) | exact HK.out))) : w.heap.size ≤ gb101) : w0.heap.size ≤ gb101)); have n6_ := Aside0.mk ((by rw [hg]; exact Nat.ne_of_lt (IsS51.lt (show IsS51 w0 _ g s0_0 s0_1 s0_2 from by repeat (first | (with_reducible first | exact HI0.out | apply IsS51.alloc | apply IsS51.drewN | apply IsS51.drew | apply IsS51.set_1 | apply IsS51.set_2) | exact HI0.out))) : g ≠ gb101)); have n7_ := Aside0.mk (Ne.symm n6_.out); clear HI0 HK HB; have HI0 := n0_; have HK := n1_; have HB := n2_; have BK101 := n3_; have GW101 := n4_; have GE101 := n5_; have NB0_101 := n6_; have NB101_0 := n7_; clear n0_ n1_ n2_ n3_ n4_ n5_ n6_ n7_ hb hbox hg) | ((with_reducible refine gate_callee (f := 34) rfl ?_); refine gL (some 5) Tryd.func34 #[.pointer (some ⟨g, 0, none⟩)] ?_; (with_reducible refine (spec_l1Cur_log.calls k g s0_0 s0_1 s0_2 t102 t103 t104 t105 t106 w0 _ ?side1 ?side2 A2.out).mono ?_); (case side1 => repeat (first | (with_reducible first | exact HI0.out | apply IsS51.alloc | apply IsS51.drewN | apply IsS51.drew | apply IsS51.set_1 | apply IsS51.set_2 | refine IsS51.far ?_ NB0_101.out _) | exact HI0.out)); (case side2 => repeat (first | (with_reducible first | exact HB.out | apply bA | apply bN | apply bD | refine below_set ?_ (IsS51.ge HI0.out) | refine below_set ?_ GE101.out) | exact HB.out)); rintro e w6 ⟨rfl, hi, hb, hk⟩; refine ⟨_, rfl, ?_⟩; have n0_ := Aside0.mk (KeepBut.blk hk (g' := gb101) (o := .cells #[.string (⟨#[]⟩ : ByteArray), .string (⟨#[]⟩ : ByteArray), .int .i64 0] 32 (0, 0)) (kI BK101) NB101_0.out (by simp)); have n1_ := Aside0.mk (KeepBut.trans (by repeat (first | (with_reducible first | exact HK.out | apply KeepBut.set_ | apply keep_drewN | apply keep_drew | apply keep_alloc | refine keep_far ?_ GW101.out _) | exact HK.out)) hk (.inl rfl)); have n2_ := Aside0.mk (hb); have n3_ := Aside0.mk (hi); clear BK101 HK HB HI0; have BK101 := n0_; have HK := n1_; have HB := n2_; have HI0 := n3_; clear n0_ n1_ n2_ n3_; (try clear hb); (try clear hb2); (try clear hk); (try clear hi)) | ((with_reducible refine gate_dst (N := 3) rfl ?_); refine box_event ?hg (N := 3) ?hd (cs := #[.string (⟨#[]⟩ : ByteArray), .string (⟨#[]⟩ : ByteArray), .int .i64 0]) (t := 32) ?hr ?_; (case hd => rfl); (case hg => rfl); (case hr => first | (go_simp; done) | (go_simp; rfl)); intro gb107 hg w7 hbox hb; have n0_ := Aside0.mk (IsS51.below (by repeat (first | (with_reducible first | exact HI0.out | apply IsS51.alloc | apply IsS51.drewN | apply IsS51.drew | apply IsS51.set_1 | apply IsS51.set_2 | refine IsS51.far ?_ NB0_101.out _) | exact HI0.out)) hb); have n1_ := Aside0.mk (kbI hb BK101); have n2_ := Aside0.mk (KeepBut.trans (by repeat (first | (with_reducible first | exact HK.out | apply KeepBut.set_ | apply keep_drewN | apply keep_drew | apply keep_alloc | refine keep_far ?_ GW101.out _) | exact HK.out)) (KeepBut.of_below hb g none) (.inl rfl)); have n3_ := Aside0.mk (below_step (by repeat (first | (with_reducible first | exact HB.out | apply bA | apply bN | apply bD | refine below_set ?_ (IsS51.ge HI0.out) | refine below_set ?_ GE101.out) | exact HB.out)) hb); have n4_ := Aside0.mk (hbox); have n5_ := Aside0.mk ((by rw [hg]; exact (keep_size (w := w) (g := g) (row := none) (by repeat (first | (with_reducible first | exact HK.out | apply KeepBut.set_ | apply keep_drewN | apply keep_drew | apply keep_alloc | refine keep_far ?_ GW101.out _) | exact HK.out))) : w.heap.size ≤ gb107)); have n6_ := Aside0.mk ((Nat.le_trans HW0.out (by rw [hg]; exact (keep_size (w := w) (g := g) (row := none) (by repeat (first | (with_reducible first | exact HK.out | apply KeepBut.set_ | apply keep_drewN | apply keep_drew | apply keep_alloc | refine keep_far ?_ GW101.out _) | exact HK.out))) : w.heap.size ≤ gb107) : w0.heap.size ≤ gb107)); have n7_ := Aside0.mk ((by rw [hg]; exact Nat.ne_of_lt (blk_lt (kI BK101)) : gb101 ≠ gb107)); have n8_ := Aside0.mk (Ne.symm n7_.out); have n9_ := Aside0.mk ((by rw [hg]; exact Nat.ne_of_lt (IsS51.lt (show IsS51 w0 _ g s0_0 t105 t106 from by repeat (first | (with_reducible first | exact HI0.out | apply IsS51.alloc | apply IsS51.drewN | apply IsS51.drew | apply IsS51.set_1 | apply IsS51.set_2 | refine IsS51.far ?_ NB0_101.out _) | exact HI0.out))) : g ≠ gb107)); have n10_ := Aside0.mk (Ne.symm n9_.out); clear HI0 BK101 HK HB; have HI0 := n0_; have BK101 := n1_; have HK := n2_; have HB := n3_; have BK107 := n4_; have GW107 := n5_; have GE107 := n6_; have NB101_107 := n7_; have NB107_101 := n8_; have NB0_107 := n9_; have NB107_0 := n10_; clear n0_ n1_ n2_ n3_ n4_ n5_ n6_ n7_ n8_ n9_ n10_ hb hbox hg; have hnb8 := NB107_101.out; have hnc8 := NB101_107.out; have hnb9 := NB107_0.out; have hnc9 := NB0_107.out; have hcz10_0 := cz BK107.out 0; have hcz10_1 := cz BK107.out 1; have hcz10_2 := cz BK107.out 2; have hfz10_0 := blk_frozen BK107.out 0; have hfz10_1 := blk_frozen BK107.out 1; have hfz10_2 := blk_frozen BK107.out 2) | ((with_reducible refine gate_callee (f := 35) rfl ?_); refine gL (some 7) Tryd.func35 #[.pointer (some ⟨g, 0, none⟩), .int .i64 24] ?_; (with_reducible refine (spec_l1Cur_pick.calls g s0_0 t105 t106 24 t108 t109 t110 w0 _ ?side1 ?side2 A3.out).mono ?_); (case side1 => repeat (first | (with_reducible first | exact HI0.out | apply IsS51.alloc | apply IsS51.drewN | apply IsS51.drew | apply IsS51.set_1 | apply IsS51.set_2 | refine IsS51.far ?_ NB0_101.out _ | refine IsS51.far ?_ NB0_107.out _) | exact HI0.out)); (case side2 => repeat (first | (with_reducible first | exact HB.out | apply bA | apply bN | apply bD | refine below_set ?_ (IsS51.ge HI0.out) | refine below_set ?_ GE101.out | refine below_set ?_ GE107.out) | exact HB.out)); rintro e w11 ⟨rfl, hi, hb, hk⟩; refine ⟨_, rfl, ?_⟩; have n0_ := Aside0.mk (KeepBut.blk hk (g' := gb101) (o := .cells #[.string (⟨#[]⟩ : ByteArray), .string (⟨#[]⟩ : ByteArray), .int .i64 0] 32 (0, 0)) (by (with_reducible repeat (first | refine kN ?_ _ | refine kD ?_ | refine kA ?_ _)); refine blk_far ?_ NB101_107.out _; (with_reducible repeat (first | refine kN ?_ _ | refine kD ?_ | refine kA ?_ _)); refine blk_far ?_ NB101_107.out _; (with_reducible repeat (first | refine kN ?_ _ | refine kD ?_ | refine kA ?_ _)); refine blk_far ?_ NB101_107.out _; (with_reducible repeat (first | refine kN ?_ _ | refine kD ?_ | refine kA ?_ _)); exact BK101.out) NB101_0.out (by simp)); have n1_ := Aside0.mk (KeepBut.blk hk (g' := gb107) (o := .cells #[.string t102, .string t103, .int .i64 t104] 32 (0, 0)) (by (with_reducible repeat (first | refine kN ?_ _ | refine kD ?_ | refine kA ?_ _)); refine blk_put (cs := #[.string t102, .string t103, .int .i64 0]) ?_ 2 _ rfl; (with_reducible repeat (first | refine kN ?_ _ | refine kD ?_ | refine kA ?_ _)); refine blk_put (cs := #[.string t102, .string (⟨#[]⟩ : ByteArray), .int .i64 0]) ?_ 1 _ rfl; (with_reducible repeat (first | refine kN ?_ _ | refine kD ?_ | refine kA ?_ _)); refine blk_put (cs := #[.string (⟨#[]⟩ : ByteArray), .string (⟨#[]⟩ : ByteArray), .int .i64 0]) ?_ 0 _ rfl; (with_reducible repeat (first | refine kN ?_ _ | refine kD ?_ | refine kA ?_ _)); exact BK107.out) NB107_0.out (by simp)); have n2_ := Aside0.mk (KeepBut.trans (by repeat (first | (with_reducible first | exact HK.out | apply KeepBut.set_ | apply keep_drewN | apply keep_drew | apply keep_alloc | refine keep_far ?_ GW101.out _ | refine keep_far ?_ GW107.out _) | exact HK.out)) hk (.inl rfl)); have n3_ := Aside0.mk (hb); have n4_ := Aside0.mk (hi); clear BK101 BK107 HK HB HI0; have BK101 := n0_; have BK107 := n1_; have HK := n2_; have HB := n3_; have HI0 := n4_; clear n0_ n1_ n2_ n3_ n4_; (try clear hb); (try clear hb2); (try clear hk); (try clear hi); have hcz12_0 := cz BK107.out 0; have hcz12_1 := cz BK107.out 1; have hcz12_2 := cz BK107.out 2; have hfz12_0 := blk_frozen BK107.out 0; have hfz12_1 := blk_frozen BK107.out 1; have hfz12_2 := blk_frozen BK107.out 2; have hnb13 := NB101_0.out; have hnc13 := NB0_101.out; have hcz14_0 := cz BK101.out 0; have hcz14_1 := cz BK101.out 1; have hcz14_2 := cz BK101.out 2; have hfz14_0 := blk_frozen BK101.out 0; have hfz14_1 := blk_frozen BK101.out 1; have hfz14_2 := blk_frozen BK101.out 2))
  (refine bodyPost_ret (results_cell_row rfl _ _ gb101 32 #[.string t102, .string t103, .int .i64 (wrap64 (t104 + 1))] (0, 0) _ rfl (by (with_reducible repeat (first | refine kN ?_ _ | refine kD ?_ | refine kA ?_ _)); refine blk_put (cs := #[.string t102, .string t103, .int .i64 0]) ?_ 2 _ rfl; (with_reducible repeat (first | refine kN ?_ _ | refine kD ?_ | refine kA ?_ _)); refine blk_put (cs := #[.string t102, .string (⟨#[]⟩ : ByteArray), .int .i64 0]) ?_ 1 _ rfl; (with_reducible repeat (first | refine kN ?_ _ | refine kD ?_ | refine kA ?_ _)); refine blk_put (cs := #[.string (⟨#[]⟩ : ByteArray), .string (⟨#[]⟩ : ByteArray), .int .i64 0]) ?_ 0 _ rfl; (with_reducible repeat (first | refine kN ?_ _ | refine kD ?_ | refine kA ?_ _)); refine blk_far ?_ NB101_107.out _; (with_reducible repeat (first | refine kN ?_ _ | refine kD ?_ | refine kA ?_ _)); exact BK101.out) Tryd.underlying32 rfl (by kernel_rfl)) rfl ?_); (exact ⟨rfl, by repeat (first | (with_reducible first | exact HI0.out | apply IsS51.alloc | apply IsS51.drewN | apply IsS51.drew | apply IsS51.set_1 | apply IsS51.set_2 | refine IsS51.far ?_ NB0_101.out _ | refine IsS51.far ?_ NB0_107.out _) | exact HI0.out), by repeat (first | (with_reducible first | exact HB.out | apply bA | apply bN | apply bD | refine below_set ?_ (IsS51.ge HI0.out) | refine below_set ?_ GE101.out | refine below_set ?_ GE107.out) | exact HB.out), by repeat (first | (with_reducible first | exact HK.out | apply KeepBut.set_ | apply keep_drewN | apply keep_drew | apply keep_alloc | refine keep_far ?_ GW101.out _ | refine keep_far ?_ GW107.out _) | exact HK.out)⟩)
 ·rw [if_neg c4] at H
  (have c4b0 : (t108 == 0) = false := beq_eq_false_iff_ne.mpr c4); (have c4b1 : (t108 != 0) = true := bne_iff_ne.mpr c4); (by_cases c15 : t108 = 1)
  ·rw [if_pos c15] at H
   (have c15b0 : (t108 == 1) = true := beq_iff_eq.mpr c15); (have c15b1 : (t108 != 1) = false := bne_eq_false_iff_eq.mpr c15); clear c15; (replace H := obS H); (obtain ⟨⟨t111, t112, t113⟩, A16, H⟩ := H); (replace H : (some (t102, t111, t104, t112, t113)) = some (r1, r2, r3, r4, r5) := H); (simp only [Option.some.injEq, Prod.mk.injEq] at H); (obtain ⟨rfl, rfl, rfl, rfl, rfl⟩ := H); (go_enter Tryd.func41, Tryd.ntmps41)
   go_wp2_with (first | ((with_reducible refine gate_dst (N := 2) rfl ?_); refine box_event ?hg (N := 2) ?hd (cs := #[.string (⟨#[]⟩ : ByteArray), .string (⟨#[]⟩ : ByteArray), .int .i64 0]) (t := 32) ?hr ?_; (case hd => rfl); (case hg => rfl); (case hr => first | (go_simp; done) | (go_simp; rfl)); intro gb101 hg w17 hbox hb; have n0_ := Aside0.mk (IsS51.below (by repeat (first | (with_reducible first | exact HI0.out | apply IsS51.alloc | apply IsS51.drewN | apply IsS51.drew | apply IsS51.set_1 | apply IsS51.set_2) | exact HI0.out)) hb); have n1_ := Aside0.mk (KeepBut.trans (by repeat (first | (with_reducible first | exact HK.out | apply KeepBut.set_ | apply keep_drewN | apply keep_drew | apply keep_alloc) | exact HK.out)) (KeepBut.of_below hb g none) (.inl rfl)); have n2_ := Aside0.mk (below_step (by repeat (first | (with_reducible first | exact HB.out | apply bA | apply bN | apply bD | refine below_set ?_ (IsS51.ge HI0.out)) | exact HB.out)) hb); have n3_ := Aside0.mk (hbox); have n4_ := Aside0.mk ((by rw [hg]; exact (keep_size (w := w) (g := g) (row := none) (by repeat (first | (with_reducible first | exact HK.out | apply KeepBut.set_ | apply keep_drewN | apply keep_drew | apply keep_alloc) | exact HK.out))) : w.heap.size ≤ gb101)); have n5_ := Aside0.mk ((Nat.le_trans HW0.out (by rw [hg]; exact (keep_size (w := w) (g := g) (row := none) (by repeat (first | (with_reducible first | exact HK.out | apply KeepBut.set_ | apply keep_drewN | apply keep_drew | apply keep_alloc) | exact HK.out))) : w.heap.size ≤ gb101) : w0.heap.size ≤ gb101)); have n6_ := Aside0.mk ((by rw [hg]; exact Nat.ne_of_lt (IsS51.lt (show IsS51 w0 _ g s0_0 s0_1 s0_2 from by repeat (first | (with_reducible first | exact HI0.out | apply IsS51.alloc | apply IsS51.drewN | apply IsS51.drew | apply IsS51.set_1 | apply IsS51.set_2) | exact HI0.out))) : g ≠ gb101)); have n7_ := Aside0.mk (Ne.symm n6_.out); clear HI0 HK HB; have HI0 := n0_; have HK := n1_; have HB := n2_; have BK101 := n3_; have GW101 := n4_; have GE101 := n5_; have NB0_101 := n6_; have NB101_0 := n7_; clear n0_ n1_ n2_ n3_ n4_ n5_ n6_ n7_ hb hbox hg) | ((with_reducible refine gate_callee (f := 34) rfl ?_); refine gL (some 5) Tryd.func34 #[.pointer (some ⟨g, 0, none⟩)] ?_; (with_reducible refine (spec_l1Cur_log.calls k g s0_0 s0_1 s0_2 t102 t103 t104 t105 t106 w0 _ ?side1 ?side2 A2.out).mono ?_); (case side1 => repeat (first | (with_reducible first | exact HI0.out | apply IsS51.alloc | apply IsS51.drewN | apply IsS51.drew | apply IsS51.set_1 | apply IsS51.set_2 | refine IsS51.far ?_ NB0_101.out _) | exact HI0.out)); (case side2 => repeat (first | (with_reducible first | exact HB.out | apply bA | apply bN | apply bD | refine below_set ?_ (IsS51.ge HI0.out) | refine below_set ?_ GE101.out) | exact HB.out)); rintro e w18 ⟨rfl, hi, hb, hk⟩; refine ⟨_, rfl, ?_⟩; have n0_ := Aside0.mk (KeepBut.blk hk (g' := gb101) (o := .cells #[.string (⟨#[]⟩ : ByteArray), .string (⟨#[]⟩ : ByteArray), .int .i64 0] 32 (0, 0)) (kI BK101) NB101_0.out (by simp)); have n1_ := Aside0.mk (KeepBut.trans (by repeat (first | (with_reducible first | exact HK.out | apply KeepBut.set_ | apply keep_drewN | apply keep_drew | apply keep_alloc | refine keep_far ?_ GW101.out _) | exact HK.out)) hk (.inl rfl)); have n2_ := Aside0.mk (hb); have n3_ := Aside0.mk (hi); clear BK101 HK HB HI0; have BK101 := n0_; have HK := n1_; have HB := n2_; have HI0 := n3_; clear n0_ n1_ n2_ n3_; (try clear hb); (try clear hb2); (try clear hk); (try clear hi)) | ((with_reducible refine gate_dst (N := 3) rfl ?_); refine box_event ?hg (N := 3) ?hd (cs := #[.string (⟨#[]⟩ : ByteArray), .string (⟨#[]⟩ : ByteArray), .int .i64 0]) (t := 32) ?hr ?_; (case hd => rfl); (case hg => rfl); (case hr => first | (go_simp; done) | (go_simp; rfl)); intro gb107 hg w19 hbox hb; have n0_ := Aside0.mk (IsS51.below (by repeat (first | (with_reducible first | exact HI0.out | apply IsS51.alloc | apply IsS51.drewN | apply IsS51.drew | apply IsS51.set_1 | apply IsS51.set_2 | refine IsS51.far ?_ NB0_101.out _) | exact HI0.out)) hb); have n1_ := Aside0.mk (kbI hb BK101); have n2_ := Aside0.mk (KeepBut.trans (by repeat (first | (with_reducible first | exact HK.out | apply KeepBut.set_ | apply keep_drewN | apply keep_drew | apply keep_alloc | refine keep_far ?_ GW101.out _) | exact HK.out)) (KeepBut.of_below hb g none) (.inl rfl)); have n3_ := Aside0.mk (below_step (by repeat (first | (with_reducible first | exact HB.out | apply bA | apply bN | apply bD | refine below_set ?_ (IsS51.ge HI0.out) | refine below_set ?_ GE101.out) | exact HB.out)) hb); have n4_ := Aside0.mk (hbox); have n5_ := Aside0.mk ((by rw [hg]; exact (keep_size (w := w) (g := g) (row := none) (by repeat (first | (with_reducible first | exact HK.out | apply KeepBut.set_ | apply keep_drewN | apply keep_drew | apply keep_alloc | refine keep_far ?_ GW101.out _) | exact HK.out))) : w.heap.size ≤ gb107)); have n6_ := Aside0.mk ((Nat.le_trans HW0.out (by rw [hg]; exact (keep_size (w := w) (g := g) (row := none) (by repeat (first | (with_reducible first | exact HK.out | apply KeepBut.set_ | apply keep_drewN | apply keep_drew | apply keep_alloc | refine keep_far ?_ GW101.out _) | exact HK.out))) : w.heap.size ≤ gb107) : w0.heap.size ≤ gb107)); have n7_ := Aside0.mk ((by rw [hg]; exact Nat.ne_of_lt (blk_lt (kI BK101)) : gb101 ≠ gb107)); have n8_ := Aside0.mk (Ne.symm n7_.out); have n9_ := Aside0.mk ((by rw [hg]; exact Nat.ne_of_lt (IsS51.lt (show IsS51 w0 _ g s0_0 t105 t106 from by repeat (first | (with_reducible first | exact HI0.out | apply IsS51.alloc | apply IsS51.drewN | apply IsS51.drew | apply IsS51.set_1 | apply IsS51.set_2 | refine IsS51.far ?_ NB0_101.out _) | exact HI0.out))) : g ≠ gb107)); have n10_ := Aside0.mk (Ne.symm n9_.out); clear HI0 BK101 HK HB; have HI0 := n0_; have BK101 := n1_; have HK := n2_; have HB := n3_; have BK107 := n4_; have GW107 := n5_; have GE107 := n6_; have NB101_107 := n7_; have NB107_101 := n8_; have NB0_107 := n9_; have NB107_0 := n10_; clear n0_ n1_ n2_ n3_ n4_ n5_ n6_ n7_ n8_ n9_ n10_ hb hbox hg; have hnb20 := NB107_101.out; have hnc20 := NB101_107.out; have hnb21 := NB107_0.out; have hnc21 := NB0_107.out; have hcz22_0 := cz BK107.out 0; have hcz22_1 := cz BK107.out 1; have hcz22_2 := cz BK107.out 2; have hfz22_0 := blk_frozen BK107.out 0; have hfz22_1 := blk_frozen BK107.out 1; have hfz22_2 := blk_frozen BK107.out 2) | ((with_reducible refine gate_callee (f := 35) rfl ?_); refine gL (some 7) Tryd.func35 #[.pointer (some ⟨g, 0, none⟩), .int .i64 24] ?_; (with_reducible refine (spec_l1Cur_pick.calls g s0_0 t105 t106 24 t108 t109 t110 w0 _ ?side1 ?side2 A3.out).mono ?_); (case side1 => repeat (first | (with_reducible first | exact HI0.out | apply IsS51.alloc | apply IsS51.drewN | apply IsS51.drew | apply IsS51.set_1 | apply IsS51.set_2 | refine IsS51.far ?_ NB0_101.out _ | refine IsS51.far ?_ NB0_107.out _) | exact HI0.out)); (case side2 => repeat (first | (with_reducible first | exact HB.out | apply bA | apply bN | apply bD | refine below_set ?_ (IsS51.ge HI0.out) | refine below_set ?_ GE101.out | refine below_set ?_ GE107.out) | exact HB.out)); rintro e w23 ⟨rfl, hi, hb, hk⟩; refine ⟨_, rfl, ?_⟩; have n0_ := Aside0.mk (KeepBut.blk hk (g' := gb101) (o := .cells #[.string (⟨#[]⟩ : ByteArray), .string (⟨#[]⟩ : ByteArray), .int .i64 0] 32 (0, 0)) (by (with_reducible repeat (first | refine kN ?_ _ | refine kD ?_ | refine kA ?_ _)); refine blk_far ?_ NB101_107.out _; (with_reducible repeat (first | refine kN ?_ _ | refine kD ?_ | refine kA ?_ _)); refine blk_far ?_ NB101_107.out _; (with_reducible repeat (first | refine kN ?_ _ | refine kD ?_ | refine kA ?_ _)); refine blk_far ?_ NB101_107.out _; (with_reducible repeat (first | refine kN ?_ _ | refine kD ?_ | refine kA ?_ _)); exact BK101.out) NB101_0.out (by simp)); have n1_ := Aside0.mk (KeepBut.blk hk (g' := gb107) (o := .cells #[.string t102, .string t103, .int .i64 t104] 32 (0, 0)) (by (with_reducible repeat (first | refine kN ?_ _ | refine kD ?_ | refine kA ?_ _)); refine blk_put (cs := #[.string t102, .string t103, .int .i64 0]) ?_ 2 _ rfl; (with_reducible repeat (first | refine kN ?_ _ | refine kD ?_ | refine kA ?_ _)); refine blk_put (cs := #[.string t102, .string (⟨#[]⟩ : ByteArray), .int .i64 0]) ?_ 1 _ rfl; (with_reducible repeat (first | refine kN ?_ _ | refine kD ?_ | refine kA ?_ _)); refine blk_put (cs := #[.string (⟨#[]⟩ : ByteArray), .string (⟨#[]⟩ : ByteArray), .int .i64 0]) ?_ 0 _ rfl; (with_reducible repeat (first | refine kN ?_ _ | refine kD ?_ | refine kA ?_ _)); exact BK107.out) NB107_0.out (by simp)); have n2_ := Aside0.mk (KeepBut.trans (by repeat (first | (with_reducible first | exact HK.out | apply KeepBut.set_ | apply keep_drewN | apply keep_drew | apply keep_alloc | refine keep_far ?_ GW101.out _ | refine keep_far ?_ GW107.out _) | exact HK.out)) hk (.inl rfl)); have n3_ := Aside0.mk (hb); have n4_ := Aside0.mk (hi); clear BK101 BK107 HK HB HI0; have BK101 := n0_; have BK107 := n1_; have HK := n2_; have HB := n3_; have HI0 := n4_; clear n0_ n1_ n2_ n3_ n4_; (try clear hb); (try clear hb2); (try clear hk); (try clear hi); have hcz24_0 := cz BK107.out 0; have hcz24_1 := cz BK107.out 1; have hcz24_2 := cz BK107.out 2; have hfz24_0 := blk_frozen BK107.out 0; have hfz24_1 := blk_frozen BK107.out 1; have hfz24_2 := blk_frozen BK107.out 2) | ((with_reducible refine gate_callee (f := 36) rfl ?_); refine gL (some 19) Tryd.func36 #[.pointer (some ⟨g, 0, none⟩), .string t103, .string (⟨#[35, 64, 10, 48, 49]⟩ : ByteArray)] ?_; (with_reducible refine (spec_l1Cur_spoilt.calls g s0_0 t109 t110 t103 (⟨#[35, 64, 10, 48, 49]⟩ : ByteArray) t111 t112 t113 w0 _ ?side1 ?side2 A16.out).mono ?_); (case side1 => repeat (first | (with_reducible first | exact HI0.out | apply IsS51.alloc | apply IsS51.drewN | apply IsS51.drew | apply IsS51.set_1 | apply IsS51.set_2 | refine IsS51.far ?_ NB0_101.out _ | refine IsS51.far ?_ NB0_107.out _) | exact HI0.out)); (case side2 => repeat (first | (with_reducible first | exact HB.out | apply bA | apply bN | apply bD | refine below_set ?_ (IsS51.ge HI0.out) | refine below_set ?_ GE101.out | refine below_set ?_ GE107.out) | exact HB.out)); rintro e w25 ⟨rfl, hi, hb, hk⟩; refine ⟨_, rfl, ?_⟩; have n0_ := Aside0.mk (KeepBut.blk hk (g' := gb101) (o := .cells #[.string (⟨#[]⟩ : ByteArray), .string (⟨#[]⟩ : ByteArray), .int .i64 0] 32 (0, 0)) (kI BK101) NB101_0.out (by simp)); have n1_ := Aside0.mk (KeepBut.blk hk (g' := gb107) (o := .cells #[.string t102, .string t103, .int .i64 t104] 32 (0, 0)) (kI BK107) NB107_0.out (by simp)); have n2_ := Aside0.mk (KeepBut.trans (by repeat (first | (with_reducible first | exact HK.out | apply KeepBut.set_ | apply keep_drewN | apply keep_drew | apply keep_alloc | refine keep_far ?_ GW101.out _ | refine keep_far ?_ GW107.out _) | exact HK.out)) hk (.inl rfl)); have n3_ := Aside0.mk (hb); have n4_ := Aside0.mk (hi); clear BK101 BK107 HK HB HI0; have BK101 := n0_; have BK107 := n1_; have HK := n2_; have HB := n3_; have HI0 := n4_; clear n0_ n1_ n2_ n3_ n4_; (try clear hb); (try clear hb2); (try clear hk); (try clear hi); have hcz26_0 := cz BK107.out 0; have hcz26_1 := cz BK107.out 1; have hcz26_2 := cz BK107.out 2; have hfz26_0 := blk_frozen BK107.out 0; have hfz26_1 := blk_frozen BK107.out 1; have hfz26_2 := blk_frozen BK107.out 2; have hnb27 := NB101_0.out; have hnc27 := NB0_101.out; have hcz28_0 := cz BK101.out 0; have hcz28_1 := cz BK101.out 1; have hcz28_2 := cz BK101.out 2; have hfz28_0 := blk_frozen BK101.out 0; have hfz28_1 := blk_frozen BK101.out 1; have hfz28_2 := blk_frozen BK101.out 2))
   (refine bodyPost_ret (results_cell_row rfl _ _ gb101 32 #[.string t102, .string t111, .int .i64 t104] (0, 0) _ rfl (by (with_reducible repeat (first | refine kN ?_ _ | refine kD ?_ | refine kA ?_ _)); refine blk_put (cs := #[.string t102, .string t111, .int .i64 0]) ?_ 2 _ rfl; (with_reducible repeat (first | refine kN ?_ _ | refine kD ?_ | refine kA ?_ _)); refine blk_put (cs := #[.string t102, .string (⟨#[]⟩ : ByteArray), .int .i64 0]) ?_ 1 _ rfl; (with_reducible repeat (first | refine kN ?_ _ | refine kD ?_ | refine kA ?_ _)); refine blk_put (cs := #[.string (⟨#[]⟩ : ByteArray), .string (⟨#[]⟩ : ByteArray), .int .i64 0]) ?_ 0 _ rfl; (with_reducible repeat (first | refine kN ?_ _ | refine kD ?_ | refine kA ?_ _)); refine blk_far ?_ NB101_107.out _; (with_reducible repeat (first | refine kN ?_ _ | refine kD ?_ | refine kA ?_ _)); exact BK101.out) Tryd.underlying32 rfl (by kernel_rfl)) rfl ?_); (exact ⟨rfl, by repeat (first | (with_reducible first | exact HI0.out | apply IsS51.alloc | apply IsS51.drewN | apply IsS51.drew | apply IsS51.set_1 | apply IsS51.set_2 | refine IsS51.far ?_ NB0_101.out _ | refine IsS51.far ?_ NB0_107.out _) | exact HI0.out), by repeat (first | (with_reducible first | exact HB.out | apply bA | apply bN | apply bD | refine below_set ?_ (IsS51.ge HI0.out) | refine below_set ?_ GE101.out | refine below_set ?_ GE107.out) | exact HB.out), by repeat (first | (with_reducible first | exact HK.out | apply KeepBut.set_ | apply keep_drewN | apply keep_drew | apply keep_alloc | refine keep_far ?_ GW101.out _ | refine keep_far ?_ GW107.out _) | exact HK.out)⟩)
  ·rw [if_neg c15] at H
   (have c15b0 : (t108 == 1) = false := beq_eq_false_iff_ne.mpr c15); (have c15b1 : (t108 != 1) = true := bne_iff_ne.mpr c15); (by_cases c29 : t108 = 2)
   ·rw [if_pos c29] at H
    (have c29b0 : (t108 == 2) = true := beq_iff_eq.mpr c29); (have c29b1 : (t108 != 2) = false := bne_eq_false_iff_eq.mpr c29); clear c29; (by_cases c30 : t102.size + t103.size ≤ 9223372036854775807)
    ·rw [if_pos c30] at H
     (have c30b0 := eq_true c30); (have c30b1 := decide_eq_true c30); (try have c30b2 : (9223372036854775807 < t102.size + t103.size) = False := eq_false (Nat.not_lt.2 c30)); (simp only [Option.some.injEq, Prod.mk.injEq] at H); (obtain ⟨rfl, rfl, rfl, rfl, rfl⟩ := H); (go_enter Tryd.func41, Tryd.ntmps41)
     go_wp2_with (first | ((with_reducible refine gate_dst (N := 2) rfl ?_); refine box_event ?hg (N := 2) ?hd (cs := #[.string (⟨#[]⟩ : ByteArray), .string (⟨#[]⟩ : ByteArray), .int .i64 0]) (t := 32) ?hr ?_; (case hd => rfl); (case hg => rfl); (case hr => first | (go_simp; done) | (go_simp; rfl)); intro gb101 hg w31 hbox hb; have n0_ := Aside0.mk (IsS51.below (by repeat (first | (with_reducible first | exact HI0.out | apply IsS51.alloc | apply IsS51.drewN | apply IsS51.drew | apply IsS51.set_1 | apply IsS51.set_2) | exact HI0.out)) hb); have n1_ := Aside0.mk (KeepBut.trans (by repeat (first | (with_reducible first | exact HK.out | apply KeepBut.set_ | apply keep_drewN | apply keep_drew | apply keep_alloc) | exact HK.out)) (KeepBut.of_below hb g none) (.inl rfl)); have n2_ := Aside0.mk (below_step (by repeat (first | (with_reducible first | exact HB.out | apply bA | apply bN | apply bD | refine below_set ?_ (IsS51.ge HI0.out)) | exact HB.out)) hb); have n3_ := Aside0.mk (hbox); have n4_ := Aside0.mk ((by rw [hg]; exact (keep_size (w := w) (g := g) (row := none) (by repeat (first | (with_reducible first | exact HK.out | apply KeepBut.set_ | apply keep_drewN | apply keep_drew | apply keep_alloc) | exact HK.out))) : w.heap.size ≤ gb101)); have n5_ := Aside0.mk ((Nat.le_trans HW0.out (by rw [hg]; exact (keep_size (w := w) (g := g) (row := none) (by repeat (first | (with_reducible first | exact HK.out | apply KeepBut.set_ | apply keep_drewN | apply keep_drew | apply keep_alloc) | exact HK.out))) : w.heap.size ≤ gb101) : w0.heap.size ≤ gb101)); have n6_ := Aside0.mk ((by rw [hg]; exact Nat.ne_of_lt (IsS51.lt (show IsS51 w0 _ g s0_0 s0_1 s0_2 from by repeat (first | (with_reducible first | exact HI0.out | apply IsS51.alloc | apply IsS51.drewN | apply IsS51.drew | apply IsS51.set_1 | apply IsS51.set_2) | exact HI0.out))) : g ≠ gb101)); have n7_ := Aside0.mk (Ne.symm n6_.out); clear HI0 HK HB; have HI0 := n0_; have HK := n1_; have HB := n2_; have BK101 := n3_; have GW101 := n4_; have GE101 := n5_; have NB0_101 := n6_; have NB101_0 := n7_; clear n0_ n1_ n2_ n3_ n4_ n5_ n6_ n7_ hb hbox hg) | ((with_reducible refine gate_callee (f := 34) rfl ?_); refine gL (some 5) Tryd.func34 #[.pointer (some ⟨g, 0, none⟩)] ?_; (with_reducible refine (spec_l1Cur_log.calls k g s0_0 s0_1 s0_2 t102 t103 t104 t105 t106 w0 _ ?side1 ?side2 A2.out).mono ?_); (case side1 => repeat (first | (with_reducible first | exact HI0.out | apply IsS51.alloc | apply IsS51.drewN | apply IsS51.drew | apply IsS51.set_1 | apply IsS51.set_2 | refine IsS51.far ?_ NB0_101.out _) | exact HI0.out)); (case side2 => repeat (first | (with_reducible first | exact HB.out | apply bA | apply bN | apply bD | refine below_set ?_ (IsS51.ge HI0.out) | refine below_set ?_ GE101.out) | exact HB.out)); rintro e w32 ⟨rfl, hi, hb, hk⟩; refine ⟨_, rfl, ?_⟩; have n0_ := Aside0.mk (KeepBut.blk hk (g' := gb101) (o := .cells #[.string (⟨#[]⟩ : ByteArray), .string (⟨#[]⟩ : ByteArray), .int .i64 0] 32 (0, 0)) (kI BK101) NB101_0.out (by simp)); have n1_ := Aside0.mk (KeepBut.trans (by repeat (first | (with_reducible first | exact HK.out | apply KeepBut.set_ | apply keep_drewN | apply keep_drew | apply keep_alloc | refine keep_far ?_ GW101.out _) | exact HK.out)) hk (.inl rfl)); have n2_ := Aside0.mk (hb); have n3_ := Aside0.mk (hi); clear BK101 HK HB HI0; have BK101 := n0_; have HK := n1_; have HB := n2_; have HI0 := n3_; clear n0_ n1_ n2_ n3_; (try clear hb); (try clear hb2); (try clear hk); (try clear hi)) | ((with_reducible refine gate_dst (N := 3) rfl ?_); refine box_event ?hg (N := 3) ?hd (cs := #[.string (⟨#[]⟩ : ByteArray), .string (⟨#[]⟩ : ByteArray), .int .i64 0]) (t := 32) ?hr ?_; (case hd => rfl); (case hg => rfl); (case hr => first | (go_simp; done) | (go_simp; rfl)); intro gb107 hg w33 hbox hb; have n0_ := Aside0.mk (IsS51.below (by repeat (first | (with_reducible first | exact HI0.out | apply IsS51.alloc | apply IsS51.drewN | apply IsS51.drew | apply IsS51.set_1 | apply IsS51.set_2 | refine IsS51.far ?_ NB0_101.out _) | exact HI0.out)) hb); have n1_ := Aside0.mk (kbI hb BK101); have n2_ := Aside0.mk (KeepBut.trans (by repeat (first | (with_reducible first | exact HK.out | apply KeepBut.set_ | apply keep_drewN | apply keep_drew | apply keep_alloc | refine keep_far ?_ GW101.out _) | exact HK.out)) (KeepBut.of_below hb g none) (.inl rfl)); have n3_ := Aside0.mk (below_step (by repeat (first | (with_reducible first | exact HB.out | apply bA | apply bN | apply bD | refine below_set ?_ (IsS51.ge HI0.out) | refine below_set ?_ GE101.out) | exact HB.out)) hb); have n4_ := Aside0.mk (hbox); have n5_ := Aside0.mk ((by rw [hg]; exact (keep_size (w := w) (g := g) (row := none) (by repeat (first | (with_reducible first | exact HK.out | apply KeepBut.set_ | apply keep_drewN | apply keep_drew | apply keep_alloc | refine keep_far ?_ GW101.out _) | exact HK.out))) : w.heap.size ≤ gb107)); have n6_ := Aside0.mk ((Nat.le_trans HW0.out (by rw [hg]; exact (keep_size (w := w) (g := g) (row := none) (by repeat (first | (with_reducible first | exact HK.out | apply KeepBut.set_ | apply keep_drewN | apply keep_drew | apply keep_alloc | refine keep_far ?_ GW101.out _) | exact HK.out))) : w.heap.size ≤ gb107) : w0.heap.size ≤ gb107)); have n7_ := Aside0.mk ((by rw [hg]; exact Nat.ne_of_lt (blk_lt (kI BK101)) : gb101 ≠ gb107)); have n8_ := Aside0.mk (Ne.symm n7_.out); have n9_ := Aside0.mk ((by rw [hg]; exact Nat.ne_of_lt (IsS51.lt (show IsS51 w0 _ g s0_0 t105 t106 from by repeat (first | (with_reducible first | exact HI0.out | apply IsS51.alloc | apply IsS51.drewN | apply IsS51.drew | apply IsS51.set_1 | apply IsS51.set_2 | refine IsS51.far ?_ NB0_101.out _) | exact HI0.out))) : g ≠ gb107)); have n10_ := Aside0.mk (Ne.symm n9_.out); clear HI0 BK101 HK HB; have HI0 := n0_; have BK101 := n1_; have HK := n2_; have HB := n3_; have BK107 := n4_; have GW107 := n5_; have GE107 := n6_; have NB101_107 := n7_; have NB107_101 := n8_; have NB0_107 := n9_; have NB107_0 := n10_; clear n0_ n1_ n2_ n3_ n4_ n5_ n6_ n7_ n8_ n9_ n10_ hb hbox hg; have hnb34 := NB107_101.out; have hnc34 := NB101_107.out; have hnb35 := NB107_0.out; have hnc35 := NB0_107.out; have hcz36_0 := cz BK107.out 0; have hcz36_1 := cz BK107.out 1; have hcz36_2 := cz BK107.out 2; have hfz36_0 := blk_frozen BK107.out 0; have hfz36_1 := blk_frozen BK107.out 1; have hfz36_2 := blk_frozen BK107.out 2) | ((with_reducible refine gate_callee (f := 35) rfl ?_); refine gL (some 7) Tryd.func35 #[.pointer (some ⟨g, 0, none⟩), .int .i64 24] ?_; (with_reducible refine (spec_l1Cur_pick.calls g s0_0 t105 t106 24 t108 t109 t110 w0 _ ?side1 ?side2 A3.out).mono ?_); (case side1 => repeat (first | (with_reducible first | exact HI0.out | apply IsS51.alloc | apply IsS51.drewN | apply IsS51.drew | apply IsS51.set_1 | apply IsS51.set_2 | refine IsS51.far ?_ NB0_101.out _ | refine IsS51.far ?_ NB0_107.out _) | exact HI0.out)); (case side2 => repeat (first | (with_reducible first | exact HB.out | apply bA | apply bN | apply bD | refine below_set ?_ (IsS51.ge HI0.out) | refine below_set ?_ GE101.out | refine below_set ?_ GE107.out) | exact HB.out)); rintro e w37 ⟨rfl, hi, hb, hk⟩; refine ⟨_, rfl, ?_⟩; have n0_ := Aside0.mk (KeepBut.blk hk (g' := gb101) (o := .cells #[.string (⟨#[]⟩ : ByteArray), .string (⟨#[]⟩ : ByteArray), .int .i64 0] 32 (0, 0)) (by (with_reducible repeat (first | refine kN ?_ _ | refine kD ?_ | refine kA ?_ _)); refine blk_far ?_ NB101_107.out _; (with_reducible repeat (first | refine kN ?_ _ | refine kD ?_ | refine kA ?_ _)); refine blk_far ?_ NB101_107.out _; (with_reducible repeat (first | refine kN ?_ _ | refine kD ?_ | refine kA ?_ _)); refine blk_far ?_ NB101_107.out _; (with_reducible repeat (first | refine kN ?_ _ | refine kD ?_ | refine kA ?_ _)); exact BK101.out) NB101_0.out (by simp)); have n1_ := Aside0.mk (KeepBut.blk hk (g' := gb107) (o := .cells #[.string t102, .string t103, .int .i64 t104] 32 (0, 0)) (by (with_reducible repeat (first | refine kN ?_ _ | refine kD ?_ | refine kA ?_ _)); refine blk_put (cs := #[.string t102, .string t103, .int .i64 0]) ?_ 2 _ rfl; (with_reducible repeat (first | refine kN ?_ _ | refine kD ?_ | refine kA ?_ _)); refine blk_put (cs := #[.string t102, .string (⟨#[]⟩ : ByteArray), .int .i64 0]) ?_ 1 _ rfl; (with_reducible repeat (first | refine kN ?_ _ | refine kD ?_ | refine kA ?_ _)); refine blk_put (cs := #[.string (⟨#[]⟩ : ByteArray), .string (⟨#[]⟩ : ByteArray), .int .i64 0]) ?_ 0 _ rfl; (with_reducible repeat (first | refine kN ?_ _ | refine kD ?_ | refine kA ?_ _)); exact BK107.out) NB107_0.out (by simp)); have n2_ := Aside0.mk (KeepBut.trans (by repeat (first | (with_reducible first | exact HK.out | apply KeepBut.set_ | apply keep_drewN | apply keep_drew | apply keep_alloc | refine keep_far ?_ GW101.out _ | refine keep_far ?_ GW107.out _) | exact HK.out)) hk (.inl rfl)); have n3_ := Aside0.mk (hb); have n4_ := Aside0.mk (hi); clear BK101 BK107 HK HB HI0; have BK101 := n0_; have BK107 := n1_; have HK := n2_; have HB := n3_; have HI0 := n4_; clear n0_ n1_ n2_ n3_ n4_; (try clear hb); (try clear hb2); (try clear hk); (try clear hi); have hcz38_0 := cz BK107.out 0; have hcz38_1 := cz BK107.out 1; have hcz38_2 := cz BK107.out 2; have hfz38_0 := blk_frozen BK107.out 0; have hfz38_1 := blk_frozen BK107.out 1; have hfz38_2 := blk_frozen BK107.out 2; have hnb39 := NB101_0.out; have hnc39 := NB0_101.out; have hcz40_0 := cz BK101.out 0; have hcz40_1 := cz BK101.out 1; have hcz40_2 := cz BK101.out 2; have hfz40_0 := blk_frozen BK101.out 0; have hfz40_1 := blk_frozen BK101.out 1; have hfz40_2 := blk_frozen BK101.out 2))
     (refine bodyPost_ret (results_cell_row rfl _ _ gb101 32 #[.string (t102 ++ t103), .string t103, .int .i64 t104] (0, 0) _ rfl (by (with_reducible repeat (first | refine kN ?_ _ | refine kD ?_ | refine kA ?_ _)); refine blk_put (cs := #[.string (t102 ++ t103), .string t103, .int .i64 0]) ?_ 2 _ rfl; (with_reducible repeat (first | refine kN ?_ _ | refine kD ?_ | refine kA ?_ _)); refine blk_put (cs := #[.string (t102 ++ t103), .string (⟨#[]⟩ : ByteArray), .int .i64 0]) ?_ 1 _ rfl; (with_reducible repeat (first | refine kN ?_ _ | refine kD ?_ | refine kA ?_ _)); refine blk_put (cs := #[.string (⟨#[]⟩ : ByteArray), .string (⟨#[]⟩ : ByteArray), .int .i64 0]) ?_ 0 _ rfl; (with_reducible repeat (first | refine kN ?_ _ | refine kD ?_ | refine kA ?_ _)); refine blk_far ?_ NB101_107.out _; (with_reducible repeat (first | refine kN ?_ _ | refine kD ?_ | refine kA ?_ _)); exact BK101.out) Tryd.underlying32 rfl (by kernel_rfl)) rfl ?_); (exact ⟨rfl, by repeat (first | (with_reducible first | exact HI0.out | apply IsS51.alloc | apply IsS51.drewN | apply IsS51.drew | apply IsS51.set_1 | apply IsS51.set_2 | refine IsS51.far ?_ NB0_101.out _ | refine IsS51.far ?_ NB0_107.out _) | exact HI0.out), by repeat (first | (with_reducible first | exact HB.out | apply bA | apply bN | apply bD | refine below_set ?_ (IsS51.ge HI0.out) | refine below_set ?_ GE101.out | refine below_set ?_ GE107.out) | exact HB.out), by repeat (first | (with_reducible first | exact HK.out | apply KeepBut.set_ | apply keep_drewN | apply keep_drew | apply keep_alloc | refine keep_far ?_ GW101.out _ | refine keep_far ?_ GW107.out _) | exact HK.out)⟩)
    ·rw [if_neg c30] at H
     exact absurd H (by simp)
   ·rw [if_neg c29] at H
    (have c29b0 : (t108 == 2) = false := beq_eq_false_iff_ne.mpr c29); (have c29b1 : (t108 != 2) = true := bne_iff_ne.mpr c29); (simp only [Option.some.injEq, Prod.mk.injEq] at H); (obtain ⟨rfl, rfl, rfl, rfl, rfl⟩ := H); (go_enter Tryd.func41, Tryd.ntmps41)
    go_wp2_with (first | ((with_reducible refine gate_dst (N := 2) rfl ?_); refine box_event ?hg (N := 2) ?hd (cs := #[.string (⟨#[]⟩ : ByteArray), .string (⟨#[]⟩ : ByteArray), .int .i64 0]) (t := 32) ?hr ?_; (case hd => rfl); (case hg => rfl); (case hr => first | (go_simp; done) | (go_simp; rfl)); intro gb101 hg w41 hbox hb; have n0_ := Aside0.mk (IsS51.below (by repeat (first | (with_reducible first | exact HI0.out | apply IsS51.alloc | apply IsS51.drewN | apply IsS51.drew | apply IsS51.set_1 | apply IsS51.set_2) | exact HI0.out)) hb); have n1_ := Aside0.mk (KeepBut.trans (by repeat (first | (with_reducible first | exact HK.out | apply KeepBut.set_ | apply keep_drewN | apply keep_drew | apply keep_alloc) | exact HK.out)) (KeepBut.of_below hb g none) (.inl rfl)); have n2_ := Aside0.mk (below_step (by repeat (first | (with_reducible first | exact HB.out | apply bA | apply bN | apply bD | refine below_set ?_ (IsS51.ge HI0.out)) | exact HB.out)) hb); have n3_ := Aside0.mk (hbox); have n4_ := Aside0.mk ((by rw [hg]; exact (keep_size (w := w) (g := g) (row := none) (by repeat (first | (with_reducible first | exact HK.out | apply KeepBut.set_ | apply keep_drewN | apply keep_drew | apply keep_alloc) | exact HK.out))) : w.heap.size ≤ gb101)); have n5_ := Aside0.mk ((Nat.le_trans HW0.out (by rw [hg]; exact (keep_size (w := w) (g := g) (row := none) (by repeat (first | (with_reducible first | exact HK.out | apply KeepBut.set_ | apply keep_drewN | apply keep_drew | apply keep_alloc) | exact HK.out))) : w.heap.size ≤ gb101) : w0.heap.size ≤ gb101)); have n6_ := Aside0.mk ((by rw [hg]; exact Nat.ne_of_lt (IsS51.lt (show IsS51 w0 _ g s0_0 s0_1 s0_2 from by repeat (first | (with_reducible first | exact HI0.out | apply IsS51.alloc | apply IsS51.drewN | apply IsS51.drew | apply IsS51.set_1 | apply IsS51.set_2) | exact HI0.out))) : g ≠ gb101)); have n7_ := Aside0.mk (Ne.symm n6_.out); clear HI0 HK HB; have HI0 := n0_; have HK := n1_; have HB := n2_; have BK101 := n3_; have GW101 := n4_; have GE101 := n5_; have NB0_101 := n6_; have NB101_0 := n7_; clear n0_ n1_ n2_ n3_ n4_ n5_ n6_ n7_ hb hbox hg) | ((with_reducible refine gate_callee (f := 34) rfl ?_); refine gL (some 5) Tryd.func34 #[.pointer (some ⟨g, 0, none⟩)] ?_; (with_reducible refine (spec_l1Cur_log.calls k g s0_0 s0_1 s0_2 t102 t103 t104 t105 t106 w0 _ ?side1 ?side2 A2.out).mono ?_); (case side1 => repeat (first | (with_reducible first | exact HI0.out | apply IsS51.alloc | apply IsS51.drewN | apply IsS51.drew | apply IsS51.set_1 | apply IsS51.set_2 | refine IsS51.far ?_ NB0_101.out _) | exact HI0.out)); (case side2 => repeat (first | (with_reducible first | exact HB.out | apply bA | apply bN | apply bD | refine below_set ?_ (IsS51.ge HI0.out) | refine below_set ?_ GE101.out) | exact HB.out)); rintro e w42 ⟨rfl, hi, hb, hk⟩; refine ⟨_, rfl, ?_⟩; have n0_ := Aside0.mk (KeepBut.blk hk (g' := gb101) (o := .cells #[.string (⟨#[]⟩ : ByteArray), .string (⟨#[]⟩ : ByteArray), .int .i64 0] 32 (0, 0)) (kI BK101) NB101_0.out (by simp)); have n1_ := Aside0.mk (KeepBut.trans (by repeat (first | (with_reducible first | exact HK.out | apply KeepBut.set_ | apply keep_drewN | apply keep_drew | apply keep_alloc | refine keep_far ?_ GW101.out _) | exact HK.out)) hk (.inl rfl)); have n2_ := Aside0.mk (hb); have n3_ := Aside0.mk (hi); clear BK101 HK HB HI0; have BK101 := n0_; have HK := n1_; have HB := n2_; have HI0 := n3_; clear n0_ n1_ n2_ n3_; (try clear hb); (try clear hb2); (try clear hk); (try clear hi)) | ((with_reducible refine gate_dst (N := 3) rfl ?_); refine box_event ?hg (N := 3) ?hd (cs := #[.string (⟨#[]⟩ : ByteArray), .string (⟨#[]⟩ : ByteArray), .int .i64 0]) (t := 32) ?hr ?_; (case hd => rfl); (case hg => rfl); (case hr => first | (go_simp; done) | (go_simp; rfl)); intro gb107 hg w43 hbox hb; have n0_ := Aside0.mk (IsS51.below (by repeat (first | (with_reducible first | exact HI0.out | apply IsS51.alloc | apply IsS51.drewN | apply IsS51.drew | apply IsS51.set_1 | apply IsS51.set_2 | refine IsS51.far ?_ NB0_101.out _) | exact HI0.out)) hb); have n1_ := Aside0.mk (kbI hb BK101); have n2_ := Aside0.mk (KeepBut.trans (by repeat (first | (with_reducible first | exact HK.out | apply KeepBut.set_ | apply keep_drewN | apply keep_drew | apply keep_alloc | refine keep_far ?_ GW101.out _) | exact HK.out)) (KeepBut.of_below hb g none) (.inl rfl)); have n3_ := Aside0.mk (below_step (by repeat (first | (with_reducible first | exact HB.out | apply bA | apply bN | apply bD | refine below_set ?_ (IsS51.ge HI0.out) | refine below_set ?_ GE101.out) | exact HB.out)) hb); have n4_ := Aside0.mk (hbox); have n5_ := Aside0.mk ((by rw [hg]; exact (keep_size (w := w) (g := g) (row := none) (by repeat (first | (with_reducible first | exact HK.out | apply KeepBut.set_ | apply keep_drewN | apply keep_drew | apply keep_alloc | refine keep_far ?_ GW101.out _) | exact HK.out))) : w.heap.size ≤ gb107)); have n6_ := Aside0.mk ((Nat.le_trans HW0.out (by rw [hg]; exact (keep_size (w := w) (g := g) (row := none) (by repeat (first | (with_reducible first | exact HK.out | apply KeepBut.set_ | apply keep_drewN | apply keep_drew | apply keep_alloc | refine keep_far ?_ GW101.out _) | exact HK.out))) : w.heap.size ≤ gb107) : w0.heap.size ≤ gb107)); have n7_ := Aside0.mk ((by rw [hg]; exact Nat.ne_of_lt (blk_lt (kI BK101)) : gb101 ≠ gb107)); have n8_ := Aside0.mk (Ne.symm n7_.out); have n9_ := Aside0.mk ((by rw [hg]; exact Nat.ne_of_lt (IsS51.lt (show IsS51 w0 _ g s0_0 t105 t106 from by repeat (first | (with_reducible first | exact HI0.out | apply IsS51.alloc | apply IsS51.drewN | apply IsS51.drew | apply IsS51.set_1 | apply IsS51.set_2 | refine IsS51.far ?_ NB0_101.out _) | exact HI0.out))) : g ≠ gb107)); have n10_ := Aside0.mk (Ne.symm n9_.out); clear HI0 BK101 HK HB; have HI0 := n0_; have BK101 := n1_; have HK := n2_; have HB := n3_; have BK107 := n4_; have GW107 := n5_; have GE107 := n6_; have NB101_107 := n7_; have NB107_101 := n8_; have NB0_107 := n9_; have NB107_0 := n10_; clear n0_ n1_ n2_ n3_ n4_ n5_ n6_ n7_ n8_ n9_ n10_ hb hbox hg; have hnb44 := NB107_101.out; have hnc44 := NB101_107.out; have hnb45 := NB107_0.out; have hnc45 := NB0_107.out; have hcz46_0 := cz BK107.out 0; have hcz46_1 := cz BK107.out 1; have hcz46_2 := cz BK107.out 2; have hfz46_0 := blk_frozen BK107.out 0; have hfz46_1 := blk_frozen BK107.out 1; have hfz46_2 := blk_frozen BK107.out 2) | ((with_reducible refine gate_callee (f := 35) rfl ?_); refine gL (some 7) Tryd.func35 #[.pointer (some ⟨g, 0, none⟩), .int .i64 24] ?_; (with_reducible refine (spec_l1Cur_pick.calls g s0_0 t105 t106 24 t108 t109 t110 w0 _ ?side1 ?side2 A3.out).mono ?_); (case side1 => repeat (first | (with_reducible first | exact HI0.out | apply IsS51.alloc | apply IsS51.drewN | apply IsS51.drew | apply IsS51.set_1 | apply IsS51.set_2 | refine IsS51.far ?_ NB0_101.out _ | refine IsS51.far ?_ NB0_107.out _) | exact HI0.out)); (case side2 => repeat (first | (with_reducible first | exact HB.out | apply bA | apply bN | apply bD | refine below_set ?_ (IsS51.ge HI0.out) | refine below_set ?_ GE101.out | refine below_set ?_ GE107.out) | exact HB.out)); rintro e w47 ⟨rfl, hi, hb, hk⟩; refine ⟨_, rfl, ?_⟩; have n0_ := Aside0.mk (KeepBut.blk hk (g' := gb101) (o := .cells #[.string (⟨#[]⟩ : ByteArray), .string (⟨#[]⟩ : ByteArray), .int .i64 0] 32 (0, 0)) (by (with_reducible repeat (first | refine kN ?_ _ | refine kD ?_ | refine kA ?_ _)); refine blk_far ?_ NB101_107.out _; (with_reducible repeat (first | refine kN ?_ _ | refine kD ?_ | refine kA ?_ _)); refine blk_far ?_ NB101_107.out _; (with_reducible repeat (first | refine kN ?_ _ | refine kD ?_ | refine kA ?_ _)); refine blk_far ?_ NB101_107.out _; (with_reducible repeat (first | refine kN ?_ _ | refine kD ?_ | refine kA ?_ _)); exact BK101.out) NB101_0.out (by simp)); have n1_ := Aside0.mk (KeepBut.blk hk (g' := gb107) (o := .cells #[.string t102, .string t103, .int .i64 t104] 32 (0, 0)) (by (with_reducible repeat (first | refine kN ?_ _ | refine kD ?_ | refine kA ?_ _)); refine blk_put (cs := #[.string t102, .string t103, .int .i64 0]) ?_ 2 _ rfl; (with_reducible repeat (first | refine kN ?_ _ | refine kD ?_ | refine kA ?_ _)); refine blk_put (cs := #[.string t102, .string (⟨#[]⟩ : ByteArray), .int .i64 0]) ?_ 1 _ rfl; (with_reducible repeat (first | refine kN ?_ _ | refine kD ?_ | refine kA ?_ _)); refine blk_put (cs := #[.string (⟨#[]⟩ : ByteArray), .string (⟨#[]⟩ : ByteArray), .int .i64 0]) ?_ 0 _ rfl; (with_reducible repeat (first | refine kN ?_ _ | refine kD ?_ | refine kA ?_ _)); exact BK107.out) NB107_0.out (by simp)); have n2_ := Aside0.mk (KeepBut.trans (by repeat (first | (with_reducible first | exact HK.out | apply KeepBut.set_ | apply keep_drewN | apply keep_drew | apply keep_alloc | refine keep_far ?_ GW101.out _ | refine keep_far ?_ GW107.out _) | exact HK.out)) hk (.inl rfl)); have n3_ := Aside0.mk (hb); have n4_ := Aside0.mk (hi); clear BK101 BK107 HK HB HI0; have BK101 := n0_; have BK107 := n1_; have HK := n2_; have HB := n3_; have HI0 := n4_; clear n0_ n1_ n2_ n3_ n4_; (try clear hb); (try clear hb2); (try clear hk); (try clear hi); have hcz48_0 := cz BK107.out 0; have hcz48_1 := cz BK107.out 1; have hcz48_2 := cz BK107.out 2; have hfz48_0 := blk_frozen BK107.out 0; have hfz48_1 := blk_frozen BK107.out 1; have hfz48_2 := blk_frozen BK107.out 2; have hnb49 := NB101_0.out; have hnc49 := NB0_101.out; have hcz50_0 := cz BK101.out 0; have hcz50_1 := cz BK101.out 1; have hcz50_2 := cz BK101.out 2; have hfz50_0 := blk_frozen BK101.out 0; have hfz50_1 := blk_frozen BK101.out 1; have hfz50_2 := blk_frozen BK101.out 2))
    (refine bodyPost_ret (results_cell_row rfl _ _ gb101 32 #[.string t102, .string t103, .int .i64 t104] (0, 0) _ rfl (by (with_reducible repeat (first | refine kN ?_ _ | refine kD ?_ | refine kA ?_ _)); refine blk_put (cs := #[.string t102, .string t103, .int .i64 0]) ?_ 2 _ rfl; (with_reducible repeat (first | refine kN ?_ _ | refine kD ?_ | refine kA ?_ _)); refine blk_put (cs := #[.string t102, .string (⟨#[]⟩ : ByteArray), .int .i64 0]) ?_ 1 _ rfl; (with_reducible repeat (first | refine kN ?_ _ | refine kD ?_ | refine kA ?_ _)); refine blk_put (cs := #[.string (⟨#[]⟩ : ByteArray), .string (⟨#[]⟩ : ByteArray), .int .i64 0]) ?_ 0 _ rfl; (with_reducible repeat (first | refine kN ?_ _ | refine kD ?_ | refine kA ?_ _)); exact BK101.out) Tryd.underlying32 rfl (by kernel_rfl)) rfl ?_); (exact ⟨rfl, by repeat (first | (with_reducible first | exact HI0.out | apply IsS51.alloc | apply IsS51.drewN | apply IsS51.drew | apply IsS51.set_1 | apply IsS51.set_2 | refine IsS51.far ?_ NB0_101.out _ | refine IsS51.far ?_ NB0_107.out _) | exact HI0.out), by repeat (first | (with_reducible first | exact HB.out | apply bA | apply bN | apply bD | refine below_set ?_ (IsS51.ge HI0.out) | refine below_set ?_ GE101.out | refine below_set ?_ GE107.out) | exact HB.out), by repeat (first | (with_reducible first | exact HK.out | apply KeepBut.set_ | apply keep_drewN | apply keep_drew | apply keep_alloc | refine keep_far ?_ GW101.out _ | refine keep_far ?_ GW107.out _) | exact HK.out)⟩)
/-! ### spec_DrawCrashLog: function 22 -/
def spec_DrawCrashLog.f (k : Nat) (l0 : List Int) : Option (ByteArray × ByteArray × Int × Int × Bool) := (spec_l1Cur_anyLog.f k l0 0 0).bind fun bt103 => ((spec_l1Cur_pick.f l0 bt103.2.2.2.1 bt103.2.2.2.2 (wrap64 ((bt103.2.1.size : Int) + 3))).bind fun bt109 => ((spec_l1Cur_one.f l0 bt109.2.1 bt109.2.2 2).bind fun bt112 => (some (bt103.1, bt103.2.1, bt103.2.2.1, wrap64 (bt109.1 - 1), bt112.1))))
set_option maxHeartbeats 8000000 in
set_option maxRecDepth 100000 in
theorem spec_DrawCrashLog.calls (k : Nat) (A0 : Option Addr) (c0 : Nat) (l0 : List Int) (r1 : ByteArray) (r2 : ByteArray) (r3 : Int) (r4 : Int) (r5 : Bool) (w : World) (hr0 : Kd.C (Kd.int .u8) w A0 l0.length l0) (hc0 : l0.length ≤ c0) (h : spec_DrawCrashLog.f k l0 = some (r1, r2, r3, r4, r5)) :
  Calls Tryd.prog 22 #[.slice A0 l0.length c0] w fun e w' => e = .returned (.tuple #[.agg #[.string r1, .string r2, .int .i64 r3], .int .i64 r4, .bool r5]) ∧ Below w.heap.size w w' := by
 (have hu32 := Tryd.underlying32); (have hu51 := Tryd.underlying51); (have HR0 := Aside0.mk hr0); (have HC0 := Aside0.mk hc0); clear hr0 hc0; (have HB := Aside0.mk (Below.refl w.heap.size w)); (have H : ((spec_l1Cur_anyLog.f k l0 0 0).bind fun bt103 => ((spec_l1Cur_pick.f l0 bt103.2.2.2.1 bt103.2.2.2.2 (wrap64 ((bt103.2.1.size : Int) + 3))).bind fun bt109 => ((spec_l1Cur_one.f l0 bt109.2.1 bt109.2.2 2).bind fun bt112 => (some (bt103.1, bt103.2.1, bt103.2.2.1, wrap64 (bt109.1 - 1), bt112.1))))) = some (r1, r2, r3, r4, r5) := h); clear h; (replace H := Option.bind_eq_some_iff.mp H); (obtain ⟨⟨t103, t104, t105, t106, t107⟩, A20, H⟩ := H); (replace H : ((spec_l1Cur_pick.f l0 t106 t107 (wrap64 ((t104.size : Int) + 3))).bind fun bt109 => ((spec_l1Cur_one.f l0 bt109.2.1 bt109.2.2 2).bind fun bt112 => (some (t103, t104, t105, wrap64 (bt109.1 - 1), bt112.1)))) = some (r1, r2, r3, r4, r5) := H); (have A2 := Aside0.mk A20); clear A20; (replace H := Option.bind_eq_some_iff.mp H); (obtain ⟨⟨t109, t110, t111⟩, A30, H⟩ := H); (replace H : ((spec_l1Cur_one.f l0 t110 t111 2).bind fun bt112 => (some (t103, t104, t105, wrap64 (t109 - 1), bt112.1))) = some (r1, r2, r3, r4, r5) := H); (have A3 := Aside0.mk A30); clear A30; (replace H := Option.bind_eq_some_iff.mp H); (obtain ⟨⟨t112, t113, t114⟩, A40, H⟩ := H); (replace H : (some (t103, t104, t105, wrap64 (t109 - 1), t112)) = some (r1, r2, r3, r4, r5) := H); (have A4 := Aside0.mk A40); clear A40; (simp only [Option.some.injEq, Prod.mk.injEq] at H); (obtain ⟨rfl, rfl, rfl, rfl, rfl⟩ := H); (go_enter Tryd.func22, Tryd.ntmps22)
 try go_wp2_with (first | ((with_reducible refine gate_dst (N := 2) rfl ?_); refine box_event ?hg (N := 2) ?hd (cs := #[.string (⟨#[]⟩ : ByteArray), .string (⟨#[]⟩ : ByteArray), .int .i64 0]) (t := 32) ?hr ?_; (case hd => rfl); (case hg => rfl); (case hr => first | (go_simp; done) | (go_simp; rfl)); intro gb101 hg w5 hbox hb; have hB_ := bz (by repeat (first | (with_reducible first | exact HB.out | apply bA | apply bN | apply bD) | exact HB.out)) hb; have n0_ := Aside0.mk (below_step hB_ hb); have n1_ := Aside0.mk (hbox); have n2_ := Aside0.mk ((by rw [hg]; exact (below_size hB_) : w.heap.size ≤ gb101)); have n3_ := n2_; clear HB; have HB := n0_; have BK101 := n1_; have GW101 := n2_; have GE101 := n3_; clear n0_ n1_ n2_ n3_ hB_ hb hbox hg) | ((with_reducible refine gate_dst (N := 10) rfl ?_); refine box_event ?hg (N := 10) ?hd (cs := #[.slice A0 l0.length c0, .int .i64 0, .int .u64 0]) (t := 51) ?hr ?_; (case hd => rfl); (case hg => rfl); (case hr => first | (go_simp; done) | (go_simp; rfl)); intro gb102 hg w6 hbox hb; have n0_ := Aside0.mk (blk_below (by (with_reducible repeat (first | refine kN ?_ _ | refine kD ?_ | refine kA ?_ _)); exact BK101.out) hb); have hB_ := bz (by repeat (first | (with_reducible first | exact HB.out | apply bA | apply bN | apply bD | refine below_set ?_ GE101.out) | exact HB.out)) hb; have n1_ := Aside0.mk (below_step hB_ hb); have n2_ := Aside0.mk ((by rw [hg]; exact Nat.ne_of_lt (blk_lt (by (with_reducible repeat (first | refine kN ?_ _ | refine kD ?_ | refine kA ?_ _)); exact BK101.out)) : gb101 ≠ gb102)); have n3_ := Aside0.mk (Ne.symm n2_.out); have n4_ := Aside0.mk ((⟨_, _, hbox, (by rw [hg]; exact (below_size hB_) : w.heap.size ≤ gb102), HR0.out⟩ : IsS51 w w6 gb102 l0 0 0)); clear BK101 HB; have BK101 := n0_; have HB := n1_; have NB101_102 := n2_; have NB102_101 := n3_; have HI102 := n4_; clear n0_ n1_ n2_ n3_ n4_ hB_ hb hbox hg) | ((with_reducible refine gate_callee (f := 41) rfl ?_); refine gL (some 12) Tryd.func41 #[.pointer (some ⟨gb102, 0, none⟩)] ?_; (with_reducible refine (spec_l1Cur_anyLog.calls k gb102 l0 0 0 t103 t104 t105 t106 t107 w _ ?side1 ?side2 A2.out).mono ?_); (case side1 => repeat (first | (with_reducible first | exact HI102.out | apply IsS51.alloc | apply IsS51.drewN | apply IsS51.drew | apply IsS51.set_1 | apply IsS51.set_2 | refine IsS51.far ?_ NB102_101.out _) | exact HI102.out)); (case side2 => repeat (first | (with_reducible first | exact HB.out | apply bA | apply bN | apply bD | refine below_set ?_ (IsS51.ge HI102.out) | refine below_set ?_ GE101.out) | exact HB.out)); rintro e w7 ⟨rfl, hi, hb, hk⟩; refine ⟨_, rfl, ?_⟩; have n0_ := Aside0.mk (KeepBut.blk hk (g' := gb101) (o := .cells #[.string (⟨#[]⟩ : ByteArray), .string (⟨#[]⟩ : ByteArray), .int .i64 0] 32 (0, 0)) (by (with_reducible repeat (first | refine kN ?_ _ | refine kD ?_ | refine kA ?_ _)); exact BK101.out) NB101_102.out (by simp)); have n1_ := Aside0.mk (hb); have n2_ := Aside0.mk (hi); clear BK101 HB HI102; have BK101 := n0_; have HB := n1_; have HI102 := n2_; clear n0_ n1_ n2_; (try clear hb); (try clear hb2); (try clear hk); (try clear hi)) | ((with_reducible refine gate_dst (N := 6) rfl ?_); refine box_event ?hg (N := 6) ?hd (cs := #[.string (⟨#[]⟩ : ByteArray), .string (⟨#[]⟩ : ByteArray), .int .i64 0]) (t := 32) ?hr ?_; (case hd => rfl); (case hg => rfl); (case hr => first | (go_simp; done) | (go_simp; rfl)); intro gb108 hg w8 hbox hb; have n0_ := Aside0.mk (blk_below (by (with_reducible repeat (first | refine kN ?_ _ | refine kD ?_ | refine kA ?_ _)); exact BK101.out) hb); have n1_ := Aside0.mk (IsS51.below (by repeat (first | (with_reducible first | exact HI102.out | apply IsS51.alloc | apply IsS51.drewN | apply IsS51.drew | apply IsS51.set_1 | apply IsS51.set_2 | refine IsS51.far ?_ NB102_101.out _) | exact HI102.out)) hb); have hB_ := bz (by repeat (first | (with_reducible first | exact HB.out | apply bA | apply bN | apply bD | refine below_set ?_ (IsS51.ge HI102.out) | refine below_set ?_ GE101.out) | exact HB.out)) hb; have n2_ := Aside0.mk (below_step hB_ hb); have n3_ := Aside0.mk (hbox); have n4_ := Aside0.mk ((by rw [hg]; exact (below_size hB_) : w.heap.size ≤ gb108)); have n5_ := n4_; have n6_ := Aside0.mk ((by rw [hg]; exact Nat.ne_of_lt (blk_lt (by (with_reducible repeat (first | refine kN ?_ _ | refine kD ?_ | refine kA ?_ _)); exact BK101.out)) : gb101 ≠ gb108)); have n7_ := Aside0.mk (Ne.symm n6_.out); have n8_ := Aside0.mk ((by rw [hg]; exact Nat.ne_of_lt (IsS51.lt (show IsS51 w _ gb102 l0 t106 t107 from by repeat (first | (with_reducible first | exact HI102.out | apply IsS51.alloc | apply IsS51.drewN | apply IsS51.drew | apply IsS51.set_1 | apply IsS51.set_2 | refine IsS51.far ?_ NB102_101.out _) | exact HI102.out))) : gb102 ≠ gb108)); have n9_ := Aside0.mk (Ne.symm n8_.out); clear BK101 HI102 HB; have BK101 := n0_; have HI102 := n1_; have HB := n2_; have BK108 := n3_; have GW108 := n4_; have GE108 := n5_; have NB101_108 := n6_; have NB108_101 := n7_; have NB102_108 := n8_; have NB108_102 := n9_; clear n0_ n1_ n2_ n3_ n4_ n5_ n6_ n7_ n8_ n9_ hB_ hb hbox hg; have hnb9 := NB108_101.out; have hnc9 := NB101_108.out; have hnb10 := NB108_102.out; have hnc10 := NB102_108.out; have hcz11_0 := cz BK108.out 0; have hcz11_1 := cz BK108.out 1; have hcz11_2 := cz BK108.out 2; have hfz11_0 := blk_frozen BK108.out 0; have hfz11_1 := blk_frozen BK108.out 1; have hfz11_2 := blk_frozen BK108.out 2) | ((with_reducible refine gate_callee (f := 35) rfl ?_); refine gL (some 18) Tryd.func35 #[.pointer (some ⟨gb102, 0, none⟩), .int .i64 (wrap64 ((t104.size : Int) + 3))] ?_; (with_reducible refine (spec_l1Cur_pick.calls gb102 l0 t106 t107 (wrap64 ((t104.size : Int) + 3)) t109 t110 t111 w _ ?side1 ?side2 A3.out).mono ?_); (case side1 => repeat (first | (with_reducible first | exact HI102.out | apply IsS51.alloc | apply IsS51.drewN | apply IsS51.drew | apply IsS51.set_1 | apply IsS51.set_2 | refine IsS51.far ?_ NB102_101.out _ | refine IsS51.far ?_ NB102_108.out _) | exact HI102.out)); (case side2 => repeat (first | (with_reducible first | exact HB.out | apply bA | apply bN | apply bD | refine below_set ?_ (IsS51.ge HI102.out) | refine below_set ?_ GE101.out | refine below_set ?_ GE108.out) | exact HB.out)); rintro e w12 ⟨rfl, hi, hb, hk⟩; refine ⟨_, rfl, ?_⟩; have n0_ := Aside0.mk (KeepBut.blk hk (g' := gb101) (o := .cells #[.string (⟨#[]⟩ : ByteArray), .string (⟨#[]⟩ : ByteArray), .int .i64 0] 32 (0, 0)) (by (with_reducible repeat (first | refine kN ?_ _ | refine kD ?_ | refine kA ?_ _)); refine blk_far ?_ NB101_108.out _; (with_reducible repeat (first | refine kN ?_ _ | refine kD ?_ | refine kA ?_ _)); refine blk_far ?_ NB101_108.out _; (with_reducible repeat (first | refine kN ?_ _ | refine kD ?_ | refine kA ?_ _)); refine blk_far ?_ NB101_108.out _; (with_reducible repeat (first | refine kN ?_ _ | refine kD ?_ | refine kA ?_ _)); exact BK101.out) NB101_102.out (by simp)); have n1_ := Aside0.mk (KeepBut.blk hk (g' := gb108) (o := .cells #[.string t103, .string t104, .int .i64 t105] 32 (0, 0)) (by (with_reducible repeat (first | refine kN ?_ _ | refine kD ?_ | refine kA ?_ _)); refine blk_put (cs := #[.string t103, .string t104, .int .i64 0]) ?_ 2 _ rfl; (with_reducible repeat (first | refine kN ?_ _ | refine kD ?_ | refine kA ?_ _)); refine blk_put (cs := #[.string t103, .string (⟨#[]⟩ : ByteArray), .int .i64 0]) ?_ 1 _ rfl; (with_reducible repeat (first | refine kN ?_ _ | refine kD ?_ | refine kA ?_ _)); refine blk_put (cs := #[.string (⟨#[]⟩ : ByteArray), .string (⟨#[]⟩ : ByteArray), .int .i64 0]) ?_ 0 _ rfl; (with_reducible repeat (first | refine kN ?_ _ | refine kD ?_ | refine kA ?_ _)); exact BK108.out) NB108_102.out (by simp)); have n2_ := Aside0.mk (hb); have n3_ := Aside0.mk (hi); clear BK101 BK108 HB HI102; have BK101 := n0_; have BK108 := n1_; have HB := n2_; have HI102 := n3_; clear n0_ n1_ n2_ n3_; (try clear hb); (try clear hb2); (try clear hk); (try clear hi)))
 (have n0_ := Aside0.mk (blk_drew BK101.out)); (have n1_ := Aside0.mk (blk_drew BK108.out)); (have n2_ := Aside0.mk (IsS51.drew HI102.out)); (have n3_ := Aside0.mk (below_drew1 HB.out)); clear BK101 BK108 HI102 HB; (have BK101 := n0_); (have BK108 := n1_); (have HI102 := n2_); (have HB := n3_); clear n0_ n1_ n2_ n3_; (refine start_ (n := 7) (S := fun w' => w'.cell? ⟨gb108, 0, none⟩ = some (.string t103) ∧ w'.cell? ⟨gb108, 1, none⟩ = some (.string t104) ∧ w'.cell? ⟨gb108, 2, none⟩ = some (.int .i64 t105)) (ds := []) (cn 7 0) (by kernel_rfl) rfl (by kernel_rfl) ⟨(blk_cell BK108.out 0).trans rfl, (blk_cell BK108.out 1).trans rfl, (blk_cell BK108.out 2).trans rfl⟩ (fun hHeld => ?_)); (generalize w12.drew = w13 at BK101 BK108 HI102 HB hHeld ⊢); (refine pure_ (i := 1) (N := some 21) (v := ?_) (a' := ?_) (cb 7 2) rfl rfl (by kernel_rfl) (fun _ _ _ h => h) (Or.inl ⟨by rfl, ?_⟩) ?_ ?_); rotate_left; (· intro w'; go_simp; with_reducible rfl); rotate_left; (· (simp only [Act.put, aS1, aS2, aS3, i64_w, i32_w]); rfl); (refine pure_ (i := 2) (N := some 22) (v := ?_) (a' := ?_) (cb 7 6) rfl rfl (by kernel_rfl) (fun _ _ _ h => h) (Or.inl ⟨by rfl, ?_⟩) ?_ ?_); rotate_left; (· intro w'; go_simp; with_reducible rfl); rotate_left; (· (simp only [Act.put, aS1, aS2, aS3, i64_w, i32_w]); rfl); (refine take_ (i := 0) (N := some 20) (v := ?_) (a' := ?_) (cn 7 3) rfl rfl (by kernel_rfl) (fun _ _ _ h => h) (Or.inl ⟨by rfl, ?_⟩) hHeld ?_ ?_); rotate_left; (· (rintro w' ⟨s0, s1, s2⟩); go_simp; with_reducible rfl); rotate_left; (· (simp only [Act.put, aS1, aS2, aS3, i64_w, i32_w]); rfl); (refine one_ (i := 3) (N := some 23) (cn 7 4) rfl rfl (by kernel_rfl) (by decide) (fun K hK => ?_)); (refine goes_ Tryd.func37 (by kernel_rfl) rfl #[.pointer (some ⟨gb102, 0, none⟩), .int .i64 2] (by rfl) rfl rfl (by (try simp only [aM1, aM2, aM3]); first | done | rfl | (simp only [List.length_drop, List.length_take]; rfl)) ?_); (with_reducible refine (spec_l1Cur_one.calls gb102 l0 t110 t111 2 t112 t113 t114 w _ ?side1 ?side2 A4.out).mono ?_); ((case side1 => repeat (first | (with_reducible first | exact HI102.out | apply IsS51.alloc | apply IsS51.drewN | apply IsS51.drew | apply IsS51.set_1 | apply IsS51.set_2 | refine IsS51.far ?_ NB102_101.out _ | refine IsS51.far ?_ NB102_108.out _) | exact HI102.out))); ((case side2 => repeat (first | (with_reducible first | exact HB.out | apply bA | apply bN | apply bD | refine below_set ?_ (IsS51.ge HI102.out) | refine below_set ?_ GE101.out | refine below_set ?_ GE108.out) | exact HB.out))); (rintro e w14 ⟨rfl, hi, hb, hk⟩); (refine ⟨_, rfl, ?_⟩); (have n0_ := Aside0.mk (KeepBut.blk hk (g' := gb101) (o := .cells #[.string (⟨#[]⟩ : ByteArray), .string (⟨#[]⟩ : ByteArray), .int .i64 0] 32 (0, 0)) (by (with_reducible repeat (first | refine kN ?_ _ | refine kD ?_ | refine kA ?_ _)); exact BK101.out) NB101_102.out (by simp))); (have n1_ := Aside0.mk (KeepBut.blk hk (g' := gb108) (o := .cells #[.string t103, .string t104, .int .i64 t105] 32 (0, 0)) (by (with_reducible repeat (first | refine kN ?_ _ | refine kD ?_ | refine kA ?_ _)); exact BK108.out) NB108_102.out (by simp))); (have n2_ := Aside0.mk (hb)); (have n3_ := Aside0.mk (hi)); clear BK101 BK108 HB HI102; (have BK101 := n0_); (have BK108 := n1_); (have HB := n2_); (have HI102 := n3_); clear n0_ n1_ n2_ n3_; ((try clear hb)); ((try clear hb2)); ((try clear hk)); ((try clear hi)); (refine hK.out _ _ ⟨(blk_cell BK108.out 0).trans rfl, (blk_cell BK108.out 1).trans rfl, (blk_cell BK108.out 2).trans rfl⟩ (fun hHeld => ?_)); clear hK K; (refine norm_ (a' := ?_) ?_ ?_); rotate_left; (· (show Act.put _ (some 23) _ = _); (simp only [Act.put, aS1, aS2, aS3, i64_w, i32_w]); rfl); (refine one_ (i := 4) (N := none) (cn 7 5) rfl rfl (by kernel_rfl) (by decide) (fun K hK => ?_)); (have hs15 : w14.cell? ⟨gb101, 0, none⟩ = some (.string (⟨#[]⟩ : ByteArray)) := (blk_cell BK101.out 0).trans rfl); (have hfs15 := blk_frozen BK101.out 0); (have hns15_1 := NB108_101.out); (have hms15_1 := NB101_108.out); (have hs16 : w14.cell? ⟨gb101, 1, none⟩ = some (.string (⟨#[]⟩ : ByteArray)) := (blk_cell BK101.out 1).trans rfl); (have hfs16 := blk_frozen BK101.out 1); (have hns16_1 := NB108_101.out); (have hms16_1 := NB101_108.out); (have hs17 : w14.cell? ⟨gb101, 2, none⟩ = some (.int .i64 0) := (blk_cell BK101.out 2).trans rfl); (have hfs17 := blk_frozen BK101.out 2); (have hns17_1 := NB108_101.out); (have hms17_1 := NB101_108.out); (refine skip_ (w1 := ?_) (by rfl) rfl ?_ ?_); rotate_left; (· go_simp; rfl); (refine hK.out _ _ ⟨((cell_far (p := ⟨gb101, _, none⟩) NB108_101.out _).trans (((cell_far (p := ⟨gb101, _, none⟩) NB108_101.out _).trans (((cell_far (p := ⟨gb101, _, none⟩) NB108_101.out _).trans (hHeld.1)))))), ((cell_far (p := ⟨gb101, _, none⟩) NB108_101.out _).trans (((cell_far (p := ⟨gb101, _, none⟩) NB108_101.out _).trans (((cell_far (p := ⟨gb101, _, none⟩) NB108_101.out _).trans (hHeld.2.1)))))), ((cell_far (p := ⟨gb101, _, none⟩) NB108_101.out _).trans (((cell_far (p := ⟨gb101, _, none⟩) NB108_101.out _).trans (((cell_far (p := ⟨gb101, _, none⟩) NB108_101.out _).trans (hHeld.2.2))))))⟩ (fun hHeld => ?_)); clear hK K; (refine pure_ (i := 5) (N := some 3) (v := ?_) (a' := ?_) (cn 7 6) rfl rfl (by kernel_rfl) (fun _ _ _ h => h) (Or.inl ⟨by rfl, ?_⟩) ?_ ?_); rotate_left; (· intro w'; go_simp; with_reducible rfl); rotate_left; (· (simp only [Act.put, aS1, aS2, aS3, i64_w, i32_w]); rfl); (refine pure_ (i := 6) (N := some 4) (v := ?_) (a' := ?_) (cn 7 7) rfl rfl (by kernel_rfl) (fun _ _ _ h => h) (Or.inl ⟨by rfl, ?_⟩) ?_ ?_); rotate_left
 (· intro w'; go_simp; with_reducible rfl); rotate_left; (· (simp only [Act.put, aS1, aS2, aS3, i64_w, i32_w]); rfl); (refine done_ (by kernel_rfl) ?_); (try go_wp2); (refine bodyPost_ret (results_ctt rfl _ _ gb101 32 #[.string t103, .string t104, .int .i64 t105] (0, 0) _ rfl (by (with_reducible repeat (first | refine kN ?_ _ | refine kD ?_ | refine kA ?_ _)); refine blk_put (cs := #[.string t103, .string t104, .int .i64 0]) ?_ 2 _ rfl; (with_reducible repeat (first | refine kN ?_ _ | refine kD ?_ | refine kA ?_ _)); refine blk_put (cs := #[.string t103, .string (⟨#[]⟩ : ByteArray), .int .i64 0]) ?_ 1 _ rfl; (with_reducible repeat (first | refine kN ?_ _ | refine kD ?_ | refine kA ?_ _)); refine blk_put (cs := #[.string (⟨#[]⟩ : ByteArray), .string (⟨#[]⟩ : ByteArray), .int .i64 0]) ?_ 0 _ rfl; (with_reducible repeat (first | refine kN ?_ _ | refine kD ?_ | refine kA ?_ _)); exact BK101.out) Tryd.underlying32 rfl (by kernel_rfl)) rfl ?_); (exact ⟨by first | rfl | (simp [errW_none, errW_some] <;> rfl) | (simp [*, errW_none, errW_some] <;> rfl), by repeat (first | (with_reducible first | exact HB.out | apply bA | apply bN | apply bD | refine below_set ?_ (IsS51.ge HI102.out) | refine below_set ?_ GE101.out | refine below_set ?_ GE108.out) | exact HB.out)⟩)

end Go.Proofs.YtkdibcifamlciaaDoor.X
namespace Go.Proofs.YtkdibcifamlciaaDoor.X
open Go.RowKit Go.Proofs.YtkdibcifamlciaaDoorW.PrintWords Go.Proofs.YtkdibcifamlciaaDoorW.PrintLast Go.Proofs.YtkdibcifamlciaaDoorW.PrintMore Go.Proofs.YtkdibcifamlciaaDoor.E
attribute [local go_sem] max2_int min2_int max_two min_two max_three min_three max_four min_four   -- for this text's walks alone
set_option linter.unusedVariables false
set_option linter.unusedSimpArgs false
attribute [-simp] ByteArray.size_append ByteArray.size_extract
attribute [-go_sem] ByteArray.size_append'

/-! ### impl_CrashLog: function 23 -/
/-- What lies in the row that a conversion of a text makes. -/
theorem impl_bw_frozen (w : World) (e : TypeId) (s : ByteArray) (j : Nat) (hj : j < s.size) : (Lib.bytesWorld w e s).frozen? ⟨w.heap.size, j, none⟩ = false := by
 (have hz : s.size ≤ (Lib.bytesCells w e s).size := by unfold Lib.bytesCells; rw [Array.size_append, Array.size_map]; exact Nat.le_add_right _ _); (simp [World.frozen?, Lib.bytesWorld_at_new]); (omega)
theorem impl_bw_below (w : World) (e : TypeId) (s : ByteArray) : Below w.heap.size w (Lib.bytesWorld w e s) := Joins.below_bytesWorld _ _ _ _ (Nat.le_refl _)
/-- The last byte of a row of bytes turned around. -/
def impl_tornB (s : ByteArray) : ByteArray := ⟨(s.data.toList.set (s.size - 1) (255 - s.data.toList.getD (s.size - 1) 0)).toArray⟩
theorem impl_add0 (b j : Nat) : (⟨b, 0, none⟩ : Addr).add j = ⟨b, j, none⟩ := by unfold Addr.add; split <;> simp_all
theorem impl_conv_plain (w : World) (s : ByteArray) (cap : Nat) : (convert 22 9 (.slice (some ⟨w.heap.size, 0, none⟩) s.size cap)).run Tryd.prog (Lib.bytesWorld w 5 s) = .ok (.string s) (Lib.bytesWorld w 5 s) := by
 have h := run_convert_bytes_back (P := Tryd.prog) (Lib.bytesWorld w 5 s) 22 9 5 ⟨w.heap.size, 0, none⟩ cap s.data.toList Tryd.underlying22 Tryd.underlying5 Tryd.underlying9 (fun j hj => by
  rw [impl_add0, Lib.bytesWorld_cell _ _ _ _ (by rw [Array.length_toList] at hj; exact hj), List.getD_eq_getElem?_getD, List.getElem?_eq_getElem hj, Option.getD_some])
 (rw [Array.length_toList] at h); (exact h)
theorem impl_turn (b : UInt8) : ((255 - b : UInt8).toNat : Int) = 255 - (b.toNat : Int) := by
 (have := b.toNat_lt); (rw [UInt8.toNat_sub]); (have : (255 : UInt8).toNat = 255 := rfl); (omega)
theorem impl_conv_torn (w : World) (s : ByteArray) (cap : Nat) (h0 : 0 < s.size) (bv : Int) (hbv : bv = ((s.data.toList.getD (s.size - 1) 0).toNat : Int)) : (convert 22 9 (.slice (some ⟨w.heap.size, 0, none⟩) s.size cap)).run Tryd.prog ((Lib.bytesWorld w 5 s).setCell ⟨w.heap.size, s.size - 1, none⟩ (.int .u8 (255 - bv))) = .ok (.string (impl_tornB s)) ((Lib.bytesWorld w 5 s).setCell ⟨w.heap.size, s.size - 1, none⟩ (.int .u8 (255 - bv))) := by
 have hsz : s.data.toList.length = s.size := Array.length_toList
 have h := run_convert_bytes_back (P := Tryd.prog) ((Lib.bytesWorld w 5 s).setCell ⟨w.heap.size, s.size - 1, none⟩ (.int .u8 (255 - bv))) 22 9 5 ⟨w.heap.size, 0, none⟩ cap (s.data.toList.set (s.size - 1) (255 - s.data.toList.getD (s.size - 1) 0)) Tryd.underlying22 Tryd.underlying5 Tryd.underlying9 (fun j hj => by
  (rw [List.length_set, hsz] at hj); (rw [impl_add0]); (by_cases e : j = s.size - 1); (· subst e; (rw [List.getElem_set_self, impl_turn, ← hbv]); (exact World.cell?_setCell_same' _ _ _ (by rw [Lib.bytesWorld_cell _ _ _ _ hj]; rfl))); (· (rw [World.cell?_setCell_other _ _ _ _ (by intro e2; injection e2 with _ e3; omega), Lib.bytesWorld_cell _ _ _ _ hj, List.getElem_set_ne (by omega), List.getD_eq_getElem?_getD, List.getElem?_eq_getElem (by omega), Option.getD_some])))
 (rw [List.length_set, hsz] at h); (exact h)
theorem impl_torn_size (s : ByteArray) : (impl_tornB s).size = s.size := by
 (show (s.data.toList.set _ _).toArray.size = s.size); (rw [List.size_toArray, List.length_set, Array.length_toList]); rfl
def impl_CrashLog.f (k : Nat) (a0_0 : ByteArray) (a0_1 : ByteArray) (a0_2 : Int) (a1 : Int) (a2 : Bool) : Option (ByteArray × Bool) := (impl_IsValidLog.f k a0_0 a0_1 a0_2).bind fun t => (if t = true then (if 0 ≤ a1 ∧ a1 ≤ (a0_1.size : Int) then (if a0_0.size + a0_1.size ≤ 4398046511104 then some (a0_0 ++ (if a2 = true ∧ 0 < a1 then impl_tornB (a0_1.extract 0 a1.toNat) else a0_1.extract 0 a1.toNat), true) else none) else some (⟨#[]⟩, false)) else some (⟨#[]⟩, false))
theorem impl_in_eq (a l h : Int) : impl_within.f a l h = some (decide (l ≤ a ∧ a ≤ h)) := by
 (unfold impl_within.f); (by_cases c1 : l ≤ a <;> by_cases c2 : a ≤ h <;> simp [*] <;> omega)
set_option maxHeartbeats 4000000 in
set_option maxRecDepth 100000 in
theorem impl_CrashLog.calls (k : Nat) (a0_0 : ByteArray) (a0_1 : ByteArray) (a0_2 : Int) (a1 : Int) (a2 : Bool) (r1 : ByteArray) (r2 : Bool) (w : World) (hG : GT w) (h : impl_CrashLog.f k a0_0 a0_1 a0_2 a1 a2 = some (r1, r2)) :
  Calls Tryd.prog 23 #[.agg #[.string a0_0, .string a0_1, .int .i64 a0_2], .int .i64 a1, .bool a2] w fun e w' => e = .returned (.tuple #[.string r1, .bool r2]) ∧ Below w.heap.size w w' := by
 (have hu27 := Tryd.underlying32); (have HG := Aside0.mk hG); clear hG; (have HB := Aside0.mk (Below.refl w.heap.size w)); (unfold impl_CrashLog.f at h); (have H := h); clear h; (replace H := obS H; obtain ⟨t101, A3, H⟩ := H); (by_cases c4 : t101 = true)
 ·subst c4
  (rw [if_pos rfl] at H); (by_cases c5 : 0 ≤ a1 ∧ a1 ≤ (a0_1.size : Int))
  ·rw [if_pos c5] at H
   by_cases c6 : a0_0.size + a0_1.size ≤ 4398046511104
   case neg => rw [if_neg c6] at H; exact absurd H (by simp)
   (rw [if_pos c6] at H); (simp only [Option.some.injEq, Prod.mk.injEq] at H); (obtain ⟨HQ, rfl⟩ := H); (have HH := Aside0.mk HQ); clear HQ; (obtain ⟨p1, q1⟩ := c5); (have A4 : impl_within.f a1 0 (a0_1.size : Int) = some true := by rw [impl_in_eq, decide_eq_true ⟨p1, q1⟩]); (have HA4 := Aside0.mk A4); clear A4; (have hs : (a0_1.extract 0 a1.toNat).size = a1.toNat := by rw [ByteArray.size_extract]; omega); (have hcv := fun (w : World) => Lib.run_convert_string_bytes (P := Tryd.prog) w 9 22 5 (a0_1.extract 0 a1.toNat) Tryd.underlying9 Tryd.underlying22 Tryd.underlying5); (have HSZ := Aside0.mk hs); (by_cases ct : a2 = true ∧ 0 < a1); (· (rw [if_pos ct] at HH); (obtain rfl := HH.out); (obtain ⟨rfl, ht0⟩ := ct); (have hgt : decide (a1 > 0) = true := decide_eq_true ht0); (have hz1 : ¬ 9223372036854775807 < a0_0.size + (impl_tornB (a0_1.extract 0 a1.toNat)).size := by rw [impl_torn_size, hs]; omega); (have hgt2 : decide (0 < a1) = true := decide_eq_true ht0); (go_enter Tryd.func23, Tryd.ntmps23); (go_wp2_with (first | (go_at_call 14; (refine (impl_IsValidLog.calls k a0_0 a0_1 a0_2 true _ (GT.below HG.out (by repeat (first | exact HB.out | apply bA | apply bN | apply bD))) A3.out).mono ?_; rintro e w6 ⟨rfl, hb⟩; have HB6 := Aside0.mk (below_step (by repeat (first | exact HB.out | apply bA | apply bN | apply bD)) hb); have g0 : w6.cell? ⟨w.heap.size, 0, none⟩ = some (.string a0_0) := (hb.cell (p := ⟨w.heap.size, 0, none⟩) (by simp)).trans (by simp); have g1 : w6.cell? ⟨w.heap.size, 1, none⟩ = some (.string a0_1) := (hb.cell (p := ⟨w.heap.size, 1, none⟩) (by simp)).trans (by simp); have S6 := Aside0.mk (Nat.lt_of_lt_of_le (by simp : w.heap.size < _) hb.size); clear hb)) | (go_at_call 28; (refine (impl_within.calls a1 0 (a0_1.size : Int) true _ HA4.out).mono ?_; rintro e w7 ⟨rfl, hdr⟩; have hb7 : Below w6.heap.size w6 w7 := (by obtain ⟨nd, e⟩ := hdr; rw [e]; exact pw_below_drewN (Below.refl _ _) nd); clear hdr; replace g0 := (hb7.cell (p := ⟨w.heap.size, 0, none⟩) S6.out).trans g0; replace g1 := (hb7.cell (p := ⟨w.heap.size, 1, none⟩) S6.out).trans g1; have S7 := Aside0.mk (Nat.lt_of_lt_of_le S6.out hb7.size); have HB7 := Aside0.mk (below_step HB6.out hb7); clear hb7; have b0 := (Lib.bytesWorld_old w7 5 (a0_1.extract 0 a1.toNat) ⟨w.heap.size, 0, none⟩ S7.out).trans g0; obtain ⟨bv, hbv⟩ : ∃ bv : Int, bv = (((a0_1.extract 0 a1.toNat).data.toList.getD (a1.toNat - 1) 0).toNat : Int) := ⟨_, rfl⟩; have b2 : 0 < a1 → (Lib.bytesWorld w7 5 (a0_1.extract 0 a1.toNat)).cell? ⟨w7.heap.size, a1.toNat - 1, none⟩ = some (.int .u8 bv) := (fun h0 => by rw [hbv]; exact Lib.bytesWorld_cell _ _ _ _ (by rw [hs]; omega)); have b3 : 0 < a1 → (Lib.bytesWorld w7 5 (a0_1.extract 0 a1.toNat)).frozen? ⟨w7.heap.size, a1.toNat - 1, none⟩ = false := (fun h0 => impl_bw_frozen _ _ _ _ (by rw [hs]; omega)); have v0 : 0 ≤ bv := (by omega); have v1 : bv ≤ 255 := (by rw [hbv]; have := ((a0_1.extract 0 a1.toNat).data.toList.getD (a1.toNat - 1) 0).toNat_lt; omega); have hne : ¬ w7.heap.size = w.heap.size := (by have := S7.out; omega); have n2 : ((Lib.bytesWorld w7 5 (a0_1.extract 0 a1.toNat)).setCell ⟨w7.heap.size, a1.toNat - 1, none⟩ (.int .u8 (255 - bv))).cell? ⟨w.heap.size, 0, none⟩ = some (.string a0_0) := (World.cell?_setCell_other _ _ _ _ (by intro e2; injection e2 with e3; exact hne e3)).trans b0; have hcb := impl_conv_torn w7 (a0_1.extract 0 a1.toNat) (grownCap w7 a1.toNat 0 5) (by rw [hs]; omega) bv (by rw [hs]; exact hbv); rw [hs] at hcb; replace b2 := b2 ht0; replace b3 := b3 ht0; clear hbv)))); (go_ret2); (refine ⟨rfl, ?_⟩); (exact (HB7.out.trans ((impl_bw_below _ _ _).mono HB7.out.size)).setCell (by have := S7.out; show w.heap.size ≤ w7.heap.size; omega) _))
   ·rw [if_neg ct] at HH
    (obtain rfl := HH.out); (have hz1 : ¬ 9223372036854775807 < a0_0.size + (a0_1.extract 0 a1.toNat).size := by rw [hs]; omega); (have hz2 : ¬ 9223372036854775807 < a0_0.size + a1.toNat := by omega)
    have hcond : a2 = false ∨ (a2 = true ∧ a1 = 0) := by
     (cases a2); (· (exact .inl rfl)); (· (exact .inr ⟨rfl, by have : ¬ 0 < a1 := fun h => ct ⟨rfl, h⟩; omega⟩))
    (rcases hcond with rfl | ⟨rfl, ha⟩); (· (go_enter Tryd.func23, Tryd.ntmps23); (go_wp2_with (first | (go_at_call 14; (refine (impl_IsValidLog.calls k a0_0 a0_1 a0_2 true _ (GT.below HG.out (by repeat (first | exact HB.out | apply bA | apply bN | apply bD))) A3.out).mono ?_; rintro e w6 ⟨rfl, hb⟩; have HB6 := Aside0.mk (below_step (by repeat (first | exact HB.out | apply bA | apply bN | apply bD)) hb); have g0 : w6.cell? ⟨w.heap.size, 0, none⟩ = some (.string a0_0) := (hb.cell (p := ⟨w.heap.size, 0, none⟩) (by simp)).trans (by simp); have g1 : w6.cell? ⟨w.heap.size, 1, none⟩ = some (.string a0_1) := (hb.cell (p := ⟨w.heap.size, 1, none⟩) (by simp)).trans (by simp); have S6 := Aside0.mk (Nat.lt_of_lt_of_le (by simp : w.heap.size < _) hb.size); clear hb)) | (go_at_call 28; (refine (impl_within.calls a1 0 (a0_1.size : Int) true _ HA4.out).mono ?_; rintro e w7 ⟨rfl, hdr⟩; have hb7 : Below w6.heap.size w6 w7 := (by obtain ⟨nd, e⟩ := hdr; rw [e]; exact pw_below_drewN (Below.refl _ _) nd); clear hdr; replace g0 := (hb7.cell (p := ⟨w.heap.size, 0, none⟩) S6.out).trans g0; replace g1 := (hb7.cell (p := ⟨w.heap.size, 1, none⟩) S6.out).trans g1; have S7 := Aside0.mk (Nat.lt_of_lt_of_le S6.out hb7.size); have HB7 := Aside0.mk (below_step HB6.out hb7); clear hb7; have b0 := (Lib.bytesWorld_old w7 5 (a0_1.extract 0 a1.toNat) ⟨w.heap.size, 0, none⟩ S7.out).trans g0; obtain ⟨bv, hbv⟩ : ∃ bv : Int, bv = (((a0_1.extract 0 a1.toNat).data.toList.getD (a1.toNat - 1) 0).toNat : Int) := ⟨_, rfl⟩; have b2 : 0 < a1 → (Lib.bytesWorld w7 5 (a0_1.extract 0 a1.toNat)).cell? ⟨w7.heap.size, a1.toNat - 1, none⟩ = some (.int .u8 bv) := (fun h0 => by rw [hbv]; exact Lib.bytesWorld_cell _ _ _ _ (by rw [hs]; omega)); have b3 : 0 < a1 → (Lib.bytesWorld w7 5 (a0_1.extract 0 a1.toNat)).frozen? ⟨w7.heap.size, a1.toNat - 1, none⟩ = false := (fun h0 => impl_bw_frozen _ _ _ _ (by rw [hs]; omega)); have v0 : 0 ≤ bv := (by omega); have v1 : bv ≤ 255 := (by rw [hbv]; have := ((a0_1.extract 0 a1.toNat).data.toList.getD (a1.toNat - 1) 0).toNat_lt; omega); have hcb := impl_conv_plain w7 (a0_1.extract 0 a1.toNat) (grownCap w7 a1.toNat 0 5); rw [hs] at hcb; clear hbv b2 b3)))); (go_ret2); (refine ⟨rfl, ?_⟩); (exact HB7.out.trans ((impl_bw_below _ _ _).mono HB7.out.size))); (· (have hgt : decide (a1 > 0) = false := decide_eq_false (by omega)); (have hgt2 : decide (0 < a1) = false := decide_eq_false (by omega)); (have hgt3 : ¬ 0 < a1 := by omega); clear ha; (go_enter Tryd.func23, Tryd.ntmps23); (go_wp2_with (first | (go_at_call 14; (refine (impl_IsValidLog.calls k a0_0 a0_1 a0_2 true _ (GT.below HG.out (by repeat (first | exact HB.out | apply bA | apply bN | apply bD))) A3.out).mono ?_; rintro e w6 ⟨rfl, hb⟩; have HB6 := Aside0.mk (below_step (by repeat (first | exact HB.out | apply bA | apply bN | apply bD)) hb); have g0 : w6.cell? ⟨w.heap.size, 0, none⟩ = some (.string a0_0) := (hb.cell (p := ⟨w.heap.size, 0, none⟩) (by simp)).trans (by simp); have g1 : w6.cell? ⟨w.heap.size, 1, none⟩ = some (.string a0_1) := (hb.cell (p := ⟨w.heap.size, 1, none⟩) (by simp)).trans (by simp); have S6 := Aside0.mk (Nat.lt_of_lt_of_le (by simp : w.heap.size < _) hb.size); clear hb)) | (go_at_call 28; (refine (impl_within.calls a1 0 (a0_1.size : Int) true _ HA4.out).mono ?_; rintro e w7 ⟨rfl, hdr⟩; have hb7 : Below w6.heap.size w6 w7 := (by obtain ⟨nd, e⟩ := hdr; rw [e]; exact pw_below_drewN (Below.refl _ _) nd); clear hdr; replace g0 := (hb7.cell (p := ⟨w.heap.size, 0, none⟩) S6.out).trans g0; replace g1 := (hb7.cell (p := ⟨w.heap.size, 1, none⟩) S6.out).trans g1; have S7 := Aside0.mk (Nat.lt_of_lt_of_le S6.out hb7.size); have HB7 := Aside0.mk (below_step HB6.out hb7); clear hb7; have b0 := (Lib.bytesWorld_old w7 5 (a0_1.extract 0 a1.toNat) ⟨w.heap.size, 0, none⟩ S7.out).trans g0; obtain ⟨bv, hbv⟩ : ∃ bv : Int, bv = (((a0_1.extract 0 a1.toNat).data.toList.getD (a1.toNat - 1) 0).toNat : Int) := ⟨_, rfl⟩; have b2 : 0 < a1 → (Lib.bytesWorld w7 5 (a0_1.extract 0 a1.toNat)).cell? ⟨w7.heap.size, a1.toNat - 1, none⟩ = some (.int .u8 bv) := (fun h0 => by rw [hbv]; exact Lib.bytesWorld_cell _ _ _ _ (by rw [hs]; omega)); have b3 : 0 < a1 → (Lib.bytesWorld w7 5 (a0_1.extract 0 a1.toNat)).frozen? ⟨w7.heap.size, a1.toNat - 1, none⟩ = false := (fun h0 => impl_bw_frozen _ _ _ _ (by rw [hs]; omega)); have v0 : 0 ≤ bv := (by omega); have v1 : bv ≤ 255 := (by rw [hbv]; have := ((a0_1.extract 0 a1.toNat).data.toList.getD (a1.toNat - 1) 0).toNat_lt; omega); have hcb := impl_conv_plain w7 (a0_1.extract 0 a1.toNat) (grownCap w7 a1.toNat 0 5); rw [hs] at hcb; clear hbv b2 b3)))); (go_ret2); (refine ⟨rfl, ?_⟩); (exact HB7.out.trans ((impl_bw_below _ _ _).mono HB7.out.size)))
  ·rw [if_neg c5] at H
   (simp only [Option.some.injEq, Prod.mk.injEq] at H); (obtain ⟨rfl, rfl⟩ := H); (have A4 : impl_within.f a1 0 (a0_1.size : Int) = some false := by rw [impl_in_eq, decide_eq_false c5]); (have HA4 := Aside0.mk A4); clear A4 c5; (go_enter Tryd.func23, Tryd.ntmps23); (go_wp2_with (first | (go_at_call 14; (refine (impl_IsValidLog.calls k a0_0 a0_1 a0_2 true _ (GT.below HG.out (by repeat (first | exact HB.out | apply bA | apply bN | apply bD))) A3.out).mono ?_; rintro e w6 ⟨rfl, hb⟩; have HB6 := Aside0.mk (below_step (by repeat (first | exact HB.out | apply bA | apply bN | apply bD)) hb); have g0 : w6.cell? ⟨w.heap.size, 0, none⟩ = some (.string a0_0) := (hb.cell (p := ⟨w.heap.size, 0, none⟩) (by simp)).trans (by simp); have g1 : w6.cell? ⟨w.heap.size, 1, none⟩ = some (.string a0_1) := (hb.cell (p := ⟨w.heap.size, 1, none⟩) (by simp)).trans (by simp); have S6 := Aside0.mk (Nat.lt_of_lt_of_le (by simp : w.heap.size < _) hb.size); clear hb)) | (go_at_call 28; (refine (impl_within.calls a1 0 (a0_1.size : Int) false _ HA4.out).mono ?_; rintro e w7 ⟨rfl, hdr⟩; have hb7 : Below w6.heap.size w6 w7 := (by obtain ⟨nd, e⟩ := hdr; rw [e]; exact pw_below_drewN (Below.refl _ _) nd); clear hdr; replace g0 := (hb7.cell (p := ⟨w.heap.size, 0, none⟩) S6.out).trans g0; replace g1 := (hb7.cell (p := ⟨w.heap.size, 1, none⟩) S6.out).trans g1; have S7 := Aside0.mk (Nat.lt_of_lt_of_le S6.out hb7.size); have HB7 := Aside0.mk (below_step HB6.out hb7))))); (go_ret2); (exact ⟨rfl, HB7.out⟩)
 ·replace c4 := Bool.eq_false_iff.mpr c4
  subst c4; (rw [if_neg (show ¬ (false = true) by decide)] at H); (simp only [Option.some.injEq, Prod.mk.injEq] at H); (obtain ⟨rfl, rfl⟩ := H); (go_enter Tryd.func23, Tryd.ntmps23); (go_wp2_with ((go_at_call 14; (refine (impl_IsValidLog.calls k a0_0 a0_1 a0_2 false _ (GT.below HG.out (by repeat (first | exact HB.out | apply bA | apply bN | apply bD))) A3.out).mono ?_; rintro e w6 ⟨rfl, hb⟩; have HB6 := Aside0.mk (below_step (by repeat (first | exact HB.out | apply bA | apply bN | apply bD)) hb); have g0 : w6.cell? ⟨w.heap.size, 0, none⟩ = some (.string a0_0) := (hb.cell (p := ⟨w.heap.size, 0, none⟩) (by simp)).trans (by simp); have g1 : w6.cell? ⟨w.heap.size, 1, none⟩ = some (.string a0_1) := (hb.cell (p := ⟨w.heap.size, 1, none⟩) (by simp)).trans (by simp); have S6 := Aside0.mk (Nat.lt_of_lt_of_le (by simp : w.heap.size < _) hb.size); clear hb)))); (go_ret2); (exact ⟨rfl, HB6.out⟩)
/-! ### spec_CrashLog: function 24 -/
/-- What lies in the row that a conversion of a text makes. -/
theorem spec_bw_frozen (w : World) (e : TypeId) (s : ByteArray) (j : Nat) (hj : j < s.size) : (Lib.bytesWorld w e s).frozen? ⟨w.heap.size, j, none⟩ = false := by
 (have hz : s.size ≤ (Lib.bytesCells w e s).size := by unfold Lib.bytesCells; rw [Array.size_append, Array.size_map]; exact Nat.le_add_right _ _); (simp [World.frozen?, Lib.bytesWorld_at_new]); (omega)
theorem spec_bw_below (w : World) (e : TypeId) (s : ByteArray) : Below w.heap.size w (Lib.bytesWorld w e s) := Joins.below_bytesWorld _ _ _ _ (Nat.le_refl _)
/-- The last byte of a row of bytes turned around. -/
def spec_tornB (s : ByteArray) : ByteArray := ⟨(s.data.toList.set (s.size - 1) (255 - s.data.toList.getD (s.size - 1) 0)).toArray⟩
theorem spec_add0 (b j : Nat) : (⟨b, 0, none⟩ : Addr).add j = ⟨b, j, none⟩ := by unfold Addr.add; split <;> simp_all
theorem spec_conv_plain (w : World) (s : ByteArray) (cap : Nat) : (convert 22 9 (.slice (some ⟨w.heap.size, 0, none⟩) s.size cap)).run Tryd.prog (Lib.bytesWorld w 5 s) = .ok (.string s) (Lib.bytesWorld w 5 s) := by
 have h := run_convert_bytes_back (P := Tryd.prog) (Lib.bytesWorld w 5 s) 22 9 5 ⟨w.heap.size, 0, none⟩ cap s.data.toList Tryd.underlying22 Tryd.underlying5 Tryd.underlying9 (fun j hj => by
  rw [spec_add0, Lib.bytesWorld_cell _ _ _ _ (by rw [Array.length_toList] at hj; exact hj), List.getD_eq_getElem?_getD, List.getElem?_eq_getElem hj, Option.getD_some])
 (rw [Array.length_toList] at h); (exact h)
theorem spec_turn (b : UInt8) : ((255 - b : UInt8).toNat : Int) = 255 - (b.toNat : Int) := by
 (have := b.toNat_lt); (rw [UInt8.toNat_sub]); (have : (255 : UInt8).toNat = 255 := rfl); (omega)
theorem spec_conv_torn (w : World) (s : ByteArray) (cap : Nat) (h0 : 0 < s.size) (bv : Int) (hbv : bv = ((s.data.toList.getD (s.size - 1) 0).toNat : Int)) : (convert 22 9 (.slice (some ⟨w.heap.size, 0, none⟩) s.size cap)).run Tryd.prog ((Lib.bytesWorld w 5 s).setCell ⟨w.heap.size, s.size - 1, none⟩ (.int .u8 (255 - bv))) = .ok (.string (spec_tornB s)) ((Lib.bytesWorld w 5 s).setCell ⟨w.heap.size, s.size - 1, none⟩ (.int .u8 (255 - bv))) := by
 have hsz : s.data.toList.length = s.size := Array.length_toList
 have h := run_convert_bytes_back (P := Tryd.prog) ((Lib.bytesWorld w 5 s).setCell ⟨w.heap.size, s.size - 1, none⟩ (.int .u8 (255 - bv))) 22 9 5 ⟨w.heap.size, 0, none⟩ cap (s.data.toList.set (s.size - 1) (255 - s.data.toList.getD (s.size - 1) 0)) Tryd.underlying22 Tryd.underlying5 Tryd.underlying9 (fun j hj => by
  (rw [List.length_set, hsz] at hj); (rw [spec_add0]); (by_cases e : j = s.size - 1); (· subst e; (rw [List.getElem_set_self, spec_turn, ← hbv]); (exact World.cell?_setCell_same' _ _ _ (by rw [Lib.bytesWorld_cell _ _ _ _ hj]; rfl))); (· (rw [World.cell?_setCell_other _ _ _ _ (by intro e2; injection e2 with _ e3; omega), Lib.bytesWorld_cell _ _ _ _ hj, List.getElem_set_ne (by omega), List.getD_eq_getElem?_getD, List.getElem?_eq_getElem (by omega), Option.getD_some])))
 (rw [List.length_set, hsz] at h); (exact h)
theorem spec_torn_size (s : ByteArray) : (spec_tornB s).size = s.size := by
 (show (s.data.toList.set _ _).toArray.size = s.size); (rw [List.size_toArray, List.length_set, Array.length_toList]); rfl
def spec_CrashLog.f (k : Nat) (a0_0 : ByteArray) (a0_1 : ByteArray) (a0_2 : Int) (a1 : Int) (a2 : Bool) : Option (ByteArray × Bool) := (spec_l27Log.f k a0_0 a0_1 a0_2).bind fun t => (if t = true then (if 0 ≤ a1 ∧ a1 ≤ (a0_1.size : Int) then (if a0_0.size + a0_1.size ≤ 4398046511104 then some (a0_0 ++ (if a2 = true ∧ 0 < a1 then spec_tornB (a0_1.extract 0 a1.toNat) else a0_1.extract 0 a1.toNat), true) else none) else some (⟨#[]⟩, false)) else some (⟨#[]⟩, false))
theorem spec_in_eq (a l h : Int) : spec_l1In.f a l h = some (decide (l ≤ a ∧ a ≤ h)) := by
 (unfold spec_l1In.f); (by_cases c1 : l ≤ a <;> by_cases c2 : a ≤ h <;> simp [*] <;> omega)
set_option maxHeartbeats 4000000 in
set_option maxRecDepth 100000 in
theorem spec_CrashLog.calls (k : Nat) (a0_0 : ByteArray) (a0_1 : ByteArray) (a0_2 : Int) (a1 : Int) (a2 : Bool) (r1 : ByteArray) (r2 : Bool) (w : World) (h : spec_CrashLog.f k a0_0 a0_1 a0_2 a1 a2 = some (r1, r2)) :
  Calls Tryd.prog 24 #[.agg #[.string a0_0, .string a0_1, .int .i64 a0_2], .int .i64 a1, .bool a2] w fun e w' => e = .returned (.tuple #[.string r1, .bool r2]) ∧ Below w.heap.size w w' := by
 (have hu27 := Tryd.underlying32); (have HB := Aside0.mk (Below.refl w.heap.size w)); (unfold spec_CrashLog.f at h); (have H := h); clear h; (replace H := obS H; obtain ⟨t101, A3, H⟩ := H); (by_cases c4 : t101 = true)
 ·subst c4
  (rw [if_pos rfl] at H); (by_cases c5 : 0 ≤ a1 ∧ a1 ≤ (a0_1.size : Int))
  ·rw [if_pos c5] at H
   by_cases c6 : a0_0.size + a0_1.size ≤ 4398046511104
   case neg => rw [if_neg c6] at H; exact absurd H (by simp)
   (rw [if_pos c6] at H); (simp only [Option.some.injEq, Prod.mk.injEq] at H); (obtain ⟨HQ, rfl⟩ := H); (have HH := Aside0.mk HQ); clear HQ; (obtain ⟨p1, q1⟩ := c5); (have A4 : spec_l1In.f a1 0 (a0_1.size : Int) = some true := by rw [spec_in_eq, decide_eq_true ⟨p1, q1⟩]); (have HA4 := Aside0.mk A4); clear A4; (have hs : (a0_1.extract 0 a1.toNat).size = a1.toNat := by rw [ByteArray.size_extract]; omega); (have hcv := fun (w : World) => Lib.run_convert_string_bytes (P := Tryd.prog) w 9 22 5 (a0_1.extract 0 a1.toNat) Tryd.underlying9 Tryd.underlying22 Tryd.underlying5); (have HSZ := Aside0.mk hs); (by_cases ct : a2 = true ∧ 0 < a1); (· (rw [if_pos ct] at HH); (obtain rfl := HH.out); (obtain ⟨rfl, ht0⟩ := ct); (have hgt : decide (a1 > 0) = true := decide_eq_true ht0); (have hz1 : ¬ 9223372036854775807 < a0_0.size + (spec_tornB (a0_1.extract 0 a1.toNat)).size := by rw [spec_torn_size, hs]; omega); (have hgt2 : decide (0 < a1) = true := decide_eq_true ht0); (go_enter Tryd.func24, Tryd.ntmps24); (go_wp2_with (first | (go_at_call 42; (refine (spec_l27Log.calls k a0_0 a0_1 a0_2 true _ A3.out).mono ?_; rintro e w6 ⟨rfl, hb⟩; have HB6 := Aside0.mk (below_step (by repeat (first | exact HB.out | apply bA | apply bN | apply bD)) hb); have g0 : w6.cell? ⟨w.heap.size, 0, none⟩ = some (.string a0_0) := (hb.cell (p := ⟨w.heap.size, 0, none⟩) (by simp)).trans (by simp); have g1 : w6.cell? ⟨w.heap.size, 1, none⟩ = some (.string a0_1) := (hb.cell (p := ⟨w.heap.size, 1, none⟩) (by simp)).trans (by simp); have S6 := Aside0.mk (Nat.lt_of_lt_of_le (by simp : w.heap.size < _) hb.size); clear hb)) | (go_at_call 31; (refine (spec_l1In.calls a1 0 (a0_1.size : Int) true _ HA4.out).mono ?_; rintro e w7 ⟨rfl, hdr⟩; have hb7 : Below w6.heap.size w6 w7 := (by obtain ⟨nd, e⟩ := hdr; rw [e]; exact pw_below_drewN (Below.refl _ _) nd); clear hdr; replace g0 := (hb7.cell (p := ⟨w.heap.size, 0, none⟩) S6.out).trans g0; replace g1 := (hb7.cell (p := ⟨w.heap.size, 1, none⟩) S6.out).trans g1; have S7 := Aside0.mk (Nat.lt_of_lt_of_le S6.out hb7.size); have HB7 := Aside0.mk (below_step HB6.out hb7); clear hb7; have b0 := (Lib.bytesWorld_old w7 5 (a0_1.extract 0 a1.toNat) ⟨w.heap.size, 0, none⟩ S7.out).trans g0; obtain ⟨bv, hbv⟩ : ∃ bv : Int, bv = (((a0_1.extract 0 a1.toNat).data.toList.getD (a1.toNat - 1) 0).toNat : Int) := ⟨_, rfl⟩; have b2 : 0 < a1 → (Lib.bytesWorld w7 5 (a0_1.extract 0 a1.toNat)).cell? ⟨w7.heap.size, a1.toNat - 1, none⟩ = some (.int .u8 bv) := (fun h0 => by rw [hbv]; exact Lib.bytesWorld_cell _ _ _ _ (by rw [hs]; omega)); have b3 : 0 < a1 → (Lib.bytesWorld w7 5 (a0_1.extract 0 a1.toNat)).frozen? ⟨w7.heap.size, a1.toNat - 1, none⟩ = false := (fun h0 => spec_bw_frozen _ _ _ _ (by rw [hs]; omega)); have v0 : 0 ≤ bv := (by omega); have v1 : bv ≤ 255 := (by rw [hbv]; have := ((a0_1.extract 0 a1.toNat).data.toList.getD (a1.toNat - 1) 0).toNat_lt; omega); have hne : ¬ w7.heap.size = w.heap.size := (by have := S7.out; omega); have n2 : ((Lib.bytesWorld w7 5 (a0_1.extract 0 a1.toNat)).setCell ⟨w7.heap.size, a1.toNat - 1, none⟩ (.int .u8 (255 - bv))).cell? ⟨w.heap.size, 0, none⟩ = some (.string a0_0) := (World.cell?_setCell_other _ _ _ _ (by intro e2; injection e2 with e3; exact hne e3)).trans b0; have hcb := spec_conv_torn w7 (a0_1.extract 0 a1.toNat) (grownCap w7 a1.toNat 0 5) (by rw [hs]; omega) bv (by rw [hs]; exact hbv); rw [hs] at hcb; replace b2 := b2 ht0; replace b3 := b3 ht0; clear hbv)))); (go_ret2); (refine ⟨rfl, ?_⟩); (exact (HB7.out.trans ((spec_bw_below _ _ _).mono HB7.out.size)).setCell (by have := S7.out; show w.heap.size ≤ w7.heap.size; omega) _))
   ·rw [if_neg ct] at HH
    (obtain rfl := HH.out); (have hz1 : ¬ 9223372036854775807 < a0_0.size + (a0_1.extract 0 a1.toNat).size := by rw [hs]; omega); (have hz2 : ¬ 9223372036854775807 < a0_0.size + a1.toNat := by omega)
    have hcond : a2 = false ∨ (a2 = true ∧ a1 = 0) := by
     (cases a2); (· (exact .inl rfl)); (· (exact .inr ⟨rfl, by have : ¬ 0 < a1 := fun h => ct ⟨rfl, h⟩; omega⟩))
    (rcases hcond with rfl | ⟨rfl, ha⟩); (· (go_enter Tryd.func24, Tryd.ntmps24); (go_wp2_with (first | (go_at_call 42; (refine (spec_l27Log.calls k a0_0 a0_1 a0_2 true _ A3.out).mono ?_; rintro e w6 ⟨rfl, hb⟩; have HB6 := Aside0.mk (below_step (by repeat (first | exact HB.out | apply bA | apply bN | apply bD)) hb); have g0 : w6.cell? ⟨w.heap.size, 0, none⟩ = some (.string a0_0) := (hb.cell (p := ⟨w.heap.size, 0, none⟩) (by simp)).trans (by simp); have g1 : w6.cell? ⟨w.heap.size, 1, none⟩ = some (.string a0_1) := (hb.cell (p := ⟨w.heap.size, 1, none⟩) (by simp)).trans (by simp); have S6 := Aside0.mk (Nat.lt_of_lt_of_le (by simp : w.heap.size < _) hb.size); clear hb)) | (go_at_call 31; (refine (spec_l1In.calls a1 0 (a0_1.size : Int) true _ HA4.out).mono ?_; rintro e w7 ⟨rfl, hdr⟩; have hb7 : Below w6.heap.size w6 w7 := (by obtain ⟨nd, e⟩ := hdr; rw [e]; exact pw_below_drewN (Below.refl _ _) nd); clear hdr; replace g0 := (hb7.cell (p := ⟨w.heap.size, 0, none⟩) S6.out).trans g0; replace g1 := (hb7.cell (p := ⟨w.heap.size, 1, none⟩) S6.out).trans g1; have S7 := Aside0.mk (Nat.lt_of_lt_of_le S6.out hb7.size); have HB7 := Aside0.mk (below_step HB6.out hb7); clear hb7; have b0 := (Lib.bytesWorld_old w7 5 (a0_1.extract 0 a1.toNat) ⟨w.heap.size, 0, none⟩ S7.out).trans g0; obtain ⟨bv, hbv⟩ : ∃ bv : Int, bv = (((a0_1.extract 0 a1.toNat).data.toList.getD (a1.toNat - 1) 0).toNat : Int) := ⟨_, rfl⟩; have b2 : 0 < a1 → (Lib.bytesWorld w7 5 (a0_1.extract 0 a1.toNat)).cell? ⟨w7.heap.size, a1.toNat - 1, none⟩ = some (.int .u8 bv) := (fun h0 => by rw [hbv]; exact Lib.bytesWorld_cell _ _ _ _ (by rw [hs]; omega)); have b3 : 0 < a1 → (Lib.bytesWorld w7 5 (a0_1.extract 0 a1.toNat)).frozen? ⟨w7.heap.size, a1.toNat - 1, none⟩ = false := (fun h0 => spec_bw_frozen _ _ _ _ (by rw [hs]; omega)); have v0 : 0 ≤ bv := (by omega); have v1 : bv ≤ 255 := (by rw [hbv]; have := ((a0_1.extract 0 a1.toNat).data.toList.getD (a1.toNat - 1) 0).toNat_lt; omega); have hcb := spec_conv_plain w7 (a0_1.extract 0 a1.toNat) (grownCap w7 a1.toNat 0 5); rw [hs] at hcb; clear hbv b2 b3)))); (go_ret2); (refine ⟨rfl, ?_⟩); (exact HB7.out.trans ((spec_bw_below _ _ _).mono HB7.out.size))); (· (have hgt : decide (a1 > 0) = false := decide_eq_false (by omega)); (have hgt2 : decide (0 < a1) = false := decide_eq_false (by omega)); (have hgt3 : ¬ 0 < a1 := by omega); clear ha; (go_enter Tryd.func24, Tryd.ntmps24); (go_wp2_with (first | (go_at_call 42; (refine (spec_l27Log.calls k a0_0 a0_1 a0_2 true _ A3.out).mono ?_; rintro e w6 ⟨rfl, hb⟩; have HB6 := Aside0.mk (below_step (by repeat (first | exact HB.out | apply bA | apply bN | apply bD)) hb); have g0 : w6.cell? ⟨w.heap.size, 0, none⟩ = some (.string a0_0) := (hb.cell (p := ⟨w.heap.size, 0, none⟩) (by simp)).trans (by simp); have g1 : w6.cell? ⟨w.heap.size, 1, none⟩ = some (.string a0_1) := (hb.cell (p := ⟨w.heap.size, 1, none⟩) (by simp)).trans (by simp); have S6 := Aside0.mk (Nat.lt_of_lt_of_le (by simp : w.heap.size < _) hb.size); clear hb)) | (go_at_call 31; (refine (spec_l1In.calls a1 0 (a0_1.size : Int) true _ HA4.out).mono ?_; rintro e w7 ⟨rfl, hdr⟩; have hb7 : Below w6.heap.size w6 w7 := (by obtain ⟨nd, e⟩ := hdr; rw [e]; exact pw_below_drewN (Below.refl _ _) nd); clear hdr; replace g0 := (hb7.cell (p := ⟨w.heap.size, 0, none⟩) S6.out).trans g0; replace g1 := (hb7.cell (p := ⟨w.heap.size, 1, none⟩) S6.out).trans g1; have S7 := Aside0.mk (Nat.lt_of_lt_of_le S6.out hb7.size); have HB7 := Aside0.mk (below_step HB6.out hb7); clear hb7; have b0 := (Lib.bytesWorld_old w7 5 (a0_1.extract 0 a1.toNat) ⟨w.heap.size, 0, none⟩ S7.out).trans g0; obtain ⟨bv, hbv⟩ : ∃ bv : Int, bv = (((a0_1.extract 0 a1.toNat).data.toList.getD (a1.toNat - 1) 0).toNat : Int) := ⟨_, rfl⟩; have b2 : 0 < a1 → (Lib.bytesWorld w7 5 (a0_1.extract 0 a1.toNat)).cell? ⟨w7.heap.size, a1.toNat - 1, none⟩ = some (.int .u8 bv) := (fun h0 => by rw [hbv]; exact Lib.bytesWorld_cell _ _ _ _ (by rw [hs]; omega)); have b3 : 0 < a1 → (Lib.bytesWorld w7 5 (a0_1.extract 0 a1.toNat)).frozen? ⟨w7.heap.size, a1.toNat - 1, none⟩ = false := (fun h0 => spec_bw_frozen _ _ _ _ (by rw [hs]; omega)); have v0 : 0 ≤ bv := (by omega); have v1 : bv ≤ 255 := (by rw [hbv]; have := ((a0_1.extract 0 a1.toNat).data.toList.getD (a1.toNat - 1) 0).toNat_lt; omega); have hcb := spec_conv_plain w7 (a0_1.extract 0 a1.toNat) (grownCap w7 a1.toNat 0 5); rw [hs] at hcb; clear hbv b2 b3)))); (go_ret2); (refine ⟨rfl, ?_⟩); (exact HB7.out.trans ((spec_bw_below _ _ _).mono HB7.out.size)))
  ·rw [if_neg c5] at H
   (simp only [Option.some.injEq, Prod.mk.injEq] at H); (obtain ⟨rfl, rfl⟩ := H); (have A4 : spec_l1In.f a1 0 (a0_1.size : Int) = some false := by rw [spec_in_eq, decide_eq_false c5]); (have HA4 := Aside0.mk A4); clear A4 c5; (go_enter Tryd.func24, Tryd.ntmps24); (go_wp2_with (first | (go_at_call 42; (refine (spec_l27Log.calls k a0_0 a0_1 a0_2 true _ A3.out).mono ?_; rintro e w6 ⟨rfl, hb⟩; have HB6 := Aside0.mk (below_step (by repeat (first | exact HB.out | apply bA | apply bN | apply bD)) hb); have g0 : w6.cell? ⟨w.heap.size, 0, none⟩ = some (.string a0_0) := (hb.cell (p := ⟨w.heap.size, 0, none⟩) (by simp)).trans (by simp); have g1 : w6.cell? ⟨w.heap.size, 1, none⟩ = some (.string a0_1) := (hb.cell (p := ⟨w.heap.size, 1, none⟩) (by simp)).trans (by simp); have S6 := Aside0.mk (Nat.lt_of_lt_of_le (by simp : w.heap.size < _) hb.size); clear hb)) | (go_at_call 31; (refine (spec_l1In.calls a1 0 (a0_1.size : Int) false _ HA4.out).mono ?_; rintro e w7 ⟨rfl, hdr⟩; have hb7 : Below w6.heap.size w6 w7 := (by obtain ⟨nd, e⟩ := hdr; rw [e]; exact pw_below_drewN (Below.refl _ _) nd); clear hdr; replace g0 := (hb7.cell (p := ⟨w.heap.size, 0, none⟩) S6.out).trans g0; replace g1 := (hb7.cell (p := ⟨w.heap.size, 1, none⟩) S6.out).trans g1; have S7 := Aside0.mk (Nat.lt_of_lt_of_le S6.out hb7.size); have HB7 := Aside0.mk (below_step HB6.out hb7))))); (go_ret2); (exact ⟨rfl, HB7.out⟩)
 ·replace c4 := Bool.eq_false_iff.mpr c4
  subst c4; (rw [if_neg (show ¬ (false = true) by decide)] at H); (simp only [Option.some.injEq, Prod.mk.injEq] at H); (obtain ⟨rfl, rfl⟩ := H); (go_enter Tryd.func24, Tryd.ntmps24); (go_wp2_with ((go_at_call 42; (refine (spec_l27Log.calls k a0_0 a0_1 a0_2 false _ A3.out).mono ?_; rintro e w6 ⟨rfl, hb⟩; have HB6 := Aside0.mk (below_step (by repeat (first | exact HB.out | apply bA | apply bN | apply bD)) hb); have g0 : w6.cell? ⟨w.heap.size, 0, none⟩ = some (.string a0_0) := (hb.cell (p := ⟨w.heap.size, 0, none⟩) (by simp)).trans (by simp); have g1 : w6.cell? ⟨w.heap.size, 1, none⟩ = some (.string a0_1) := (hb.cell (p := ⟨w.heap.size, 1, none⟩) (by simp)).trans (by simp); have S6 := Aside0.mk (Nat.lt_of_lt_of_le (by simp : w.heap.size < _) hb.size); clear hb)))); (go_ret2); (exact ⟨rfl, HB6.out⟩)

end Go.Proofs.YtkdibcifamlciaaDoor.X
namespace Go.Proofs.YtkdibcifamlciaaDoor.X
open Go.RowKit Go.Proofs.YtkdibcifamlciaaDoorW.PrintWords Go.Proofs.YtkdibcifamlciaaDoorW.PrintLast Go.Proofs.YtkdibcifamlciaaDoorW.PrintMore
attribute [local go_sem] max2_int min2_int max_two min_two max_three min_three max_four min_four   -- for this text's walks alone
set_option linter.unusedVariables false
set_option linter.unusedSimpArgs false
attribute [-simp] ByteArray.size_append ByteArray.size_extract
attribute [-go_sem] ByteArray.size_append'

/-! ### spec_LogRecords: function 25 -/
def spec_LogRecords.f (k : Nat) (a0_0 : ByteArray) (a0_1 : ByteArray) (a0_2 : Int) : Option ((List (S25)) × Bool) := (spec_l27Log.f k a0_0 a0_1 a0_2).bind fun t102 => (if t102 = true then (if a0_0.size + a0_1.size ≤ 9223372036854775807 then ((spec_l27Open.f k (a0_0 ++ a0_1)).bind fun bt103 => (some (bt103.1, true))) else (none)) else (some ((([] : List (S25))), false)))
set_option maxHeartbeats 8000000 in
set_option maxRecDepth 100000 in
theorem spec_LogRecords.calls (k : Nat) (a0_0 : ByteArray) (a0_1 : ByteArray) (a0_2 : Int) (r1 : List (S25)) (r2 : Bool) (w : World) (h : spec_LogRecords.f k a0_0 a0_1 a0_2 = some (r1, r2)) :
  Calls Tryd.prog 25 #[.agg #[.string a0_0, .string a0_1, .int .i64 a0_2]] w fun e w' => ∃ v0_ : Value, e = .returned (.tuple #[v0_, .bool r2]) ∧ Kd.R k25 25 w' w.heap.size (fun _ => True) v0_ r1 ∧ Below w.heap.size w w' := by
 (have hu32 := Tryd.underlying32); (have HB := Aside0.mk (Below.refl w.heap.size w)); (unfold spec_LogRecords.f at h); (have H := h); clear h; (replace H := obS H); (obtain ⟨t102, A2, H⟩ := H); (by_cases c3 : t102 = true)
 ·subst c3
  (rw [if_pos rfl] at H); (by_cases c4 : a0_0.size + a0_1.size ≤ 9223372036854775807)
  ·rw [if_pos c4] at H
   (have c4b0 := eq_true c4); (have c4b1 := decide_eq_true c4); (try have c4b2 : (9223372036854775807 < a0_0.size + a0_1.size) = False := eq_false (Nat.not_lt.2 c4)); (replace H := obS H); (obtain ⟨⟨t103, t104⟩, A5, H⟩ := H); (replace H : (some (t103, true)) = some (r1, r2) := H); (simp only [Option.some.injEq, Prod.mk.injEq] at H); (obtain ⟨rfl, rfl⟩ := H); (go_enter Tryd.func25, Tryd.ntmps25); (go_wp2_with (first | ((with_reducible refine gate_dst (N := 1) rfl ?_); refine box_event ?hg (N := 1) ?hd (cs := #[.string a0_0, .string a0_1, .int .i64 a0_2]) (t := 32) ?hr ?_; (case hd => rfl); (case hg => rfl); (case hr => first | (go_simp; done) | (go_simp; rfl)); intro gb101 hg w6 hbox hb; have hB_ := zI hb HB; have n0_ := Aside0.mk (below_step hB_ hb); have n1_ := Aside0.mk (hbox); have n2_ := Aside0.mk (bx0 hg hB_); have n3_ := n2_; clear HB; have HB := n0_; have BK101 := n1_; have GW101 := n2_; have GE101 := n3_; clear n0_ n1_ n2_ n3_ hB_ hb hbox hg; have hcz7_0 := cz BK101.out 0; have hcz7_1 := cz BK101.out 1; have hcz7_2 := cz BK101.out 2; have hfz7_0 := blk_frozen BK101.out 0; have hfz7_1 := blk_frozen BK101.out 1; have hfz7_2 := blk_frozen BK101.out 2) | ((with_reducible refine gate_callee (f := 42) rfl ?_); refine gL (some 7) Tryd.func42 #[.agg #[.string a0_0, .string a0_1, .int .i64 a0_2]] ?_; (with_reducible refine (spec_l27Log.calls k a0_0 a0_1 a0_2 true _ A2.out).mono ?_); rintro e w8 ⟨rfl, hb⟩; refine ⟨_, rfl, ?_⟩; have n0_ := Aside0.mk (kbI hb BK101); have n1_ := Aside0.mk (sI hb HB); clear BK101 HB; have BK101 := n0_; have HB := n1_; clear n0_ n1_; (try clear hb); (try clear hb2); (try clear hk); (try clear hi); have hcz9_0 := cz BK101.out 0; have hcz9_1 := cz BK101.out 1; have hcz9_2 := cz BK101.out 2; have hfz9_0 := blk_frozen BK101.out 0; have hfz9_1 := blk_frozen BK101.out 1; have hfz9_2 := blk_frozen BK101.out 2) | ((with_reducible refine gate_callee (f := 39) rfl ?_); refine gL (some 16) Tryd.func39 #[.string (a0_0 ++ a0_1)] ?_; (with_reducible refine (spec_l27Open.calls k (a0_0 ++ a0_1) t103 t104 _ A5.out).mono ?_); rintro e w10 ⟨v105, rfl, ho0, hb⟩; refine ⟨_, rfl, ?_⟩; have n0_ := Aside0.mk (Kd.R_lower ho0 (below_size (eI HB))); have n1_ := Aside0.mk (kbI hb BK101); have n2_ := Aside0.mk (sI hb HB); clear BK101 HB; have HO106 := n0_; have BK101 := n1_; have HB := n2_; clear n0_ n1_ n2_; (try clear hb); (try clear hb2); (try clear hk); (try clear hi); (try clear ho0)))); (go_ret2); (exact ⟨_, by first | rfl | (simp [errW_none, errW_some] <;> rfl) | (simp [*, errW_none, errW_some] <;> rfl), rI HO106, eI HB⟩)
  ·rw [if_neg c4] at H
   exact absurd H (by simp)
 ·replace c3 := Bool.eq_false_iff.mpr c3
  subst c3; (rw [if_neg (show ¬ (false = true) by decide)] at H); (obtain ⟨y107, hy107⟩ : ∃ y_ : List (S25), y_ = (([] : List (S25))) := ⟨_, rfl⟩); (replace H : (some (y107, false)) = some (r1, r2) := by first | (rw [hy107]; with_reducible exact H) | (have H2_ := (Option.bind_some _ _).symm.trans H; rw [hy107]; with_reducible exact H2_) | (have H2_ := (Option.bind_some _ _).symm.trans H; with_reducible exact H2_) | with_reducible exact H | (rw [hy107]; exact H) | exact H); (have Ny107 := Aside0.mk hy107); clear hy107; (simp only [Option.some.injEq, Prod.mk.injEq] at H); (obtain ⟨rfl, rfl⟩ := H); (go_enter Tryd.func25, Tryd.ntmps25); (go_wp2_with (first | ((with_reducible refine gate_dst (N := 1) rfl ?_); refine box_event ?hg (N := 1) ?hd (cs := #[.string a0_0, .string a0_1, .int .i64 a0_2]) (t := 32) ?hr ?_; (case hd => rfl); (case hg => rfl); (case hr => first | (go_simp; done) | (go_simp; rfl)); intro gb101 hg w11 hbox hb; have hB_ := zI hb HB; have n0_ := Aside0.mk (below_step hB_ hb); have n1_ := Aside0.mk (hbox); have n2_ := Aside0.mk (bx0 hg hB_); have n3_ := n2_; clear HB; have HB := n0_; have BK101 := n1_; have GW101 := n2_; have GE101 := n3_; clear n0_ n1_ n2_ n3_ hB_ hb hbox hg; have hcz12_0 := cz BK101.out 0; have hcz12_1 := cz BK101.out 1; have hcz12_2 := cz BK101.out 2; have hfz12_0 := blk_frozen BK101.out 0; have hfz12_1 := blk_frozen BK101.out 1; have hfz12_2 := blk_frozen BK101.out 2) | ((with_reducible refine gate_callee (f := 42) rfl ?_); refine gL (some 7) Tryd.func42 #[.agg #[.string a0_0, .string a0_1, .int .i64 a0_2]] ?_; (with_reducible refine (spec_l27Log.calls k a0_0 a0_1 a0_2 false _ A2.out).mono ?_); rintro e w13 ⟨rfl, hb⟩; refine ⟨_, rfl, ?_⟩; have n0_ := Aside0.mk (kbI hb BK101); have n1_ := Aside0.mk (sI hb HB); clear BK101 HB; have BK101 := n0_; have HB := n1_; clear n0_ n1_; (try clear hb); (try clear hb2); (try clear hk); (try clear hi)) | ((with_reducible refine gate_dst (N := 9) rfl ?_); refine Kd.R_lit k25 _ 25 ?hg (N := 9) ?hd (xs := ([] : List (S25))) (inner := []) (ok := fun _ => True) (okp := fun _ => True) ?hr ?hp (fun _ hk => hk) trivial (Below.refl _ _) (Nat.le_refl _) (by simp) ?_; (case hd => rfl); (case hg => rfl); (case hr => first | (go_simp; done) | (go_simp; rfl)); (case hp => exact (Reps.none _ _)); intro v108 w14 ho15 hb hg_ hnew_; clear hg_ hnew_; (first | rw [← Ny107.out] at ho15 | (simp only [Int.reduceToNat] at ho15; rw [← Ny107.out] at ho15)); have hB_ := zI hb HB; have n0_ := Aside0.mk (Kd.R_lower ho15 (below_size hB_)); have n1_ := Aside0.mk (kbI hb BK101); have n2_ := Aside0.mk (below_step hB_ hb); clear BK101 HB; have HO109 := n0_; have BK101 := n1_; have HB := n2_; clear n0_ n1_ n2_ hB_ hb ho15))); (go_ret2); (exact ⟨_, by first | rfl | (simp [errW_none, errW_some] <;> rfl) | (simp [*, errW_none, errW_some] <;> rfl), rI HO109, eI HB⟩)
/-! ### laws_vBig: function 6 -/
def laws_vBig.f (l0 : List Int) : Option (Bool) := some (decide ((l0.length : Int) > 65536))
set_option maxHeartbeats 8000000 in
set_option maxRecDepth 100000 in
theorem laws_vBig.calls (A0 : Option Addr) (c0 : Nat) (l0 : List Int) (r : Bool) (w : World) (hr0 : Kd.C (Kd.int .u8) w A0 l0.length l0) (hc0 : l0.length ≤ c0) (h : laws_vBig.f l0 = some r) :
  Calls Tryd.prog 6 #[.slice A0 l0.length c0] w fun e w' => e = .returned (.bool r) ∧ Drawn0 w w' := by
 (have HR0 := Aside0.mk hr0); (have HC0 := Aside0.mk hc0); clear hr0 hc0; (unfold laws_vBig.f at h); (have H := h); clear h; (obtain rfl := Option.some.inj H); (go_enter Tryd.func6, Tryd.ntmps6); (go_wp2); go_ret; (exact ⟨by first | rfl | (simp; done) | (simp [*]; done), by repeat (first | exact Drawn0.refl _ | apply Drawn0.step)⟩)
theorem eqA25 (d : Nat) (w : World) (x0 y0 : ByteArray) (x1 y1 : ByteArray) :
  (Op.equalIn (d + 2) 25 (.agg #[.string x0, .string x1]) (.agg #[.string y0, .string y1])).run Tryd.prog w = .ok (x0.toList == y0.toList && (x1.toList == y1.toList)) w := by
 refine eqA_of Tryd.underlying25 (by kernel_rfl) ?_
 refine eqf_cons (by rfl) (by go_simp; rfl) (by go_simp; rfl) (by go_simp) ?_
 exact eqf_last (by rfl) (by go_simp; rfl) (by go_simp; rfl) (by go_simp)
end Go.Proofs.YtkdibcifamlciaaDoor.X
namespace Go.Proofs.YtkdibcifamlciaaDoor.X
open Go.RowKit Go.Proofs.YtkdibcifamlciaaDoorW.PrintWords Go.Proofs.YtkdibcifamlciaaDoorW.PrintLast Go.Proofs.YtkdibcifamlciaaDoorW.PrintMore
attribute [local go_sem] max2_int min2_int max_two min_two max_three min_three max_four min_four   -- for this text's walks alone
set_option linter.unusedVariables false
set_option linter.unusedSimpArgs false
attribute [-simp] ByteArray.size_append ByteArray.size_extract
attribute [-go_sem] ByteArray.size_append'

attribute [local go_sem high] eqA25
/-! ### laws_FnCrashRecovery: function 5 -/
mutual
def laws_FnCrashRecovery.j0 : Nat → ByteArray → Bool → Bool → ByteArray → ByteArray → Int → Option (Bool)
 | 0, _, _, _, _, _, _ => none
 | k + 1, x6, x7, x47, x108000, x108001, x108002 => if x47 = true then (some false) else (if x7 = true then ((impl_RecoverLog.f k x6).bind fun bt112 => ((impl_LogRecords.f k bt112.1 bt112.2.1 bt112.2.2.1).bind fun bt118 => ((spec_LogRecords.f k x108000 x108001 x108002).bind fun bt122 => (if bt112.2.2.2.2 = true then (if bt112.2.2.2.1 > (x6.size : Int) then (laws_FnCrashRecovery.j1 k x6 bt112.2.2.2.1 bt118.1 bt122.1 true bt112.1 bt112.2.1 bt112.2.2.1) else (if bt112.2.2.2.1 < (x108000.size : Int) then (laws_FnCrashRecovery.j1 k x6 bt112.2.2.2.1 bt118.1 bt122.1 true bt112.1 bt112.2.1 bt112.2.2.1) else (laws_FnCrashRecovery.j1 k x6 bt112.2.2.2.1 bt118.1 bt122.1 (decide ((bt118.1.length : Int) > (bt122.1.length : Int))) bt112.1 bt112.2.1 bt112.2.2.1))) else (laws_FnCrashRecovery.j1 k x6 bt112.2.2.2.1 bt118.1 bt122.1 true bt112.1 bt112.2.1 bt112.2.2.1))))) else (some (x6.toList == ([] : List UInt8))))
def laws_FnCrashRecovery.j1 : Nat → ByteArray → Int → List (S25) → List (S25) → Bool → ByteArray → ByteArray → Int → Option (Bool)
 | 0, _, _, _, _, _, _, _, _ => none
 | k + 1, x6, x11, x13, x15, x89, x118000, x118001, x118002 => if x89 = true then (some false) else (laws_FnCrashRecovery.l0 k x6 x11 x13 x15 0 x118000 x118001 x118002)
def laws_FnCrashRecovery.l0 : Nat → ByteArray → Int → List (S25) → List (S25) → Int → ByteArray → ByteArray → Int → Option (Bool)
 | 0, _, _, _, _, _, _, _, _ => none
 | k + 1, x6, x11, x13, x15, x17, x118000, x118001, x118002 => if x17 < (x13.length : Int) then (if 0 ≤ x17 then (if x17 < (x15.length : Int) then (if (!((((rd_T25 x13 x17).f0).toList) == (((rd_T25 x15 x17).f0).toList)) || (!((((rd_T25 x13 x17).f1).toList) == (((rd_T25 x15 x17).f1).toList)))) = true then (some false) else (laws_FnCrashRecovery.l0 k x6 x11 x13 x15 (wrap64 (x17 + 1)) x118000 x118001 x118002)) else (none)) else (none)) else ((impl_IsValidLog.f k x118000 x118001 x118002).bind fun t128 => (if t128 = true then (if 0 ≤ x11 then (if x11 ≤ (x6.size : Int) then (some (x118000.toList == (x6.extract 0 (x11 : Int).toNat).toList)) else (none)) else (none)) else (some false)))
end
def laws_FnCrashRecovery.f (k : Nat) (l0 : List Int) : Option (Bool) := (laws_vBig.f l0).bind fun t101 => (if t101 = true then (some true) else ((spec_DrawCrashLog.f k l0).bind fun bt102 => ((impl_CrashLog.f k bt102.1 bt102.2.1 bt102.2.2.1 bt102.2.2.2.1 bt102.2.2.2.2).bind fun bt108 => ((spec_CrashLog.f k bt102.1 bt102.2.1 bt102.2.2.1 bt102.2.2.2.1 bt102.2.2.2.2).bind fun bt110 => (if bt108.1.toList = bt110.1.toList then (laws_FnCrashRecovery.j0 k bt108.1 bt108.2 (bt108.2 != bt110.2) bt102.1 bt102.2.1 bt102.2.2.1) else (laws_FnCrashRecovery.j0 k bt108.1 bt108.2 true bt102.1 bt102.2.1 bt102.2.2.1))))))
def laws_FnCrashRecovery.T18 : Bool × List (List Nat × List Nat) := (true, [([], []), ([], []), ([0, 1], [0, 1]), ([2], [2]), ([], []), ([], []), ([4, 5], [4, 5]), ([6], [6]), ([3, 7], [3, 7])])
def laws_FnCrashRecovery.B18 : List Nat := [0, 0, 3, 7, 0, 0, 48, 112, 255]
theorem laws_FnCrashRecovery.tab18 : rtab .any (opsOf Tryd.f5 18) = laws_FnCrashRecovery.T18 := by kernel_rfl
theorem laws_FnCrashRecovery.bits18 : waitsOk laws_FnCrashRecovery.T18.2 laws_FnCrashRecovery.B18 = true := by kernel_rfl
def laws_FnCrashRecovery.T20 : Bool × List (List Nat × List Nat) := (true, [([], []), ([0], [0]), ([1, 1], [1]), ([2], [2]), ([3, 2], [2, 3]), ([2], [2]), ([2], [2]), ([5, 6, 2], [2, 5, 6]), ([4, 7, 2], [2, 4, 7]), ([2, 8], [2, 8]), ([9, 2, 0, 1, 2, 3, 4, 5, 6, 7, 8, 9], [9])])
def laws_FnCrashRecovery.B20 : List Nat := [0, 1, 3, 7, 15, 7, 7, 103, 255, 511, 1023]
theorem laws_FnCrashRecovery.tab20 : rtab .any (opsOf Tryd.f5 20) = laws_FnCrashRecovery.T20 := by kernel_rfl
theorem laws_FnCrashRecovery.bits20 : waitsOk laws_FnCrashRecovery.T20.2 laws_FnCrashRecovery.B20 = true := by kernel_rfl
set_option maxHeartbeats 8000000 in
set_option maxRecDepth 100000 in
theorem laws_FnCrashRecovery.calls (k : Nat) (A0 : Option Addr) (c0 : Nat) (l0 : List Int) (r : Bool) (w : World) (hr0 : Kd.C (Kd.int .u8) w A0 l0.length l0) (hc0 : l0.length ≤ c0) (hG : GT w) (h : laws_FnCrashRecovery.f k l0 = some r) (ht_ : Aside0 (r = true)) :
  Calls Tryd.prog 5 #[.slice A0 l0.length c0] w fun e w' => e = .returned (.bool r) ∧ Below w.heap.size w w' := by
 (have hu32 := Tryd.underlying32); (have hu25 := Tryd.underlying25); (have HR0 := Aside0.mk hr0); (have HC0 := Aside0.mk hc0); clear hr0 hc0; (have HG := Aside0.mk hG); clear hG; (have HB := Aside0.mk (Below.refl w.heap.size w)); (have H : ((laws_vBig.f l0).bind fun t101 => (if t101 = true then (some true) else ((spec_DrawCrashLog.f k l0).bind fun bt102 => ((impl_CrashLog.f k bt102.1 bt102.2.1 bt102.2.2.1 bt102.2.2.2.1 bt102.2.2.2.2).bind fun bt108 => ((spec_CrashLog.f k bt102.1 bt102.2.1 bt102.2.2.1 bt102.2.2.2.1 bt102.2.2.2.2).bind fun bt110 => (if bt108.1.toList = bt110.1.toList then (laws_FnCrashRecovery.j0 k bt108.1 bt108.2 (bt108.2 != bt110.2) bt102.1 bt102.2.1 bt102.2.2.1) else (laws_FnCrashRecovery.j0 k bt108.1 bt108.2 true bt102.1 bt102.2.1 bt102.2.2.1))))))) = some r := h); clear h; (replace H := Option.bind_eq_some_iff.mp H); (obtain ⟨t101, A20, H⟩ := H); (have A2 := Aside0.mk A20); clear A20; (by_cases c3 : t101 = true); (· subst c3; (rw [if_pos rfl] at H); (obtain rfl := Option.some.inj H); (go_enter Tryd.func5, Tryd.ntmps5); (go_wp2_with (first | ((with_reducible refine gate_callee (f := 6) rfl ?_); refine gL (some 19) Tryd.func6 #[.slice A0 l0.length c0] ?_; (with_reducible refine (laws_vBig.calls _ _ l0 true _ ?side1 ?side2 A2.out).mono ?_); (case side1 => repeat (first | exact HR0.out | (with_reducible first | refine cA ?_ _ | refine cN ?_ _ | refine cD ?_))); (case side2 => exact HC0.out); rintro e w' ⟨rfl, ⟨nd, rfl⟩⟩; refine ⟨_, rfl, ?_⟩))); go_ret; (exact ⟨by first | rfl | (simp [errW_none, errW_some] <;> rfl) | (simp [*, errW_none, errW_some] <;> rfl), by repeat (first | (with_reducible first | exact HB.out | apply bA | apply bN | apply bD) | exact HB.out)⟩))
 ·replace c3 := Bool.eq_false_iff.mpr c3
  subst c3; (rw [if_neg (show ¬ (false = true) by decide)] at H); (replace H := Option.bind_eq_some_iff.mp H); (obtain ⟨⟨t102, t103, t104, t105, t106⟩, A40, H⟩ := H); (replace H : ((impl_CrashLog.f k t102 t103 t104 t105 t106).bind fun bt108 => ((spec_CrashLog.f k t102 t103 t104 t105 t106).bind fun bt110 => (if bt108.1.toList = bt110.1.toList then (laws_FnCrashRecovery.j0 k bt108.1 bt108.2 (bt108.2 != bt110.2) t102 t103 t104) else (laws_FnCrashRecovery.j0 k bt108.1 bt108.2 true t102 t103 t104)))) = some r := H); (have A4 := Aside0.mk A40); clear A40; (replace H := Option.bind_eq_some_iff.mp H); (obtain ⟨⟨t108, t109⟩, A50, H⟩ := H); (replace H : ((spec_CrashLog.f k t102 t103 t104 t105 t106).bind fun bt110 => (if t108.toList = bt110.1.toList then (laws_FnCrashRecovery.j0 k t108 t109 (t109 != bt110.2) t102 t103 t104) else (laws_FnCrashRecovery.j0 k t108 t109 true t102 t103 t104))) = some r := H); (have A5 := Aside0.mk A50); clear A50; (replace H := Option.bind_eq_some_iff.mp H); (obtain ⟨⟨t110, t111⟩, A60, H⟩ := H); (replace H : (if t108.toList = t110.toList then (laws_FnCrashRecovery.j0 k t108 t109 (t109 != t111) t102 t103 t104) else (laws_FnCrashRecovery.j0 k t108 t109 true t102 t103 t104)) = some r := H); (have A6 := Aside0.mk A60); clear A60; (have HC7 := Aside0.mk H); clear H; (go_enter Tryd.func5, Tryd.ntmps5)
  (go_upto_region 6 with (first | ((with_reducible refine gate_callee (f := 6) rfl ?_); refine gL (some 19) Tryd.func6 #[.slice A0 l0.length c0] ?_; (with_reducible refine (laws_vBig.calls _ _ l0 false _ ?side1 ?side2 A2.out).mono ?_); (case side1 => repeat (first | exact HR0.out | (with_reducible first | refine cA ?_ _ | refine cN ?_ _ | refine cD ?_))); (case side2 => exact HC0.out); rintro e w' ⟨rfl, ⟨nd, rfl⟩⟩; refine ⟨_, rfl, ?_⟩) | ((with_reducible refine gate_callee (f := 22) rfl ?_); refine gL (some 22) Tryd.func22 #[.slice A0 l0.length c0] ?_; (with_reducible refine (spec_DrawCrashLog.calls k _ _ l0 t102 t103 t104 t105 t106 _ ?side1 ?side2 A4.out).mono ?_); (case side1 => repeat (first | exact HR0.out | (with_reducible first | refine cA ?_ _ | refine cN ?_ _ | refine cD ?_))); (case side2 => exact HC0.out); rintro e w8 ⟨rfl, hb⟩; refine ⟨_, rfl, ?_⟩; have n0_ := Aside0.mk (below_step (by repeat (first | (with_reducible first | exact HB.out | apply bA | apply bN | apply bD) | exact HB.out)) hb); clear HB; have HB := n0_; clear n0_; (try clear hb); (try clear hb2); (try clear hk); (try clear hi)) | ((with_reducible refine gate_dst (N := 3) rfl ?_); refine box_event ?hg (N := 3) ?hd (cs := #[.string (⟨#[]⟩ : ByteArray), .string (⟨#[]⟩ : ByteArray), .int .i64 0]) (t := 32) ?hr ?_; (case hd => rfl); (case hg => rfl); (case hr => first | (go_simp; done) | (go_simp; rfl)); intro gb107 hg w9 hbox hb; have hB_ := bz (by repeat (first | (with_reducible first | exact HB.out | apply bA | apply bN | apply bD) | exact HB.out)) hb; have n0_ := Aside0.mk (below_step hB_ hb); have n1_ := Aside0.mk (hbox); have n2_ := Aside0.mk ((by rw [hg]; exact (below_size hB_) : w.heap.size ≤ gb107)); have n3_ := n2_; clear HB; have HB := n0_; have BK107 := n1_; have GW107 := n2_; have GE107 := n3_; clear n0_ n1_ n2_ n3_ hB_ hb hbox hg; have hcz10_0 := cz BK107.out 0; have hcz10_1 := cz BK107.out 1; have hcz10_2 := cz BK107.out 2; have hfz10_0 := blk_frozen BK107.out 0; have hfz10_1 := blk_frozen BK107.out 1; have hfz10_2 := blk_frozen BK107.out 2) | ((with_reducible refine gate_callee (f := 23) rfl ?_); refine gL (some 30) Tryd.func23 #[.agg #[.string t102, .string t103, .int .i64 t104], .int .i64 t105, .bool t106] ?_; (with_reducible refine (impl_CrashLog.calls k t102 t103 t104 t105 t106 t108 t109 _ ?side1 A5.out).mono ?_); (case side1 => first | exact GT.below HG.out (by repeat (first | (with_reducible first | exact HB.out | apply bA | apply bN | apply bD | refine below_set ?_ GE107.out) | exact HB.out)) | (repeat (first | exact HG.out | (with_reducible first | apply GT.drewN | apply GT.drew | apply GT.alloc)))); rintro e w11 ⟨rfl, hb⟩; refine ⟨_, rfl, ?_⟩; have n0_ := Aside0.mk (blk_below (g := gb107) (o := .cells #[.string t102, .string t103, .int .i64 t104] 32 (0, 0)) (by (with_reducible repeat (first | refine kN ?_ _ | refine kD ?_ | refine kA ?_ _)); refine blk_put (cs := #[.string t102, .string t103, .int .i64 0]) ?_ 2 _ rfl; (with_reducible repeat (first | refine kN ?_ _ | refine kD ?_ | refine kA ?_ _)); refine blk_put (cs := #[.string t102, .string (⟨#[]⟩ : ByteArray), .int .i64 0]) ?_ 1 _ rfl; (with_reducible repeat (first | refine kN ?_ _ | refine kD ?_ | refine kA ?_ _)); refine blk_put (cs := #[.string (⟨#[]⟩ : ByteArray), .string (⟨#[]⟩ : ByteArray), .int .i64 0]) ?_ 0 _ rfl; (with_reducible repeat (first | refine kN ?_ _ | refine kD ?_ | refine kA ?_ _)); exact BK107.out) hb); have n1_ := Aside0.mk (below_step (by repeat (first | (with_reducible first | exact HB.out | apply bA | apply bN | apply bD | refine below_set ?_ GE107.out) | exact HB.out)) hb); clear BK107 HB; have BK107 := n0_; have HB := n1_; clear n0_ n1_; (try clear hb); (try clear hb2); (try clear hk); (try clear hi); have hcz12_0 := cz BK107.out 0; have hcz12_1 := cz BK107.out 1; have hcz12_2 := cz BK107.out 2; have hfz12_0 := blk_frozen BK107.out 0; have hfz12_1 := blk_frozen BK107.out 1; have hfz12_2 := blk_frozen BK107.out 2) | ((with_reducible refine gate_callee (f := 24) rfl ?_); refine gL (some 37) Tryd.func24 #[.agg #[.string t102, .string t103, .int .i64 t104], .int .i64 t105, .bool t106] ?_; (with_reducible refine (spec_CrashLog.calls k t102 t103 t104 t105 t106 t110 t111 _ A6.out).mono ?_); rintro e w13 ⟨rfl, hb⟩; refine ⟨_, rfl, ?_⟩; have n0_ := Aside0.mk (blk_below (by (with_reducible repeat (first | refine kN ?_ _ | refine kD ?_ | refine kA ?_ _)); exact BK107.out) hb); have n1_ := Aside0.mk (below_step (by repeat (first | (with_reducible first | exact HB.out | apply bA | apply bN | apply bD | refine below_set ?_ GE107.out) | exact HB.out)) hb); clear BK107 HB; have BK107 := n0_; have HB := n1_; clear n0_ n1_; (try clear hb); (try clear hb2); (try clear hk); (try clear hi)))); ((try simp only [Act.put, aS1, aS2, aS3])); (go_cut [47] (fun v47 wc => ∃ (kq : Nat) (x47_6 : Bool), v47 = .bool x47_6 ∧ Aside0 (laws_FnCrashRecovery.j0 kq t108 t109 x47_6 t102 t103 t104 = some r) ∧ Aside0 (kq ≤ k) ∧ Aside0 (wc.heap[gb107]? = some (.cells #[.string t102, .string t103, .int .i64 t104] 32 (0, 0))) ∧ Aside0 (Below w.heap.size w wc)))
  case first =>
   (have H := HC7.out); clear HC7; (by_cases c14 : t108.toList = t110.toList)
   ·rw [if_pos c14] at H
    (have c14b0 : (t108.toList == t110.toList) = true := beq_iff_eq.mpr c14); (have c14b1 : (t108.toList != t110.toList) = false := bne_eq_false_iff_eq.mpr c14); clear c14; ((first | rw [c14b0] | (simp only [i64_w, i32_w]; rw [c14b0]) | skip)); (have H' := Aside0.mk H); clear H; (go_wp2); (go_meet)
    case rel => exact ⟨_, ((t109 != t111)), (by first | rfl | (simp; done) | (simp [*]; done)), H', ⟨by first | omega | exact Nat.le_refl _⟩, ⟨by (with_reducible repeat (first | refine kN ?_ _ | refine kD ?_ | refine kA ?_ _)); exact BK107.out⟩, ⟨by repeat (first | (with_reducible first | exact HB.out | apply bA | apply bN | apply bD | refine below_set ?_ GE107.out) | exact HB.out)⟩⟩
   ·rw [if_neg c14] at H
    (have c14b0 : (t108.toList == t110.toList) = false := beq_eq_false_iff_ne.mpr c14); (have c14b1 : (t108.toList != t110.toList) = true := bne_iff_ne.mpr c14); ((first | rw [c14b0] | (simp only [i64_w, i32_w]; rw [c14b0]) | skip)); (have H' := Aside0.mk H); clear H; (go_wp2); (go_meet)
    case rel => exact ⟨_, (true), (by first | rfl | (simp; done) | (simp [*]; done)), H', ⟨by first | omega | exact Nat.le_refl _⟩, ⟨by (with_reducible repeat (first | refine kN ?_ _ | refine kD ?_ | refine kA ?_ _)); exact BK107.out⟩, ⟨by repeat (first | (with_reducible first | exact HB.out | apply bA | apply bN | apply bD | refine below_set ?_ GE107.out) | exact HB.out)⟩⟩
  case rest =>
   clear HC7; (try clear c1); (try clear c2); (try clear p2); (try clear c3); (try clear c5); (try clear c6); (try clear c14); (try clear c14b0); (try clear c14b1); (try clear hcz10_0); (try clear hcz10_1); (try clear hcz10_2); (try clear hcz12_0); (try clear hcz12_1); (try clear hcz12_2); (try clear hfz10_0); (try clear hfz10_1); (try clear hfz10_2); (try clear hfz12_0); (try clear hfz12_1); (try clear hfz12_2); (obtain ⟨kq, x47_6, rfl, HA, HJ6, BK107, HB⟩ := hcut)
   cases kq with
   | zero => exact absurd HA.out (by simp [laws_FnCrashRecovery.j0])
   | succ kj6 =>
    (have H := HA.out); clear HA; (simp only [laws_FnCrashRecovery.j0] at H); (by_cases c15 : x47_6 = true); (· subst c15; (rw [if_pos rfl] at H); (obtain rfl := Option.some.inj H); (exact absurd ht_.out (by decide)))
    ·replace c15 := Bool.eq_false_iff.mpr c15
     subst c15; (rw [if_neg (show ¬ (false = true) by decide)] at H); (by_cases c16 : t109 = true)
     ·subst c16
      (rw [if_pos rfl] at H); (replace H := Option.bind_eq_some_iff.mp H); (obtain ⟨⟨t112, t113, t114, t115, t116⟩, A170, H⟩ := H); (replace H : ((impl_LogRecords.f kj6 t112 t113 t114).bind fun bt118 => ((spec_LogRecords.f kj6 t102 t103 t104).bind fun bt122 => (if t116 = true then (if t115 > (t108.size : Int) then (laws_FnCrashRecovery.j1 kj6 t108 t115 bt118.1 bt122.1 true t112 t113 t114) else (if t115 < (t102.size : Int) then (laws_FnCrashRecovery.j1 kj6 t108 t115 bt118.1 bt122.1 true t112 t113 t114) else (laws_FnCrashRecovery.j1 kj6 t108 t115 bt118.1 bt122.1 (decide ((bt118.1.length : Int) > (bt122.1.length : Int))) t112 t113 t114))) else (laws_FnCrashRecovery.j1 kj6 t108 t115 bt118.1 bt122.1 true t112 t113 t114)))) = some r := H); (have A17 := Aside0.mk A170); clear A170; (replace H := Option.bind_eq_some_iff.mp H); (obtain ⟨⟨t118, t121⟩, A180, H⟩ := H); (replace H : ((spec_LogRecords.f kj6 t102 t103 t104).bind fun bt122 => (if t116 = true then (if t115 > (t108.size : Int) then (laws_FnCrashRecovery.j1 kj6 t108 t115 t118 bt122.1 true t112 t113 t114) else (if t115 < (t102.size : Int) then (laws_FnCrashRecovery.j1 kj6 t108 t115 t118 bt122.1 true t112 t113 t114) else (laws_FnCrashRecovery.j1 kj6 t108 t115 t118 bt122.1 (decide ((t118.length : Int) > (bt122.1.length : Int))) t112 t113 t114))) else (laws_FnCrashRecovery.j1 kj6 t108 t115 t118 bt122.1 true t112 t113 t114))) = some r := H); (have A18 := Aside0.mk A180); clear A180; (replace H := Option.bind_eq_some_iff.mp H); (obtain ⟨⟨t122, t125⟩, A190, H⟩ := H); (replace H : (if t116 = true then (if t115 > (t108.size : Int) then (laws_FnCrashRecovery.j1 kj6 t108 t115 t118 t122 true t112 t113 t114) else (if t115 < (t102.size : Int) then (laws_FnCrashRecovery.j1 kj6 t108 t115 t118 t122 true t112 t113 t114) else (laws_FnCrashRecovery.j1 kj6 t108 t115 t118 t122 (decide ((t118.length : Int) > (t122.length : Int))) t112 t113 t114))) else (laws_FnCrashRecovery.j1 kj6 t108 t115 t118 t122 true t112 t113 t114)) = some r := H); (have A19 := Aside0.mk A190); clear A190; (have HC20 := Aside0.mk H); clear H
      go_upto_region 13 with (first | ((with_reducible refine gate_callee (f := 11) rfl ?_); refine gL (some 54) Tryd.func11 #[.string t108] ?_; (with_reducible refine (impl_RecoverLog.calls kj6 t108 t112 t113 t114 t115 t116 _ ?side1 A17.out).mono ?_); (case side1 => first | exact GT.below HG.out (by repeat (first | (with_reducible first | exact HB.out | apply bA | apply bN | apply bD | refine below_set ?_ GE107.out) | exact HB.out)) | (repeat (first | exact HG.out | (with_reducible first | apply GT.drewN | apply GT.drew | apply GT.alloc)))); rintro e w21 ⟨rfl, hb⟩; refine ⟨_, rfl, ?_⟩; have n0_ := Aside0.mk (blk_below (by (with_reducible repeat (first | refine kN ?_ _ | refine kD ?_ | refine kA ?_ _)); exact BK107.out) hb); have n1_ := Aside0.mk (below_step (by repeat (first | (with_reducible first | exact HB.out | apply bA | apply bN | apply bD | refine below_set ?_ GE107.out) | exact HB.out)) hb); clear BK107 HB; have BK107 := n0_; have HB := n1_; clear n0_ n1_; (try clear hb); (try clear hb2); (try clear hk); (try clear hi)) | ((with_reducible refine gate_dst (N := 10) rfl ?_); refine box_event ?hg (N := 10) ?hd (cs := #[.string (⟨#[]⟩ : ByteArray), .string (⟨#[]⟩ : ByteArray), .int .i64 0]) (t := 32) ?hr ?_; (case hd => rfl); (case hg => rfl); (case hr => first | (go_simp; done) | (go_simp; rfl)); intro gb117 hg w22 hbox hb; have n0_ := Aside0.mk (blk_below (by (with_reducible repeat (first | refine kN ?_ _ | refine kD ?_ | refine kA ?_ _)); exact BK107.out) hb); have hB_ := bz (by repeat (first | (with_reducible first | exact HB.out | apply bA | apply bN | apply bD | refine below_set ?_ GE107.out) | exact HB.out)) hb; have n1_ := Aside0.mk (below_step hB_ hb); have n2_ := Aside0.mk (hbox); have n3_ := Aside0.mk ((by rw [hg]; exact (below_size hB_) : w.heap.size ≤ gb117)); have n4_ := n3_; have n5_ := Aside0.mk ((by rw [hg]; exact Nat.ne_of_lt (blk_lt (by (with_reducible repeat (first | refine kN ?_ _ | refine kD ?_ | refine kA ?_ _)); exact BK107.out)) : gb107 ≠ gb117)); have n6_ := Aside0.mk (Ne.symm n5_.out); clear BK107 HB; have BK107 := n0_; have HB := n1_; have BK117 := n2_; have GW117 := n3_; have GE117 := n4_; have NB107_117 := n5_; have NB117_107 := n6_; clear n0_ n1_ n2_ n3_ n4_ n5_ n6_ hB_ hb hbox hg; have hnb23 := NB117_107.out; have hnc23 := NB107_117.out; have hcz24_0 := cz BK117.out 0; have hcz24_1 := cz BK117.out 1; have hcz24_2 := cz BK117.out 2; have hfz24_0 := blk_frozen BK117.out 0; have hfz24_1 := blk_frozen BK117.out 1; have hfz24_2 := blk_frozen BK117.out 2) | ((with_reducible refine gate_callee (f := 21) rfl ?_); refine gL (some 60) Tryd.func21 #[.agg #[.string t112, .string t113, .int .i64 t114]] ?_; (with_reducible refine (impl_LogRecords.calls kj6 t112 t113 t114 t118 t121 _ ?side1 A18.out).mono ?_); (case side1 => first | exact GT.below HG.out (by repeat (first | (with_reducible first | exact HB.out | apply bA | apply bN | apply bD | refine below_set ?_ GE107.out | refine below_set ?_ GE117.out) | exact HB.out)) | (repeat (first | exact HG.out | (with_reducible first | apply GT.drewN | apply GT.drew | apply GT.alloc)))); rintro e w25 ⟨v119, rfl, ho0, hb⟩; refine ⟨_, rfl, ?_⟩; have n0_ := Aside0.mk (Kd.R_lower ho0 (below_size (by repeat (first | (with_reducible first | exact HB.out | apply bA | apply bN | apply bD | refine below_set ?_ GE107.out | refine below_set ?_ GE117.out) | exact HB.out)))); have n1_ := Aside0.mk (blk_below (g := gb107) (o := .cells #[.string t102, .string t103, .int .i64 t104] 32 (0, 0)) (by (with_reducible repeat (first | refine kN ?_ _ | refine kD ?_ | refine kA ?_ _)); refine blk_far ?_ NB107_117.out _; (with_reducible repeat (first | refine kN ?_ _ | refine kD ?_ | refine kA ?_ _)); refine blk_far ?_ NB107_117.out _; (with_reducible repeat (first | refine kN ?_ _ | refine kD ?_ | refine kA ?_ _)); refine blk_far ?_ NB107_117.out _; (with_reducible repeat (first | refine kN ?_ _ | refine kD ?_ | refine kA ?_ _)); exact BK107.out) hb); have n2_ := Aside0.mk (blk_below (g := gb117) (o := .cells #[.string t112, .string t113, .int .i64 t114] 32 (0, 0)) (by (with_reducible repeat (first | refine kN ?_ _ | refine kD ?_ | refine kA ?_ _)); refine blk_put (cs := #[.string t112, .string t113, .int .i64 0]) ?_ 2 _ rfl; (with_reducible repeat (first | refine kN ?_ _ | refine kD ?_ | refine kA ?_ _)); refine blk_put (cs := #[.string t112, .string (⟨#[]⟩ : ByteArray), .int .i64 0]) ?_ 1 _ rfl; (with_reducible repeat (first | refine kN ?_ _ | refine kD ?_ | refine kA ?_ _)); refine blk_put (cs := #[.string (⟨#[]⟩ : ByteArray), .string (⟨#[]⟩ : ByteArray), .int .i64 0]) ?_ 0 _ rfl; (with_reducible repeat (first | refine kN ?_ _ | refine kD ?_ | refine kA ?_ _)); exact BK117.out) hb); have n3_ := Aside0.mk (below_step (by repeat (first | (with_reducible first | exact HB.out | apply bA | apply bN | apply bD | refine below_set ?_ GE107.out | refine below_set ?_ GE117.out) | exact HB.out)) hb); clear BK107 BK117 HB; have HO120 := n0_; have BK107 := n1_; have BK117 := n2_; have HB := n3_; clear n0_ n1_ n2_ n3_; (try clear hb); (try clear hb2); (try clear hk); (try clear hi); (try clear ho0); have hcz26_0 := cz BK107.out 0; have hcz26_1 := cz BK107.out 1; have hcz26_2 := cz BK107.out 2; have hfz26_0 := blk_frozen BK107.out 0; have hfz26_1 := blk_frozen BK107.out 1; have hfz26_2 := blk_frozen BK107.out 2) | ((with_reducible refine gate_callee (f := 25) rfl ?_); refine gL (some 65) Tryd.func25 #[.agg #[.string t102, .string t103, .int .i64 t104]] ?_; (with_reducible refine (spec_LogRecords.calls kj6 t102 t103 t104 t122 t125 _ A19.out).mono ?_); rintro e w27 ⟨v123, rfl, ho0, hb⟩; refine ⟨_, rfl, ?_⟩; have n0_ := Aside0.mk (Kd.R_elder' (by (with_reducible repeat (first | apply rA | apply rN | apply rD)); exact HO120.out) (Kd.R_base ho0) hb); have n1_ := Aside0.mk (Kd.R_lower (Kd.R_new' ho0 (Kd.R_lt (by (with_reducible repeat (first | apply rA | apply rN | apply rD)); exact HO120.out))) (below_size (by repeat (first | (with_reducible first | exact HB.out | apply bA | apply bN | apply bD | refine below_set ?_ GE107.out | refine below_set ?_ GE117.out) | exact HB.out)))); have n2_ := Aside0.mk (blk_below (by (with_reducible repeat (first | refine kN ?_ _ | refine kD ?_ | refine kA ?_ _)); exact BK107.out) hb); have n3_ := Aside0.mk (blk_below (by (with_reducible repeat (first | refine kN ?_ _ | refine kD ?_ | refine kA ?_ _)); exact BK117.out) hb); have n4_ := Aside0.mk (below_step (by repeat (first | (with_reducible first | exact HB.out | apply bA | apply bN | apply bD | refine below_set ?_ GE107.out | refine below_set ?_ GE117.out) | exact HB.out)) hb); clear HO120 BK107 BK117 HB; have HO120 := n0_; have HO124 := n1_; have BK107 := n2_; have BK117 := n3_; have HB := n4_; clear n0_ n1_ n2_ n3_ n4_; (try clear hb); (try clear hb2); (try clear hk); (try clear hi); (try clear ho0)))
      ((try simp only [Act.put, aS1, aS2, aS3])); (go_cut [89] (fun v89 wc => ∃ (kq : Nat) (x89_19 : Bool), v89 = .bool x89_19 ∧ Aside0 (laws_FnCrashRecovery.j1 kq t108 t115 t118 t122 x89_19 t112 t113 t114 = some r) ∧ Aside0 (kq ≤ kj6) ∧ Aside0 (Kd.R k25 25 wc w.heap.size (fun k_ => some k_ ≠ (v123 : Value).ownBlock) v119 t118) ∧ Aside0 (Kd.R k25 25 wc w.heap.size (fun k_ => some k_ ≠ (v119 : Value).ownBlock) v123 t122) ∧ Aside0 (wc.heap[gb107]? = some (.cells #[.string t102, .string t103, .int .i64 t104] 32 (0, 0))) ∧ Aside0 (wc.heap[gb117]? = some (.cells #[.string t112, .string t113, .int .i64 t114] 32 (0, 0))) ∧ Aside0 (Below w.heap.size w wc)))
      case first =>
       (have H := HC20.out); clear HC20; (by_cases c28 : t116 = true)
       ·subst c28
        (rw [if_pos rfl] at H); (by_cases c29 : t115 > (t108.size : Int))
        ·rw [if_pos c29] at H
         (have c29b0 : decide ((t108.size : Int) < t115) = true := decide_eq_true c29); clear c29; ((first | rw [c29b0] | (simp only [i64_w, i32_w]; rw [c29b0]) | skip)); (have H' := Aside0.mk H); clear H; (go_wp2); (go_meet)
         case rel => exact ⟨_, (true), (by first | rfl | (simp; done) | (simp [*]; done)), H', ⟨by have := HJ6.out; first | omega | exact Nat.le_refl _⟩, ⟨by (with_reducible repeat (first | apply rA | apply rN | apply rD)); exact Kd.R_mono HO120.out (fun _ hk => hk.2)⟩, ⟨by (with_reducible repeat (first | apply rA | apply rN | apply rD)); exact Kd.R_mono HO124.out (fun _ hk => hk.2)⟩, ⟨by (with_reducible repeat (first | refine kN ?_ _ | refine kD ?_ | refine kA ?_ _)); exact BK107.out⟩, ⟨by (with_reducible repeat (first | refine kN ?_ _ | refine kD ?_ | refine kA ?_ _)); exact BK117.out⟩, ⟨by repeat (first | (with_reducible first | exact HB.out | apply bA | apply bN | apply bD | refine below_set ?_ GE107.out | refine below_set ?_ GE117.out) | exact HB.out)⟩⟩
        ·rw [if_neg c29] at H
         (have c29b0 : decide ((t108.size : Int) < t115) = false := decide_eq_false c29); clear c29; ((first | rw [c29b0] | (simp only [i64_w, i32_w]; rw [c29b0]) | skip)); (by_cases c30 : t115 < (t102.size : Int))
         ·rw [if_pos c30] at H
          (have c30b0 : decide (t115 < (t102.size : Int)) = true := decide_eq_true c30); clear c30; (have H' := Aside0.mk H); clear H; (have hnb31 := NB107_117.out); (have hnc31 := NB117_107.out); (have hcz32_0 := cz BK107.out 0); (have hcz32_1 := cz BK107.out 1); (have hcz32_2 := cz BK107.out 2); (have hfz32_0 := blk_frozen BK107.out 0); (have hfz32_1 := blk_frozen BK107.out 1); (have hfz32_2 := blk_frozen BK107.out 2); (go_wp2); (go_meet)
          case rel => exact ⟨_, (true), (by first | rfl | (simp; done) | (simp [*]; done)), H', ⟨by have := HJ6.out; first | omega | exact Nat.le_refl _⟩, ⟨by (with_reducible repeat (first | apply rA | apply rN | apply rD)); exact Kd.R_mono HO120.out (fun _ hk => hk.2)⟩, ⟨by (with_reducible repeat (first | apply rA | apply rN | apply rD)); exact Kd.R_mono HO124.out (fun _ hk => hk.2)⟩, ⟨by (with_reducible repeat (first | refine kN ?_ _ | refine kD ?_ | refine kA ?_ _)); exact BK107.out⟩, ⟨by (with_reducible repeat (first | refine kN ?_ _ | refine kD ?_ | refine kA ?_ _)); exact BK117.out⟩, ⟨by repeat (first | (with_reducible first | exact HB.out | apply bA | apply bN | apply bD | refine below_set ?_ GE107.out | refine below_set ?_ GE117.out) | exact HB.out)⟩⟩
         ·rw [if_neg c30] at H
          (have c30b0 : decide (t115 < (t102.size : Int)) = false := decide_eq_false c30); clear c30; (have H' := Aside0.mk H); clear H; (have hnb33 := NB107_117.out); (have hnc33 := NB117_107.out); (have hcz34_0 := cz BK107.out 0); (have hcz34_1 := cz BK107.out 1); (have hcz34_2 := cz BK107.out 2); (have hfz34_0 := blk_frozen BK107.out 0); (have hfz34_1 := blk_frozen BK107.out 1); (have hfz34_2 := blk_frozen BK107.out 2); (obtain ⟨Ao35, co35, eo35⟩ := Kd.R_slice HO120.out); subst eo35; (obtain ⟨Ao36, co36, eo36⟩ := Kd.R_slice HO124.out); subst eo36; (go_wp2); (go_meet)
          case rel => exact ⟨_, (decide ((t118.length : Int) > (t122.length : Int))), (by first | rfl | (simp; done) | (simp [*]; done)), H', ⟨by have := HJ6.out; first | omega | exact Nat.le_refl _⟩, ⟨by (with_reducible repeat (first | apply rA | apply rN | apply rD)); exact Kd.R_mono HO120.out (fun _ hk => hk.2)⟩, ⟨by (with_reducible repeat (first | apply rA | apply rN | apply rD)); exact Kd.R_mono HO124.out (fun _ hk => hk.2)⟩, ⟨by (with_reducible repeat (first | refine kN ?_ _ | refine kD ?_ | refine kA ?_ _)); exact BK107.out⟩, ⟨by (with_reducible repeat (first | refine kN ?_ _ | refine kD ?_ | refine kA ?_ _)); exact BK117.out⟩, ⟨by repeat (first | (with_reducible first | exact HB.out | apply bA | apply bN | apply bD | refine below_set ?_ GE107.out | refine below_set ?_ GE117.out) | exact HB.out)⟩⟩
       ·replace c28 := Bool.eq_false_iff.mpr c28
        subst c28; (rw [if_neg (show ¬ (false = true) by decide)] at H); (have H' := Aside0.mk H); clear H; (go_wp2); (go_meet)
        case rel => exact ⟨_, (true), (by first | rfl | (simp; done) | (simp [*]; done)), H', ⟨by have := HJ6.out; first | omega | exact Nat.le_refl _⟩, ⟨by (with_reducible repeat (first | apply rA | apply rN | apply rD)); exact Kd.R_mono HO120.out (fun _ hk => hk.2)⟩, ⟨by (with_reducible repeat (first | apply rA | apply rN | apply rD)); exact Kd.R_mono HO124.out (fun _ hk => hk.2)⟩, ⟨by (with_reducible repeat (first | refine kN ?_ _ | refine kD ?_ | refine kA ?_ _)); exact BK107.out⟩, ⟨by (with_reducible repeat (first | refine kN ?_ _ | refine kD ?_ | refine kA ?_ _)); exact BK117.out⟩, ⟨by repeat (first | (with_reducible first | exact HB.out | apply bA | apply bN | apply bD | refine below_set ?_ GE107.out | refine below_set ?_ GE117.out) | exact HB.out)⟩⟩
      case rest =>
       clear HC20; (try clear c1); (try clear c2); (try clear p2); (try clear c3); (try clear c5); (try clear c6); (try clear c11); (try clear c14); (try clear c14b0); (try clear c14b1); (try clear c15); (try clear c16); (try clear c21); (try clear c22); (try clear c23); (try clear c24); (try clear c25); (try clear c28); (try clear c29); (try clear c29b0); (try clear c30); (try clear c30b0); (try clear c31); (try clear c33); (try clear hcz10_0); (try clear hcz10_1); (try clear hcz10_2); (try clear hcz12_0); (try clear hcz12_1); (try clear hcz12_2); (try clear hcz24_0); (try clear hcz24_1); (try clear hcz24_2); (try clear hcz26_0); (try clear hcz26_1); (try clear hcz26_2); (try clear hcz32_0); (try clear hcz32_1); (try clear hcz32_2); (try clear hcz34_0); (try clear hcz34_1); (try clear hcz34_2); (try clear hfz10_0); (try clear hfz10_1); (try clear hfz10_2); (try clear hfz12_0); (try clear hfz12_1); (try clear hfz12_2); (try clear hfz24_0); (try clear hfz24_1); (try clear hfz24_2); (try clear hfz26_0); (try clear hfz26_1); (try clear hfz26_2); (try clear hfz32_0); (try clear hfz32_1); (try clear hfz32_2); (try clear hfz34_0); (try clear hfz34_1); (try clear hfz34_2); (try clear p2); (obtain ⟨kq, x89_19, rfl, HA, HJ19, HO_13, HO_15, BK107, BK117, HB⟩ := hcut)
       cases kq with
       | zero => exact absurd HA.out (by simp [laws_FnCrashRecovery.j1])
       | succ kj19 =>
        (have H := HA.out); clear HA; (simp only [laws_FnCrashRecovery.j1] at H); (by_cases c37 : x89_19 = true); (· subst c37; (rw [if_pos rfl] at H); (obtain rfl := Option.some.inj H); (exact absurd ht_.out (by decide)))
        ·replace c37 := Bool.eq_false_iff.mpr c37
         subst c37; (rw [if_neg (show ¬ (false = true) by decide)] at H); (have H' := Aside0.mk H); clear H; (go_wp2); (go_loopg [17] kj19 (fun kq v17 w' => ∃ (x17_3 : Int), v17 = .int .i64 x17_3 ∧ Aside0 (laws_FnCrashRecovery.l0 kq t108 t115 t118 t122 x17_3 t112 t113 t114 = some r) ∧ Aside0 (kq ≤ kj19) ∧ Aside0 (Kd.R k25 25 w' w.heap.size (fun k_ => some k_ ≠ (v123 : Value).ownBlock) v119 t118) ∧ Aside0 (Kd.R k25 25 w' w.heap.size (fun k_ => some k_ ≠ (v119 : Value).ownBlock) v123 t122) ∧ Aside0 (w'.heap[gb107]? = some (.cells #[.string t102, .string t103, .int .i64 t104] 32 (0, 0))) ∧ Aside0 (w'.heap[gb117]? = some (.cells #[.string t112, .string t113, .int .i64 t114] 32 (0, 0))) ∧ Aside0 (Below w.heap.size w w')))
         case atStart => exact ⟨(0), (by first | rfl | (simp; done) | (simp [*]; done)), H', ⟨Nat.le_refl _⟩, ⟨by (with_reducible repeat (first | apply rA | apply rN | apply rD)); exact HO_13.out⟩, ⟨by (with_reducible repeat (first | apply rA | apply rN | apply rD)); exact HO_15.out⟩, ⟨by (with_reducible repeat (first | refine kN ?_ _ | refine kD ?_ | refine kA ?_ _)); exact BK107.out⟩, ⟨by (with_reducible repeat (first | refine kN ?_ _ | refine kD ?_ | refine kA ?_ _)); exact BK117.out⟩, ⟨by repeat (first | (with_reducible first | exact HB.out | apply bA | apply bN | apply bD | refine below_set ?_ GE107.out | refine below_set ?_ GE117.out) | exact HB.out)⟩⟩
         case round =>
          (clear H'); (try clear c1); (try clear c2); (try clear p2); (try clear c3); (try clear c5); (try clear c6); (try clear c11); (try clear c14); (try clear c14b0); (try clear c14b1); (try clear c15); (try clear c16); (try clear c21); (try clear c22); (try clear c23); (try clear c24); (try clear c25); (try clear c28); (try clear c29); (try clear c29b0); (try clear c30); (try clear c30b0); (try clear c31); (try clear c33); (try clear c37); (try clear hcz10_0); (try clear hcz10_1); (try clear hcz10_2); (try clear hcz12_0); (try clear hcz12_1); (try clear hcz12_2); (try clear hcz24_0); (try clear hcz24_1); (try clear hcz24_2); (try clear hcz26_0); (try clear hcz26_1); (try clear hcz26_2); (try clear hcz32_0); (try clear hcz32_1); (try clear hcz32_2); (try clear hcz34_0); (try clear hcz34_1); (try clear hcz34_2); (try clear hfz10_0); (try clear hfz10_1); (try clear hfz10_2); (try clear hfz12_0); (try clear hfz12_1); (try clear hfz12_2); (try clear hfz24_0); (try clear hfz24_1); (try clear hfz24_2); (try clear hfz26_0); (try clear hfz26_1); (try clear hfz26_2); (try clear hfz32_0); (try clear hfz32_1); (try clear hfz32_2); (try clear hfz34_0); (try clear hfz34_1); (try clear hfz34_2); (try clear p2); (obtain ⟨x17_3, rfl, HA, HK3, HO_13, HO_15, BK107, BK117, HB⟩ := hrel)
          cases gk with
          | zero => exact absurd HA.out (by simp [laws_FnCrashRecovery.l0])
          | succ k3 =>
           (have H := HA.out); clear HA; (simp only [laws_FnCrashRecovery.l0] at H); (by_cases c38 : x17_3 < (t118.length : Int))
           ·rw [if_pos c38] at H
            (have c38b0 : decide (x17_3 < (t118.length : Int)) = true := decide_eq_true c38); clear c38; (by_cases c39 : 0 ≤ x17_3)
            ·rw [if_pos c39] at H
             (have c39b0 : decide (0 ≤ x17_3) = true := decide_eq_true c39); clear c39; (by_cases c40 : x17_3 < (t122.length : Int))
             ·rw [if_pos c40] at H
              (have c40b0 : decide (x17_3 < (t122.length : Int)) = true := decide_eq_true c40); clear c40; (by_cases c41 : (!((((rd_T25 t118 x17_3).f0).toList) == (((rd_T25 t122 x17_3).f0).toList)) || (!((((rd_T25 t118 x17_3).f1).toList) == (((rd_T25 t122 x17_3).f1).toList)))) = true)
              ·rw [if_pos c41] at H
               (have c41b0 : (!((((rd_T25 t118 x17_3).f0).toList) == (((rd_T25 t122 x17_3).f0).toList)) || (!((((rd_T25 t118 x17_3).f1).toList) == (((rd_T25 t122 x17_3).f1).toList)))) = true := c41); clear c41; (obtain rfl := Option.some.inj H); (obtain ⟨Ao42, co42, eo42⟩ := Kd.R_slice HO_13.out); subst eo42; (try go_wp2); (have n0_ := Aside0.mk (Kd.R_drew HO_13.out)); (have n1_ := Aside0.mk (Kd.R_drew HO_15.out)); (have n2_ := Aside0.mk (blk_drew BK107.out)); (have n3_ := Aside0.mk (blk_drew BK117.out)); (have n4_ := Aside0.mk (below_drew1 HB.out)); clear HO_13 HO_15 BK107 BK117 HB; (have HO_13 := n0_); (have HO_15 := n1_); (have BK107 := n2_); (have BK117 := n3_); (have HB := n4_); clear n0_ n1_ n2_ n3_ n4_; (have p126 : 0 ≤ (x17_3 : Int) := of_decide_eq_true (by first | (with_reducible assumption) | assumption)); (have q126 : x17_3 < (t118.length : Int) := of_decide_eq_true (by first | (with_reducible assumption) | assumption)); (obtain ⟨ad126, e126, hx126_0, hx126_1⟩ := at_T25 (Kd.R_reads' HO_13.out).2.2 x17_3 p126 q126); (cases e126); (replace p126 := eq_true p126); (replace q126 := eq_true q126); (obtain ⟨Ao44, co44, eo44⟩ := Kd.R_slice HO_15.out); ((first | subst eo44 | (injection eo44 with f1_ f2_ f3_; have f4_ := f1_.symm; have f5_ := f3_.symm; clear f1_ f2_ f3_; subst f4_; subst f5_))); (have p127 : 0 ≤ (x17_3 : Int) := of_decide_eq_true (by first | (with_reducible assumption) | assumption)); (have q127 : x17_3 < (t122.length : Int) := of_decide_eq_true (by first | (with_reducible assumption) | assumption)); (obtain ⟨ad127, e127, hx127_0, hx127_1⟩ := at_T25 (Kd.R_reads' HO_15.out).2.2 x17_3 p127 q127); (cases e127); (replace p127 := eq_true p127); (replace q127 := eq_true q127); (refine start_ (n := 9) (S := fun w' => w'.cell? (ad126.add ((x17_3).toNat * 2)) = some (.string ((rd_T25 t118 x17_3).f0)) ∧ w'.cell? ⟨(ad126.add ((x17_3).toNat * 2)).block, (ad126.add ((x17_3).toNat * 2)).off + 1, none⟩ = some (.string ((rd_T25 t118 x17_3).f1)) ∧ w'.cell? (ad127.add ((x17_3).toNat * 2)) = some (.string ((rd_T25 t122 x17_3).f0)) ∧ w'.cell? ⟨(ad127.add ((x17_3).toNat * 2)).block, (ad127.add ((x17_3).toNat * 2)).off + 1, none⟩ = some (.string ((rd_T25 t122 x17_3).f1))) (ds := []) (cn 9 0) (by kernel_rfl) rfl (by kernel_rfl) ⟨hx126_0, hx126_1, hx127_0, hx127_1⟩ (fun hHeld => ?_); refine with_tabW laws_FnCrashRecovery.tab18 laws_FnCrashRecovery.bits18 (fun HT_ HW_ => ?_)); (generalize wr.drew = w43 at HO_13 HO_15 BK107 BK117 HB hx126_0 hx126_1 hx127_0 hx127_1 hHeld ⊢); (refine pB 0 (cn 9 1) (some 96) HT_ (h := ?_)); (refine pB 1 (cn 9 2) (some 97) HT_ (h := ?_)); (refine pB 2 (cn 9 3) (some 98) HT_ (h := ?_)); (refine pB 4 (cb 9 23) (some 100) HT_ (h := ?_)); (refine pB 5 (cb 9 55) (some 101) HT_ (h := ?_)); (refine pB 6 (cb 9 119) (some 102) HT_ (h := ?_)); (refine tB 3 (cn 9 7) (some 99) HT_ HW_ hHeld (h := ?_)); (refine tB 7 (cn 9 8) (some 103) HT_ HW_ hHeld (h := ?_)); (refine pB 8 (cn 9 9) (some 104) HT_ (h := ?_)); (refine done_ (done_of HT_.out (by kernel_rfl)) ?_); (try go_wp2); go_ret; (exact ⟨by first | rfl | (simp [errW_none, errW_some] <;> rfl) | (simp [*, errW_none, errW_some] <;> rfl), by repeat (first | (with_reducible first | exact HB.out | apply bA | apply bN | apply bD | refine below_set ?_ GE107.out | refine below_set ?_ GE117.out) | exact HB.out)⟩)
              ·rw [if_neg c41] at H
               (have c41b0 : (!((((rd_T25 t118 x17_3).f0).toList) == (((rd_T25 t122 x17_3).f0).toList)) || (!((((rd_T25 t118 x17_3).f1).toList) == (((rd_T25 t122 x17_3).f1).toList)))) = false := by simpa using c41); clear c41; (have H' := Aside0.mk H); clear H; (obtain ⟨Ao45, co45, eo45⟩ := Kd.R_slice HO_13.out); subst eo45; (try go_wp2); (have n0_ := Aside0.mk (Kd.R_drew HO_13.out)); (have n1_ := Aside0.mk (Kd.R_drew HO_15.out)); (have n2_ := Aside0.mk (blk_drew BK107.out)); (have n3_ := Aside0.mk (blk_drew BK117.out)); (have n4_ := Aside0.mk (below_drew1 HB.out)); clear HO_13 HO_15 BK107 BK117 HB; (have HO_13 := n0_); (have HO_15 := n1_); (have BK107 := n2_); (have BK117 := n3_); (have HB := n4_); clear n0_ n1_ n2_ n3_ n4_; (have p126 : 0 ≤ (x17_3 : Int) := of_decide_eq_true (by first | (with_reducible assumption) | assumption)); (have q126 : x17_3 < (t118.length : Int) := of_decide_eq_true (by first | (with_reducible assumption) | assumption)); (obtain ⟨ad126, e126, hx126_0, hx126_1⟩ := at_T25 (Kd.R_reads' HO_13.out).2.2 x17_3 p126 q126); (cases e126); (replace p126 := eq_true p126); (replace q126 := eq_true q126); (obtain ⟨Ao47, co47, eo47⟩ := Kd.R_slice HO_15.out); ((first | subst eo47 | (injection eo47 with f1_ f2_ f3_; have f4_ := f1_.symm; have f5_ := f3_.symm; clear f1_ f2_ f3_; subst f4_; subst f5_))); (have p127 : 0 ≤ (x17_3 : Int) := of_decide_eq_true (by first | (with_reducible assumption) | assumption)); (have q127 : x17_3 < (t122.length : Int) := of_decide_eq_true (by first | (with_reducible assumption) | assumption)); (obtain ⟨ad127, e127, hx127_0, hx127_1⟩ := at_T25 (Kd.R_reads' HO_15.out).2.2 x17_3 p127 q127); (cases e127); (replace p127 := eq_true p127); (replace q127 := eq_true q127); (refine start_ (n := 9) (S := fun w' => w'.cell? (ad126.add ((x17_3).toNat * 2)) = some (.string ((rd_T25 t118 x17_3).f0)) ∧ w'.cell? ⟨(ad126.add ((x17_3).toNat * 2)).block, (ad126.add ((x17_3).toNat * 2)).off + 1, none⟩ = some (.string ((rd_T25 t118 x17_3).f1)) ∧ w'.cell? (ad127.add ((x17_3).toNat * 2)) = some (.string ((rd_T25 t122 x17_3).f0)) ∧ w'.cell? ⟨(ad127.add ((x17_3).toNat * 2)).block, (ad127.add ((x17_3).toNat * 2)).off + 1, none⟩ = some (.string ((rd_T25 t122 x17_3).f1))) (ds := []) (cn 9 0) (by kernel_rfl) rfl (by kernel_rfl) ⟨hx126_0, hx126_1, hx127_0, hx127_1⟩ (fun hHeld => ?_); refine with_tabW laws_FnCrashRecovery.tab18 laws_FnCrashRecovery.bits18 (fun HT_ HW_ => ?_)); (generalize wr.drew = w46 at HO_13 HO_15 BK107 BK117 HB hx126_0 hx126_1 hx127_0 hx127_1 hHeld ⊢); (refine pB 0 (cn 9 1) (some 96) HT_ (h := ?_)); (refine pB 1 (cn 9 2) (some 97) HT_ (h := ?_)); (refine pB 2 (cn 9 3) (some 98) HT_ (h := ?_)); (refine pB 4 (cb 9 23) (some 100) HT_ (h := ?_)); (refine pB 5 (cb 9 55) (some 101) HT_ (h := ?_)); (refine pB 6 (cb 9 119) (some 102) HT_ (h := ?_)); (refine tB 3 (cn 9 7) (some 99) HT_ HW_ hHeld (h := ?_)); (refine tB 7 (cn 9 8) (some 103) HT_ HW_ hHeld (h := ?_)); (refine pB 8 (cn 9 9) (some 104) HT_ (h := ?_)); (refine done_ (done_of HT_.out (by kernel_rfl)) ?_); (try go_wp2); go_roundg k3
               case measure => have := HJ6.out; have := HJ19.out; have := HK3.out; omega
               case rel => exact ⟨(wrap64 (x17_3 + 1)), (by first | rfl | (simp; done) | (simp [*]; done)), H', ⟨by have := HJ6.out; have := HJ19.out; have := HK3.out; omega⟩, ⟨by (with_reducible repeat (first | apply rA | apply rN | apply rD)); exact HO_13.out⟩, ⟨by (with_reducible repeat (first | apply rA | apply rN | apply rD)); exact HO_15.out⟩, ⟨by (with_reducible repeat (first | refine kN ?_ _ | refine kD ?_ | refine kA ?_ _)); exact BK107.out⟩, ⟨by (with_reducible repeat (first | refine kN ?_ _ | refine kD ?_ | refine kA ?_ _)); exact BK117.out⟩, ⟨by repeat (first | (with_reducible first | exact HB.out | apply bA | apply bN | apply bD | refine below_set ?_ GE107.out | refine below_set ?_ GE117.out) | exact HB.out)⟩⟩
             ·rw [if_neg c40] at H
              exact absurd H (by simp)
            ·rw [if_neg c39] at H
             exact absurd H (by simp)
           ·rw [if_neg c38] at H
            (have c38b0 : decide (x17_3 < (t118.length : Int)) = false := decide_eq_false c38); clear c38; (replace H := Option.bind_eq_some_iff.mp H); (obtain ⟨t128, A480, H⟩ := H); (have A48 := Aside0.mk A480); clear A480; (by_cases c49 : t128 = true)
            ·subst c49
             (rw [if_pos rfl] at H); (by_cases c50 : 0 ≤ t115)
             ·rw [if_pos c50] at H
              (have c50b0 := eq_true c50); (have c50b1 : decide (0 ≤ t115) = true := decide_eq_true c50); clear c50; (by_cases c51 : t115 ≤ (t108.size : Int))
              ·rw [if_pos c51] at H
               (have c51b0 := eq_true c51); (have c51b1 : decide (t115 ≤ (t108.size : Int)) = true := decide_eq_true c51); clear c51; (obtain rfl := Option.some.inj H); (obtain ⟨Ao52, co52, eo52⟩ := Kd.R_slice HO_13.out); subst eo52; (try go_wp2); (have n0_ := Aside0.mk (Kd.R_drew HO_13.out)); (have n1_ := Aside0.mk (Kd.R_drew HO_15.out)); (have n2_ := Aside0.mk (blk_drew BK107.out)); (have n3_ := Aside0.mk (blk_drew BK117.out)); (have n4_ := Aside0.mk (below_drew1 HB.out)); clear HO_13 HO_15 BK107 BK117 HB; (have HO_13 := n0_); (have HO_15 := n1_); (have BK107 := n2_); (have BK117 := n3_); (have HB := n4_); clear n0_ n1_ n2_ n3_ n4_; (refine start_ (n := 11) (S := fun w' => w'.cell? ⟨gb117, 0, none⟩ = some (.string t112) ∧ w'.cell? ⟨gb117, 1, none⟩ = some (.string t113) ∧ w'.cell? ⟨gb117, 2, none⟩ = some (.int .i64 t114)) (ds := []) (cn 11 0) (by kernel_rfl) rfl (by kernel_rfl) ⟨(blk_cell BK117.out 0).trans rfl, (blk_cell BK117.out 1).trans rfl, (blk_cell BK117.out 2).trans rfl⟩ (fun hHeld => ?_); refine with_tabW laws_FnCrashRecovery.tab20 laws_FnCrashRecovery.bits20 (fun HT_ HW_ => ?_)); (generalize wr.drew = w53 at HO_13 HO_15 BK107 BK117 HB hHeld ⊢); (refine tB 0 (cn 11 1) (some 105) HT_ HW_ hHeld (h := ?_)); (refine one_ (i := 1) (N := some 106) (cn 11 2) rfl rfl (one_of HT_.out (by kernel_rfl)) (by decide) (fun K hK => ?_)); (refine goes_ Tryd.func14 (by kernel_rfl) rfl #[.agg #[.string t112, .string t113, .int .i64 t114]] (by rfl) rfl rfl (by (try simp only [aM1, aM2, aM3]); first | done | rfl | (simp only [List.length_drop, List.length_take]; rfl)) ?_); (with_reducible refine (impl_IsValidLog.calls k3 t112 t113 t114 true _ ?side1 A48.out).mono ?_); ((case side1 => first | exact GT.below HG.out (by repeat (first | (with_reducible first | exact HB.out | apply bA | apply bN | apply bD | refine below_set ?_ GE107.out | refine below_set ?_ GE117.out) | exact HB.out)) | (repeat (first | exact HG.out | (with_reducible first | apply GT.drewN | apply GT.drew | apply GT.alloc))))); (rintro e w54 ⟨rfl, hb⟩); (refine ⟨_, rfl, ?_⟩); (have n0_ := Aside0.mk (Kd.R_below (by (with_reducible repeat (first | apply rA | apply rN | apply rD)); exact HO_13.out) hb)); (have n1_ := Aside0.mk (Kd.R_below (by (with_reducible repeat (first | apply rA | apply rN | apply rD)); exact HO_15.out) hb)); (have n2_ := Aside0.mk (blk_below (by (with_reducible repeat (first | refine kN ?_ _ | refine kD ?_ | refine kA ?_ _)); exact BK107.out) hb)); (have n3_ := Aside0.mk (blk_below (by (with_reducible repeat (first | refine kN ?_ _ | refine kD ?_ | refine kA ?_ _)); exact BK117.out) hb)); (have n4_ := Aside0.mk (below_step (by repeat (first | (with_reducible first | exact HB.out | apply bA | apply bN | apply bD | refine below_set ?_ GE107.out | refine below_set ?_ GE117.out) | exact HB.out)) hb)); clear HO_13 HO_15 BK107 BK117 HB; (have HO_13 := n0_); (have HO_15 := n1_); (have BK107 := n2_); (have BK117 := n3_); (have HB := n4_); clear n0_ n1_ n2_ n3_ n4_; ((try clear hb)); ((try clear hb2)); ((try clear hk)); ((try clear hi)); (refine hK.out _ _ ⟨(blk_cell BK117.out 0).trans rfl, (blk_cell BK117.out 1).trans rfl, (blk_cell BK117.out 2).trans rfl⟩ (fun hHeld => ?_)); clear hK K; (refine norm_ (a' := ?_) ?_ ?_); rotate_left; (· (show Act.put _ (some 106) _ = _); (simp only [Act.put, aS1, aS2, aS3, i64_w, i32_w]); rfl); (refine pB 2 (cn 11 3) (some 107) HT_ (h := ?_)); (refine pB 3 (cn 11 4) (some 108) HT_ (h := ?_)); (refine pB 5 (cb 11 47) (some 110) HT_ (h := ?_)); (refine pB 6 (cb 11 111) (some 111) HT_ (h := ?_)); (refine pB 7 (cb 11 239) (some 112) HT_ (h := ?_)); (refine tB 4 (cn 11 8) (some 109) HT_ HW_ hHeld (h := ?_)); (refine pA 8 (cn 11 9) (some 113) HT_ (v := ?_) (a' := ?_) rfl rfl (by kernel_rfl) (fun _ _ _ h => h) (Or.inl ⟨by rfl, ?_⟩) ?_ ?_); rotate_left
               (· intro w'; go_simp; with_reducible rfl); rotate_left; (· (simp only [Act.put, aS1, aS2, aS3, i64_w, i32_w]); rfl); (refine pB 9 (cn 11 10) (some 114) HT_ (h := ?_)); (refine pB 10 (cn 11 11) (some 2) HT_ (h := ?_)); (refine done_ (done_of HT_.out (by kernel_rfl)) ?_); (try go_wp2); go_ret; (exact ⟨by first | rfl | (simp [errW_none, errW_some] <;> rfl) | (simp [*, errW_none, errW_some] <;> rfl), by repeat (first | (with_reducible first | exact HB.out | apply bA | apply bN | apply bD | refine below_set ?_ GE107.out | refine below_set ?_ GE117.out) | exact HB.out)⟩)
              ·rw [if_neg c51] at H
               exact absurd H (by simp)
             ·rw [if_neg c50] at H
              exact absurd H (by simp)
            ·replace c49 := Bool.eq_false_iff.mpr c49
             subst c49; (rw [if_neg (show ¬ (false = true) by decide)] at H); (obtain rfl := Option.some.inj H); (exact absurd ht_.out (by decide))
     ·replace c16 := Bool.eq_false_iff.mpr c16
      subst c16; (rw [if_neg (show ¬ (false = true) by decide)] at H); (obtain rfl := Option.some.inj H); (go_wp2); go_ret; (exact ⟨by first | rfl | (simp [errW_none, errW_some] <;> rfl) | (simp [*, errW_none, errW_some] <;> rfl), by repeat (first | (with_reducible first | exact HB.out | apply bA | apply bN | apply bD | refine below_set ?_ GE107.out) | exact HB.out)⟩)

end Go.Proofs.YtkdibcifamlciaaDoor.X
set_option linter.unusedVariables false
set_option linter.unusedSimpArgs false
namespace Go.Proofs.YtkdibcifamlciaaDoor.Open
open Go.RowKit Go.Proofs.YtkdibcifamlciaaDoorW.PrintWords

/-- What reads at type t is of kind d, and good. -/
def Opens (P : Program) (t : TypeId) {α : Type} (d : Kd α) (good : α → Prop) : Prop :=
  ∀ (H : Type) (enc : TypeId × Value → H) (w : World) (fuel : Nat) (cs : List Value) (x : DataW H × List MemPlace),
    DataW.trod enc P w 0 (fun _ => true) true fuel t cs = some x → ∃ a, d.K w a cs ∧ good a

theorem opens_int {P : Program} {t : TypeId} {k : IntKind} (ht : P.underlying t = some (.int k)) : Opens P t (Kd.int k) (fun n => (Lit.int k n).wf = true) := by
  intro H enc w fuel cs x hx
  obtain ⟨n, rfl, _, hw⟩ := DataW.trod_int ht hx
  exact ⟨n, rfl, hw⟩
theorem cells_each {w : World} {a : Addr} {n : Nat} {cs : List Value} (h : w.cells? 0 a n = some cs) : cs.length = n ∧ ∀ i u, cs[i]? = some u → w.cell? (a.add i) = some u := by
  have h1 := World.cells?_some h
  refine ⟨h1.2.1, fun i u hu => ?_⟩
  have hi : i < n := by
    have := (List.getElem?_eq_some_iff.1 hu).1
    omega
  rw [h1.2.2 i hi, hu]

theorem opens_slice {P : Program} {t e : TypeId} {α : Type} {d : Kd α} {g : α → Prop} (ht : P.underlying t = some (.slice e)) (hsz : P.cellsOf e = d.sz) (h : Opens P e d g) :
    Opens P t (Kd.slice e d) (fun xs => xs.length ≤ 9223372036854775807 ∧ ∀ x ∈ xs, g x) := by
  intro H enc w fuel cs x hx
  rcases DataW.trod_slice ht hx with ⟨rfl, _⟩ | ⟨a, len, cap, elems, rest, n, rfl, rfl, _, _, hlc, hcap, hel, hget, _, _⟩
  · exact ⟨[], ⟨none, 0, rfl, Nat.le_refl _, Kd.C_nil d w⟩, by simp, by simp⟩
  · simp only [maxLen] at hcap
    have each : ∀ i, i < len → ∃ b : α, ∃ c : List Value, c.length = d.sz ∧ d.K w b c ∧ g b ∧ ∀ j u, c[j]? = some u → w.cell? (a.add (i * d.sz + j)) = some u := by
      intro i hi
      have h1 := hget i hi
      obtain ⟨y, hy⟩ : ∃ y, elems[i]? = some y := ⟨_, List.getElem?_eq_getElem (by omega)⟩
      rw [hy] at h1
      obtain ⟨c, hc, ht'⟩ := Option.bind_eq_some_iff.1 h1
      obtain ⟨b, hK, hg⟩ := h H enc w n c y ht'
      obtain ⟨hl, hcell⟩ := cells_each hc
      refine ⟨b, c, hl.trans hsz, hK, hg, fun j u hu => ?_⟩
      have := hcell j u hu
      rw [Deep.add_add, hsz] at this
      exact this
    have mk : ∀ m, m ≤ len → ∃ xs : List α, xs.length = m ∧ (∀ x ∈ xs, g x) ∧ ∀ j p, xs[j]? = some p → ∃ c, c.length = d.sz ∧ d.K w p c ∧ ∀ i u, c[i]? = some u → w.cell? (a.add (j * d.sz + i)) = some u := by
      intro m
      induction m with
      | zero => exact fun _ => ⟨[], rfl, by simp, by simp⟩
      | succ m ih =>
        intro hm
        obtain ⟨xs, hl, hg, hx⟩ := ih (by omega)
        obtain ⟨b, c, hc1, hc2, hc3, hc4⟩ := each m (by omega)
        refine ⟨xs ++ [b], by simp [hl], ?_, ?_⟩
        · intro x hx'
          rcases List.mem_append.1 hx' with hx' | hx'
          · exact hg x hx'
          · rw [List.mem_singleton.1 hx']; exact hc3
        · intro j p hj
          by_cases hjm : j < m
          · rw [List.getElem?_append_left (by omega)] at hj
            exact hx j p hj
          · have hlt := (List.getElem?_eq_some_iff.1 hj).1
            simp only [List.length_append, List.length_cons, List.length_nil] at hlt
            obtain rfl : j = m := by omega
            rw [List.getElem?_append_right (by omega), hl, Nat.sub_self] at hj
            simp only [List.getElem?_cons_zero, Option.some.injEq] at hj
            subst hj
            exact ⟨c, hc1, hc2, hc4⟩
    obtain ⟨ys, hl, hg, hy⟩ := mk len (Nat.le_refl _)
    subst hl
    exact ⟨ys, ⟨some a, cap, rfl, hlc, rfl, by omega, fun _ => ⟨a, rfl, hy⟩⟩, by omega, hg⟩

theorem arg_slice {P : Program} {W : World} {H : Type} {enc : TypeId × Value → H} {t e : TypeId} {α : Type} {d : Kd α} {g : List α → Prop} {v : Value} {x : DataW H} {p : List MemPlace} (h : Opens P t (Kd.slice e d) g)
    (hs : ∃ a len cap, v = .slice a len cap) (hv : DataW.Trod enc P W 0 (fun _ => true) true t v x p) : ∃ A c xs, v = .slice A xs.length c ∧ xs.length ≤ c ∧ Kd.C d W A xs.length xs ∧ g xs := by
  obtain ⟨a, len, cap, rfl⟩ := hs
  obtain ⟨fuel, hf⟩ := hv
  obtain ⟨xs, ⟨A, c, he, hl, hc⟩, hg⟩ := h H enc W fuel _ _ hf
  simp [Value.cells] at he
  obtain ⟨rfl, rfl, rfl⟩ := he
  exact ⟨_, _, xs, rfl, hl, hc, hg⟩
end Go.Proofs.YtkdibcifamlciaaDoor.Open
set_option linter.unusedVariables false
namespace Go.Proofs.YtkdibcifamlciaaDoor.X
open Go.RowKit Go.Proofs.YtkdibcifamlciaaDoorW.PrintWords Go.Proofs.YtkdibcifamlciaaDoor.Open
theorem op5 : Opens Tryd.prog 5 (Kd.int .u8) (fun n => (Lit.int .u8 n).wf = true) := opens_int Tryd.underlying5
theorem op22 : Opens Tryd.prog 22 (Kd.slice 5 (Kd.int .u8)) (fun xs => (xs.length ≤ 9223372036854775807 ∧ ∀ y ∈ xs, (Lit.int .u8 y).wf = true)) := opens_slice Tryd.underlying22 (by kernel_rfl) op5
end Go.Proofs.YtkdibcifamlciaaDoor.X
namespace Go.Proofs.YtkdibcifamlciaaDoor.X
open Go.RowKit Go.Proofs.YtkdibcifamlciaaDoorW.PrintWords
def PureFnCrashRecovery : Prop := ∀ (a0 : List (Int)), (a0.length ≤ 9223372036854775807 ∧ ∀ y ∈ a0, (Lit.int .u8 y).wf = true) → ∃ k, laws_FnCrashRecovery.f k a0 = some true
end Go.Proofs.YtkdibcifamlciaaDoor.X
set_option linter.unusedVariables false
set_option linter.unusedSimpArgs false
namespace Go.Proofs.YtkdibcifamlciaaDoor.X
open Go.RowKit Go.Proofs.YtkdibcifamlciaaDoorW.PrintWords Go.Proofs.YtkdibcifamlciaaDoor.E
/-- The cursor's bytes and place. -/
def Cu (l : List Int) (a : Int) : Prop := l.length ≤ 9223372036854775807 ∧ (∀ y ∈ l, 0 ≤ y ∧ y ≤ 255) ∧ 0 ≤ a ∧ a ≤ 1000000
theorem u64w (x : Int) : 0 ≤ IntKind.u64.wrap x ∧ IntKind.u64.wrap x < 18446744073709551616 := by
  have h : IntKind.u64.wrap x = x % 18446744073709551616 := by simp [IntKind.wrap, IntKind.bits, IntKind.signed]
  rw [h]
  omega
theorem and255 (x : Int) : 0 ≤ wrap64 (Go.bits .and .u64 (IntKind.u64.wrap x / 1099511627776) 255) ∧ wrap64 (Go.bits .and .u64 (IntKind.u64.wrap x / 1099511627776) 255) ≤ 255 := by
  have h := u64w x
  have h2 : 0 ≤ IntKind.u64.wrap x / 1099511627776 ∧ IntKind.u64.wrap x / 1099511627776 < 18446744073709551616 := by omega
  rw [u64_and _ _ h2.1 h2.2 (by omega) (by omega)]
  have h3 : (IntKind.u64.wrap x / 1099511627776).toNat &&& (255 : Int).toNat ≤ 255 := Nat.and_le_right
  generalize (IntKind.u64.wrap x / 1099511627776).toNat &&& (255 : Int).toNat = q at h3
  rw [wrap_id (by omega) (by omega)]
  omega
theorem next_tot {l : List Int} {a : Int} (s : Int) (h : Cu l a) (hb : a ≤ 999999) : ∃ v a' s', spec_l1Cur_next.f l a s = some (v, a', s') ∧ (0 ≤ v ∧ v ≤ 255) ∧ Cu l a' ∧ a' = a + 1 := by
  obtain ⟨h1, h2, h3, h4⟩ := h
  have hw : wrap64 (a + 1) = a + 1 := wrap_id (by omega) (by omega)
  have hc : Cu l (a + 1) := ⟨h1, h2, by omega, by omega⟩
  unfold spec_l1Cur_next.f
  rw [hw]
  by_cases c : a < (l.length : Int)
  · have hr : 0 ≤ rd l a ∧ rd l a ≤ 255 := by
      have e : rd l a = l[a.toNat]'(by omega) := by show l.getD a.toNat 0 = _; rw [getD_in (by omega)]
      rw [e]
      exact h2 _ (List.getElem_mem _)
    rw [if_pos c, if_pos h3]
    by_cases d : a + 1 ≤ (l.length : Int)
    · rw [if_pos d]
      exact ⟨_, _, _, rfl, by rw [wrap_id (by omega) (by omega)]; exact hr, hc, rfl⟩
    · rw [if_neg d]
      exact ⟨_, _, _, rfl, and255 _, hc, rfl⟩
  · rw [if_neg c]
    by_cases d : a + 1 ≤ (l.length : Int)
    · rw [if_pos d]
      exact ⟨_, _, _, rfl, by omega, hc, rfl⟩
    · rw [if_neg d]
      exact ⟨_, _, _, rfl, and255 _, hc, rfl⟩
theorem tmod_in {x n : Int} (hx : 0 ≤ x) (hn : 0 < n) : 0 ≤ Int.tmod x n ∧ Int.tmod x n < n := by
  rw [Int.tmod_eq_emod_of_nonneg hx]
  exact ⟨Int.emod_nonneg _ (by omega), Int.emod_lt_of_pos _ hn⟩
theorem pick_tot {l : List Int} {a : Int} (s n : Int) (h : Cu l a) (hb : a ≤ 999990) : ∃ v a' s', spec_l1Cur_pick.f l a s n = some (v, a', s') ∧ 0 ≤ v ∧ (v < n ∨ v = 0) ∧ Cu l a' ∧ (a ≤ a' ∧ a' ≤ a + 2) := by
  unfold spec_l1Cur_pick.f
  by_cases c : n ≤ 1
  · rw [if_pos c]
    exact ⟨0, a, s, rfl, by omega, .inr rfl, h, by omega, by omega⟩
  rw [if_neg c]
  obtain ⟨v1, a1, s1, e1, hv1, hc1, ha1⟩ := next_tot s h (by omega)
  rw [e1, Option.bind_some]
  by_cases d : n > 200
  · obtain ⟨v2, a2, s2, e2, hv2, hc2, ha2⟩ := next_tot s1 hc1 (by omega)
    have hw : wrap64 ((wrap64 (v1 * 256)) + v2) = v1 * 256 + v2 := by rw [wrap_id (x := v1 * 256) (by omega) (by omega), wrap_id (by omega) (by omega)]
    rw [if_pos d]
    dsimp only
    rw [e2, Option.bind_some, if_neg (by omega)]
    have ht := tmod_in (x := wrap64 ((wrap64 (v1 * 256)) + v2)) (n := n) (by rw [hw]; omega) (by omega)
    exact ⟨_, _, _, rfl, ht.1, .inl ht.2, hc2, by dsimp only; omega, by dsimp only; omega⟩
  · rw [if_neg d, if_neg (by omega)]
    have ht := tmod_in (x := v1) (n := n) (by omega) (by omega)
    exact ⟨_, _, _, rfl, ht.1, .inl ht.2, hc1, by dsimp only; omega, by dsimp only; omega⟩
theorem pick_in {l : List Int} {a : Int} (s n : Int) (hn : 1 ≤ n) (h : Cu l a) (hb : a ≤ 999990) : ∃ v a' s', spec_l1Cur_pick.f l a s n = some (v, a', s') ∧ (0 ≤ v ∧ v < n) ∧ Cu l a' ∧ (a ≤ a' ∧ a' ≤ a + 2) := by
  obtain ⟨v, a', s', e, h0, h1, h2, h3⟩ := pick_tot s n h hb
  refine ⟨v, a', s', e, ⟨h0, ?_⟩, h2, h3⟩
  rcases h1 with h1 | h1
  · exact h1
  · omega
end Go.Proofs.YtkdibcifamlciaaDoor.X
set_option linter.unusedVariables false
set_option linter.unusedSimpArgs false
namespace Go.Proofs.YtkdibcifamlciaaDoor.X
open Go.RowKit Go.Proofs.YtkdibcifamlciaaDoorW.PrintWords Go.Proofs.YtkdibcifamlciaaDoor.E
theorem one_tot {l : List Int} {a : Int} (s n : Int) (h : Cu l a) (hb : a ≤ 999990) : ∃ v a' s', spec_l1Cur_one.f l a s n = some (v, a', s') ∧ Cu l a' ∧ (a ≤ a' ∧ a' ≤ a + 2) := by
  obtain ⟨v, a', s', e, h0, h1, h2, h3⟩ := pick_tot s n h hb
  unfold spec_l1Cur_one.f
  rw [e]
  exact ⟨_, _, _, rfl, h2, h3⟩
theorem of_tot {l : List Int} {a : Int} (s : Int) (ts : List ByteArray) (ht : 1 ≤ ts.length) (h : Cu l a) (hb : a ≤ 999990) : ∃ v a' s', spec_l1Cur_of.f l a s ts = some (v, a', s') ∧ v ∈ ts ∧ Cu l a' ∧ (a ≤ a' ∧ a' ≤ a + 2) := by
  obtain ⟨v, a', s', e, h0, h1, h2⟩ := pick_in s (ts.length : Int) (by omega) h hb
  unfold spec_l1Cur_of.f
  rw [e, Option.bind_some, if_pos h0.1, if_pos h0.2]
  refine ⟨_, _, _, rfl, ?_, h1, h2⟩
  dsimp only
  unfold rdOf
  rw [getD_in (by omega)]
  exact List.getElem_mem _
theorem spoilt_tot {l : List Int} {a : Int} (s : Int) (t w : ByteArray) (hw : 1 ≤ w.size) (ht : t.size ≤ 1000000) (hw2 : w.size ≤ 1000000) (h : Cu l a) (hb : a ≤ 999900) : ∃ v a' s', spec_l1Cur_spoilt.f l a s t w = some (v, a', s') ∧ v.size ≤ t.size + 1 ∧ Cu l a' ∧ (a ≤ a' ∧ a' ≤ a + 6) := by
  unfold spec_l1Cur_spoilt.f
  by_cases c : t.toList = ([] : List UInt8)
  · rw [if_pos c, if_pos (by omega), if_pos (by omega)]
    exact ⟨_, _, _, rfl, by rw [ByteArray.size_extract]; omega, h, by omega, by omega⟩
  rw [if_neg c]
  have htz : 1 ≤ t.size := by
    rcases Nat.eq_zero_or_pos t.size with e | e
    · exact absurd (by rw [Lib.toList_data]; exact List.eq_nil_of_length_eq_zero (by rw [Array.length_toList]; exact e)) c
    · exact e
  obtain ⟨i, a1, s1, e1, hi, hc1, ha1⟩ := pick_in s (t.size : Int) (by omega) h (by omega)
  obtain ⟨j, a2, s2, e2, hj, hc2, ha2⟩ := pick_in s1 (w.size : Int) (by omega) hc1 (by omega)
  obtain ⟨m, a3, s3, e3, hm, hc3, ha3⟩ := pick_in s2 3 (by omega) hc2 (by omega)
  have hx : (w.extract j.toNat w.size).size = w.size - j.toNat := by rw [ByteArray.size_extract]; omega
  have hw1 : wrap64 (i + 1) = i + 1 := wrap_id (by omega) (by omega)
  have z1 : (t.extract 0 i.toNat).size = i.toNat := by rw [ByteArray.size_extract]; omega
  have z2 : ((w.extract j.toNat w.size).extract 0 1).size = 1 := by rw [ByteArray.size_extract]; omega
  have z3 : (t.extract i.toNat t.size).size = t.size - i.toNat := by rw [ByteArray.size_extract]; omega
  have z4 : (t.extract (i + 1).toNat t.size).size = t.size - (i + 1).toNat := by rw [ByteArray.size_extract]; omega
  rw [e1, Option.bind_some]
  dsimp only
  rw [e2, Option.bind_some]
  dsimp only
  rw [if_pos (by omega), if_pos (by omega), if_pos (by omega), if_pos (by omega), e3, Option.bind_some]
  dsimp only
  rw [hw1]
  have z5 : ((t.extract 0 i.toNat) ++ ((w.extract j.toNat w.size).extract 0 1)).size = i.toNat + 1 := by rw [ByteArray.size_append]; omega
  by_cases m0 : m = 0
  · rw [if_pos m0, if_pos (by omega), if_pos (by omega), if_pos (by omega), if_pos (by omega)]
    exact ⟨_, _, _, rfl, by rw [ByteArray.size_append]; omega, hc3, by omega, by omega⟩
  rw [if_neg m0]
  by_cases m1 : m = 1
  · rw [if_pos m1]
    repeat rw [if_pos (by omega)]
    exact ⟨_, _, _, rfl, by rw [ByteArray.size_append]; omega, hc3, by omega, by omega⟩
  rw [if_neg m1]
  repeat rw [if_pos (by omega)]
  exact ⟨_, _, _, rfl, by rw [ByteArray.size_append]; omega, hc3, by omega, by omega⟩
end Go.Proofs.YtkdibcifamlciaaDoor.X
set_option linter.unusedVariables false
set_option linter.unusedSimpArgs false
namespace Go.Proofs.YtkdibcifamlciaaDoor.X
open Go.RowKit Go.Proofs.YtkdibcifamlciaaDoorW.PrintWords Go.Proofs.YtkdibcifamlciaaDoor.E
def numB (n : Int) : ByteArray := ⟨(Lib.itoa n).toArray⟩
def decB (u : Nat) : ByteArray := ⟨(Lib.decDigits u).toArray⟩
theorem digit_fin : ∀ i : Fin 10, (⟨#[48, 49, 50, 51, 52, 53, 54, 55, 56, 57]⟩ : ByteArray).extract i.val (i.val + 1) = ⟨#[UInt8.ofNat (48 + i.val)]⟩ := by decide +kernel
theorem digit_at (i : Int) (j : Int) (h0 : 0 ≤ i) (h1 : i < 10) (hj : j = i + 1) : (⟨#[48, 49, 50, 51, 52, 53, 54, 55, 56, 57]⟩ : ByteArray).extract i.toNat j.toNat = ⟨#[UInt8.ofNat (48 + i.toNat)]⟩ := by
  rw [show j.toNat = i.toNat + 1 by omega]
  exact digit_fin ⟨i.toNat, by omega⟩
theorem ba_append (l m : List UInt8) : (⟨l.toArray⟩ : ByteArray) ++ (⟨m.toArray⟩ : ByteArray) = ⟨(l ++ m).toArray⟩ := by
  apply ByteArray.ext
  rw [ByteArray.data_append]
  simp
theorem ba_size (l : List UInt8) : (⟨l.toArray⟩ : ByteArray).size = l.length := rfl
theorem decB_size (u : Nat) (h : u < 18446744073709551616) : (decB u).size ≤ 20 := by
  unfold decB
  rw [ba_size, Lib.decDigits_length]
  exact Lib.nDigits_le20 u h
theorem numB_size (n : Int) (h0 : -9223372036854775808 ≤ n) (h1 : n ≤ 9223372036854775807) : (numB n).size ≤ 21 := by
  unfold numB
  rw [ba_size]
  exact Lib.itoa_length_le n h0 h1
theorem l1Num_nat : ∀ (u : Nat), u ≤ 9223372036854775807 → Ev (fun k => spec_l1Num.f k (u : Int)) (decB u) := by
  intro u
  induction u using Nat.strongRecOn with
  | _ u ih =>
    intro hu
    refine Ev.step (fun k => rfl) (ev_neg (by omega) ?_)
    by_cases h : u < 10
    · have hw : wrap64 ((u : Int) + 1) = (u : Int) + 1 := wrap_id (by omega) (by omega)
      rw [hw]
      refine ev_pos (by omega) (ev_pos (by omega) (ev_pos (by omega) (ev_pos (by omega) (ev_now ?_))))
      rw [digit_at (u : Int) _ (by omega) (by omega) rfl]
      unfold decB
      rw [Lib.decDigits, dif_pos h, Int.toNat_natCast]
    · refine ev_neg (by omega) ?_
      have hd : Int.tdiv (u : Int) 10 = ((u / 10 : Nat) : Int) := by rw [Int.tdiv_eq_ediv_of_nonneg (by omega)]; omega
      have hm : Int.tmod (u : Int) 10 = ((u % 10 : Nat) : Int) := by rw [Int.tmod_eq_emod_of_nonneg (by omega)]; omega
      have hw : wrap64 ((u / 10 : Nat) : Int) = ((u / 10 : Nat) : Int) := wrap_id (by omega) (by omega)
      have hw2 : wrap64 (((u % 10 : Nat) : Int) + 1) = ((u % 10 : Nat) : Int) + 1 := wrap_id (by omega) (by omega)
      rw [hd, hw, hm, hw2]
      refine Ev.bind (ih (u / 10) (by omega) (by omega)) ?_
      rw [digit_at ((u % 10 : Nat) : Int) _ (by omega) (by omega) rfl]
      have hs := decB_size (u / 10) (by omega)
      have h1 : (⟨#[UInt8.ofNat (48 + ((u % 10 : Nat) : Int).toNat)]⟩ : ByteArray).size = 1 := rfl
      refine ev_pos (by omega) (ev_pos (by omega) (ev_pos (by omega) (ev_pos (by omega) (ev_now ?_))))
      unfold decB
      rw [show (⟨#[UInt8.ofNat (48 + ((u % 10 : Nat) : Int).toNat)]⟩ : ByteArray) = ⟨[UInt8.ofNat (48 + u % 10)].toArray⟩ by rw [Int.toNat_natCast], ba_append]
      conv => rhs; rw [Lib.decDigits, dif_neg h]
theorem l1Num_ev (n : Int) (h0 : -9223372036854775807 ≤ n) (h1 : n ≤ 9223372036854775807) : Ev (fun k => spec_l1Num.f k n) (numB n) := by
  by_cases hn : n < 0
  · have hw : wrap64 (-n) = ((n.natAbs : Nat) : Int) := by rw [wrap_id (by omega) (by omega)]; omega
    refine Ev.step (fun k => rfl) (ev_pos hn ?_)
    rw [hw]
    have hs := decB_size n.natAbs (by omega)
    refine Ev.bind (l1Num_nat _ (by omega)) (ev_pos (by omega) (ev_now ?_))
    unfold numB decB
    rw [show (⟨#[45]⟩ : ByteArray) = ⟨[45].toArray⟩ from rfl, ba_append, Lib.itoa, if_pos hn]
    rfl
  · obtain ⟨u, rfl⟩ : ∃ u : Nat, n = u := ⟨n.toNat, by omega⟩
    refine ev_cast (l1Num_nat u (by omega)) ?_
    unfold numB decB
    rw [Lib.itoa, if_neg hn, Int.toNat_natCast]
end Go.Proofs.YtkdibcifamlciaaDoor.X
set_option linter.unusedVariables false
set_option linter.unusedSimpArgs false
namespace Go.Proofs.YtkdibcifamlciaaDoor.X
open Go.RowKit Go.Proofs.YtkdibcifamlciaaDoorW.PrintWords Go.Proofs.YtkdibcifamlciaaDoor.E
theorem l1In_eq (a l h : Int) : spec_l1In.f a l h = some (decide (l ≤ a ∧ a ≤ h)) := by
  unfold spec_l1In.f
  by_cases h1 : a ≥ l
  · rw [if_pos h1]; congr 1; simp [h1]
  · rw [if_neg h1]; congr 1; symm; simp; intro h2; omega
theorem within_eq (a l h : Int) : impl_within.f a l h = some (decide (l ≤ a ∧ a ≤ h)) := by
  unfold impl_within.f
  by_cases h1 : a ≥ l
  · rw [if_pos h1]; congr 1; simp [h1]
  · rw [if_neg h1]; congr 1; symm; simp; intro h2; omega
def logAt (s : ByteArray) (i : Nat) : Bool := decide (32 ≤ bt s i ∧ bt s i ≤ 126 ∧ bt s i ≠ 35)
def logB (s : ByteArray) : Bool := (List.range s.size).all (logAt s)
def hasB (s : ByteArray) (c : Int) : Bool := !((List.range s.size).all (fun i => decide (bt s i ≠ c)))
theorem isLogText_ev (s : ByteArray) (hs : s.size ≤ 9223372036854775807) : Ev (fun k => impl_isLogText.f k s) (logB s) := by
  have h := ev_all0 (L := fun k i => impl_isLogText.l0 k s (s.size : Int) i) s.size (logAt s) false true (fun _ => Ev.step (fun k => rfl) (ev_neg (by omega) (ev_now rfl))) ?h1 ?h2
  case h1 =>
    intro i hi _ hc y hy
    simp only [logAt, decide_eq_true_eq] at hc
    refine Ev.step (fun k => rfl) (ev_pos (by omega) (ev_pos (by omega) (ev_pos (by omega) ?_)))
    rw [wrap_succ hi hs]
    exact ev_neg (by omega) (ev_neg (by omega) (ev_neg (by omega) hy))
  case h2 =>
    intro i hi _ hc
    simp only [logAt, decide_eq_false_iff_not] at hc
    refine Ev.step (fun k => rfl) (ev_pos (by omega) (ev_pos (by omega) (ev_pos (by omega) ?_)))
    refine ev_ite (fun _ => ev_now rfl) (fun _ => ev_ite (fun _ => ev_now rfl) (fun _ => ev_ite (fun _ => ev_now rfl) (fun _ => ?_)))
    exfalso; omega
  refine ev_cast h ?_
  unfold logB
  cases (List.range s.size).all (logAt s) <;> rfl
theorem l27Plain_ev (s : ByteArray) (hs : s.size ≤ 9223372036854775807) (n : Int) : Ev (fun k => spec_l27Plain.f k s n) (logB s && decide ((s.size : Int) ≤ n)) := by
  have hw : ∀ i : Nat, wrap64 (bt s i) = bt s i := fun i => wrap_id (by have := bt_range s i; omega) (by have := bt_range s i; omega)
  have h := ev_all0 (L := fun k i => spec_l27Plain.l0 k s n i) s.size (logAt s) false (decide ((s.size : Int) ≤ n)) (fun _ => Ev.step (fun k => rfl) (ev_neg (by omega) (ev_now rfl))) ?h1 ?h2
  case h1 =>
    intro i hi _ hc y hy
    simp only [logAt, decide_eq_true_eq] at hc
    refine Ev.step (fun k => rfl) (ev_pos (by omega) (ev_pos (by omega) ?_))
    rw [wrap_succ hi hs, hw]
    refine ev_bind0 (l1In_eq _ _ _) ?_
    exact ev_pos (decide_eq_true (by omega)) (ev_neg (by omega) hy)
  case h2 =>
    intro i hi _ hc
    simp only [logAt, decide_eq_false_iff_not] at hc
    refine Ev.step (fun k => rfl) (ev_pos (by omega) (ev_pos (by omega) ?_))
    rw [hw]
    refine ev_bind0 (l1In_eq _ _ _) ?_
    refine ev_ite (fun c => ?_) (fun _ => ev_now rfl)
    have c' := of_decide_eq_true c
    exact ev_pos (by omega) (ev_now rfl)
  refine ev_cast h ?_
  unfold logB
  cases (List.range s.size).all (logAt s) <;> simp
theorem l1Stands_ev (s : ByteArray) (hs : s.size ≤ 9223372036854775807) (c : Int) : Ev (fun k => spec_l1Stands.f k s c) (hasB s c) := by
  have h := ev_all0 (L := fun k i => spec_l1Stands.l0 k s c i) s.size (fun i => decide (bt s i ≠ c)) true false (fun _ => Ev.step (fun k => rfl) (ev_neg (by omega) (ev_now rfl))) ?h1 ?h2
  case h1 =>
    intro i hi _ hc y hy
    have hc' := of_decide_eq_true hc
    refine Ev.step (fun k => rfl) (ev_pos (by omega) (ev_pos (by omega) ?_))
    rw [wrap_succ hi hs]
    exact ev_neg hc' hy
  case h2 =>
    intro i hi _ hc
    have hc' := of_decide_eq_false hc
    refine Ev.step (fun k => rfl) (ev_pos (by omega) (ev_pos (by omega) ?_))
    exact ev_pos (by omega) (ev_now rfl)
  refine ev_cast h ?_
  unfold hasB
  cases (List.range s.size).all (fun i => decide (bt s i ≠ c)) <;> rfl
theorem bt_get (s : ByteArray) (i : Nat) (h : i < s.data.toList.length) : bt s i = ((s.data.toList[i]).toNat : Int) := by
  have h' : i < s.size := by rw [Array.length_toList] at h; exact h
  unfold bt
  rw [dif_pos (by rw [Int.toNat_natCast]; exact h')]
  simp only [Int.toNat_natCast]
  rfl
theorem contains_at (s : ByteArray) : strings_Contains.f s (⟨#[64]⟩ : ByteArray) = some (hasB s 64) := by
  show some (decide (0 ≤ Lib.indexByte s.data.toList 64)) = some (hasB s 64)
  rw [← Lib.contains_iff_indexByte]
  congr 1
  have hl : s.data.toList.length = s.size := by rw [Array.length_toList]; rfl
  rw [Bool.eq_iff_iff, List.contains_iff_mem]
  unfold hasB
  rw [Bool.not_eq_true', Bool.eq_false_iff, Ne, all_range]
  constructor
  · intro hm hall
    obtain ⟨i, hi, e⟩ := List.getElem_of_mem hm
    have := of_decide_eq_true (hall i (by omega))
    rw [bt_get s i hi, e] at this
    exact this rfl
  · intro hn
    refine Classical.byContradiction fun hm => hn fun i hi => decide_eq_true fun e => hm ?_
    have hi' : i < s.data.toList.length := by omega
    rw [bt_get s i hi'] at e
    have e2 : s.data.toList[i] = 64 := UInt8.toNat_inj.1 (by have : (s.data.toList[i]).toNat = 64 := by omega
                                                             rw [this]; rfl)
    exact e2 ▸ List.getElem_mem hi'
theorem empty_iff (s : ByteArray) : s.data.toList = [] ↔ s.size = 0 := by
  have hl : s.data.toList.length = s.size := by rw [Array.length_toList]; rfl
  rw [← hl, List.length_eq_zero_iff]
def cmdB (s : ByteArray) : Bool := decide (1 ≤ (s.size : Int) ∧ (s.size : Int) ≤ 160) && logB s && !(hasB s 64)
def recB (s r : ByteArray) : Bool := cmdB s && (logB r && decide ((r.size : Int) ≤ 200))
theorem isCommand_ev (s : ByteArray) (hs : s.size ≤ 9223372036854775807) : Ev (fun k => impl_isCommand.f k s) (cmdB s) := by
  unfold impl_isCommand.f cmdB
  refine ev_bind0 (within_eq _ _ _) ?_
  refine ev_ite (fun c => ?_) (fun c => ev_now ?_)
  case refine_2 => rw [Bool.not_eq_true] at c; rw [c]; rfl
  rw [c]
  refine Ev.bind (isLogText_ev s hs) ?_
  refine ev_ite (fun c => ?_) (fun c => ev_now ?_)
  case refine_2 => rw [Bool.not_eq_true] at c; rw [c]; rfl
  rw [c]
  exact ev_bind0 (contains_at s) (ev_now (by simp))
theorem implRec_ev (s r : ByteArray) (hs : s.size ≤ 9223372036854775807) (hr : r.size ≤ 9223372036854775807) : Ev (fun k => impl_IsValidLogRecord.f k s r) (recB s r) := by
  unfold impl_IsValidLogRecord.f recB
  refine Ev.bind (isCommand_ev s hs) ?_
  refine ev_ite (fun c => ?_) (fun c => ev_now ?_)
  case refine_2 => rw [Bool.not_eq_true] at c; rw [c]; rfl
  rw [c]
  refine ev_ite (fun c => ?_) (fun c => ev_now ?_)
  case refine_2 => rw [decide_eq_false c]; simp
  rw [decide_eq_true c]
  exact Ev.bind (isLogText_ev r hr) (ev_now (by simp))
theorem goodRec_ev (s r : ByteArray) (hs : s.size ≤ 9223372036854775807) (hr : r.size ≤ 9223372036854775807) : Ev (fun k => spec_l27Good.f k s r) (recB s r) := by
  unfold spec_l27Good.f recB cmdB
  refine ev_ite (fun c => ev_now ?_) (fun c => ?_)
  case refine_1 =>
    have c : s.size = 0 := (empty_iff s).1 (by rw [← ByteArray.toList_eq]; exact c)
    rw [decide_eq_false (by omega)]; rfl
  have c : 1 ≤ s.size := by
    rcases Nat.eq_zero_or_pos s.size with e | e
    · exact absurd (by rw [ByteArray.toList_eq]; exact (empty_iff s).2 e) c
    · exact e
  refine Ev.bind (l27Plain_ev s hs 160) ?_
  refine ev_ite (fun c => ?_) (fun c => ev_now ?_)
  case refine_2 =>
    have e : decide (1 ≤ (s.size : Int) ∧ (s.size : Int) ≤ 160) = decide ((s.size : Int) ≤ 160) := by rw [decide_eq_decide]; omega
    rw [e]
    revert c
    cases logB s <;> cases decide ((s.size : Int) ≤ 160) <;> simp
  rw [Bool.and_eq_true] at c
  have c2 := of_decide_eq_true c.2
  rw [c.1, decide_eq_true (show 1 ≤ (s.size : Int) ∧ (s.size : Int) ≤ 160 by omega)]
  refine Ev.bind (l1Stands_ev s hs 64) ?_
  refine ev_ite (fun c => ev_now ?_) (fun c => ?_)
  case refine_1 => rw [c]; rfl
  rw [Bool.not_eq_true] at c; rw [c]
  exact Ev.bind (l27Plain_ev r hr 200) (ev_now (by simp))
end Go.Proofs.YtkdibcifamlciaaDoor.X
set_option linter.unusedVariables false
set_option linter.unusedSimpArgs false
namespace Go.Proofs.YtkdibcifamlciaaDoor.X
open Go.RowKit Go.Proofs.YtkdibcifamlciaaDoorW.PrintWords Go.Proofs.YtkdibcifamlciaaDoor.E
theorem Itoa_eq (n : Int) (h0 : -9223372036854775808 ≤ n) (h1 : n ≤ 9223372036854775807) : strconv_Itoa.f n = some (numB n) := by unfold strconv_Itoa.f; rw [if_pos ⟨h0, h1⟩]; rfl
def sumStep (s : ByteArray) (h : Int) (i : Nat) : Int := Int.tmod (wrap64 ((wrap64 ((wrap64 (41 * h)) + (wrap64 (bt s i)))) + 1)) 999979
def sumB (s : ByteArray) : Int := (List.range s.size).foldl (sumStep s) 7
theorem sumStep_in (s : ByteArray) (h : Int) (i : Nat) (h0 : 0 ≤ h ∧ h < 999979) : 0 ≤ sumStep s h i ∧ sumStep s h i < 999979 := by
  have hb := bt_range s i
  have e1 : wrap64 (41 * h) = 41 * h := wrap_id (by omega) (by omega)
  have e2 : wrap64 (bt s i) = bt s i := wrap_id (by omega) (by omega)
  have e3 : wrap64 (41 * h + bt s i) = 41 * h + bt s i := wrap_id (by omega) (by omega)
  have e4 : wrap64 (41 * h + bt s i + 1) = 41 * h + bt s i + 1 := wrap_id (by omega) (by omega)
  unfold sumStep
  rw [e1, e2, e3, e4, Int.tmod_eq_emod_of_nonneg (by omega)]
  omega
theorem fold_in (s : ByteArray) : ∀ (l : List Nat) (h : Int), 0 ≤ h ∧ h < 999979 → 0 ≤ l.foldl (sumStep s) h ∧ l.foldl (sumStep s) h < 999979
  | [], h, hh => hh
  | i :: l, h, hh => fold_in s l _ (sumStep_in s h i hh)
theorem sumB_in (s : ByteArray) : 0 ≤ sumB s ∧ sumB s < 999979 := fold_in s _ 7 (by omega)
theorem implSum_ev (s : ByteArray) (hs : s.size ≤ 9223372036854775807) : Ev (fun k => impl_checksum.f k s) (sumB s) := by
  have h := ev_scan0 (L := fun k (h : Int) i => impl_checksum.l0 k s h (s.size : Int) i) (G := fun h i (r : List Nat) => r.foldl (sumStep s) h) (fun _ _ _ => True) (List.range s.size) 7 trivial ?h1 ?h2
  case h1 =>
    intro h _
    rw [List.length_range]
    exact Ev.step (fun k => rfl) (ev_neg (by omega) (ev_now rfl))
  case h2 =>
    intro h i x r _ hi hd hg hr
    rw [List.length_range] at hi
    obtain rfl : x = i := by rw [← hg 0, List.getD_eq_getElem?_getD, List.getElem?_range hi]; rfl
    refine Ev.step (fun k => rfl) (ev_pos (by omega) (ev_pos (by omega) (ev_pos (by omega) ?_)))
    rw [wrap_succ hi hs]
    exact hr (sumStep s h x) trivial
  exact h
theorem specSum_ev (s : ByteArray) (hs : s.size ≤ 9223372036854775807) : Ev (fun k => spec_l1Sum.f k s) (sumB s) := by
  have h := ev_scan0 (L := fun k (h : Int) i => spec_l1Sum.l0 k s h i) (G := fun h i (r : List Nat) => r.foldl (sumStep s) h) (fun _ _ _ => True) (List.range s.size) 7 trivial ?h1 ?h2
  case h1 =>
    intro h _
    rw [List.length_range]
    exact Ev.step (fun k => rfl) (ev_neg (by omega) (ev_now rfl))
  case h2 =>
    intro h i x r _ hi hd hg hr
    rw [List.length_range] at hi
    obtain rfl : x = i := by rw [← hg 0, List.getD_eq_getElem?_getD, List.getElem?_range hi]; rfl
    refine Ev.step (fun k => rfl) (ev_pos (by omega) (ev_pos (by omega) ?_))
    rw [wrap_succ hi hs]
    exact hr (sumStep s h x) trivial
  exact h
theorem szl (c : UInt8) : (⟨#[c]⟩ : ByteArray).size = 1 := rfl
def sealB (x : ByteArray) : ByteArray := (x ++ (⟨#[35]⟩ : ByteArray)) ++ numB (sumB x)
theorem sum_size (x : ByteArray) : (numB (sumB x)).size ≤ 21 := by have := sumB_in x; exact numB_size _ (by omega) (by omega)
theorem l1Seal_ev (x : ByteArray) (hx : x.size ≤ 4611686018427387904) : Ev (fun k => spec_l1Seal.f k x) (sealB x) := by
  unfold spec_l1Seal.f sealB
  have h1 := sumB_in x
  have h2 := sum_size x
  exact ev_pos (by omega) (Ev.bind (specSum_ev x (by omega)) (Ev.bind (l1Num_ev _ (by omega) (by omega)) (ev_pos (by simp only [ByteArray.size_append, szl]; omega) (ev_now rfl))))
theorem contains35 (s : ByteArray) : strings_Contains.f s (⟨#[35]⟩ : ByteArray) = some (s.data.toList.contains 35) := by
  show some (decide (0 ≤ Lib.indexByte s.data.toList 35)) = _
  rw [← Lib.contains_iff_indexByte]
def appB (x : ByteArray) : ByteArray × Bool := if (decide ((x.size : Int) > 4000) || x.data.toList.contains 35) = true then (⟨#[]⟩, false) else if ((sealB x).size : Int) > 4000 then (⟨#[]⟩, false) else (sealB x, true)
theorem appendChecksum_ev (x : ByteArray) (hx : x.size ≤ 4611686018427387904) : Ev (fun k => impl_AppendChecksum.f k x) (appB x) := by
  have stop : ∀ b : Bool, b = (decide ((x.size : Int) > 4000) || x.data.toList.contains 35) → Ev (fun k => impl_AppendChecksum.j0 k x b) (appB x) := by
    intro b hb
    refine Ev.step (fun k => rfl) (ev_ite (fun c => ev_now ?_) (fun c => ?_))
    · unfold appB; rw [← hb, if_pos c]
    unfold appB
    rw [← hb, if_neg c]
    have h1 := sumB_in x
    have h2 := sum_size x
    refine ev_pos (by omega) (Ev.bind (implSum_ev x (by omega)) (ev_bind0 (Itoa_eq _ (by omega) (by omega)) (ev_pos (by simp only [ByteArray.size_append, szl]; omega) ?_)))
    refine ev_ite (fun c => ev_now ?_) (fun c => ev_now ?_)
    · exact (if_pos c).symm
    · exact (if_neg c).symm
  unfold impl_AppendChecksum.f
  refine ev_ite (fun c => stop _ ?_) (fun c => ?_)
  · rw [decide_eq_true c]; rfl
  · refine ev_bind0 (contains35 x) (stop _ ?_)
    rw [decide_eq_false c]; rfl
def lineB (k : Int) (s r : ByteArray) : ByteArray := (((numB k ++ (⟨#[32]⟩ : ByteArray)) ++ s) ++ (⟨#[64]⟩ : ByteArray)) ++ r
theorem num_no35 (k : Int) (h0 : 0 ≤ k) (h1 : k ≤ 59) : (35 : UInt8) ∉ (numB k).data.toList := by
  have d10 : ∀ i : Fin 10, (35 : UInt8) ≠ UInt8.ofNat (48 + i.val) := by decide
  unfold numB
  obtain ⟨u, rfl⟩ : ∃ u : Nat, k = u := ⟨k.toNat, by omega⟩
  rw [Lib.itoa, if_neg (by omega), Int.toNat_natCast]
  by_cases hu : u < 10
  · rw [Lib.decDigits_one hu]
    simpa using d10 ⟨u, hu⟩
  · rw [Lib.decDigits_two hu (by omega)]
    have a := d10 ⟨u / 10, by omega⟩
    have b := d10 ⟨u % 10, by omega⟩
    intro hm
    have hm : (35 : UInt8) ∈ [UInt8.ofNat (48 + u / 10), UInt8.ofNat (48 + u % 10)] := hm
    rcases List.mem_cons.1 hm with h | h
    · exact a h
    · exact b (List.mem_singleton.1 h)
theorem log_no35 (s : ByteArray) (h : logB s = true) : (35 : UInt8) ∉ s.data.toList := by
  intro hm
  obtain ⟨i, hi, e⟩ := List.getElem_of_mem hm
  have hl : s.data.toList.length = s.size := by rw [Array.length_toList]; rfl
  have := all_range.1 h i (by omega)
  simp only [logAt, decide_eq_true_eq] at this
  rw [bt_get s i hi, e] at this
  exact this.2.2 rfl
theorem line_no35 (k : Int) (s r : ByteArray) (h0 : 0 ≤ k) (h1 : k ≤ 59) (hs : logB s = true) (hr : logB r = true) : (lineB k s r).data.toList.contains 35 = false := by
  rw [Bool.eq_false_iff, Ne, List.contains_iff_mem]
  unfold lineB
  simp only [ByteArray.data_append, Array.toList_append, List.mem_append]
  have a := num_no35 k h0 h1
  have b := log_no35 s hs
  have c := log_no35 r hr
  rintro ((((h | h) | h) | h) | h)
  · exact a h
  · revert h; decide
  · exact b h
  · revert h; decide
  · exact c h
def encOk (k : Int) (s r : ByteArray) : Bool := decide (0 ≤ k ∧ k ≤ 59) && recB s r
def encE (k : Int) (s r : ByteArray) : ByteArray × Bool := if encOk k s r = true then (sealB (lineB k s r) ++ (⟨#[10]⟩ : ByteArray), true) else (⟨#[]⟩, false)
theorem recB_iff {s r : ByteArray} (h : recB s r = true) : (1 ≤ s.size ∧ s.size ≤ 160) ∧ logB s = true ∧ logB r = true ∧ r.size ≤ 200 := by
  unfold recB cmdB at h
  simp only [Bool.and_eq_true, decide_eq_true_eq] at h
  obtain ⟨⟨⟨h1, h2⟩, _⟩, h3, h4⟩ := h
  exact ⟨by omega, h2, h3, by omega⟩
theorem line_size (k : Int) (s r : ByteArray) (h0 : 0 ≤ k) (h1 : k ≤ 59) (hs : s.size ≤ 160) (hr : r.size ≤ 200) : (lineB k s r).size ≤ 400 := by
  unfold lineB
  have := numB_size k (by omega) (by omega)
  simp only [ByteArray.size_append, szl]
  omega
theorem l27Line_ev (k : Int) (s r : ByteArray) (h0 : 0 ≤ k) (h1 : k ≤ 59) (hs : s.size ≤ 160) (hr : r.size ≤ 200) : Ev (fun q => spec_l27Line.f q k s r) (sealB (lineB k s r) ++ (⟨#[10]⟩ : ByteArray)) := by
  unfold spec_l27Line.f
  have hn := numB_size k (by omega) (by omega)
  have hl := line_size k s r h0 h1 hs hr
  have h2 := sum_size (lineB k s r)
  refine Ev.bind (l1Num_ev k (by omega) (by omega)) (ev_pos (by omega) (ev_pos (by simp only [ByteArray.size_append, szl]; omega) (ev_pos (by simp only [ByteArray.size_append, szl]; omega) (ev_pos (by simp only [ByteArray.size_append, szl]; omega) (Ev.bind (l1Seal_ev (lineB k s r) (by omega)) (ev_pos ?_ (ev_now rfl)))))))
  unfold sealB
  simp only [ByteArray.size_append, szl]
  omega
theorem app_line (k : Int) (s r : ByteArray) (h0 : 0 ≤ k) (h1 : k ≤ 59) (h : recB s r = true) : appB (lineB k s r) = (sealB (lineB k s r), true) := by
  obtain ⟨hs, hls, hlr, hr⟩ := recB_iff h
  have hl := line_size k s r h0 h1 hs.2 hr
  have h2 := sum_size (lineB k s r)
  unfold appB
  rw [line_no35 k s r h0 h1 hls hlr, decide_eq_false (by omega)]
  rw [if_neg (by simp)]
  refine if_neg ?_
  unfold sealB
  simp only [ByteArray.size_append, szl]
  omega
theorem implEnc_ev (k : Int) (s r : ByteArray) (hs : s.size ≤ 9223372036854775807) (hr : r.size ≤ 9223372036854775807) : Ev (fun q => impl_EncodeRecord.f q k s r) (encE k s r) := by
  have go : ∀ b : Bool, b = !(encOk k s r) → Ev (fun q => impl_EncodeRecord.j0 q k b s r) (encE k s r) := by
    intro b hb
    refine Ev.step (fun k => rfl) (ev_ite (fun c => ev_now ?_) (fun c => ?_))
    · unfold encE; rw [if_neg (by rw [c] at hb; simp at hb; rw [hb]; simp)]
    have hok : encOk k s r = true := by cases h : encOk k s r <;> simp_all
    unfold encE
    rw [if_pos hok]
    unfold encOk at hok
    rw [Bool.and_eq_true] at hok
    obtain ⟨h0, h1⟩ := of_decide_eq_true hok.1
    obtain ⟨hs1, hls, hlr, hr1⟩ := recB_iff hok.2
    have hn := numB_size k (by omega) (by omega)
    have hl := line_size k s r h0 h1 hs1.2 hr1
    have h2 := sum_size (lineB k s r)
    refine ev_bind0 (Itoa_eq k (by omega) (by omega)) (ev_pos (by omega) (ev_pos (by simp only [ByteArray.size_append, szl]; omega) (ev_pos (by simp only [ByteArray.size_append, szl]; omega) (ev_pos (by simp only [ByteArray.size_append, szl]; omega) (Ev.bind (appendChecksum_ev (lineB k s r) (by omega)) ?_)))))
    rw [app_line k s r h0 h1 hok.2]
    refine ev_pos ?_ (ev_now rfl)
    unfold sealB
    simp only [ByteArray.size_append, szl]
    omega
  unfold impl_EncodeRecord.f
  refine ev_bind0 (within_eq _ _ _) ?_
  refine ev_ite (fun c => ?_) (fun c => go _ ?_)
  · refine Ev.bind (implRec_ev s r hs hr) (go _ ?_)
    unfold encOk
    rw [c, Bool.true_and]
  · unfold encOk
    rw [Bool.not_eq_true] at c
    rw [c]; rfl
theorem l27Good_ev (s r : ByteArray) (hs : s.size ≤ 9223372036854775807) (hr : r.size ≤ 9223372036854775807) : Ev (fun k => spec_l27Good.f k s r) (recB s r) := goodRec_ev s r hs hr
end Go.Proofs.YtkdibcifamlciaaDoor.X
set_option linter.unusedVariables false
set_option linter.unusedSimpArgs false
namespace Go.Proofs.YtkdibcifamlciaaDoor.X
open Go.RowKit Go.Proofs.YtkdibcifamlciaaDoorW.PrintWords Go.Proofs.YtkdibcifamlciaaDoor.E
theorem l_len (s : ByteArray) : s.data.toList.length = s.size := by rw [Array.length_toList]; rfl
theorem ba_list {a b : ByteArray} (h : a.data.toList = b.data.toList) : a = b := ByteArray.ext (Array.toList_inj.1 h)
theorem ba_app (a b : ByteArray) : (a ++ b).data.toList = a.data.toList ++ b.data.toList := by rw [ByteArray.data_append, Array.toList_append]
theorem ba_cut {a a' b b' : ByteArray} (h : a ++ b = a' ++ b') (hs : a.size = a'.size) : a = a' ∧ b = b' := by
  have h1 := congrArg (fun x : ByteArray => x.data.toList) h
  simp only [ba_app] at h1
  obtain ⟨e1, e2⟩ := List.append_inj h1 (by rw [l_len, l_len, hs])
  exact ⟨ba_list e1, ba_list e2⟩
def one (c : UInt8) : ByteArray := ⟨#[c]⟩
def nob (c : UInt8) (a : ByteArray) : Prop := c ∉ a.data.toList
theorem one_size (c : UInt8) : (one c).size = 1 := rfl
theorem one_list (c : UInt8) : (one c).data.toList = [c] := rfl
def cat (a : ByteArray) (c : UInt8) (b : ByteArray) : ByteArray := (a ++ one c) ++ b
theorem cat_size (a : ByteArray) (c : UInt8) (b : ByteArray) : (cat a c b).size = a.size + 1 + b.size := by unfold cat; rw [ByteArray.size_append, ByteArray.size_append, one_size]
theorem cat_list (a : ByteArray) (c : UInt8) (b : ByteArray) : (cat a c b).data.toList = a.data.toList ++ c :: b.data.toList := by unfold cat; rw [ba_app, ba_app, one_list, List.append_assoc]; rfl
theorem split_or (c : UInt8) (x : ByteArray) : nob c x ∨ ∃ a b, x = cat a c b ∧ nob c a := by
  by_cases h : c ∈ x.data.toList
  · obtain ⟨a, b, e, hn⟩ := List.eq_append_cons_of_mem h
    refine Or.inr ⟨⟨a.toArray⟩, ⟨b.toArray⟩, ba_list ?_, hn⟩
    rw [cat_list, e]
  · exact Or.inl h
theorem idx_l0 : ∀ (l : List UInt8) (c : UInt8), c ∉ l → Lib.indexByte l c = -1
  | [], _, _ => rfl
  | b :: l, c, h => by
    have hb : (b == c) = false := by rw [beq_eq_false_iff_ne]; exact fun e => h (e ▸ List.mem_cons_self ..)
    rw [Lib.indexByte, hb, idx_l0 l c (fun m => h (List.mem_cons_of_mem _ m))]
    rfl
theorem idx_l1 : ∀ (l r : List UInt8) (c : UInt8), c ∉ l → Lib.indexByte (l ++ c :: r) c = (l.length : Int)
  | [], r, c, _ => by simp [Lib.indexByte]
  | b :: l, r, c, h => by
    have hb : (b == c) = false := by rw [beq_eq_false_iff_ne]; exact fun e => h (e ▸ List.mem_cons_self ..)
    rw [List.cons_append, Lib.indexByte, hb, idx_l1 l r c (fun m => h (List.mem_cons_of_mem _ m))]
    have : ((l.length : Int) == -1) = false := by rw [beq_eq_false_iff_ne]; omega
    rw [this]
    simp
theorem idx_no {c : UInt8} {x : ByteArray} (h : nob c x) : Lib.indexByte x.data.toList c = -1 := idx_l0 _ _ h
theorem idx_yes {c : UInt8} {a b : ByteArray} (h : nob c a) : Lib.indexByte (cat a c b).data.toList c = (a.size : Int) := by rw [cat_list, idx_l1 _ _ _ h, l_len]
theorem nob_cat {c d : UInt8} {a b : ByteArray} : nob c (cat a d b) ↔ nob c a ∧ c ≠ d ∧ nob c b := by unfold nob; rw [cat_list, List.mem_append, List.mem_cons]; constructor <;> (intro h; simp_all)
theorem split_uniq {c : UInt8} {a a' b b' : ByteArray} (h : cat a c b = cat a' c b') (ha : nob c a) (ha' : nob c a') : a = a' ∧ b = b' := by
  have h1 := idx_yes (b := b) ha
  rw [h, idx_yes ha'] at h1
  have hs : a.size = a'.size := by omega
  unfold cat at h
  have h2 := ba_cut h (by rw [ByteArray.size_append, ByteArray.size_append, hs])
  exact ⟨(ba_cut h2.1 hs).1, h2.2⟩
theorem not_nob (c : UInt8) (a b : ByteArray) : ¬ nob c (cat a c b) := fun h => (nob_cat.1 h).2.1 rfl
theorem cat_left (a : ByteArray) (c : UInt8) (b : ByteArray) : (cat a c b).extract 0 a.size = a := by unfold cat; rw [ByteArray.append_assoc]; exact ByteArray.extract_append_eq_left rfl
theorem cat_right (a : ByteArray) (c : UInt8) (b : ByteArray) : (cat a c b).extract (a.size + 1) (cat a c b).size = b := by
  rw [cat_size]; unfold cat; exact ByteArray.extract_append_eq_right (by rw [ByteArray.size_append, one_size]) (by rw [ByteArray.size_append, one_size])
theorem bt_no {c : UInt8} {x : ByteArray} (h : nob c x) (i : Nat) (hi : i < x.size) : bt x i ≠ (c.toNat : Int) := by
  have hi' : i < x.data.toList.length := by rw [l_len]; exact hi
  rw [bt_get x i hi']
  intro e
  have e2 : x.data.toList[i] = c := UInt8.toNat_inj.1 (by omega)
  exact h (e2 ▸ List.getElem_mem hi')
theorem bt_left {c : UInt8} {a b : ByteArray} (h : nob c a) (i : Nat) (hi : i < a.size) : bt (cat a c b) i ≠ (c.toNat : Int) := by
  have hl := l_len a
  have hi' : i < (cat a c b).data.toList.length := by rw [l_len, cat_size]; omega
  rw [bt_get _ i hi']
  have hh : (cat a c b).data.toList[i] = a.data.toList[i]'(by omega) := by
    have h1 : (cat a c b).data.toList[i]? = a.data.toList[i]? := by rw [cat_list, List.getElem?_append_left (by omega)]
    rw [List.getElem?_eq_getElem hi', List.getElem?_eq_getElem (by omega)] at h1
    exact Option.some.inj h1
  rw [hh]
  intro e
  have e2 : a.data.toList[i]'(by omega) = c := UInt8.toNat_inj.1 (by omega)
  exact h (e2 ▸ List.getElem_mem _)
theorem bt_at (a : ByteArray) (c : UInt8) (b : ByteArray) : bt (cat a c b) a.size = (c.toNat : Int) := by
  have hl := l_len a
  have hi' : a.size < (cat a c b).data.toList.length := by rw [l_len, cat_size]; omega
  rw [bt_get _ _ hi']
  have hh : (cat a c b).data.toList[a.size] = c := by
    have h1 : (cat a c b).data.toList[a.size]? = some c := by rw [cat_list, List.getElem?_append_right (by omega), hl, Nat.sub_self]; rfl
    rw [List.getElem?_eq_getElem hi'] at h1
    exact Option.some.inj h1
  rw [hh]
theorem split_any (x : ByteArray) (c : Int) (hx : x.size < 8796093022208) : ∀ (n i st : Nat) (out : List ByteArray), x.size - i = n → st ≤ i → i ≤ x.size → out.length ≤ st → ∃ y ys, Ev (fun k => spec_l1Split.l0 k x c out (st : Int) (i : Int)) (out ++ y :: ys) := by
  intro n
  induction n with
  | zero =>
    intro i st out hn hs hi ho
    exact ⟨x.extract ((st : Int)).toNat x.size, [], Ev.step (fun k => rfl) (ev_neg (by omega) (ev_pos (by omega) (ev_pos (by omega) (ev_pos (by omega) (ev_now rfl)))))⟩
  | succ n ih =>
    intro i st out hn hs hi ho
    by_cases hc : bt x i = c
    · obtain ⟨y, ys, h⟩ := ih (i + 1) (i + 1) (out ++ [x.extract ((st : Int)).toNat ((i : Int)).toNat]) (by omega) (Nat.le_refl _) (by omega) (by rw [List.length_append, List.length_singleton]; omega)
      refine ⟨x.extract ((st : Int)).toNat ((i : Int)).toNat, y :: ys, Ev.step (fun k => rfl) (ev_pos (by omega) (ev_pos (by omega) (ev_pos hc (ev_pos (by omega) (ev_pos (by omega) (ev_pos (by omega) (ev_pos (by omega) ?_)))))))⟩
      rw [wrap_succ (show i < x.size by omega) (by omega)]
      rw [List.append_assoc] at h
      exact h
    · obtain ⟨y, ys, h⟩ := ih (i + 1) st out (by omega) (by omega) (by omega) ho
      refine ⟨y, ys, Ev.step (fun k => rfl) (ev_pos (by omega) (ev_pos (by omega) (ev_neg hc ?_)))⟩
      rw [wrap_succ (show i < x.size by omega) (by omega)]
      exact h
theorem split_no {c : UInt8} {x : ByteArray} (h : nob c x) (hx : x.size < 8796093022208) (c' : Int) (hc : c' = (c.toNat : Int)) : Ev (fun k => spec_l1Split.f k x c') [x] := by
  have go : ∀ (n i : Nat), x.size - i = n → i ≤ x.size → Ev (fun k => spec_l1Split.l0 k x c' [] ((0 : Nat) : Int) (i : Int)) [x] := by
    intro n
    induction n with
    | zero =>
      intro i hn hi
      refine Ev.step (fun k => rfl) (ev_neg (by omega) (ev_pos (by omega) (ev_pos (by omega) (ev_pos (by simp) (ev_now ?_)))))
      rw [List.nil_append, Int.toNat_natCast, ByteArray.extract_zero_size]
    | succ n ih =>
      intro i hn hi
      refine Ev.step (fun k => rfl) (ev_pos (by omega) (ev_pos (by omega) (ev_neg (by rw [hc]; exact bt_no h i (by omega)) ?_)))
      rw [wrap_succ (show i < x.size by omega) (by omega)]
      exact ih (i + 1) (by omega) (by omega)
  exact go x.size 0 (by omega) (by omega)
theorem split_yes {c : UInt8} {a b : ByteArray} (h : nob c a) (hx : (cat a c b).size < 8796093022208) (c' : Int) (hc : c' = (c.toNat : Int)) : ∃ y ys, Ev (fun k => spec_l1Split.f k (cat a c b) c') (a :: y :: ys) := by
  have hz := cat_size a c b
  obtain ⟨y, ys, hA⟩ := split_any (cat a c b) c' hx ((cat a c b).size - (a.size + 1)) (a.size + 1) (a.size + 1) [a] rfl (Nat.le_refl _) (by omega) (by simp)
  refine ⟨y, ys, ?_⟩
  have go : ∀ (n i : Nat), a.size - i = n → i ≤ a.size → Ev (fun k => spec_l1Split.l0 k (cat a c b) c' [] ((0 : Nat) : Int) (i : Int)) (a :: y :: ys) := by
    intro n
    induction n with
    | zero =>
      intro i hn hi
      obtain rfl : i = a.size := by omega
      refine Ev.step (fun k => rfl) (ev_pos (by omega) (ev_pos (by omega) (ev_pos (by rw [hc]; exact bt_at a c b) (ev_pos (by omega) (ev_pos (by omega) (ev_pos (by omega) (ev_pos (by simp) ?_)))))))
      rw [wrap_succ (show a.size < (cat a c b).size by omega) (by omega), Int.toNat_natCast, Int.toNat_natCast, cat_left]
      exact hA
    | succ n ih =>
      intro i hn hi
      refine Ev.step (fun k => rfl) (ev_pos (by omega) (ev_pos (by omega) (ev_neg (by rw [hc]; exact bt_left h i (by omega)) ?_)))
      rw [wrap_succ (show i < (cat a c b).size by omega) (by omega)]
      exact ih (i + 1) (by omega) (by omega)
  exact go a.size 0 (by omega) (by omega)
theorem cut_no {c : UInt8} {x : ByteArray} (h : nob c x) : strings_Cut.f x (one c) = some (x, (⟨#[]⟩ : ByteArray), false) := by
  have h0 : stringslite_Index.f x (one c) = some (-1) := by show some (Lib.indexByte x.data.toList c) = _; rw [idx_no h]
  have h1 : stringslite_Cut.f x (one c) = some (x, (⟨#[]⟩ : ByteArray), false) := by unfold stringslite_Cut.f; rw [h0]; rfl
  unfold strings_Cut.f; rw [h1]; rfl
theorem cut_yes {c : UInt8} {a b : ByteArray} (h : nob c a) (hx : (cat a c b).size ≤ 4611686018427387904) : strings_Cut.f (cat a c b) (one c) = some (a, b, true) := by
  have hz := cat_size a c b
  have h0 : stringslite_Index.f (cat a c b) (one c) = some (a.size : Int) := by show some (Lib.indexByte (cat a c b).data.toList c) = _; rw [idx_yes h]
  have hw : wrap64 ((a.size : Int) + ((one c).size : Int)) = ((a.size + 1 : Nat) : Int) := by rw [one_size]; exact wrap_succ (show a.size < (cat a c b).size by omega) (by omega)
  have h1 : stringslite_Cut.f (cat a c b) (one c) = some (a, b, true) := by
    unfold stringslite_Cut.f
    rw [h0, Option.bind_some]
    rw [hw, if_pos (by omega), if_pos (by omega), if_pos (by omega), if_pos (by omega), if_pos (by omega), Int.toNat_natCast, Int.toNat_natCast, cat_left, cat_right]
  unfold strings_Cut.f; rw [h1]; rfl
theorem trim_yes (x : ByteArray) (c : UInt8) (hx : x.size ≤ 4611686018427387904) : strings_TrimSuffix.f (x ++ one c) (one c) = some x := by
  have hz : (x ++ one c).size = x.size + 1 := by rw [ByteArray.size_append]; rfl
  have hw : wrap64 (((x ++ one c).size : Int) - ((one c).size : Int)) = (x.size : Int) := by rw [hz, one_size, wrap_id (by omega) (by omega)]; omega
  have e1 : (x ++ one c).extract x.size (x ++ one c).size = one c := by rw [hz]; exact ByteArray.extract_append_eq_right rfl rfl
  have e2 : (x ++ one c).extract 0 x.size = x := ByteArray.extract_append_eq_left rfl
  have h0 : stringslite_HasSuffix.f (x ++ one c) (one c) = some true := by
    unfold stringslite_HasSuffix.f
    rw [hw, if_pos (by rw [hz, one_size]; omega), if_pos (by omega), if_pos (by omega), Int.toNat_natCast, e1, beq_self_eq_true]
  have h1 : stringslite_TrimSuffix.f (x ++ one c) (one c) = some x := by
    unfold stringslite_TrimSuffix.f
    rw [h0, Option.bind_some]
    rw [hw, if_pos rfl, if_pos (by omega), if_pos (by omega), Int.toNat_natCast, e2]
  unfold strings_TrimSuffix.f; rw [h1]; rfl
end Go.Proofs.YtkdibcifamlciaaDoor.X
set_option linter.unusedVariables false
set_option linter.unusedSimpArgs false
namespace Go.Proofs.YtkdibcifamlciaaDoor.X
open Go.RowKit Go.Proofs.YtkdibcifamlciaaDoorW.PrintWords Go.Proofs.YtkdibcifamlciaaDoor.E
theorem hasB_no (s : ByteArray) (h : hasB s 64 = false) : nob 64 s := by
  have h1 := contains_at s
  have h2 : strings_Contains.f s (⟨#[64]⟩ : ByteArray) = some (decide (0 ≤ Lib.indexByte s.data.toList 64)) := rfl
  rw [h1] at h2
  have h3 := Option.some.inj h2
  rw [← Lib.contains_iff_indexByte, h] at h3
  intro hm
  rw [List.contains_iff_mem.2 hm] at h3
  exact absurd h3 (by simp)
theorem rec_no64 {s r : ByteArray} (h : recB s r = true) : nob 64 s := by
  unfold recB cmdB at h
  simp only [Bool.and_eq_true, Bool.not_eq_true'] at h
  exact hasB_no s h.1.2
theorem num_no {c : UInt8} (hc : c.toNat < 48) (k : Int) (h0 : 0 ≤ k) (h1 : k ≤ 59) : nob c (numB k) := by
  have d : ∀ i : Fin 10, 48 ≤ (UInt8.ofNat (48 + i.val)).toNat := by decide
  have d10 : ∀ i : Fin 10, c ≠ UInt8.ofNat (48 + i.val) := fun i e => by have := d i; rw [← e] at this; omega
  unfold nob numB
  obtain ⟨u, rfl⟩ : ∃ u : Nat, k = u := ⟨k.toNat, by omega⟩
  rw [Lib.itoa, if_neg (by omega), Int.toNat_natCast]
  by_cases hu : u < 10
  · rw [Lib.decDigits_one hu]
    simpa using d10 ⟨u, hu⟩
  · rw [Lib.decDigits_two hu (by omega)]
    have a := d10 ⟨u / 10, by omega⟩
    have b := d10 ⟨u % 10, by omega⟩
    intro hm
    have hm : c ∈ [UInt8.ofNat (48 + u / 10), UInt8.ofNat (48 + u % 10)] := hm
    rcases List.mem_cons.1 hm with h | h
    · exact a h
    · exact b (List.mem_singleton.1 h)
theorem tl_inj {a b : ByteArray} : a.toList = b.toList ↔ a = b := ⟨fun h => ba_list (by rwa [ByteArray.toList_eq, ByteArray.toList_eq] at h), fun h => by rw [h]⟩
def Enc (k : Int) (x c r : ByteArray) : Prop := (0 ≤ k ∧ k ≤ 59) ∧ recB c r = true ∧ sealB (lineB k c r) = x
theorem line_cat (k : Int) (c r : ByteArray) : lineB k c r = cat (numB k) 32 (cat c 64 r) := by unfold lineB cat; simp only [ByteArray.append_assoc]; rfl
theorem line_pre (k : Int) (c r : ByteArray) : lineB k c r = (numB k ++ (⟨#[32]⟩ : ByteArray)) ++ cat c 64 r := by rw [line_cat]; rfl
theorem seal_cat (x : ByteArray) : sealB x = cat x 35 (numB (sumB x)) := rfl
theorem enc_nob {k : Int} {x c r : ByteArray} (h : Enc k x c r) : nob 35 (lineB k c r) := by
  obtain ⟨hs, hls, hlr, hr⟩ := recB_iff h.2.1
  have := line_no35 k c r h.1.1 h.1.2 hls hlr
  intro hm
  rw [List.contains_iff_mem.2 hm] at this
  exact absurd this (by simp)
theorem enc_has {k : Int} {x c r : ByteArray} (h : Enc k x c r) : ¬ nob 35 x := by rw [← h.2.2, seal_cat]; exact not_nob _ _ _
theorem enc_line {k : Int} {w z c r : ByteArray} (h : Enc k (cat w 35 z) c r) (hw : nob 35 w) : w = lineB k c r := by
  have e := h.2.2
  rw [seal_cat] at e
  exact (split_uniq e (enc_nob h) hw).1.symm
theorem enc_rest {k : Int} {c r a t : ByteArray} (e : lineB k c r = cat a 32 t) (h : nob 32 a) (hk : 0 ≤ k ∧ k ≤ 59) : t = cat c 64 r := by
  rw [line_cat] at e
  exact (split_uniq e (num_no (by decide) k hk.1 hk.2) h).2.symm
theorem enc_uniq {k : Int} {x c r c' r' : ByteArray} (h : Enc k x c r) (h' : Enc k x c' r') : c = c' ∧ r = r' := by
  have e := h.2.2.trans h'.2.2.symm
  rw [seal_cat, seal_cat] at e
  have e1 := (split_uniq e (enc_nob h) (enc_nob h')).1
  rw [line_cat, line_cat] at e1
  have n := num_no (c := 32) (by decide) k h.1.1 h.1.2
  exact split_uniq (split_uniq e1 n n).2 (rec_no64 h.2.1) (rec_no64 h'.2.1)
theorem idx35 (x : ByteArray) : strings_IndexByte.f x 35 = some (Lib.indexByte x.data.toList 35) := rfl
theorem verify_no {x : ByteArray} (h : nob 35 x) : Ev (fun k => impl_VerifyChecksum.f k x) ((⟨#[]⟩ : ByteArray), false) := by
  unfold impl_VerifyChecksum.f
  exact ev_bind0 ((idx35 x).trans (congrArg some (idx_no h))) (ev_pos (by omega) (ev_now rfl))
theorem verify_good {w z : ByteArray} (h : nob 35 w) (hx : (cat w 35 z).size ≤ 4194304) (ha : appB w = (cat w 35 z, true)) : Ev (fun k => impl_VerifyChecksum.f k (cat w 35 z)) (w, true) := by
  have hz := cat_size w 35 z
  unfold impl_VerifyChecksum.f
  refine ev_bind0 ((idx35 _).trans (congrArg some (idx_yes h))) (ev_neg (by omega) (ev_pos (by omega) (ev_pos (by omega) ?_)))
  rw [Int.toNat_natCast, cat_left]
  refine Ev.bind (appendChecksum_ev w (by omega)) ?_
  rw [ha]
  exact ev_pos rfl (ev_pos rfl (ev_now rfl))
theorem verify_bad {w z : ByteArray} (h : nob 35 w) (hx : (cat w 35 z).size ≤ 4194304) (ha : appB w ≠ (cat w 35 z, true)) : Ev (fun k => impl_VerifyChecksum.f k (cat w 35 z)) ((⟨#[]⟩ : ByteArray), false) := by
  have hz := cat_size w 35 z
  unfold impl_VerifyChecksum.f
  refine ev_bind0 ((idx35 _).trans (congrArg some (idx_yes h))) (ev_neg (by omega) (ev_pos (by omega) (ev_pos (by omega) ?_)))
  rw [Int.toNat_natCast, cat_left]
  refine Ev.bind (appendChecksum_ev w (by omega)) ?_
  exact ev_ite (fun c => ev_neg (fun e => ha (Prod.ext (tl_inj.1 e) c)) (ev_now rfl)) (fun _ => ev_now rfl)
theorem nob_nil (c : UInt8) : nob c (⟨#[]⟩ : ByteArray) := fun h => nomatch h
theorem dec_ev (k : Int) (x : ByteArray) (hx : x.size ≤ 4194304) : (∃ c r, Enc k x c r ∧ Ev (fun q => impl_decoded.f q k (x ++ one 10)) (c, r, true)) ∨ ((∀ c r, ¬ Enc k x c r) ∧ Ev (fun q => impl_decoded.f q k (x ++ one 10)) ((⟨#[]⟩ : ByteArray), (⟨#[]⟩ : ByteArray), false)) := by
  have htr := trim_yes x 10 (by omega)
  rcases split_or 35 x with h | ⟨w, z, rfl, hw⟩
  · refine Or.inr ⟨fun c r e => enc_has e h, ?_⟩
    unfold impl_decoded.f
    exact ev_bind0 htr (Ev.bind (verify_no h) (ev_neg (by simp) (ev_now rfl)))
  have hz := cat_size w 35 z
  by_cases ha : appB w = (cat w 35 z, true)
  case neg =>
    refine Or.inr ⟨fun c r e => ha ?_, ?_⟩
    · have h1 := app_line k c r e.1.1 e.1.2 e.2.1
      have h2 := e.2.2
      rw [← enc_line e hw] at h1 h2
      rw [h1, h2]
    · unfold impl_decoded.f
      exact ev_bind0 htr (Ev.bind (verify_bad hw hx ha) (ev_neg (by simp) (ev_now rfl)))
  obtain ⟨p, q, hp, hq, hcs, hrs, hun⟩ : ∃ p q : ByteArray × ByteArray × Bool, strings_Cut.f w (⟨#[32]⟩ : ByteArray) = some p ∧ strings_Cut.f p.2.1 (⟨#[64]⟩ : ByteArray) = some q ∧ q.1.size ≤ w.size ∧ q.2.1.size ≤ w.size ∧ ∀ c' r', lineB k c' r' = w → nob 64 c' → (0 ≤ k ∧ k ≤ 59) → c' = q.1 ∧ r' = q.2.1 := by
    rcases split_or 32 w with h32 | ⟨a, t, rfl, h32⟩
    · refine ⟨_, _, cut_no h32, cut_no (c := 64) (nob_nil 64), Nat.zero_le _, Nat.zero_le _, fun c' r' e _ _ => absurd h32 ?_⟩
      rw [← e, line_cat]; exact not_nob _ _ _
    · have hz2 := cat_size a 32 t
      rcases split_or 64 t with h64 | ⟨c, r, rfl, h64⟩
      · refine ⟨_, _, cut_yes h32 (by omega), cut_no (c := 64) h64, by show t.size ≤ _; omega, Nat.zero_le _, fun c' r' e _ hk => absurd h64 ?_⟩
        rw [enc_rest e h32 hk]; exact not_nob _ _ _
      · have hz3 := cat_size c 64 r
        refine ⟨_, _, cut_yes h32 (by omega), cut_yes (c := 64) h64 (by show (cat c 64 r).size ≤ _; omega), by show c.size ≤ _; omega, by show r.size ≤ _; omega, fun c' r' e h' hk => ?_⟩
        exact split_uniq (enc_rest e h32 hk).symm h' h64
  have henc := implEnc_ev k q.1 q.2.1 (by omega) (by omega)
  by_cases E : Enc k (cat w 35 z) q.1 q.2.1
  · refine Or.inl ⟨q.1, q.2.1, E, ?_⟩
    unfold impl_decoded.f
    refine ev_bind0 htr (Ev.bind (verify_good hw hx ha) (ev_pos rfl (ev_bind0 hp (ev_bind0 hq (Ev.bind henc ?_)))))
    have hok : encOk k q.1 q.2.1 = true := by unfold encOk; rw [decide_eq_true E.1, E.2.1]; rfl
    unfold encE
    rw [if_pos hok, E.2.2]
    exact ev_pos rfl (ev_pos rfl (ev_now rfl))
  · refine Or.inr ⟨fun c' r' e' => E ?_, ?_⟩
    · obtain ⟨e1, e2⟩ := hun c' r' (enc_line e' hw).symm (rec_no64 e'.2.1) e'.1
      rw [← e1, ← e2]; exact e'
    · unfold impl_decoded.f
      refine ev_bind0 htr (Ev.bind (verify_good hw hx ha) (ev_pos rfl (ev_bind0 hp (ev_bind0 hq (Ev.bind henc ?_)))))
      unfold encE
      by_cases hok : encOk k q.1 q.2.1 = true
      · rw [if_pos hok]
        refine ev_pos rfl (ev_neg (fun e => E ?_) (ev_now rfl))
        unfold encOk at hok
        rw [Bool.and_eq_true] at hok
        exact ⟨of_decide_eq_true hok.1, hok.2, (ba_cut (tl_inj.1 e) (by have := congrArg ByteArray.size (tl_inj.1 e); rw [ByteArray.size_append, ByteArray.size_append, one_size, szl] at this; omega)).1⟩
      · rw [if_neg hok]
        exact ev_neg (by simp) (ev_now rfl)
theorem ba_halves (t : ByteArray) (n : Nat) (hn : n ≤ t.size) : t = t.extract 0 n ++ t.extract n t.size := by
  apply ba_list
  have hl := l_len t
  rw [ba_app, ByteArray.data_extract, ByteArray.data_extract, Array.toList_extract, Array.toList_extract, List.extract_eq_take_drop, List.extract_eq_take_drop, List.drop_zero, Nat.sub_zero, List.take_of_length_le (l := List.drop n _) (by rw [List.length_drop]; omega), List.take_append_drop]
theorem read_ev (k : Int) (hk : 0 ≤ k ∧ k ≤ 59) (x : ByteArray) (hx : x.size ≤ 4194304) : (∃ c r, Enc k x c r ∧ Ev (fun q => spec_l27Read.f q x k) (c, r, true)) ∨ ((∀ c r, ¬ Enc k x c r) ∧ ∃ c r, Ev (fun q => spec_l27Read.f q x k) (c, r, false)) := by
  have hn := numB_size k (by omega) (by omega)
  obtain ⟨t, ts, hsp, hts, hE⟩ : ∃ t ts, Ev (fun q => spec_l1Split.f q x 35) (t :: ts) ∧ t.size ≤ x.size ∧ ∀ c r, Enc k x c r → t = lineB k c r := by
    rcases split_or 35 x with h | ⟨w, z, rfl, hw⟩
    · exact ⟨x, [], split_no h (by omega) 35 rfl, Nat.le_refl _, fun c r e => absurd h (enc_has e)⟩
    · obtain ⟨y, ys, hs⟩ := split_yes (b := z) hw (by omega) 35 rfl
      exact ⟨w, y :: ys, hs, by rw [cat_size]; omega, fun c r e => enc_line e hw⟩
  have hrd : rdOf ByteArray.empty (t :: ts) 0 = t := rfl
  have hah : (numB k ++ (⟨#[32]⟩ : ByteArray)).size = (numB k).size + 1 := by rw [ByteArray.size_append]; rfl
  have open_ : ∀ {r : ByteArray × ByteArray × Bool}, (((t.size : Int) < ((numB k ++ (⟨#[32]⟩ : ByteArray)).size : Int)) → Ev (fun q => spec_l27Read.j0 q x k (numB k ++ (⟨#[32]⟩ : ByteArray)) t true) r) → (¬ ((t.size : Int) < ((numB k ++ (⟨#[32]⟩ : ByteArray)).size : Int)) → Ev (fun q => spec_l27Read.j0 q x k (numB k ++ (⟨#[32]⟩ : ByteArray)) t ((t.extract 0 (numB k ++ (⟨#[32]⟩ : ByteArray)).size).toList != (numB k ++ (⟨#[32]⟩ : ByteArray)).toList)) r) → Ev (fun q => spec_l27Read.f q x k) r := by
    intro r h1 h2
    unfold spec_l27Read.f
    refine Ev.bind (l1Num_ev k (by omega) (by omega)) (ev_pos (by omega) (Ev.bind hsp (ev_pos (by simp) ?_)))
    rw [hrd]
    exact ev_ite h1 (fun c => ev_pos (by omega) (ev_pos (by omega) (h2 c)))
  by_cases hp : ∃ rest, t = (numB k ++ (⟨#[32]⟩ : ByteArray)) ++ rest
  case neg =>
    refine Or.inr ⟨fun c r e => hp ⟨cat c 64 r, by rw [hE c r e, line_pre]⟩, (⟨#[]⟩ : ByteArray), (⟨#[]⟩ : ByteArray), open_ (fun _ => Ev.step (fun k => rfl) (ev_now rfl)) (fun c => ?_)⟩
    refine Ev.step (fun k => rfl) (ev_pos ?_ (ev_now rfl))
    rw [bne_iff_ne]
    intro e
    refine hp ⟨t.extract (numB k ++ (⟨#[32]⟩ : ByteArray)).size t.size, ?_⟩
    conv => lhs; rw [ba_halves t (numB k ++ (⟨#[32]⟩ : ByteArray)).size (by omega)]
    rw [tl_inj.1 e]
  obtain ⟨rest, ht⟩ := hp
  have htz : t.size = (numB k ++ (⟨#[32]⟩ : ByteArray)).size + rest.size := by rw [ht, ByteArray.size_append]
  have e0 : t.extract 0 (numB k ++ (⟨#[32]⟩ : ByteArray)).size = numB k ++ (⟨#[32]⟩ : ByteArray) := by rw [ht]; exact ByteArray.extract_append_eq_left rfl
  have e1 : t.extract (numB k ++ (⟨#[32]⟩ : ByteArray)).size t.size = rest := by rw [htz, ht]; exact ByteArray.extract_append_eq_right rfl rfl
  have go : ∀ {r : ByteArray × ByteArray × Bool}, (∀ b, b = false → Ev (fun q => spec_l27Read.j0 q x k (numB k ++ (⟨#[32]⟩ : ByteArray)) t b) r) → Ev (fun q => spec_l27Read.f q x k) r := by
    intro r h
    refine open_ (fun c => absurd c (by omega)) (fun c => h _ ?_)
    rw [e0, bne_self_eq_false]
  have hrest : ∀ c r, Enc k x c r → rest = cat c 64 r := by
    intro c r e
    have h1 := hE c r e
    rw [ht, line_pre] at h1
    exact (ba_cut h1 rfl).2
  rcases split_or 64 rest with h64 | ⟨c, r, hc, h64⟩
  · refine Or.inr ⟨fun c r e => not_nob 64 c r (hrest c r e ▸ h64), (⟨#[]⟩ : ByteArray), (⟨#[]⟩ : ByteArray), go (fun bb hbb => ?_)⟩
    refine Ev.step (fun k => rfl) (ev_neg (by rw [hbb]; simp) (ev_pos (by omega) (ev_pos (by omega) ?_)))
    rw [e1]
    exact Ev.bind (split_no h64 (by omega) 64 rfl) (ev_pos (by simp) (ev_pos rfl (ev_now rfl)))
  have hcz := cat_size c 64 r
  rw [← hc] at hcz
  obtain ⟨y, ys, hs⟩ := split_yes (b := r) h64 (by rw [← hc]; omega) 64 rfl
  rw [← hc] at hs
  have hw : wrap64 ((c.size : Int) + 1) = ((c.size + 1 : Nat) : Int) := wrap_succ (show c.size < rest.size by omega) (by omega)
  have e2 : rest.extract (c.size + 1) rest.size = r := by rw [hc]; exact cat_right c 64 r
  have hrd2 : rdOf ByteArray.empty (c :: y :: ys) 0 = c := rfl
  have hgood := l27Good_ev c r (by omega) (by omega)
  have go2 : ∀ {o : ByteArray × ByteArray × Bool}, (recB c r = true → Ev (fun q => (spec_l27Line.f q k c r).bind fun t113 => if x.size + 1 ≤ 9223372036854775807 then some (c, r, t113.toList == (x ++ (⟨#[10]⟩ : ByteArray)).toList) else none) o) → (¬ recB c r = true → o = (c, r, false)) → Ev (fun q => spec_l27Read.f q x k) o := by
    intro o h1 h2
    refine go (fun bb hbb => Ev.step (fun k => rfl) (ev_neg (by rw [hbb]; simp) (ev_pos (by omega) (ev_pos (by omega) ?_))))
    rw [e1]
    refine Ev.bind hs ?_
    rw [hrd2, hw, Int.toNat_natCast, e2]
    refine ev_pos (by rw [List.length_cons]; omega) (ev_neg (by omega) (ev_pos (by omega) (ev_pos (by omega) (Ev.bind hgood (ev_ite h1 (fun c => ev_now (h2 c).symm))))))
  by_cases E : Enc k x c r
  · refine Or.inl ⟨c, r, E, go2 (fun h => ?_) (fun h => absurd E.2.1 h)⟩
    obtain ⟨hs1, hls, hlr, hr1⟩ := recB_iff h
    refine Ev.bind (l27Line_ev k c r hk.1 hk.2 hs1.2 hr1) (ev_pos (by omega) (ev_now ?_))
    rw [E.2.2, beq_self_eq_true]
  · refine Or.inr ⟨fun c' r' e' => E ?_, c, r, go2 (fun h => ?_) (fun _ => rfl)⟩
    · have h1 := hrest c' r' e'
      rw [hc] at h1
      obtain ⟨rfl, rfl⟩ := split_uniq h1 h64 (rec_no64 e'.2.1)
      exact e'
    · obtain ⟨hs1, hls, hlr, hr1⟩ := recB_iff h
      refine Ev.bind (l27Line_ev k c r hk.1 hk.2 hs1.2 hr1) (ev_pos (by omega) (ev_now ?_))
      have : ((sealB (lineB k c r) ++ (⟨#[10]⟩ : ByteArray)).toList == (x ++ (⟨#[10]⟩ : ByteArray)).toList) = false := by
        rw [beq_eq_false_iff_ne]
        intro e
        exact E ⟨hk, h, (ba_cut (tl_inj.1 e) (by have := congrArg ByteArray.size (tl_inj.1 e); rw [ByteArray.size_append, ByteArray.size_append, szl] at this; omega)).1⟩
      rw [this]
end Go.Proofs.YtkdibcifamlciaaDoor.X
