/- For every row of bytes the law FnAnswers answers true: clearing hidden answers changes no visible field and leaves none hidden, and an answer that is set is there. No condition.
This file (part 4 of 6) holds what the proof needs: plain functions with rounds and contracts written by programs of this work over the translation, and the lemmas. -/
import Derived.Test.YtiaiohoadefgjaaDoorZFnAnswers2
import Derived.Test.YtiaiohoadefgjaaDoorZFnAnswers3
import Derived.Shelf.Abstract
import Derived.Shelf.Strings.Builder1
import Derived.Shelf.Strings.Builder2
import Derived.Shelf.Strings.OnBuilder
import Derived.Shelf.Strconv.Atoi
import Derived.Shelf.Strconv.Itoa0
import Derived.Shelf.Strconv.Itoa1
import Derived.Shelf.LaysM
import Derived.Shelf.Strconv.Itoa2
import Derived.Shelf.Strconv.Itoa3
import Derived.Shelf.Strconv.AtoiErrFast
import Derived.Shelf.Strconv.ParseIntEmpty
import Derived.Shelf.Strconv.AtoiFail
import Derived.Shelf.Strconv.Clone
import Derived.Shelf.Strconv.SyntaxError
import Derived.Shelf.LaysC
import Derived.Shelf.Strconv.ToError
import Derived.Shelf.Strconv.AtoiErr
import Derived.Shelf.Strconv.Lower
import Derived.Shelf.Strconv.ParseUint10
import Derived.Shelf.Strconv.ParseUint10Empty
import Derived.Shelf.Strconv.ParseUint10Any
import Derived.Shelf.Strconv.ParseInt10
import Derived.Shelf.Strconv.AtoiLong
import Derived.Shelf.Strconv.AtoiInnerAll
import Derived.Shelf.Strconv.RangeError
import Derived.Shelf.Strconv.ToErrorRange
import Derived.Shelf.Strconv.AtoiAll
import Derived.Shelf.Strconv.ErrVarAll
import Derived.Shelf.Strings.Search1
import Derived.Shelf.Strings.Search2
import Derived.Shelf.Strings.Search3
import Derived.Shelf.Strings.Count
import Derived.Shelf.Strings.Shaped
import Derived.Shelf.Strings.Split
import Derived.Shelf.Unicode.DecodeSlow
import Derived.Test.YtiaiohoadefgjaaDoorProg
import Derived.Lib.AppendIntMem
import Derived.Lib.AtoiErrMem
import Derived.Lib.AtoiAllCases
import Derived.Lib.Strings
import Derived.Lib.SmallJoins
namespace Go.Proofs.YtiaiohoadefgjaaDoor.X
open Go.RowKit Go.Proofs.YtiaiohoadefgjaaDoorW.PrintWords Go.Proofs.YtiaiohoadefgjaaDoorW.PrintLast Go.Proofs.YtiaiohoadefgjaaDoorW.PrintMore
attribute [local go_sem] max2_int min2_int max_two min_two max_three min_three max_four min_four
set_option linter.unusedVariables false
set_option linter.unusedSimpArgs false
attribute [-simp] ByteArray.size_append ByteArray.size_extract
attribute [-go_sem] ByteArray.size_append'
/-! ### impl_isField: function 33 -/
mutual
def impl_isField.j0 : Nat → List (S54) → Bool → ByteArray → Int → Int → Int → List ByteArray → Bool → ByteArray → Option (Bool)
 | 0, _, _, _, _, _, _, _, _, _ => none
 | k + 1, x0, x18, x102000, x102001, x102002, x102003, x102004, x102005, x102006 => if x18 = true then (some false) else ((impl_fieldOf.f x0 x102006).bind fun t104 => (if x102006.toList = ([] : List UInt8) then (impl_isField.j1 k false x102000 x102001 x102002 x102003 x102004 x102005 x102006) else (if t104 < 0 then (impl_isField.j1 k true x102000 x102001 x102002 x102003 x102004 x102005 x102006) else (if 0 ≤ t104 then (if t104 < (x0.length : Int) then (impl_isField.j1 k (((rd_T54 x0 t104).f1) != 4) x102000 x102001 x102002 x102003 x102004 x102005 x102006) else (none)) else (none)))))
def impl_isField.j1 : Nat → Bool → ByteArray → Int → Int → Int → List ByteArray → Bool → ByteArray → Option (Bool)
 | 0, _, _, _, _, _, _, _, _ => none
 | k + 1, x37, x102000, x102001, x102002, x102003, x102004, x102005, x102006 => if x37 = true then (some false) else (if x102001 = 3 then (impl_isField.j2 k false x102000 x102001 x102002 x102003 x102004 x102005 x102006) else (impl_isField.j2 k (decide ((x102004.length : Int) > 0)) x102000 x102001 x102002 x102003 x102004 x102005 x102006))
def impl_isField.j2 : Nat → Bool → ByteArray → Int → Int → Int → List ByteArray → Bool → ByteArray → Option (Bool)
 | 0, _, _, _, _, _, _, _, _ => none
 | k + 1, x46, x102000, x102001, x102002, x102003, x102004, x102005, x102006 => if x46 = true then (some false) else (if x102001 = 1 then (if x102002 ≥ (-999999) then (if x102002 ≤ x102003 then (some (decide (x102003 ≤ 999999))) else (some false)) else (some false)) else (if x102001 = 2 then (if x102002 ≥ 0 then (if x102002 ≤ x102003 then (some (decide (x102003 ≤ 40))) else (some false)) else (some false)) else (if x102001 = 3 then (impl_isField.l0 k x102004 (x102004.length : Int) 0 x102000 x102001 x102002 x102003 x102004 x102005 x102006) else (if x102001 = 4 then (if x102002 = 0 then (some (x102003 == 0)) else (some false)) else (some false)))))
def impl_isField.l0 : Nat → List ByteArray → Int → Int → ByteArray → Int → Int → Int → List ByteArray → Bool → ByteArray → Option (Bool)
 | 0, _, _, _, _, _, _, _, _, _, _ => none
 | k + 1, x86, x87, x88, x102000, x102001, x102002, x102003, x102004, x102005, x102006 => if x88 < x87 then (if 0 ≤ x88 then (if x88 < (x86.length : Int) then ((impl_isName.f k (rdOf ByteArray.empty x86 x88)).bind fun t108 => (if t108 = true then (if x88 ≤ (x102004.length : Int) then ((slices_Contains_string_string.f k (x102004.take (x88 : Int).toNat) (rdOf ByteArray.empty x86 x88)).bind fun t110 => (if t110 = true then (some false) else (impl_isField.l0 k x86 x87 (wrap64 (x88 + 1)) x102000 x102001 x102002 x102003 x102004 x102005 x102006))) else (none)) else (some false))) else (none)) else (none)) else ((impl_within.f (x102004.length : Int) 1 6).bind fun t106 => (if t106 = true then (if x102002 = 0 then (some (x102003 == 0)) else (some false)) else (some false)))
end
def impl_isField.f (k : Nat) (l0 : List (S54)) (a1_0 : ByteArray) (a1_1 : Int) (a1_2 : Int) (a1_3 : Int) (l1_4 : List ByteArray) (a1_5 : Bool) (a1_6 : ByteArray) : Option (Bool) := (impl_isName.f k a1_0).bind fun t102 => (if t102 = true then ((impl_fieldOf.f l0 a1_0).bind fun t103 => (impl_isField.j0 k l0 (decide (t103 ≥ 0)) a1_0 a1_1 a1_2 a1_3 l1_4 a1_5 a1_6)) else (impl_isField.j0 k l0 true a1_0 a1_1 a1_2 a1_3 l1_4 a1_5 a1_6))
set_option maxHeartbeats 8000000 in
set_option maxRecDepth 100000 in
theorem impl_isField.calls (k : Nat) (A0 : Option Addr) (c0 : Nat) (l0 : List (S54)) (a1_0 : ByteArray) (a1_1 : Int) (a1_2 : Int) (a1_3 : Int) (A1_4 : Option Addr) (c1_4 : Nat) (l1_4 : List ByteArray) (a1_5 : Bool) (a1_6 : ByteArray) (r : Bool) (w : World) (hr0 : Kd.C k54 w A0 l0.length l0) (hc0 : l0.length ≤ c0) (hr1_4 : Kd.C Kd.string w A1_4 l1_4.length l1_4) (hc1_4 : l1_4.length ≤ c1_4) (h : impl_isField.f k l0 a1_0 a1_1 a1_2 a1_3 l1_4 a1_5 a1_6 = some r) :
  Calls Tryd.prog 33 #[.slice A0 l0.length c0, .agg #[.string a1_0, .int .i64 a1_1, .int .i64 a1_2, .int .i64 a1_3, .slice A1_4 l1_4.length c1_4, .bool a1_5, .string a1_6]] w fun e w' => e = .returned (.bool r) ∧ Below w.heap.size w w' := by
 (have hu54 := Tryd.underlying54); (have HR0 := Aside0.mk hr0); (have HC0 := Aside0.mk hc0); clear hr0 hc0; (have HR1_4 := Aside0.mk hr1_4); (have HC1_4 := Aside0.mk hc1_4); clear hr1_4 hc1_4; (have HB := Aside0.mk (Below.refl w.heap.size w)); (unfold impl_isField.f at h); (have H := h); clear h; (have HC3 := Aside0.mk H); clear H; (go_enter Tryd.func33, Tryd.ntmps33); (go_upto_region 1 with (first | ((with_reducible refine gate_dst (N := 3) rfl ?_); refine box_event ?hg (N := 3) ?hd (cs := #[.string a1_0, .int .i64 a1_1, .int .i64 a1_2, .int .i64 a1_3, .slice A1_4 l1_4.length c1_4, .bool a1_5, .string a1_6]) (t := 54) ?hr ?_; (case hd => rfl); (case hg => rfl); (case hr => first | (go_simp; done) | (go_simp; rfl)); intro gb101 hg w4 hbox hb; have hB_ := zI hb HB; have n0_ := Aside0.mk (below_step hB_ hb); have n1_ := Aside0.mk (hbox); have n2_ := Aside0.mk (bx0 hg hB_); have n3_ := n2_; clear HB; have HB := n0_; have BK101 := n1_; have GW101 := n2_; have GE101 := n3_; clear n0_ n1_ n2_ n3_ hB_ hb hbox hg))); ((try simp only [Act.put, aS1, aS2, aS3])); (go_cut [18] (fun v18 wc => ∃ (kq : Nat) (x18_2 : Bool), v18 = .bool x18_2 ∧ Aside0 (impl_isField.j0 kq l0 x18_2 a1_0 a1_1 a1_2 a1_3 l1_4 a1_5 a1_6 = some r) ∧ Aside0 (kq ≤ k) ∧ Aside0 (wc.heap[gb101]? = some (.cells #[.string a1_0, .int .i64 a1_1, .int .i64 a1_2, .int .i64 a1_3, (.slice A1_4 l1_4.length c1_4), .bool a1_5, .string a1_6] 54 (0, 0))) ∧ Aside0 (Below w.heap.size w wc)))
 case first =>
  (have H := HC3.out); clear HC3; (replace H := obS H); (obtain ⟨t102, A5, H⟩ := H); (by_cases c6 : t102 = true)
  ·subst c6
   (rw [if_pos rfl] at H); (replace H := obS H); (obtain ⟨t103, A7, H⟩ := H); (have H' := Aside0.mk H); clear H; (have hcz8_0 := cz BK101.out 0); (have hcz8_1 := cz BK101.out 1); (have hcz8_2 := cz BK101.out 2); (have hcz8_3 := cz BK101.out 3); (have hcz8_4 := cz BK101.out 4); (have hcz8_5 := cz BK101.out 5); (have hcz8_6 := cz BK101.out 6); (have hfz8_0 := blk_frozen BK101.out 0); (have hfz8_1 := blk_frozen BK101.out 1); (have hfz8_2 := blk_frozen BK101.out 2); (have hfz8_3 := blk_frozen BK101.out 3); (have hfz8_4 := blk_frozen BK101.out 4); (have hfz8_5 := blk_frozen BK101.out 5); (have hfz8_6 := blk_frozen BK101.out 6); (go_wp2_with (first | ((with_reducible refine gate_callee (f := 58) rfl ?_); refine gL (some 10) Tryd.func58 #[.string a1_0] ?_; (with_reducible refine (impl_isName.calls k a1_0 true _ A5.out).mono ?_); rintro e w' ⟨rfl, ⟨nd, rfl⟩⟩; refine ⟨_, rfl, ?_⟩) | (go_at_call 46; (with_reducible refine (impl_fieldOf.calls _ _ l0 a1_0 t103 _ ?side1 ?side2 A7.out).mono ?_); (case side1 => exact Q98); (case side2 => exact HC0.out); rintro e w9 ⟨rfl, hb⟩; have n0_ := Aside0.mk (kbI hb BK101); have n1_ := Aside0.mk (sI hb HB); clear BK101 HB; have BK101 := n0_; have HB := n1_; clear n0_ n1_; (try clear hb); (try clear hb2); (try clear hk); (try clear hi)))); (go_meet)
   case rel => exact ⟨_, (decide (t103 ≥ 0)), Q32, H', ⟨Q99⟩, ⟨kI BK101⟩, ⟨eI HB⟩⟩
  ·replace c6 := Bool.eq_false_iff.mpr c6
   subst c6; (rw [if_neg (show ¬ (false = true) by decide)] at H); (have H' := Aside0.mk H); clear H; (have hcz10_0 := cz BK101.out 0); (have hcz10_1 := cz BK101.out 1); (have hcz10_2 := cz BK101.out 2); (have hcz10_3 := cz BK101.out 3); (have hcz10_4 := cz BK101.out 4); (have hcz10_5 := cz BK101.out 5); (have hcz10_6 := cz BK101.out 6); (have hfz10_0 := blk_frozen BK101.out 0); (have hfz10_1 := blk_frozen BK101.out 1); (have hfz10_2 := blk_frozen BK101.out 2); (have hfz10_3 := blk_frozen BK101.out 3); (have hfz10_4 := blk_frozen BK101.out 4); (have hfz10_5 := blk_frozen BK101.out 5); (have hfz10_6 := blk_frozen BK101.out 6); (go_wp2_with (first | ((with_reducible refine gate_callee (f := 58) rfl ?_); refine gL (some 10) Tryd.func58 #[.string a1_0] ?_; (with_reducible refine (impl_isName.calls k a1_0 false _ A5.out).mono ?_); rintro e w' ⟨rfl, ⟨nd, rfl⟩⟩; refine ⟨_, rfl, ?_⟩))); (go_meet)
   case rel => exact ⟨_, (true), Q32, H', ⟨Q99⟩, ⟨kI BK101⟩, ⟨eI HB⟩⟩
 case rest =>
  clear HC3; (try clear c1); (try clear p2); (try clear c3); (try clear c5); (try clear c6); (try clear hcz10_0); (try clear hcz10_1); (try clear hcz10_2); (try clear hcz10_3); (try clear hcz10_4); (try clear hcz10_5); (try clear hcz10_6); (try clear hcz8_0); (try clear hcz8_1); (try clear hcz8_2); (try clear hcz8_3); (try clear hcz8_4); (try clear hcz8_5); (try clear hcz8_6); (try clear hfz10_0); (try clear hfz10_1); (try clear hfz10_2); (try clear hfz10_3); (try clear hfz10_4); (try clear hfz10_5); (try clear hfz10_6); (try clear hfz8_0); (try clear hfz8_1); (try clear hfz8_2); (try clear hfz8_3); (try clear hfz8_4); (try clear hfz8_5); (try clear hfz8_6); (obtain ⟨kq, x18_2, rfl, HA, HJ2, BK101, HB⟩ := hcut)
  cases kq with
  | zero => exact absurd HA.out (by simp [impl_isField.j0])
  | succ kj2 =>
   (have H := HA.out); clear HA; (simp only [impl_isField.j0] at H); (by_cases c11 : x18_2 = true); (· subst c11; (rw [if_pos rfl] at H); (obtain rfl := Option.some.inj H); (go_wp2); go_ret; (exact Q100))
   ·replace c11 := Bool.eq_false_iff.mpr c11
    subst c11; (rw [if_neg (show ¬ (false = true) by decide)] at H); (replace H := obS H); (obtain ⟨t104, A12, H⟩ := H); (have HC13 := Aside0.mk H); clear H; (have hcz14_0 := cz BK101.out 0); (have hcz14_1 := cz BK101.out 1); (have hcz14_2 := cz BK101.out 2); (have hcz14_3 := cz BK101.out 3); (have hcz14_4 := cz BK101.out 4); (have hcz14_5 := cz BK101.out 5); (have hcz14_6 := cz BK101.out 6); (have hfz14_0 := blk_frozen BK101.out 0); (have hfz14_1 := blk_frozen BK101.out 1); (have hfz14_2 := blk_frozen BK101.out 2); (have hfz14_3 := blk_frozen BK101.out 3); (have hfz14_4 := blk_frozen BK101.out 4); (have hfz14_5 := blk_frozen BK101.out 5); (have hfz14_6 := blk_frozen BK101.out 6); (go_upto_region 4 with (first | ((with_reducible refine gate_callee (f := 46) rfl ?_); refine gL (some 22) Tryd.func46 #[.slice A0 l0.length c0, .string a1_6] ?_; (with_reducible refine (impl_fieldOf.calls _ _ l0 a1_6 t104 _ ?side1 ?side2 A12.out).mono ?_); (case side1 => exact Q98); (case side2 => exact HC0.out); rintro e w15 ⟨rfl, hb⟩; refine ⟨_, rfl, ?_⟩; have n0_ := Aside0.mk (kbI hb BK101); have n1_ := Aside0.mk (sI hb HB); clear BK101 HB; have BK101 := n0_; have HB := n1_; clear n0_ n1_; (try clear hb); (try clear hb2); (try clear hk); (try clear hi)))); ((try simp only [Act.put, aS1, aS2, aS3])); (go_cut [37] (fun v37 wc => ∃ (kq : Nat) (x37_12 : Bool), v37 = .bool x37_12 ∧ Aside0 (impl_isField.j1 kq x37_12 a1_0 a1_1 a1_2 a1_3 l1_4 a1_5 a1_6 = some r) ∧ Aside0 (kq ≤ kj2) ∧ Aside0 (wc.heap[gb101]? = some (.cells #[.string a1_0, .int .i64 a1_1, .int .i64 a1_2, .int .i64 a1_3, (.slice A1_4 l1_4.length c1_4), .bool a1_5, .string a1_6] 54 (0, 0))) ∧ Aside0 (Below w.heap.size w wc)))
    case first =>
     (have H := HC13.out); clear HC13; (by_cases c16 : a1_6.toList = ([] : List UInt8))
     ·rw [if_pos c16] at H
      (have c16b0 : a1_6.toList.isEmpty = true := List.isEmpty_iff.mpr c16); (have c16b1 : (!a1_6.toList.isEmpty) = false := by rw [List.isEmpty_iff.mpr c16]; rfl); (have c16b2 : (a1_6.toList == ([] : List UInt8)) = true := beq_iff_eq.mpr c16); (have c16b3 : (a1_6.toList != ([] : List UInt8)) = false := bne_eq_false_iff_eq.mpr c16); clear c16; ((first | rw [c16b0] | (simp only [i64_w, i32_w]; rw [c16b0]) | skip)); (have H' := Aside0.mk H); clear H; (have hcz17_0 := cz BK101.out 0); (have hcz17_1 := cz BK101.out 1); (have hcz17_2 := cz BK101.out 2); (have hcz17_3 := cz BK101.out 3); (have hcz17_4 := cz BK101.out 4); (have hcz17_5 := cz BK101.out 5); (have hcz17_6 := cz BK101.out 6); (have hfz17_0 := blk_frozen BK101.out 0); (have hfz17_1 := blk_frozen BK101.out 1); (have hfz17_2 := blk_frozen BK101.out 2); (have hfz17_3 := blk_frozen BK101.out 3); (have hfz17_4 := blk_frozen BK101.out 4); (have hfz17_5 := blk_frozen BK101.out 5); (have hfz17_6 := blk_frozen BK101.out 6); (go_wp2); (go_meet)
      case rel => exact ⟨_, (false), Q32, H', ⟨Q101⟩, ⟨kI BK101⟩, ⟨eI HB⟩⟩
     ·rw [if_neg c16] at H
      (have c16b0 : a1_6.toList.isEmpty = false := Q102); (have c16b1 : (!a1_6.toList.isEmpty) = true := by rw [show a1_6.toList.isEmpty = false from Q102]; rfl); (have c16b2 : (a1_6.toList == ([] : List UInt8)) = false := beq_eq_false_iff_ne.mpr c16); (have c16b3 : (a1_6.toList != ([] : List UInt8)) = true := bne_iff_ne.mpr c16); ((first | rw [c16b0] | (simp only [i64_w, i32_w]; rw [c16b0]) | skip)); (by_cases c18 : t104 < 0)
      ·rw [if_pos c18] at H
       (have c18b0 := decide_eq_true c18); clear c18; (have H' := Aside0.mk H); clear H; (have hcz19_0 := cz BK101.out 0); (have hcz19_1 := cz BK101.out 1); (have hcz19_2 := cz BK101.out 2); (have hcz19_3 := cz BK101.out 3); (have hcz19_4 := cz BK101.out 4); (have hcz19_5 := cz BK101.out 5); (have hcz19_6 := cz BK101.out 6); (have hfz19_0 := blk_frozen BK101.out 0); (have hfz19_1 := blk_frozen BK101.out 1); (have hfz19_2 := blk_frozen BK101.out 2); (have hfz19_3 := blk_frozen BK101.out 3); (have hfz19_4 := blk_frozen BK101.out 4); (have hfz19_5 := blk_frozen BK101.out 5); (have hfz19_6 := blk_frozen BK101.out 6); (go_wp2); (go_meet)
       case rel => exact ⟨_, (true), Q32, H', ⟨Q101⟩, ⟨kI BK101⟩, ⟨eI HB⟩⟩
      ·rw [if_neg c18] at H
       (have c18b0 := decide_eq_false c18); clear c18; (by_cases c20 : 0 ≤ t104)
       ·rw [if_pos c20] at H
        (have c20b0 := decide_eq_true c20); clear c20; (by_cases c21 : t104 < (l0.length : Int))
        ·rw [if_pos c21] at H
         (have c21b0 := decide_eq_true c21); clear c21; (have H' := Aside0.mk H); clear H; (have hcz22_0 := cz BK101.out 0); (have hcz22_1 := cz BK101.out 1); (have hcz22_2 := cz BK101.out 2); (have hcz22_3 := cz BK101.out 3); (have hcz22_4 := cz BK101.out 4); (have hcz22_5 := cz BK101.out 5); (have hcz22_6 := cz BK101.out 6); (have hfz22_0 := blk_frozen BK101.out 0); (have hfz22_1 := blk_frozen BK101.out 1); (have hfz22_2 := blk_frozen BK101.out 2); (have hfz22_3 := blk_frozen BK101.out 3); (have hfz22_4 := blk_frozen BK101.out 4); (have hfz22_5 := blk_frozen BK101.out 5); (have hfz22_6 := blk_frozen BK101.out 6); (have p105 : 0 ≤ (t104 : Int) := odt); (have q105 : t104 < (l0.length : Int) := odt); (obtain ⟨ad105, A105_4, c105_4, e105, hx105_0, hx105_1, hx105_2, hx105_3, hx105_4, hx105_5, hx105_6, hl105_4, hi105_4⟩ := at_T54 HR0.out t104 p105 q105); (cases e105); (replace hx105_0 := hcI HB hx105_0); (replace hx105_1 := hcI HB hx105_1); (replace hx105_2 := hcI HB hx105_2); (replace hx105_3 := hcI HB hx105_3); (replace hx105_4 := hcI HB hx105_4); (replace hx105_5 := hcI HB hx105_5); (replace hx105_6 := hcI HB hx105_6); (have HR105_4 := Aside0.mk hi105_4); (have HC105_4 := Aside0.mk hl105_4); clear hi105_4 hl105_4; (replace p105 := eq_true p105); (replace q105 := eq_true q105); (go_wp2); (go_meet)
         case rel => exact ⟨_, ((((rd_T54 l0 t104).f1) != 4)), Q32, H', ⟨Q101⟩, ⟨kI BK101⟩, ⟨eI HB⟩⟩
        ·rw [if_neg c21] at H
         exact Q1
       ·rw [if_neg c20] at H
        exact Q1
    case rest =>
     clear HC13; (try clear c1); (try clear p1); (try clear q1); (try clear hx1); (try clear c2); (try clear p2); (try clear c3); (try clear c4); (try clear c5); (try clear c6); (try clear c10); (try clear p10); (try clear q10); (try clear hx10); (try clear c11); (try clear c16); (try clear c16b0); (try clear c16b1); (try clear c16b2); (try clear c18); (try clear c18b0); (try clear c20); (try clear c20b0); (try clear c21); (try clear c21b0); (try clear hcz10_0); (try clear hcz10_1); (try clear hcz10_2); (try clear hcz10_3); (try clear hcz10_4); (try clear hcz10_5); (try clear hcz10_6); (try clear hcz14_0); (try clear hcz14_1); (try clear hcz14_2); (try clear hcz14_3); (try clear hcz14_4); (try clear hcz14_5); (try clear hcz14_6); (try clear hcz17_0); (try clear hcz17_1); (try clear hcz17_2); (try clear hcz17_3); (try clear hcz17_4); (try clear hcz17_5); (try clear hcz17_6); (try clear hcz19_0); (try clear hcz19_1); (try clear hcz19_2); (try clear hcz19_3); (try clear hcz19_4); (try clear hcz19_5); (try clear hcz19_6); (try clear hcz22_0); (try clear hcz22_1); (try clear hcz22_2); (try clear hcz22_3); (try clear hcz22_4); (try clear hcz22_5); (try clear hcz22_6); (try clear hcz8_0); (try clear hcz8_1); (try clear hcz8_2); (try clear hcz8_3); (try clear hcz8_4); (try clear hcz8_5); (try clear hcz8_6); (try clear hfz10_0); (try clear hfz10_1); (try clear hfz10_2); (try clear hfz10_3); (try clear hfz10_4); (try clear hfz10_5); (try clear hfz10_6); (try clear hfz14_0); (try clear hfz14_1); (try clear hfz14_2); (try clear hfz14_3); (try clear hfz14_4); (try clear hfz14_5); (try clear hfz14_6); (try clear hfz17_0); (try clear hfz17_1); (try clear hfz17_2); (try clear hfz17_3); (try clear hfz17_4); (try clear hfz17_5); (try clear hfz17_6); (try clear hfz19_0); (try clear hfz19_1); (try clear hfz19_2); (try clear hfz19_3); (try clear hfz19_4); (try clear hfz19_5); (try clear hfz19_6); (try clear hfz22_0); (try clear hfz22_1); (try clear hfz22_2); (try clear hfz22_3); (try clear hfz22_4); (try clear hfz22_5); (try clear hfz22_6); (try clear hfz8_0); (try clear hfz8_1); (try clear hfz8_2); (try clear hfz8_3); (try clear hfz8_4); (try clear hfz8_5); (try clear hfz8_6); (try clear hx105_0); (try clear hx105_1); (try clear hx105_2); (try clear hx105_3); (try clear hx105_4); (try clear hx105_5); (try clear hx105_6); (try clear p105); (try clear p2); (try clear q105); (obtain ⟨kq, x37_12, rfl, HA, HJ12, BK101, HB⟩ := hcut)
     cases kq with
     | zero => exact absurd HA.out (by simp [impl_isField.j1])
     | succ kj12 =>
      (have H := HA.out); clear HA; (simp only [impl_isField.j1] at H); (by_cases c23 : x37_12 = true); (· subst c23; (rw [if_pos rfl] at H); (obtain rfl := Option.some.inj H); (go_wp2); go_ret; (exact Q100))
      ·replace c23 := Bool.eq_false_iff.mpr c23
       subst c23; (rw [if_neg (show ¬ (false = true) by decide)] at H); (have HC24 := Aside0.mk H); clear H; (go_upto_region 6 with (fail)); (go_cut [46] (fun v46 wc => ∃ (kq : Nat) (x46_23 : Bool), v46 = .bool x46_23 ∧ Aside0 (impl_isField.j2 kq x46_23 a1_0 a1_1 a1_2 a1_3 l1_4 a1_5 a1_6 = some r) ∧ Aside0 (kq ≤ kj12) ∧ Aside0 (wc.heap[gb101]? = some (.cells #[.string a1_0, .int .i64 a1_1, .int .i64 a1_2, .int .i64 a1_3, (.slice A1_4 l1_4.length c1_4), .bool a1_5, .string a1_6] 54 (0, 0))) ∧ Aside0 (Below w.heap.size w wc)))
       case first =>
        (have H := HC24.out); clear HC24; (by_cases c25 : a1_1 = 3)
        ·rw [if_pos c25] at H
         (have c25b0 : (a1_1 == 3) = true := beq_iff_eq.mpr c25); (have c25b1 : (a1_1 != 3) = false := bne_eq_false_iff_eq.mpr c25); clear c25; ((first | rw [c25b0] | (simp only [i64_w, i32_w]; rw [c25b0]) | skip)); (have H' := Aside0.mk H); clear H; (have hcz26_0 := cz BK101.out 0); (have hcz26_1 := cz BK101.out 1); (have hcz26_2 := cz BK101.out 2); (have hcz26_3 := cz BK101.out 3); (have hcz26_4 := cz BK101.out 4); (have hcz26_5 := cz BK101.out 5); (have hcz26_6 := cz BK101.out 6); (have hfz26_0 := blk_frozen BK101.out 0); (have hfz26_1 := blk_frozen BK101.out 1); (have hfz26_2 := blk_frozen BK101.out 2); (have hfz26_3 := blk_frozen BK101.out 3); (have hfz26_4 := blk_frozen BK101.out 4); (have hfz26_5 := blk_frozen BK101.out 5); (have hfz26_6 := blk_frozen BK101.out 6); (go_wp2); (go_meet)
         case rel => exact ⟨_, (false), Q32, H', ⟨Q103⟩, ⟨kI BK101⟩, ⟨eI HB⟩⟩
        ·rw [if_neg c25] at H
         (have c25b0 : (a1_1 == 3) = false := beq_eq_false_iff_ne.mpr c25); (have c25b1 : (a1_1 != 3) = true := bne_iff_ne.mpr c25); ((first | rw [c25b0] | (simp only [i64_w, i32_w]; rw [c25b0]) | skip)); (have H' := Aside0.mk H); clear H; (have hcz27_0 := cz BK101.out 0); (have hcz27_1 := cz BK101.out 1); (have hcz27_2 := cz BK101.out 2); (have hcz27_3 := cz BK101.out 3); (have hcz27_4 := cz BK101.out 4); (have hcz27_5 := cz BK101.out 5); (have hcz27_6 := cz BK101.out 6); (have hfz27_0 := blk_frozen BK101.out 0); (have hfz27_1 := blk_frozen BK101.out 1); (have hfz27_2 := blk_frozen BK101.out 2); (have hfz27_3 := blk_frozen BK101.out 3); (have hfz27_4 := blk_frozen BK101.out 4); (have hfz27_5 := blk_frozen BK101.out 5); (have hfz27_6 := blk_frozen BK101.out 6); (go_wp2); (go_meet)
         case rel => exact ⟨_, (decide ((l1_4.length : Int) > 0)), Q32, H', ⟨Q103⟩, ⟨kI BK101⟩, ⟨eI HB⟩⟩
       case rest =>
        clear HC24; (try clear c1); (try clear p1); (try clear q1); (try clear hx1); (try clear c2); (try clear p2); (try clear c3); (try clear c4); (try clear c5); (try clear c6); (try clear c10); (try clear p10); (try clear q10); (try clear hx10); (try clear c11); (try clear c16); (try clear c16b0); (try clear c16b1); (try clear c16b2); (try clear c18); (try clear c18b0); (try clear c20); (try clear c20b0); (try clear c21); (try clear c21b0); (try clear c23); (try clear c25); (try clear c25b0); (try clear c25b1); (try clear hcz10_0); (try clear hcz10_1); (try clear hcz10_2); (try clear hcz10_3); (try clear hcz10_4); (try clear hcz10_5); (try clear hcz10_6); (try clear hcz14_0); (try clear hcz14_1); (try clear hcz14_2); (try clear hcz14_3); (try clear hcz14_4); (try clear hcz14_5); (try clear hcz14_6); (try clear hcz17_0); (try clear hcz17_1); (try clear hcz17_2); (try clear hcz17_3); (try clear hcz17_4); (try clear hcz17_5); (try clear hcz17_6); (try clear hcz19_0); (try clear hcz19_1); (try clear hcz19_2); (try clear hcz19_3); (try clear hcz19_4); (try clear hcz19_5); (try clear hcz19_6); (try clear hcz22_0); (try clear hcz22_1); (try clear hcz22_2); (try clear hcz22_3); (try clear hcz22_4); (try clear hcz22_5); (try clear hcz22_6); (try clear hcz26_0); (try clear hcz26_1); (try clear hcz26_2); (try clear hcz26_3); (try clear hcz26_4); (try clear hcz26_5); (try clear hcz26_6); (try clear hcz27_0); (try clear hcz27_1); (try clear hcz27_2); (try clear hcz27_3); (try clear hcz27_4); (try clear hcz27_5); (try clear hcz27_6); (try clear hcz8_0); (try clear hcz8_1); (try clear hcz8_2); (try clear hcz8_3); (try clear hcz8_4); (try clear hcz8_5); (try clear hcz8_6); (try clear hfz10_0); (try clear hfz10_1); (try clear hfz10_2); (try clear hfz10_3); (try clear hfz10_4); (try clear hfz10_5); (try clear hfz10_6); (try clear hfz14_0); (try clear hfz14_1); (try clear hfz14_2); (try clear hfz14_3); (try clear hfz14_4); (try clear hfz14_5); (try clear hfz14_6); (try clear hfz17_0); (try clear hfz17_1); (try clear hfz17_2); (try clear hfz17_3); (try clear hfz17_4); (try clear hfz17_5); (try clear hfz17_6); (try clear hfz19_0); (try clear hfz19_1); (try clear hfz19_2); (try clear hfz19_3); (try clear hfz19_4); (try clear hfz19_5); (try clear hfz19_6); (try clear hfz22_0); (try clear hfz22_1); (try clear hfz22_2); (try clear hfz22_3); (try clear hfz22_4); (try clear hfz22_5); (try clear hfz22_6); (try clear hfz26_0); (try clear hfz26_1); (try clear hfz26_2); (try clear hfz26_3); (try clear hfz26_4); (try clear hfz26_5); (try clear hfz26_6); (try clear hfz27_0); (try clear hfz27_1); (try clear hfz27_2); (try clear hfz27_3); (try clear hfz27_4); (try clear hfz27_5); (try clear hfz27_6); (try clear hfz8_0); (try clear hfz8_1); (try clear hfz8_2); (try clear hfz8_3); (try clear hfz8_4); (try clear hfz8_5); (try clear hfz8_6); (try clear hx105_0); (try clear hx105_1); (try clear hx105_2); (try clear hx105_3); (try clear hx105_4); (try clear hx105_5); (try clear hx105_6); (try clear p1); (try clear p10); (try clear p105); (try clear p2); (try clear q1); (try clear q10); (try clear q105); (obtain ⟨kq, x46_23, rfl, HA, HJ23, BK101, HB⟩ := hcut)
        cases kq with
        | zero => exact absurd HA.out (by simp [impl_isField.j2])
        | succ kj23 =>
         (have H := HA.out); clear HA; (simp only [impl_isField.j2] at H); (by_cases c28 : x46_23 = true); (· subst c28; (rw [if_pos rfl] at H); (obtain rfl := Option.some.inj H); (go_wp2); go_ret; (exact Q100))
         ·replace c28 := Bool.eq_false_iff.mpr c28
          subst c28; (rw [if_neg (show ¬ (false = true) by decide)] at H); (by_cases c29 : a1_1 = 1)
          ·rw [if_pos c29] at H
           (have c29b0 : (a1_1 == 1) = true := beq_iff_eq.mpr c29); (have c29b1 : (a1_1 != 1) = false := bne_eq_false_iff_eq.mpr c29); clear c29; (by_cases c30 : a1_2 ≥ (-999999))
           ·rw [if_pos c30] at H
            (have c30b0 : decide ((-999999) ≤ a1_2) = true := decide_eq_true c30); clear c30; (by_cases c31 : a1_2 ≤ a1_3)
            ·rw [if_pos c31] at H
             (have c31b0 := decide_eq_true c31); clear c31; (obtain rfl := Option.some.inj H); (have hcz32_0 := cz BK101.out 0); (have hcz32_1 := cz BK101.out 1); (have hcz32_2 := cz BK101.out 2); (have hcz32_3 := cz BK101.out 3); (have hcz32_4 := cz BK101.out 4); (have hcz32_5 := cz BK101.out 5); (have hcz32_6 := cz BK101.out 6); (have hfz32_0 := blk_frozen BK101.out 0); (have hfz32_1 := blk_frozen BK101.out 1); (have hfz32_2 := blk_frozen BK101.out 2); (have hfz32_3 := blk_frozen BK101.out 3); (have hfz32_4 := blk_frozen BK101.out 4); (have hfz32_5 := blk_frozen BK101.out 5); (have hfz32_6 := blk_frozen BK101.out 6); (go_wp2); go_ret; (exact Q100)
            ·rw [if_neg c31] at H
             (have c31b0 := decide_eq_false c31); clear c31; (obtain rfl := Option.some.inj H); (have hcz33_0 := cz BK101.out 0); (have hcz33_1 := cz BK101.out 1); (have hcz33_2 := cz BK101.out 2); (have hcz33_3 := cz BK101.out 3); (have hcz33_4 := cz BK101.out 4); (have hcz33_5 := cz BK101.out 5); (have hcz33_6 := cz BK101.out 6); (have hfz33_0 := blk_frozen BK101.out 0); (have hfz33_1 := blk_frozen BK101.out 1); (have hfz33_2 := blk_frozen BK101.out 2); (have hfz33_3 := blk_frozen BK101.out 3); (have hfz33_4 := blk_frozen BK101.out 4); (have hfz33_5 := blk_frozen BK101.out 5); (have hfz33_6 := blk_frozen BK101.out 6); (go_wp2); go_ret; (exact Q100)
           ·rw [if_neg c30] at H
            (have c30b0 : decide ((-999999) ≤ a1_2) = false := decide_eq_false c30); clear c30; (obtain rfl := Option.some.inj H); (have hcz34_0 := cz BK101.out 0); (have hcz34_1 := cz BK101.out 1); (have hcz34_2 := cz BK101.out 2); (have hcz34_3 := cz BK101.out 3); (have hcz34_4 := cz BK101.out 4); (have hcz34_5 := cz BK101.out 5); (have hcz34_6 := cz BK101.out 6); (have hfz34_0 := blk_frozen BK101.out 0); (have hfz34_1 := blk_frozen BK101.out 1); (have hfz34_2 := blk_frozen BK101.out 2); (have hfz34_3 := blk_frozen BK101.out 3); (have hfz34_4 := blk_frozen BK101.out 4); (have hfz34_5 := blk_frozen BK101.out 5); (have hfz34_6 := blk_frozen BK101.out 6); (go_wp2); go_ret; (exact Q100)
          ·rw [if_neg c29] at H
           (have c29b0 : (a1_1 == 1) = false := beq_eq_false_iff_ne.mpr c29); (have c29b1 : (a1_1 != 1) = true := bne_iff_ne.mpr c29); (by_cases c35 : a1_1 = 2)
           ·rw [if_pos c35] at H
            (have c35b0 : (a1_1 == 2) = true := beq_iff_eq.mpr c35); (have c35b1 : (a1_1 != 2) = false := bne_eq_false_iff_eq.mpr c35); clear c35; (by_cases c36 : a1_2 ≥ 0)
            ·rw [if_pos c36] at H
             (have c36b0 : decide (0 ≤ a1_2) = true := decide_eq_true c36); clear c36; (by_cases c37 : a1_2 ≤ a1_3)
             ·rw [if_pos c37] at H
              (have c37b0 := decide_eq_true c37); clear c37; (obtain rfl := Option.some.inj H); (have hcz38_0 := cz BK101.out 0); (have hcz38_1 := cz BK101.out 1); (have hcz38_2 := cz BK101.out 2); (have hcz38_3 := cz BK101.out 3); (have hcz38_4 := cz BK101.out 4); (have hcz38_5 := cz BK101.out 5); (have hcz38_6 := cz BK101.out 6); (have hfz38_0 := blk_frozen BK101.out 0); (have hfz38_1 := blk_frozen BK101.out 1); (have hfz38_2 := blk_frozen BK101.out 2); (have hfz38_3 := blk_frozen BK101.out 3); (have hfz38_4 := blk_frozen BK101.out 4); (have hfz38_5 := blk_frozen BK101.out 5); (have hfz38_6 := blk_frozen BK101.out 6); (go_wp2); go_ret; (exact Q100)
             ·rw [if_neg c37] at H
              (have c37b0 := decide_eq_false c37); clear c37; (obtain rfl := Option.some.inj H); (have hcz39_0 := cz BK101.out 0); (have hcz39_1 := cz BK101.out 1); (have hcz39_2 := cz BK101.out 2); (have hcz39_3 := cz BK101.out 3); (have hcz39_4 := cz BK101.out 4); (have hcz39_5 := cz BK101.out 5); (have hcz39_6 := cz BK101.out 6); (have hfz39_0 := blk_frozen BK101.out 0); (have hfz39_1 := blk_frozen BK101.out 1); (have hfz39_2 := blk_frozen BK101.out 2); (have hfz39_3 := blk_frozen BK101.out 3); (have hfz39_4 := blk_frozen BK101.out 4); (have hfz39_5 := blk_frozen BK101.out 5); (have hfz39_6 := blk_frozen BK101.out 6); (go_wp2); go_ret; (exact Q100)
            ·rw [if_neg c36] at H
             (have c36b0 : decide (0 ≤ a1_2) = false := decide_eq_false c36); clear c36; (obtain rfl := Option.some.inj H); (have hcz40_0 := cz BK101.out 0); (have hcz40_1 := cz BK101.out 1); (have hcz40_2 := cz BK101.out 2); (have hcz40_3 := cz BK101.out 3); (have hcz40_4 := cz BK101.out 4); (have hcz40_5 := cz BK101.out 5); (have hcz40_6 := cz BK101.out 6); (have hfz40_0 := blk_frozen BK101.out 0); (have hfz40_1 := blk_frozen BK101.out 1); (have hfz40_2 := blk_frozen BK101.out 2); (have hfz40_3 := blk_frozen BK101.out 3); (have hfz40_4 := blk_frozen BK101.out 4); (have hfz40_5 := blk_frozen BK101.out 5); (have hfz40_6 := blk_frozen BK101.out 6); (go_wp2); go_ret; (exact Q100)
           ·rw [if_neg c35] at H
            (have c35b0 : (a1_1 == 2) = false := beq_eq_false_iff_ne.mpr c35); (have c35b1 : (a1_1 != 2) = true := bne_iff_ne.mpr c35); (by_cases c41 : a1_1 = 3)
            ·rw [if_pos c41] at H
             (have c41b0 : (a1_1 == 3) = true := beq_iff_eq.mpr c41); (have c41b1 : (a1_1 != 3) = false := bne_eq_false_iff_eq.mpr c41); clear c41; (have H' := Aside0.mk H); clear H; (have hcz42_0 := cz BK101.out 0); (have hcz42_1 := cz BK101.out 1); (have hcz42_2 := cz BK101.out 2); (have hcz42_3 := cz BK101.out 3); (have hcz42_4 := cz BK101.out 4); (have hcz42_5 := cz BK101.out 5); (have hcz42_6 := cz BK101.out 6); (have hfz42_0 := blk_frozen BK101.out 0); (have hfz42_1 := blk_frozen BK101.out 1); (have hfz42_2 := blk_frozen BK101.out 2); (have hfz42_3 := blk_frozen BK101.out 3); (have hfz42_4 := blk_frozen BK101.out 4); (have hfz42_5 := blk_frozen BK101.out 5); (have hfz42_6 := blk_frozen BK101.out 6); (go_wp2); (go_loopg [88] kj23 (fun kq v88 w' => ∃ (x88_4 : Int), v88 = .int .i64 x88_4 ∧ Aside0 (impl_isField.l0 kq l1_4 (l1_4.length : Int) x88_4 a1_0 a1_1 a1_2 a1_3 l1_4 a1_5 a1_6 = some r) ∧ Aside0 (kq ≤ kj23) ∧ Aside0 (w'.heap[gb101]? = some (.cells #[.string a1_0, .int .i64 a1_1, .int .i64 a1_2, .int .i64 a1_3, (.slice A1_4 l1_4.length c1_4), .bool a1_5, .string a1_6] 54 (0, 0))) ∧ Aside0 (Below w.heap.size w w')))
             case atStart => exact Q104
             case round =>
              (clear H'); (try clear c1); (try clear p1); (try clear q1); (try clear hx1); (try clear c2); (try clear p2); (try clear c3); (try clear c4); (try clear c5); (try clear c6); (try clear c10); (try clear p10); (try clear q10); (try clear hx10); (try clear c11); (try clear c16); (try clear c16b0); (try clear c16b1); (try clear c16b2); (try clear c18); (try clear c18b0); (try clear c20); (try clear c20b0); (try clear c21); (try clear c21b0); (try clear c23); (try clear c25); (try clear c25b0); (try clear c25b1); (try clear c28); (try clear c29); (try clear c29b0); (try clear c29b1); (try clear c30); (try clear c30b0); (try clear c31); (try clear c31b0); (try clear c35); (try clear c35b0); (try clear c35b1); (try clear c36); (try clear c36b0); (try clear c37); (try clear c37b0); (try clear c41); (try clear c41b0); (try clear c41b1); (try clear hcz10_0); (try clear hcz10_1); (try clear hcz10_2); (try clear hcz10_3); (try clear hcz10_4); (try clear hcz10_5); (try clear hcz10_6); (try clear hcz14_0); (try clear hcz14_1); (try clear hcz14_2); (try clear hcz14_3); (try clear hcz14_4); (try clear hcz14_5); (try clear hcz14_6); (try clear hcz17_0); (try clear hcz17_1); (try clear hcz17_2); (try clear hcz17_3); (try clear hcz17_4); (try clear hcz17_5); (try clear hcz17_6); (try clear hcz19_0); (try clear hcz19_1); (try clear hcz19_2); (try clear hcz19_3); (try clear hcz19_4); (try clear hcz19_5); (try clear hcz19_6); (try clear hcz22_0); (try clear hcz22_1); (try clear hcz22_2); (try clear hcz22_3); (try clear hcz22_4); (try clear hcz22_5); (try clear hcz22_6); (try clear hcz26_0); (try clear hcz26_1); (try clear hcz26_2); (try clear hcz26_3); (try clear hcz26_4); (try clear hcz26_5); (try clear hcz26_6); (try clear hcz27_0); (try clear hcz27_1); (try clear hcz27_2); (try clear hcz27_3); (try clear hcz27_4); (try clear hcz27_5); (try clear hcz27_6); (try clear hcz32_0); (try clear hcz32_1); (try clear hcz32_2); (try clear hcz32_3); (try clear hcz32_4); (try clear hcz32_5); (try clear hcz32_6); (try clear hcz33_0); (try clear hcz33_1); (try clear hcz33_2); (try clear hcz33_3); (try clear hcz33_4); (try clear hcz33_5); (try clear hcz33_6); (try clear hcz34_0); (try clear hcz34_1); (try clear hcz34_2); (try clear hcz34_3); (try clear hcz34_4); (try clear hcz34_5); (try clear hcz34_6); (try clear hcz38_0); (try clear hcz38_1); (try clear hcz38_2); (try clear hcz38_3); (try clear hcz38_4); (try clear hcz38_5); (try clear hcz38_6); (try clear hcz39_0); (try clear hcz39_1); (try clear hcz39_2); (try clear hcz39_3); (try clear hcz39_4); (try clear hcz39_5); (try clear hcz39_6); (try clear hcz40_0); (try clear hcz40_1); (try clear hcz40_2); (try clear hcz40_3); (try clear hcz40_4); (try clear hcz40_5); (try clear hcz40_6); (try clear hcz42_0); (try clear hcz42_1); (try clear hcz42_2); (try clear hcz42_3); (try clear hcz42_4); (try clear hcz42_5); (try clear hcz42_6); (try clear hcz8_0); (try clear hcz8_1); (try clear hcz8_2); (try clear hcz8_3); (try clear hcz8_4); (try clear hcz8_5); (try clear hcz8_6); (try clear hfz10_0); (try clear hfz10_1); (try clear hfz10_2); (try clear hfz10_3); (try clear hfz10_4); (try clear hfz10_5); (try clear hfz10_6); (try clear hfz14_0); (try clear hfz14_1); (try clear hfz14_2); (try clear hfz14_3); (try clear hfz14_4); (try clear hfz14_5); (try clear hfz14_6); (try clear hfz17_0); (try clear hfz17_1); (try clear hfz17_2); (try clear hfz17_3); (try clear hfz17_4); (try clear hfz17_5); (try clear hfz17_6); (try clear hfz19_0); (try clear hfz19_1); (try clear hfz19_2); (try clear hfz19_3); (try clear hfz19_4); (try clear hfz19_5); (try clear hfz19_6); (try clear hfz22_0); (try clear hfz22_1); (try clear hfz22_2); (try clear hfz22_3); (try clear hfz22_4); (try clear hfz22_5); (try clear hfz22_6); (try clear hfz26_0); (try clear hfz26_1); (try clear hfz26_2); (try clear hfz26_3); (try clear hfz26_4); (try clear hfz26_5); (try clear hfz26_6); (try clear hfz27_0); (try clear hfz27_1); (try clear hfz27_2); (try clear hfz27_3); (try clear hfz27_4); (try clear hfz27_5); (try clear hfz27_6); (try clear hfz32_0); (try clear hfz32_1); (try clear hfz32_2); (try clear hfz32_3); (try clear hfz32_4); (try clear hfz32_5); (try clear hfz32_6); (try clear hfz33_0); (try clear hfz33_1); (try clear hfz33_2); (try clear hfz33_3); (try clear hfz33_4); (try clear hfz33_5); (try clear hfz33_6); (try clear hfz34_0); (try clear hfz34_1); (try clear hfz34_2); (try clear hfz34_3); (try clear hfz34_4); (try clear hfz34_5); (try clear hfz34_6); (try clear hfz38_0); (try clear hfz38_1); (try clear hfz38_2); (try clear hfz38_3); (try clear hfz38_4); (try clear hfz38_5); (try clear hfz38_6); (try clear hfz39_0); (try clear hfz39_1); (try clear hfz39_2); (try clear hfz39_3); (try clear hfz39_4); (try clear hfz39_5); (try clear hfz39_6); (try clear hfz40_0); (try clear hfz40_1); (try clear hfz40_2); (try clear hfz40_3); (try clear hfz40_4); (try clear hfz40_5); (try clear hfz40_6); (try clear hfz42_0); (try clear hfz42_1); (try clear hfz42_2); (try clear hfz42_3); (try clear hfz42_4); (try clear hfz42_5); (try clear hfz42_6); (try clear hfz8_0); (try clear hfz8_1); (try clear hfz8_2); (try clear hfz8_3); (try clear hfz8_4); (try clear hfz8_5); (try clear hfz8_6); (try clear hx105_0); (try clear hx105_1); (try clear hx105_2); (try clear hx105_3); (try clear hx105_4); (try clear hx105_5); (try clear hx105_6); (try clear p1); (try clear p10); (try clear p105); (try clear p2); (try clear q1); (try clear q10); (try clear q105); (obtain ⟨x88_4, rfl, HA, HK4, BK101, HB⟩ := hrel)
              cases gk with
              | zero => exact absurd HA.out (by simp [impl_isField.l0])
              | succ k4 =>
               (have H := HA.out); clear HA; (simp only [impl_isField.l0] at H); (by_cases c43 : x88_4 < (l1_4.length : Int))
               ·rw [if_pos c43] at H
                (have c43b0 := decide_eq_true c43); clear c43; (by_cases c44 : 0 ≤ x88_4)
                ·rw [if_pos c44] at H
                 (have c44b0 := decide_eq_true c44); clear c44; (by_cases c45 : x88_4 < (l1_4.length : Int))
                 ·rw [if_pos c45] at H
                  (have c45b0 := decide_eq_true c45); clear c45; (replace H := obS H); (obtain ⟨t108, A46, H⟩ := H); (by_cases c47 : t108 = true)
                  ·subst c47
                   (rw [if_pos rfl] at H); (have c48b0 := eq_true (odt : 0 ≤ x88_4)); (by_cases c49 : x88_4 ≤ (l1_4.length : Int))
                   ·rw [if_pos c49] at H
                    (have c49b0 := eq_true c49); (have c49b1 := decide_eq_true c49); clear c49; (replace H := obS H); (obtain ⟨t110, A50, H⟩ := H); (by_cases c51 : t110 = true)
                    ·subst c51
                     (rw [if_pos rfl] at H); (obtain rfl := Option.some.inj H); (have p107 : 0 ≤ (x88_4 : Int) := odt); (have q107 : x88_4 < (l1_4.length : Int) := odt); (obtain ⟨ad107, e107, hx107_0⟩ := Kd.at_string HR1_4.out x88_4 p107 q107); (cases e107); (replace hx107_0 := hcI HB hx107_0); (replace p107 := eq_true p107); (replace q107 := eq_true q107); (go_wp2_with (first | ((with_reducible refine gate_callee (f := 58) rfl ?_); refine gL (some 94) Tryd.func58 #[.string (rdOf ByteArray.empty l1_4 x88_4)] ?_; (with_reducible refine (impl_isName.calls k4 (rdOf ByteArray.empty l1_4 x88_4) true _ A46.out).mono ?_); rintro e w' ⟨rfl, ⟨nd, rfl⟩⟩; refine ⟨_, rfl, ?_⟩; have hcz52_0 := cz BK101.out 0; have hcz52_1 := cz BK101.out 1; have hcz52_2 := cz BK101.out 2; have hcz52_3 := cz BK101.out 3; have hcz52_4 := cz BK101.out 4; have hcz52_5 := cz BK101.out 5; have hcz52_6 := cz BK101.out 6; have hfz52_0 := blk_frozen BK101.out 0; have hfz52_1 := blk_frozen BK101.out 1; have hfz52_2 := blk_frozen BK101.out 2; have hfz52_3 := blk_frozen BK101.out 3; have hfz52_4 := blk_frozen BK101.out 4; have hfz52_5 := blk_frozen BK101.out 5; have hfz52_6 := blk_frozen BK101.out 6; obtain ⟨i053, hi053, _, hsz53, _⟩ := info_parts info9; obtain ⟨hcut53, hA53, hC53⟩ := print_take_of (P := Tryd.prog) Value.string (⟨#[]⟩ : ByteArray) 42 9 .i64 Tryd.underlying42 hi053 hsz53 (some ad107) c1_4 l1_4 x88_4 odt odt HC1_4.out; have HR109 := Aside0.mk (Kd.C_of_reads (h1 := fun _ => rfl) (hA53 _ (Kd.reads_of_C HR1_4.out))); have HC109 := Aside0.mk hC53; clear hA53 hC53 hi053 hsz53) | (go_at_call 26; refine calls_of_args (args' := #[.slice (some ad107) (l1_4.take (x88_4 : Int).toNat).length c1_4, .string (rdOf ByteArray.empty l1_4 x88_4)]) Q105 ?_; (with_reducible refine (slices_Contains_string_string.calls k4 _ _ (l1_4.take (x88_4 : Int).toNat) (rdOf ByteArray.empty l1_4 x88_4) true _ ?side1 ?side2 A50.out).mono ?_); (case side1 => exact Kd.C_below HR109.out (eI HB)); (case side2 => exact HC109.out); rintro e w' ⟨rfl, ⟨nd, rfl⟩⟩))); go_ret; (exact Q100)
                    ·replace c51 := Bool.eq_false_iff.mpr c51
                     subst c51; (rw [if_neg (show ¬ (false = true) by decide)] at H); (have H' := Aside0.mk H); clear H; (have p107 : 0 ≤ (x88_4 : Int) := odt); (have q107 : x88_4 < (l1_4.length : Int) := odt); (obtain ⟨ad107, e107, hx107_0⟩ := Kd.at_string HR1_4.out x88_4 p107 q107); (cases e107); (replace hx107_0 := hcI HB hx107_0); (replace p107 := eq_true p107); (replace q107 := eq_true q107); (go_wp2_with (first | ((with_reducible refine gate_callee (f := 58) rfl ?_); refine gL (some 94) Tryd.func58 #[.string (rdOf ByteArray.empty l1_4 x88_4)] ?_; (with_reducible refine (impl_isName.calls k4 (rdOf ByteArray.empty l1_4 x88_4) true _ A46.out).mono ?_); rintro e w' ⟨rfl, ⟨nd, rfl⟩⟩; refine ⟨_, rfl, ?_⟩; have hcz54_0 := cz BK101.out 0; have hcz54_1 := cz BK101.out 1; have hcz54_2 := cz BK101.out 2; have hcz54_3 := cz BK101.out 3; have hcz54_4 := cz BK101.out 4; have hcz54_5 := cz BK101.out 5; have hcz54_6 := cz BK101.out 6; have hfz54_0 := blk_frozen BK101.out 0; have hfz54_1 := blk_frozen BK101.out 1; have hfz54_2 := blk_frozen BK101.out 2; have hfz54_3 := blk_frozen BK101.out 3; have hfz54_4 := blk_frozen BK101.out 4; have hfz54_5 := blk_frozen BK101.out 5; have hfz54_6 := blk_frozen BK101.out 6; obtain ⟨i055, hi055, _, hsz55, _⟩ := info_parts info9; obtain ⟨hcut55, hA55, hC55⟩ := print_take_of (P := Tryd.prog) Value.string (⟨#[]⟩ : ByteArray) 42 9 .i64 Tryd.underlying42 hi055 hsz55 (some ad107) c1_4 l1_4 x88_4 odt odt HC1_4.out; have HR109 := Aside0.mk (Kd.C_of_reads (h1 := fun _ => rfl) (hA55 _ (Kd.reads_of_C HR1_4.out))); have HC109 := Aside0.mk hC55; clear hA55 hC55 hi055 hsz55) | (go_at_call 26; refine calls_of_args (args' := #[.slice (some ad107) (l1_4.take (x88_4 : Int).toNat).length c1_4, .string (rdOf ByteArray.empty l1_4 x88_4)]) Q105 ?_; (with_reducible refine (slices_Contains_string_string.calls k4 _ _ (l1_4.take (x88_4 : Int).toNat) (rdOf ByteArray.empty l1_4 x88_4) false _ ?side1 ?side2 A50.out).mono ?_); (case side1 => exact Kd.C_below HR109.out (eI HB)); (case side2 => exact HC109.out); rintro e w' ⟨rfl, ⟨nd, rfl⟩⟩))); go_roundg k4
                     case measure => have := HJ2.out; have := HJ12.out; have := HJ23.out; have := HK4.out; omega
                     case rel => exact ⟨(wrap64 (x88_4 + 1)), Q32, H', ⟨by have := HJ2.out; have := HJ12.out; have := HJ23.out; have := HK4.out; omega⟩, ⟨kI BK101⟩, ⟨eI HB⟩⟩
                   ·rw [if_neg c49] at H
                    exact Q1
                  ·replace c47 := Bool.eq_false_iff.mpr c47
                   subst c47; (rw [if_neg (show ¬ (false = true) by decide)] at H); (obtain rfl := Option.some.inj H); (have p107 : 0 ≤ (x88_4 : Int) := odt); (have q107 : x88_4 < (l1_4.length : Int) := odt); (obtain ⟨ad107, e107, hx107_0⟩ := Kd.at_string HR1_4.out x88_4 p107 q107); (cases e107); (replace hx107_0 := hcI HB hx107_0); (replace p107 := eq_true p107); (replace q107 := eq_true q107); (go_wp2_with (first | ((with_reducible refine gate_callee (f := 58) rfl ?_); refine gL (some 94) Tryd.func58 #[.string (rdOf ByteArray.empty l1_4 x88_4)] ?_; (with_reducible refine (impl_isName.calls k4 (rdOf ByteArray.empty l1_4 x88_4) false _ A46.out).mono ?_); rintro e w' ⟨rfl, ⟨nd, rfl⟩⟩; refine ⟨_, rfl, ?_⟩))); go_ret; (exact Q100)
                 ·rw [if_neg c45] at H
                  exact Q1
                ·rw [if_neg c44] at H
                 exact Q1
               ·rw [if_neg c43] at H
                (have c43b0 := decide_eq_false c43); clear c43; (replace H := obS H); (obtain ⟨t106, A56, H⟩ := H); (by_cases c57 : t106 = true)
                ·subst c57
                 (rw [if_pos rfl] at H); (by_cases c58 : a1_2 = 0)
                 ·rw [if_pos c58] at H
                  (have c58b0 : (a1_2 == 0) = true := beq_iff_eq.mpr c58); (have c58b1 : (a1_2 != 0) = false := bne_eq_false_iff_eq.mpr c58); clear c58; (obtain rfl := Option.some.inj H); (have hcz59_0 := cz BK101.out 0); (have hcz59_1 := cz BK101.out 1); (have hcz59_2 := cz BK101.out 2); (have hcz59_3 := cz BK101.out 3); (have hcz59_4 := cz BK101.out 4); (have hcz59_5 := cz BK101.out 5); (have hcz59_6 := cz BK101.out 6); (have hfz59_0 := blk_frozen BK101.out 0); (have hfz59_1 := blk_frozen BK101.out 1); (have hfz59_2 := blk_frozen BK101.out 2); (have hfz59_3 := blk_frozen BK101.out 3); (have hfz59_4 := blk_frozen BK101.out 4); (have hfz59_5 := blk_frozen BK101.out 5); (have hfz59_6 := blk_frozen BK101.out 6); (go_wp2_with (first | ((with_reducible refine gate_callee (f := 59) rfl ?_); refine gL (some 108) Tryd.func59 #[.int .i64 (l1_4.length : Int), .int .i64 1, .int .i64 6] ?_; (with_reducible refine (impl_within.calls (l1_4.length : Int) 1 6 true _ A56.out).mono ?_); rintro e w' ⟨rfl, ⟨nd, rfl⟩⟩; refine ⟨_, rfl, ?_⟩))); go_ret; (exact Q100)
                 ·rw [if_neg c58] at H
                  (have c58b0 : (a1_2 == 0) = false := beq_eq_false_iff_ne.mpr c58); (have c58b1 : (a1_2 != 0) = true := bne_iff_ne.mpr c58); (obtain rfl := Option.some.inj H); (have hcz60_0 := cz BK101.out 0); (have hcz60_1 := cz BK101.out 1); (have hcz60_2 := cz BK101.out 2); (have hcz60_3 := cz BK101.out 3); (have hcz60_4 := cz BK101.out 4); (have hcz60_5 := cz BK101.out 5); (have hcz60_6 := cz BK101.out 6); (have hfz60_0 := blk_frozen BK101.out 0); (have hfz60_1 := blk_frozen BK101.out 1); (have hfz60_2 := blk_frozen BK101.out 2); (have hfz60_3 := blk_frozen BK101.out 3); (have hfz60_4 := blk_frozen BK101.out 4); (have hfz60_5 := blk_frozen BK101.out 5); (have hfz60_6 := blk_frozen BK101.out 6); (go_wp2_with (first | ((with_reducible refine gate_callee (f := 59) rfl ?_); refine gL (some 108) Tryd.func59 #[.int .i64 (l1_4.length : Int), .int .i64 1, .int .i64 6] ?_; (with_reducible refine (impl_within.calls (l1_4.length : Int) 1 6 true _ A56.out).mono ?_); rintro e w' ⟨rfl, ⟨nd, rfl⟩⟩; refine ⟨_, rfl, ?_⟩))); go_ret; (exact Q100)
                ·replace c57 := Bool.eq_false_iff.mpr c57
                 subst c57; (rw [if_neg (show ¬ (false = true) by decide)] at H); (obtain rfl := Option.some.inj H); (have hcz61_0 := cz BK101.out 0); (have hcz61_1 := cz BK101.out 1); (have hcz61_2 := cz BK101.out 2); (have hcz61_3 := cz BK101.out 3); (have hcz61_4 := cz BK101.out 4); (have hcz61_5 := cz BK101.out 5); (have hcz61_6 := cz BK101.out 6); (have hfz61_0 := blk_frozen BK101.out 0); (have hfz61_1 := blk_frozen BK101.out 1); (have hfz61_2 := blk_frozen BK101.out 2); (have hfz61_3 := blk_frozen BK101.out 3); (have hfz61_4 := blk_frozen BK101.out 4); (have hfz61_5 := blk_frozen BK101.out 5); (have hfz61_6 := blk_frozen BK101.out 6); (go_wp2_with (first | ((with_reducible refine gate_callee (f := 59) rfl ?_); refine gL (some 108) Tryd.func59 #[.int .i64 (l1_4.length : Int), .int .i64 1, .int .i64 6] ?_; (with_reducible refine (impl_within.calls (l1_4.length : Int) 1 6 false _ A56.out).mono ?_); rintro e w' ⟨rfl, ⟨nd, rfl⟩⟩; refine ⟨_, rfl, ?_⟩))); go_ret; (exact Q100)
            ·rw [if_neg c41] at H
             (have c41b0 : (a1_1 == 3) = false := beq_eq_false_iff_ne.mpr c41); (have c41b1 : (a1_1 != 3) = true := bne_iff_ne.mpr c41); (by_cases c62 : a1_1 = 4)
             ·rw [if_pos c62] at H
              (have c62b0 : (a1_1 == 4) = true := beq_iff_eq.mpr c62); (have c62b1 : (a1_1 != 4) = false := bne_eq_false_iff_eq.mpr c62); clear c62; (by_cases c63 : a1_2 = 0)
              ·rw [if_pos c63] at H
               (have c63b0 : (a1_2 == 0) = true := beq_iff_eq.mpr c63); (have c63b1 : (a1_2 != 0) = false := bne_eq_false_iff_eq.mpr c63); clear c63; (obtain rfl := Option.some.inj H); (have hcz64_0 := cz BK101.out 0); (have hcz64_1 := cz BK101.out 1); (have hcz64_2 := cz BK101.out 2); (have hcz64_3 := cz BK101.out 3); (have hcz64_4 := cz BK101.out 4); (have hcz64_5 := cz BK101.out 5); (have hcz64_6 := cz BK101.out 6); (have hfz64_0 := blk_frozen BK101.out 0); (have hfz64_1 := blk_frozen BK101.out 1); (have hfz64_2 := blk_frozen BK101.out 2); (have hfz64_3 := blk_frozen BK101.out 3); (have hfz64_4 := blk_frozen BK101.out 4); (have hfz64_5 := blk_frozen BK101.out 5); (have hfz64_6 := blk_frozen BK101.out 6); (go_wp2); go_ret; (exact Q100)
              ·rw [if_neg c63] at H
               (have c63b0 : (a1_2 == 0) = false := beq_eq_false_iff_ne.mpr c63); (have c63b1 : (a1_2 != 0) = true := bne_iff_ne.mpr c63); (obtain rfl := Option.some.inj H); (have hcz65_0 := cz BK101.out 0); (have hcz65_1 := cz BK101.out 1); (have hcz65_2 := cz BK101.out 2); (have hcz65_3 := cz BK101.out 3); (have hcz65_4 := cz BK101.out 4); (have hcz65_5 := cz BK101.out 5); (have hcz65_6 := cz BK101.out 6); (have hfz65_0 := blk_frozen BK101.out 0); (have hfz65_1 := blk_frozen BK101.out 1); (have hfz65_2 := blk_frozen BK101.out 2); (have hfz65_3 := blk_frozen BK101.out 3); (have hfz65_4 := blk_frozen BK101.out 4); (have hfz65_5 := blk_frozen BK101.out 5); (have hfz65_6 := blk_frozen BK101.out 6); (go_wp2); go_ret; (exact Q100)
             ·rw [if_neg c62] at H
              (have c62b0 : (a1_1 == 4) = false := beq_eq_false_iff_ne.mpr c62); (have c62b1 : (a1_1 != 4) = true := bne_iff_ne.mpr c62); (obtain rfl := Option.some.inj H); (have hcz66_0 := cz BK101.out 0); (have hcz66_1 := cz BK101.out 1); (have hcz66_2 := cz BK101.out 2); (have hcz66_3 := cz BK101.out 3); (have hcz66_4 := cz BK101.out 4); (have hcz66_5 := cz BK101.out 5); (have hcz66_6 := cz BK101.out 6); (have hfz66_0 := blk_frozen BK101.out 0); (have hfz66_1 := blk_frozen BK101.out 1); (have hfz66_2 := blk_frozen BK101.out 2); (have hfz66_3 := blk_frozen BK101.out 3); (have hfz66_4 := blk_frozen BK101.out 4); (have hfz66_5 := blk_frozen BK101.out 5); (have hfz66_6 := blk_frozen BK101.out 6); (go_wp2); go_ret; (exact Q100)
/-! ### impl_IsValidForm: function 10 -/
def impl_IsValidForm.l0 : Nat → List (S54) → List (S54) → Int → Int → Option (Bool)
 | 0, _, _, _, _ => none
 | k + 1, x0, x5, x6, x7 => if x7 < x6 then (if 0 ≤ x7 then (if x7 < (x5.length : Int) then (if x7 ≤ (x0.length : Int) then ((impl_isField.f k (x0.take (x7 : Int).toNat) ((rd_T54 x5 x7).f0) ((rd_T54 x5 x7).f1) ((rd_T54 x5 x7).f2) ((rd_T54 x5 x7).f3) ((rd_T54 x5 x7).f4) ((rd_T54 x5 x7).f5) ((rd_T54 x5 x7).f6)).bind fun t107 => (if t107 = true then (impl_IsValidForm.l0 k x0 x5 x6 (wrap64 (x7 + 1))) else (some false))) else (none)) else (none)) else (none)) else (some (decide ((x0.length : Int) ≤ 10)))
def impl_IsValidForm.f (k : Nat) (l0 : List (S54)) : Option (Bool) := impl_IsValidForm.l0 k l0 l0 (l0.length : Int) 0
set_option maxHeartbeats 8000000 in
set_option maxRecDepth 100000 in
theorem impl_IsValidForm.calls (k : Nat) (A0 : Option Addr) (c0 : Nat) (l0 : List (S54)) (r : Bool) (w : World) (hr0 : Kd.C k54 w A0 l0.length l0) (hc0 : l0.length ≤ c0) (h : impl_IsValidForm.f k l0 = some r) :
  Calls Tryd.prog 10 #[.slice A0 l0.length c0] w fun e w' => e = .returned (.bool r) ∧ Below w.heap.size w w' := by
 (have hu54 := Tryd.underlying54); (have HR0 := Aside0.mk hr0); (have HC0 := Aside0.mk hc0); clear hr0 hc0; (have HB := Aside0.mk (Below.refl w.heap.size w)); (unfold impl_IsValidForm.f at h); (have H := h); clear h; (have H' := Aside0.mk H); clear H; (go_enter Tryd.func10, Tryd.ntmps10); (go_wp2); (go_loopg [7] k (fun kq v7 w' => ∃ (x7_1 : Int), v7 = .int .i64 x7_1 ∧ Aside0 (impl_IsValidForm.l0 kq l0 l0 (l0.length : Int) x7_1 = some r) ∧ Aside0 (kq ≤ k) ∧ Aside0 (Below w.heap.size w w')))
 case atStart => exact Q106
 case round =>
  (clear H'); (try clear c1); (obtain ⟨x7_1, rfl, HA, HK1, HB⟩ := hrel)
  cases gk with
  | zero => exact absurd HA.out (by simp [impl_IsValidForm.l0])
  | succ k1 =>
   (have H := HA.out); clear HA; (simp only [impl_IsValidForm.l0] at H); (by_cases c2 : x7_1 < (l0.length : Int))
   ·rw [if_pos c2] at H
    (have c2b0 := decide_eq_true c2); clear c2; (by_cases c3 : 0 ≤ x7_1)
    ·rw [if_pos c3] at H
     (have c3b0 := decide_eq_true c3); clear c3; (by_cases c4 : x7_1 < (l0.length : Int))
     ·rw [if_pos c4] at H
      (have c4b0 := decide_eq_true c4); clear c4; (have c5b0 := eq_true (odt : 0 ≤ x7_1)); (by_cases c6 : x7_1 ≤ (l0.length : Int))
      ·rw [if_pos c6] at H
       (have c6b0 := eq_true c6); (have c6b1 := decide_eq_true c6); clear c6; (obtain ⟨y103, hy103⟩ : ∃ y_ : List (S54), y_ = (l0.take (x7_1 : Int).toNat) := ⟨_, rfl⟩); (replace H : ((impl_isField.f k1 y103 ((rd_T54 l0 x7_1).f0) ((rd_T54 l0 x7_1).f1) ((rd_T54 l0 x7_1).f2) ((rd_T54 l0 x7_1).f3) ((rd_T54 l0 x7_1).f4) ((rd_T54 l0 x7_1).f5) ((rd_T54 l0 x7_1).f6)).bind fun t107 => (if t107 = true then (impl_IsValidForm.l0 k1 l0 l0 (l0.length : Int) (wrap64 (x7_1 + 1))) else (some false))) = some r := by first | (rw [hy103]; with_reducible exact H) | (have H2_ := (Option.bind_some _ _).symm.trans H; rw [hy103]; with_reducible exact H2_) | (have H2_ := (Option.bind_some _ _).symm.trans H; with_reducible exact H2_) | with_reducible exact H | (rw [hy103]; exact H) | exact H); (have Ny103 := Aside0.mk hy103); clear hy103; (replace H := obS H); (obtain ⟨t107, A7, H⟩ := H); (by_cases c8 : t107 = true)
       ·subst c8
        (rw [if_pos rfl] at H); (have H' := Aside0.mk H); clear H; (have p101 : 0 ≤ (x7_1 : Int) := odt); (have q101 : x7_1 < (l0.length : Int) := odt); (obtain ⟨ad101, A101_4, c101_4, e101, hx101_0, hx101_1, hx101_2, hx101_3, hx101_4, hx101_5, hx101_6, hl101_4, hi101_4⟩ := at_T54 HR0.out x7_1 p101 q101); (cases e101); (replace hx101_0 := hcI HB hx101_0); (replace hx101_1 := hcI HB hx101_1); (replace hx101_2 := hcI HB hx101_2); (replace hx101_3 := hcI HB hx101_3); (replace hx101_4 := hcI HB hx101_4); (replace hx101_5 := hcI HB hx101_5); (replace hx101_6 := hcI HB hx101_6); (have HR101_4 := Aside0.mk hi101_4); (have HC101_4 := Aside0.mk hl101_4); clear hi101_4 hl101_4; (replace p101 := eq_true p101); (replace q101 := eq_true q101); (try go_wp2_with (first | ((with_reducible refine gate_dst (N := 4) rfl ?_); refine box_event ?hg (N := 4) ?hd (cs := #[.string (⟨#[]⟩ : ByteArray), .int .i64 0, .int .i64 0, .int .i64 0, .slice none 0 0, .bool false, .string (⟨#[]⟩ : ByteArray)]) (t := 54) ?hr ?_; (case hd => rfl); (case hg => rfl); (case hr => first | (go_simp; done) | (go_simp; rfl)); intro gb102 hg w9 hbox hb; have hB_ := zI hb HB; have n0_ := Aside0.mk (below_step hB_ hb); have n1_ := Aside0.mk (hbox); have n2_ := Aside0.mk (bx0 hg hB_); have n3_ := n2_; clear HB; have HB := n0_; have BK102 := n1_; have GW102 := n2_; have GE102 := n3_; clear n0_ n1_ n2_ n3_ hB_ hb hbox hg; have hcz10_0 := cz BK102.out 0; have hcz10_1 := cz BK102.out 1; have hcz10_2 := cz BK102.out 2; have hcz10_3 := cz BK102.out 3; have hcz10_4 := cz BK102.out 4; have hcz10_5 := cz BK102.out 5; have hcz10_6 := cz BK102.out 6; have hfz10_0 := blk_frozen BK102.out 0; have hfz10_1 := blk_frozen BK102.out 1; have hfz10_2 := blk_frozen BK102.out 2; have hfz10_3 := blk_frozen BK102.out 3; have hfz10_4 := blk_frozen BK102.out 4; have hfz10_5 := blk_frozen BK102.out 5; have hfz10_6 := blk_frozen BK102.out 6))); (have n0_ : Aside0 ((((((((w9.setCell ⟨gb102, 0, none⟩ (.string ((rd_T54 l0 x7_1).f0))).setCell ⟨gb102, 1, none⟩ (.int .i64 ((rd_T54 l0 x7_1).f1))).setCell ⟨gb102, 2, none⟩ (.int .i64 ((rd_T54 l0 x7_1).f2))).setCell ⟨gb102, 3, none⟩ (.int .i64 ((rd_T54 l0 x7_1).f3))).setCell ⟨gb102, 4, none⟩ (.slice A101_4 ((rd_T54 l0 x7_1).f4).length c101_4)).setCell ⟨gb102, 5, none⟩ (.bool ((rd_T54 l0 x7_1).f5))).setCell ⟨gb102, 6, none⟩ (.string ((rd_T54 l0 x7_1).f6))).heap[gb102]? = some (.cells #[.string ((rd_T54 l0 x7_1).f0), .int .i64 ((rd_T54 l0 x7_1).f1), .int .i64 ((rd_T54 l0 x7_1).f2), .int .i64 ((rd_T54 l0 x7_1).f3), .slice A101_4 ((rd_T54 l0 x7_1).f4).length c101_4, .bool ((rd_T54 l0 x7_1).f5), .string ((rd_T54 l0 x7_1).f6)] 54 (0, 0))) := ⟨Q107⟩)
        (have n1_ : Aside0 (Below w.heap.size w (((((((w9.setCell ⟨gb102, 0, none⟩ (.string ((rd_T54 l0 x7_1).f0))).setCell ⟨gb102, 1, none⟩ (.int .i64 ((rd_T54 l0 x7_1).f1))).setCell ⟨gb102, 2, none⟩ (.int .i64 ((rd_T54 l0 x7_1).f2))).setCell ⟨gb102, 3, none⟩ (.int .i64 ((rd_T54 l0 x7_1).f3))).setCell ⟨gb102, 4, none⟩ (.slice A101_4 ((rd_T54 l0 x7_1).f4).length c101_4)).setCell ⟨gb102, 5, none⟩ (.bool ((rd_T54 l0 x7_1).f5))).setCell ⟨gb102, 6, none⟩ (.string ((rd_T54 l0 x7_1).f6)))) := ⟨Q108⟩); ((try clear BK102)); ((try clear HB)); (generalize (((((((w9.setCell ⟨gb102, 0, none⟩ (.string ((rd_T54 l0 x7_1).f0))).setCell ⟨gb102, 1, none⟩ (.int .i64 ((rd_T54 l0 x7_1).f1))).setCell ⟨gb102, 2, none⟩ (.int .i64 ((rd_T54 l0 x7_1).f2))).setCell ⟨gb102, 3, none⟩ (.int .i64 ((rd_T54 l0 x7_1).f3))).setCell ⟨gb102, 4, none⟩ (.slice A101_4 ((rd_T54 l0 x7_1).f4).length c101_4)).setCell ⟨gb102, 5, none⟩ (.bool ((rd_T54 l0 x7_1).f5))).setCell ⟨gb102, 6, none⟩ (.string ((rd_T54 l0 x7_1).f6))) = w11 at n0_ n1_ ⊢); (have BK102 := n0_); (have HB := n1_); clear n0_ n1_; (have n0_ := Aside0.mk (blk_drew BK102.out)); (have n1_ := Aside0.mk (below_drew1 HB.out)); clear BK102 HB; (have BK102 := n0_); (have HB := n1_); clear n0_ n1_; (have q13 : (x7_1 : Int) ≤ ((l0.length : Int) : Int) := odt); (obtain ⟨i013, hi013, _, hsz13, _⟩ := info_parts info54); (have hroom13 : l0.length ≤ c0 := HC0.out); (have hC13 : Kd.C k54 _ (some ad101) l0.length l0 := HR0.out); (have hcut13 := cut_to (P := Tryd.prog) 24 54 .i64 Tryd.underlying24 hi013 (some ad101) l0.length c0 x7_1 odt q13 hroom13); (have hr13 := Kd.C_take (m := (x7_1 : Int).toNat) hC13 (by omega)); (have hy13 : y103.length = (x7_1 : Int).toNat := (by rw [Ny103.out, List.length_take]; omega)); (rw [← Ny103.out] at hr13); (rw [← hy13] at hcut13); (have HR106 := Aside0.mk hr13); (have HC106 := Aside0.mk (show y103.length ≤ c0 from by omega)); clear hr13 hC13 hroom13 hi013 hsz13; (have KY13 := Aside0.mk hy13); clear hy13; (replace q13 := eq_true q13); (refine start_ (n := 6) (S := fun w' => w'.cell? ⟨gb102, 0, none⟩ = some (.string ((rd_T54 l0 x7_1).f0)) ∧ w'.cell? ⟨gb102, 1, none⟩ = some (.int .i64 ((rd_T54 l0 x7_1).f1)) ∧ w'.cell? ⟨gb102, 2, none⟩ = some (.int .i64 ((rd_T54 l0 x7_1).f2)) ∧ w'.cell? ⟨gb102, 3, none⟩ = some (.int .i64 ((rd_T54 l0 x7_1).f3)) ∧ w'.cell? ⟨gb102, 4, none⟩ = some (.slice A101_4 ((rd_T54 l0 x7_1).f4).length c101_4) ∧ w'.cell? ⟨gb102, 5, none⟩ = some (.bool ((rd_T54 l0 x7_1).f5)) ∧ w'.cell? ⟨gb102, 6, none⟩ = some (.string ((rd_T54 l0 x7_1).f6))) (ds := []) (cn 6 0) (by kernel_rfl) rfl (by kernel_rfl) ⟨cz BK102.out 0, cz BK102.out 1, cz BK102.out 2, cz BK102.out 3, cz BK102.out 4, cz BK102.out 5, cz BK102.out 6⟩ (fun hHeld => ?_)); (generalize w11.drew = w12 at BK102 HB HR106 hHeld ⊢); (refine pure_ (i := 0) (N := some 12) (v := ?_) (a' := ?_) (cn 6 1) rfl rfl (by kernel_rfl) (fun _ _ _ h => h) (Or.inl ⟨by rfl, ?_⟩) ?_ ?_); rotate_left; (· intro w'; go_simp; with_reducible rfl); rotate_left; (· (simp only [Act.put, aS1, aS2, aS3, i64_w, i32_w]); rfl); (refine pure_ (i := 1) (N := some 13) (v := ?_) (a' := ?_) (cn 6 2) rfl rfl (by kernel_rfl) (fun _ _ _ h => h) (Or.inl ⟨by rfl, ?_⟩) ?_ ?_); rotate_left; (· intro w'; go_simp; with_reducible rfl); rotate_left; (· (simp only [Act.put, aS1, aS2, aS3, i64_w, i32_w]); rfl); (refine pure_ (i := 2) (N := some 14) (v := ?_) (a' := ?_) (cn 6 3) rfl rfl (by kernel_rfl) (fun _ _ _ h => h) (Or.inl ⟨by rfl, ?_⟩) ?_ ?_); rotate_left; (· intro w'; go_simp; with_reducible rfl); rotate_left; (· (simp only [Act.put, aS1, aS2, aS3, i64_w, i32_w]); rfl); (refine take_ (i := 3) (N := some 15) (v := ?_) (a' := ?_) (cn 6 4) rfl rfl (by kernel_rfl) (fun _ _ _ h => h) (Or.inl ⟨by rfl, ?_⟩) hHeld ?_ ?_); rotate_left; (· (rintro w' ⟨s0, s1, s2, s3, s4, s5, s6⟩); go_simp; with_reducible rfl); rotate_left; (· (simp only [Act.put, aS1, aS2, aS3, i64_w, i32_w]); rfl); (refine one_ (i := 4) (N := some 16) (cn 6 5) rfl rfl (by kernel_rfl) (by decide) (fun K hK => ?_)); (refine gG Tryd.func33 #[.slice (some ad101) y103.length c0, .agg #[.string ((rd_T54 l0 x7_1).f0), .int .i64 ((rd_T54 l0 x7_1).f1), .int .i64 ((rd_T54 l0 x7_1).f2), .int .i64 ((rd_T54 l0 x7_1).f3), .slice A101_4 ((rd_T54 l0 x7_1).f4).length c101_4, .bool ((rd_T54 l0 x7_1).f5), .string ((rd_T54 l0 x7_1).f6)]] ?_); (with_reducible refine (impl_isField.calls k1 _ _ y103 ((rd_T54 l0 x7_1).f0) ((rd_T54 l0 x7_1).f1) ((rd_T54 l0 x7_1).f2) ((rd_T54 l0 x7_1).f3) _ _ ((rd_T54 l0 x7_1).f4) ((rd_T54 l0 x7_1).f5) ((rd_T54 l0 x7_1).f6) true _ ?side1 ?side2 ?side3 ?side4 A7.out).mono ?_); ((case side1 => exact Kd.C_below HR106.out (eI HB))); ((case side2 => exact HC106.out)); ((case side3 => exact Q109)); ((case side4 => exact HC101_4.out)); (rintro e w14 ⟨rfl, hb⟩); (refine ⟨_, rfl, ?_⟩)
        (have n0_ := Aside0.mk (kbI hb BK102)); (have n1_ := Aside0.mk (sI hb HB)); clear BK102 HB; (have BK102 := n0_); (have HB := n1_); clear n0_ n1_; ((try clear hb)); ((try clear hb2)); ((try clear hk)); ((try clear hi)); (refine hK.out _ _ ⟨cz BK102.out 0, cz BK102.out 1, cz BK102.out 2, cz BK102.out 3, cz BK102.out 4, cz BK102.out 5, cz BK102.out 6⟩ (fun hHeld => ?_)); clear hK K; (refine nP (some 16) (h := ?_)); (refine pure_ (i := 5) (N := some 17) (v := ?_) (a' := ?_) (cn 6 6) rfl rfl (by kernel_rfl) (fun _ _ _ h => h) (Or.inl ⟨by rfl, ?_⟩) ?_ ?_); rotate_left; (· intro w'; go_simp; with_reducible rfl); rotate_left; (· (simp only [Act.put, aS1, aS2, aS3, i64_w, i32_w]); rfl); (refine done_ (by kernel_rfl) ?_); (try go_wp2); go_roundg k1
        case measure => have := HK1.out; omega
        case rel => exact ⟨(wrap64 (x7_1 + 1)), Q32, H', ⟨Q69⟩, ⟨eI HB⟩⟩
       ·replace c8 := Bool.eq_false_iff.mpr c8
        subst c8; (rw [if_neg (show ¬ (false = true) by decide)] at H); (obtain rfl := Option.some.inj H); (have p101 : 0 ≤ (x7_1 : Int) := odt); (have q101 : x7_1 < (l0.length : Int) := odt); (obtain ⟨ad101, A101_4, c101_4, e101, hx101_0, hx101_1, hx101_2, hx101_3, hx101_4, hx101_5, hx101_6, hl101_4, hi101_4⟩ := at_T54 HR0.out x7_1 p101 q101); (cases e101); (replace hx101_0 := hcI HB hx101_0); (replace hx101_1 := hcI HB hx101_1); (replace hx101_2 := hcI HB hx101_2); (replace hx101_3 := hcI HB hx101_3); (replace hx101_4 := hcI HB hx101_4); (replace hx101_5 := hcI HB hx101_5); (replace hx101_6 := hcI HB hx101_6); (have HR101_4 := Aside0.mk hi101_4); (have HC101_4 := Aside0.mk hl101_4); clear hi101_4 hl101_4; (replace p101 := eq_true p101); (replace q101 := eq_true q101); (try go_wp2_with (first | ((with_reducible refine gate_dst (N := 4) rfl ?_); refine box_event ?hg (N := 4) ?hd (cs := #[.string (⟨#[]⟩ : ByteArray), .int .i64 0, .int .i64 0, .int .i64 0, .slice none 0 0, .bool false, .string (⟨#[]⟩ : ByteArray)]) (t := 54) ?hr ?_; (case hd => rfl); (case hg => rfl); (case hr => first | (go_simp; done) | (go_simp; rfl)); intro gb102 hg w15 hbox hb; have hB_ := zI hb HB; have n0_ := Aside0.mk (below_step hB_ hb); have n1_ := Aside0.mk (hbox); have n2_ := Aside0.mk (bx0 hg hB_); have n3_ := n2_; clear HB; have HB := n0_; have BK102 := n1_; have GW102 := n2_; have GE102 := n3_; clear n0_ n1_ n2_ n3_ hB_ hb hbox hg; have hcz16_0 := cz BK102.out 0; have hcz16_1 := cz BK102.out 1; have hcz16_2 := cz BK102.out 2; have hcz16_3 := cz BK102.out 3; have hcz16_4 := cz BK102.out 4; have hcz16_5 := cz BK102.out 5; have hcz16_6 := cz BK102.out 6; have hfz16_0 := blk_frozen BK102.out 0; have hfz16_1 := blk_frozen BK102.out 1; have hfz16_2 := blk_frozen BK102.out 2; have hfz16_3 := blk_frozen BK102.out 3; have hfz16_4 := blk_frozen BK102.out 4; have hfz16_5 := blk_frozen BK102.out 5; have hfz16_6 := blk_frozen BK102.out 6))); (have n0_ : Aside0 ((((((((w15.setCell ⟨gb102, 0, none⟩ (.string ((rd_T54 l0 x7_1).f0))).setCell ⟨gb102, 1, none⟩ (.int .i64 ((rd_T54 l0 x7_1).f1))).setCell ⟨gb102, 2, none⟩ (.int .i64 ((rd_T54 l0 x7_1).f2))).setCell ⟨gb102, 3, none⟩ (.int .i64 ((rd_T54 l0 x7_1).f3))).setCell ⟨gb102, 4, none⟩ (.slice A101_4 ((rd_T54 l0 x7_1).f4).length c101_4)).setCell ⟨gb102, 5, none⟩ (.bool ((rd_T54 l0 x7_1).f5))).setCell ⟨gb102, 6, none⟩ (.string ((rd_T54 l0 x7_1).f6))).heap[gb102]? = some (.cells #[.string ((rd_T54 l0 x7_1).f0), .int .i64 ((rd_T54 l0 x7_1).f1), .int .i64 ((rd_T54 l0 x7_1).f2), .int .i64 ((rd_T54 l0 x7_1).f3), .slice A101_4 ((rd_T54 l0 x7_1).f4).length c101_4, .bool ((rd_T54 l0 x7_1).f5), .string ((rd_T54 l0 x7_1).f6)] 54 (0, 0))) := ⟨Q107⟩)
        (have n1_ : Aside0 (Below w.heap.size w (((((((w15.setCell ⟨gb102, 0, none⟩ (.string ((rd_T54 l0 x7_1).f0))).setCell ⟨gb102, 1, none⟩ (.int .i64 ((rd_T54 l0 x7_1).f1))).setCell ⟨gb102, 2, none⟩ (.int .i64 ((rd_T54 l0 x7_1).f2))).setCell ⟨gb102, 3, none⟩ (.int .i64 ((rd_T54 l0 x7_1).f3))).setCell ⟨gb102, 4, none⟩ (.slice A101_4 ((rd_T54 l0 x7_1).f4).length c101_4)).setCell ⟨gb102, 5, none⟩ (.bool ((rd_T54 l0 x7_1).f5))).setCell ⟨gb102, 6, none⟩ (.string ((rd_T54 l0 x7_1).f6)))) := ⟨Q108⟩); ((try clear BK102)); ((try clear HB)); (generalize (((((((w15.setCell ⟨gb102, 0, none⟩ (.string ((rd_T54 l0 x7_1).f0))).setCell ⟨gb102, 1, none⟩ (.int .i64 ((rd_T54 l0 x7_1).f1))).setCell ⟨gb102, 2, none⟩ (.int .i64 ((rd_T54 l0 x7_1).f2))).setCell ⟨gb102, 3, none⟩ (.int .i64 ((rd_T54 l0 x7_1).f3))).setCell ⟨gb102, 4, none⟩ (.slice A101_4 ((rd_T54 l0 x7_1).f4).length c101_4)).setCell ⟨gb102, 5, none⟩ (.bool ((rd_T54 l0 x7_1).f5))).setCell ⟨gb102, 6, none⟩ (.string ((rd_T54 l0 x7_1).f6))) = w17 at n0_ n1_ ⊢); (have BK102 := n0_); (have HB := n1_); clear n0_ n1_; (have n0_ := Aside0.mk (blk_drew BK102.out)); (have n1_ := Aside0.mk (below_drew1 HB.out)); clear BK102 HB; (have BK102 := n0_); (have HB := n1_); clear n0_ n1_; (have q19 : (x7_1 : Int) ≤ ((l0.length : Int) : Int) := odt); (obtain ⟨i019, hi019, _, hsz19, _⟩ := info_parts info54); (have hroom19 : l0.length ≤ c0 := HC0.out); (have hC19 : Kd.C k54 _ (some ad101) l0.length l0 := HR0.out); (have hcut19 := cut_to (P := Tryd.prog) 24 54 .i64 Tryd.underlying24 hi019 (some ad101) l0.length c0 x7_1 odt q19 hroom19); (have hr19 := Kd.C_take (m := (x7_1 : Int).toNat) hC19 (by omega)); (have hy19 : y103.length = (x7_1 : Int).toNat := (by rw [Ny103.out, List.length_take]; omega)); (rw [← Ny103.out] at hr19); (rw [← hy19] at hcut19); (have HR106 := Aside0.mk hr19); (have HC106 := Aside0.mk (show y103.length ≤ c0 from by omega)); clear hr19 hC19 hroom19 hi019 hsz19; (have KY19 := Aside0.mk hy19); clear hy19; (replace q19 := eq_true q19); (refine start_ (n := 6) (S := fun w' => w'.cell? ⟨gb102, 0, none⟩ = some (.string ((rd_T54 l0 x7_1).f0)) ∧ w'.cell? ⟨gb102, 1, none⟩ = some (.int .i64 ((rd_T54 l0 x7_1).f1)) ∧ w'.cell? ⟨gb102, 2, none⟩ = some (.int .i64 ((rd_T54 l0 x7_1).f2)) ∧ w'.cell? ⟨gb102, 3, none⟩ = some (.int .i64 ((rd_T54 l0 x7_1).f3)) ∧ w'.cell? ⟨gb102, 4, none⟩ = some (.slice A101_4 ((rd_T54 l0 x7_1).f4).length c101_4) ∧ w'.cell? ⟨gb102, 5, none⟩ = some (.bool ((rd_T54 l0 x7_1).f5)) ∧ w'.cell? ⟨gb102, 6, none⟩ = some (.string ((rd_T54 l0 x7_1).f6))) (ds := []) (cn 6 0) (by kernel_rfl) rfl (by kernel_rfl) ⟨cz BK102.out 0, cz BK102.out 1, cz BK102.out 2, cz BK102.out 3, cz BK102.out 4, cz BK102.out 5, cz BK102.out 6⟩ (fun hHeld => ?_)); (generalize w17.drew = w18 at BK102 HB HR106 hHeld ⊢); (refine pure_ (i := 0) (N := some 12) (v := ?_) (a' := ?_) (cn 6 1) rfl rfl (by kernel_rfl) (fun _ _ _ h => h) (Or.inl ⟨by rfl, ?_⟩) ?_ ?_); rotate_left; (· intro w'; go_simp; with_reducible rfl); rotate_left; (· (simp only [Act.put, aS1, aS2, aS3, i64_w, i32_w]); rfl); (refine pure_ (i := 1) (N := some 13) (v := ?_) (a' := ?_) (cn 6 2) rfl rfl (by kernel_rfl) (fun _ _ _ h => h) (Or.inl ⟨by rfl, ?_⟩) ?_ ?_); rotate_left; (· intro w'; go_simp; with_reducible rfl); rotate_left; (· (simp only [Act.put, aS1, aS2, aS3, i64_w, i32_w]); rfl); (refine pure_ (i := 2) (N := some 14) (v := ?_) (a' := ?_) (cn 6 3) rfl rfl (by kernel_rfl) (fun _ _ _ h => h) (Or.inl ⟨by rfl, ?_⟩) ?_ ?_); rotate_left; (· intro w'; go_simp; with_reducible rfl); rotate_left; (· (simp only [Act.put, aS1, aS2, aS3, i64_w, i32_w]); rfl); (refine take_ (i := 3) (N := some 15) (v := ?_) (a' := ?_) (cn 6 4) rfl rfl (by kernel_rfl) (fun _ _ _ h => h) (Or.inl ⟨by rfl, ?_⟩) hHeld ?_ ?_); rotate_left; (· (rintro w' ⟨s0, s1, s2, s3, s4, s5, s6⟩); go_simp; with_reducible rfl); rotate_left; (· (simp only [Act.put, aS1, aS2, aS3, i64_w, i32_w]); rfl); (refine one_ (i := 4) (N := some 16) (cn 6 5) rfl rfl (by kernel_rfl) (by decide) (fun K hK => ?_)); (refine gG Tryd.func33 #[.slice (some ad101) y103.length c0, .agg #[.string ((rd_T54 l0 x7_1).f0), .int .i64 ((rd_T54 l0 x7_1).f1), .int .i64 ((rd_T54 l0 x7_1).f2), .int .i64 ((rd_T54 l0 x7_1).f3), .slice A101_4 ((rd_T54 l0 x7_1).f4).length c101_4, .bool ((rd_T54 l0 x7_1).f5), .string ((rd_T54 l0 x7_1).f6)]] ?_); (with_reducible refine (impl_isField.calls k1 _ _ y103 ((rd_T54 l0 x7_1).f0) ((rd_T54 l0 x7_1).f1) ((rd_T54 l0 x7_1).f2) ((rd_T54 l0 x7_1).f3) _ _ ((rd_T54 l0 x7_1).f4) ((rd_T54 l0 x7_1).f5) ((rd_T54 l0 x7_1).f6) false _ ?side1 ?side2 ?side3 ?side4 A7.out).mono ?_); ((case side1 => exact Kd.C_below HR106.out (eI HB))); ((case side2 => exact HC106.out)); ((case side3 => exact Q109)); ((case side4 => exact HC101_4.out)); (rintro e w20 ⟨rfl, hb⟩); (refine ⟨_, rfl, ?_⟩)
        (have n0_ := Aside0.mk (kbI hb BK102)); (have n1_ := Aside0.mk (sI hb HB)); clear BK102 HB; (have BK102 := n0_); (have HB := n1_); clear n0_ n1_; ((try clear hb)); ((try clear hb2)); ((try clear hk)); ((try clear hi)); (refine hK.out _ _ ⟨cz BK102.out 0, cz BK102.out 1, cz BK102.out 2, cz BK102.out 3, cz BK102.out 4, cz BK102.out 5, cz BK102.out 6⟩ (fun hHeld => ?_)); clear hK K; (refine nP (some 16) (h := ?_)); (refine pure_ (i := 5) (N := some 17) (v := ?_) (a' := ?_) (cn 6 6) rfl rfl (by kernel_rfl) (fun _ _ _ h => h) (Or.inl ⟨by rfl, ?_⟩) ?_ ?_); rotate_left; (· intro w'; go_simp; with_reducible rfl); rotate_left; (· (simp only [Act.put, aS1, aS2, aS3, i64_w, i32_w]); rfl); (refine done_ (by kernel_rfl) ?_); (try go_wp2); go_ret; (exact Q100)
      ·rw [if_neg c6] at H
       exact Q1
     ·rw [if_neg c4] at H
      exact Q1
    ·rw [if_neg c3] at H
     exact Q1
   ·rw [if_neg c2] at H
    (have c2b0 := decide_eq_false c2); clear c2; (obtain rfl := Option.some.inj H); (go_wp2); go_ret; (exact Q100)
/-! ### impl_isText: function 49 -/
def impl_isText.l0 : Nat → ByteArray → Int → Int → Option (Bool)
 | 0, _, _, _ => none
 | k + 1, x0, x5, x6 => if x6 < x5 then (if 0 ≤ x6 then (if x6 < (x0.size : Int) then (if (bt x0 x6) < 32 then (some false) else (if (bt x0 x6) > 126 then (some false) else (impl_isText.l0 k x0 x5 (wrap64 (x6 + 1))))) else (none)) else (none)) else (some (decide ((x0.size : Int) ≤ 40)))
def impl_isText.f (k : Nat) (a0 : ByteArray) : Option (Bool) := impl_isText.l0 k a0 (a0.size : Int) 0
set_option maxHeartbeats 8000000 in
set_option maxRecDepth 100000 in
theorem impl_isText.calls (k : Nat) (a0 : ByteArray) (r : Bool) (w : World) (h : impl_isText.f k a0 = some r) :
  Calls Tryd.prog 49 #[.string a0] w fun e w' => e = .returned (.bool r) ∧ Drawn0 w w' := by
 (unfold impl_isText.f at h); (have H := h); clear h; (have H' := Aside0.mk H); clear H; (go_enter Tryd.func49, Tryd.ntmps49); (go_wp2); (go_loopg [6] k (fun kq v6 w' => ∃ (x6_1 : Int), v6 = .int .i64 x6_1 ∧ Aside0 (impl_isText.l0 kq a0 (a0.size : Int) x6_1 = some r) ∧ Aside0 (kq ≤ k) ∧ Drawn0 w w'))
 case atStart => exact Q94
 case round =>
  (clear H'); (obtain ⟨x6_1, rfl, HA, HK1, ⟨m1, rfl⟩⟩ := hrel)
  cases gk with
  | zero => exact absurd HA.out (by simp [impl_isText.l0])
  | succ k1 =>
   (have H := HA.out); clear HA; (simp only [impl_isText.l0] at H); (by_cases c2 : x6_1 < (a0.size : Int))
   ·rw [if_pos c2] at H
    (have c2b0 := decide_eq_true c2); clear c2; (by_cases c3 : 0 ≤ x6_1)
    ·rw [if_pos c3] at H
     (have c3b0 := decide_eq_true c3); clear c3; (by_cases c4 : x6_1 < (a0.size : Int))
     ·rw [if_pos c4] at H
      (have c4b0 := decide_eq_true c4); clear c4; (by_cases c6 : (bt a0 x6_1) < 32); (· (rw [if_pos c6] at H); (have c6b0 := decide_eq_true c6); clear c6; (obtain rfl := Option.some.inj H); (have p5 : 0 ≤ (x6_1 : Int) := odt); (have q5 : x6_1 < (a0.size : Int) := odt); (have hx5 := bt_at a0 x6_1); (replace p5 := eq_true p5); (replace q5 := eq_true q5); (go_wp2); go_ret; (exact Q95))
      ·rw [if_neg c6] at H
       (have c6b0 := decide_eq_false c6); clear c6; (by_cases c8 : (bt a0 x6_1) > 126)
       ·rw [if_pos c8] at H
        (have c8b0 : decide (126 < (bt a0 x6_1)) = true := decide_eq_true c8); clear c8; (obtain rfl := Option.some.inj H); (have p5 : 0 ≤ (x6_1 : Int) := odt); (have q5 : x6_1 < (a0.size : Int) := odt); (have hx5 := bt_at a0 x6_1); (replace p5 := eq_true p5); (replace q5 := eq_true q5); (have p7 : 0 ≤ (x6_1 : Int) := odt); (have q7 : x6_1 < (a0.size : Int) := odt); (have hx7 := bt_at a0 x6_1); (replace p7 := eq_true p7); (replace q7 := eq_true q7); (go_wp2); go_ret; (exact Q95)
       ·rw [if_neg c8] at H
        (have c8b0 : decide (126 < (bt a0 x6_1)) = false := decide_eq_false c8); clear c8; (have H' := Aside0.mk H); clear H; (have p5 : 0 ≤ (x6_1 : Int) := odt); (have q5 : x6_1 < (a0.size : Int) := odt); (have hx5 := bt_at a0 x6_1); (replace p5 := eq_true p5); (replace q5 := eq_true q5); (have p7 : 0 ≤ (x6_1 : Int) := odt); (have q7 : x6_1 < (a0.size : Int) := odt); (have hx7 := bt_at a0 x6_1); (replace p7 := eq_true p7); (replace q7 := eq_true q7); (go_wp2); go_roundg k1
        case measure => have := HK1.out; omega
        case rel => exact Q110
     ·rw [if_neg c4] at H
      exact Q1
    ·rw [if_neg c3] at H
     exact Q1
   ·rw [if_neg c2] at H
    (have c2b0 := decide_eq_false c2); clear c2; (obtain rfl := Option.some.inj H); (go_wp2); go_ret; (exact Q95)
/-! ### impl_IsValidAnswers: function 24 -/
def impl_IsValidAnswers.l0 : Nat → List (S54) → Int → List (S51) → Int → Int → Option (Bool)
 | 0, _, _, _, _, _ => none
 | k + 1, x0, x5, x9, x10, x11 => if x11 < x10 then (if 0 ≤ x11 then (if x11 < (x9.length : Int) then ((impl_fieldOf.f x0 ((rd_T51 x9 x11).f0)).bind fun t104 => (if t104 ≤ x5 then (some false) else ((impl_isText.f k ((rd_T51 x9 x11).f1)).bind fun t105 => (if t105 = true then (impl_IsValidAnswers.l0 k x0 t104 x9 x10 (wrap64 (x11 + 1))) else (some false))))) else (none)) else (none)) else ((impl_IsValidForm.f k x0).bind fun t101 => (some t101))
def impl_IsValidAnswers.f (k : Nat) (l0 : List (S54)) (l1 : List (S51)) : Option (Bool) := impl_IsValidAnswers.l0 k l0 (-1) l1 (l1.length : Int) 0
set_option maxHeartbeats 8000000 in
set_option maxRecDepth 100000 in
theorem impl_IsValidAnswers.calls (k : Nat) (A0 : Option Addr) (c0 : Nat) (l0 : List (S54)) (A1 : Option Addr) (c1 : Nat) (l1 : List (S51)) (r : Bool) (w : World) (hr0 : Kd.C k54 w A0 l0.length l0) (hc0 : l0.length ≤ c0) (hr1 : Kd.C k51 w A1 l1.length l1) (hc1 : l1.length ≤ c1) (h : impl_IsValidAnswers.f k l0 l1 = some r) :
  Calls Tryd.prog 24 #[.slice A0 l0.length c0, .slice A1 l1.length c1] w fun e w' => e = .returned (.bool r) ∧ Below w.heap.size w w' := by
 (have hu51 := Tryd.underlying51); (have HR0 := Aside0.mk hr0); (have HC0 := Aside0.mk hc0); clear hr0 hc0; (have HR1 := Aside0.mk hr1); (have HC1 := Aside0.mk hc1); clear hr1 hc1; (have HB := Aside0.mk (Below.refl w.heap.size w)); (unfold impl_IsValidAnswers.f at h); (have H := h); clear h; (have H' := Aside0.mk H); clear H; (go_enter Tryd.func24, Tryd.ntmps24); (go_wp2); (go_loopg [5, 11] k (fun kq v5 v11 w' => ∃ (x5_1 : Int) (x11_1 : Int), v5 = .int .i64 x5_1 ∧ v11 = .int .i64 x11_1 ∧ Aside0 (impl_IsValidAnswers.l0 kq l0 x5_1 l1 (l1.length : Int) x11_1 = some r) ∧ Aside0 (kq ≤ k) ∧ Aside0 (Below w.heap.size w w')))
 case atStart => exact Q111
 case round =>
  (clear H'); (try clear c1); (try clear c2); (try clear p2); (obtain ⟨x5_1, x11_1, rfl, rfl, HA, HK1, HB⟩ := hrel)
  cases gk with
  | zero => exact absurd HA.out (by simp [impl_IsValidAnswers.l0])
  | succ k1 =>
   (have H := HA.out); clear HA; (simp only [impl_IsValidAnswers.l0] at H); (by_cases c3 : x11_1 < (l1.length : Int))
   ·rw [if_pos c3] at H
    (have c3b0 := decide_eq_true c3); clear c3; (by_cases c4 : 0 ≤ x11_1)
    ·rw [if_pos c4] at H
     (have c4b0 := decide_eq_true c4); clear c4; (by_cases c5 : x11_1 < (l1.length : Int))
     ·rw [if_pos c5] at H
      (have c5b0 := decide_eq_true c5); clear c5; (replace H := obS H); (obtain ⟨t104, A6, H⟩ := H); (by_cases c7 : t104 ≤ x5_1)
      ·rw [if_pos c7] at H
       (have c7b0 := decide_eq_true c7); clear c7; (obtain rfl := Option.some.inj H); (have p102 : 0 ≤ (x11_1 : Int) := of_decide_eq_true Q33); (have q102 : x11_1 < (l1.length : Int) := of_decide_eq_true Q33); (obtain ⟨ad102, e102, hx102_0, hx102_1⟩ := at_T51 HR1.out x11_1 p102 q102); (cases e102); (replace hx102_0 := (HB.out.cell (bltc w _ hx102_0)).trans hx102_0); (replace hx102_1 := (HB.out.cell (bltc w _ hx102_1)).trans hx102_1); (replace p102 := eq_true p102); (replace q102 := eq_true q102); (go_wp2_with (first | ((with_reducible refine gate_dst (N := 7) rfl ?_); refine box_event ?hg (N := 7) ?hd (cs := #[.string (⟨#[]⟩ : ByteArray), .string (⟨#[]⟩ : ByteArray)]) (t := 51) ?hr ?_; (case hd => rfl); (case hg => rfl); (case hr => first | (go_simp; done) | (go_simp; rfl)); intro gb103 hg w8 hbox hb; have hB_ := bz Q87 hb; have n0_ := Aside0.mk (below_step hB_ hb); have n1_ := Aside0.mk (hbox); have n2_ := Aside0.mk ((Q88 : w.heap.size ≤ gb103)); have n3_ := n2_; clear HB; have HB := n0_; have BK103 := n1_; have GW103 := n2_; have GE103 := n3_; clear n0_ n1_ n2_ n3_ hB_ hb hbox hg; have hcz9_0 := cz BK103.out 0; have hcz9_1 := cz BK103.out 1; have hfz9_0 := blk_frozen BK103.out 0; have hfz9_1 := blk_frozen BK103.out 1) | ((with_reducible refine gate_callee (f := 46) rfl ?_); refine gL (some 18) Tryd.func46 #[.slice A0 l0.length c0, .string ((rd_T51 l1 x11_1).f0)] ?_; (with_reducible refine (impl_fieldOf.calls _ _ l0 ((rd_T51 l1 x11_1).f0) t104 _ ?side1 ?side2 A6.out).mono ?_); (case side1 => exact Q112); (case side2 => exact HC0.out); rintro e w10 ⟨rfl, hb⟩; refine ⟨_, rfl, ?_⟩; have n0_ := Aside0.mk (blk_below (g := gb103) (o := .cells #[.string ((rd_T51 l1 x11_1).f0), .string ((rd_T51 l1 x11_1).f1)] 51 (0, 0)) Q113 hb); have n1_ := Aside0.mk (below_step Q114 hb); clear BK103 HB; have BK103 := n0_; have HB := n1_; clear n0_ n1_; (try clear hb); (try clear hb2); (try clear hk); (try clear hi)))); go_ret; (exact Q115)
      ·rw [if_neg c7] at H
       (have c7b0 := decide_eq_false c7); clear c7; (replace H := obS H); (obtain ⟨t105, A11, H⟩ := H); (by_cases c12 : t105 = true)
       ·subst c12
        (rw [if_pos rfl] at H); (have H' := Aside0.mk H); clear H; (have p102 : 0 ≤ (x11_1 : Int) := of_decide_eq_true Q33); (have q102 : x11_1 < (l1.length : Int) := of_decide_eq_true Q33); (obtain ⟨ad102, e102, hx102_0, hx102_1⟩ := at_T51 HR1.out x11_1 p102 q102); (cases e102); (replace hx102_0 := (HB.out.cell (bltc w _ hx102_0)).trans hx102_0); (replace hx102_1 := (HB.out.cell (bltc w _ hx102_1)).trans hx102_1); (replace p102 := eq_true p102); (replace q102 := eq_true q102); (go_wp2_with (first | ((with_reducible refine gate_dst (N := 7) rfl ?_); refine box_event ?hg (N := 7) ?hd (cs := #[.string (⟨#[]⟩ : ByteArray), .string (⟨#[]⟩ : ByteArray)]) (t := 51) ?hr ?_; (case hd => rfl); (case hg => rfl); (case hr => first | (go_simp; done) | (go_simp; rfl)); intro gb103 hg w13 hbox hb; have hB_ := bz Q87 hb; have n0_ := Aside0.mk (below_step hB_ hb); have n1_ := Aside0.mk (hbox); have n2_ := Aside0.mk ((Q88 : w.heap.size ≤ gb103)); have n3_ := n2_; clear HB; have HB := n0_; have BK103 := n1_; have GW103 := n2_; have GE103 := n3_; clear n0_ n1_ n2_ n3_ hB_ hb hbox hg; have hcz14_0 := cz BK103.out 0; have hcz14_1 := cz BK103.out 1; have hfz14_0 := blk_frozen BK103.out 0; have hfz14_1 := blk_frozen BK103.out 1) | ((with_reducible refine gate_callee (f := 46) rfl ?_); refine gL (some 18) Tryd.func46 #[.slice A0 l0.length c0, .string ((rd_T51 l1 x11_1).f0)] ?_; (with_reducible refine (impl_fieldOf.calls _ _ l0 ((rd_T51 l1 x11_1).f0) t104 _ ?side1 ?side2 A6.out).mono ?_); (case side1 => exact Q112); (case side2 => exact HC0.out); rintro e w15 ⟨rfl, hb⟩; refine ⟨_, rfl, ?_⟩; have n0_ := Aside0.mk (blk_below (g := gb103) (o := .cells #[.string ((rd_T51 l1 x11_1).f0), .string ((rd_T51 l1 x11_1).f1)] 51 (0, 0)) Q113 hb); have n1_ := Aside0.mk (below_step Q114 hb); clear BK103 HB; have BK103 := n0_; have HB := n1_; clear n0_ n1_; (try clear hb); (try clear hb2); (try clear hk); (try clear hi); have hcz16_0 := cz BK103.out 0; have hcz16_1 := cz BK103.out 1; have hfz16_0 := blk_frozen BK103.out 0; have hfz16_1 := blk_frozen BK103.out 1) | (go_at_call 49; (with_reducible refine (impl_isText.calls k1 ((rd_T51 l1 x11_1).f1) true _ A11.out).mono ?_); rintro e w' ⟨rfl, ⟨nd, rfl⟩⟩))); go_roundg k1
        case measure => have := HK1.out; omega
        case rel => exact ⟨(t104), (wrap64 (x11_1 + 1)), Q32, Q32, H', ⟨Q69⟩, ⟨eI HB⟩⟩
       ·replace c12 := Bool.eq_false_iff.mpr c12
        subst c12; (rw [if_neg (show ¬ (false = true) by decide)] at H); (obtain rfl := Option.some.inj H); (have p102 : 0 ≤ (x11_1 : Int) := of_decide_eq_true Q33); (have q102 : x11_1 < (l1.length : Int) := of_decide_eq_true Q33); (obtain ⟨ad102, e102, hx102_0, hx102_1⟩ := at_T51 HR1.out x11_1 p102 q102); (cases e102); (replace hx102_0 := (HB.out.cell (bltc w _ hx102_0)).trans hx102_0); (replace hx102_1 := (HB.out.cell (bltc w _ hx102_1)).trans hx102_1); (replace p102 := eq_true p102); (replace q102 := eq_true q102); (go_wp2_with (first | ((with_reducible refine gate_dst (N := 7) rfl ?_); refine box_event ?hg (N := 7) ?hd (cs := #[.string (⟨#[]⟩ : ByteArray), .string (⟨#[]⟩ : ByteArray)]) (t := 51) ?hr ?_; (case hd => rfl); (case hg => rfl); (case hr => first | (go_simp; done) | (go_simp; rfl)); intro gb103 hg w17 hbox hb; have hB_ := bz Q87 hb; have n0_ := Aside0.mk (below_step hB_ hb); have n1_ := Aside0.mk (hbox); have n2_ := Aside0.mk ((Q88 : w.heap.size ≤ gb103)); have n3_ := n2_; clear HB; have HB := n0_; have BK103 := n1_; have GW103 := n2_; have GE103 := n3_; clear n0_ n1_ n2_ n3_ hB_ hb hbox hg; have hcz18_0 := cz BK103.out 0; have hcz18_1 := cz BK103.out 1; have hfz18_0 := blk_frozen BK103.out 0; have hfz18_1 := blk_frozen BK103.out 1) | ((with_reducible refine gate_callee (f := 46) rfl ?_); refine gL (some 18) Tryd.func46 #[.slice A0 l0.length c0, .string ((rd_T51 l1 x11_1).f0)] ?_; (with_reducible refine (impl_fieldOf.calls _ _ l0 ((rd_T51 l1 x11_1).f0) t104 _ ?side1 ?side2 A6.out).mono ?_); (case side1 => exact Q112); (case side2 => exact HC0.out); rintro e w19 ⟨rfl, hb⟩; refine ⟨_, rfl, ?_⟩; have n0_ := Aside0.mk (blk_below (g := gb103) (o := .cells #[.string ((rd_T51 l1 x11_1).f0), .string ((rd_T51 l1 x11_1).f1)] 51 (0, 0)) Q113 hb); have n1_ := Aside0.mk (below_step Q114 hb); clear BK103 HB; have BK103 := n0_; have HB := n1_; clear n0_ n1_; (try clear hb); (try clear hb2); (try clear hk); (try clear hi); have hcz20_0 := cz BK103.out 0; have hcz20_1 := cz BK103.out 1; have hfz20_0 := blk_frozen BK103.out 0; have hfz20_1 := blk_frozen BK103.out 1) | (go_at_call 49; (with_reducible refine (impl_isText.calls k1 ((rd_T51 l1 x11_1).f1) false _ A11.out).mono ?_); rintro e w' ⟨rfl, ⟨nd, rfl⟩⟩))); go_ret; (exact Q115)
     ·rw [if_neg c5] at H
      exact Q1
    ·rw [if_neg c4] at H
     exact Q1
   ·rw [if_neg c3] at H
    (have c3b0 := decide_eq_false c3); clear c3; (replace H := obS H); (obtain ⟨t101, A21, H⟩ := H); (obtain rfl := Option.some.inj H); (go_wp2_with (first | ((with_reducible refine gate_callee (f := 10) rfl ?_); refine gL (some 31) Tryd.func10 #[.slice A0 l0.length c0] ?_; (with_reducible refine (impl_IsValidForm.calls k1 _ _ l0 t101 _ ?side1 ?side2 A21.out).mono ?_); (case side1 => exact Q98); (case side2 => exact HC0.out); rintro e w22 ⟨rfl, hb⟩; refine ⟨_, rfl, ?_⟩; have n0_ := Aside0.mk (sI hb HB); clear HB; have HB := n0_; clear n0_; (try clear hb); (try clear hb2); (try clear hk); (try clear hi)))); go_ret; (exact Q100)
end Go.Proofs.YtiaiohoadefgjaaDoor.X
set_option linter.unusedVariables false
namespace Go.Proofs.YtiaiohoadefgjaaDoor.X
open Go.RowKit Go.Proofs.YtiaiohoadefgjaaDoorW.PrintWords Go.Proofs.YtiaiohoadefgjaaDoorW.PrintLast Go.Proofs.YtiaiohoadefgjaaDoorW.PrintMore Go.Proofs.YtiaiohoadefgjaaDoor.E
set_option maxHeartbeats 1000000 in
set_option maxRecDepth 100000 in
theorem idxFunc68 (A_ : Option Addr) (c_ : Nat) (l0 : List (S51)) (g : Nat) (lb : Array Value) (p : S51 → Bool) (w : World)
  (hr0 : Kd.C k51 w A_ l0.length l0) (eg : ∀ args w, (callFunc g args).run Tryd.prog w = .ok (.enter g args) w)
  (hp : ∀ (W : World) (x : S51), x ∈ l0 → Below w.heap.size w W → Calls Tryd.prog g (#[.agg #[.string x.f0, .string x.f1]] ++ lb) W fun e w' => e = .returned (.bool (p x)) ∧ Below W.heap.size W w') :
  Calls Tryd.prog 68 #[.slice A_ l0.length c_, .func (.func g) #[] lb] w fun e w' => e = .returned (.int .i64 (idxG p 0 l0)) ∧ Below w.heap.size w w' := by
 have hu51 := Tryd.underlying51
 have HL := Aside0.mk hr0.2.1
 have HR0 := Aside0.mk hr0
 have HP := Aside0.mk hp
 clear hr0 hp
 go_enter Tryd.func68, Tryd.ntmps68
 go_wp2
 go_loopg [5, 8] l0.length (fun gg _ s8 wr => ∃ x8 : Int, s8 = .int .i64 x8 ∧ Aside0 (0 ≤ x8) ∧ Aside0 (x8 ≤ (l0.length : Int)) ∧ Aside0 ((l0.length : Int) - x8 ≤ (gg : Int)) ∧ Aside0 (Below w.heap.size w wr) ∧ Aside0 (∀ (m : Nat) y, (m : Int) < x8 → l0[m]? = some y → p y = false))
 case atStart => exact ⟨0, rfl, ⟨by omega⟩, ⟨by omega⟩, ⟨by omega⟩, ⟨Below.refl _ _⟩, ⟨fun m y hm => by omega⟩⟩
 case round =>
  obtain ⟨x8, rfl, H0, H1, HG, HB, HN⟩ := hrel
  by_cases c : x8 < (l0.length : Int)
  ·have p1 := H0.out
   have q1 := c
   have cb : decide (x8 < (l0.length : Int)) = true := decide_eq_true c
   obtain ⟨ad, e, hx0, hx1⟩ := at_T51 (Kd.C_below HR0.out HB.out) x8 p1 q1
   cases e
   replace p1 := eq_true p1
   replace q1 := eq_true q1
   have hel : l0[x8.toNat]? = some (rd_T51 l0 x8) := by
    have := H0.out
    unfold rd_T51
    rw [List.getD_eq_getElem?_getD, List.getElem?_eq_getElem (show x8.toNat < l0.length by omega), Option.getD_some]
   have hcall := HP.out wr (rd_T51 l0 x8) (List.mem_of_getElem? hel) HB.out
   have HE := Aside0.mk hel
   clear hel
   have hwr : wrap64 (x8 + 1) = x8 + 1 := wrap_id (by have := H0.out; omega) (by have := HL.out; omega)
   cases hq : p (rd_T51 l0 x8) with
   | true =>
    rw [hq] at hcall
    have HQ := Aside0.mk hq
    clear hq
    go_wp2_with (go_at_fn g; refine hcall.mono ?_; rintro e w' ⟨rfl, hb⟩)
    go_ret
    refine ⟨?_, ?_⟩
    ·rw [idxG_here HE.out HQ.out (fun m y hm => HN.out m y (by have := H0.out; omega))]
     have := H0.out
     rw [Int.toNat_of_nonneg (by omega)]
     rfl
    ·exact below_step HB.out hb
   | false =>
    rw [hq] at hcall
    have HQ := Aside0.mk hq
    clear hq
    go_wp2_with (go_at_fn g; refine hcall.mono ?_; rintro e w' ⟨rfl, hb⟩)
    go_roundg (l0.length - (x8.toNat + 1))
    case measure => have := HG.out; have := H0.out; omega
    case rel =>
     refine ⟨x8 + 1, by simp [*], ⟨by have := H0.out; omega⟩, ⟨by omega⟩, ⟨by have := H0.out; omega⟩, ⟨below_step HB.out hb⟩, ⟨fun m y hm hy => ?_⟩⟩
     by_cases e : (m : Int) = x8
     ·have : x8.toNat = m := by omega
      rw [← this, HE.out] at hy
      cases hy
      exact HQ.out
     ·exact HN.out m y (by omega) hy
  ·have cb : decide (x8 < (l0.length : Int)) = false := decide_eq_false c
   have e : x8 = (l0.length : Int) := by have := H1.out; omega
   have HE := Aside0.mk e
   clear e
   go_wp2
   go_ret
   refine ⟨?_, HB.out⟩
   rw [idxG_none (fun m y hm => HN.out m y (by rw [HE.out]; omega))]
   rfl
end Go.Proofs.YtiaiohoadefgjaaDoor.X
namespace Go.Proofs.YtiaiohoadefgjaaDoor.X
open Go.RowKit Go.Proofs.YtiaiohoadefgjaaDoorW.PrintWords Go.Proofs.YtiaiohoadefgjaaDoorW.PrintLast Go.Proofs.YtiaiohoadefgjaaDoorW.PrintMore Go.Proofs.YtiaiohoadefgjaaDoor.E
attribute [local go_sem] max2_int min2_int max_two min_two max_three min_three max_four min_four
set_option linter.unusedVariables false
set_option linter.unusedSimpArgs false
attribute [-simp] ByteArray.size_append ByteArray.size_extract
attribute [-go_sem] ByteArray.size_append'
/-! ### impl_answerOf: function 50 -/
theorem answerOf1 (x : S51) (a : ByteArray) (B : Nat) (w : World) (hc : w.cell? ⟨B, 0, none⟩ = some (.string a)) :
  Calls Tryd.prog 72 #[.agg #[.string x.f0, .string x.f1], .pointer (some ⟨B, 0, none⟩)] w fun e w' => e = .returned (.bool (x.f0.toList == a.toList)) ∧ Below w.heap.size w w' := by
 (have hu59 := Tryd.underlying51); (have hc' : ∀ o : Obj, (w.alloc o).cell? ⟨B, 0, none⟩ = some (.string a) := fun o => ((((Below.refl _ _).alloc (Nat.le_refl _) o).cell (p := ⟨B, 0, none⟩) (bltc w _ hc))).trans hc); (go_enter Tryd.func72, Tryd.ntmps72); (go_wp2); go_ret; (exact ⟨rfl, (Below.refl _ _).alloc (Nat.le_refl _) _⟩)
def impl_answerOf.f (l0 : List S51) (a1 : ByteArray) : Option (ByteArray × Bool) := match l0.find? (fun x => x.f0.toList == a1.toList) with
 | some x => some (x.f1, true)
 | none => some (⟨#[]⟩, false)
set_option maxHeartbeats 400000 in
set_option maxRecDepth 100000 in
theorem impl_answerOf.calls (A0 : Option Addr) (c0 : Nat) (l0 : List (S51)) (a1 : ByteArray) (r1 : ByteArray) (r2 : Bool) (w : World) (hr0 : Kd.C k51 w A0 l0.length l0) (hc0 : l0.length ≤ c0) (h : impl_answerOf.f l0 a1 = some (r1, r2)) :
  Calls Tryd.prog 50 #[.slice A0 l0.length c0, .string a1] w fun e w' => e = .returned (.tuple #[.string r1, .bool r2]) ∧ Below w.heap.size w w' := by
 have C := fun (W : World) (hb : Below w.heap.size w W) (hlt : w.heap.size < W.heap.size) (hcell : W.cell? ⟨w.heap.size, 0, none⟩ = some (.string a1)) =>
  idxFunc68 A0 c0 l0 72 #[.pointer (some ⟨w.heap.size, 0, none⟩)] (fun x : S51 => x.f0.toList == a1.toList) W (Kd.C_below hr0 hb) (enters_of Tryd.func72 (by kernel_rfl) rfl) (fun W' x _ hb' => answerOf1 x a1 w.heap.size W' ((hb'.cell (p := ⟨w.heap.size, 0, none⟩) hlt).trans hcell))
 (have HR0 := Aside0.mk hr0); (have HL := Aside0.mk hr0.2.1); clear hr0; (rcases idxG_spec (fun x : S51 => x.f0.toList == a1.toList) l0 0 with ⟨h1, h2⟩ | ⟨j, x, h1, h2, h3, h4, h5, h6⟩); (· (have hf : l0.find? (fun x => x.f0.toList == a1.toList) = none := List.find?_eq_none.2 (fun x hx => by rw [h2 x hx]; simp)); (unfold impl_answerOf.f at h); (rw [hf] at h); (simp only [Option.some.injEq, Prod.mk.injEq] at h); (obtain ⟨rfl, rfl⟩ := h); (rw [h1] at C); (have CC := Aside0.mk C); clear C hf h1 h2; (go_enter Tryd.func50, Tryd.ntmps50); (go_wp2_with (go_at_call 68; refine (CC.out _ ?s1 ?s2 ?s3).mono ?_; (case s1 => exact Q97); (case s2 => simp); (case s3 => simp); rintro e w' ⟨rfl, hb⟩)); (go_ret2); (exact ⟨rfl, below_step ((Below.refl _ _).alloc (Nat.le_refl _) _) hb⟩))
 ·unfold impl_answerOf.f at h
  (rw [h5] at h); (simp only [Option.some.injEq, Prod.mk.injEq] at h); (obtain ⟨rfl, rfl⟩ := h); (rw [h2, Nat.zero_add] at C); (have p1 : 0 ≤ (j : Int) := by omega); (have q1 : (j : Int) < (l0.length : Int) := by omega)
  have hel : rd_T51 l0 (j : Int) = x := by
   (unfold rd_T51); (rw [Int.toNat_natCast, List.getD_eq_getElem?_getD, h3, Option.getD_some])
  (obtain ⟨ad, e, hx0, hx1⟩ := at_T51 HR0.out (j : Int) p1 q1); (rw [hel] at hx0 hx1); (rw [Int.toNat_natCast] at hx0 hx1); (cases e); (have K0 := Aside0.mk hx0); (have K1 := Aside0.mk hx1); (have cb : decide ((j : Int) < 0) = false := decide_eq_false (by omega)); (have hjl : j < l0.length := h1); clear hx0 hx1 hel h2 h3 h4 h5 h6 h1; (have CC := Aside0.mk C); clear C; (go_enter Tryd.func50, Tryd.ntmps50); (go_wp2_with (go_at_call 68; refine (CC.out _ ?s1 ?s2 ?s3).mono ?_; (case s1 => exact Q97); (case s2 => simp); (case s3 => simp); rintro e w' ⟨rfl, hb⟩; have HB := Aside0.mk (below_step ((Below.refl _ _).alloc (Nat.le_refl _) _) hb); clear hb; have g1 := (HB.out.cell (bltc w _ K1.out)).trans K1.out)); (go_ret2); (exact ⟨rfl, HB.out⟩)
end Go.Proofs.YtiaiohoadefgjaaDoor.X
namespace Go.Proofs.YtiaiohoadefgjaaDoor.X
open Go.RowKit Go.Proofs.YtiaiohoadefgjaaDoorW.PrintWords Go.Proofs.YtiaiohoadefgjaaDoorW.PrintLast Go.Proofs.YtiaiohoadefgjaaDoorW.PrintMore
attribute [local go_sem] max2_int min2_int max_two min_two max_three min_three max_four min_four
set_option linter.unusedVariables false
set_option linter.unusedSimpArgs false
attribute [-simp] ByteArray.size_append ByteArray.size_extract
attribute [-go_sem] ByteArray.size_append'
/-! ### impl_visible: function 42 -/
def impl_visible.l0 : Nat → List (S54) → List (S51) → List Bool → List (S54) → Int → Int → Option (List Bool)
 | 0, _, _, _, _, _, _ => none
 | k + 1, x0, x1, x5, x13, x14, x15 => if x15 < x14 then (if 0 ≤ x15 then (if x15 < (x13.length : Int) then (if ((rd_T54 x13 x15).f6).toList = ([] : List UInt8) then (if x15 < (x5.length : Int) then (impl_visible.l0 k x0 x1 (x5.set (x15 : Int).toNat true) x13 x14 (wrap64 (x15 + 1))) else (none)) else ((impl_answerOf.f x1 ((rd_T54 x13 x15).f6)).bind fun bt107 => ((impl_fieldOf.f x0 ((rd_T54 x13 x15).f6)).bind fun t109 => (if 0 ≤ t109 then (if t109 < (x5.length : Int) then (if rdOf false x5 t109 = true then (if x15 < (x5.length : Int) then (impl_visible.l0 k x0 x1 (x5.set (x15 : Int).toNat (bt107.1.toList == ([121, 101, 115] : List UInt8))) x13 x14 (wrap64 (x15 + 1))) else (none)) else (if x15 < (x5.length : Int) then (impl_visible.l0 k x0 x1 (x5.set (x15 : Int).toNat false) x13 x14 (wrap64 (x15 + 1))) else (none))) else (none)) else (none))))) else (none)) else (none)) else (some x5)
def impl_visible.f (k : Nat) (l0 : List (S54)) (l1 : List (S51)) : Option (List Bool) := if 0 ≤ (l0.length : Int) then (if ((l0.length : Int) : Int).toNat ≤ 281474976710656 then (impl_visible.l0 k l0 l1 (List.replicate ((l0.length : Int) : Int).toNat false) l0 (l0.length : Int) 0) else (none)) else (none)
set_option maxHeartbeats 8000000 in
set_option maxRecDepth 100000 in
theorem impl_visible.calls (k : Nat) (A0 : Option Addr) (c0 : Nat) (l0 : List (S54)) (A1 : Option Addr) (c1 : Nat) (l1 : List (S51)) (r : List Bool) (w : World) (hr0 : Kd.C k54 w A0 l0.length l0) (hc0 : l0.length ≤ c0) (hr1 : Kd.C k51 w A1 l1.length l1) (hc1 : l1.length ≤ c1) (h : impl_visible.f k l0 l1 = some r) :
  Calls Tryd.prog 42 #[.slice A0 l0.length c0, .slice A1 l1.length c1] w fun e w' => ∃ v0_ : Value, e = .returned (v0_) ∧ Kd.R Kd.bool 4 w' w.heap.size (fun _ => True) v0_ r ∧ Below w.heap.size w w' := by
 (have hu54 := Tryd.underlying54); (have HR0 := Aside0.mk hr0); (have HC0 := Aside0.mk hc0); clear hr0 hc0; (have HR1 := Aside0.mk hr1); (have HC1 := Aside0.mk hc1); clear hr1 hc1; (have HB := Aside0.mk (Below.refl w.heap.size w)); (unfold impl_visible.f at h); (have H := h); clear h; (by_cases c3 : 0 ≤ (l0.length : Int))
 ·rw [if_pos c3] at H
  (have c3b0 := eq_true c3); (have c3b1 := decide_eq_true c3); clear c3; (by_cases c4 : ((l0.length : Int) : Int).toNat ≤ 281474976710656)
  ·rw [if_pos c4] at H
   (have c4b0 := eq_true c4); (have c4b1 := decide_eq_true c4); clear c4; (obtain ⟨y101, hy101⟩ : ∃ y_ : List Bool, y_ = (List.replicate ((l0.length : Int) : Int).toNat false) := ⟨_, rfl⟩); (replace H : (impl_visible.l0 k l0 l1 y101 l0 (l0.length : Int) 0) = some r := Q25); (have Ny101 := Aside0.mk hy101); clear hy101; (have H' := Aside0.mk H); clear H; (go_enter Tryd.func42, Tryd.ntmps42); (go_wp2_with (first | ((with_reducible refine gate_dst (N := 12) rfl ?_); refine Kd.R_make Kd.bool _ 4 rfl (N := 12) rfl 71 _ _ rfl (l0.length : Int) rfl rfl Tryd.underlying71 (.bool false) 1 info4 rfl (by decide) (by omega) false (ok := fun _ => True) (okp := fun _ => True) rfl (fun _ hk => hk) trivial odt (Nat.le_trans (Nat.mul_le_mul_right _ (odt : (l0.length : Int).toNat ≤ 281474976710656)) (by omega)) (Below.refl _ _) (Nat.le_refl _) ?_; intro v102 w5 ho6 hb hg_ hnew_; clear hg_ hnew_; (first | rw [← Ny101.out] at ho6 | (simp only [Int.reduceToNat] at ho6; rw [← Ny101.out] at ho6)); have hB_ := zI hb HB; have n0_ := Aside0.mk (Kd.R_lower ho6 (below_size hB_)); have n1_ := Aside0.mk (below_step hB_ hb); clear HB; have HO103 := n0_; have HB := n1_; clear n0_ n1_ hB_ hb ho6))); (go_loopg [15] k (fun kq v15 w' => ∃ (x5_1 : List Bool) (x15_1 : Int), v15 = .int .i64 x15_1 ∧ Aside0 (impl_visible.l0 kq l0 l1 x5_1 l0 (l0.length : Int) x15_1 = some r) ∧ Aside0 (kq ≤ k) ∧ Aside0 (Kd.R Kd.bool 4 w' w.heap.size (fun _ => True) v102 x5_1) ∧ Aside0 (Below w.heap.size w w')))
   case atStart => exact Q116
   case round =>
    (clear H'); (try clear c1); (try clear p2); (try clear c3); (try clear c3b0); (try clear c3b1); (try clear c4); (try clear c4b0); (try clear c4b1); (obtain ⟨x5_1, x15_1, rfl, HA, HK1, HO_5, HB⟩ := hrel)
    cases gk with
    | zero => exact absurd HA.out (by simp [impl_visible.l0])
    | succ k1 =>
     (have H := HA.out); clear HA; (simp only [impl_visible.l0] at H); (by_cases c7 : x15_1 < (l0.length : Int))
     ·rw [if_pos c7] at H
      (have c7b0 := decide_eq_true c7); clear c7; (by_cases c8 : 0 ≤ x15_1)
      ·rw [if_pos c8] at H
       (have c8b0 := decide_eq_true c8); clear c8; (by_cases c9 : x15_1 < (l0.length : Int))
       ·rw [if_pos c9] at H
        (have c9b0 := decide_eq_true c9); clear c9; (by_cases c10 : ((rd_T54 l0 x15_1).f6).toList = ([] : List UInt8))
        ·rw [if_pos c10] at H
         (have c10b0 : ((rd_T54 l0 x15_1).f6).toList.isEmpty = true := List.isEmpty_iff.mpr c10); (have c10b1 : (!((rd_T54 l0 x15_1).f6).toList.isEmpty) = false := by rw [List.isEmpty_iff.mpr c10]; rfl); (have c10b2 : (((rd_T54 l0 x15_1).f6).toList == ([] : List UInt8)) = true := beq_iff_eq.mpr c10); (have c10b3 : (((rd_T54 l0 x15_1).f6).toList != ([] : List UInt8)) = false := bne_eq_false_iff_eq.mpr c10); clear c10; (by_cases c11 : x15_1 < (x5_1.length : Int))
         ·rw [if_pos c11] at H
          (have c11b0 := decide_eq_true c11); clear c11; (obtain ⟨y106, hy106⟩ : ∃ y_ : List Bool, y_ = (x5_1.set (x15_1 : Int).toNat true) := ⟨_, rfl⟩); (replace H : (impl_visible.l0 k1 l0 l1 y106 l0 (l0.length : Int) (wrap64 (x15_1 + 1))) = some r := by first | (rw [hy106]; with_reducible exact H) | (have H2_ := (Option.bind_some _ _).symm.trans H; rw [hy106]; with_reducible exact H2_) | (have H2_ := (Option.bind_some _ _).symm.trans H; with_reducible exact H2_) | with_reducible exact H | (rw [hy106]; exact H) | exact H); (have Ny106 := Aside0.mk hy106); clear hy106; (have H' := Aside0.mk H); clear H; (have p104 : 0 ≤ (x15_1 : Int) := of_decide_eq_true Q33); (have q104 : x15_1 < (l0.length : Int) := of_decide_eq_true Q33); (obtain ⟨ad104, A104_4, c104_4, e104, hx104_0, hx104_1, hx104_2, hx104_3, hx104_4, hx104_5, hx104_6, hl104_4, hi104_4⟩ := at_T54 HR0.out x15_1 p104 q104); (cases e104); (replace hx104_0 := (HB.out.cell (bltc w _ hx104_0)).trans hx104_0); (replace hx104_1 := (HB.out.cell (bltc w _ hx104_1)).trans hx104_1); (replace hx104_2 := (HB.out.cell (bltc w _ hx104_2)).trans hx104_2); (replace hx104_3 := (HB.out.cell (bltc w _ hx104_3)).trans hx104_3); (replace hx104_4 := (HB.out.cell (bltc w _ hx104_4)).trans hx104_4); (replace hx104_5 := (HB.out.cell (bltc w _ hx104_5)).trans hx104_5); (replace hx104_6 := (HB.out.cell (bltc w _ hx104_6)).trans hx104_6); (have HR104_4 := Aside0.mk hi104_4); (have HC104_4 := Aside0.mk hl104_4); clear hi104_4 hl104_4; (replace p104 := eq_true p104); (replace q104 := eq_true q104)
          go_wp2_with (first | ((with_reducible refine gate_dst (N := 7) rfl ?_); refine box_event ?hg (N := 7) ?hd (cs := #[.string (⟨#[]⟩ : ByteArray), .int .i64 0, .int .i64 0, .int .i64 0, .slice none 0 0, .bool false, .string (⟨#[]⟩ : ByteArray)]) (t := 54) ?hr ?_; (case hd => rfl); (case hg => rfl); (case hr => first | (go_simp; done) | (go_simp; rfl)); intro gb105 hg w13 hbox hb; have n0_ := Aside0.mk (Kd.R_below (rI HO_5) hb); have hB_ := bz Q87 hb; have n1_ := Aside0.mk (below_step hB_ hb); have n2_ := Aside0.mk (hbox); have n3_ := Aside0.mk ((Q88 : w.heap.size ≤ gb105)); have n4_ := n3_; clear HO_5 HB; have HO_5 := n0_; have HB := n1_; have BK105 := n2_; have GW105 := n3_; have GE105 := n4_; clear n0_ n1_ n2_ n3_ n4_ hB_ hb hbox hg; have hcz14_0 := cz BK105.out 0; have hcz14_1 := cz BK105.out 1; have hcz14_2 := cz BK105.out 2; have hcz14_3 := cz BK105.out 3; have hcz14_4 := cz BK105.out 4; have hcz14_5 := cz BK105.out 5; have hcz14_6 := cz BK105.out 6; have hfz14_0 := blk_frozen BK105.out 0; have hfz14_1 := blk_frozen BK105.out 1; have hfz14_2 := blk_frozen BK105.out 2; have hfz14_3 := blk_frozen BK105.out 3; have hfz14_4 := blk_frozen BK105.out 4; have hfz14_5 := blk_frozen BK105.out 5; have hfz14_6 := blk_frozen BK105.out 6) | ((with_reducible refine gate_store (t := 54) (p := 7) rfl ?_); refine store_event (t := 54) (p := 7) (v := ?vo_w15) (w1 := (((((((w13.setCell ⟨gb105, 0, none⟩ (.string ((rd_T54 l0 x15_1).f0))).setCell ⟨gb105, 1, none⟩ (.int .i64 ((rd_T54 l0 x15_1).f1))).setCell ⟨gb105, 2, none⟩ (.int .i64 ((rd_T54 l0 x15_1).f2))).setCell ⟨gb105, 3, none⟩ (.int .i64 ((rd_T54 l0 x15_1).f3))).setCell ⟨gb105, 4, none⟩ (.slice A104_4 ((rd_T54 l0 x15_1).f4).length c104_4)).setCell ⟨gb105, 5, none⟩ (.bool ((rd_T54 l0 x15_1).f5))).setCell ⟨gb105, 6, none⟩ (.string ((rd_T54 l0 x15_1).f6)))) ?hg ?ho ?hn ?hr ?_; (case ho => rfl); (case hg => rfl); (case hn => rfl); (case hr => first | (go_simp; done) | (go_simp; rfl)); intro w15 hw; have n0_ : Aside0 (Kd.R Kd.bool 4 w15 w.heap.size (fun _ => True) v102 x5_1) := ⟨(by rw [hw]; exact (by (with_reducible repeat (first | apply rA | apply rN | apply rD)); exact Kd.R_mono (Kd.R_far (p := ⟨gb105, 6, none⟩) (Kd.R_far (p := ⟨gb105, 5, none⟩) (Kd.R_far (p := ⟨gb105, 4, none⟩) (Kd.R_far (p := ⟨gb105, 3, none⟩) (Kd.R_far (p := ⟨gb105, 2, none⟩) (Kd.R_far (p := ⟨gb105, 1, none⟩) (Kd.R_far (p := ⟨gb105, 0, none⟩) (Kd.R_types HO_5.out BK105.out (by decide)) (fun _ hk => hk.2) (.string ((rd_T54 l0 x15_1).f0))) (fun _ hk => hk.2) (.int .i64 ((rd_T54 l0 x15_1).f1))) (fun _ hk => hk.2) (.int .i64 ((rd_T54 l0 x15_1).f2))) (fun _ hk => hk.2) (.int .i64 ((rd_T54 l0 x15_1).f3))) (fun _ hk => hk.2) (.slice A104_4 ((rd_T54 l0 x15_1).f4).length c104_4)) (fun _ hk => hk.2) (.bool ((rd_T54 l0 x15_1).f5))) (fun _ hk => hk.2) (.string ((rd_T54 l0 x15_1).f6))) (fun _ hk => trivial)))⟩; have n1_ : Aside0 (w15.heap[gb105]? = some (.cells #[.string ((rd_T54 l0 x15_1).f0), .int .i64 ((rd_T54 l0 x15_1).f1), .int .i64 ((rd_T54 l0 x15_1).f2), .int .i64 ((rd_T54 l0 x15_1).f3), .slice A104_4 ((rd_T54 l0 x15_1).f4).length c104_4, .bool ((rd_T54 l0 x15_1).f5), .string ((rd_T54 l0 x15_1).f6)] 54 (0, 0))) := ⟨(by rw [hw]; exact Q117)⟩; have n2_ : Aside0 (Below w.heap.size w w15) := ⟨(by rw [hw]; exact Q118)⟩; clear hw HO_5 BK105 HB; have HO_5 := n0_; have BK105 := n1_; have HB := n2_; clear n0_ n1_ n2_; have hcz16_0 := cz BK105.out 0; have hcz16_1 := cz BK105.out 1; have hcz16_2 := cz BK105.out 2; have hcz16_3 := cz BK105.out 3; have hcz16_4 := cz BK105.out 4; have hcz16_5 := cz BK105.out 5; have hcz16_6 := cz BK105.out 6; have hfz16_0 := blk_frozen BK105.out 0; have hfz16_1 := blk_frozen BK105.out 1; have hfz16_2 := blk_frozen BK105.out 2; have hfz16_3 := blk_frozen BK105.out 3; have hfz16_4 := blk_frozen BK105.out 4; have hfz16_5 := blk_frozen BK105.out 5; have hfz16_6 := blk_frozen BK105.out 6; have p12 : 0 ≤ (x15_1 : Int) := of_decide_eq_true Q33; have q12 : (x15_1 : Int) < ((x5_1.length : Int) : Int) := of_decide_eq_true Q33; obtain ⟨go12, co12, eo12, gb12, gl12, cl12, HG12⟩ := Kd.R_form HO_5.out (by omega); (first | cases eo12 | (injection eo12 with ea_ en_ ec_; (first | subst ea_ | (injection ea_ with ea_; subst ea_)); subst ec_; clear en_)); have GB12 := Aside0.mk gb12; have GG12 := Aside0.mk HG12; clear gb12 gl12 HG12; obtain ⟨hx12_0, hf12_0⟩ := Kd.R_celln false HO_5.out (x15_1 : Int) p12 q12; replace p12 := eq_true p12; replace q12 := eq_true q12; obtain ⟨hy17_, hz17_⟩ := Kd.R_celln false HO_5.out (x15_1 : Int) (of_decide_eq_true Q33) (of_decide_eq_true Q33); have HP17 := Kd.R_putg HO_5.out (x15_1 : Int) true) | ((with_reducible refine gate_store (t := 4) (p := 25) rfl ?_); refine store_event (t := 4) (p := 25) (v := ?vo_w18) (w1 := (w15.setCell ⟨go12, (x15_1 : Int).toNat, none⟩ (.bool true))) ?hg ?ho ?hn ?hr ?_; (case ho => rfl); (case hg => rfl); (case hn => rfl); (case hr => first | (go_simp; done) | (go_simp; rfl)); intro w18 hw; have hg : w15.grownBy w18 (some go12) := (by rw [hw]; exact HP17.2); have hp_ : Kd.R Kd.bool 4 w18 w.heap.size (fun _ => True) (.slice (some ⟨go12, 0, none⟩) x5_1.length co12) y106 := (by rw [hw, Ny106.out]; exact HP17.1); clear HP17; have n0_ := Aside0.mk (hp_); have n1_ := Aside0.mk (blk_grown (kI BK105) hg (Kd.R_ne HO_5.out BK105.out (by decide))); have n2_ := Aside0.mk ((by rw [hw]; exact below_set (HB.out) GB12.out : Below w.heap.size w w18)); clear HO_5 BK105 HB; have HO_5 := n0_; have BK105 := n1_; have HB := n2_; clear n0_ n1_ n2_ hg hw hp_))
          go_roundg k1
          case measure => have := HK1.out; omega
          case rel => exact ⟨(y106), (wrap64 (x15_1 + 1)), Q32, H', ⟨Q69⟩, ⟨Q15⟩, ⟨Q118⟩⟩
         ·rw [if_neg c11] at H
          exact Q1
        ·rw [if_neg c10] at H
         (have c10b0 : ((rd_T54 l0 x15_1).f6).toList.isEmpty = false := Q119); (have c10b1 : (!((rd_T54 l0 x15_1).f6).toList.isEmpty) = true := by rw [show ((rd_T54 l0 x15_1).f6).toList.isEmpty = false from Q119]; rfl); (have c10b2 : (((rd_T54 l0 x15_1).f6).toList == ([] : List UInt8)) = false := beq_eq_false_iff_ne.mpr c10); (have c10b3 : (((rd_T54 l0 x15_1).f6).toList != ([] : List UInt8)) = true := bne_iff_ne.mpr c10); (replace H := obS H); (obtain ⟨⟨t107, t108⟩, A19, H⟩ := H); (replace H : ((impl_fieldOf.f l0 ((rd_T54 l0 x15_1).f6)).bind fun t109 => (if 0 ≤ t109 then (if t109 < (x5_1.length : Int) then (if rdOf false x5_1 t109 = true then (if x15_1 < (x5_1.length : Int) then (impl_visible.l0 k1 l0 l1 (x5_1.set (x15_1 : Int).toNat (t107.toList == ([121, 101, 115] : List UInt8))) l0 (l0.length : Int) (wrap64 (x15_1 + 1))) else (none)) else (if x15_1 < (x5_1.length : Int) then (impl_visible.l0 k1 l0 l1 (x5_1.set (x15_1 : Int).toNat false) l0 (l0.length : Int) (wrap64 (x15_1 + 1))) else (none))) else (none)) else (none))) = some r := H); (replace H := obS H); (obtain ⟨t109, A20, H⟩ := H); (by_cases c21 : 0 ≤ t109)
         ·rw [if_pos c21] at H
          (have c21b0 := decide_eq_true c21); clear c21; (by_cases c22 : t109 < (x5_1.length : Int))
          ·rw [if_pos c22] at H
           (have c22b0 := decide_eq_true c22); clear c22; (obtain ⟨bq23, hbq23⟩ : ∃ b_ : Bool, b_ = (rdOf false x5_1 t109) := ⟨_, rfl⟩); (replace H : (if bq23 = true then (if x15_1 < (x5_1.length : Int) then (impl_visible.l0 k1 l0 l1 (x5_1.set (x15_1 : Int).toNat (t107.toList == ([121, 101, 115] : List UInt8))) l0 (l0.length : Int) (wrap64 (x15_1 + 1))) else (none)) else (if x15_1 < (x5_1.length : Int) then (impl_visible.l0 k1 l0 l1 (x5_1.set (x15_1 : Int).toNat false) l0 (l0.length : Int) (wrap64 (x15_1 + 1))) else (none))) = some r := by rw [← hbq23] at H; exact H); (have Nbq23 := Aside0.mk hbq23); clear hbq23; (by_cases c24 : bq23 = true)
           ·subst c24
            (rw [if_pos rfl] at H); (by_cases c25 : x15_1 < (x5_1.length : Int))
            ·rw [if_pos c25] at H
             (have c25b0 := decide_eq_true c25); clear c25; (obtain ⟨y111, hy111⟩ : ∃ y_ : List Bool, y_ = (x5_1.set (x15_1 : Int).toNat (t107.toList == ([121, 101, 115] : List UInt8))) := ⟨_, rfl⟩); (replace H : (impl_visible.l0 k1 l0 l1 y111 l0 (l0.length : Int) (wrap64 (x15_1 + 1))) = some r := Q120); (have Ny111 := Aside0.mk hy111); clear hy111; (have H' := Aside0.mk H); clear H; (have p104 : 0 ≤ (x15_1 : Int) := of_decide_eq_true Q33); (have q104 : x15_1 < (l0.length : Int) := of_decide_eq_true Q33); (obtain ⟨ad104, A104_4, c104_4, e104, hx104_0, hx104_1, hx104_2, hx104_3, hx104_4, hx104_5, hx104_6, hl104_4, hi104_4⟩ := at_T54 HR0.out x15_1 p104 q104); ((try rw [← Nbq23.out] at hx104_5)); (cases e104); (replace hx104_0 := (HB.out.cell (bltc w _ hx104_0)).trans hx104_0); (replace hx104_1 := (HB.out.cell (bltc w _ hx104_1)).trans hx104_1); (replace hx104_2 := (HB.out.cell (bltc w _ hx104_2)).trans hx104_2); (replace hx104_3 := (HB.out.cell (bltc w _ hx104_3)).trans hx104_3); (replace hx104_4 := (HB.out.cell (bltc w _ hx104_4)).trans hx104_4); (replace hx104_5 := (HB.out.cell (bltc w _ hx104_5)).trans hx104_5); (replace hx104_6 := (HB.out.cell (bltc w _ hx104_6)).trans hx104_6); (have HR104_4 := Aside0.mk hi104_4); (have HC104_4 := Aside0.mk hl104_4); clear hi104_4 hl104_4; (replace p104 := eq_true p104); (replace q104 := eq_true q104)
             go_wp2_with (first | ((with_reducible refine gate_dst (N := 7) rfl ?_); refine box_event ?hg (N := 7) ?hd (cs := #[.string (⟨#[]⟩ : ByteArray), .int .i64 0, .int .i64 0, .int .i64 0, .slice none 0 0, .bool false, .string (⟨#[]⟩ : ByteArray)]) (t := 54) ?hr ?_; (case hd => rfl); (case hg => rfl); (case hr => first | (go_simp; done) | (go_simp; rfl)); intro gb105 hg w27 hbox hb; have n0_ := Aside0.mk (Kd.R_below Q15 hb); have hB_ := bz Q87 hb; have n1_ := Aside0.mk (below_step hB_ hb); have n2_ := Aside0.mk (hbox); have n3_ := Aside0.mk ((Q88 : w.heap.size ≤ gb105)); have n4_ := n3_; clear HO_5 HB; have HO_5 := n0_; have HB := n1_; have BK105 := n2_; have GW105 := n3_; have GE105 := n4_; clear n0_ n1_ n2_ n3_ n4_ hB_ hb hbox hg; have hcz28_0 := cz BK105.out 0; have hcz28_1 := cz BK105.out 1; have hcz28_2 := cz BK105.out 2; have hcz28_3 := cz BK105.out 3; have hcz28_4 := cz BK105.out 4; have hcz28_5 := cz BK105.out 5; have hcz28_6 := cz BK105.out 6; have hfz28_0 := blk_frozen BK105.out 0; have hfz28_1 := blk_frozen BK105.out 1; have hfz28_2 := blk_frozen BK105.out 2; have hfz28_3 := blk_frozen BK105.out 3; have hfz28_4 := blk_frozen BK105.out 4; have hfz28_5 := blk_frozen BK105.out 5; have hfz28_6 := blk_frozen BK105.out 6) | ((with_reducible refine gate_callee (f := 50) rfl ?_); refine gL (some 30) Tryd.func50 #[.slice A1 l1.length c1, .string ((rd_T54 l0 x15_1).f6)] ?_; (with_reducible refine (impl_answerOf.calls _ _ l1 ((rd_T54 l0 x15_1).f6) t107 t108 _ ?side1 ?side2 A19.out).mono ?_); (case side1 => exact Q121); (case side2 => exact HC1.out); rintro e w29 ⟨rfl, hb⟩; refine ⟨_, rfl, ?_⟩; have n0_ := Aside0.mk (Kd.R_below Q122 hb); have n1_ := Aside0.mk (blk_below (g := gb105) (o := .cells #[.string ((rd_T54 l0 x15_1).f0), .int .i64 ((rd_T54 l0 x15_1).f1), .int .i64 ((rd_T54 l0 x15_1).f2), .int .i64 ((rd_T54 l0 x15_1).f3), .slice A104_4 ((rd_T54 l0 x15_1).f4).length c104_4, .bool ((rd_T54 l0 x15_1).f5), .string ((rd_T54 l0 x15_1).f6)] 54 (0, 0)) Q117 hb); have n2_ := Aside0.mk (below_step Q118 hb); clear HO_5 BK105 HB; have HO_5 := n0_; have BK105 := n1_; have HB := n2_; clear n0_ n1_ n2_; (try clear hb); (try clear hb2); (try clear hk); (try clear hi); have hcz30_0 := cz BK105.out 0; have hcz30_1 := cz BK105.out 1; have hcz30_2 := cz BK105.out 2; have hcz30_3 := cz BK105.out 3; have hcz30_4 := cz BK105.out 4; have hcz30_5 := cz BK105.out 5; have hcz30_6 := cz BK105.out 6; have hfz30_0 := blk_frozen BK105.out 0; have hfz30_1 := blk_frozen BK105.out 1; have hfz30_2 := blk_frozen BK105.out 2; have hfz30_3 := blk_frozen BK105.out 3; have hfz30_4 := blk_frozen BK105.out 4; have hfz30_5 := blk_frozen BK105.out 5; have hfz30_6 := blk_frozen BK105.out 6) | ((with_reducible refine gate_callee (f := 46) rfl ?_); refine gL (some 39) Tryd.func46 #[.slice (some ad104) l0.length c0, .string ((rd_T54 l0 x15_1).f6)] ?_; (with_reducible refine (impl_fieldOf.calls _ _ l0 ((rd_T54 l0 x15_1).f6) t109 _ ?side1 ?side2 A20.out).mono ?_); (case side1 => repeat (first | exact (Kd.C_below HR0.out HB.out) | (with_reducible first | refine cA ?_ _ | refine cN ?_ _ | refine cD ?_))); (case side2 => exact HC0.out); rintro e w31 ⟨rfl, hb⟩; refine ⟨_, rfl, ?_⟩; have n0_ := Aside0.mk (Kd.R_below Q15 hb); have n1_ := Aside0.mk (blk_below Q123 hb); have n2_ := Aside0.mk (below_step (eI HB) hb); clear HO_5 BK105 HB; have HO_5 := n0_; have BK105 := n1_; have HB := n2_; clear n0_ n1_ n2_; (try clear hb); (try clear hb2); (try clear hk); (try clear hi); obtain ⟨Ao32, co32, eo32⟩ := Kd.R_slice HO_5.out; subst eo32; have p110 : 0 ≤ (t109 : Int) := of_decide_eq_true Q33; have q110 : t109 < (x5_1.length : Int) := of_decide_eq_true Q33; obtain ⟨ad110, e110, hx110_0⟩ := Kd.at_bool (Kd.R_reads' HO_5.out).2.2 t109 p110 q110; (try rw [← Nbq23.out] at hx110_0); cases e110; replace p110 := eq_true p110; replace q110 := eq_true q110; have p26 : 0 ≤ (x15_1 : Int) := of_decide_eq_true Q33; have q26 : (x15_1 : Int) < ((x5_1.length : Int) : Int) := of_decide_eq_true Q33; obtain ⟨go26, co26, eo26, gb26, gl26, cl26, HG26⟩ := Kd.R_form HO_5.out (by omega); (first | cases eo26 | (injection eo26 with ea_ en_ ec_; (first | subst ea_ | (injection ea_ with ea_; subst ea_)); subst ec_; clear en_)); have GB26 := Aside0.mk gb26; have GG26 := Aside0.mk HG26; clear gb26 gl26 HG26; (first | simp only [add_plain] at hx110_0 | skip); obtain ⟨hx26_0, hf26_0⟩ := Kd.R_celln false HO_5.out (x15_1 : Int) p26 q26; replace p26 := eq_true p26; replace q26 := eq_true q26; obtain ⟨hy33_, hz33_⟩ := Kd.R_celln false HO_5.out (x15_1 : Int) (of_decide_eq_true Q33) (of_decide_eq_true Q33); have HP33 := Kd.R_putg HO_5.out (x15_1 : Int) (t107.toList == ([121, 101, 115] : List UInt8))) | ((with_reducible refine gate_store (t := 4) (p := 46) rfl ?_); refine store_event (t := 4) (p := 46) (v := ?vo_w34) (w1 := (w31.setCell ⟨go26, (x15_1 : Int).toNat, none⟩ (.bool (t107.toList == ([121, 101, 115] : List UInt8))))) ?hg ?ho ?hn ?hr ?_; (case ho => rfl); (case hg => rfl); (case hn => rfl); (case hr => first | (go_simp; done) | (go_simp; rfl)); intro w34 hw; have hg : w31.grownBy w34 (some go26) := (by rw [hw]; exact HP33.2); have hp_ : Kd.R Kd.bool 4 w34 w.heap.size (fun _ => True) (.slice (some ⟨go26, 0, none⟩) x5_1.length co32) y111 := (by rw [hw, Ny111.out]; exact HP33.1); clear HP33; have n0_ := Aside0.mk (hp_); have n1_ := Aside0.mk (blk_grown Q123 hg (Kd.R_ne HO_5.out BK105.out (by decide))); have n2_ := Aside0.mk ((by rw [hw]; exact below_set (HB.out) GB26.out : Below w.heap.size w w34)); clear HO_5 BK105 HB; have HO_5 := n0_; have BK105 := n1_; have HB := n2_; clear n0_ n1_ n2_ hg hw hp_))
             go_roundg k1
             case measure => have := HK1.out; omega
             case rel => exact ⟨(y111), (wrap64 (x15_1 + 1)), Q32, H', ⟨Q69⟩, ⟨rI HO_5⟩, ⟨eI HB⟩⟩
            ·rw [if_neg c25] at H
             exact Q1
           ·replace c24 := Bool.eq_false_iff.mpr c24
            subst c24; (rw [if_neg (show ¬ (false = true) by decide)] at H); (by_cases c35 : x15_1 < (x5_1.length : Int))
            ·rw [if_pos c35] at H
             (have c35b0 := decide_eq_true c35); clear c35; (obtain ⟨y112, hy112⟩ : ∃ y_ : List Bool, y_ = (x5_1.set (x15_1 : Int).toNat false) := ⟨_, rfl⟩); (replace H : (impl_visible.l0 k1 l0 l1 y112 l0 (l0.length : Int) (wrap64 (x15_1 + 1))) = some r := Q86); (have Ny112 := Aside0.mk hy112); clear hy112; (have H' := Aside0.mk H); clear H; (have p104 : 0 ≤ (x15_1 : Int) := of_decide_eq_true Q33); (have q104 : x15_1 < (l0.length : Int) := of_decide_eq_true Q33); (obtain ⟨ad104, A104_4, c104_4, e104, hx104_0, hx104_1, hx104_2, hx104_3, hx104_4, hx104_5, hx104_6, hl104_4, hi104_4⟩ := at_T54 HR0.out x15_1 p104 q104); ((try rw [← Nbq23.out] at hx104_5)); (cases e104); (replace hx104_0 := (HB.out.cell (bltc w _ hx104_0)).trans hx104_0); (replace hx104_1 := (HB.out.cell (bltc w _ hx104_1)).trans hx104_1); (replace hx104_2 := (HB.out.cell (bltc w _ hx104_2)).trans hx104_2); (replace hx104_3 := (HB.out.cell (bltc w _ hx104_3)).trans hx104_3); (replace hx104_4 := (HB.out.cell (bltc w _ hx104_4)).trans hx104_4); (replace hx104_5 := (HB.out.cell (bltc w _ hx104_5)).trans hx104_5); (replace hx104_6 := (HB.out.cell (bltc w _ hx104_6)).trans hx104_6); (have HR104_4 := Aside0.mk hi104_4); (have HC104_4 := Aside0.mk hl104_4); clear hi104_4 hl104_4; (replace p104 := eq_true p104); (replace q104 := eq_true q104)
             go_wp2_with (first | ((with_reducible refine gate_dst (N := 7) rfl ?_); refine box_event ?hg (N := 7) ?hd (cs := #[.string (⟨#[]⟩ : ByteArray), .int .i64 0, .int .i64 0, .int .i64 0, .slice none 0 0, .bool false, .string (⟨#[]⟩ : ByteArray)]) (t := 54) ?hr ?_; (case hd => rfl); (case hg => rfl); (case hr => first | (go_simp; done) | (go_simp; rfl)); intro gb105 hg w37 hbox hb; have n0_ := Aside0.mk (Kd.R_below Q15 hb); have hB_ := bz Q87 hb; have n1_ := Aside0.mk (below_step hB_ hb); have n2_ := Aside0.mk (hbox); have n3_ := Aside0.mk ((Q88 : w.heap.size ≤ gb105)); have n4_ := n3_; clear HO_5 HB; have HO_5 := n0_; have HB := n1_; have BK105 := n2_; have GW105 := n3_; have GE105 := n4_; clear n0_ n1_ n2_ n3_ n4_ hB_ hb hbox hg; have hcz38_0 := cz BK105.out 0; have hcz38_1 := cz BK105.out 1; have hcz38_2 := cz BK105.out 2; have hcz38_3 := cz BK105.out 3; have hcz38_4 := cz BK105.out 4; have hcz38_5 := cz BK105.out 5; have hcz38_6 := cz BK105.out 6; have hfz38_0 := blk_frozen BK105.out 0; have hfz38_1 := blk_frozen BK105.out 1; have hfz38_2 := blk_frozen BK105.out 2; have hfz38_3 := blk_frozen BK105.out 3; have hfz38_4 := blk_frozen BK105.out 4; have hfz38_5 := blk_frozen BK105.out 5; have hfz38_6 := blk_frozen BK105.out 6) | ((with_reducible refine gate_callee (f := 50) rfl ?_); refine gL (some 30) Tryd.func50 #[.slice A1 l1.length c1, .string ((rd_T54 l0 x15_1).f6)] ?_; (with_reducible refine (impl_answerOf.calls _ _ l1 ((rd_T54 l0 x15_1).f6) t107 t108 _ ?side1 ?side2 A19.out).mono ?_); (case side1 => exact Q121); (case side2 => exact HC1.out); rintro e w39 ⟨rfl, hb⟩; refine ⟨_, rfl, ?_⟩; have n0_ := Aside0.mk (Kd.R_below Q122 hb); have n1_ := Aside0.mk (blk_below (g := gb105) (o := .cells #[.string ((rd_T54 l0 x15_1).f0), .int .i64 ((rd_T54 l0 x15_1).f1), .int .i64 ((rd_T54 l0 x15_1).f2), .int .i64 ((rd_T54 l0 x15_1).f3), .slice A104_4 ((rd_T54 l0 x15_1).f4).length c104_4, .bool ((rd_T54 l0 x15_1).f5), .string ((rd_T54 l0 x15_1).f6)] 54 (0, 0)) Q117 hb); have n2_ := Aside0.mk (below_step Q118 hb); clear HO_5 BK105 HB; have HO_5 := n0_; have BK105 := n1_; have HB := n2_; clear n0_ n1_ n2_; (try clear hb); (try clear hb2); (try clear hk); (try clear hi); have hcz40_0 := cz BK105.out 0; have hcz40_1 := cz BK105.out 1; have hcz40_2 := cz BK105.out 2; have hcz40_3 := cz BK105.out 3; have hcz40_4 := cz BK105.out 4; have hcz40_5 := cz BK105.out 5; have hcz40_6 := cz BK105.out 6; have hfz40_0 := blk_frozen BK105.out 0; have hfz40_1 := blk_frozen BK105.out 1; have hfz40_2 := blk_frozen BK105.out 2; have hfz40_3 := blk_frozen BK105.out 3; have hfz40_4 := blk_frozen BK105.out 4; have hfz40_5 := blk_frozen BK105.out 5; have hfz40_6 := blk_frozen BK105.out 6) | ((with_reducible refine gate_callee (f := 46) rfl ?_); refine gL (some 39) Tryd.func46 #[.slice (some ad104) l0.length c0, .string ((rd_T54 l0 x15_1).f6)] ?_; (with_reducible refine (impl_fieldOf.calls _ _ l0 ((rd_T54 l0 x15_1).f6) t109 _ ?side1 ?side2 A20.out).mono ?_); (case side1 => repeat (first | exact (Kd.C_below HR0.out HB.out) | (with_reducible first | refine cA ?_ _ | refine cN ?_ _ | refine cD ?_))); (case side2 => exact HC0.out); rintro e w41 ⟨rfl, hb⟩; refine ⟨_, rfl, ?_⟩; have n0_ := Aside0.mk (Kd.R_below Q15 hb); have n1_ := Aside0.mk (blk_below Q123 hb); have n2_ := Aside0.mk (below_step Q118 hb); clear HO_5 BK105 HB; have HO_5 := n0_; have BK105 := n1_; have HB := n2_; clear n0_ n1_ n2_; (try clear hb); (try clear hb2); (try clear hk); (try clear hi); obtain ⟨Ao42, co42, eo42⟩ := Kd.R_slice HO_5.out; subst eo42; have p110 : 0 ≤ (t109 : Int) := of_decide_eq_true Q33; have q110 : t109 < (x5_1.length : Int) := of_decide_eq_true Q33; obtain ⟨ad110, e110, hx110_0⟩ := Kd.at_bool (Kd.R_reads' HO_5.out).2.2 t109 p110 q110; (try rw [← Nbq23.out] at hx110_0); cases e110; replace p110 := eq_true p110; replace q110 := eq_true q110; have p36 : 0 ≤ (x15_1 : Int) := of_decide_eq_true Q33; have q36 : (x15_1 : Int) < ((x5_1.length : Int) : Int) := of_decide_eq_true Q33; obtain ⟨go36, co36, eo36, gb36, gl36, cl36, HG36⟩ := Kd.R_form HO_5.out (by omega); (first | cases eo36 | (injection eo36 with ea_ en_ ec_; (first | subst ea_ | (injection ea_ with ea_; subst ea_)); subst ec_; clear en_)); have GB36 := Aside0.mk gb36; have GG36 := Aside0.mk HG36; clear gb36 gl36 HG36; (first | simp only [add_plain] at hx110_0 | skip); obtain ⟨hx36_0, hf36_0⟩ := Kd.R_celln false HO_5.out (x15_1 : Int) p36 q36; replace p36 := eq_true p36; replace q36 := eq_true q36; obtain ⟨hy43_, hz43_⟩ := Kd.R_celln false HO_5.out (x15_1 : Int) (of_decide_eq_true Q33) (of_decide_eq_true Q33); have HP43 := Kd.R_putg HO_5.out (x15_1 : Int) false) | ((with_reducible refine gate_store (t := 4) (p := 46) rfl ?_); refine store_event (t := 4) (p := 46) (v := ?vo_w44) (w1 := (w41.setCell ⟨go36, (x15_1 : Int).toNat, none⟩ (.bool false))) ?hg ?ho ?hn ?hr ?_; (case ho => rfl); (case hg => rfl); (case hn => rfl); (case hr => first | (go_simp; done) | (go_simp; rfl)); intro w44 hw; have hg : w41.grownBy w44 (some go36) := (by rw [hw]; exact HP43.2); have hp_ : Kd.R Kd.bool 4 w44 w.heap.size (fun _ => True) (.slice (some ⟨go36, 0, none⟩) x5_1.length co42) y112 := (by rw [hw, Ny112.out]; exact HP43.1); clear HP43; have n0_ := Aside0.mk (hp_); have n1_ := Aside0.mk (blk_grown Q123 hg (Kd.R_ne HO_5.out BK105.out (by decide))); have n2_ := Aside0.mk ((by rw [hw]; exact below_set (HB.out) GB36.out : Below w.heap.size w w44)); clear HO_5 BK105 HB; have HO_5 := n0_; have BK105 := n1_; have HB := n2_; clear n0_ n1_ n2_ hg hw hp_))
             go_roundg k1
             case measure => have := HK1.out; omega
             case rel => exact ⟨(y112), (wrap64 (x15_1 + 1)), Q32, H', ⟨Q69⟩, ⟨Q15⟩, ⟨Q118⟩⟩
            ·rw [if_neg c35] at H
             exact Q1
          ·rw [if_neg c22] at H
           exact Q1
         ·rw [if_neg c21] at H
          exact Q1
       ·rw [if_neg c9] at H
        exact Q1
      ·rw [if_neg c8] at H
       exact Q1
     ·rw [if_neg c7] at H
      (have c7b0 := decide_eq_false c7); clear c7; (obtain rfl := Option.some.inj H); (go_wp2); go_ret; (exact Q124)
  ·rw [if_neg c4] at H
   exact Q1
 ·rw [if_neg c3] at H
  exact Q1
end Go.Proofs.YtiaiohoadefgjaaDoor.X
namespace Go.Proofs
open Go.Shelf
def Tryd.laysM171_ren : Go.Shelf.Ren := ⟨fun | 171 => 52 | 243 => 73 | 246 => 87 | 283 => 97 | 284 => 98 | 285 => 99 | 286 => 100 | 129 => 114 | 317 => 113 | 318 => 115 | 319 => 116 | 320 => 117 | 337 => 123 | 338 => 124 | n => n, fun | 3 => 3 | 9 => 9 | 2 => 2 | 4 => 4 | 171 => 116 | 0 => 0 | 53 => 63 | 37 => 22 | 5 => 5 | 173 => 119 | 212 => 131 | 51 => 132 | 20 => 20 | 213 => 133 | 46 => 115 | 232 => 152 | 233 => 153 | n => n, fun | 17 => 1 | 18 => 6 | 19 => 7 | n => n⟩
theorem Tryd.laysM171 : Go.Proofs.LaysM.n171 Tryd.prog Tryd.laysM171_ren := {
 mixed := by kernel_rfl
 f129 := Tryd.func114.trans (congrArg some (by kernel_rfl))
 f171 := Tryd.func52.trans (congrArg some (by kernel_rfl))
 f243 := Tryd.func73.trans (congrArg some (by kernel_rfl))
 f246 := Tryd.func87.trans (congrArg some (by kernel_rfl))
 f283 := Tryd.func97.trans (congrArg some (by kernel_rfl))
 f284 := Tryd.func98.trans (congrArg some (by kernel_rfl))
 f285 := Tryd.func99.trans (congrArg some (by kernel_rfl))
 f286 := Tryd.func100.trans (congrArg some (by kernel_rfl))
 f317 := Tryd.func113.trans (congrArg some (by kernel_rfl))
 f318 := Tryd.func115.trans (congrArg some (by kernel_rfl))
 f319 := Tryd.func116.trans (congrArg some (by kernel_rfl))
 f320 := Tryd.func117.trans (congrArg some (by kernel_rfl))
 f337 := Tryd.func123.trans (congrArg some (by kernel_rfl))
 f338 := Tryd.func124.trans (congrArg some (by kernel_rfl))
 t0 := Tryd.underlying0
 a0 := Tryd.isAgg0
 z0 := Tryd.sizeOf0
 v0 := Tryd.zeroValue0
 t2 := Tryd.underlying2
 a2 := Tryd.isAgg2
 z2 := Tryd.sizeOf2
 v2 := Tryd.zeroValue2
 t3 := Tryd.underlying3
 a3 := Tryd.isAgg3
 z3 := Tryd.sizeOf3
 v3 := Tryd.zeroValue3
 t4 := Tryd.underlying4
 a4 := Tryd.isAgg4
 z4 := Tryd.sizeOf4
 v4 := Tryd.zeroValue4
 t5 := Tryd.underlying5
 a5 := Tryd.isAgg5
 z5 := Tryd.sizeOf5
 v5 := Tryd.zeroValue5
 t9 := Tryd.underlying9
 a9 := Tryd.isAgg9
 z9 := Tryd.sizeOf9
 v9 := Tryd.zeroValue9
 t20 := Tryd.underlying20
 a20 := Tryd.isAgg20
 z20 := Tryd.sizeOf20
 v20 := Tryd.zeroValue20
 t37 := Tryd.underlying22
 a37 := Tryd.isAgg22
 z37 := Tryd.sizeOf22
 v37 := Tryd.zeroValue22
 t46 := Tryd.underlying115
 a46 := Tryd.isAgg115
 z46 := Tryd.sizeOf115
 v46 := Tryd.zeroValue115
 t51 := Tryd.underlying132
 a51 := Tryd.isAgg132
 z51 := Tryd.sizeOf132
 v51 := Tryd.zeroValue132
 t53 := Tryd.underlying63
 a53 := Tryd.isAgg63
 z53 := Tryd.sizeOf63
 v53 := Tryd.zeroValue63
 t171 := Tryd.underlying116
 a171 := Tryd.isAgg116
 z171 := Tryd.sizeOf116
 v171 := Tryd.zeroValue116
 t173 := Tryd.underlying119
 a173 := Tryd.isAgg119
 z173 := Tryd.sizeOf119
 v173 := Tryd.zeroValue119
 t212 := Tryd.underlying131
 a212 := Tryd.isAgg131
 z212 := Tryd.sizeOf131
 v212 := Tryd.zeroValue131
 t213 := Tryd.underlying133
 a213 := Tryd.isAgg133
 z213 := Tryd.sizeOf133
 t232 := Tryd.underlying152
 a232 := Tryd.isAgg152
 z232 := Tryd.sizeOf152
 v232 := Tryd.zeroValue152
 t233 := Tryd.underlying153
 a233 := Tryd.isAgg153
 z233 := Tryd.sizeOf153
 v233 := Tryd.zeroValue153
 g17 := by kernel_rfl
 g18 := by kernel_rfl
 g19 := by kernel_rfl
 i0 := by kernel_rfl
 i2 := by kernel_rfl
 i3 := by kernel_rfl
 i4 := by kernel_rfl
 i5 := by kernel_rfl
 i9 := by kernel_rfl
 i20 := by kernel_rfl
 i37 := by kernel_rfl
 i46 := by kernel_rfl
 i51 := by kernel_rfl
 i53 := by kernel_rfl
 i171 := by kernel_rfl
 i173 := by kernel_rfl
 i212 := by kernel_rfl
 i232 := by kernel_rfl
 i233 := by kernel_rfl
 m17 := by kernel_rfl
 m18 := by kernel_rfl
 m19 := by kernel_rfl }
open Go.RowKit Go.Sort Go.Lib in
theorem Tryd.strconv_Itoa (n : Int) (h0 : -9223372036854775808 ≤ n) (h1 : n ≤ 9223372036854775807) (w : World) (htab : Lib.TabIs Tryd.prog w "internal/strconv.uint64pow10" .u64 Lib.pow10Tab) :
  Calls Tryd.prog 52 #[.int .i64 n] w fun e w' => e = .returned (.string ⟨(Lib.itoa n).toArray⟩) ∧ ∃ k os, w' = grow (w.drewN k) os := Any.strconv_Itoa Tryd.laysM171 n h0 h1 w htab
def Tryd.laysC172_ren : Go.Shelf.Ren := ⟨fun | 172 => 80 | 244 => 94 | 245 => 95 | 247 => 108 | 279 => 109 | 280 => 110 | 281 => 111 | 282 => 112 | 287 => 120 | 316 => 121 | 171 => 52 | 205 => 122 | 321 => 125 | 322 => 126 | 243 => 73 | 246 => 87 | 283 => 97 | 284 => 98 | 285 => 99 | 286 => 100 | 129 => 114 | 317 => 113 | 318 => 115 | 319 => 116 | 320 => 117 | 337 => 123 | 338 => 124 | n => n, fun | 9 => 9 | 3 => 3 | 75 => 100 | 76 => 101 | 4 => 4 | 5 => 5 | 167 => 124 | 37 => 22 | 0 => 0 | 85 => 125 | 2 => 2 | 168 => 127 | 53 => 63 | 175 => 141 | 46 => 115 | 210 => 145 | 127 => 109 | 145 => 151 | 143 => 149 | 21 => 21 | 171 => 116 | 173 => 119 | 212 => 131 | 51 => 132 | 20 => 20 | 213 => 133 | 232 => 152 | 233 => 153 | 80 => 103 | n => n, fun | 15 => 4 | 16 => 5 | 17 => 1 | 18 => 6 | 19 => 7 | n => n⟩
theorem Tryd.laysC172 : Go.Proofs.LaysC.n172 Tryd.prog Tryd.laysC172_ren := {
 mixed := by kernel_rfl
 f129 := Tryd.func114.trans (congrArg some (by kernel_rfl))
 f171 := Tryd.func52.trans (congrArg some (by kernel_rfl))
 f172 := Tryd.func80.trans (congrArg some (by kernel_rfl))
 f205 := Tryd.func122.trans (congrArg some (by kernel_rfl))
 f243 := Tryd.func73.trans (congrArg some (by kernel_rfl))
 f244 := Tryd.func94.trans (congrArg some (by kernel_rfl))
 f245 := Tryd.func95.trans (congrArg some (by kernel_rfl))
 f246 := Tryd.func87.trans (congrArg some (by kernel_rfl))
 f247 := Tryd.func108.trans (congrArg some (by kernel_rfl))
 f279 := Tryd.func109.trans (congrArg some (by kernel_rfl))
 f280 := Tryd.func110.trans (congrArg some (by kernel_rfl))
 f281 := Tryd.func111.trans (congrArg some (by kernel_rfl))
 f282 := Tryd.func112.trans (congrArg some (by kernel_rfl))
 f283 := Tryd.func97.trans (congrArg some (by kernel_rfl))
 f284 := Tryd.func98.trans (congrArg some (by kernel_rfl))
 f285 := Tryd.func99.trans (congrArg some (by kernel_rfl))
 f286 := Tryd.func100.trans (congrArg some (by kernel_rfl))
 f287 := Tryd.func120.trans (congrArg some (by kernel_rfl))
 f316 := Tryd.func121.trans (congrArg some (by kernel_rfl))
 f317 := Tryd.func113.trans (congrArg some (by kernel_rfl))
 f318 := Tryd.func115.trans (congrArg some (by kernel_rfl))
 f319 := Tryd.func116.trans (congrArg some (by kernel_rfl))
 f320 := Tryd.func117.trans (congrArg some (by kernel_rfl))
 f321 := Tryd.func125.trans (congrArg some (by kernel_rfl))
 f322 := Tryd.func126.trans (congrArg some (by kernel_rfl))
 f337 := Tryd.func123.trans (congrArg some (by kernel_rfl))
 f338 := Tryd.func124.trans (congrArg some (by kernel_rfl))
 t0 := Tryd.underlying0
 a0 := Tryd.isAgg0
 z0 := Tryd.sizeOf0
 v0 := Tryd.zeroValue0
 t2 := Tryd.underlying2
 a2 := Tryd.isAgg2
 z2 := Tryd.sizeOf2
 v2 := Tryd.zeroValue2
 t3 := Tryd.underlying3
 a3 := Tryd.isAgg3
 z3 := Tryd.sizeOf3
 v3 := Tryd.zeroValue3
 t4 := Tryd.underlying4
 a4 := Tryd.isAgg4
 z4 := Tryd.sizeOf4
 v4 := Tryd.zeroValue4
 t5 := Tryd.underlying5
 a5 := Tryd.isAgg5
 z5 := Tryd.sizeOf5
 v5 := Tryd.zeroValue5
 t9 := Tryd.underlying9
 a9 := Tryd.isAgg9
 z9 := Tryd.sizeOf9
 v9 := Tryd.zeroValue9
 t20 := Tryd.underlying20
 a20 := Tryd.isAgg20
 z20 := Tryd.sizeOf20
 v20 := Tryd.zeroValue20
 t21 := Tryd.underlying21
 a21 := Tryd.isAgg21
 z21 := Tryd.sizeOf21
 v21 := Tryd.zeroValue21
 t37 := Tryd.underlying22
 a37 := Tryd.isAgg22
 z37 := Tryd.sizeOf22
 v37 := Tryd.zeroValue22
 t46 := Tryd.underlying115
 a46 := Tryd.isAgg115
 z46 := Tryd.sizeOf115
 v46 := Tryd.zeroValue115
 t51 := Tryd.underlying132
 a51 := Tryd.isAgg132
 z51 := Tryd.sizeOf132
 v51 := Tryd.zeroValue132
 t53 := Tryd.underlying63
 a53 := Tryd.isAgg63
 z53 := Tryd.sizeOf63
 v53 := Tryd.zeroValue63
 t75 := Tryd.underlying100
 a75 := Tryd.isAgg100
 z75 := Tryd.sizeOf100
 v75 := Tryd.zeroValue100
 t76 := Tryd.underlying101
 a76 := Tryd.isAgg101
 z76 := Tryd.sizeOf101
 v76 := Tryd.zeroValue101
 t85 := Tryd.underlying125
 a85 := Tryd.isAgg125
 z85 := Tryd.sizeOf125
 v85 := Tryd.zeroValue125
 t127 := Tryd.underlying109
 a127 := Tryd.isAgg109
 z127 := Tryd.sizeOf109
 v127 := Tryd.zeroValue109
 t143 := Tryd.underlying149
 a143 := Tryd.isAgg149
 z143 := Tryd.sizeOf149
 v143 := Tryd.zeroValue149
 t145 := Tryd.underlying151
 a145 := Tryd.isAgg151
 z145 := Tryd.sizeOf151
 v145 := Tryd.zeroValue151
 t167 := Tryd.underlying124
 a167 := Tryd.isAgg124
 z167 := Tryd.sizeOf124
 v167 := Tryd.zeroValue124
 t168 := Tryd.underlying127
 a168 := Tryd.isAgg127
 z168 := Tryd.sizeOf127
 v168 := Tryd.zeroValue127
 t171 := Tryd.underlying116
 a171 := Tryd.isAgg116
 z171 := Tryd.sizeOf116
 v171 := Tryd.zeroValue116
 t173 := Tryd.underlying119
 a173 := Tryd.isAgg119
 z173 := Tryd.sizeOf119
 v173 := Tryd.zeroValue119
 t175 := Tryd.underlying141
 a175 := Tryd.isAgg141
 z175 := Tryd.sizeOf141
 v175 := Tryd.zeroValue141
 t210 := Tryd.underlying145
 a210 := Tryd.isAgg145
 z210 := Tryd.sizeOf145
 v210 := Tryd.zeroValue145
 t212 := Tryd.underlying131
 a212 := Tryd.isAgg131
 z212 := Tryd.sizeOf131
 v212 := Tryd.zeroValue131
 t213 := Tryd.underlying133
 a213 := Tryd.isAgg133
 z213 := Tryd.sizeOf133
 t232 := Tryd.underlying152
 a232 := Tryd.isAgg152
 z232 := Tryd.sizeOf152
 v232 := Tryd.zeroValue152
 t233 := Tryd.underlying153
 a233 := Tryd.isAgg153
 z233 := Tryd.sizeOf153
 v233 := Tryd.zeroValue153
 g15 := by kernel_rfl
 g16 := by kernel_rfl
 g17 := by kernel_rfl
 g18 := by kernel_rfl
 g19 := by kernel_rfl
 t80 := Tryd.underlying103
 a80 := Tryd.isAgg103
 z80 := Tryd.sizeOf103
 v80 := Tryd.zeroValue103
 i0 := by kernel_rfl
 i2 := by kernel_rfl
 i3 := by kernel_rfl
 i4 := by kernel_rfl
 i5 := by kernel_rfl
 i9 := by kernel_rfl
 i20 := by kernel_rfl
 i21 := by kernel_rfl
 i37 := by kernel_rfl
 i46 := by kernel_rfl
 i51 := by kernel_rfl
 i53 := by kernel_rfl
 i75 := by kernel_rfl
 i76 := by kernel_rfl
 i80 := by kernel_rfl
 i85 := by kernel_rfl
 i127 := by kernel_rfl
 i143 := by kernel_rfl
 i145 := by kernel_rfl
 i167 := by kernel_rfl
 i168 := by kernel_rfl
 i171 := by kernel_rfl
 i173 := by kernel_rfl
 i175 := by kernel_rfl
 i210 := by kernel_rfl
 i212 := by kernel_rfl
 i232 := by kernel_rfl
 i233 := by kernel_rfl
 m15 := by kernel_rfl
 m16 := by kernel_rfl
 m17 := by kernel_rfl
 m18 := by kernel_rfl
 m19 := by kernel_rfl
 c0 := by kernel_rfl
 c2 := by kernel_rfl
 c3 := by kernel_rfl
 c4 := by kernel_rfl
 c5 := by kernel_rfl
 c9 := by kernel_rfl
 c20 := by kernel_rfl
 c21 := by kernel_rfl
 c37 := by kernel_rfl
 c46 := by kernel_rfl
 c51 := by kernel_rfl
 c53 := by kernel_rfl
 c75 := by kernel_rfl
 c76 := by kernel_rfl
 c80 := by kernel_rfl
 c85 := by kernel_rfl
 c127 := by kernel_rfl
 c143 := by kernel_rfl
 c145 := by kernel_rfl
 c167 := by kernel_rfl
 c168 := by kernel_rfl
 c171 := by kernel_rfl
 c173 := by kernel_rfl
 c175 := by kernel_rfl
 c210 := by kernel_rfl
 c212 := by kernel_rfl
 c213 := by kernel_rfl
 c232 := by kernel_rfl
 c233 := by kernel_rfl }
open Go.RowKit in
theorem Tryd.strconv_Atoi_ok (s : ByteArray) (hmax : s.size ≤ 9223372036854775806) (v : Int) (h : Lib.atoiAll s.data.toList = .ok v) (w : World) :
  Calls Tryd.prog 80 #[.string s] w fun e w' => e = .returned (.tuple #[.int .i64 v, .nilIface]) ∧ (w' = w ∨ ∃ t, w' = Lib.bytesWorld w 5 t) := Any.strconv_Atoi_ok Tryd.laysC172 s hmax v h w
open Go.RowKit in
theorem Tryd.strconv_Atoi_range (s : ByteArray) (hlim : s.size ≤ 281474976710656) (h : Lib.atoiAll s.data.toList = .range) (ev : Value) (w : World) (hv : w.cell? ⟨5, 0, none⟩ = some ev) (hev : ev = .nilIface ∨ ∃ te pe, ev = .iface te pe) :
  Calls Tryd.prog 80 #[.string s] w fun e w' => ∃ N, e = .returned (.tuple #[.int .i64 (Lib.atoiSat s.data.toList), .iface 127 (.pointer (some ⟨N, 0, none⟩))]) ∧ w.heap.size ≤ N ∧ w'.heap[N]? = some (.cells #[.string ⟨#[65, 116, 111, 105]⟩, .string s, ev] 145 (0, 0)) ∧ Below w.heap.size w w' := Any.strconv_Atoi_range Tryd.laysC172 s hlim h ev w hv hev
def Tryd.laysM143_ren : Go.Shelf.Ren := ⟨fun | 143 => 79 | 219 => 93 | 217 => 104 | 225 => 105 | 224 => 106 | 267 => 107 | 266 => 118 | 314 => 119 | n => n, fun | 9 => 9 | 3 => 3 | 4 => 4 | 5 => 5 | 46 => 115 | 146 => 139 | 51 => 132 | n => n, fun | 1 => 0 | n => n⟩
theorem Tryd.laysM143 : Go.Proofs.LaysM.n143 Tryd.prog Tryd.laysM143_ren := {
 mixed := by kernel_rfl
 f143 := Tryd.func79.trans (congrArg some (by kernel_rfl))
 f217 := Tryd.func104.trans (congrArg some (by kernel_rfl))
 f219 := Tryd.func93.trans (congrArg some (by kernel_rfl))
 f224 := Tryd.func106.trans (congrArg some (by kernel_rfl))
 f225 := Tryd.func105.trans (congrArg some (by kernel_rfl))
 f266 := Tryd.func118.trans (congrArg some (by kernel_rfl))
 f267 := Tryd.func107.trans (congrArg some (by kernel_rfl))
 f314 := Tryd.func119.trans (congrArg some (by kernel_rfl))
 t3 := Tryd.underlying3
 a3 := Tryd.isAgg3
 z3 := Tryd.sizeOf3
 v3 := Tryd.zeroValue3
 t4 := Tryd.underlying4
 a4 := Tryd.isAgg4
 z4 := Tryd.sizeOf4
 v4 := Tryd.zeroValue4
 t5 := Tryd.underlying5
 a5 := Tryd.isAgg5
 z5 := Tryd.sizeOf5
 v5 := Tryd.zeroValue5
 t9 := Tryd.underlying9
 a9 := Tryd.isAgg9
 z9 := Tryd.sizeOf9
 v9 := Tryd.zeroValue9
 t46 := Tryd.underlying115
 a46 := Tryd.isAgg115
 z46 := Tryd.sizeOf115
 v46 := Tryd.zeroValue115
 t51 := Tryd.underlying132
 a51 := Tryd.isAgg132
 z51 := Tryd.sizeOf132
 v51 := Tryd.zeroValue132
 t146 := Tryd.underlying139
 a146 := Tryd.isAgg139
 z146 := Tryd.sizeOf139
 v146 := Tryd.zeroValue139
 g1 := by kernel_rfl
 i3 := by kernel_rfl
 i4 := by kernel_rfl
 i5 := by kernel_rfl
 i9 := by kernel_rfl
 i46 := by kernel_rfl
 i51 := by kernel_rfl
 i146 := by kernel_rfl
 m1 := by kernel_rfl
 s1_3 := fun w h => Go.Proofs.cell_of_shapedOpen_int (zero := #[.int .i64 0]) (t := 3) h (of_decide_eq_true (by kernel_rfl)) (by kernel_rfl) rfl (by kernel_rfl) (by kernel_rfl) Tryd.underlying3 }
end Go.Proofs
namespace Go.Proofs.YtiaiohoadefgjaaDoor.X
open Go.RowKit Go.Proofs.YtiaiohoadefgjaaDoorW.PrintWords Go.Proofs.YtiaiohoadefgjaaDoorW.PrintLast Go.Proofs.YtiaiohoadefgjaaDoorW.PrintMore Go.Proofs.YtiaiohoadefgjaaDoor.E
attribute [local go_sem] max2_int min2_int max_two min_two max_three min_three max_four min_four
set_option linter.unusedVariables false
set_option linter.unusedSimpArgs false
attribute [-simp] ByteArray.size_append ByteArray.size_extract
attribute [-go_sem] ByteArray.size_append'
/-! ### strconv_Itoa: function 52 -/
def strconv_Itoa.f (a0 : Int) : Option ByteArray := if -9223372036854775808 ≤ a0 ∧ a0 ≤ 9223372036854775807 then some ⟨(Lib.itoa a0).toArray⟩ else none
theorem strconv_Itoa.calls (a0 : Int) (r : ByteArray) (w : World) (hG : GT w) (h : strconv_Itoa.f a0 = some r) :
  Calls Tryd.prog 52 #[.int .i64 a0] w fun e w' => e = .returned (.string r) ∧ Below w.heap.size w w' := by
 (unfold strconv_Itoa.f at h); (split at h); (· (rename_i hc); (cases h); (refine (Tryd.strconv_Itoa a0 hc.1 hc.2 w hG).mono ?_); (rintro e w' ⟨rfl, k, os, rfl⟩); (exact ⟨rfl, Lib.below_grow _ _ (Nat.le_refl _) _ _⟩)); (· (cases h))
/-! ### impl_ParseInt: function 55 -/
def parseE (s : ByteArray) : Int × Bool := match Lib.atoiAll s.data.toList with
 | .ok v => if (-999999 ≤ v ∧ v ≤ 999999) ∧ Lib.itoa v = s.data.toList then (v, true) else (0, false)
 | _ => (0, false)
def impl_ParseInt.f (a0 : ByteArray) : Option (Int × Bool) := if a0.size ≤ 281474976710656 then some (parseE a0) else none
theorem atoi_ok_below {s : ByteArray} {v : Int} (hz : s.size ≤ 281474976710656) (h : Lib.atoiAll s.data.toList = .ok v) (w : World) : Calls Tryd.prog 80 #[.string s] w fun e w' => e = .returned (.tuple #[.int .i64 v, .nilIface]) ∧ Below w.heap.size w w' := by
 (refine (Tryd.strconv_Atoi_ok s (by omega) v h w).mono ?_); (rintro e w' ⟨he, hw⟩); (refine ⟨he, ?_⟩); (rcases hw with rfl | ⟨t, rfl⟩); (· (exact Below.refl _ _)); (· (exact Joins.below_bytesWorld _ _ _ _ (Nat.le_refl _)))
theorem atoi_bad {s : ByteArray} (hz : s.size ≤ 281474976710656) (h : ∀ v, Lib.atoiAll s.data.toList ≠ .ok v) (w : World) (hE : GE w) : Calls Tryd.prog 80 #[.string s] w fun e w' => ∃ (n : Int) (t : TypeId) (v : Value), e = .returned (.tuple #[.int .i64 n, .iface t v]) ∧ Below w.heap.size w w' := by
 (obtain ⟨_, ⟨t1, p1, h1⟩, ⟨t2, p2, h2⟩, _⟩ := hE); (cases hc : Lib.atoiAll s.data.toList); (· (rename_i v; exact absurd hc (h v))); (· (exact (Any.strconv_Atoi_syntax Tryd.laysC172 s hz hc _ w h1 (Or.inr ⟨_, _, rfl⟩)).mono fun e w' ⟨N, he, _, _, hb⟩ => ⟨_, _, _, he, hb⟩)); (· (exact (Any.strconv_Atoi_range Tryd.laysC172 s hz hc _ w h2 (Or.inr ⟨_, _, rfl⟩)).mono fun e w' ⟨N, he, _, _, hb⟩ => ⟨_, _, _, he, hb⟩))
set_option maxHeartbeats 1000000 in
set_option maxRecDepth 100000 in
theorem impl_ParseInt.calls (a0 : ByteArray) (r1 : Int) (r2 : Bool) (w : World) (hG : GE w) (h : impl_ParseInt.f a0 = some (r1, r2)) :
  Calls Tryd.prog 55 #[.string a0] w fun e w' => e = .returned (.tuple #[.int .i64 r1, .bool r2]) ∧ Below w.heap.size w w' := by
 (unfold impl_ParseInt.f at h); (split at h)
 case isFalse => cases h
 (rename_i hz); (have HZ := Aside0.mk hz); clear hz; (have h := Option.some.inj h); (have HG := Aside0.mk hG); clear hG; (have HB := Aside0.mk (Below.refl w.heap.size w)); (by_cases hok : ∃ v, Lib.atoiAll a0.data.toList = .ok v)
 case neg =>
  have hbad : ∀ v, Lib.atoiAll a0.data.toList ≠ .ok v := fun v hv => hok ⟨v, hv⟩
  have hr : parseE a0 = (0, false) := by
   (unfold parseE); (split); (· (rename_i v hv; exact absurd hv (hbad v))); (· rfl)
  (rw [hr] at h); (injection h with h1 h2); (subst h1; subst h2); (have HBAD := Aside0.mk hbad); clear hr hbad hok; (go_enter Tryd.func55, Tryd.ntmps55); (go_wp2_with ((with_reducible refine gate_callee (f := 80) rfl ?_); refine gL (some 8) Tryd.func80 #[.string a0] ?_; (with_reducible refine (atoi_bad HZ.out HBAD.out _ HG.out).mono ?_); rintro e w1 ⟨n, t, v, rfl, hb⟩; refine ⟨_, rfl, ?_⟩; have n0_ := Aside0.mk (sI hb HB); clear HB hb; have HB := n0_; clear n0_)); (go_ret2); (exact Q100)
 (obtain ⟨v, hv⟩ := hok); (have hbd := Lib.atoiAll_bounds hv); (have hI : strconv_Itoa.f v = some ⟨(Lib.itoa v).toArray⟩ := by unfold strconv_Itoa.f; rw [if_pos hbd])
 have hW : impl_within.f v (-999999) 999999 = some (decide (-999999 ≤ v ∧ v ≤ 999999)) := by
  (unfold impl_within.f); (by_cases h1 : v ≥ -999999); (· (rw [if_pos h1]; congr 1; rw [decide_eq_decide]; omega)); (· (rw [if_neg h1, decide_eq_false (fun hh => h1 hh.1)]))
 (have HI := Aside0.mk hI); (have HV := Aside0.mk hv); (unfold parseE at h); (rw [hv] at h); (simp only at h); (by_cases c1 : -999999 ≤ v ∧ v ≤ 999999)
 case neg =>
  (rw [if_neg (fun hh => c1 hh.1)] at h); (injection h with h1 h2); (subst h1; subst h2); (rw [decide_eq_false c1] at hW); (have HWI := Aside0.mk hW); clear hv hI hW c1 hbd; (go_enter Tryd.func55, Tryd.ntmps55); (go_wp2_with (first | ((with_reducible refine gate_callee (f := 80) rfl ?_); refine gL (some 8) Tryd.func80 #[.string a0] ?_; (with_reducible refine (atoi_ok_below HZ.out HV.out _).mono ?_); rintro e w1 ⟨rfl, hb⟩; refine ⟨_, rfl, ?_⟩; have n0_ := Aside0.mk (sI hb HB); clear HB hb; have HB := n0_; clear n0_) | ((with_reducible refine gate_callee (f := 59) rfl ?_); refine gate_guard Q125 ?_; refine gL (some 15) Tryd.func59 #[.int .i64 v, .int .i64 (-999999), .int .i64 999999] ?_; (with_reducible refine (impl_within.calls _ _ _ _ _ HWI.out).mono ?_); rintro e w' ⟨rfl, ⟨nd, rfl⟩⟩; refine ⟨_, rfl, ?_⟩))); (go_ret2); (exact Q100)
 (rw [decide_eq_true c1] at hW); (have HWI := Aside0.mk hW); (by_cases c2 : Lib.itoa v = a0.data.toList); (· (rw [if_pos ⟨c1, c2⟩] at h); (injection h with h1 h2); (subst h1; subst h2); (have c3 : (⟨(Lib.itoa v).toArray⟩ : ByteArray) = a0 := by rw [c2]); (rw [c3] at hI); (have HI := Aside0.mk hI); clear hv hI hW c1 c2 c3 hbd; (go_enter Tryd.func55, Tryd.ntmps55); (go_wp2_with (first | ((with_reducible refine gate_callee (f := 80) rfl ?_); refine gL (some 8) Tryd.func80 #[.string a0] ?_; (with_reducible refine (atoi_ok_below HZ.out HV.out _).mono ?_); rintro e w1 ⟨rfl, hb⟩; refine ⟨_, rfl, ?_⟩; have n0_ := Aside0.mk (sI hb HB); clear HB hb; have HB := n0_; clear n0_) | ((with_reducible refine gate_callee (f := 59) rfl ?_); refine gate_guard Q125 ?_; refine gL (some 15) Tryd.func59 #[.int .i64 v, .int .i64 (-999999), .int .i64 999999] ?_; (with_reducible refine (impl_within.calls _ _ _ _ _ HWI.out).mono ?_); rintro e w' ⟨rfl, ⟨nd, rfl⟩⟩; refine ⟨_, rfl, ?_⟩) | ((with_reducible refine gate_callee (f := 52) rfl ?_); refine gate_guard Q125 ?_; refine gL (some 20) Tryd.func52 #[.int .i64 v] ?_; (with_reducible refine (strconv_Itoa.calls _ _ _ (GT.below HG.out.gt (eI HB)) HI.out).mono ?_); rintro e w2 ⟨rfl, hb⟩; refine ⟨_, rfl, ?_⟩; have n0_ := Aside0.mk (sI hb HB); clear HB hb; have HB := n0_; clear n0_))); (go_ret2); (exact Q100))
 ·rw [if_neg (fun hh => c2 hh.2)] at h
  (injection h with h1 h2); (subst h1; subst h2)
  have c3 : ((⟨(Lib.itoa v).toArray⟩ : ByteArray).toList != a0.toList) = true := by
   (rw [bne_iff_ne]); intro he; (rw [Lib.toList_data, Lib.toList_data] at he); (exact c2 (by simpa using he))
  have c4 : (Lib.itoa v == a0.toList) = false := by
   (rw [beq_eq_false_iff_ne]); intro he; (rw [Lib.toList_data] at he); (exact c2 he)
  clear hv hI hW c1 c2 hbd; (go_enter Tryd.func55, Tryd.ntmps55); (go_wp2_with (first | ((with_reducible refine gate_callee (f := 80) rfl ?_); refine gL (some 8) Tryd.func80 #[.string a0] ?_; (with_reducible refine (atoi_ok_below HZ.out HV.out _).mono ?_); rintro e w1 ⟨rfl, hb⟩; refine ⟨_, rfl, ?_⟩; have n0_ := Aside0.mk (sI hb HB); clear HB hb; have HB := n0_; clear n0_) | ((with_reducible refine gate_callee (f := 59) rfl ?_); refine gate_guard Q125 ?_; refine gL (some 15) Tryd.func59 #[.int .i64 v, .int .i64 (-999999), .int .i64 999999] ?_; (with_reducible refine (impl_within.calls _ _ _ _ _ HWI.out).mono ?_); rintro e w' ⟨rfl, ⟨nd, rfl⟩⟩; refine ⟨_, rfl, ?_⟩) | ((with_reducible refine gate_callee (f := 52) rfl ?_); refine gate_guard Q125 ?_; refine gL (some 20) Tryd.func52 #[.int .i64 v] ?_; (with_reducible refine (strconv_Itoa.calls _ _ _ (GT.below HG.out.gt (eI HB)) HI.out).mono ?_); rintro e w2 ⟨rfl, hb⟩; refine ⟨_, rfl, ?_⟩; have n0_ := Aside0.mk (sI hb HB); clear HB hb; have HB := n0_; clear n0_))); (go_ret2); (exact Q100)
end Go.Proofs.YtiaiohoadefgjaaDoor.X
namespace Go.Proofs.YtiaiohoadefgjaaDoor.X
open Go.RowKit Go.Proofs.YtiaiohoadefgjaaDoorW.PrintWords Go.Proofs.YtiaiohoadefgjaaDoorW.PrintLast Go.Proofs.YtiaiohoadefgjaaDoorW.PrintMore
attribute [local go_sem] max2_int min2_int max_two min_two max_three min_three max_four min_four
set_option linter.unusedVariables false
set_option linter.unusedSimpArgs false
attribute [-simp] ByteArray.size_append ByteArray.size_extract
attribute [-go_sem] ByteArray.size_append'
/-! ### impl_Field_isValue: function 62 -/
def impl_Field_isValue.f (k : Nat) (a0_0 : ByteArray) (a0_1 : Int) (a0_2 : Int) (a0_3 : Int) (l0_4 : List ByteArray) (a0_5 : Bool) (a0_6 : ByteArray) (a1 : ByteArray) : Option (Bool) := if a0_1 = 1 then ((impl_ParseInt.f a1).bind fun bt102 => (if bt102.2 = true then ((impl_within.f bt102.1 a0_2 a0_3).bind fun t104 => (some t104)) else (some false))) else (if a0_1 = 2 then ((impl_within.f (a1.size : Int) a0_2 a0_3).bind fun t105 => (some t105)) else (if a0_1 = 3 then ((slices_Contains_string_string.f k l0_4 a1).bind fun t106 => (some t106)) else (if a1.toList = ([121, 101, 115] : List UInt8) then (some true) else (some (a1.toList == ([110, 111] : List UInt8))))))
set_option maxHeartbeats 8000000 in
set_option maxRecDepth 100000 in
theorem impl_Field_isValue.calls (k : Nat) (a0_0 : ByteArray) (a0_1 : Int) (a0_2 : Int) (a0_3 : Int) (A0_4 : Option Addr) (c0_4 : Nat) (l0_4 : List ByteArray) (a0_5 : Bool) (a0_6 : ByteArray) (a1 : ByteArray) (r : Bool) (w : World) (hr0_4 : Kd.C Kd.string w A0_4 l0_4.length l0_4) (hc0_4 : l0_4.length ≤ c0_4) (hG : GE w) (h : impl_Field_isValue.f k a0_0 a0_1 a0_2 a0_3 l0_4 a0_5 a0_6 a1 = some r) :
  Calls Tryd.prog 62 #[.agg #[.string a0_0, .int .i64 a0_1, .int .i64 a0_2, .int .i64 a0_3, .slice A0_4 l0_4.length c0_4, .bool a0_5, .string a0_6], .string a1] w fun e w' => e = .returned (.bool r) ∧ Below w.heap.size w w' := by
 (have hu54 := Tryd.underlying54); (have HR0_4 := Aside0.mk hr0_4); (have HC0_4 := Aside0.mk hc0_4); clear hr0_4 hc0_4; (have HG := Aside0.mk hG); clear hG; (have HB := Aside0.mk (Below.refl w.heap.size w)); (unfold impl_Field_isValue.f at h); (have H := h); clear h; (by_cases c3 : a0_1 = 1)
 ·rw [if_pos c3] at H
  (have c3b0 : (a0_1 == 1) = true := beq_iff_eq.mpr c3); (have c3b1 : (a0_1 != 1) = false := bne_eq_false_iff_eq.mpr c3); clear c3; (replace H := obS H); (obtain ⟨⟨t102, t103⟩, A4, H⟩ := H); (replace H : (if t103 = true then ((impl_within.f t102 a0_2 a0_3).bind fun t104 => (some t104)) else (some false)) = some r := H); (by_cases c5 : t103 = true); (· subst c5; (rw [if_pos rfl] at H); (replace H := obS H); (obtain ⟨t104, A6, H⟩ := H); (obtain rfl := Option.some.inj H); (go_enter Tryd.func62, Tryd.ntmps62); (go_wp2_with (first | ((with_reducible refine gate_dst (N := 2) rfl ?_); refine box_event ?hg (N := 2) ?hd (cs := #[.string a0_0, .int .i64 a0_1, .int .i64 a0_2, .int .i64 a0_3, .slice A0_4 l0_4.length c0_4, .bool a0_5, .string a0_6]) (t := 54) ?hr ?_; (case hd => rfl); (case hg => rfl); (case hr => first | (go_simp; done) | (go_simp; rfl)); intro gb101 hg w7 hbox hb; have hB_ := zI hb HB; have n0_ := Aside0.mk (below_step hB_ hb); have n1_ := Aside0.mk (hbox); have n2_ := Aside0.mk (bx0 hg hB_); have n3_ := n2_; clear HB; have HB := n0_; have BK101 := n1_; have GW101 := n2_; have GE101 := n3_; clear n0_ n1_ n2_ n3_ hB_ hb hbox hg; have hcz8_0 := cz BK101.out 0; have hcz8_1 := cz BK101.out 1; have hcz8_2 := cz BK101.out 2; have hcz8_3 := cz BK101.out 3; have hcz8_4 := cz BK101.out 4; have hcz8_5 := cz BK101.out 5; have hcz8_6 := cz BK101.out 6; have hfz8_0 := blk_frozen BK101.out 0; have hfz8_1 := blk_frozen BK101.out 1; have hfz8_2 := blk_frozen BK101.out 2; have hfz8_3 := blk_frozen BK101.out 3; have hfz8_4 := blk_frozen BK101.out 4; have hfz8_5 := blk_frozen BK101.out 5; have hfz8_6 := blk_frozen BK101.out 6) | ((with_reducible refine gate_callee (f := 55) rfl ?_); refine gL (some 13) Tryd.func55 #[.string a1] ?_; (with_reducible refine (impl_ParseInt.calls a1 t102 true _ ?side1 A4.out).mono ?_); (case side1 => first | exact Q126 | (repeat (first | exact HG.out | (with_reducible first | apply GE.drewN | apply GE.drew | apply GE.alloc)))); rintro e w9 ⟨rfl, hb⟩; refine ⟨_, rfl, ?_⟩; have n0_ := Aside0.mk (kbI hb BK101); have n1_ := Aside0.mk (sI hb HB); clear BK101 HB; have BK101 := n0_; have HB := n1_; clear n0_ n1_; (try clear hb); (try clear hb2); (try clear hk); (try clear hi); have hcz10_0 := cz BK101.out 0; have hcz10_1 := cz BK101.out 1; have hcz10_2 := cz BK101.out 2; have hcz10_3 := cz BK101.out 3; have hcz10_4 := cz BK101.out 4; have hcz10_5 := cz BK101.out 5; have hcz10_6 := cz BK101.out 6; have hfz10_0 := blk_frozen BK101.out 0; have hfz10_1 := blk_frozen BK101.out 1; have hfz10_2 := blk_frozen BK101.out 2; have hfz10_3 := blk_frozen BK101.out 3; have hfz10_4 := blk_frozen BK101.out 4; have hfz10_5 := blk_frozen BK101.out 5; have hfz10_6 := blk_frozen BK101.out 6) | (go_at_call 59; (with_reducible refine (impl_within.calls t102 a0_2 a0_3 t104 _ A6.out).mono ?_); rintro e w' ⟨rfl, ⟨nd, rfl⟩⟩))); go_ret; (exact Q100))
  ·replace c5 := Bool.eq_false_iff.mpr c5
   subst c5; (rw [if_neg (show ¬ (false = true) by decide)] at H); (obtain rfl := Option.some.inj H); (go_enter Tryd.func62, Tryd.ntmps62); (go_wp2_with (first | ((with_reducible refine gate_dst (N := 2) rfl ?_); refine box_event ?hg (N := 2) ?hd (cs := #[.string a0_0, .int .i64 a0_1, .int .i64 a0_2, .int .i64 a0_3, .slice A0_4 l0_4.length c0_4, .bool a0_5, .string a0_6]) (t := 54) ?hr ?_; (case hd => rfl); (case hg => rfl); (case hr => first | (go_simp; done) | (go_simp; rfl)); intro gb101 hg w11 hbox hb; have hB_ := zI hb HB; have n0_ := Aside0.mk (below_step hB_ hb); have n1_ := Aside0.mk (hbox); have n2_ := Aside0.mk (bx0 hg hB_); have n3_ := n2_; clear HB; have HB := n0_; have BK101 := n1_; have GW101 := n2_; have GE101 := n3_; clear n0_ n1_ n2_ n3_ hB_ hb hbox hg; have hcz12_0 := cz BK101.out 0; have hcz12_1 := cz BK101.out 1; have hcz12_2 := cz BK101.out 2; have hcz12_3 := cz BK101.out 3; have hcz12_4 := cz BK101.out 4; have hcz12_5 := cz BK101.out 5; have hcz12_6 := cz BK101.out 6; have hfz12_0 := blk_frozen BK101.out 0; have hfz12_1 := blk_frozen BK101.out 1; have hfz12_2 := blk_frozen BK101.out 2; have hfz12_3 := blk_frozen BK101.out 3; have hfz12_4 := blk_frozen BK101.out 4; have hfz12_5 := blk_frozen BK101.out 5; have hfz12_6 := blk_frozen BK101.out 6) | ((with_reducible refine gate_callee (f := 55) rfl ?_); refine gL (some 13) Tryd.func55 #[.string a1] ?_; (with_reducible refine (impl_ParseInt.calls a1 t102 false _ ?side1 A4.out).mono ?_); (case side1 => first | exact Q126 | (repeat (first | exact HG.out | (with_reducible first | apply GE.drewN | apply GE.drew | apply GE.alloc)))); rintro e w13 ⟨rfl, hb⟩; refine ⟨_, rfl, ?_⟩; have n0_ := Aside0.mk (kbI hb BK101); have n1_ := Aside0.mk (sI hb HB); clear BK101 HB; have BK101 := n0_; have HB := n1_; clear n0_ n1_; (try clear hb); (try clear hb2); (try clear hk); (try clear hi)))); go_ret; (exact Q100)
 ·rw [if_neg c3] at H
  (have c3b0 : (a0_1 == 1) = false := beq_eq_false_iff_ne.mpr c3); (have c3b1 : (a0_1 != 1) = true := bne_iff_ne.mpr c3); (by_cases c14 : a0_1 = 2)
  ·rw [if_pos c14] at H
   (have c14b0 : (a0_1 == 2) = true := beq_iff_eq.mpr c14); (have c14b1 : (a0_1 != 2) = false := bne_eq_false_iff_eq.mpr c14); clear c14; (replace H := obS H); (obtain ⟨t105, A15, H⟩ := H); (obtain rfl := Option.some.inj H); (go_enter Tryd.func62, Tryd.ntmps62); (go_wp2_with (first | ((with_reducible refine gate_dst (N := 2) rfl ?_); refine box_event ?hg (N := 2) ?hd (cs := #[.string a0_0, .int .i64 a0_1, .int .i64 a0_2, .int .i64 a0_3, .slice A0_4 l0_4.length c0_4, .bool a0_5, .string a0_6]) (t := 54) ?hr ?_; (case hd => rfl); (case hg => rfl); (case hr => first | (go_simp; done) | (go_simp; rfl)); intro gb101 hg w16 hbox hb; have hB_ := zI hb HB; have n0_ := Aside0.mk (below_step hB_ hb); have n1_ := Aside0.mk (hbox); have n2_ := Aside0.mk (bx0 hg hB_); have n3_ := n2_; clear HB; have HB := n0_; have BK101 := n1_; have GW101 := n2_; have GE101 := n3_; clear n0_ n1_ n2_ n3_ hB_ hb hbox hg; have hcz17_0 := cz BK101.out 0; have hcz17_1 := cz BK101.out 1; have hcz17_2 := cz BK101.out 2; have hcz17_3 := cz BK101.out 3; have hcz17_4 := cz BK101.out 4; have hcz17_5 := cz BK101.out 5; have hcz17_6 := cz BK101.out 6; have hfz17_0 := blk_frozen BK101.out 0; have hfz17_1 := blk_frozen BK101.out 1; have hfz17_2 := blk_frozen BK101.out 2; have hfz17_3 := blk_frozen BK101.out 3; have hfz17_4 := blk_frozen BK101.out 4; have hfz17_5 := blk_frozen BK101.out 5; have hfz17_6 := blk_frozen BK101.out 6) | ((with_reducible refine gate_callee (f := 59) rfl ?_); refine gL (some 33) Tryd.func59 #[.int .i64 (a1.size : Int), .int .i64 a0_2, .int .i64 a0_3] ?_; (with_reducible refine (impl_within.calls (a1.size : Int) a0_2 a0_3 t105 _ A15.out).mono ?_); rintro e w' ⟨rfl, ⟨nd, rfl⟩⟩; refine ⟨_, rfl, ?_⟩))); go_ret; (exact Q100)
  ·rw [if_neg c14] at H
   (have c14b0 : (a0_1 == 2) = false := beq_eq_false_iff_ne.mpr c14); (have c14b1 : (a0_1 != 2) = true := bne_iff_ne.mpr c14); (by_cases c18 : a0_1 = 3)
   ·rw [if_pos c18] at H
    (have c18b0 : (a0_1 == 3) = true := beq_iff_eq.mpr c18); (have c18b1 : (a0_1 != 3) = false := bne_eq_false_iff_eq.mpr c18); clear c18; (replace H := obS H); (obtain ⟨t106, A19, H⟩ := H); (obtain rfl := Option.some.inj H); (go_enter Tryd.func62, Tryd.ntmps62); (go_wp2_with (first | ((with_reducible refine gate_dst (N := 2) rfl ?_); refine box_event ?hg (N := 2) ?hd (cs := #[.string a0_0, .int .i64 a0_1, .int .i64 a0_2, .int .i64 a0_3, .slice A0_4 l0_4.length c0_4, .bool a0_5, .string a0_6]) (t := 54) ?hr ?_; (case hd => rfl); (case hg => rfl); (case hr => first | (go_simp; done) | (go_simp; rfl)); intro gb101 hg w20 hbox hb; have hB_ := zI hb HB; have n0_ := Aside0.mk (below_step hB_ hb); have n1_ := Aside0.mk (hbox); have n2_ := Aside0.mk (bx0 hg hB_); have n3_ := n2_; clear HB; have HB := n0_; have BK101 := n1_; have GW101 := n2_; have GE101 := n3_; clear n0_ n1_ n2_ n3_ hB_ hb hbox hg; have hcz21_0 := cz BK101.out 0; have hcz21_1 := cz BK101.out 1; have hcz21_2 := cz BK101.out 2; have hcz21_3 := cz BK101.out 3; have hcz21_4 := cz BK101.out 4; have hcz21_5 := cz BK101.out 5; have hcz21_6 := cz BK101.out 6; have hfz21_0 := blk_frozen BK101.out 0; have hfz21_1 := blk_frozen BK101.out 1; have hfz21_2 := blk_frozen BK101.out 2; have hfz21_3 := blk_frozen BK101.out 3; have hfz21_4 := blk_frozen BK101.out 4; have hfz21_5 := blk_frozen BK101.out 5; have hfz21_6 := blk_frozen BK101.out 6) | ((with_reducible refine gate_callee (f := 26) rfl ?_); refine gL (some 39) Tryd.func26 #[.slice A0_4 l0_4.length c0_4, .string a1] ?_; (with_reducible refine (slices_Contains_string_string.calls k _ _ l0_4 a1 t106 _ ?side1 ?side2 A19.out).mono ?_); (case side1 => exact Kd.C_below HR0_4.out (eI HB)); (case side2 => exact HC0_4.out); rintro e w' ⟨rfl, ⟨nd, rfl⟩⟩; refine ⟨_, rfl, ?_⟩))); go_ret; (exact Q100)
   ·rw [if_neg c18] at H
    (have c18b0 : (a0_1 == 3) = false := beq_eq_false_iff_ne.mpr c18); (have c18b1 : (a0_1 != 3) = true := bne_iff_ne.mpr c18); (by_cases c22 : a1.toList = ([121, 101, 115] : List UInt8)); (· (rw [if_pos c22] at H); (have c22b0 : (a1.toList == ([121, 101, 115] : List UInt8)) = true := beq_iff_eq.mpr c22); (have c22b1 : (a1.toList != ([121, 101, 115] : List UInt8)) = false := bne_eq_false_iff_eq.mpr c22); clear c22; (obtain rfl := Option.some.inj H); (go_enter Tryd.func62, Tryd.ntmps62); (go_wp2_with (first | ((with_reducible refine gate_dst (N := 2) rfl ?_); refine box_event ?hg (N := 2) ?hd (cs := #[.string a0_0, .int .i64 a0_1, .int .i64 a0_2, .int .i64 a0_3, .slice A0_4 l0_4.length c0_4, .bool a0_5, .string a0_6]) (t := 54) ?hr ?_; (case hd => rfl); (case hg => rfl); (case hr => first | (go_simp; done) | (go_simp; rfl)); intro gb101 hg w23 hbox hb; have hB_ := zI hb HB; have n0_ := Aside0.mk (below_step hB_ hb); have n1_ := Aside0.mk (hbox); have n2_ := Aside0.mk (bx0 hg hB_); have n3_ := n2_; clear HB; have HB := n0_; have BK101 := n1_; have GW101 := n2_; have GE101 := n3_; clear n0_ n1_ n2_ n3_ hB_ hb hbox hg; have hcz24_0 := cz BK101.out 0; have hcz24_1 := cz BK101.out 1; have hcz24_2 := cz BK101.out 2; have hcz24_3 := cz BK101.out 3; have hcz24_4 := cz BK101.out 4; have hcz24_5 := cz BK101.out 5; have hcz24_6 := cz BK101.out 6; have hfz24_0 := blk_frozen BK101.out 0; have hfz24_1 := blk_frozen BK101.out 1; have hfz24_2 := blk_frozen BK101.out 2; have hfz24_3 := blk_frozen BK101.out 3; have hfz24_4 := blk_frozen BK101.out 4; have hfz24_5 := blk_frozen BK101.out 5; have hfz24_6 := blk_frozen BK101.out 6))); go_ret; (exact Q100)); (· (rw [if_neg c22] at H); (have c22b0 : (a1.toList == ([121, 101, 115] : List UInt8)) = false := beq_eq_false_iff_ne.mpr c22); (have c22b1 : (a1.toList != ([121, 101, 115] : List UInt8)) = true := bne_iff_ne.mpr c22); (obtain rfl := Option.some.inj H); (go_enter Tryd.func62, Tryd.ntmps62); (go_wp2_with (first | ((with_reducible refine gate_dst (N := 2) rfl ?_); refine box_event ?hg (N := 2) ?hd (cs := #[.string a0_0, .int .i64 a0_1, .int .i64 a0_2, .int .i64 a0_3, .slice A0_4 l0_4.length c0_4, .bool a0_5, .string a0_6]) (t := 54) ?hr ?_; (case hd => rfl); (case hg => rfl); (case hr => first | (go_simp; done) | (go_simp; rfl)); intro gb101 hg w25 hbox hb; have hB_ := zI hb HB; have n0_ := Aside0.mk (below_step hB_ hb); have n1_ := Aside0.mk (hbox); have n2_ := Aside0.mk (bx0 hg hB_); have n3_ := n2_; clear HB; have HB := n0_; have BK101 := n1_; have GW101 := n2_; have GE101 := n3_; clear n0_ n1_ n2_ n3_ hB_ hb hbox hg; have hcz26_0 := cz BK101.out 0; have hcz26_1 := cz BK101.out 1; have hcz26_2 := cz BK101.out 2; have hcz26_3 := cz BK101.out 3; have hcz26_4 := cz BK101.out 4; have hcz26_5 := cz BK101.out 5; have hcz26_6 := cz BK101.out 6; have hfz26_0 := blk_frozen BK101.out 0; have hfz26_1 := blk_frozen BK101.out 1; have hfz26_2 := blk_frozen BK101.out 2; have hfz26_3 := blk_frozen BK101.out 3; have hfz26_4 := blk_frozen BK101.out 4; have hfz26_5 := blk_frozen BK101.out 5; have hfz26_6 := blk_frozen BK101.out 6))); go_ret; (exact Q100))
/-! ### impl_states: function 39 -/
mutual
def impl_states.l0 : Nat → List (S54) → List (S51) → List Int → List Bool → Int → Int → Option (List Int)
 | 0, _, _, _, _, _, _ => none
 | k + 1, x0, x1, x5, x15, x16, x17 => if x17 < x16 then (if 0 ≤ x17 then (if x17 < (x15.length : Int) then (if x17 < (x0.length : Int) then ((impl_answerOf.f x1 ((rd_T54 x0 x17).f0)).bind fun bt110 => (if rdOf false x15 x17 = true then (impl_states.j1 k x0 x1 x5 (rdOf false x15 x17) bt110.1 bt110.2 0 x15 x16 x17 false ((rd_T54 x0 x17).f0) ((rd_T54 x0 x17).f1) ((rd_T54 x0 x17).f2) ((rd_T54 x0 x17).f3) ((rd_T54 x0 x17).f4) ((rd_T54 x0 x17).f5) ((rd_T54 x0 x17).f6)) else (impl_states.j1 k x0 x1 x5 (rdOf false x15 x17) bt110.1 bt110.2 0 x15 x16 x17 bt110.2 ((rd_T54 x0 x17).f0) ((rd_T54 x0 x17).f1) ((rd_T54 x0 x17).f2) ((rd_T54 x0 x17).f3) ((rd_T54 x0 x17).f4) ((rd_T54 x0 x17).f5) ((rd_T54 x0 x17).f6)))) else (none)) else (none)) else (none)) else (some x5)
def impl_states.j1 : Nat → List (S54) → List (S51) → List Int → Bool → ByteArray → Bool → Int → List Bool → Int → Int → Bool → ByteArray → Int → Int → Int → List ByteArray → Bool → ByteArray → Option (List Int)
 | 0, _, _, _, _, _, _, _, _, _, _, _, _, _, _, _, _, _, _ => none
 | k + 1, x0, x1, x5, x7, x9, x10, x11, x15, x16, x17, x33, x110000, x110001, x110002, x110003, x110004, x110005, x110006 => if x33 = true then (if x5.length < 17592186044416 then (impl_states.l0 k x0 x1 (x5 ++ [3]) x15 x16 (wrap64 (x17 + 1))) else (none)) else (if x7 = true then (if x110005 = true then (impl_states.j2 k x0 x1 x5 x7 x9 x10 x11 x15 x16 x17 (!x10) x110000 x110001 x110002 x110003 x110004 x110005 x110006) else (impl_states.j2 k x0 x1 x5 x7 x9 x10 x11 x15 x16 x17 false x110000 x110001 x110002 x110003 x110004 x110005 x110006)) else (impl_states.j2 k x0 x1 x5 x7 x9 x10 x11 x15 x16 x17 false x110000 x110001 x110002 x110003 x110004 x110005 x110006))
def impl_states.j2 : Nat → List (S54) → List (S51) → List Int → Bool → ByteArray → Bool → Int → List Bool → Int → Int → Bool → ByteArray → Int → Int → Int → List ByteArray → Bool → ByteArray → Option (List Int)
 | 0, _, _, _, _, _, _, _, _, _, _, _, _, _, _, _, _, _, _ => none
 | k + 1, x0, x1, x5, x7, x9, x10, x11, x15, x16, x17, x39, x110000, x110001, x110002, x110003, x110004, x110005, x110006 => if x39 = true then (if x5.length < 17592186044416 then (impl_states.l0 k x0 x1 (x5 ++ [1]) x15 x16 (wrap64 (x17 + 1))) else (none)) else (if x7 = true then (if x10 = true then ((impl_Field_isValue.f k x110000 x110001 x110002 x110003 x110004 x110005 x110006 x9).bind fun t118 => (if t118 = true then (if x5.length < 17592186044416 then (impl_states.l0 k x0 x1 (x5 ++ [x11]) x15 x16 (wrap64 (x17 + 1))) else (none)) else (if x5.length < 17592186044416 then (impl_states.l0 k x0 x1 (x5 ++ [2]) x15 x16 (wrap64 (x17 + 1))) else (none)))) else (if x5.length < 17592186044416 then (impl_states.l0 k x0 x1 (x5 ++ [x11]) x15 x16 (wrap64 (x17 + 1))) else (none))) else (if x5.length < 17592186044416 then (impl_states.l0 k x0 x1 (x5 ++ [x11]) x15 x16 (wrap64 (x17 + 1))) else (none)))
end
def impl_states.f (k : Nat) (l0 : List (S54)) (l1 : List (S51)) : Option (List Int) := (impl_visible.f k l0 l1).bind fun t104 => (impl_states.l0 k l0 l1 (([] : List Int)) t104 (t104.length : Int) 0)
set_option maxHeartbeats 8000000 in
set_option maxRecDepth 100000 in
theorem impl_states.calls (k : Nat) (A0 : Option Addr) (c0 : Nat) (l0 : List (S54)) (A1 : Option Addr) (c1 : Nat) (l1 : List (S51)) (r : List Int) (w : World) (hr0 : Kd.C k54 w A0 l0.length l0) (hc0 : l0.length ≤ c0) (hr1 : Kd.C k51 w A1 l1.length l1) (hc1 : l1.length ≤ c1) (hG : GE w) (h : impl_states.f k l0 l1 = some r) :
  Calls Tryd.prog 39 #[.slice A0 l0.length c0, .slice A1 l1.length c1] w fun e w' => ∃ v0_ : Value, e = .returned (v0_) ∧ Kd.R (Kd.int .i64) 3 w' w.heap.size (fun _ => True) v0_ r ∧ Below w.heap.size w w' := by
 (have hu54 := Tryd.underlying54); (have HR0 := Aside0.mk hr0); (have HC0 := Aside0.mk hc0); clear hr0 hc0; (have HR1 := Aside0.mk hr1); (have HC1 := Aside0.mk hc1); clear hr1 hc1; (have HG := Aside0.mk hG); clear hG; (have HB := Aside0.mk (Below.refl w.heap.size w)); (unfold impl_states.f at h); (have H := h); clear h; (obtain ⟨y101, hy101⟩ : ∃ y_ : List Int, y_ = (([] : List Int)) := ⟨_, rfl⟩); (replace H : ((impl_visible.f k l0 l1).bind fun t104 => (impl_states.l0 k l0 l1 y101 t104 (t104.length : Int) 0)) = some r := Q25); (have Ny101 := Aside0.mk hy101); clear hy101; (replace H := obS H); (obtain ⟨t104, A3, H⟩ := H); (have H' := Aside0.mk H); clear H; (go_enter Tryd.func39, Tryd.ntmps39); (go_wp2_with (first | ((with_reducible refine gate_dst (N := 12) rfl ?_); refine Kd.R_lit (Kd.int .i64) _ 3 ?hg (N := 12) ?hd (xs := ([] : List Int)) (inner := []) (ok := fun _ => True) (okp := fun _ => True) ?hr ?hp (fun _ hk => hk) trivial (Below.refl _ _) (Nat.le_refl _) (by simp) ?_; (case hd => rfl); (case hg => rfl); (case hr => first | (go_simp; done) | (go_simp; rfl)); (case hp => exact Q28); intro v102 w4 ho5 hb hg_ hnew_; clear hg_ hnew_; (first | rw [← Ny101.out] at ho5 | (simp only [Int.reduceToNat] at ho5; rw [← Ny101.out] at ho5)); have hB_ := zI hb HB; have n0_ := Aside0.mk (Kd.R_lower ho5 (below_size hB_)); have n1_ := Aside0.mk (below_step hB_ hb); clear HB; have HO103 := n0_; have HB := n1_; clear n0_ n1_ hB_ hb ho5) | ((with_reducible refine gate_callee (f := 42) rfl ?_); refine gL (some 15) Tryd.func42 #[.slice A0 l0.length c0, .slice A1 l1.length c1] ?_; (with_reducible refine (impl_visible.calls k _ _ l0 _ _ l1 t104 _ ?side1 ?side2 ?side3 ?side4 A3.out).mono ?_); (case side1 => exact Q98); (case side2 => exact HC0.out); (case side3 => exact Q127); (case side4 => exact HC1.out); rintro e w6 ⟨v105, rfl, ho0, hb⟩; refine ⟨_, rfl, ?_⟩; have n0_ := Aside0.mk (rbI hb HO103); have n1_ := Aside0.mk (Kd.R_lower ho0 (below_size (eI HB))); have n2_ := Aside0.mk (sI hb HB); clear HO103 HB; have HO103 := n0_; have HO106 := n1_; have HB := n2_; clear n0_ n1_ n2_; (try clear hb); (try clear hb2); (try clear hk); (try clear hi); (try clear ho0); obtain ⟨Ao7, co7, eo7⟩ := Kd.R_slice HO106.out; subst eo7))); (go_loopg [5, 17] k (fun kq v5 v17 w' => ∃ (x5_1 : List Int) (x17_1 : Int), v17 = .int .i64 x17_1 ∧ Aside0 (impl_states.l0 kq l0 l1 x5_1 t104 (t104.length : Int) x17_1 = some r) ∧ Aside0 (kq ≤ k) ∧ Aside0 (Kd.R (Kd.int .i64) 3 w' w.heap.size (fun _ => True) v5 x5_1) ∧ Aside0 (Kd.R Kd.bool 4 w' w.heap.size (fun _ => True) (.slice Ao7 t104.length co7) t104) ∧ Aside0 (Below w.heap.size w w')))
 case atStart => exact ⟨(y101), (0), Q32, H', ⟨Nat.le_refl _⟩, ⟨rI HO103⟩, ⟨rI HO106⟩, ⟨eI HB⟩⟩
 case round =>
  (clear H'); (try clear c1); (try clear p2); (try clear c3); (try clear c4); (obtain ⟨x5_1, x17_1, rfl, HA, HK1, HO_5, HO_15, HB⟩ := hrel)
  cases gk with
  | zero => exact absurd HA.out (by simp [impl_states.l0])
  | succ k1 =>
   (have H := HA.out); clear HA; (simp only [impl_states.l0] at H); (by_cases c8 : x17_1 < (t104.length : Int))
   ·rw [if_pos c8] at H
    (have c8b0 := decide_eq_true c8); clear c8; (by_cases c9 : 0 ≤ x17_1)
    ·rw [if_pos c9] at H
     (have c9b0 := decide_eq_true c9); clear c9; (by_cases c10 : x17_1 < (t104.length : Int))
     ·rw [if_pos c10] at H
      (have c10b0 := decide_eq_true c10); clear c10; (by_cases c11 : x17_1 < (l0.length : Int))
      ·rw [if_pos c11] at H
       (have c11b0 := decide_eq_true c11); clear c11; (replace H := Option.bind_eq_some_iff.mp H); (obtain ⟨⟨t110, t111⟩, A120, H⟩ := H); (replace H : (if rdOf false t104 x17_1 = true then (impl_states.j1 k1 l0 l1 x5_1 (rdOf false t104 x17_1) t110 t111 0 t104 (t104.length : Int) x17_1 false ((rd_T54 l0 x17_1).f0) ((rd_T54 l0 x17_1).f1) ((rd_T54 l0 x17_1).f2) ((rd_T54 l0 x17_1).f3) ((rd_T54 l0 x17_1).f4) ((rd_T54 l0 x17_1).f5) ((rd_T54 l0 x17_1).f6)) else (impl_states.j1 k1 l0 l1 x5_1 (rdOf false t104 x17_1) t110 t111 0 t104 (t104.length : Int) x17_1 t111 ((rd_T54 l0 x17_1).f0) ((rd_T54 l0 x17_1).f1) ((rd_T54 l0 x17_1).f2) ((rd_T54 l0 x17_1).f3) ((rd_T54 l0 x17_1).f4) ((rd_T54 l0 x17_1).f5) ((rd_T54 l0 x17_1).f6))) = some r := H); (have A12 := Aside0.mk A120); clear A120; (have HC13 := Aside0.mk H); clear H; (have p107 : 0 ≤ (x17_1 : Int) := of_decide_eq_true Q33); (have q107 : x17_1 < (t104.length : Int) := of_decide_eq_true Q33); (obtain ⟨ad107, e107, hx107_0⟩ := Kd.at_bool (Kd.R_reads' HO_15.out).2.2 x17_1 p107 q107); (obtain ⟨bz107, hbz107⟩ : ∃ b_ : Bool, b_ = (rdOf false t104 x17_1) := ⟨_, rfl⟩); (rw [← hbz107] at hx107_0 HC13); (have HZ107 := Aside0.mk hbz107); clear hbz107; (cases e107); (replace p107 := eq_true p107); (replace q107 := eq_true q107); (have p108 : 0 ≤ (x17_1 : Int) := of_decide_eq_true Q33); (have q108 : x17_1 < (l0.length : Int) := of_decide_eq_true Q33); (obtain ⟨ad108, A108_4, c108_4, e108, hx108_0, hx108_1, hx108_2, hx108_3, hx108_4, hx108_5, hx108_6, hl108_4, hi108_4⟩ := at_T54 HR0.out x17_1 p108 q108); (cases e108); (replace hx108_0 := (HB.out.cell (bltc w _ hx108_0)).trans hx108_0); (replace hx108_1 := (HB.out.cell (bltc w _ hx108_1)).trans hx108_1); (replace hx108_2 := (HB.out.cell (bltc w _ hx108_2)).trans hx108_2); (replace hx108_3 := (HB.out.cell (bltc w _ hx108_3)).trans hx108_3); (replace hx108_4 := (HB.out.cell (bltc w _ hx108_4)).trans hx108_4); (replace hx108_5 := (HB.out.cell (bltc w _ hx108_5)).trans hx108_5); (replace hx108_6 := (HB.out.cell (bltc w _ hx108_6)).trans hx108_6); (have HR108_4 := Aside0.mk hi108_4); (have HC108_4 := Aside0.mk hl108_4); clear hi108_4 hl108_4; (replace p108 := eq_true p108); (replace q108 := eq_true q108)
       go_upto_region 8 with (first | ((with_reducible refine gate_dst (N := 8) rfl ?_); refine box_event ?hg (N := 8) ?hd (cs := #[.string (⟨#[]⟩ : ByteArray), .int .i64 0, .int .i64 0, .int .i64 0, .slice none 0 0, .bool false, .string (⟨#[]⟩ : ByteArray)]) (t := 54) ?hr ?_; (case hd => rfl); (case hg => rfl); (case hr => first | (go_simp; done) | (go_simp; rfl)); intro gb109 hg w14 hbox hb; have n0_ := Aside0.mk (Kd.R_below Q15 hb); have n1_ := Aside0.mk (Kd.R_below (by (with_reducible repeat (first | apply rA | apply rN | apply rD)); exact HO_15.out) hb); have hB_ := bz Q87 hb; have n2_ := Aside0.mk (below_step hB_ hb); have n3_ := Aside0.mk (hbox); have n4_ := Aside0.mk ((Q88 : w.heap.size ≤ gb109)); have n5_ := n4_; clear HO_5 HO_15 HB; have HO_5 := n0_; have HO_15 := n1_; have HB := n2_; have BK109 := n3_; have GW109 := n4_; have GE109 := n5_; clear n0_ n1_ n2_ n3_ n4_ n5_ hB_ hb hbox hg; have hcz15_0 := cz BK109.out 0; have hcz15_1 := cz BK109.out 1; have hcz15_2 := cz BK109.out 2; have hcz15_3 := cz BK109.out 3; have hcz15_4 := cz BK109.out 4; have hcz15_5 := cz BK109.out 5; have hcz15_6 := cz BK109.out 6; have hfz15_0 := blk_frozen BK109.out 0; have hfz15_1 := blk_frozen BK109.out 1; have hfz15_2 := blk_frozen BK109.out 2; have hfz15_3 := blk_frozen BK109.out 3; have hfz15_4 := blk_frozen BK109.out 4; have hfz15_5 := blk_frozen BK109.out 5; have hfz15_6 := blk_frozen BK109.out 6) | ((with_reducible refine gate_callee (f := 50) rfl ?_); refine gL (some 30) Tryd.func50 #[.slice A1 l1.length c1, .string ((rd_T54 l0 x17_1).f0)] ?_; (with_reducible refine (impl_answerOf.calls _ _ l1 ((rd_T54 l0 x17_1).f0) t110 t111 _ ?side1 ?side2 A12.out).mono ?_); (case side1 => exact Kd.C_below HR1.out Q128); (case side2 => exact HC1.out); rintro e w16 ⟨rfl, hb⟩; refine ⟨_, rfl, ?_⟩; have n0_ := Aside0.mk (Kd.R_below (by (with_reducible repeat (first | apply rA | apply rN | apply rD)); exact (Kd.R_mono (Kd.R_far (p := ⟨gb109, 6, none⟩) (Kd.R_far (p := ⟨gb109, 5, none⟩) (Kd.R_far (p := ⟨gb109, 4, none⟩) (Kd.R_far (p := ⟨gb109, 3, none⟩) (Kd.R_far (p := ⟨gb109, 2, none⟩) (Kd.R_far (p := ⟨gb109, 1, none⟩) (Kd.R_far (p := ⟨gb109, 0, none⟩) (Kd.R_types HO_5.out BK109.out (by decide)) (fun _ hk => hk.2) (.string ((rd_T54 l0 x17_1).f0))) (fun _ hk => hk.2) (.int .i64 ((rd_T54 l0 x17_1).f1))) (fun _ hk => hk.2) (.int .i64 ((rd_T54 l0 x17_1).f2))) (fun _ hk => hk.2) (.int .i64 ((rd_T54 l0 x17_1).f3))) (fun _ hk => hk.2) (.slice A108_4 ((rd_T54 l0 x17_1).f4).length c108_4)) (fun _ hk => hk.2) (.bool ((rd_T54 l0 x17_1).f5))) (fun _ hk => hk.2) (.string ((rd_T54 l0 x17_1).f6))) (fun _ h_ => h_.1))) hb); have n1_ := Aside0.mk (Kd.R_below (by (with_reducible repeat (first | apply rA | apply rN | apply rD)); exact (Kd.R_mono (Kd.R_far (p := ⟨gb109, 6, none⟩) (Kd.R_far (p := ⟨gb109, 5, none⟩) (Kd.R_far (p := ⟨gb109, 4, none⟩) (Kd.R_far (p := ⟨gb109, 3, none⟩) (Kd.R_far (p := ⟨gb109, 2, none⟩) (Kd.R_far (p := ⟨gb109, 1, none⟩) (Kd.R_far (p := ⟨gb109, 0, none⟩) (Kd.R_types HO_15.out BK109.out (by decide)) (fun _ hk => hk.2) (.string ((rd_T54 l0 x17_1).f0))) (fun _ hk => hk.2) (.int .i64 ((rd_T54 l0 x17_1).f1))) (fun _ hk => hk.2) (.int .i64 ((rd_T54 l0 x17_1).f2))) (fun _ hk => hk.2) (.int .i64 ((rd_T54 l0 x17_1).f3))) (fun _ hk => hk.2) (.slice A108_4 ((rd_T54 l0 x17_1).f4).length c108_4)) (fun _ hk => hk.2) (.bool ((rd_T54 l0 x17_1).f5))) (fun _ hk => hk.2) (.string ((rd_T54 l0 x17_1).f6))) (fun _ h_ => h_.1))) hb); have n2_ := Aside0.mk (blk_below (g := gb109) (o := .cells #[.string ((rd_T54 l0 x17_1).f0), .int .i64 ((rd_T54 l0 x17_1).f1), .int .i64 ((rd_T54 l0 x17_1).f2), .int .i64 ((rd_T54 l0 x17_1).f3), .slice A108_4 ((rd_T54 l0 x17_1).f4).length c108_4, .bool ((rd_T54 l0 x17_1).f5), .string ((rd_T54 l0 x17_1).f6)] 54 (0, 0)) (by (with_reducible repeat (first | refine kN ?_ _ | refine kD ?_ | refine kA ?_ _)); refine blk_put (cs := #[.string ((rd_T54 l0 x17_1).f0), .int .i64 ((rd_T54 l0 x17_1).f1), .int .i64 ((rd_T54 l0 x17_1).f2), .int .i64 ((rd_T54 l0 x17_1).f3), .slice A108_4 ((rd_T54 l0 x17_1).f4).length c108_4, .bool ((rd_T54 l0 x17_1).f5), .string (⟨#[]⟩ : ByteArray)]) ?_ 6 _ rfl; (with_reducible repeat (first | refine kN ?_ _ | refine kD ?_ | refine kA ?_ _)); refine blk_put (cs := #[.string ((rd_T54 l0 x17_1).f0), .int .i64 ((rd_T54 l0 x17_1).f1), .int .i64 ((rd_T54 l0 x17_1).f2), .int .i64 ((rd_T54 l0 x17_1).f3), .slice A108_4 ((rd_T54 l0 x17_1).f4).length c108_4, .bool false, .string (⟨#[]⟩ : ByteArray)]) ?_ 5 _ rfl; (with_reducible repeat (first | refine kN ?_ _ | refine kD ?_ | refine kA ?_ _)); refine blk_put (cs := #[.string ((rd_T54 l0 x17_1).f0), .int .i64 ((rd_T54 l0 x17_1).f1), .int .i64 ((rd_T54 l0 x17_1).f2), .int .i64 ((rd_T54 l0 x17_1).f3), .slice none 0 0, .bool false, .string (⟨#[]⟩ : ByteArray)]) ?_ 4 _ rfl; (with_reducible repeat (first | refine kN ?_ _ | refine kD ?_ | refine kA ?_ _)); refine blk_put (cs := #[.string ((rd_T54 l0 x17_1).f0), .int .i64 ((rd_T54 l0 x17_1).f1), .int .i64 ((rd_T54 l0 x17_1).f2), .int .i64 0, .slice none 0 0, .bool false, .string (⟨#[]⟩ : ByteArray)]) ?_ 3 _ rfl; (with_reducible repeat (first | refine kN ?_ _ | refine kD ?_ | refine kA ?_ _)); refine blk_put (cs := #[.string ((rd_T54 l0 x17_1).f0), .int .i64 ((rd_T54 l0 x17_1).f1), .int .i64 0, .int .i64 0, .slice none 0 0, .bool false, .string (⟨#[]⟩ : ByteArray)]) ?_ 2 _ rfl; (with_reducible repeat (first | refine kN ?_ _ | refine kD ?_ | refine kA ?_ _)); refine blk_put (cs := #[.string ((rd_T54 l0 x17_1).f0), .int .i64 0, .int .i64 0, .int .i64 0, .slice none 0 0, .bool false, .string (⟨#[]⟩ : ByteArray)]) ?_ 1 _ rfl; (with_reducible repeat (first | refine kN ?_ _ | refine kD ?_ | refine kA ?_ _)); refine blk_put (cs := #[.string (⟨#[]⟩ : ByteArray), .int .i64 0, .int .i64 0, .int .i64 0, .slice none 0 0, .bool false, .string (⟨#[]⟩ : ByteArray)]) ?_ 0 _ rfl; (with_reducible repeat (first | refine kN ?_ _ | refine kD ?_ | refine kA ?_ _)); exact BK109.out) hb); have n3_ := Aside0.mk (below_step Q128 hb); clear HO_5 HO_15 BK109 HB; have HO_5 := n0_; have HO_15 := n1_; have BK109 := n2_; have HB := n3_; clear n0_ n1_ n2_ n3_; (try clear hb); (try clear hb2); (try clear hk); (try clear hi)))
       ((try simp only [Act.put, aS1, aS2, aS3])); (go_cut [33] (fun v33 wc => ∃ (kq : Nat) (x33_12 : Bool), v33 = .bool x33_12 ∧ Aside0 (impl_states.j1 kq l0 l1 x5_1 bz107 t110 t111 0 t104 (t104.length : Int) x17_1 x33_12 ((rd_T54 l0 x17_1).f0) ((rd_T54 l0 x17_1).f1) ((rd_T54 l0 x17_1).f2) ((rd_T54 l0 x17_1).f3) ((rd_T54 l0 x17_1).f4) ((rd_T54 l0 x17_1).f5) ((rd_T54 l0 x17_1).f6) = some r) ∧ Aside0 (kq ≤ k1) ∧ Aside0 (Kd.R (Kd.int .i64) 3 wc w.heap.size (fun _ => True) u5 x5_1) ∧ Aside0 (Kd.R Kd.bool 4 wc w.heap.size (fun _ => True) (.slice (some ad107) t104.length co7) t104) ∧ Aside0 (wc.heap[gb109]? = some (.cells #[.string ((rd_T54 l0 x17_1).f0), .int .i64 ((rd_T54 l0 x17_1).f1), .int .i64 ((rd_T54 l0 x17_1).f2), .int .i64 ((rd_T54 l0 x17_1).f3), (.slice A108_4 ((rd_T54 l0 x17_1).f4).length c108_4), .bool ((rd_T54 l0 x17_1).f5), .string ((rd_T54 l0 x17_1).f6)] 54 (0, 0))) ∧ Aside0 (Below w.heap.size w wc)))
       case first =>
        (have H := HC13.out); clear HC13; (replace H : (if bz107 = true then (impl_states.j1 k1 l0 l1 x5_1 bz107 t110 t111 0 t104 (t104.length : Int) x17_1 false ((rd_T54 l0 x17_1).f0) ((rd_T54 l0 x17_1).f1) ((rd_T54 l0 x17_1).f2) ((rd_T54 l0 x17_1).f3) ((rd_T54 l0 x17_1).f4) ((rd_T54 l0 x17_1).f5) ((rd_T54 l0 x17_1).f6)) else (impl_states.j1 k1 l0 l1 x5_1 bz107 t110 t111 0 t104 (t104.length : Int) x17_1 t111 ((rd_T54 l0 x17_1).f0) ((rd_T54 l0 x17_1).f1) ((rd_T54 l0 x17_1).f2) ((rd_T54 l0 x17_1).f3) ((rd_T54 l0 x17_1).f4) ((rd_T54 l0 x17_1).f5) ((rd_T54 l0 x17_1).f6))) = some r := H); (by_cases c18 : bz107 = true)
        ·subst c18
         (rw [if_pos rfl] at H); (have H' := Aside0.mk H); clear H; (go_wp2); (go_meet)
         case rel => exact ⟨_, (false), Q32, H', ⟨Q50⟩, ⟨rI HO_5⟩, ⟨rI HO_15⟩, ⟨kI BK109⟩, ⟨eI HB⟩⟩
        ·replace c18 := Bool.eq_false_iff.mpr c18
         subst c18; (rw [if_neg (show ¬ (false = true) by decide)] at H); (have H' := Aside0.mk H); clear H; (go_wp2); (go_meet)
         case rel => exact ⟨_, (t111), Q32, H', ⟨Q50⟩, ⟨rI HO_5⟩, ⟨rI HO_15⟩, ⟨kI BK109⟩, ⟨eI HB⟩⟩
       case rest =>
        clear HC13; (try clear c1); (try clear p1); (try clear q1); (try clear hx1); (try clear p2); (try clear c3); (try clear c4); (try clear c5); (try clear c8); (try clear c8b0); (try clear c9); (try clear c9b0); (try clear c10); (try clear c10b0); (try clear p10); (try clear q10); (try clear hx10); (try clear c11); (try clear c11b0); (try clear q17); (try clear c18); (try clear hcz15_0); (try clear hcz15_1); (try clear hcz15_2); (try clear hcz15_3); (try clear hcz15_4); (try clear hcz15_5); (try clear hcz15_6); (try clear hfz15_0); (try clear hfz15_1); (try clear hfz15_2); (try clear hfz15_3); (try clear hfz15_4); (try clear hfz15_5); (try clear hfz15_6); (try clear hx107_0); (try clear hx108_0); (try clear hx108_1); (try clear hx108_2); (try clear hx108_3); (try clear hx108_4); (try clear hx108_5); (try clear hx108_6); (try clear p107); (try clear p108); (try clear p2); (try clear q107); (try clear q108); (obtain ⟨kq, x33_12, rfl, HA, HJ12, HO_5, HO_15, BK109, HB⟩ := hcut)
        cases kq with
        | zero => exact absurd HA.out (by simp [impl_states.j1])
        | succ kj12 =>
         (have H := HA.out); clear HA; (simp only [impl_states.j1] at H); (by_cases c19 : x33_12 = true)
         ·subst c19
          (rw [if_pos rfl] at H); (by_cases c20 : x5_1.length < 17592186044416)
          ·rw [if_pos c20] at H
           (have LMc20 := Aside0.mk c20); clear c20; (obtain ⟨y112, hy112⟩ : ∃ y_ : List Int, y_ = (x5_1 ++ [3]) := ⟨_, rfl⟩); (replace H : (impl_states.l0 kj12 l0 l1 y112 t104 (t104.length : Int) (wrap64 (x17_1 + 1))) = some r := Q86); (have Ny112 := Aside0.mk hy112); clear hy112; (have H' := Aside0.mk H); clear H; (go_wp2_with (first | ((with_reducible refine gate_builtin (b := .append) (xs := #[.tmp 60, .tmp 62]) rfl ?_); at_builtin; refine Kd.R_append (Kd.int .i64) (w0 := w) w.heap.size rfl (.tmp 60) (.tmp 62) 36 3 (.int .i64 0) 8 rfl Tryd.underlying36 info3 rfl (by decide) (by omega) u5 x5_1 3 [.int .i64 3] (fun _ => True) (fun _ => False) rfl rfl ?aP (fun _ hk => hk.elim) ?aF ?aO ?aB ?aS ?aL ?_; (case aP => exact rfl); (case aB => exact (eI HB)); (case aF => exact Q75); (case aO => exact (rI HO_5)); (case aS => exact Q129); (case aL => have := LMc20.out; omega); intro v113 w21 ho hb hg hat; rw [← Ny112.out] at ho; have n0_ := Aside0.mk (Kd.R_over' (rI HO_15) (Kd.R_typed (rI HO_5)) (by decide) hg); have n1_ := Aside0.mk (blk_grown (kI BK109) hg (Kd.R_ne HO_5.out BK109.out (by decide))); have n2_ := Aside0.mk (hb); have n3_ := Aside0.mk (ho); clear HO_15 BK109 HB HO_5; have HO_15 := n0_; have BK109 := n1_; have HB := n2_; have HO114 := n3_; clear n0_ n1_ n2_ n3_ ho hb hg hat))); go_roundg kj12
           case measure => have := HK1.out; have := HJ12.out; omega
           case rel => exact ⟨(y112), (wrap64 (x17_1 + 1)), Q32, H', ⟨by have := HK1.out; have := HJ12.out; omega⟩, ⟨rI HO114⟩, ⟨rI HO_15⟩, ⟨eI HB⟩⟩
          ·rw [if_neg c20] at H
           exact Q1
         ·replace c19 := Bool.eq_false_iff.mpr c19
          subst c19; (rw [if_neg (show ¬ (false = true) by decide)] at H); (have HC22 := Aside0.mk H); clear H; (go_upto_region 10 with (fail)); (go_cut [39] (fun v39 wc => ∃ (kq : Nat) (x39_21 : Bool), v39 = .bool x39_21 ∧ Aside0 (impl_states.j2 kq l0 l1 x5_1 bz107 t110 t111 0 t104 (t104.length : Int) x17_1 x39_21 ((rd_T54 l0 x17_1).f0) ((rd_T54 l0 x17_1).f1) ((rd_T54 l0 x17_1).f2) ((rd_T54 l0 x17_1).f3) ((rd_T54 l0 x17_1).f4) ((rd_T54 l0 x17_1).f5) ((rd_T54 l0 x17_1).f6) = some r) ∧ Aside0 (kq ≤ kj12) ∧ Aside0 (Kd.R (Kd.int .i64) 3 wc w.heap.size (fun _ => True) u5 x5_1) ∧ Aside0 (Kd.R Kd.bool 4 wc w.heap.size (fun _ => True) (.slice (some ad107) t104.length co7) t104) ∧ Aside0 (wc.heap[gb109]? = some (.cells #[.string ((rd_T54 l0 x17_1).f0), .int .i64 ((rd_T54 l0 x17_1).f1), .int .i64 ((rd_T54 l0 x17_1).f2), .int .i64 ((rd_T54 l0 x17_1).f3), (.slice A108_4 ((rd_T54 l0 x17_1).f4).length c108_4), .bool ((rd_T54 l0 x17_1).f5), .string ((rd_T54 l0 x17_1).f6)] 54 (0, 0))) ∧ Aside0 (Below w.heap.size w wc)))
          case first =>
           (have H := HC22.out); clear HC22; (replace H : (if (bz107) = true then (if ((rd_T54 l0 x17_1).f5) = true then (impl_states.j2 kj12 l0 l1 x5_1 (bz107) t110 t111 0 t104 (t104.length : Int) x17_1 (!t111) ((rd_T54 l0 x17_1).f0) ((rd_T54 l0 x17_1).f1) ((rd_T54 l0 x17_1).f2) ((rd_T54 l0 x17_1).f3) ((rd_T54 l0 x17_1).f4) ((rd_T54 l0 x17_1).f5) ((rd_T54 l0 x17_1).f6)) else (impl_states.j2 kj12 l0 l1 x5_1 (bz107) t110 t111 0 t104 (t104.length : Int) x17_1 false ((rd_T54 l0 x17_1).f0) ((rd_T54 l0 x17_1).f1) ((rd_T54 l0 x17_1).f2) ((rd_T54 l0 x17_1).f3) ((rd_T54 l0 x17_1).f4) ((rd_T54 l0 x17_1).f5) ((rd_T54 l0 x17_1).f6))) else (impl_states.j2 kj12 l0 l1 x5_1 (bz107) t110 t111 0 t104 (t104.length : Int) x17_1 false ((rd_T54 l0 x17_1).f0) ((rd_T54 l0 x17_1).f1) ((rd_T54 l0 x17_1).f2) ((rd_T54 l0 x17_1).f3) ((rd_T54 l0 x17_1).f4) ((rd_T54 l0 x17_1).f5) ((rd_T54 l0 x17_1).f6))) = some r := H); (by_cases c24 : (bz107) = true)
           ·subst c24
            (rw [if_pos rfl] at H); (by_cases c25 : ((rd_T54 l0 x17_1).f5) = true)
            ·rw [if_pos c25] at H
             (have c25b0 : ((rd_T54 l0 x17_1).f5) = true := c25); clear c25; (have H' := Aside0.mk H); clear H; (have hcz26_0 := cz BK109.out 0); (have hcz26_1 := cz BK109.out 1); (have hcz26_2 := cz BK109.out 2); (have hcz26_3 := cz BK109.out 3); (have hcz26_4 := cz BK109.out 4); (have hcz26_5 := cz BK109.out 5); (have hcz26_6 := cz BK109.out 6); (have hfz26_0 := blk_frozen BK109.out 0); (have hfz26_1 := blk_frozen BK109.out 1); (have hfz26_2 := blk_frozen BK109.out 2); (have hfz26_3 := blk_frozen BK109.out 3); (have hfz26_4 := blk_frozen BK109.out 4); (have hfz26_5 := blk_frozen BK109.out 5); (have hfz26_6 := blk_frozen BK109.out 6); (go_wp2); (go_meet)
             case rel => exact ⟨_, (!t111), Q32, H', ⟨Q130⟩, ⟨rI HO_5⟩, ⟨rI HO_15⟩, ⟨kI BK109⟩, ⟨eI HB⟩⟩
            ·rw [if_neg c25] at H
             (have c25b0 : ((rd_T54 l0 x17_1).f5) = false := by simpa using c25); clear c25; (have H' := Aside0.mk H); clear H; (have hcz27_0 := cz BK109.out 0); (have hcz27_1 := cz BK109.out 1); (have hcz27_2 := cz BK109.out 2); (have hcz27_3 := cz BK109.out 3); (have hcz27_4 := cz BK109.out 4); (have hcz27_5 := cz BK109.out 5); (have hcz27_6 := cz BK109.out 6); (have hfz27_0 := blk_frozen BK109.out 0); (have hfz27_1 := blk_frozen BK109.out 1); (have hfz27_2 := blk_frozen BK109.out 2); (have hfz27_3 := blk_frozen BK109.out 3); (have hfz27_4 := blk_frozen BK109.out 4); (have hfz27_5 := blk_frozen BK109.out 5); (have hfz27_6 := blk_frozen BK109.out 6); (go_wp2); (go_meet)
             case rel => exact Q131
           ·replace c24 := Bool.eq_false_iff.mpr c24
            subst c24; (rw [if_neg (show ¬ (false = true) by decide)] at H); (have H' := Aside0.mk H); clear H; (go_wp2); (go_meet)
            case rel => exact Q131
          case rest =>
           clear HC22; (try clear c1); (try clear p1); (try clear q1); (try clear hx1); (try clear c2); (try clear p2); (try clear q2); (try clear c3); (try clear c4); (try clear c5); (try clear p6); (try clear c8); (try clear c8b0); (try clear c9); (try clear c9b0); (try clear c10); (try clear c10b0); (try clear p10); (try clear q10); (try clear hx10); (try clear c11); (try clear c11b0); (try clear q17); (try clear c18); (try clear c19); (try clear c20); (try clear q23); (try clear c24); (try clear c24b0); (try clear c25); (try clear c25b0); (try clear hcz15_0); (try clear hcz15_1); (try clear hcz15_2); (try clear hcz15_3); (try clear hcz15_4); (try clear hcz15_5); (try clear hcz15_6); (try clear hcz26_0); (try clear hcz26_1); (try clear hcz26_2); (try clear hcz26_3); (try clear hcz26_4); (try clear hcz26_5); (try clear hcz26_6); (try clear hcz27_0); (try clear hcz27_1); (try clear hcz27_2); (try clear hcz27_3); (try clear hcz27_4); (try clear hcz27_5); (try clear hcz27_6); (try clear hfz15_0); (try clear hfz15_1); (try clear hfz15_2); (try clear hfz15_3); (try clear hfz15_4); (try clear hfz15_5); (try clear hfz15_6); (try clear hfz26_0); (try clear hfz26_1); (try clear hfz26_2); (try clear hfz26_3); (try clear hfz26_4); (try clear hfz26_5); (try clear hfz26_6); (try clear hfz27_0); (try clear hfz27_1); (try clear hfz27_2); (try clear hfz27_3); (try clear hfz27_4); (try clear hfz27_5); (try clear hfz27_6); (try clear hx107_0); (try clear hx108_0); (try clear hx108_1); (try clear hx108_2); (try clear hx108_3); (try clear hx108_4); (try clear hx108_5); (try clear hx108_6); (try clear p1); (try clear p10); (try clear p107); (try clear p108); (try clear p2); (try clear q1); (try clear q10); (try clear q107); (try clear q108); (try clear q17); (obtain ⟨kq, x39_21, rfl, HA, HJ21, HO_5, HO_15, BK109, HB⟩ := hcut)
           cases kq with
           | zero => exact absurd HA.out (by simp [impl_states.j2])
           | succ kj21 =>
            (have H := HA.out); clear HA; (simp only [impl_states.j2] at H); (by_cases c28 : x39_21 = true)
            ·subst c28
             (rw [if_pos rfl] at H); (by_cases c29 : x5_1.length < 17592186044416)
             ·rw [if_pos c29] at H
              (have LMc29 := Aside0.mk c29); clear c29; (obtain ⟨y115, hy115⟩ : ∃ y_ : List Int, y_ = (x5_1 ++ [1]) := ⟨_, rfl⟩); (replace H : (impl_states.l0 kj21 l0 l1 y115 t104 (t104.length : Int) (wrap64 (x17_1 + 1))) = some r := by first | (rw [hy115]; with_reducible exact H) | (have H2_ := (Option.bind_some _ _).symm.trans H; rw [hy115]; with_reducible exact H2_) | (have H2_ := (Option.bind_some _ _).symm.trans H; with_reducible exact H2_) | with_reducible exact H | (rw [hy115]; exact H) | exact H); (have Ny115 := Aside0.mk hy115); clear hy115; (have H' := Aside0.mk H); clear H; (go_wp2_with (first | ((with_reducible refine gate_builtin (b := .append) (xs := #[.tmp 60, .tmp 62]) rfl ?_); at_builtin; refine Kd.R_append (Kd.int .i64) (w0 := w) w.heap.size rfl (.tmp 60) (.tmp 62) 36 3 (.int .i64 0) 8 rfl Tryd.underlying36 info3 rfl (by decide) (by omega) u5 x5_1 1 [.int .i64 1] (fun _ => True) (fun _ => False) rfl rfl ?aP (fun _ hk => hk.elim) ?aF ?aO ?aB ?aS ?aL ?_; (case aP => exact rfl); (case aB => exact (eI HB)); (case aF => exact Q75); (case aO => exact (rI HO_5)); (case aS => exact Q129); (case aL => have := LMc29.out; omega); intro v116 w30 ho hb hg hat; rw [← Ny115.out] at ho; have n0_ := Aside0.mk (Kd.R_over' (rI HO_15) (Kd.R_typed (rI HO_5)) (by decide) hg); have n1_ := Aside0.mk (blk_grown (kI BK109) hg (Kd.R_ne HO_5.out BK109.out (by decide))); have n2_ := Aside0.mk (hb); have n3_ := Aside0.mk (ho); clear HO_15 BK109 HB HO_5; have HO_15 := n0_; have BK109 := n1_; have HB := n2_; have HO117 := n3_; clear n0_ n1_ n2_ n3_ ho hb hg hat))); go_roundg kj21
              case measure => have := HK1.out; have := HJ12.out; have := HJ21.out; omega
              case rel => exact ⟨(y115), (wrap64 (x17_1 + 1)), Q32, H', ⟨Q132⟩, ⟨rI HO117⟩, ⟨rI HO_15⟩, ⟨eI HB⟩⟩
             ·rw [if_neg c29] at H
              exact Q1
            ·replace c28 := Bool.eq_false_iff.mpr c28
             subst c28; (rw [if_neg (show ¬ (false = true) by decide)] at H); (replace H : (if (bz107) = true then (if t111 = true then ((impl_Field_isValue.f kj21 ((rd_T54 l0 x17_1).f0) ((rd_T54 l0 x17_1).f1) ((rd_T54 l0 x17_1).f2) ((rd_T54 l0 x17_1).f3) ((rd_T54 l0 x17_1).f4) ((rd_T54 l0 x17_1).f5) ((rd_T54 l0 x17_1).f6) t110).bind fun t118 => (if t118 = true then (if x5_1.length < 17592186044416 then (impl_states.l0 kj21 l0 l1 (x5_1 ++ [0]) t104 (t104.length : Int) (wrap64 (x17_1 + 1))) else (none)) else (if x5_1.length < 17592186044416 then (impl_states.l0 kj21 l0 l1 (x5_1 ++ [2]) t104 (t104.length : Int) (wrap64 (x17_1 + 1))) else (none)))) else (if x5_1.length < 17592186044416 then (impl_states.l0 kj21 l0 l1 (x5_1 ++ [0]) t104 (t104.length : Int) (wrap64 (x17_1 + 1))) else (none))) else (if x5_1.length < 17592186044416 then (impl_states.l0 kj21 l0 l1 (x5_1 ++ [0]) t104 (t104.length : Int) (wrap64 (x17_1 + 1))) else (none))) = some r := H); (by_cases c32 : (bz107) = true)
             ·subst c32
              (rw [if_pos rfl] at H); (by_cases c33 : t111 = true)
              ·subst c33
               (rw [if_pos rfl] at H); (replace H := obS H); (obtain ⟨t118, A34, H⟩ := H); (by_cases c35 : t118 = true)
               ·subst c35
                (rw [if_pos rfl] at H); (by_cases c36 : x5_1.length < 17592186044416)
                ·rw [if_pos c36] at H
                 (have LMc36 := Aside0.mk c36); clear c36; (obtain ⟨y119, hy119⟩ : ∃ y_ : List Int, y_ = (x5_1 ++ [0]) := ⟨_, rfl⟩); (replace H : (impl_states.l0 kj21 l0 l1 y119 t104 (t104.length : Int) (wrap64 (x17_1 + 1))) = some r := by first | (rw [hy119]; with_reducible exact H) | (have H2_ := (Option.bind_some _ _).symm.trans H; rw [hy119]; with_reducible exact H2_) | (have H2_ := (Option.bind_some _ _).symm.trans H; with_reducible exact H2_) | with_reducible exact H | (rw [hy119]; exact H) | exact H); (have Ny119 := Aside0.mk hy119); clear hy119; (have H' := Aside0.mk H); clear H; (have hcz37_0 := cz BK109.out 0); (have hcz37_1 := cz BK109.out 1); (have hcz37_2 := cz BK109.out 2); (have hcz37_3 := cz BK109.out 3); (have hcz37_4 := cz BK109.out 4); (have hcz37_5 := cz BK109.out 5); (have hcz37_6 := cz BK109.out 6); (have hfz37_0 := blk_frozen BK109.out 0); (have hfz37_1 := blk_frozen BK109.out 1); (have hfz37_2 := blk_frozen BK109.out 2); (have hfz37_3 := blk_frozen BK109.out 3); (have hfz37_4 := blk_frozen BK109.out 4); (have hfz37_5 := blk_frozen BK109.out 5); (have hfz37_6 := blk_frozen BK109.out 6); (go_wp2_with (first | (go_at_call 62; (with_reducible refine (impl_Field_isValue.calls kj21 ((rd_T54 l0 x17_1).f0) ((rd_T54 l0 x17_1).f1) ((rd_T54 l0 x17_1).f2) ((rd_T54 l0 x17_1).f3) _ _ ((rd_T54 l0 x17_1).f4) ((rd_T54 l0 x17_1).f5) ((rd_T54 l0 x17_1).f6) t110 true _ ?side1 ?side2 ?side3 A34.out).mono ?_); (case side1 => exact Kd.C_below HR108_4.out (eI HB)); (case side2 => exact HC108_4.out); (case side3 => first | exact Q126 | (repeat (first | exact HG.out | (with_reducible first | apply GE.drewN | apply GE.drew | apply GE.alloc)))); rintro e w38 ⟨rfl, hb⟩; have n0_ := Aside0.mk (rbI hb HO_5); have n1_ := Aside0.mk (rbI hb HO_15); have n2_ := Aside0.mk (kbI hb BK109); have n3_ := Aside0.mk (sI hb HB); clear HO_5 HO_15 BK109 HB; have HO_5 := n0_; have HO_15 := n1_; have BK109 := n2_; have HB := n3_; clear n0_ n1_ n2_ n3_; (try clear hb); (try clear hb2); (try clear hk); (try clear hi)) | ((with_reducible refine gate_builtin (b := .append) (xs := #[.tmp 60, .tmp 62]) rfl ?_); at_builtin; refine Kd.R_append (Kd.int .i64) (w0 := w) w.heap.size rfl (.tmp 60) (.tmp 62) 36 3 (.int .i64 0) 8 rfl Tryd.underlying36 info3 rfl (by decide) (by omega) u5 x5_1 0 [.int .i64 0] (fun _ => True) (fun _ => False) rfl rfl ?aP (fun _ hk => hk.elim) ?aF ?aO ?aB ?aS ?aL ?_; (case aP => exact rfl); (case aB => exact (eI HB)); (case aF => exact Q75); (case aO => exact (rI HO_5)); (case aS => exact Q129); (case aL => have := LMc36.out; omega); intro v120 w39 ho hb hg hat; rw [← Ny119.out] at ho; have n0_ := Aside0.mk (Kd.R_over' (rI HO_15) (Kd.R_typed (rI HO_5)) (by decide) hg); have n1_ := Aside0.mk (blk_grown (kI BK109) hg (Kd.R_ne HO_5.out BK109.out (by decide))); have n2_ := Aside0.mk (hb); have n3_ := Aside0.mk (ho); clear HO_15 BK109 HB HO_5; have HO_15 := n0_; have BK109 := n1_; have HB := n2_; have HO121 := n3_; clear n0_ n1_ n2_ n3_ ho hb hg hat))); go_roundg kj21
                 case measure => have := HK1.out; have := HJ12.out; have := HJ21.out; omega
                 case rel => exact ⟨(y119), (wrap64 (x17_1 + 1)), Q32, H', ⟨Q132⟩, ⟨rI HO121⟩, ⟨rI HO_15⟩, ⟨eI HB⟩⟩
                ·rw [if_neg c36] at H
                 exact Q1
               ·replace c35 := Bool.eq_false_iff.mpr c35
                subst c35; (rw [if_neg (show ¬ (false = true) by decide)] at H); (by_cases c40 : x5_1.length < 17592186044416)
                ·rw [if_pos c40] at H
                 (have LMc40 := Aside0.mk c40); clear c40; (obtain ⟨y122, hy122⟩ : ∃ y_ : List Int, y_ = (x5_1 ++ [2]) := ⟨_, rfl⟩); (replace H : (impl_states.l0 kj21 l0 l1 y122 t104 (t104.length : Int) (wrap64 (x17_1 + 1))) = some r := Q133); (have Ny122 := Aside0.mk hy122); clear hy122; (have H' := Aside0.mk H); clear H; (have hcz41_0 := cz BK109.out 0); (have hcz41_1 := cz BK109.out 1); (have hcz41_2 := cz BK109.out 2); (have hcz41_3 := cz BK109.out 3); (have hcz41_4 := cz BK109.out 4); (have hcz41_5 := cz BK109.out 5); (have hcz41_6 := cz BK109.out 6); (have hfz41_0 := blk_frozen BK109.out 0); (have hfz41_1 := blk_frozen BK109.out 1); (have hfz41_2 := blk_frozen BK109.out 2); (have hfz41_3 := blk_frozen BK109.out 3); (have hfz41_4 := blk_frozen BK109.out 4); (have hfz41_5 := blk_frozen BK109.out 5); (have hfz41_6 := blk_frozen BK109.out 6); (go_wp2_with (first | (go_at_call 62; (with_reducible refine (impl_Field_isValue.calls kj21 ((rd_T54 l0 x17_1).f0) ((rd_T54 l0 x17_1).f1) ((rd_T54 l0 x17_1).f2) ((rd_T54 l0 x17_1).f3) _ _ ((rd_T54 l0 x17_1).f4) ((rd_T54 l0 x17_1).f5) ((rd_T54 l0 x17_1).f6) t110 false _ ?side1 ?side2 ?side3 A34.out).mono ?_); (case side1 => exact Kd.C_below HR108_4.out (eI HB)); (case side2 => exact HC108_4.out); (case side3 => first | exact Q126 | (repeat (first | exact HG.out | (with_reducible first | apply GE.drewN | apply GE.drew | apply GE.alloc)))); rintro e w42 ⟨rfl, hb⟩; have n0_ := Aside0.mk (rbI hb HO_5); have n1_ := Aside0.mk (rbI hb HO_15); have n2_ := Aside0.mk (kbI hb BK109); have n3_ := Aside0.mk (sI hb HB); clear HO_5 HO_15 BK109 HB; have HO_5 := n0_; have HO_15 := n1_; have BK109 := n2_; have HB := n3_; clear n0_ n1_ n2_ n3_; (try clear hb); (try clear hb2); (try clear hk); (try clear hi)) | ((with_reducible refine gate_builtin (b := .append) (xs := #[.tmp 60, .tmp 62]) rfl ?_); at_builtin; refine Kd.R_append (Kd.int .i64) (w0 := w) w.heap.size rfl (.tmp 60) (.tmp 62) 36 3 (.int .i64 0) 8 rfl Tryd.underlying36 info3 rfl (by decide) (by omega) u5 x5_1 2 [.int .i64 2] (fun _ => True) (fun _ => False) rfl rfl ?aP (fun _ hk => hk.elim) ?aF ?aO ?aB ?aS ?aL ?_; (case aP => exact rfl); (case aB => exact (eI HB)); (case aF => exact Q75); (case aO => exact (rI HO_5)); (case aS => exact Q129); (case aL => have := LMc40.out; omega); intro v123 w43 ho hb hg hat; rw [← Ny122.out] at ho; have n0_ := Aside0.mk (Kd.R_over' (rI HO_15) (Kd.R_typed (rI HO_5)) (by decide) hg); have n1_ := Aside0.mk (blk_grown (kI BK109) hg (Kd.R_ne HO_5.out BK109.out (by decide))); have n2_ := Aside0.mk (hb); have n3_ := Aside0.mk (ho); clear HO_15 BK109 HB HO_5; have HO_15 := n0_; have BK109 := n1_; have HB := n2_; have HO124 := n3_; clear n0_ n1_ n2_ n3_ ho hb hg hat))); go_roundg kj21
                 case measure => have := HK1.out; have := HJ12.out; have := HJ21.out; omega
                 case rel => exact ⟨(y122), (wrap64 (x17_1 + 1)), Q32, H', ⟨Q132⟩, ⟨rI HO124⟩, ⟨rI HO_15⟩, ⟨eI HB⟩⟩
                ·rw [if_neg c40] at H
                 exact Q1
              ·replace c33 := Bool.eq_false_iff.mpr c33
               subst c33; (rw [if_neg (show ¬ (false = true) by decide)] at H); (by_cases c44 : x5_1.length < 17592186044416)
               ·rw [if_pos c44] at H
                (have LMc44 := Aside0.mk c44); clear c44; (obtain ⟨y125, hy125⟩ : ∃ y_ : List Int, y_ = (x5_1 ++ [0]) := ⟨_, rfl⟩); (replace H : (impl_states.l0 kj21 l0 l1 y125 t104 (t104.length : Int) (wrap64 (x17_1 + 1))) = some r := Q134); (have Ny125 := Aside0.mk hy125); clear hy125; (have H' := Aside0.mk H); clear H; (go_wp2_with (first | ((with_reducible refine gate_builtin (b := .append) (xs := #[.tmp 60, .tmp 62]) rfl ?_); at_builtin; refine Kd.R_append (Kd.int .i64) (w0 := w) w.heap.size rfl (.tmp 60) (.tmp 62) 36 3 (.int .i64 0) 8 rfl Tryd.underlying36 info3 rfl (by decide) (by omega) u5 x5_1 0 [.int .i64 0] (fun _ => True) (fun _ => False) rfl rfl ?aP (fun _ hk => hk.elim) ?aF ?aO ?aB ?aS ?aL ?_; (case aP => exact rfl); (case aB => exact (eI HB)); (case aF => exact Q75); (case aO => exact (rI HO_5)); (case aS => exact Q129); (case aL => have := LMc44.out; omega); intro v126 w45 ho hb hg hat; rw [← Ny125.out] at ho; have n0_ := Aside0.mk (Kd.R_over' (rI HO_15) (Kd.R_typed (rI HO_5)) (by decide) hg); have n1_ := Aside0.mk (blk_grown (kI BK109) hg (Kd.R_ne HO_5.out BK109.out (by decide))); have n2_ := Aside0.mk (hb); have n3_ := Aside0.mk (ho); clear HO_15 BK109 HB HO_5; have HO_15 := n0_; have BK109 := n1_; have HB := n2_; have HO127 := n3_; clear n0_ n1_ n2_ n3_ ho hb hg hat))); go_roundg kj21
                case measure => have := HK1.out; have := HJ12.out; have := HJ21.out; omega
                case rel => exact ⟨(y125), (wrap64 (x17_1 + 1)), Q32, H', ⟨Q132⟩, ⟨rI HO127⟩, ⟨rI HO_15⟩, ⟨eI HB⟩⟩
               ·rw [if_neg c44] at H
                exact Q1
             ·replace c32 := Bool.eq_false_iff.mpr c32
              subst c32; (rw [if_neg (show ¬ (false = true) by decide)] at H); (by_cases c46 : x5_1.length < 17592186044416)
              ·rw [if_pos c46] at H
               (have LMc46 := Aside0.mk c46); clear c46; (obtain ⟨y128, hy128⟩ : ∃ y_ : List Int, y_ = (x5_1 ++ [0]) := ⟨_, rfl⟩); (replace H : (impl_states.l0 kj21 l0 l1 y128 t104 (t104.length : Int) (wrap64 (x17_1 + 1))) = some r := Q77); (have Ny128 := Aside0.mk hy128); clear hy128; (have H' := Aside0.mk H); clear H; (go_wp2_with (first | ((with_reducible refine gate_builtin (b := .append) (xs := #[.tmp 60, .tmp 62]) rfl ?_); at_builtin; refine Kd.R_append (Kd.int .i64) (w0 := w) w.heap.size rfl (.tmp 60) (.tmp 62) 36 3 (.int .i64 0) 8 rfl Tryd.underlying36 info3 rfl (by decide) (by omega) u5 x5_1 0 [.int .i64 0] (fun _ => True) (fun _ => False) rfl rfl ?aP (fun _ hk => hk.elim) ?aF ?aO ?aB ?aS ?aL ?_; (case aP => exact rfl); (case aB => exact (eI HB)); (case aF => exact Q75); (case aO => exact (rI HO_5)); (case aS => exact Q129); (case aL => have := LMc46.out; omega); intro v129 w47 ho hb hg hat; rw [← Ny128.out] at ho; have n0_ := Aside0.mk (Kd.R_over' (rI HO_15) (Kd.R_typed (rI HO_5)) (by decide) hg); have n1_ := Aside0.mk (blk_grown (kI BK109) hg (Kd.R_ne HO_5.out BK109.out (by decide))); have n2_ := Aside0.mk (hb); have n3_ := Aside0.mk (ho); clear HO_15 BK109 HB HO_5; have HO_15 := n0_; have BK109 := n1_; have HB := n2_; have HO130 := n3_; clear n0_ n1_ n2_ n3_ ho hb hg hat))); go_roundg kj21
               case measure => have := HK1.out; have := HJ12.out; have := HJ21.out; omega
               case rel => exact ⟨(y128), (wrap64 (x17_1 + 1)), Q32, H', ⟨Q132⟩, ⟨rI HO130⟩, ⟨rI HO_15⟩, ⟨eI HB⟩⟩
              ·rw [if_neg c46] at H
               exact Q1
      ·rw [if_neg c11] at H
       exact Q1
     ·rw [if_neg c10] at H
      exact Q1
    ·rw [if_neg c9] at H
     exact Q1
   ·rw [if_neg c8] at H
    (have c8b0 := decide_eq_false c8); clear c8; (obtain rfl := Option.some.inj H); (go_wp2); go_ret; (exact Q124)
/-! ### impl_CheckAnswers: function 15 -/
def impl_CheckAnswers.f (k : Nat) (l0 : List (S54)) (l1 : List (S51)) : Option (List Int × Bool) := (impl_IsValidAnswers.f k l0 l1).bind fun t101 => (if t101 = true then ((impl_states.f k l0 l1).bind fun t102 => (some (t102, true))) else (some (([] : List Int), false)))
set_option maxHeartbeats 8000000 in
set_option maxRecDepth 100000 in
theorem impl_CheckAnswers.calls (k : Nat) (A0 : Option Addr) (c0 : Nat) (l0 : List (S54)) (A1 : Option Addr) (c1 : Nat) (l1 : List (S51)) (r1 : List Int) (r2 : Bool) (w : World) (hr0 : Kd.C k54 w A0 l0.length l0) (hc0 : l0.length ≤ c0) (hr1 : Kd.C k51 w A1 l1.length l1) (hc1 : l1.length ≤ c1) (hG : GE w) (h : impl_CheckAnswers.f k l0 l1 = some (r1, r2)) :
  Calls Tryd.prog 15 #[.slice A0 l0.length c0, .slice A1 l1.length c1] w fun e w' => ∃ v0_ : Value, e = .returned (.tuple #[v0_, .bool r2]) ∧ Kd.R (Kd.int .i64) 3 w' w.heap.size (fun _ => True) v0_ r1 ∧ Below w.heap.size w w' := by
 (have HR0 := Aside0.mk hr0); (have HC0 := Aside0.mk hc0); clear hr0 hc0; (have HR1 := Aside0.mk hr1); (have HC1 := Aside0.mk hc1); clear hr1 hc1; (have HG := Aside0.mk hG); clear hG; (have HB := Aside0.mk (Below.refl w.heap.size w)); (unfold impl_CheckAnswers.f at h); (have H := h); clear h; (replace H := obS H); (obtain ⟨t101, A3, H⟩ := H); (by_cases c4 : t101 = true)
 ·subst c4
  (rw [if_pos rfl] at H); (replace H := obS H); (obtain ⟨t102, A5, H⟩ := H); (simp only [Option.some.injEq, Prod.mk.injEq] at H); (obtain ⟨rfl, rfl⟩ := H); (go_enter Tryd.func15, Tryd.ntmps15); (go_wp2_with (first | ((with_reducible refine gate_callee (f := 24) rfl ?_); refine gL (some 8) Tryd.func24 #[.slice A0 l0.length c0, .slice A1 l1.length c1] ?_; (with_reducible refine (impl_IsValidAnswers.calls k _ _ l0 _ _ l1 true _ ?side1 ?side2 ?side3 ?side4 A3.out).mono ?_); (case side1 => exact cI HR0.out); (case side2 => exact HC0.out); (case side3 => exact cI HR1.out); (case side4 => exact HC1.out); rintro e w6 ⟨rfl, hb⟩; refine ⟨_, rfl, ?_⟩; have n0_ := Aside0.mk (sI hb HB); clear HB; have HB := n0_; clear n0_; (try clear hb); (try clear hb2); (try clear hk); (try clear hi)) | ((with_reducible refine gate_callee (f := 39) rfl ?_); refine gL (some 12) Tryd.func39 #[.slice A0 l0.length c0, .slice A1 l1.length c1] ?_; (with_reducible refine (impl_states.calls k _ _ l0 _ _ l1 t102 _ ?side1 ?side2 ?side3 ?side4 ?side5 A5.out).mono ?_); (case side1 => exact Q98); (case side2 => exact HC0.out); (case side3 => exact Q127); (case side4 => exact HC1.out); (case side5 => first | exact Q126 | (repeat (first | exact HG.out | (with_reducible first | apply GE.drewN | apply GE.drew | apply GE.alloc)))); rintro e w7 ⟨v103, rfl, ho0, hb⟩; refine ⟨_, rfl, ?_⟩; have n0_ := Aside0.mk (Kd.R_lower ho0 (below_size (eI HB))); have n1_ := Aside0.mk (sI hb HB); clear HB; have HO104 := n0_; have HB := n1_; clear n0_ n1_; (try clear hb); (try clear hb2); (try clear hk); (try clear hi); (try clear ho0)))); (go_ret2); (exact Q135)
 ·replace c4 := Bool.eq_false_iff.mpr c4
  subst c4; (rw [if_neg (show ¬ (false = true) by decide)] at H); (simp only [Option.some.injEq, Prod.mk.injEq] at H); (obtain ⟨rfl, rfl⟩ := H); (go_enter Tryd.func15, Tryd.ntmps15); (go_wp2_with (first | ((with_reducible refine gate_callee (f := 24) rfl ?_); refine gL (some 8) Tryd.func24 #[.slice A0 l0.length c0, .slice A1 l1.length c1] ?_; (with_reducible refine (impl_IsValidAnswers.calls k _ _ l0 _ _ l1 false _ ?side1 ?side2 ?side3 ?side4 A3.out).mono ?_); (case side1 => exact cI HR0.out); (case side2 => exact HC0.out); (case side3 => exact cI HR1.out); (case side4 => exact HC1.out); rintro e w8 ⟨rfl, hb⟩; refine ⟨_, rfl, ?_⟩; have n0_ := Aside0.mk (sI hb HB); clear HB; have HB := n0_; clear n0_; (try clear hb); (try clear hb2); (try clear hk); (try clear hi)))); (go_ret2); (exact Q136)
/-! ### spec_l23Find: function 63 -/
def spec_l23Find.l0 : Nat → List (S54) → ByteArray → Int → Option (Int)
 | 0, _, _, _ => none
 | k + 1, x0, x1, x5 => if x5 < (x0.length : Int) then (if 0 ≤ x5 then (if ((rd_T54 x0 x5).f0).toList = x1.toList then (some x5) else (spec_l23Find.l0 k x0 x1 (wrap64 (x5 + 1)))) else (none)) else (some (-1))
def spec_l23Find.f (k : Nat) (l0 : List (S54)) (a1 : ByteArray) : Option (Int) := spec_l23Find.l0 k l0 a1 0
set_option maxHeartbeats 8000000 in
set_option maxRecDepth 100000 in
theorem spec_l23Find.calls (k : Nat) (A0 : Option Addr) (c0 : Nat) (l0 : List (S54)) (a1 : ByteArray) (r : Int) (w : World) (hr0 : Kd.C k54 w A0 l0.length l0) (hc0 : l0.length ≤ c0) (h : spec_l23Find.f k l0 a1 = some r) :
  Calls Tryd.prog 63 #[.slice A0 l0.length c0, .string a1] w fun e w' => e = .returned (.int .i64 r) ∧ Drawn0 w w' := by
 (have HR0 := Aside0.mk hr0); (have HC0 := Aside0.mk hc0); clear hr0 hc0; (unfold spec_l23Find.f at h); (have H := h); clear h; (have H' := Aside0.mk H); clear H; (go_enter Tryd.func63, Tryd.ntmps63); (go_wp2); (go_loopg [5] k (fun kq v5 w' => ∃ (x5_1 : Int), v5 = .int .i64 x5_1 ∧ Aside0 (spec_l23Find.l0 kq l0 a1 x5_1 = some r) ∧ Aside0 (kq ≤ k) ∧ Drawn0 w w'))
 case atStart => exact Q94
 case round =>
  (clear H'); (try clear p2); (obtain ⟨x5_1, rfl, HA, HK1, ⟨m1, rfl⟩⟩ := hrel)
  cases gk with
  | zero => exact absurd HA.out (by simp [spec_l23Find.l0])
  | succ k1 =>
   (have H := HA.out); clear HA; (simp only [spec_l23Find.l0] at H); (by_cases c3 : x5_1 < (l0.length : Int))
   ·rw [if_pos c3] at H
    (have c3b0 := decide_eq_true c3); clear c3; (by_cases c4 : 0 ≤ x5_1)
    ·rw [if_pos c4] at H
     (have c4b0 := decide_eq_true c4); clear c4; (by_cases c5 : ((rd_T54 l0 x5_1).f0).toList = a1.toList)
     ·rw [if_pos c5] at H
      (have c5b0 : (((rd_T54 l0 x5_1).f0).toList == a1.toList) = true := beq_iff_eq.mpr c5); (have c5b1 : (((rd_T54 l0 x5_1).f0).toList != a1.toList) = false := bne_eq_false_iff_eq.mpr c5); clear c5; (obtain rfl := Option.some.inj H); (have p101 : 0 ≤ (x5_1 : Int) := odt); (have q101 : x5_1 < (l0.length : Int) := odt); (obtain ⟨ad101, A101_4, c101_4, e101, hx101_0, hx101_1, hx101_2, hx101_3, hx101_4, hx101_5, hx101_6, hl101_4, hi101_4⟩ := at_T54 HR0.out x5_1 p101 q101); (cases e101); (have HR101_4 := Aside0.mk hi101_4); (have HC101_4 := Aside0.mk hl101_4); clear hi101_4 hl101_4; (replace p101 := eq_true p101); (replace q101 := eq_true q101); (go_wp2); go_ret; (exact Q95)
     ·rw [if_neg c5] at H
      (have c5b0 : (((rd_T54 l0 x5_1).f0).toList == a1.toList) = false := beq_eq_false_iff_ne.mpr c5); (have c5b1 : (((rd_T54 l0 x5_1).f0).toList != a1.toList) = true := bne_iff_ne.mpr c5); (have H' := Aside0.mk H); clear H; (have p101 : 0 ≤ (x5_1 : Int) := odt); (have q101 : x5_1 < (l0.length : Int) := odt); (obtain ⟨ad101, A101_4, c101_4, e101, hx101_0, hx101_1, hx101_2, hx101_3, hx101_4, hx101_5, hx101_6, hl101_4, hi101_4⟩ := at_T54 HR0.out x5_1 p101 q101); (cases e101); (have HR101_4 := Aside0.mk hi101_4); (have HC101_4 := Aside0.mk hl101_4); clear hi101_4 hl101_4; (replace p101 := eq_true p101); (replace q101 := eq_true q101); (go_wp2); go_roundg k1
      case measure => have := HK1.out; omega
      case rel => exact Q137
    ·rw [if_neg c4] at H
     exact Q1
   ·rw [if_neg c3] at H
    (have c3b0 := decide_eq_false c3); clear c3; (obtain rfl := Option.some.inj H); (go_wp2); go_ret; (exact Q95)
/-! ### spec_l1In: function 82 -/
def spec_l1In.f (a0 : Int) (a1 : Int) (a2 : Int) : Option (Bool) := if a0 ≥ a1 then (some (decide (a0 ≤ a2))) else (some false)
set_option maxHeartbeats 8000000 in
set_option maxRecDepth 100000 in
theorem spec_l1In.calls (a0 : Int) (a1 : Int) (a2 : Int) (r : Bool) (w : World) (h : spec_l1In.f a0 a1 a2 = some r) :
  Calls Tryd.prog 82 #[.int .i64 a0, .int .i64 a1, .int .i64 a2] w fun e w' => e = .returned (.bool r) ∧ Drawn0 w w' := by
 (unfold spec_l1In.f at h); (have H := h); clear h; (by_cases c4 : a0 ≥ a1); (· (rw [if_pos c4] at H); (have c4b0 : decide (a1 ≤ a0) = true := decide_eq_true c4); clear c4; (obtain rfl := Option.some.inj H); (go_enter Tryd.func82, Tryd.ntmps82); (go_wp2); go_ret; (exact Q95)); (· (rw [if_neg c4] at H); (have c4b0 : decide (a1 ≤ a0) = false := decide_eq_false c4); clear c4; (obtain rfl := Option.some.inj H); (go_enter Tryd.func82, Tryd.ntmps82); (go_wp2); go_ret; (exact Q95))
/-! ### spec_l7Name: function 81 -/
mutual
def spec_l7Name.j0 : Nat → ByteArray → Bool → Option (Bool)
 | 0, _, _ => none
 | k + 1, x0, x17 => if x17 = true then (some false) else (spec_l7Name.l0 k x0 0)
def spec_l7Name.l0 : Nat → ByteArray → Int → Option (Bool)
 | 0, _, _ => none
 | k + 1, x0, x3 => if x3 < (x0.size : Int) then (if 0 ≤ x3 then (if (bt x0 x3) < 97 then (if (bt x0 x3) < 48 then (some false) else (if (bt x0 x3) > 57 then (some false) else (spec_l7Name.l0 k x0 (wrap64 (x3 + 1))))) else (if (bt x0 x3) > 122 then (if (bt x0 x3) < 48 then (some false) else (if (bt x0 x3) > 57 then (some false) else (spec_l7Name.l0 k x0 (wrap64 (x3 + 1))))) else (spec_l7Name.l0 k x0 (wrap64 (x3 + 1))))) else (none)) else (some true)
end
def spec_l7Name.f (k : Nat) (a0 : ByteArray) : Option (Bool) := (spec_l1In.f (a0.size : Int) 1 8).bind fun t101 => (if t101 = true then (if 0 < (a0.size : Int) then (if (bt a0 0) < 97 then (spec_l7Name.j0 k a0 true) else (spec_l7Name.j0 k a0 (decide ((bt a0 0) > 122)))) else (none)) else (spec_l7Name.j0 k a0 true))
set_option maxHeartbeats 8000000 in
set_option maxRecDepth 100000 in
theorem spec_l7Name.calls (k : Nat) (a0 : ByteArray) (r : Bool) (w : World) (h : spec_l7Name.f k a0 = some r) :
  Calls Tryd.prog 81 #[.string a0] w fun e w' => e = .returned (.bool r) ∧ Drawn0 w w' := by
 (unfold spec_l7Name.f at h); (have H := h); clear h; (have HC2 := Aside0.mk H); clear H; (go_enter Tryd.func81, Tryd.ntmps81); (go_upto_region 1 with (fail)); (go_cut [17] (fun v17 wc => ∃ (kq : Nat) (x17_1 : Bool), v17 = .bool x17_1 ∧ Aside0 (spec_l7Name.j0 kq a0 x17_1 = some r) ∧ Aside0 (kq ≤ k) ∧ Drawn0 w wc))
 case first =>
  (have H := HC2.out); clear HC2; (replace H := obS H); (obtain ⟨t101, A3, H⟩ := H); (by_cases c4 : t101 = true)
  ·subst c4
   (rw [if_pos rfl] at H); (by_cases c5 : 0 < (a0.size : Int))
   ·rw [if_pos c5] at H
    (have c5b0 := decide_eq_true c5); (have c5b1 : decide (0 < a0.size) = true := decide_eq_true (by omega)); clear c5; ((first | rw [c5b0] | (simp only [i64_w, i32_w]; rw [c5b0]) | skip)); (by_cases c7 : (bt a0 0) < 97)
    ·rw [if_pos c7] at H
     (have c7b0 := decide_eq_true c7); clear c7; (have H' := Aside0.mk H); clear H; (go_wp2_with (first | ((with_reducible refine gate_callee (f := 82) rfl ?_); refine gL (some 6) Tryd.func82 #[.int .i64 (a0.size : Int), .int .i64 1, .int .i64 8] ?_; (with_reducible refine (spec_l1In.calls (a0.size : Int) 1 8 true _ A3.out).mono ?_); rintro e w' ⟨rfl, ⟨nd, rfl⟩⟩; refine ⟨_, rfl, ?_⟩; have p6 : 0 ≤ (0 : Int) := (by omega); have q6 : 0 < a0.size := Q138; have hx6 : ∀ h : 0 < a0.size, ((a0[0]'h).toNat : Int) = bt a0 0 := bt_at a0 0; clear p6; have qi6 : (0 < (a0.size : Int)) = True := eq_true odt; replace q6 := eq_true q6))); (go_meet)
     case rel => exact Q139
    ·rw [if_neg c7] at H
     (have c7b0 := decide_eq_false c7); clear c7; (have H' := Aside0.mk H); clear H; (go_wp2_with (first | ((with_reducible refine gate_callee (f := 82) rfl ?_); refine gL (some 6) Tryd.func82 #[.int .i64 (a0.size : Int), .int .i64 1, .int .i64 8] ?_; (with_reducible refine (spec_l1In.calls (a0.size : Int) 1 8 true _ A3.out).mono ?_); rintro e w' ⟨rfl, ⟨nd, rfl⟩⟩; refine ⟨_, rfl, ?_⟩; have p6 : 0 ≤ (0 : Int) := (by omega); have q6 : 0 < a0.size := Q138; have hx6 : ∀ h : 0 < a0.size, ((a0[0]'h).toNat : Int) = bt a0 0 := bt_at a0 0; clear p6; have qi6 : (0 < (a0.size : Int)) = True := eq_true odt; replace q6 := eq_true q6; have p8 : 0 ≤ (0 : Int) := (by omega); have q8 : 0 < a0.size := Q138; have hx8 : ∀ h : 0 < a0.size, ((a0[0]'h).toNat : Int) = bt a0 0 := bt_at a0 0; clear p8; have qi8 : (0 < (a0.size : Int)) = True := eq_true odt; replace q8 := eq_true q8))); (go_meet)
     case rel => exact ⟨_, (decide ((bt a0 0) > 122)), Q32, H', ⟨Q99⟩, Q140⟩
   ·rw [if_neg c5] at H
    exact Q1
  ·replace c4 := Bool.eq_false_iff.mpr c4
   subst c4; (rw [if_neg (show ¬ (false = true) by decide)] at H); (have H' := Aside0.mk H); clear H; (go_wp2_with (first | ((with_reducible refine gate_callee (f := 82) rfl ?_); refine gL (some 6) Tryd.func82 #[.int .i64 (a0.size : Int), .int .i64 1, .int .i64 8] ?_; (with_reducible refine (spec_l1In.calls (a0.size : Int) 1 8 false _ A3.out).mono ?_); rintro e w' ⟨rfl, ⟨nd, rfl⟩⟩; refine ⟨_, rfl, ?_⟩))); (go_meet)
   case rel => exact Q139
 case rest =>
  clear HC2; (try clear p2); (try clear c4); (try clear c5); (try clear c5b0); (try clear c5b1); (try clear p6); (try clear q6); (try clear hx6); (try clear qi6); (try clear c7); (try clear c7b0); (try clear c8); (try clear p8); (try clear q8); (try clear hx8); (try clear qi8); (try clear p6); (try clear p8); (try clear q6); (try clear q8); (obtain ⟨kq, x17_1, rfl, HA, HJ1, ⟨mc1, rfl⟩⟩ := hcut)
  cases kq with
  | zero => exact absurd HA.out (by simp [spec_l7Name.j0])
  | succ kj1 =>
   (have H := HA.out); clear HA; (simp only [spec_l7Name.j0] at H); (by_cases c9 : x17_1 = true); (· subst c9; (rw [if_pos rfl] at H); (obtain rfl := Option.some.inj H); (go_wp2); go_ret; (exact Q95))
   ·replace c9 := Bool.eq_false_iff.mpr c9
    subst c9; (rw [if_neg (show ¬ (false = true) by decide)] at H); (have H' := Aside0.mk H); clear H; (go_wp2); (go_loopg [3] kj1 (fun kq v3 w' => ∃ (x3_2 : Int), v3 = .int .i64 x3_2 ∧ Aside0 (spec_l7Name.l0 kq a0 x3_2 = some r) ∧ Aside0 (kq ≤ kj1) ∧ Drawn0 w w'))
    case atStart => exact Q94
    case round =>
     (clear H'); (try clear c1); (try clear p2); (try clear c4); (try clear c5); (try clear c5b0); (try clear c5b1); (try clear p6); (try clear q6); (try clear hx6); (try clear qi6); (try clear c7); (try clear c7b0); (try clear c8); (try clear p8); (try clear q8); (try clear hx8); (try clear qi8); (try clear c9); (try clear p2); (try clear p6); (try clear p8); (try clear q6); (try clear q8); (obtain ⟨x3_2, rfl, HA, HK2, ⟨m2, rfl⟩⟩ := hrel)
     cases gk with
     | zero => exact absurd HA.out (by simp [spec_l7Name.l0])
     | succ k2 =>
      (have H := HA.out); clear HA; (simp only [spec_l7Name.l0] at H); (by_cases c10 : x3_2 < (a0.size : Int))
      ·rw [if_pos c10] at H
       (have c10b0 := decide_eq_true c10); clear c10; (by_cases c11 : 0 ≤ x3_2)
       ·rw [if_pos c11] at H
        (have c11b0 := decide_eq_true c11); clear c11; (by_cases c13 : (bt a0 x3_2) < 97)
        ·rw [if_pos c13] at H
         (have c13b0 := decide_eq_true c13); clear c13; (by_cases c15 : (bt a0 x3_2) < 48)
         ·rw [if_pos c15] at H
          (have c15b0 := decide_eq_true c15); clear c15; (obtain rfl := Option.some.inj H); (have p12 : 0 ≤ (x3_2 : Int) := odt); (have q12 : x3_2 < (a0.size : Int) := odt); (have hx12 := bt_at a0 x3_2); (replace p12 := eq_true p12); (replace q12 := eq_true q12); (have p14 : 0 ≤ (x3_2 : Int) := odt); (have q14 : x3_2 < (a0.size : Int) := odt); (have hx14 := bt_at a0 x3_2); (replace p14 := eq_true p14); (replace q14 := eq_true q14); (go_wp2); go_ret; (exact Q95)
         ·rw [if_neg c15] at H
          (have c15b0 := decide_eq_false c15); clear c15; (by_cases c17 : (bt a0 x3_2) > 57)
          ·rw [if_pos c17] at H
           (have c17b0 : decide (57 < (bt a0 x3_2)) = true := decide_eq_true c17); clear c17; (obtain rfl := Option.some.inj H); (have p12 : 0 ≤ (x3_2 : Int) := odt); (have q12 : x3_2 < (a0.size : Int) := odt); (have hx12 := bt_at a0 x3_2); (replace p12 := eq_true p12); (replace q12 := eq_true q12); (have p14 : 0 ≤ (x3_2 : Int) := odt); (have q14 : x3_2 < (a0.size : Int) := odt); (have hx14 := bt_at a0 x3_2); (replace p14 := eq_true p14); (replace q14 := eq_true q14); (have p16 : 0 ≤ (x3_2 : Int) := odt); (have q16 : x3_2 < (a0.size : Int) := odt); (have hx16 := bt_at a0 x3_2); (replace p16 := eq_true p16); (replace q16 := eq_true q16); (go_wp2); go_ret; (exact Q95)
          ·rw [if_neg c17] at H
           (have c17b0 : decide (57 < (bt a0 x3_2)) = false := decide_eq_false c17); clear c17; (have H' := Aside0.mk H); clear H; (have p12 : 0 ≤ (x3_2 : Int) := odt); (have q12 : x3_2 < (a0.size : Int) := odt); (have hx12 := bt_at a0 x3_2); (replace p12 := eq_true p12); (replace q12 := eq_true q12); (have p14 : 0 ≤ (x3_2 : Int) := odt); (have q14 : x3_2 < (a0.size : Int) := odt); (have hx14 := bt_at a0 x3_2); (replace p14 := eq_true p14); (replace q14 := eq_true q14); (have p16 : 0 ≤ (x3_2 : Int) := odt); (have q16 : x3_2 < (a0.size : Int) := odt); (have hx16 := bt_at a0 x3_2); (replace p16 := eq_true p16); (replace q16 := eq_true q16); (go_wp2); go_roundg k2
           case measure => have := HJ1.out; have := HK2.out; omega
           case rel => exact Q141
        ·rw [if_neg c13] at H
         (have c13b0 := decide_eq_false c13); clear c13; (by_cases c19 : (bt a0 x3_2) > 122)
         ·rw [if_pos c19] at H
          (have c19b0 : decide (122 < (bt a0 x3_2)) = true := decide_eq_true c19); clear c19; (by_cases c21 : (bt a0 x3_2) < 48)
          ·rw [if_pos c21] at H
           (have c21b0 := decide_eq_true c21); clear c21; (obtain rfl := Option.some.inj H); (have p12 : 0 ≤ (x3_2 : Int) := odt); (have q12 : x3_2 < (a0.size : Int) := odt); (have hx12 := bt_at a0 x3_2); (replace p12 := eq_true p12); (replace q12 := eq_true q12); (have p18 : 0 ≤ (x3_2 : Int) := odt); (have q18 : x3_2 < (a0.size : Int) := odt); (have hx18 := bt_at a0 x3_2); (replace p18 := eq_true p18); (replace q18 := eq_true q18); (have p20 : 0 ≤ (x3_2 : Int) := odt); (have q20 : x3_2 < (a0.size : Int) := odt); (have hx20 := bt_at a0 x3_2); (replace p20 := eq_true p20); (replace q20 := eq_true q20); (go_wp2); go_ret; (exact Q95)
          ·rw [if_neg c21] at H
           (have c21b0 := decide_eq_false c21); clear c21; (by_cases c23 : (bt a0 x3_2) > 57)
           ·rw [if_pos c23] at H
            (have c23b0 : decide (57 < (bt a0 x3_2)) = true := decide_eq_true c23); clear c23; (obtain rfl := Option.some.inj H); (have p12 : 0 ≤ (x3_2 : Int) := odt); (have q12 : x3_2 < (a0.size : Int) := odt); (have hx12 := bt_at a0 x3_2); (replace p12 := eq_true p12); (replace q12 := eq_true q12); (have p18 : 0 ≤ (x3_2 : Int) := odt); (have q18 : x3_2 < (a0.size : Int) := odt); (have hx18 := bt_at a0 x3_2); (replace p18 := eq_true p18); (replace q18 := eq_true q18); (have p20 : 0 ≤ (x3_2 : Int) := odt); (have q20 : x3_2 < (a0.size : Int) := odt); (have hx20 := bt_at a0 x3_2); (replace p20 := eq_true p20); (replace q20 := eq_true q20); (have p22 : 0 ≤ (x3_2 : Int) := odt); (have q22 : x3_2 < (a0.size : Int) := odt); (have hx22 := bt_at a0 x3_2); (replace p22 := eq_true p22); (replace q22 := eq_true q22); (go_wp2); go_ret; (exact Q95)
           ·rw [if_neg c23] at H
            (have c23b0 : decide (57 < (bt a0 x3_2)) = false := decide_eq_false c23); clear c23; (have H' := Aside0.mk H); clear H; (have p12 : 0 ≤ (x3_2 : Int) := odt); (have q12 : x3_2 < (a0.size : Int) := odt); (have hx12 := bt_at a0 x3_2); (replace p12 := eq_true p12); (replace q12 := eq_true q12); (have p18 : 0 ≤ (x3_2 : Int) := odt); (have q18 : x3_2 < (a0.size : Int) := odt); (have hx18 := bt_at a0 x3_2); (replace p18 := eq_true p18); (replace q18 := eq_true q18); (have p20 : 0 ≤ (x3_2 : Int) := odt); (have q20 : x3_2 < (a0.size : Int) := odt); (have hx20 := bt_at a0 x3_2); (replace p20 := eq_true p20); (replace q20 := eq_true q20); (have p22 : 0 ≤ (x3_2 : Int) := odt); (have q22 : x3_2 < (a0.size : Int) := odt); (have hx22 := bt_at a0 x3_2); (replace p22 := eq_true p22); (replace q22 := eq_true q22); (go_wp2); go_roundg k2
            case measure => have := HJ1.out; have := HK2.out; omega
            case rel => exact Q141
         ·rw [if_neg c19] at H
          (have c19b0 : decide (122 < (bt a0 x3_2)) = false := decide_eq_false c19); clear c19; (have H' := Aside0.mk H); clear H; (have p12 : 0 ≤ (x3_2 : Int) := odt); (have q12 : x3_2 < (a0.size : Int) := odt); (have hx12 := bt_at a0 x3_2); (replace p12 := eq_true p12); (replace q12 := eq_true q12); (have p18 : 0 ≤ (x3_2 : Int) := odt); (have q18 : x3_2 < (a0.size : Int) := odt); (have hx18 := bt_at a0 x3_2); (replace p18 := eq_true p18); (replace q18 := eq_true q18); (go_wp2); go_roundg k2
          case measure => have := HJ1.out; have := HK2.out; omega
          case rel => exact Q141
       ·rw [if_neg c11] at H
        exact Q1
      ·rw [if_neg c10] at H
       (have c10b0 := decide_eq_false c10); clear c10; (obtain rfl := Option.some.inj H); (go_wp2); go_ret; (exact Q95)
/-! ### spec_l23Names: function 83 -/
mutual
def spec_l23Names.l0 : Nat → List ByteArray → Int → Option (Bool)
 | 0, _, _ => none
 | k + 1, x0, x3 => if x3 < (x0.length : Int) then (if 0 ≤ x3 then ((spec_l7Name.f k (rdOf ByteArray.empty x0 x3)).bind fun t102 => (if t102 = true then (spec_l23Names.l1 k x0 x3 0) else (some false))) else (none)) else (some true)
def spec_l23Names.l1 : Nat → List ByteArray → Int → Int → Option (Bool)
 | 0, _, _, _ => none
 | k + 1, x0, x3, x4 => if x4 < x3 then (if 0 ≤ x4 then (if x4 < (x0.length : Int) then (if 0 ≤ x3 then (if x3 < (x0.length : Int) then (if (rdOf ByteArray.empty x0 x4).toList = (rdOf ByteArray.empty x0 x3).toList then (some false) else (spec_l23Names.l1 k x0 x3 (wrap64 (x4 + 1)))) else (none)) else (none)) else (none)) else (none)) else (spec_l23Names.l0 k x0 (wrap64 (x3 + 1)))
end
def spec_l23Names.f (k : Nat) (l0 : List ByteArray) : Option (Bool) := spec_l23Names.l0 k l0 0
set_option maxHeartbeats 8000000 in
set_option maxRecDepth 100000 in
theorem spec_l23Names.calls (k : Nat) (A0 : Option Addr) (c0 : Nat) (l0 : List ByteArray) (r : Bool) (w : World) (hr0 : Kd.C Kd.string w A0 l0.length l0) (hc0 : l0.length ≤ c0) (h : spec_l23Names.f k l0 = some r) :
  Calls Tryd.prog 83 #[.slice A0 l0.length c0] w fun e w' => e = .returned (.bool r) ∧ Drawn0 w w' := by
 (have HR0 := Aside0.mk hr0); (have HC0 := Aside0.mk hc0); clear hr0 hc0; (unfold spec_l23Names.f at h); (have H := h); clear h; (have H' := Aside0.mk H); clear H; (go_enter Tryd.func83, Tryd.ntmps83); (go_wp2); (repeat (go_quiet (fail); try go_wp2)); (go_loopg [3] k (fun kq v3 w' => ∃ (x3_1 : Int), v3 = .int .i64 x3_1 ∧ Aside0 (spec_l23Names.l0 kq l0 x3_1 = some r) ∧ Aside0 (kq ≤ k) ∧ Drawn0 w w'))
 case atStart => exact Q94
 case round =>
  (clear H'); (obtain ⟨x3_1, rfl, HA, HK1, ⟨m1, rfl⟩⟩ := hrel)
  cases gk with
  | zero => exact absurd HA.out (by simp [spec_l23Names.l0])
  | succ k1 =>
   (have H := HA.out); clear HA; (simp only [spec_l23Names.l0] at H); (by_cases c2 : x3_1 < (l0.length : Int))
   ·rw [if_pos c2] at H
    (have c2b0 := decide_eq_true c2); clear c2; (by_cases c3 : 0 ≤ x3_1)
    ·rw [if_pos c3] at H
     (have c3b0 := decide_eq_true c3); clear c3; (replace H := obS H); (obtain ⟨t102, A4, H⟩ := H); (by_cases c5 : t102 = true)
     ·subst c5
      (rw [if_pos rfl] at H); (have H' := Aside0.mk H); clear H; (have p101 : 0 ≤ (x3_1 : Int) := odt); (have q101 : x3_1 < (l0.length : Int) := odt); (obtain ⟨ad101, e101, hx101_0⟩ := Kd.at_string HR0.out x3_1 p101 q101); (cases e101); (replace p101 := eq_true p101); (replace q101 := eq_true q101); (go_wp2_with (first | (go_at_call 81; (with_reducible refine (spec_l7Name.calls k1 (rdOf ByteArray.empty l0 x3_1) true _ A4.out).mono ?_); rintro e w' ⟨rfl, ⟨nd, rfl⟩⟩; (try first | exact Q142 | exact Q143)))); (repeat (go_quiet (first | (go_at_call 81; (with_reducible refine (spec_l7Name.calls k1 (rdOf ByteArray.empty l0 x3_1) true _ A4.out).mono ?_); rintro e w' ⟨rfl, ⟨nd, rfl⟩⟩; (try first | exact Q142 | exact Q143))); try go_wp2_with (first | (go_at_call 81; (with_reducible refine (spec_l7Name.calls k1 (rdOf ByteArray.empty l0 x3_1) true _ A4.out).mono ?_); rintro e w' ⟨rfl, ⟨nd, rfl⟩⟩; (try first | exact Q142 | exact Q143))))); (go_loopg [4] k1 (fun kq v4 w' => ∃ (x4_2 : Int), v4 = .int .i64 x4_2 ∧ Aside0 (spec_l23Names.l1 kq l0 x3_1 x4_2 = some r) ∧ Aside0 (kq ≤ k1) ∧ Drawn0 w w'))
      case atStart => exact Q94
      case round =>
       (clear H'); (try clear p1); (try clear q1); (try clear hx1); (try clear c2); (try clear c2b0); (try clear p2); (try clear c3); (try clear c3b0); (try clear c5); (try clear hx101_0); (try clear p101); (try clear q101); (obtain ⟨x4_2, rfl, HA, HK2, ⟨m2, rfl⟩⟩ := hrel)
       cases gk with
       | zero => exact absurd HA.out (by simp [spec_l23Names.l1])
       | succ k2 =>
        (have H := HA.out); clear HA; (simp only [spec_l23Names.l1] at H); (by_cases c6 : x4_2 < x3_1)
        ·rw [if_pos c6] at H
         (have c6b0 := decide_eq_true c6); clear c6; (by_cases c7 : 0 ≤ x4_2)
         ·rw [if_pos c7] at H
          (have c7b0 := decide_eq_true c7); clear c7; (by_cases c8 : x4_2 < (l0.length : Int))
          ·rw [if_pos c8] at H
           (have c8b0 := decide_eq_true c8); clear c8; (by_cases c9 : 0 ≤ x3_1)
           ·rw [if_pos c9] at H
            (have c9b0 := decide_eq_true c9); clear c9; (by_cases c10 : x3_1 < (l0.length : Int))
            ·rw [if_pos c10] at H
             (have c10b0 := decide_eq_true c10); clear c10; (by_cases c11 : (rdOf ByteArray.empty l0 x4_2).toList = (rdOf ByteArray.empty l0 x3_1).toList)
             ·rw [if_pos c11] at H
              (have c11b0 : ((rdOf ByteArray.empty l0 x4_2).toList == (rdOf ByteArray.empty l0 x3_1).toList) = true := beq_iff_eq.mpr c11); (have c11b1 : ((rdOf ByteArray.empty l0 x4_2).toList != (rdOf ByteArray.empty l0 x3_1).toList) = false := bne_eq_false_iff_eq.mpr c11); clear c11; (obtain rfl := Option.some.inj H); (have p103 : 0 ≤ (x4_2 : Int) := odt); (have q103 : x4_2 < (l0.length : Int) := odt); (obtain ⟨ad103, e103, hx103_0⟩ := Kd.at_string HR0.out x4_2 p103 q103); (obtain rfl : ad101 = ad103 := (by injection e103)); (replace p103 := eq_true p103); (replace q103 := eq_true q103); (have p104 : 0 ≤ (x3_1 : Int) := odt); (have q104 : x3_1 < (l0.length : Int) := odt); (obtain ⟨ad104, e104, hx104_0⟩ := Kd.at_string HR0.out x3_1 p104 q104); (obtain rfl : ad101 = ad104 := (by injection e104)); (replace p104 := eq_true p104); (replace q104 := eq_true q104); (go_wp2); (repeat (go_quiet (fail); try go_wp2)); go_ret; (exact Q95)
             ·rw [if_neg c11] at H
              (have c11b0 : ((rdOf ByteArray.empty l0 x4_2).toList == (rdOf ByteArray.empty l0 x3_1).toList) = false := beq_eq_false_iff_ne.mpr c11); (have c11b1 : ((rdOf ByteArray.empty l0 x4_2).toList != (rdOf ByteArray.empty l0 x3_1).toList) = true := bne_iff_ne.mpr c11); (have H' := Aside0.mk H); clear H; (have p103 : 0 ≤ (x4_2 : Int) := odt); (have q103 : x4_2 < (l0.length : Int) := odt); (obtain ⟨ad103, e103, hx103_0⟩ := Kd.at_string HR0.out x4_2 p103 q103); (obtain rfl : ad101 = ad103 := (by injection e103)); (replace p103 := eq_true p103); (replace q103 := eq_true q103); (have p104 : 0 ≤ (x3_1 : Int) := odt); (have q104 : x3_1 < (l0.length : Int) := odt); (obtain ⟨ad104, e104, hx104_0⟩ := Kd.at_string HR0.out x3_1 p104 q104); (obtain rfl : ad101 = ad104 := (by injection e104)); (replace p104 := eq_true p104); (replace q104 := eq_true q104); (go_wp2); (repeat (go_quiet (fail); try go_wp2)); go_roundg k2
              case measure => have := HK1.out; have := HK2.out; omega
              case rel => exact ⟨(wrap64 (x4_2 + 1)), Q32, H', ⟨by have := HK1.out; have := HK2.out; omega⟩, Q140⟩
            ·rw [if_neg c10] at H
             exact Q1
           ·rw [if_neg c9] at H
            exact Q1
          ·rw [if_neg c8] at H
           exact Q1
         ·rw [if_neg c7] at H
          exact Q1
        ·rw [if_neg c6] at H
         (have c6b0 := decide_eq_false c6); clear c6; (have H' := Aside0.mk H); clear H; (go_wp2); (repeat (go_quiet (fail); try go_wp2)); go_roundg k2
         case measure => have := HK1.out; have := HK2.out; omega
         case rel => exact ⟨(wrap64 (x3_1 + 1)), Q32, H', ⟨by have := HK1.out; have := HK2.out; omega⟩, Q140⟩
     ·replace c5 := Bool.eq_false_iff.mpr c5
      subst c5; (rw [if_neg (show ¬ (false = true) by decide)] at H); (obtain rfl := Option.some.inj H); (have p101 : 0 ≤ (x3_1 : Int) := odt); (have q101 : x3_1 < (l0.length : Int) := odt); (obtain ⟨ad101, e101, hx101_0⟩ := Kd.at_string HR0.out x3_1 p101 q101); (cases e101); (replace p101 := eq_true p101); (replace q101 := eq_true q101); (go_wp2_with (first | (go_at_call 81; (with_reducible refine (spec_l7Name.calls k1 (rdOf ByteArray.empty l0 x3_1) false _ A4.out).mono ?_); rintro e w' ⟨rfl, ⟨nd, rfl⟩⟩; (try first | exact Q142 | exact Q143)))); (repeat (go_quiet (first | (go_at_call 81; (with_reducible refine (spec_l7Name.calls k1 (rdOf ByteArray.empty l0 x3_1) false _ A4.out).mono ?_); rintro e w' ⟨rfl, ⟨nd, rfl⟩⟩; (try first | exact Q142 | exact Q143))); try go_wp2_with (first | (go_at_call 81; (with_reducible refine (spec_l7Name.calls k1 (rdOf ByteArray.empty l0 x3_1) false _ A4.out).mono ?_); rintro e w' ⟨rfl, ⟨nd, rfl⟩⟩; (try first | exact Q142 | exact Q143))))); go_ret; (exact Q95)
    ·rw [if_neg c3] at H
     exact Q1
   ·rw [if_neg c2] at H
    (have c2b0 := decide_eq_false c2); clear c2; (obtain rfl := Option.some.inj H); (go_wp2); (repeat (go_quiet (fail); try go_wp2)); go_ret; (exact Q95)
/-! ### spec_l23Field: function 56 -/
mutual
def spec_l23Field.j0 : Nat → List (S54) → Int → Bool → ByteArray → Int → Int → Int → List ByteArray → Bool → ByteArray → Option (Bool)
 | 0, _, _, _, _, _, _, _, _, _, _ => none
 | k + 1, x0, x1, x28, x103000, x103001, x103002, x103003, x103004, x103005, x103006 => if x28 = true then (some false) else (if x103006.toList = ([] : List UInt8) then (spec_l23Field.j1 k x103000 x103001 x103002 x103003 x103004 x103005 x103006) else ((spec_l23Find.f k x0 x103006).bind fun t106 => (if t106 < 0 then (some false) else (if t106 ≥ x1 then (some false) else (if 0 ≤ t106 then (if t106 < (x0.length : Int) then (if ((rd_T54 x0 t106).f1) = 4 then (spec_l23Field.j1 k x103000 x103001 x103002 x103003 x103004 x103005 x103006) else (some false)) else (none)) else (none))))))
def spec_l23Field.j1 : Nat → ByteArray → Int → Int → Int → List ByteArray → Bool → ByteArray → Option (Bool)
 | 0, _, _, _, _, _, _, _ => none
 | k + 1, x103000, x103001, x103002, x103003, x103004, x103005, x103006 => if x103001 = 1 then ((spec_l1In.f x103002 (-999999) x103003).bind fun t108 => (if t108 = true then (if x103003 ≤ 999999 then (some ((x103004.length : Int) == 0)) else (some false)) else (some false))) else (if x103001 = 2 then ((spec_l1In.f x103002 0 x103003).bind fun t109 => (if t109 = true then (if x103003 ≤ 40 then (some ((x103004.length : Int) == 0)) else (some false)) else (some false))) else (if x103001 = 3 then (if x103002 = 0 then (if x103003 = 0 then ((spec_l1In.f (x103004.length : Int) 1 6).bind fun t110 => (if t110 = true then ((spec_l23Names.f k x103004).bind fun t111 => (some t111)) else (some false))) else (some false)) else (some false)) else (if x103002 = 0 then (if x103003 = 0 then (some ((x103004.length : Int) == 0)) else (some false)) else (some false))))
end
def spec_l23Field.f (k : Nat) (l0 : List (S54)) (a1 : Int) : Option (Bool) := if 0 ≤ a1 then (if a1 < (l0.length : Int) then ((spec_l7Name.f k ((rd_T54 l0 a1).f0)).bind fun t103 => (if t103 = true then ((spec_l23Find.f k l0 ((rd_T54 l0 a1).f0)).bind fun t104 => (if t104 = a1 then ((spec_l1In.f ((rd_T54 l0 a1).f1) 1 4).bind fun t105 => (spec_l23Field.j0 k l0 a1 (!t105) ((rd_T54 l0 a1).f0) ((rd_T54 l0 a1).f1) ((rd_T54 l0 a1).f2) ((rd_T54 l0 a1).f3) ((rd_T54 l0 a1).f4) ((rd_T54 l0 a1).f5) ((rd_T54 l0 a1).f6))) else (spec_l23Field.j0 k l0 a1 true ((rd_T54 l0 a1).f0) ((rd_T54 l0 a1).f1) ((rd_T54 l0 a1).f2) ((rd_T54 l0 a1).f3) ((rd_T54 l0 a1).f4) ((rd_T54 l0 a1).f5) ((rd_T54 l0 a1).f6)))) else (spec_l23Field.j0 k l0 a1 true ((rd_T54 l0 a1).f0) ((rd_T54 l0 a1).f1) ((rd_T54 l0 a1).f2) ((rd_T54 l0 a1).f3) ((rd_T54 l0 a1).f4) ((rd_T54 l0 a1).f5) ((rd_T54 l0 a1).f6)))) else (none)) else (none)
set_option maxHeartbeats 8000000 in
set_option maxRecDepth 100000 in
theorem spec_l23Field.calls (k : Nat) (A0 : Option Addr) (c0 : Nat) (l0 : List (S54)) (a1 : Int) (r : Bool) (w : World) (hr0 : Kd.C k54 w A0 l0.length l0) (hc0 : l0.length ≤ c0) (h : spec_l23Field.f k l0 a1 = some r) :
  Calls Tryd.prog 56 #[.slice A0 l0.length c0, .int .i64 a1] w fun e w' => e = .returned (.bool r) ∧ Below w.heap.size w w' := by
 (have hu54 := Tryd.underlying54); (have HR0 := Aside0.mk hr0); (have HC0 := Aside0.mk hc0); clear hr0 hc0; (have HB := Aside0.mk (Below.refl w.heap.size w)); (unfold spec_l23Field.f at h); (have H := h); clear h; (by_cases c3 : 0 ≤ a1)
 ·rw [if_pos c3] at H
  (have c3b0 := decide_eq_true c3); clear c3; (by_cases c4 : a1 < (l0.length : Int))
  ·rw [if_pos c4] at H
   (have c4b0 := decide_eq_true c4); clear c4; (have HC5 := Aside0.mk H); clear H; (have p101 : 0 ≤ (a1 : Int) := odt); (have q101 : a1 < (l0.length : Int) := odt); (obtain ⟨ad101, A101_4, c101_4, e101, hx101_0, hx101_1, hx101_2, hx101_3, hx101_4, hx101_5, hx101_6, hl101_4, hi101_4⟩ := at_T54 HR0.out a1 p101 q101); (cases e101); (have HR101_4 := Aside0.mk hi101_4); (have HC101_4 := Aside0.mk hl101_4); clear hi101_4 hl101_4; (replace p101 := eq_true p101); (replace q101 := eq_true q101); (go_enter Tryd.func56, Tryd.ntmps56); (go_upto_region 2 with (first | ((with_reducible refine gate_dst (N := 5) rfl ?_); refine box_event ?hg (N := 5) ?hd (cs := #[.string (⟨#[]⟩ : ByteArray), .int .i64 0, .int .i64 0, .int .i64 0, .slice none 0 0, .bool false, .string (⟨#[]⟩ : ByteArray)]) (t := 54) ?hr ?_; (case hd => rfl); (case hg => rfl); (case hr => first | (go_simp; done) | (go_simp; rfl)); intro gb102 hg w6 hbox hb; have hB_ := zI hb HB; have n0_ := Aside0.mk (below_step hB_ hb); have n1_ := Aside0.mk (hbox); have n2_ := Aside0.mk (bx0 hg hB_); have n3_ := n2_; clear HB; have HB := n0_; have BK102 := n1_; have GW102 := n2_; have GE102 := n3_; clear n0_ n1_ n2_ n3_ hB_ hb hbox hg; have hcz7_0 := cz BK102.out 0; have hcz7_1 := cz BK102.out 1; have hcz7_2 := cz BK102.out 2; have hcz7_3 := cz BK102.out 3; have hcz7_4 := cz BK102.out 4; have hcz7_5 := cz BK102.out 5; have hcz7_6 := cz BK102.out 6; have hfz7_0 := blk_frozen BK102.out 0; have hfz7_1 := blk_frozen BK102.out 1; have hfz7_2 := blk_frozen BK102.out 2; have hfz7_3 := blk_frozen BK102.out 3; have hfz7_4 := blk_frozen BK102.out 4; have hfz7_5 := blk_frozen BK102.out 5; have hfz7_6 := blk_frozen BK102.out 6))); ((try simp only [Act.put, aS1, aS2, aS3])); (go_cut [28] (fun v28 wc => ∃ (kq : Nat) (x28_4 : Bool), v28 = .bool x28_4 ∧ Aside0 (spec_l23Field.j0 kq l0 a1 x28_4 ((rd_T54 l0 a1).f0) ((rd_T54 l0 a1).f1) ((rd_T54 l0 a1).f2) ((rd_T54 l0 a1).f3) ((rd_T54 l0 a1).f4) ((rd_T54 l0 a1).f5) ((rd_T54 l0 a1).f6) = some r) ∧ Aside0 (kq ≤ k) ∧ Aside0 (wc.heap[gb102]? = some (.cells #[.string ((rd_T54 l0 a1).f0), .int .i64 ((rd_T54 l0 a1).f1), .int .i64 ((rd_T54 l0 a1).f2), .int .i64 ((rd_T54 l0 a1).f3), (.slice A101_4 ((rd_T54 l0 a1).f4).length c101_4), .bool ((rd_T54 l0 a1).f5), .string ((rd_T54 l0 a1).f6)] 54 (0, 0))) ∧ Aside0 (Below w.heap.size w wc)))
   case first =>
    (have H := HC5.out); clear HC5; (replace H := obS H); (obtain ⟨t103, A8, H⟩ := H); (by_cases c9 : t103 = true)
    ·subst c9
     (rw [if_pos rfl] at H); (replace H := obS H); (obtain ⟨t104, A10, H⟩ := H); (by_cases c11 : t104 = a1)
     ·rw [if_pos c11] at H
      (have c11b0 : (t104 == a1) = true := beq_iff_eq.mpr c11); (have c11b1 : (t104 != a1) = false := bne_eq_false_iff_eq.mpr c11); clear c11; ((first | rw [c11b0] | (simp only [i64_w, i32_w]; rw [c11b0]) | skip)); (replace H := Option.bind_eq_some_iff.mp H); (obtain ⟨t105, A120, H⟩ := H); (have A12 := Aside0.mk A120); clear A120; (have H' := Aside0.mk H); clear H; (have hcz13_0 := cz BK102.out 0); (have hcz13_1 := cz BK102.out 1); (have hcz13_2 := cz BK102.out 2); (have hcz13_3 := cz BK102.out 3); (have hcz13_4 := cz BK102.out 4); (have hcz13_5 := cz BK102.out 5); (have hcz13_6 := cz BK102.out 6); (have hfz13_0 := blk_frozen BK102.out 0); (have hfz13_1 := blk_frozen BK102.out 1); (have hfz13_2 := blk_frozen BK102.out 2); (have hfz13_3 := blk_frozen BK102.out 3); (have hfz13_4 := blk_frozen BK102.out 4); (have hfz13_5 := blk_frozen BK102.out 5); (have hfz13_6 := blk_frozen BK102.out 6); (go_wp2_with (first | ((with_reducible refine gate_callee (f := 81) rfl ?_); refine gL (some 13) Tryd.func81 #[.string ((rd_T54 l0 a1).f0)] ?_; (with_reducible refine (spec_l7Name.calls k ((rd_T54 l0 a1).f0) true _ A8.out).mono ?_); rintro e w' ⟨rfl, ⟨nd, rfl⟩⟩; refine ⟨_, rfl, ?_⟩) | (go_at_call 63; (with_reducible refine (spec_l23Find.calls k _ _ l0 ((rd_T54 l0 a1).f0) t104 _ ?side1 ?side2 A10.out).mono ?_); (case side1 => exact Q144); (case side2 => exact HC0.out); rintro e w' ⟨rfl, ⟨nd, rfl⟩⟩) | (go_at_call 82; (with_reducible refine (spec_l1In.calls ((rd_T54 l0 a1).f1) 1 4 t105 _ A12.out).mono ?_); rintro e w' ⟨rfl, ⟨nd, rfl⟩⟩))); (go_meet)
      case rel => exact ⟨_, (!t105), Q32, H', ⟨Q99⟩, ⟨Q145⟩, ⟨Q108⟩⟩
     ·rw [if_neg c11] at H
      (have c11b0 : (t104 == a1) = false := beq_eq_false_iff_ne.mpr c11); (have c11b1 : (t104 != a1) = true := bne_iff_ne.mpr c11); ((first | rw [c11b0] | (simp only [i64_w, i32_w]; rw [c11b0]) | skip)); (have H' := Aside0.mk H); clear H; (have hcz14_0 := cz BK102.out 0); (have hcz14_1 := cz BK102.out 1); (have hcz14_2 := cz BK102.out 2); (have hcz14_3 := cz BK102.out 3); (have hcz14_4 := cz BK102.out 4); (have hcz14_5 := cz BK102.out 5); (have hcz14_6 := cz BK102.out 6); (have hfz14_0 := blk_frozen BK102.out 0); (have hfz14_1 := blk_frozen BK102.out 1); (have hfz14_2 := blk_frozen BK102.out 2); (have hfz14_3 := blk_frozen BK102.out 3); (have hfz14_4 := blk_frozen BK102.out 4); (have hfz14_5 := blk_frozen BK102.out 5); (have hfz14_6 := blk_frozen BK102.out 6); (go_wp2_with (first | ((with_reducible refine gate_callee (f := 81) rfl ?_); refine gL (some 13) Tryd.func81 #[.string ((rd_T54 l0 a1).f0)] ?_; (with_reducible refine (spec_l7Name.calls k ((rd_T54 l0 a1).f0) true _ A8.out).mono ?_); rintro e w' ⟨rfl, ⟨nd, rfl⟩⟩; refine ⟨_, rfl, ?_⟩) | (go_at_call 63; (with_reducible refine (spec_l23Find.calls k _ _ l0 ((rd_T54 l0 a1).f0) t104 _ ?side1 ?side2 A10.out).mono ?_); (case side1 => exact Q144); (case side2 => exact HC0.out); rintro e w' ⟨rfl, ⟨nd, rfl⟩⟩))); (go_meet)
      case rel => exact Q146
    ·replace c9 := Bool.eq_false_iff.mpr c9
     subst c9; (rw [if_neg (show ¬ (false = true) by decide)] at H); (have H' := Aside0.mk H); clear H; (have hcz15_0 := cz BK102.out 0); (have hcz15_1 := cz BK102.out 1); (have hcz15_2 := cz BK102.out 2); (have hcz15_3 := cz BK102.out 3); (have hcz15_4 := cz BK102.out 4); (have hcz15_5 := cz BK102.out 5); (have hcz15_6 := cz BK102.out 6); (have hfz15_0 := blk_frozen BK102.out 0); (have hfz15_1 := blk_frozen BK102.out 1); (have hfz15_2 := blk_frozen BK102.out 2); (have hfz15_3 := blk_frozen BK102.out 3); (have hfz15_4 := blk_frozen BK102.out 4); (have hfz15_5 := blk_frozen BK102.out 5); (have hfz15_6 := blk_frozen BK102.out 6); (go_wp2_with (first | ((with_reducible refine gate_callee (f := 81) rfl ?_); refine gL (some 13) Tryd.func81 #[.string ((rd_T54 l0 a1).f0)] ?_; (with_reducible refine (spec_l7Name.calls k ((rd_T54 l0 a1).f0) false _ A8.out).mono ?_); rintro e w' ⟨rfl, ⟨nd, rfl⟩⟩; refine ⟨_, rfl, ?_⟩))); (go_meet)
     case rel => exact Q146
   case rest =>
    clear HC5; (try clear c1); (try clear p1); (try clear q1); (try clear hx1); (try clear p2); (try clear c3); (try clear c3b0); (try clear c4); (try clear c4b0); (try clear c5); (try clear c8); (try clear c9); (try clear c10); (try clear p10); (try clear q10); (try clear hx10); (try clear c11); (try clear c11b0); (try clear c11b1); (try clear hcz13_0); (try clear hcz13_1); (try clear hcz13_2); (try clear hcz13_3); (try clear hcz13_4); (try clear hcz13_5); (try clear hcz13_6); (try clear hcz14_0); (try clear hcz14_1); (try clear hcz14_2); (try clear hcz14_3); (try clear hcz14_4); (try clear hcz14_5); (try clear hcz14_6); (try clear hcz15_0); (try clear hcz15_1); (try clear hcz15_2); (try clear hcz15_3); (try clear hcz15_4); (try clear hcz15_5); (try clear hcz15_6); (try clear hcz7_0); (try clear hcz7_1); (try clear hcz7_2); (try clear hcz7_3); (try clear hcz7_4); (try clear hcz7_5); (try clear hcz7_6); (try clear hfz13_0); (try clear hfz13_1); (try clear hfz13_2); (try clear hfz13_3); (try clear hfz13_4); (try clear hfz13_5); (try clear hfz13_6); (try clear hfz14_0); (try clear hfz14_1); (try clear hfz14_2); (try clear hfz14_3); (try clear hfz14_4); (try clear hfz14_5); (try clear hfz14_6); (try clear hfz15_0); (try clear hfz15_1); (try clear hfz15_2); (try clear hfz15_3); (try clear hfz15_4); (try clear hfz15_5); (try clear hfz15_6); (try clear hfz7_0); (try clear hfz7_1); (try clear hfz7_2); (try clear hfz7_3); (try clear hfz7_4); (try clear hfz7_5); (try clear hfz7_6); (try clear hx101_0); (try clear hx101_1); (try clear hx101_2); (try clear hx101_3); (try clear hx101_4); (try clear hx101_5); (try clear hx101_6); (try clear p101); (try clear q101); (obtain ⟨kq, x28_4, rfl, HA, HJ4, BK102, HB⟩ := hcut)
    cases kq with
    | zero => exact absurd HA.out (by simp [spec_l23Field.j0])
    | succ kj4 =>
     (have H := HA.out); clear HA; (simp only [spec_l23Field.j0] at H); (by_cases c16 : x28_4 = true); (· subst c16; (rw [if_pos rfl] at H); (obtain rfl := Option.some.inj H); (go_wp2); go_ret; (exact Q100))
     ·replace c16 := Bool.eq_false_iff.mpr c16
      subst c16; (rw [if_neg (show ¬ (false = true) by decide)] at H); (have HC17 := Aside0.mk H); clear H; (have hcz18_0 := cz BK102.out 0); (have hcz18_1 := cz BK102.out 1); (have hcz18_2 := cz BK102.out 2); (have hcz18_3 := cz BK102.out 3); (have hcz18_4 := cz BK102.out 4); (have hcz18_5 := cz BK102.out 5); (have hcz18_6 := cz BK102.out 6); (have hfz18_0 := blk_frozen BK102.out 0); (have hfz18_1 := blk_frozen BK102.out 1); (have hfz18_2 := blk_frozen BK102.out 2); (have hfz18_3 := blk_frozen BK102.out 3); (have hfz18_4 := blk_frozen BK102.out 4); (have hfz18_5 := blk_frozen BK102.out 5); (have hfz18_6 := blk_frozen BK102.out 6); (go_upto_if 31 with (fail)); (go_cut [] (fun wc => ∃ (kq : Nat), Aside0 (spec_l23Field.j1 kq ((rd_T54 l0 a1).f0) ((rd_T54 l0 a1).f1) ((rd_T54 l0 a1).f2) ((rd_T54 l0 a1).f3) ((rd_T54 l0 a1).f4) ((rd_T54 l0 a1).f5) ((rd_T54 l0 a1).f6) = some r) ∧ Aside0 (kq ≤ kj4) ∧ Aside0 (wc.heap[gb102]? = some (.cells #[.string ((rd_T54 l0 a1).f0), .int .i64 ((rd_T54 l0 a1).f1), .int .i64 ((rd_T54 l0 a1).f2), .int .i64 ((rd_T54 l0 a1).f3), (.slice A101_4 ((rd_T54 l0 a1).f4).length c101_4), .bool ((rd_T54 l0 a1).f5), .string ((rd_T54 l0 a1).f6)] 54 (0, 0))) ∧ Aside0 (Below w.heap.size w wc)))
      case first =>
       (have H := HC17.out); clear HC17; (by_cases c19 : ((rd_T54 l0 a1).f6).toList = ([] : List UInt8))
       ·rw [if_pos c19] at H
        (have c19b0 : ((rd_T54 l0 a1).f6).toList.isEmpty = true := List.isEmpty_iff.mpr c19); (have c19b1 : (!((rd_T54 l0 a1).f6).toList.isEmpty) = false := by rw [List.isEmpty_iff.mpr c19]; rfl); (have c19b2 : (((rd_T54 l0 a1).f6).toList == ([] : List UInt8)) = true := beq_iff_eq.mpr c19); (have c19b3 : (((rd_T54 l0 a1).f6).toList != ([] : List UInt8)) = false := bne_eq_false_iff_eq.mpr c19); clear c19; ((first | rw [c19b0] | (simp only [i64_w, i32_w]; rw [c19b0]) | skip)); (have H' := Aside0.mk H); clear H; (go_wp2); (go_meet)
        case rel => exact Q147
       ·rw [if_neg c19] at H
        (have c19b0 : ((rd_T54 l0 a1).f6).toList.isEmpty = false := Q148); (have c19b1 : (!((rd_T54 l0 a1).f6).toList.isEmpty) = true := by rw [show ((rd_T54 l0 a1).f6).toList.isEmpty = false from Q148]; rfl); (have c19b2 : (((rd_T54 l0 a1).f6).toList == ([] : List UInt8)) = false := beq_eq_false_iff_ne.mpr c19); (have c19b3 : (((rd_T54 l0 a1).f6).toList != ([] : List UInt8)) = true := bne_iff_ne.mpr c19); ((first | rw [c19b0] | (simp only [i64_w, i32_w]; rw [c19b0]) | skip)); (replace H := obS H); (obtain ⟨t106, A20, H⟩ := H); (by_cases c21 : t106 < 0)
        ·rw [if_pos c21] at H
         (have c21b0 := decide_eq_true c21); clear c21; (obtain rfl := Option.some.inj H); (have hcz22_0 := cz BK102.out 0); (have hcz22_1 := cz BK102.out 1); (have hcz22_2 := cz BK102.out 2); (have hcz22_3 := cz BK102.out 3); (have hcz22_4 := cz BK102.out 4); (have hcz22_5 := cz BK102.out 5); (have hcz22_6 := cz BK102.out 6); (have hfz22_0 := blk_frozen BK102.out 0); (have hfz22_1 := blk_frozen BK102.out 1); (have hfz22_2 := blk_frozen BK102.out 2); (have hfz22_3 := blk_frozen BK102.out 3); (have hfz22_4 := blk_frozen BK102.out 4); (have hfz22_5 := blk_frozen BK102.out 5); (have hfz22_6 := blk_frozen BK102.out 6); (go_wp2_with (first | ((with_reducible refine gate_callee (f := 63) rfl ?_); refine gL (some 35) Tryd.func63 #[.slice (some ad101) l0.length c0, .string ((rd_T54 l0 a1).f6)] ?_; (with_reducible refine (spec_l23Find.calls kj4 _ _ l0 ((rd_T54 l0 a1).f6) t106 _ ?side1 ?side2 A20.out).mono ?_); (case side1 => exact Q98); (case side2 => exact HC0.out); rintro e w' ⟨rfl, ⟨nd, rfl⟩⟩; refine ⟨_, rfl, ?_⟩))); go_ret; (exact Q100)
        ·rw [if_neg c21] at H
         (have c21b0 := decide_eq_false c21); clear c21; (by_cases c23 : t106 ≥ a1)
         ·rw [if_pos c23] at H
          (have c23b0 : decide (a1 ≤ t106) = true := decide_eq_true c23); clear c23; (obtain rfl := Option.some.inj H); (have hcz24_0 := cz BK102.out 0); (have hcz24_1 := cz BK102.out 1); (have hcz24_2 := cz BK102.out 2); (have hcz24_3 := cz BK102.out 3); (have hcz24_4 := cz BK102.out 4); (have hcz24_5 := cz BK102.out 5); (have hcz24_6 := cz BK102.out 6); (have hfz24_0 := blk_frozen BK102.out 0); (have hfz24_1 := blk_frozen BK102.out 1); (have hfz24_2 := blk_frozen BK102.out 2); (have hfz24_3 := blk_frozen BK102.out 3); (have hfz24_4 := blk_frozen BK102.out 4); (have hfz24_5 := blk_frozen BK102.out 5); (have hfz24_6 := blk_frozen BK102.out 6); (go_wp2_with (first | ((with_reducible refine gate_callee (f := 63) rfl ?_); refine gL (some 35) Tryd.func63 #[.slice (some ad101) l0.length c0, .string ((rd_T54 l0 a1).f6)] ?_; (with_reducible refine (spec_l23Find.calls kj4 _ _ l0 ((rd_T54 l0 a1).f6) t106 _ ?side1 ?side2 A20.out).mono ?_); (case side1 => exact Q98); (case side2 => exact HC0.out); rintro e w' ⟨rfl, ⟨nd, rfl⟩⟩; refine ⟨_, rfl, ?_⟩))); go_ret; (exact Q100)
         ·rw [if_neg c23] at H
          (have c23b0 : decide (a1 ≤ t106) = false := decide_eq_false c23); clear c23; (by_cases c25 : 0 ≤ t106)
          ·rw [if_pos c25] at H
           (have c25b0 := decide_eq_true c25); clear c25; (by_cases c26 : t106 < (l0.length : Int))
           ·rw [if_pos c26] at H
            (have c26b0 := decide_eq_true c26); clear c26; (by_cases c27 : ((rd_T54 l0 t106).f1) = 4)
            ·rw [if_pos c27] at H
             (have c27b0 : (((rd_T54 l0 t106).f1) == 4) = true := beq_iff_eq.mpr c27); (have c27b1 : (((rd_T54 l0 t106).f1) != 4) = false := bne_eq_false_iff_eq.mpr c27); clear c27; (have H' := Aside0.mk H); clear H; (have hcz28_0 := cz BK102.out 0); (have hcz28_1 := cz BK102.out 1); (have hcz28_2 := cz BK102.out 2); (have hcz28_3 := cz BK102.out 3); (have hcz28_4 := cz BK102.out 4); (have hcz28_5 := cz BK102.out 5); (have hcz28_6 := cz BK102.out 6); (have hfz28_0 := blk_frozen BK102.out 0); (have hfz28_1 := blk_frozen BK102.out 1); (have hfz28_2 := blk_frozen BK102.out 2); (have hfz28_3 := blk_frozen BK102.out 3); (have hfz28_4 := blk_frozen BK102.out 4); (have hfz28_5 := blk_frozen BK102.out 5); (have hfz28_6 := blk_frozen BK102.out 6); (go_wp2_with (first | ((with_reducible refine gate_callee (f := 63) rfl ?_); refine gL (some 35) Tryd.func63 #[.slice (some ad101) l0.length c0, .string ((rd_T54 l0 a1).f6)] ?_; (with_reducible refine (spec_l23Find.calls kj4 _ _ l0 ((rd_T54 l0 a1).f6) t106 _ ?side1 ?side2 A20.out).mono ?_); (case side1 => exact Q98); (case side2 => exact HC0.out); rintro e w' ⟨rfl, ⟨nd, rfl⟩⟩; refine ⟨_, rfl, ?_⟩; have p107 : 0 ≤ (t106 : Int) := odt; have q107 : t106 < (l0.length : Int) := odt; obtain ⟨ad107, A107_4, c107_4, e107, hx107_0, hx107_1, hx107_2, hx107_3, hx107_4, hx107_5, hx107_6, hl107_4, hi107_4⟩ := at_T54 HR0.out t106 p107 q107; obtain rfl : ad101 = ad107 := (by injection e107); replace hx107_0 := hcI HB hx107_0; replace hx107_1 := hcI HB hx107_1; replace hx107_2 := hcI HB hx107_2; replace hx107_3 := hcI HB hx107_3; replace hx107_4 := hcI HB hx107_4; replace hx107_5 := hcI HB hx107_5; replace hx107_6 := hcI HB hx107_6; have HR107_4 := Aside0.mk hi107_4; have HC107_4 := Aside0.mk hl107_4; clear hi107_4 hl107_4; replace p107 := eq_true p107; replace q107 := eq_true q107))); (go_meet)
             case rel => exact Q147
            ·rw [if_neg c27] at H
             (have c27b0 : (((rd_T54 l0 t106).f1) == 4) = false := beq_eq_false_iff_ne.mpr c27); (have c27b1 : (((rd_T54 l0 t106).f1) != 4) = true := bne_iff_ne.mpr c27); (obtain rfl := Option.some.inj H); (have hcz29_0 := cz BK102.out 0); (have hcz29_1 := cz BK102.out 1); (have hcz29_2 := cz BK102.out 2); (have hcz29_3 := cz BK102.out 3); (have hcz29_4 := cz BK102.out 4); (have hcz29_5 := cz BK102.out 5); (have hcz29_6 := cz BK102.out 6); (have hfz29_0 := blk_frozen BK102.out 0); (have hfz29_1 := blk_frozen BK102.out 1); (have hfz29_2 := blk_frozen BK102.out 2); (have hfz29_3 := blk_frozen BK102.out 3); (have hfz29_4 := blk_frozen BK102.out 4); (have hfz29_5 := blk_frozen BK102.out 5); (have hfz29_6 := blk_frozen BK102.out 6); (go_wp2_with (first | ((with_reducible refine gate_callee (f := 63) rfl ?_); refine gL (some 35) Tryd.func63 #[.slice (some ad101) l0.length c0, .string ((rd_T54 l0 a1).f6)] ?_; (with_reducible refine (spec_l23Find.calls kj4 _ _ l0 ((rd_T54 l0 a1).f6) t106 _ ?side1 ?side2 A20.out).mono ?_); (case side1 => exact Q98); (case side2 => exact HC0.out); rintro e w' ⟨rfl, ⟨nd, rfl⟩⟩; refine ⟨_, rfl, ?_⟩; have p107 : 0 ≤ (t106 : Int) := odt; have q107 : t106 < (l0.length : Int) := odt; obtain ⟨ad107, A107_4, c107_4, e107, hx107_0, hx107_1, hx107_2, hx107_3, hx107_4, hx107_5, hx107_6, hl107_4, hi107_4⟩ := at_T54 HR0.out t106 p107 q107; obtain rfl : ad101 = ad107 := (by injection e107); replace hx107_0 := hcI HB hx107_0; replace hx107_1 := hcI HB hx107_1; replace hx107_2 := hcI HB hx107_2; replace hx107_3 := hcI HB hx107_3; replace hx107_4 := hcI HB hx107_4; replace hx107_5 := hcI HB hx107_5; replace hx107_6 := hcI HB hx107_6; have HR107_4 := Aside0.mk hi107_4; have HC107_4 := Aside0.mk hl107_4; clear hi107_4 hl107_4; replace p107 := eq_true p107; replace q107 := eq_true q107))); go_ret; (exact Q100)
           ·rw [if_neg c26] at H
            exact Q1
          ·rw [if_neg c25] at H
           exact Q1
      case rest =>
       clear HC17; (try clear c1); (try clear p1); (try clear q1); (try clear hx1); (try clear c2); (try clear p2); (try clear c3); (try clear c3b0); (try clear c4); (try clear c4b0); (try clear c5); (try clear c6); (try clear c8); (try clear c9); (try clear c10); (try clear p10); (try clear q10); (try clear hx10); (try clear c11); (try clear c11b0); (try clear c11b1); (try clear c16); (try clear c19); (try clear c19b0); (try clear c19b1); (try clear c19b2); (try clear c21); (try clear c21b0); (try clear c23); (try clear c23b0); (try clear c25); (try clear c25b0); (try clear c26); (try clear c26b0); (try clear c27); (try clear c27b0); (try clear c27b1); (try clear hcz13_0); (try clear hcz13_1); (try clear hcz13_2); (try clear hcz13_3); (try clear hcz13_4); (try clear hcz13_5); (try clear hcz13_6); (try clear hcz14_0); (try clear hcz14_1); (try clear hcz14_2); (try clear hcz14_3); (try clear hcz14_4); (try clear hcz14_5); (try clear hcz14_6); (try clear hcz15_0); (try clear hcz15_1); (try clear hcz15_2); (try clear hcz15_3); (try clear hcz15_4); (try clear hcz15_5); (try clear hcz15_6); (try clear hcz18_0); (try clear hcz18_1); (try clear hcz18_2); (try clear hcz18_3); (try clear hcz18_4); (try clear hcz18_5); (try clear hcz18_6); (try clear hcz22_0); (try clear hcz22_1); (try clear hcz22_2); (try clear hcz22_3); (try clear hcz22_4); (try clear hcz22_5); (try clear hcz22_6); (try clear hcz24_0); (try clear hcz24_1); (try clear hcz24_2); (try clear hcz24_3); (try clear hcz24_4); (try clear hcz24_5); (try clear hcz24_6); (try clear hcz28_0); (try clear hcz28_1); (try clear hcz28_2); (try clear hcz28_3); (try clear hcz28_4); (try clear hcz28_5); (try clear hcz28_6); (try clear hcz29_0); (try clear hcz29_1); (try clear hcz29_2); (try clear hcz29_3); (try clear hcz29_4); (try clear hcz29_5); (try clear hcz29_6); (try clear hcz7_0); (try clear hcz7_1); (try clear hcz7_2); (try clear hcz7_3); (try clear hcz7_4); (try clear hcz7_5); (try clear hcz7_6); (try clear hfz13_0); (try clear hfz13_1); (try clear hfz13_2); (try clear hfz13_3); (try clear hfz13_4); (try clear hfz13_5); (try clear hfz13_6); (try clear hfz14_0); (try clear hfz14_1); (try clear hfz14_2); (try clear hfz14_3); (try clear hfz14_4); (try clear hfz14_5); (try clear hfz14_6); (try clear hfz15_0); (try clear hfz15_1); (try clear hfz15_2); (try clear hfz15_3); (try clear hfz15_4); (try clear hfz15_5); (try clear hfz15_6); (try clear hfz18_0); (try clear hfz18_1); (try clear hfz18_2); (try clear hfz18_3); (try clear hfz18_4); (try clear hfz18_5); (try clear hfz18_6); (try clear hfz22_0); (try clear hfz22_1); (try clear hfz22_2); (try clear hfz22_3); (try clear hfz22_4); (try clear hfz22_5); (try clear hfz22_6); (try clear hfz24_0); (try clear hfz24_1); (try clear hfz24_2); (try clear hfz24_3); (try clear hfz24_4); (try clear hfz24_5); (try clear hfz24_6); (try clear hfz28_0); (try clear hfz28_1); (try clear hfz28_2); (try clear hfz28_3); (try clear hfz28_4); (try clear hfz28_5); (try clear hfz28_6); (try clear hfz29_0); (try clear hfz29_1); (try clear hfz29_2); (try clear hfz29_3); (try clear hfz29_4); (try clear hfz29_5); (try clear hfz29_6); (try clear hfz7_0); (try clear hfz7_1); (try clear hfz7_2); (try clear hfz7_3); (try clear hfz7_4); (try clear hfz7_5); (try clear hfz7_6); (try clear hx101_0); (try clear hx101_1); (try clear hx101_2); (try clear hx101_3); (try clear hx101_4); (try clear hx101_5); (try clear hx101_6); (try clear hx107_0); (try clear hx107_1); (try clear hx107_2); (try clear hx107_3); (try clear hx107_4); (try clear hx107_5); (try clear hx107_6); (try clear p1); (try clear p10); (try clear p101); (try clear p107); (try clear p2); (try clear q1); (try clear q10); (try clear q101); (try clear q107); (obtain ⟨kq, HA, HJ16, BK102, HB⟩ := hcut)
       cases kq with
       | zero => exact absurd HA.out (by simp [spec_l23Field.j1])
       | succ kj16 =>
        (have H := HA.out); clear HA; (simp only [spec_l23Field.j1] at H); (by_cases c30 : ((rd_T54 l0 a1).f1) = 1)
        ·rw [if_pos c30] at H
         (have c30b0 : (((rd_T54 l0 a1).f1) == 1) = true := beq_iff_eq.mpr c30); (have c30b1 : (((rd_T54 l0 a1).f1) != 1) = false := bne_eq_false_iff_eq.mpr c30); clear c30; (replace H := obS H); (obtain ⟨t108, A31, H⟩ := H); (by_cases c32 : t108 = true)
         ·subst c32
          (rw [if_pos rfl] at H); (by_cases c33 : ((rd_T54 l0 a1).f3) ≤ 999999)
          ·rw [if_pos c33] at H
           (have c33b0 := decide_eq_true c33); clear c33; (obtain rfl := Option.some.inj H); (have hcz34_0 := cz BK102.out 0); (have hcz34_1 := cz BK102.out 1); (have hcz34_2 := cz BK102.out 2); (have hcz34_3 := cz BK102.out 3); (have hcz34_4 := cz BK102.out 4); (have hcz34_5 := cz BK102.out 5); (have hcz34_6 := cz BK102.out 6); (have hfz34_0 := blk_frozen BK102.out 0); (have hfz34_1 := blk_frozen BK102.out 1); (have hfz34_2 := blk_frozen BK102.out 2); (have hfz34_3 := blk_frozen BK102.out 3); (have hfz34_4 := blk_frozen BK102.out 4); (have hfz34_5 := blk_frozen BK102.out 5); (have hfz34_6 := blk_frozen BK102.out 6); (go_wp2_with (first | ((with_reducible refine gate_callee (f := 82) rfl ?_); refine gL (some 59) Tryd.func82 #[.int .i64 ((rd_T54 l0 a1).f2), .int .i64 (-999999), .int .i64 ((rd_T54 l0 a1).f3)] ?_; (with_reducible refine (spec_l1In.calls ((rd_T54 l0 a1).f2) (-999999) ((rd_T54 l0 a1).f3) true _ A31.out).mono ?_); rintro e w' ⟨rfl, ⟨nd, rfl⟩⟩; refine ⟨_, rfl, ?_⟩))); go_ret; (exact Q100)
          ·rw [if_neg c33] at H
           (have c33b0 := decide_eq_false c33); clear c33; (obtain rfl := Option.some.inj H); (have hcz35_0 := cz BK102.out 0); (have hcz35_1 := cz BK102.out 1); (have hcz35_2 := cz BK102.out 2); (have hcz35_3 := cz BK102.out 3); (have hcz35_4 := cz BK102.out 4); (have hcz35_5 := cz BK102.out 5); (have hcz35_6 := cz BK102.out 6); (have hfz35_0 := blk_frozen BK102.out 0); (have hfz35_1 := blk_frozen BK102.out 1); (have hfz35_2 := blk_frozen BK102.out 2); (have hfz35_3 := blk_frozen BK102.out 3); (have hfz35_4 := blk_frozen BK102.out 4); (have hfz35_5 := blk_frozen BK102.out 5); (have hfz35_6 := blk_frozen BK102.out 6); (go_wp2_with (first | ((with_reducible refine gate_callee (f := 82) rfl ?_); refine gL (some 59) Tryd.func82 #[.int .i64 ((rd_T54 l0 a1).f2), .int .i64 (-999999), .int .i64 ((rd_T54 l0 a1).f3)] ?_; (with_reducible refine (spec_l1In.calls ((rd_T54 l0 a1).f2) (-999999) ((rd_T54 l0 a1).f3) true _ A31.out).mono ?_); rintro e w' ⟨rfl, ⟨nd, rfl⟩⟩; refine ⟨_, rfl, ?_⟩))); go_ret; (exact Q100)
         ·replace c32 := Bool.eq_false_iff.mpr c32
          subst c32; (rw [if_neg (show ¬ (false = true) by decide)] at H); (obtain rfl := Option.some.inj H); (have hcz36_0 := cz BK102.out 0); (have hcz36_1 := cz BK102.out 1); (have hcz36_2 := cz BK102.out 2); (have hcz36_3 := cz BK102.out 3); (have hcz36_4 := cz BK102.out 4); (have hcz36_5 := cz BK102.out 5); (have hcz36_6 := cz BK102.out 6); (have hfz36_0 := blk_frozen BK102.out 0); (have hfz36_1 := blk_frozen BK102.out 1); (have hfz36_2 := blk_frozen BK102.out 2); (have hfz36_3 := blk_frozen BK102.out 3); (have hfz36_4 := blk_frozen BK102.out 4); (have hfz36_5 := blk_frozen BK102.out 5); (have hfz36_6 := blk_frozen BK102.out 6); (go_wp2_with (first | ((with_reducible refine gate_callee (f := 82) rfl ?_); refine gL (some 59) Tryd.func82 #[.int .i64 ((rd_T54 l0 a1).f2), .int .i64 (-999999), .int .i64 ((rd_T54 l0 a1).f3)] ?_; (with_reducible refine (spec_l1In.calls ((rd_T54 l0 a1).f2) (-999999) ((rd_T54 l0 a1).f3) false _ A31.out).mono ?_); rintro e w' ⟨rfl, ⟨nd, rfl⟩⟩; refine ⟨_, rfl, ?_⟩))); go_ret; (exact Q100)
        ·rw [if_neg c30] at H
         (have c30b0 : (((rd_T54 l0 a1).f1) == 1) = false := beq_eq_false_iff_ne.mpr c30); (have c30b1 : (((rd_T54 l0 a1).f1) != 1) = true := bne_iff_ne.mpr c30); (by_cases c37 : ((rd_T54 l0 a1).f1) = 2)
         ·rw [if_pos c37] at H
          (have c37b0 : (((rd_T54 l0 a1).f1) == 2) = true := beq_iff_eq.mpr c37); (have c37b1 : (((rd_T54 l0 a1).f1) != 2) = false := bne_eq_false_iff_eq.mpr c37); clear c37; (replace H := obS H); (obtain ⟨t109, A38, H⟩ := H); (by_cases c39 : t109 = true)
          ·subst c39
           (rw [if_pos rfl] at H); (by_cases c40 : ((rd_T54 l0 a1).f3) ≤ 40)
           ·rw [if_pos c40] at H
            (have c40b0 := decide_eq_true c40); clear c40; (obtain rfl := Option.some.inj H); (have hcz41_0 := cz BK102.out 0); (have hcz41_1 := cz BK102.out 1); (have hcz41_2 := cz BK102.out 2); (have hcz41_3 := cz BK102.out 3); (have hcz41_4 := cz BK102.out 4); (have hcz41_5 := cz BK102.out 5); (have hcz41_6 := cz BK102.out 6); (have hfz41_0 := blk_frozen BK102.out 0); (have hfz41_1 := blk_frozen BK102.out 1); (have hfz41_2 := blk_frozen BK102.out 2); (have hfz41_3 := blk_frozen BK102.out 3); (have hfz41_4 := blk_frozen BK102.out 4); (have hfz41_5 := blk_frozen BK102.out 5); (have hfz41_6 := blk_frozen BK102.out 6); (go_wp2_with (first | ((with_reducible refine gate_callee (f := 82) rfl ?_); refine gL (some 77) Tryd.func82 #[.int .i64 ((rd_T54 l0 a1).f2), .int .i64 0, .int .i64 ((rd_T54 l0 a1).f3)] ?_; (with_reducible refine (spec_l1In.calls ((rd_T54 l0 a1).f2) 0 ((rd_T54 l0 a1).f3) true _ A38.out).mono ?_); rintro e w' ⟨rfl, ⟨nd, rfl⟩⟩; refine ⟨_, rfl, ?_⟩))); go_ret; (exact Q100)
           ·rw [if_neg c40] at H
            (have c40b0 := decide_eq_false c40); clear c40; (obtain rfl := Option.some.inj H); (have hcz42_0 := cz BK102.out 0); (have hcz42_1 := cz BK102.out 1); (have hcz42_2 := cz BK102.out 2); (have hcz42_3 := cz BK102.out 3); (have hcz42_4 := cz BK102.out 4); (have hcz42_5 := cz BK102.out 5); (have hcz42_6 := cz BK102.out 6); (have hfz42_0 := blk_frozen BK102.out 0); (have hfz42_1 := blk_frozen BK102.out 1); (have hfz42_2 := blk_frozen BK102.out 2); (have hfz42_3 := blk_frozen BK102.out 3); (have hfz42_4 := blk_frozen BK102.out 4); (have hfz42_5 := blk_frozen BK102.out 5); (have hfz42_6 := blk_frozen BK102.out 6); (go_wp2_with (first | ((with_reducible refine gate_callee (f := 82) rfl ?_); refine gL (some 77) Tryd.func82 #[.int .i64 ((rd_T54 l0 a1).f2), .int .i64 0, .int .i64 ((rd_T54 l0 a1).f3)] ?_; (with_reducible refine (spec_l1In.calls ((rd_T54 l0 a1).f2) 0 ((rd_T54 l0 a1).f3) true _ A38.out).mono ?_); rintro e w' ⟨rfl, ⟨nd, rfl⟩⟩; refine ⟨_, rfl, ?_⟩))); go_ret; (exact Q100)
          ·replace c39 := Bool.eq_false_iff.mpr c39
           subst c39; (rw [if_neg (show ¬ (false = true) by decide)] at H); (obtain rfl := Option.some.inj H); (have hcz43_0 := cz BK102.out 0); (have hcz43_1 := cz BK102.out 1); (have hcz43_2 := cz BK102.out 2); (have hcz43_3 := cz BK102.out 3); (have hcz43_4 := cz BK102.out 4); (have hcz43_5 := cz BK102.out 5); (have hcz43_6 := cz BK102.out 6); (have hfz43_0 := blk_frozen BK102.out 0); (have hfz43_1 := blk_frozen BK102.out 1); (have hfz43_2 := blk_frozen BK102.out 2); (have hfz43_3 := blk_frozen BK102.out 3); (have hfz43_4 := blk_frozen BK102.out 4); (have hfz43_5 := blk_frozen BK102.out 5); (have hfz43_6 := blk_frozen BK102.out 6); (go_wp2_with (first | ((with_reducible refine gate_callee (f := 82) rfl ?_); refine gL (some 77) Tryd.func82 #[.int .i64 ((rd_T54 l0 a1).f2), .int .i64 0, .int .i64 ((rd_T54 l0 a1).f3)] ?_; (with_reducible refine (spec_l1In.calls ((rd_T54 l0 a1).f2) 0 ((rd_T54 l0 a1).f3) false _ A38.out).mono ?_); rintro e w' ⟨rfl, ⟨nd, rfl⟩⟩; refine ⟨_, rfl, ?_⟩))); go_ret; (exact Q100)
         ·rw [if_neg c37] at H
          (have c37b0 : (((rd_T54 l0 a1).f1) == 2) = false := beq_eq_false_iff_ne.mpr c37); (have c37b1 : (((rd_T54 l0 a1).f1) != 2) = true := bne_iff_ne.mpr c37); (by_cases c44 : ((rd_T54 l0 a1).f1) = 3)
          ·rw [if_pos c44] at H
           (have c44b0 : (((rd_T54 l0 a1).f1) == 3) = true := beq_iff_eq.mpr c44); (have c44b1 : (((rd_T54 l0 a1).f1) != 3) = false := bne_eq_false_iff_eq.mpr c44); clear c44; (by_cases c45 : ((rd_T54 l0 a1).f2) = 0)
           ·rw [if_pos c45] at H
            (have c45b0 : (((rd_T54 l0 a1).f2) == 0) = true := beq_iff_eq.mpr c45); (have c45b1 : (((rd_T54 l0 a1).f2) != 0) = false := bne_eq_false_iff_eq.mpr c45); clear c45; (by_cases c46 : ((rd_T54 l0 a1).f3) = 0)
            ·rw [if_pos c46] at H
             (have c46b0 : (((rd_T54 l0 a1).f3) == 0) = true := beq_iff_eq.mpr c46); (have c46b1 : (((rd_T54 l0 a1).f3) != 0) = false := bne_eq_false_iff_eq.mpr c46); clear c46; (replace H := obS H); (obtain ⟨t110, A47, H⟩ := H); (by_cases c48 : t110 = true)
             ·subst c48
              (rw [if_pos rfl] at H); (replace H := obS H); (obtain ⟨t111, A49, H⟩ := H); (obtain rfl := Option.some.inj H); (have hcz50_0 := cz BK102.out 0); (have hcz50_1 := cz BK102.out 1); (have hcz50_2 := cz BK102.out 2); (have hcz50_3 := cz BK102.out 3); (have hcz50_4 := cz BK102.out 4); (have hcz50_5 := cz BK102.out 5); (have hcz50_6 := cz BK102.out 6); (have hfz50_0 := blk_frozen BK102.out 0); (have hfz50_1 := blk_frozen BK102.out 1); (have hfz50_2 := blk_frozen BK102.out 2); (have hfz50_3 := blk_frozen BK102.out 3); (have hfz50_4 := blk_frozen BK102.out 4); (have hfz50_5 := blk_frozen BK102.out 5); (have hfz50_6 := blk_frozen BK102.out 6); (go_wp2_with (first | (go_at_call 82; (with_reducible refine (spec_l1In.calls (((rd_T54 l0 a1).f4).length : Int) 1 6 true _ A47.out).mono ?_); rintro e w' ⟨rfl, ⟨nd, rfl⟩⟩) | (go_at_call 83; (with_reducible refine (spec_l23Names.calls kj16 _ _ ((rd_T54 l0 a1).f4) t111 _ ?side1 ?side2 A49.out).mono ?_); (case side1 => exact Q109); (case side2 => exact HC101_4.out); rintro e w' ⟨rfl, ⟨nd, rfl⟩⟩))); go_ret; (exact Q100)
             ·replace c48 := Bool.eq_false_iff.mpr c48
              subst c48; (rw [if_neg (show ¬ (false = true) by decide)] at H); (obtain rfl := Option.some.inj H); (have hcz51_0 := cz BK102.out 0); (have hcz51_1 := cz BK102.out 1); (have hcz51_2 := cz BK102.out 2); (have hcz51_3 := cz BK102.out 3); (have hcz51_4 := cz BK102.out 4); (have hcz51_5 := cz BK102.out 5); (have hcz51_6 := cz BK102.out 6); (have hfz51_0 := blk_frozen BK102.out 0); (have hfz51_1 := blk_frozen BK102.out 1); (have hfz51_2 := blk_frozen BK102.out 2); (have hfz51_3 := blk_frozen BK102.out 3); (have hfz51_4 := blk_frozen BK102.out 4); (have hfz51_5 := blk_frozen BK102.out 5); (have hfz51_6 := blk_frozen BK102.out 6); (go_wp2_with (first | (go_at_call 82; (with_reducible refine (spec_l1In.calls (((rd_T54 l0 a1).f4).length : Int) 1 6 false _ A47.out).mono ?_); rintro e w' ⟨rfl, ⟨nd, rfl⟩⟩))); go_ret; (exact Q100)
            ·rw [if_neg c46] at H
             (have c46b0 : (((rd_T54 l0 a1).f3) == 0) = false := beq_eq_false_iff_ne.mpr c46); (have c46b1 : (((rd_T54 l0 a1).f3) != 0) = true := bne_iff_ne.mpr c46); (obtain rfl := Option.some.inj H); (have hcz52_0 := cz BK102.out 0); (have hcz52_1 := cz BK102.out 1); (have hcz52_2 := cz BK102.out 2); (have hcz52_3 := cz BK102.out 3); (have hcz52_4 := cz BK102.out 4); (have hcz52_5 := cz BK102.out 5); (have hcz52_6 := cz BK102.out 6); (have hfz52_0 := blk_frozen BK102.out 0); (have hfz52_1 := blk_frozen BK102.out 1); (have hfz52_2 := blk_frozen BK102.out 2); (have hfz52_3 := blk_frozen BK102.out 3); (have hfz52_4 := blk_frozen BK102.out 4); (have hfz52_5 := blk_frozen BK102.out 5); (have hfz52_6 := blk_frozen BK102.out 6); (go_wp2); go_ret; (exact Q100)
           ·rw [if_neg c45] at H
            (have c45b0 : (((rd_T54 l0 a1).f2) == 0) = false := beq_eq_false_iff_ne.mpr c45); (have c45b1 : (((rd_T54 l0 a1).f2) != 0) = true := bne_iff_ne.mpr c45); (obtain rfl := Option.some.inj H); (have hcz53_0 := cz BK102.out 0); (have hcz53_1 := cz BK102.out 1); (have hcz53_2 := cz BK102.out 2); (have hcz53_3 := cz BK102.out 3); (have hcz53_4 := cz BK102.out 4); (have hcz53_5 := cz BK102.out 5); (have hcz53_6 := cz BK102.out 6); (have hfz53_0 := blk_frozen BK102.out 0); (have hfz53_1 := blk_frozen BK102.out 1); (have hfz53_2 := blk_frozen BK102.out 2); (have hfz53_3 := blk_frozen BK102.out 3); (have hfz53_4 := blk_frozen BK102.out 4); (have hfz53_5 := blk_frozen BK102.out 5); (have hfz53_6 := blk_frozen BK102.out 6); (go_wp2); go_ret; (exact Q100)
          ·rw [if_neg c44] at H
           (have c44b0 : (((rd_T54 l0 a1).f1) == 3) = false := beq_eq_false_iff_ne.mpr c44); (have c44b1 : (((rd_T54 l0 a1).f1) != 3) = true := bne_iff_ne.mpr c44); (by_cases c54 : ((rd_T54 l0 a1).f2) = 0)
           ·rw [if_pos c54] at H
            (have c54b0 : (((rd_T54 l0 a1).f2) == 0) = true := beq_iff_eq.mpr c54); (have c54b1 : (((rd_T54 l0 a1).f2) != 0) = false := bne_eq_false_iff_eq.mpr c54); clear c54; (by_cases c55 : ((rd_T54 l0 a1).f3) = 0)
            ·rw [if_pos c55] at H
             (have c55b0 : (((rd_T54 l0 a1).f3) == 0) = true := beq_iff_eq.mpr c55); (have c55b1 : (((rd_T54 l0 a1).f3) != 0) = false := bne_eq_false_iff_eq.mpr c55); clear c55; (obtain rfl := Option.some.inj H); (have hcz56_0 := cz BK102.out 0); (have hcz56_1 := cz BK102.out 1); (have hcz56_2 := cz BK102.out 2); (have hcz56_3 := cz BK102.out 3); (have hcz56_4 := cz BK102.out 4); (have hcz56_5 := cz BK102.out 5); (have hcz56_6 := cz BK102.out 6); (have hfz56_0 := blk_frozen BK102.out 0); (have hfz56_1 := blk_frozen BK102.out 1); (have hfz56_2 := blk_frozen BK102.out 2); (have hfz56_3 := blk_frozen BK102.out 3); (have hfz56_4 := blk_frozen BK102.out 4); (have hfz56_5 := blk_frozen BK102.out 5); (have hfz56_6 := blk_frozen BK102.out 6); (go_wp2); go_ret; (exact Q100)
            ·rw [if_neg c55] at H
             (have c55b0 : (((rd_T54 l0 a1).f3) == 0) = false := beq_eq_false_iff_ne.mpr c55); (have c55b1 : (((rd_T54 l0 a1).f3) != 0) = true := bne_iff_ne.mpr c55); (obtain rfl := Option.some.inj H); (have hcz57_0 := cz BK102.out 0); (have hcz57_1 := cz BK102.out 1); (have hcz57_2 := cz BK102.out 2); (have hcz57_3 := cz BK102.out 3); (have hcz57_4 := cz BK102.out 4); (have hcz57_5 := cz BK102.out 5); (have hcz57_6 := cz BK102.out 6); (have hfz57_0 := blk_frozen BK102.out 0); (have hfz57_1 := blk_frozen BK102.out 1); (have hfz57_2 := blk_frozen BK102.out 2); (have hfz57_3 := blk_frozen BK102.out 3); (have hfz57_4 := blk_frozen BK102.out 4); (have hfz57_5 := blk_frozen BK102.out 5); (have hfz57_6 := blk_frozen BK102.out 6); (go_wp2); go_ret; (exact Q100)
           ·rw [if_neg c54] at H
            (have c54b0 : (((rd_T54 l0 a1).f2) == 0) = false := beq_eq_false_iff_ne.mpr c54); (have c54b1 : (((rd_T54 l0 a1).f2) != 0) = true := bne_iff_ne.mpr c54); (obtain rfl := Option.some.inj H); (have hcz58_0 := cz BK102.out 0); (have hcz58_1 := cz BK102.out 1); (have hcz58_2 := cz BK102.out 2); (have hcz58_3 := cz BK102.out 3); (have hcz58_4 := cz BK102.out 4); (have hcz58_5 := cz BK102.out 5); (have hcz58_6 := cz BK102.out 6); (have hfz58_0 := blk_frozen BK102.out 0); (have hfz58_1 := blk_frozen BK102.out 1); (have hfz58_2 := blk_frozen BK102.out 2); (have hfz58_3 := blk_frozen BK102.out 3); (have hfz58_4 := blk_frozen BK102.out 4); (have hfz58_5 := blk_frozen BK102.out 5); (have hfz58_6 := blk_frozen BK102.out 6); (go_wp2); go_ret; (exact Q100)
  ·rw [if_neg c4] at H
   exact Q1
 ·rw [if_neg c3] at H
  exact Q1
end Go.Proofs.YtiaiohoadefgjaaDoor.X
