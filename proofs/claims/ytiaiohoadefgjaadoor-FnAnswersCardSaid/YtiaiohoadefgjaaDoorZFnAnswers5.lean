/- For every row of bytes the law FnAnswers answers true: clearing hidden answers changes no visible field and leaves none hidden, and an answer that is set is there. No condition.
This file (part 5 of 6) holds what the proof needs: plain functions with rounds and contracts written by programs of this work over the translation, and the lemmas. -/
import Derived.Test.YtiaiohoadefgjaaDoorZFnAnswers2
import Derived.Test.YtiaiohoadefgjaaDoorZFnAnswers4
import Derived.Test.YtiaiohoadefgjaaDoorZFnAnswers3
import Derived.Shelf.Abstract
import Derived.Test.YtiaiohoadefgjaaDoorZFnAnswers1
import Derived.ChangeArms
import Derived.DataReads
import Derived.Deep.Slices
import Derived.ChangeOld
import Derived.OpenShut
namespace Go.Proofs.YtiaiohoadefgjaaDoor.X
open Go.RowKit Go.Proofs.YtiaiohoadefgjaaDoorW.PrintWords Go.Proofs.YtiaiohoadefgjaaDoorW.PrintLast Go.Proofs.YtiaiohoadefgjaaDoorW.PrintMore
attribute [local go_sem] max2_int min2_int max_two min_two max_three min_three max_four min_four
set_option linter.unusedVariables false
set_option linter.unusedSimpArgs false
attribute [-simp] ByteArray.size_append ByteArray.size_extract
attribute [-go_sem] ByteArray.size_append'
/-! ### spec_l23Good: function 31 -/
def spec_l23Good.l0 : Nat → List (S54) → Int → Option (Bool)
 | 0, _, _ => none
 | k + 1, x0, x3 => if x3 < (x0.length : Int) then ((spec_l23Field.f k x0 x3).bind fun t101 => (if t101 = true then (spec_l23Good.l0 k x0 (wrap64 (x3 + 1))) else (some false))) else (some true)
def spec_l23Good.f (k : Nat) (l0 : List (S54)) : Option (Bool) := if (l0.length : Int) > 10 then (some false) else (spec_l23Good.l0 k l0 0)
set_option maxHeartbeats 8000000 in
set_option maxRecDepth 100000 in
theorem spec_l23Good.calls (k : Nat) (A0 : Option Addr) (c0 : Nat) (l0 : List (S54)) (r : Bool) (w : World) (hr0 : Kd.C k54 w A0 l0.length l0) (hc0 : l0.length ≤ c0) (h : spec_l23Good.f k l0 = some r) :
  Calls Tryd.prog 31 #[.slice A0 l0.length c0] w fun e w' => e = .returned (.bool r) ∧ Below w.heap.size w w' := by
 (have HR0 := Aside0.mk hr0); (have HC0 := Aside0.mk hc0); clear hr0 hc0; (have HB := Aside0.mk (Below.refl w.heap.size w)); (unfold spec_l23Good.f at h); (have H := h); clear h; (by_cases c2 : (l0.length : Int) > 10); (· (rw [if_pos c2] at H); (have c2b0 : decide (10 < (l0.length : Int)) = true := decide_eq_true c2); (have c2b1 : decide (10 < l0.length) = true := decide_eq_true (by omega)); clear c2; (obtain rfl := Option.some.inj H); (go_enter Tryd.func31, Tryd.ntmps31); (go_wp2); go_ret; (exact Q100))
 ·rw [if_neg c2] at H
  (have c2b0 : decide (10 < (l0.length : Int)) = false := decide_eq_false c2); (have c2b1 : decide (10 < l0.length) = false := decide_eq_false (by omega)); clear c2; (have H' := Aside0.mk H); clear H; (go_enter Tryd.func31, Tryd.ntmps31); (go_wp2); (go_loopg [3] k (fun kq v3 w' => ∃ (x3_1 : Int), v3 = .int .i64 x3_1 ∧ Aside0 (spec_l23Good.l0 kq l0 x3_1 = some r) ∧ Aside0 (kq ≤ k) ∧ Aside0 (Below w.heap.size w w')))
  case atStart => exact Q106
  case round =>
   (clear H'); (try clear c2); (try clear c2b0); (try clear c2b1); (try clear p2); (obtain ⟨x3_1, rfl, HA, HK1, HB⟩ := hrel)
   cases gk with
   | zero => exact absurd HA.out (by simp [spec_l23Good.l0])
   | succ k1 =>
    (have H := HA.out); clear HA; (simp only [spec_l23Good.l0] at H); (by_cases c3 : x3_1 < (l0.length : Int))
    ·rw [if_pos c3] at H
     (have c3b0 := decide_eq_true c3); clear c3; (replace H := obS H); (obtain ⟨t101, A4, H⟩ := H); (by_cases c5 : t101 = true)
     ·subst c5
      (rw [if_pos rfl] at H); (have H' := Aside0.mk H); clear H; (go_wp2_with (first | ((with_reducible refine gate_callee (f := 56) rfl ?_); refine gL (some 15) Tryd.func56 #[.slice A0 l0.length c0, .int .i64 x3_1] ?_; (with_reducible refine (spec_l23Field.calls k1 _ _ l0 x3_1 true _ ?side1 ?side2 A4.out).mono ?_); (case side1 => exact Q98); (case side2 => exact HC0.out); rintro e w6 ⟨rfl, hb⟩; refine ⟨_, rfl, ?_⟩; have n0_ := Aside0.mk (sI hb HB); clear HB; have HB := n0_; clear n0_; (try clear hb); (try clear hb2); (try clear hk); (try clear hi)))); go_roundg k1
      case measure => have := HK1.out; omega
      case rel => exact ⟨(wrap64 (x3_1 + 1)), Q32, H', ⟨Q69⟩, ⟨eI HB⟩⟩
     ·replace c5 := Bool.eq_false_iff.mpr c5
      subst c5; (rw [if_neg (show ¬ (false = true) by decide)] at H); (obtain rfl := Option.some.inj H); (go_wp2_with (first | ((with_reducible refine gate_callee (f := 56) rfl ?_); refine gL (some 15) Tryd.func56 #[.slice A0 l0.length c0, .int .i64 x3_1] ?_; (with_reducible refine (spec_l23Field.calls k1 _ _ l0 x3_1 false _ ?side1 ?side2 A4.out).mono ?_); (case side1 => exact Q98); (case side2 => exact HC0.out); rintro e w7 ⟨rfl, hb⟩; refine ⟨_, rfl, ?_⟩; have n0_ := Aside0.mk (sI hb HB); clear HB; have HB := n0_; clear n0_; (try clear hb); (try clear hb2); (try clear hk); (try clear hi)))); go_ret; (exact Q100)
    ·rw [if_neg c3] at H
     (have c3b0 := decide_eq_false c3); clear c3; (obtain rfl := Option.some.inj H); (go_wp2); go_ret; (exact Q100)
/-! ### spec_l21Text: function 64 -/
mutual
def spec_l21Text.l0 : Nat → ByteArray → Int → Option (Bool)
 | 0, _, _ => none
 | k + 1, x0, x3 => if x3 < (x0.size : Int) then (spec_l21Text.j1 k x0 x3 (decide (x3 ≤ 40))) else (spec_l21Text.j1 k x0 x3 false)
def spec_l21Text.j1 : Nat → ByteArray → Int → Bool → Option (Bool)
 | 0, _, _, _ => none
 | k + 1, x0, x3, x11 => if x11 = true then (if 0 ≤ x3 then (if x3 < (x0.size : Int) then (if (bt x0 x3) < 32 then (some false) else (if (bt x0 x3) > 126 then (some false) else (spec_l21Text.l0 k x0 (wrap64 (x3 + 1))))) else (none)) else (none)) else (some (decide ((x0.size : Int) ≤ 40)))
end
def spec_l21Text.f (k : Nat) (a0 : ByteArray) : Option (Bool) := spec_l21Text.l0 k a0 0
set_option maxHeartbeats 8000000 in
set_option maxRecDepth 100000 in
theorem spec_l21Text.calls (k : Nat) (a0 : ByteArray) (r : Bool) (w : World) (h : spec_l21Text.f k a0 = some r) :
  Calls Tryd.prog 64 #[.string a0] w fun e w' => e = .returned (.bool r) ∧ Drawn0 w w' := by
 (unfold spec_l21Text.f at h); (have H := h); clear h; (have H' := Aside0.mk H); clear H; (go_enter Tryd.func64, Tryd.ntmps64); (go_wp2); (go_loopg [3] k (fun kq v3 w' => ∃ (x3_1 : Int), v3 = .int .i64 x3_1 ∧ Aside0 (spec_l21Text.l0 kq a0 x3_1 = some r) ∧ Aside0 (kq ≤ k) ∧ Drawn0 w w'))
 case atStart => exact Q94
 case round =>
  (clear H'); (obtain ⟨x3_1, rfl, HA, HK1, ⟨m1, rfl⟩⟩ := hrel)
  cases gk with
  | zero => exact absurd HA.out (by simp [spec_l21Text.l0])
  | succ k1 =>
   (have H := HA.out); clear HA; (simp only [spec_l21Text.l0] at H); (have HC2 := Aside0.mk H); clear H; (go_upto_region 2 with (fail)); (go_cut [11] (fun v11 wc => ∃ (kq : Nat) (x11_1 : Bool), v11 = .bool x11_1 ∧ Aside0 (spec_l21Text.j1 kq a0 x3_1 x11_1 = some r) ∧ Aside0 (kq ≤ k1) ∧ Drawn0 w wc))
   case first =>
    (have H := HC2.out); clear HC2; (by_cases c3 : x3_1 < (a0.size : Int))
    ·rw [if_pos c3] at H
     (have c3b0 := decide_eq_true c3); clear c3; ((first | rw [c3b0] | (simp only [i64_w, i32_w]; rw [c3b0]) | skip)); (have H' := Aside0.mk H); clear H; (go_wp2); (go_meet)
     case rel => exact ⟨_, (decide (x3_1 ≤ 40)), Q32, H', ⟨Q50⟩, Q140⟩
    ·rw [if_neg c3] at H
     (have c3b0 := decide_eq_false c3); clear c3; ((first | rw [c3b0] | (simp only [i64_w, i32_w]; rw [c3b0]) | skip)); (have H' := Aside0.mk H); clear H; (go_wp2); (go_meet)
     case rel => exact ⟨_, (false), Q32, H', ⟨Q50⟩, Q140⟩
   case rest =>
    clear HC2; (try clear p2); (try clear c3); (try clear c3b0); (obtain ⟨kq, x11_1, rfl, HA, HJ1, ⟨mc1, rfl⟩⟩ := hcut)
    cases kq with
    | zero => exact absurd HA.out (by simp [spec_l21Text.j1])
    | succ kj1 =>
     (have H := HA.out); clear HA; (simp only [spec_l21Text.j1] at H); (by_cases c4 : x11_1 = true)
     ·subst c4
      (rw [if_pos rfl] at H); (by_cases c5 : 0 ≤ x3_1)
      ·rw [if_pos c5] at H
       (have c5b0 := decide_eq_true c5); clear c5; (by_cases c6 : x3_1 < (a0.size : Int))
       ·rw [if_pos c6] at H
        (have c6b0 := decide_eq_true c6); clear c6; (by_cases c8 : (bt a0 x3_1) < 32); (· (rw [if_pos c8] at H); (have c8b0 := decide_eq_true c8); clear c8; (obtain rfl := Option.some.inj H); (have p7 : 0 ≤ (x3_1 : Int) := odt); (have q7 : x3_1 < (a0.size : Int) := odt); (have hx7 := bt_at a0 x3_1); (replace p7 := eq_true p7); (replace q7 := eq_true q7); (go_wp2); go_ret; (exact Q95))
        ·rw [if_neg c8] at H
         (have c8b0 := decide_eq_false c8); clear c8; (by_cases c10 : (bt a0 x3_1) > 126)
         ·rw [if_pos c10] at H
          (have c10b0 : decide (126 < (bt a0 x3_1)) = true := decide_eq_true c10); clear c10; (obtain rfl := Option.some.inj H); (have p7 : 0 ≤ (x3_1 : Int) := odt); (have q7 : x3_1 < (a0.size : Int) := odt); (have hx7 := bt_at a0 x3_1); (replace p7 := eq_true p7); (replace q7 := eq_true q7); (have p9 : 0 ≤ (x3_1 : Int) := odt); (have q9 : x3_1 < (a0.size : Int) := odt); (have hx9 := bt_at a0 x3_1); (replace p9 := eq_true p9); (replace q9 := eq_true q9); (go_wp2); go_ret; (exact Q95)
         ·rw [if_neg c10] at H
          (have c10b0 : decide (126 < (bt a0 x3_1)) = false := decide_eq_false c10); clear c10; (have H' := Aside0.mk H); clear H; (have p7 : 0 ≤ (x3_1 : Int) := odt); (have q7 : x3_1 < (a0.size : Int) := odt); (have hx7 := bt_at a0 x3_1); (replace p7 := eq_true p7); (replace q7 := eq_true q7); (have p9 : 0 ≤ (x3_1 : Int) := odt); (have q9 : x3_1 < (a0.size : Int) := odt); (have hx9 := bt_at a0 x3_1); (replace p9 := eq_true p9); (replace q9 := eq_true q9); (go_wp2); go_roundg kj1
          case measure => have := HK1.out; have := HJ1.out; omega
          case rel => exact ⟨(wrap64 (x3_1 + 1)), Q32, H', ⟨by have := HK1.out; have := HJ1.out; omega⟩, Q140⟩
       ·rw [if_neg c6] at H
        exact Q1
      ·rw [if_neg c5] at H
       exact Q1
     ·replace c4 := Bool.eq_false_iff.mpr c4
      subst c4; (rw [if_neg (show ¬ (false = true) by decide)] at H); (obtain rfl := Option.some.inj H); (go_wp2); go_ret; (exact Q95)
/-! ### spec_l23Answers: function 40 -/
mutual
def spec_l23Answers.j0 : Nat → List (S54) → List (S51) → Bool → Option (Bool)
 | 0, _, _, _ => none
 | k + 1, x0, x1, x17 => if x17 = true then (some false) else (spec_l23Answers.l0 k x0 x1 (-1) 0)
def spec_l23Answers.l0 : Nat → List (S54) → List (S51) → Int → Int → Option (Bool)
 | 0, _, _, _, _ => none
 | k + 1, x0, x1, x5, x6 => if x6 < (x1.length : Int) then (if 0 ≤ x6 then ((spec_l23Find.f k x0 ((rd_T51 x1 x6).f0)).bind fun t103 => (if t103 ≤ x5 then (some false) else ((spec_l21Text.f k ((rd_T51 x1 x6).f1)).bind fun t105 => (if t105 = true then (spec_l23Answers.l0 k x0 x1 t103 (wrap64 (x6 + 1))) else (some false))))) else (none)) else (some true)
end
def spec_l23Answers.f (k : Nat) (l0 : List (S54)) (l1 : List (S51)) : Option (Bool) := (spec_l23Good.f k l0).bind fun t101 => (if t101 = true then (spec_l23Answers.j0 k l0 l1 (decide ((l1.length : Int) > (l0.length : Int)))) else (spec_l23Answers.j0 k l0 l1 true))
set_option maxHeartbeats 8000000 in
set_option maxRecDepth 100000 in
theorem spec_l23Answers.calls (k : Nat) (A0 : Option Addr) (c0 : Nat) (l0 : List (S54)) (A1 : Option Addr) (c1 : Nat) (l1 : List (S51)) (r : Bool) (w : World) (hr0 : Kd.C k54 w A0 l0.length l0) (hc0 : l0.length ≤ c0) (hr1 : Kd.C k51 w A1 l1.length l1) (hc1 : l1.length ≤ c1) (h : spec_l23Answers.f k l0 l1 = some r) :
  Calls Tryd.prog 40 #[.slice A0 l0.length c0, .slice A1 l1.length c1] w fun e w' => e = .returned (.bool r) ∧ Below w.heap.size w w' := by
 (have HR0 := Aside0.mk hr0); (have HC0 := Aside0.mk hc0); clear hr0 hc0; (have HR1 := Aside0.mk hr1); (have HC1 := Aside0.mk hc1); clear hr1 hc1; (have HB := Aside0.mk (Below.refl w.heap.size w)); (unfold spec_l23Answers.f at h); (have H := h); clear h; (have HC3 := Aside0.mk H); clear H; (go_enter Tryd.func40, Tryd.ntmps40); (go_upto_region 1 with (fail)); (go_cut [17] (fun v17 wc => ∃ (kq : Nat) (x17_2 : Bool), v17 = .bool x17_2 ∧ Aside0 (spec_l23Answers.j0 kq l0 l1 x17_2 = some r) ∧ Aside0 (kq ≤ k) ∧ Aside0 (Below w.heap.size w wc)))
 case first =>
  (have H := HC3.out); clear HC3; (replace H := obS H); (obtain ⟨t101, A4, H⟩ := H); (by_cases c5 : t101 = true)
  ·subst c5
   (rw [if_pos rfl] at H); (have H' := Aside0.mk H); clear H; (go_wp2_with (first | ((with_reducible refine gate_callee (f := 31) rfl ?_); refine gL (some 9) Tryd.func31 #[.slice A0 l0.length c0] ?_; (with_reducible refine (spec_l23Good.calls k _ _ l0 true _ ?side1 ?side2 A4.out).mono ?_); (case side1 => exact Q98); (case side2 => exact HC0.out); rintro e w6 ⟨rfl, hb⟩; refine ⟨_, rfl, ?_⟩; have n0_ := Aside0.mk (sI hb HB); clear HB; have HB := n0_; clear n0_; (try clear hb); (try clear hb2); (try clear hk); (try clear hi)))); (go_meet)
   case rel => exact ⟨_, (decide ((l1.length : Int) > (l0.length : Int))), Q32, H', ⟨Q99⟩, ⟨eI HB⟩⟩
  ·replace c5 := Bool.eq_false_iff.mpr c5
   subst c5; (rw [if_neg (show ¬ (false = true) by decide)] at H); (have H' := Aside0.mk H); clear H; (go_wp2_with (first | ((with_reducible refine gate_callee (f := 31) rfl ?_); refine gL (some 9) Tryd.func31 #[.slice A0 l0.length c0] ?_; (with_reducible refine (spec_l23Good.calls k _ _ l0 false _ ?side1 ?side2 A4.out).mono ?_); (case side1 => exact Q98); (case side2 => exact HC0.out); rintro e w7 ⟨rfl, hb⟩; refine ⟨_, rfl, ?_⟩; have n0_ := Aside0.mk (sI hb HB); clear HB; have HB := n0_; clear n0_; (try clear hb); (try clear hb2); (try clear hk); (try clear hi)))); (go_meet)
   case rel => exact Q149
 case rest =>
  clear HC3; (try clear c1); (try clear p2); (try clear c3); (try clear c4); (try clear c5); (obtain ⟨kq, x17_2, rfl, HA, HJ2, HB⟩ := hcut)
  cases kq with
  | zero => exact absurd HA.out (by simp [spec_l23Answers.j0])
  | succ kj2 =>
   (have H := HA.out); clear HA; (simp only [spec_l23Answers.j0] at H); (by_cases c8 : x17_2 = true); (· subst c8; (rw [if_pos rfl] at H); (obtain rfl := Option.some.inj H); (go_wp2); go_ret; (exact Q100))
   ·replace c8 := Bool.eq_false_iff.mpr c8
    subst c8; (rw [if_neg (show ¬ (false = true) by decide)] at H); (have H' := Aside0.mk H); clear H; (go_wp2); (go_loopg [5, 6] kj2 (fun kq v5 v6 w' => ∃ (x5_2 : Int) (x6_2 : Int), v5 = .int .i64 x5_2 ∧ v6 = .int .i64 x6_2 ∧ Aside0 (spec_l23Answers.l0 kq l0 l1 x5_2 x6_2 = some r) ∧ Aside0 (kq ≤ kj2) ∧ Aside0 (Below w.heap.size w w')))
    case atStart => exact Q111
    case round =>
     (clear H'); (try clear c1); (try clear p2); (try clear c3); (try clear c4); (try clear c5); (try clear c8); (try clear p2); (obtain ⟨x5_2, x6_2, rfl, rfl, HA, HK2, HB⟩ := hrel)
     cases gk with
     | zero => exact absurd HA.out (by simp [spec_l23Answers.l0])
     | succ k2 =>
      (have H := HA.out); clear HA; (simp only [spec_l23Answers.l0] at H); (by_cases c9 : x6_2 < (l1.length : Int))
      ·rw [if_pos c9] at H
       (have c9b0 := decide_eq_true c9); clear c9; (by_cases c10 : 0 ≤ x6_2)
       ·rw [if_pos c10] at H
        (have c10b0 := decide_eq_true c10); clear c10; (replace H := obS H); (obtain ⟨t103, A11, H⟩ := H); (by_cases c12 : t103 ≤ x5_2)
        ·rw [if_pos c12] at H
         (have c12b0 := decide_eq_true c12); clear c12; (obtain rfl := Option.some.inj H); (have p102 : 0 ≤ (x6_2 : Int) := odt); (have q102 : x6_2 < (l1.length : Int) := odt); (obtain ⟨ad102, e102, hx102_0, hx102_1⟩ := at_T51 HR1.out x6_2 p102 q102); (cases e102); (replace hx102_0 := hcI HB hx102_0); (replace hx102_1 := hcI HB hx102_1); (replace p102 := eq_true p102); (replace q102 := eq_true q102); (go_wp2_with (first | ((with_reducible refine gate_callee (f := 63) rfl ?_); refine gL (some 30) Tryd.func63 #[.slice A0 l0.length c0, .string ((rd_T51 l1 x6_2).f0)] ?_; (with_reducible refine (spec_l23Find.calls k2 _ _ l0 ((rd_T51 l1 x6_2).f0) t103 _ ?side1 ?side2 A11.out).mono ?_); (case side1 => exact Q98); (case side2 => exact HC0.out); rintro e w' ⟨rfl, ⟨nd, rfl⟩⟩; refine ⟨_, rfl, ?_⟩))); go_ret; (exact Q100)
        ·rw [if_neg c12] at H
         (have c12b0 := decide_eq_false c12); clear c12; (replace H := obS H); (obtain ⟨t105, A13, H⟩ := H); (by_cases c14 : t105 = true)
         ·subst c14
          (rw [if_pos rfl] at H); (have H' := Aside0.mk H); clear H; (have p102 : 0 ≤ (x6_2 : Int) := odt); (have q102 : x6_2 < (l1.length : Int) := odt); (obtain ⟨ad102, e102, hx102_0, hx102_1⟩ := at_T51 HR1.out x6_2 p102 q102); (cases e102); (replace hx102_0 := hcI HB hx102_0); (replace hx102_1 := hcI HB hx102_1); (replace p102 := eq_true p102); (replace q102 := eq_true q102); (go_wp2_with (first | ((with_reducible refine gate_callee (f := 63) rfl ?_); refine gL (some 30) Tryd.func63 #[.slice A0 l0.length c0, .string ((rd_T51 l1 x6_2).f0)] ?_; (with_reducible refine (spec_l23Find.calls k2 _ _ l0 ((rd_T51 l1 x6_2).f0) t103 _ ?side1 ?side2 A11.out).mono ?_); (case side1 => exact Q98); (case side2 => exact HC0.out); rintro e w' ⟨rfl, ⟨nd, rfl⟩⟩; refine ⟨_, rfl, ?_⟩; have p104 : 0 ≤ (x6_2 : Int) := odt; have q104 : x6_2 < (l1.length : Int) := odt; obtain ⟨ad104, e104, hx104_0, hx104_1⟩ := at_T51 HR1.out x6_2 p104 q104; obtain rfl : ad102 = ad104 := (by injection e104); replace hx104_0 := hcI HB hx104_0; replace hx104_1 := hcI HB hx104_1; replace p104 := eq_true p104; replace q104 := eq_true q104) | (go_at_call 64; (with_reducible refine (spec_l21Text.calls k2 ((rd_T51 l1 x6_2).f1) true _ A13.out).mono ?_); rintro e w' ⟨rfl, ⟨nd, rfl⟩⟩))); go_roundg k2
          case measure => have := HJ2.out; have := HK2.out; omega
          case rel => exact ⟨(t103), (wrap64 (x6_2 + 1)), Q32, Q32, H', ⟨by have := HJ2.out; have := HK2.out; omega⟩, ⟨eI HB⟩⟩
         ·replace c14 := Bool.eq_false_iff.mpr c14
          subst c14; (rw [if_neg (show ¬ (false = true) by decide)] at H); (obtain rfl := Option.some.inj H); (have p102 : 0 ≤ (x6_2 : Int) := odt); (have q102 : x6_2 < (l1.length : Int) := odt); (obtain ⟨ad102, e102, hx102_0, hx102_1⟩ := at_T51 HR1.out x6_2 p102 q102); (cases e102); (replace hx102_0 := hcI HB hx102_0); (replace hx102_1 := hcI HB hx102_1); (replace p102 := eq_true p102); (replace q102 := eq_true q102); (go_wp2_with (first | ((with_reducible refine gate_callee (f := 63) rfl ?_); refine gL (some 30) Tryd.func63 #[.slice A0 l0.length c0, .string ((rd_T51 l1 x6_2).f0)] ?_; (with_reducible refine (spec_l23Find.calls k2 _ _ l0 ((rd_T51 l1 x6_2).f0) t103 _ ?side1 ?side2 A11.out).mono ?_); (case side1 => exact Q98); (case side2 => exact HC0.out); rintro e w' ⟨rfl, ⟨nd, rfl⟩⟩; refine ⟨_, rfl, ?_⟩; have p104 : 0 ≤ (x6_2 : Int) := odt; have q104 : x6_2 < (l1.length : Int) := odt; obtain ⟨ad104, e104, hx104_0, hx104_1⟩ := at_T51 HR1.out x6_2 p104 q104; obtain rfl : ad102 = ad104 := (by injection e104); replace hx104_0 := hcI HB hx104_0; replace hx104_1 := hcI HB hx104_1; replace p104 := eq_true p104; replace q104 := eq_true q104) | (go_at_call 64; (with_reducible refine (spec_l21Text.calls k2 ((rd_T51 l1 x6_2).f1) false _ A13.out).mono ?_); rintro e w' ⟨rfl, ⟨nd, rfl⟩⟩))); go_ret; (exact Q100)
       ·rw [if_neg c10] at H
        exact Q1
      ·rw [if_neg c9] at H
       (have c9b0 := decide_eq_false c9); clear c9; (obtain rfl := Option.some.inj H); (go_wp2); go_ret; (exact Q100)
/-! ### spec_l23Text: function 66 -/
def spec_l23Text.l0 : Nat → List (S51) → ByteArray → Int → Option (ByteArray × Bool)
 | 0, _, _, _ => none
 | k + 1, x0, x1, x6 => if x6 < (x0.length : Int) then (if 0 ≤ x6 then (if ((rd_T51 x0 x6).f0).toList = x1.toList then (some ((rd_T51 x0 x6).f1, true)) else (spec_l23Text.l0 k x0 x1 (wrap64 (x6 + 1)))) else (none)) else (some ((⟨#[]⟩ : ByteArray), false))
def spec_l23Text.f (k : Nat) (l0 : List (S51)) (a1 : ByteArray) : Option (ByteArray × Bool) := spec_l23Text.l0 k l0 a1 0
set_option maxHeartbeats 8000000 in
set_option maxRecDepth 100000 in
theorem spec_l23Text.calls (k : Nat) (A0 : Option Addr) (c0 : Nat) (l0 : List (S51)) (a1 : ByteArray) (r1 : ByteArray) (r2 : Bool) (w : World) (hr0 : Kd.C k51 w A0 l0.length l0) (hc0 : l0.length ≤ c0) (h : spec_l23Text.f k l0 a1 = some (r1, r2)) :
  Calls Tryd.prog 66 #[.slice A0 l0.length c0, .string a1] w fun e w' => e = .returned (.tuple #[.string r1, .bool r2]) ∧ Drawn0 w w' := by
 (have HR0 := Aside0.mk hr0); (have HC0 := Aside0.mk hc0); clear hr0 hc0; (unfold spec_l23Text.f at h); (have H := h); clear h; (have H' := Aside0.mk H); clear H; (go_enter Tryd.func66, Tryd.ntmps66); (go_wp2); (go_loopg [6] k (fun kq v6 w' => ∃ (x6_1 : Int), v6 = .int .i64 x6_1 ∧ Aside0 (spec_l23Text.l0 kq l0 a1 x6_1 = some (r1, r2)) ∧ Aside0 (kq ≤ k) ∧ Drawn0 w w'))
 case atStart => exact Q94
 case round =>
  (clear H'); (try clear p2); (obtain ⟨x6_1, rfl, HA, HK1, ⟨m1, rfl⟩⟩ := hrel)
  cases gk with
  | zero => exact absurd HA.out (by simp [spec_l23Text.l0])
  | succ k1 =>
   (have H := HA.out); clear HA; (simp only [spec_l23Text.l0] at H); (by_cases c3 : x6_1 < (l0.length : Int))
   ·rw [if_pos c3] at H
    (have c3b0 := decide_eq_true c3); clear c3; (by_cases c4 : 0 ≤ x6_1)
    ·rw [if_pos c4] at H
     (have c4b0 := decide_eq_true c4); clear c4; (by_cases c5 : ((rd_T51 l0 x6_1).f0).toList = a1.toList)
     ·rw [if_pos c5] at H
      (have c5b0 : (((rd_T51 l0 x6_1).f0).toList == a1.toList) = true := beq_iff_eq.mpr c5); (have c5b1 : (((rd_T51 l0 x6_1).f0).toList != a1.toList) = false := bne_eq_false_iff_eq.mpr c5); clear c5; (simp only [Option.some.injEq, Prod.mk.injEq] at H); (obtain ⟨rfl, rfl⟩ := H); (have p101 : 0 ≤ (x6_1 : Int) := odt); (have q101 : x6_1 < (l0.length : Int) := odt); (obtain ⟨ad101, e101, hx101_0, hx101_1⟩ := at_T51 HR0.out x6_1 p101 q101); (cases e101); (replace p101 := eq_true p101); (replace q101 := eq_true q101); (have p102 : 0 ≤ (x6_1 : Int) := odt); (have q102 : x6_1 < (l0.length : Int) := odt); (obtain ⟨ad102, e102, hx102_0, hx102_1⟩ := at_T51 HR0.out x6_1 p102 q102); (obtain rfl : ad101 = ad102 := (by injection e102)); (replace p102 := eq_true p102); (replace q102 := eq_true q102); (go_wp2); (go_ret2); (exact Q95)
     ·rw [if_neg c5] at H
      (have c5b0 : (((rd_T51 l0 x6_1).f0).toList == a1.toList) = false := beq_eq_false_iff_ne.mpr c5); (have c5b1 : (((rd_T51 l0 x6_1).f0).toList != a1.toList) = true := bne_iff_ne.mpr c5); (have H' := Aside0.mk H); clear H; (have p101 : 0 ≤ (x6_1 : Int) := odt); (have q101 : x6_1 < (l0.length : Int) := odt); (obtain ⟨ad101, e101, hx101_0, hx101_1⟩ := at_T51 HR0.out x6_1 p101 q101); (cases e101); (replace p101 := eq_true p101); (replace q101 := eq_true q101); (go_wp2); go_roundg k1
      case measure => have := HK1.out; omega
      case rel => exact Q110
    ·rw [if_neg c4] at H
     exact Q1
   ·rw [if_neg c3] at H
    (have c3b0 := decide_eq_false c3); clear c3; (simp only [Option.some.injEq, Prod.mk.injEq] at H); (obtain ⟨rfl, rfl⟩ := H); (go_wp2); (go_ret2); (exact Q95)
/-! ### spec_l23Visible: function 65 -/
def spec_l23Visible.l0 : Nat → List (S54) → List (S51) → List Bool → Int → Option (List Bool)
 | 0, _, _, _, _ => none
 | k + 1, x0, x1, x5, x6 => if x6 < (x0.length : Int) then (if 0 ≤ x6 then (if ((rd_T54 x0 x6).f6).toList = ([] : List UInt8) then (if x5.length < 140737488355328 then (spec_l23Visible.l0 k x0 x1 (x5 ++ [true]) (wrap64 (x6 + 1))) else (none)) else ((spec_l23Text.f k x1 ((rd_T54 x0 x6).f6)).bind fun bt109 => ((spec_l23Find.f k x0 ((rd_T54 x0 x6).f6)).bind fun t112 => (if 0 ≤ t112 then (if t112 < (x5.length : Int) then (if rdOf false x5 t112 = true then (if x5.length < 140737488355328 then (spec_l23Visible.l0 k x0 x1 (x5 ++ [(bt109.1.toList == ([121, 101, 115] : List UInt8))]) (wrap64 (x6 + 1))) else (none)) else (if x5.length < 140737488355328 then (spec_l23Visible.l0 k x0 x1 (x5 ++ [false]) (wrap64 (x6 + 1))) else (none))) else (none)) else (none))))) else (none)) else (some x5)
def spec_l23Visible.f (k : Nat) (l0 : List (S54)) (l1 : List (S51)) : Option (List Bool) := spec_l23Visible.l0 k l0 l1 (([] : List Bool)) 0
set_option maxHeartbeats 8000000 in
set_option maxRecDepth 100000 in
theorem spec_l23Visible.calls (k : Nat) (A0 : Option Addr) (c0 : Nat) (l0 : List (S54)) (A1 : Option Addr) (c1 : Nat) (l1 : List (S51)) (r : List Bool) (w : World) (hr0 : Kd.C k54 w A0 l0.length l0) (hc0 : l0.length ≤ c0) (hr1 : Kd.C k51 w A1 l1.length l1) (hc1 : l1.length ≤ c1) (h : spec_l23Visible.f k l0 l1 = some r) :
  Calls Tryd.prog 65 #[.slice A0 l0.length c0, .slice A1 l1.length c1] w fun e w' => ∃ v0_ : Value, e = .returned (v0_) ∧ Kd.R Kd.bool 4 w' w.heap.size (fun _ => True) v0_ r ∧ Below w.heap.size w w' := by
 (have HR0 := Aside0.mk hr0); (have HC0 := Aside0.mk hc0); clear hr0 hc0; (have HR1 := Aside0.mk hr1); (have HC1 := Aside0.mk hc1); clear hr1 hc1; (have HB := Aside0.mk (Below.refl w.heap.size w)); (unfold spec_l23Visible.f at h); (have H := h); clear h; (obtain ⟨y101, hy101⟩ : ∃ y_ : List Bool, y_ = (([] : List Bool)) := ⟨_, rfl⟩); (replace H : (spec_l23Visible.l0 k l0 l1 y101 0) = some r := Q25); (have Ny101 := Aside0.mk hy101); clear hy101; (have H' := Aside0.mk H); clear H; (go_enter Tryd.func65, Tryd.ntmps65); (go_wp2_with (first | ((with_reducible refine gate_dst (N := 10) rfl ?_); refine Kd.R_lit Kd.bool _ 4 ?hg (N := 10) ?hd (xs := ([] : List Bool)) (inner := []) (ok := fun _ => True) (okp := fun _ => True) ?hr ?hp (fun _ hk => hk) trivial (Below.refl _ _) (Nat.le_refl _) (by simp) ?_; (case hd => rfl); (case hg => rfl); (case hr => first | (go_simp; done) | (go_simp; rfl)); (case hp => exact Q28); intro v102 w3 ho4 hb hg_ hnew_; clear hg_ hnew_; (first | rw [← Ny101.out] at ho4 | (simp only [Int.reduceToNat] at ho4; rw [← Ny101.out] at ho4)); have hB_ := zI hb HB; have n0_ := Aside0.mk (Kd.R_lower ho4 (below_size hB_)); have n1_ := Aside0.mk (below_step hB_ hb); clear HB; have HO103 := n0_; have HB := n1_; clear n0_ n1_ hB_ hb ho4))); (go_loopg [5, 6] k (fun kq v5 v6 w' => ∃ (x5_1 : List Bool) (x6_1 : Int), v6 = .int .i64 x6_1 ∧ Aside0 (spec_l23Visible.l0 kq l0 l1 x5_1 x6_1 = some r) ∧ Aside0 (kq ≤ k) ∧ Aside0 (Kd.R Kd.bool 4 w' w.heap.size (fun _ => True) v5 x5_1) ∧ Aside0 (Below w.heap.size w w')))
 case atStart => exact Q116
 case round =>
  (clear H'); (try clear c1); (try clear p2); (obtain ⟨x5_1, x6_1, rfl, HA, HK1, HO_5, HB⟩ := hrel)
  cases gk with
  | zero => exact absurd HA.out (by simp [spec_l23Visible.l0])
  | succ k1 =>
   (have H := HA.out); clear HA; (simp only [spec_l23Visible.l0] at H); (by_cases c5 : x6_1 < (l0.length : Int))
   ·rw [if_pos c5] at H
    (have c5b0 := decide_eq_true c5); clear c5; (by_cases c6 : 0 ≤ x6_1)
    ·rw [if_pos c6] at H
     (have c6b0 := decide_eq_true c6); clear c6; (by_cases c7 : ((rd_T54 l0 x6_1).f6).toList = ([] : List UInt8))
     ·rw [if_pos c7] at H
      (have c7b0 : ((rd_T54 l0 x6_1).f6).toList.isEmpty = true := List.isEmpty_iff.mpr c7); (have c7b1 : (!((rd_T54 l0 x6_1).f6).toList.isEmpty) = false := by rw [List.isEmpty_iff.mpr c7]; rfl); (have c7b2 : (((rd_T54 l0 x6_1).f6).toList == ([] : List UInt8)) = true := beq_iff_eq.mpr c7); (have c7b3 : (((rd_T54 l0 x6_1).f6).toList != ([] : List UInt8)) = false := bne_eq_false_iff_eq.mpr c7); clear c7; (by_cases c8 : x5_1.length < 140737488355328)
      ·rw [if_pos c8] at H
       (have LMc8 := Aside0.mk c8); clear c8; (obtain ⟨y105, hy105⟩ : ∃ y_ : List Bool, y_ = (x5_1 ++ [true]) := ⟨_, rfl⟩); (replace H : (spec_l23Visible.l0 k1 l0 l1 y105 (wrap64 (x6_1 + 1))) = some r := Q150); (have Ny105 := Aside0.mk hy105); clear hy105; (have H' := Aside0.mk H); clear H; (have p104 : 0 ≤ (x6_1 : Int) := odt); (have q104 : x6_1 < (l0.length : Int) := odt); (obtain ⟨ad104, A104_4, c104_4, e104, hx104_0, hx104_1, hx104_2, hx104_3, hx104_4, hx104_5, hx104_6, hl104_4, hi104_4⟩ := at_T54 HR0.out x6_1 p104 q104); (cases e104); (replace hx104_0 := hcI HB hx104_0); (replace hx104_1 := hcI HB hx104_1); (replace hx104_2 := hcI HB hx104_2); (replace hx104_3 := hcI HB hx104_3); (replace hx104_4 := hcI HB hx104_4); (replace hx104_5 := hcI HB hx104_5); (replace hx104_6 := hcI HB hx104_6); (have HR104_4 := Aside0.mk hi104_4); (have HC104_4 := Aside0.mk hl104_4); clear hi104_4 hl104_4; (replace p104 := eq_true p104); (replace q104 := eq_true q104); (go_wp2_with (first | ((with_reducible refine gate_builtin (b := .append) (xs := #[.tmp 47, .tmp 49]) rfl ?_); at_builtin; refine Kd.R_append Kd.bool (w0 := w) w.heap.size rfl (.tmp 47) (.tmp 49) 71 4 (.bool false) 1 rfl Tryd.underlying71 info4 rfl (by decide) (by omega) u5 x5_1 true [.bool true] (fun _ => True) (fun _ => False) rfl rfl ?aP (fun _ hk => hk.elim) ?aF ?aO ?aB ?aS ?aL ?_; (case aP => exact rfl); (case aB => exact (eI HB)); (case aF => exact Q75); (case aO => exact (rI HO_5)); (case aS => exact Q129); (case aL => have := LMc8.out; omega); intro v106 w9 ho hb hg hat; rw [← Ny105.out] at ho; have n0_ := Aside0.mk (hb); have n1_ := Aside0.mk (ho); clear HB HO_5; have HB := n0_; have HO107 := n1_; clear n0_ n1_ ho hb hg hat))); go_roundg k1
       case measure => have := HK1.out; omega
       case rel => exact ⟨(y105), (wrap64 (x6_1 + 1)), Q32, H', ⟨Q69⟩, ⟨rI HO107⟩, ⟨eI HB⟩⟩
      ·rw [if_neg c8] at H
       exact Q1
     ·rw [if_neg c7] at H
      (have c7b0 : ((rd_T54 l0 x6_1).f6).toList.isEmpty = false := Q151); (have c7b1 : (!((rd_T54 l0 x6_1).f6).toList.isEmpty) = true := by rw [show ((rd_T54 l0 x6_1).f6).toList.isEmpty = false from Q151]; rfl); (have c7b2 : (((rd_T54 l0 x6_1).f6).toList == ([] : List UInt8)) = false := beq_eq_false_iff_ne.mpr c7); (have c7b3 : (((rd_T54 l0 x6_1).f6).toList != ([] : List UInt8)) = true := bne_iff_ne.mpr c7); (replace H := obS H); (obtain ⟨⟨t109, t110⟩, A10, H⟩ := H); (replace H : ((spec_l23Find.f k1 l0 ((rd_T54 l0 x6_1).f6)).bind fun t112 => (if 0 ≤ t112 then (if t112 < (x5_1.length : Int) then (if rdOf false x5_1 t112 = true then (if x5_1.length < 140737488355328 then (spec_l23Visible.l0 k1 l0 l1 (x5_1 ++ [(t109.toList == ([121, 101, 115] : List UInt8))]) (wrap64 (x6_1 + 1))) else (none)) else (if x5_1.length < 140737488355328 then (spec_l23Visible.l0 k1 l0 l1 (x5_1 ++ [false]) (wrap64 (x6_1 + 1))) else (none))) else (none)) else (none))) = some r := H); (replace H := obS H); (obtain ⟨t112, A11, H⟩ := H); (by_cases c12 : 0 ≤ t112)
      ·rw [if_pos c12] at H
       (have c12b0 := decide_eq_true c12); clear c12; (by_cases c13 : t112 < (x5_1.length : Int))
       ·rw [if_pos c13] at H
        (have c13b0 := decide_eq_true c13); clear c13; (obtain ⟨bq14, hbq14⟩ : ∃ b_ : Bool, b_ = (rdOf false x5_1 t112) := ⟨_, rfl⟩); (replace H : (if bq14 = true then (if x5_1.length < 140737488355328 then (spec_l23Visible.l0 k1 l0 l1 (x5_1 ++ [(t109.toList == ([121, 101, 115] : List UInt8))]) (wrap64 (x6_1 + 1))) else (none)) else (if x5_1.length < 140737488355328 then (spec_l23Visible.l0 k1 l0 l1 (x5_1 ++ [false]) (wrap64 (x6_1 + 1))) else (none))) = some r := by rw [← hbq14] at H; exact H); (have Nbq14 := Aside0.mk hbq14); clear hbq14; (by_cases c15 : bq14 = true)
        ·subst c15
         (rw [if_pos rfl] at H); (by_cases c16 : x5_1.length < 140737488355328)
         ·rw [if_pos c16] at H
          (have LMc16 := Aside0.mk c16); clear c16; (obtain ⟨y114, hy114⟩ : ∃ y_ : List Bool, y_ = (x5_1 ++ [(t109.toList == ([121, 101, 115] : List UInt8))]) := ⟨_, rfl⟩); (replace H : (spec_l23Visible.l0 k1 l0 l1 y114 (wrap64 (x6_1 + 1))) = some r := Q152); (have Ny114 := Aside0.mk hy114); clear hy114; (have H' := Aside0.mk H); clear H; (have p104 : 0 ≤ (x6_1 : Int) := odt); (have q104 : x6_1 < (l0.length : Int) := odt); (obtain ⟨ad104, A104_4, c104_4, e104, hx104_0, hx104_1, hx104_2, hx104_3, hx104_4, hx104_5, hx104_6, hl104_4, hi104_4⟩ := at_T54 HR0.out x6_1 p104 q104); ((try rw [← Nbq14.out] at hx104_5)); (cases e104); (replace hx104_0 := hcI HB hx104_0); (replace hx104_1 := hcI HB hx104_1); (replace hx104_2 := hcI HB hx104_2); (replace hx104_3 := hcI HB hx104_3); (replace hx104_4 := hcI HB hx104_4); (replace hx104_5 := hcI HB hx104_5); (replace hx104_6 := hcI HB hx104_6); (have HR104_4 := Aside0.mk hi104_4); (have HC104_4 := Aside0.mk hl104_4); clear hi104_4 hl104_4; (replace p104 := eq_true p104); (replace q104 := eq_true q104); (have p108 : 0 ≤ (x6_1 : Int) := odt); (have q108 : x6_1 < (l0.length : Int) := odt); (obtain ⟨ad108, A108_4, c108_4, e108, hx108_0, hx108_1, hx108_2, hx108_3, hx108_4, hx108_5, hx108_6, hl108_4, hi108_4⟩ := at_T54 HR0.out x6_1 p108 q108); ((try rw [← Nbq14.out] at hx108_5)); (obtain rfl : ad104 = ad108 := (by injection e108)); (replace hx108_0 := hcI HB hx108_0); (replace hx108_1 := hcI HB hx108_1); (replace hx108_2 := hcI HB hx108_2); (replace hx108_3 := hcI HB hx108_3); (replace hx108_4 := hcI HB hx108_4); (replace hx108_5 := hcI HB hx108_5); (replace hx108_6 := hcI HB hx108_6); (have HR108_4 := Aside0.mk hi108_4); (have HC108_4 := Aside0.mk hl108_4); clear hi108_4 hl108_4; (replace p108 := eq_true p108); (replace q108 := eq_true q108); (have ea_ := Option.some.inj (hx104_4.symm.trans hx108_4)); (injection ea_ with ea_ en_ ec_); subst ea_; subst ec_; clear en_
          (go_wp2_with (first | ((with_reducible refine gate_callee (f := 66) rfl ?_); refine gL (some 30) Tryd.func66 #[.slice A1 l1.length c1, .string ((rd_T54 l0 x6_1).f6)] ?_; (with_reducible refine (spec_l23Text.calls k1 _ _ l1 ((rd_T54 l0 x6_1).f6) t109 t110 _ ?side1 ?side2 A10.out).mono ?_); (case side1 => exact Q127); (case side2 => exact HC1.out); rintro e w' ⟨rfl, ⟨nd, rfl⟩⟩; refine ⟨_, rfl, ?_⟩; have p111 : 0 ≤ (x6_1 : Int) := odt; have q111 : x6_1 < (l0.length : Int) := odt; obtain ⟨ad111, A111_4, c111_4, e111, hx111_0, hx111_1, hx111_2, hx111_3, hx111_4, hx111_5, hx111_6, hl111_4, hi111_4⟩ := at_T54 HR0.out x6_1 p111 q111; (try rw [← Nbq14.out] at hx111_5); obtain rfl : ad104 = ad111 := (by injection e111); replace hx111_0 := hcI HB hx111_0; replace hx111_1 := hcI HB hx111_1; replace hx111_2 := hcI HB hx111_2; replace hx111_3 := hcI HB hx111_3; replace hx111_4 := hcI HB hx111_4; replace hx111_5 := hcI HB hx111_5; replace hx111_6 := hcI HB hx111_6; have HR111_4 := Aside0.mk hi111_4; have HC111_4 := Aside0.mk hl111_4; clear hi111_4 hl111_4; replace p111 := eq_true p111; replace q111 := eq_true q111; have ea_ := Option.some.inj (hx104_4.symm.trans hx111_4); injection ea_ with ea_ en_ ec_; subst ea_; subst ec_; clear en_) | ((with_reducible refine gate_callee (f := 63) rfl ?_); refine gL (some 40) Tryd.func63 #[.slice (some ad104) l0.length c0, .string ((rd_T54 l0 x6_1).f6)] ?_; (with_reducible refine (spec_l23Find.calls k1 _ _ l0 ((rd_T54 l0 x6_1).f6) t112 _ ?side1 ?side2 A11.out).mono ?_); (case side1 => exact Q98); (case side2 => exact HC0.out); rintro e w' ⟨rfl, ⟨nd, rfl⟩⟩; refine ⟨_, rfl, ?_⟩; obtain ⟨Ao17, co17, eo17⟩ := Kd.R_slice HO_5.out; subst eo17; have p113 : 0 ≤ (t112 : Int) := odt; have q113 : t112 < (x5_1.length : Int) := odt; obtain ⟨ad113, e113, hx113_0⟩ := Kd.at_bool (Kd.R_reads' HO_5.out).2.2 t112 p113 q113; (try rw [← Nbq14.out] at hx113_0); cases e113; replace p113 := eq_true p113; replace q113 := eq_true q113) | ((with_reducible refine gate_builtin (b := .append) (xs := #[.tmp 47, .tmp 49]) rfl ?_); at_builtin; refine Kd.R_append Kd.bool (w0 := w) w.heap.size rfl (.tmp 47) (.tmp 49) 71 4 (.bool false) 1 rfl Tryd.underlying71 info4 rfl (by decide) (by omega) (.slice (some ad113) x5_1.length co17) x5_1 (t109.toList == ([121, 101, 115] : List UInt8)) [.bool (t109.toList == ([121, 101, 115] : List UInt8))] (fun _ => True) (fun _ => False) rfl rfl ?aP (fun _ hk => hk.elim) ?aF ?aO ?aB ?aS ?aL ?_; (case aP => exact rfl); (case aB => exact (eI HB)); (case aF => exact Q75); (case aO => exact (rI HO_5)); (case aS => exact Q129); (case aL => have := LMc16.out; omega); intro v115 w18 ho hb hg hat; rw [← Ny114.out] at ho; have n0_ := Aside0.mk (hb); have n1_ := Aside0.mk (ho); clear HB HO_5; have HB := n0_; have HO116 := n1_; clear n0_ n1_ ho hb hg hat))); go_roundg k1
          case measure => have := HK1.out; omega
          case rel => exact ⟨(y114), (wrap64 (x6_1 + 1)), Q32, H', ⟨Q69⟩, ⟨rI HO116⟩, ⟨eI HB⟩⟩
         ·rw [if_neg c16] at H
          exact Q1
        ·replace c15 := Bool.eq_false_iff.mpr c15
         subst c15; (rw [if_neg (show ¬ (false = true) by decide)] at H); (by_cases c19 : x5_1.length < 140737488355328)
         ·rw [if_pos c19] at H
          (have LMc19 := Aside0.mk c19); clear c19; (obtain ⟨y117, hy117⟩ : ∃ y_ : List Bool, y_ = (x5_1 ++ [false]) := ⟨_, rfl⟩); (replace H : (spec_l23Visible.l0 k1 l0 l1 y117 (wrap64 (x6_1 + 1))) = some r := by first | (rw [hy117]; with_reducible exact H) | (have H2_ := (Option.bind_some _ _).symm.trans H; rw [hy117]; with_reducible exact H2_) | (have H2_ := (Option.bind_some _ _).symm.trans H; with_reducible exact H2_) | with_reducible exact H | (rw [hy117]; exact H) | exact H); (have Ny117 := Aside0.mk hy117); clear hy117; (have H' := Aside0.mk H); clear H; (have p104 : 0 ≤ (x6_1 : Int) := odt); (have q104 : x6_1 < (l0.length : Int) := odt); (obtain ⟨ad104, A104_4, c104_4, e104, hx104_0, hx104_1, hx104_2, hx104_3, hx104_4, hx104_5, hx104_6, hl104_4, hi104_4⟩ := at_T54 HR0.out x6_1 p104 q104); ((try rw [← Nbq14.out] at hx104_5)); (cases e104); (replace hx104_0 := hcI HB hx104_0); (replace hx104_1 := hcI HB hx104_1); (replace hx104_2 := hcI HB hx104_2); (replace hx104_3 := hcI HB hx104_3); (replace hx104_4 := hcI HB hx104_4); (replace hx104_5 := hcI HB hx104_5); (replace hx104_6 := hcI HB hx104_6); (have HR104_4 := Aside0.mk hi104_4); (have HC104_4 := Aside0.mk hl104_4); clear hi104_4 hl104_4; (replace p104 := eq_true p104); (replace q104 := eq_true q104); (have p108 : 0 ≤ (x6_1 : Int) := odt); (have q108 : x6_1 < (l0.length : Int) := odt); (obtain ⟨ad108, A108_4, c108_4, e108, hx108_0, hx108_1, hx108_2, hx108_3, hx108_4, hx108_5, hx108_6, hl108_4, hi108_4⟩ := at_T54 HR0.out x6_1 p108 q108); ((try rw [← Nbq14.out] at hx108_5)); (obtain rfl : ad104 = ad108 := (by injection e108)); (replace hx108_0 := hcI HB hx108_0); (replace hx108_1 := hcI HB hx108_1); (replace hx108_2 := hcI HB hx108_2); (replace hx108_3 := hcI HB hx108_3); (replace hx108_4 := hcI HB hx108_4); (replace hx108_5 := hcI HB hx108_5); (replace hx108_6 := hcI HB hx108_6); (have HR108_4 := Aside0.mk hi108_4); (have HC108_4 := Aside0.mk hl108_4); clear hi108_4 hl108_4; (replace p108 := eq_true p108); (replace q108 := eq_true q108); (have ea_ := Option.some.inj (hx104_4.symm.trans hx108_4)); (injection ea_ with ea_ en_ ec_); subst ea_; subst ec_; clear en_
          (go_wp2_with (first | ((with_reducible refine gate_callee (f := 66) rfl ?_); refine gL (some 30) Tryd.func66 #[.slice A1 l1.length c1, .string ((rd_T54 l0 x6_1).f6)] ?_; (with_reducible refine (spec_l23Text.calls k1 _ _ l1 ((rd_T54 l0 x6_1).f6) t109 t110 _ ?side1 ?side2 A10.out).mono ?_); (case side1 => exact Q127); (case side2 => exact HC1.out); rintro e w' ⟨rfl, ⟨nd, rfl⟩⟩; refine ⟨_, rfl, ?_⟩; have p111 : 0 ≤ (x6_1 : Int) := odt; have q111 : x6_1 < (l0.length : Int) := odt; obtain ⟨ad111, A111_4, c111_4, e111, hx111_0, hx111_1, hx111_2, hx111_3, hx111_4, hx111_5, hx111_6, hl111_4, hi111_4⟩ := at_T54 HR0.out x6_1 p111 q111; (try rw [← Nbq14.out] at hx111_5); obtain rfl : ad104 = ad111 := (by injection e111); replace hx111_0 := hcI HB hx111_0; replace hx111_1 := hcI HB hx111_1; replace hx111_2 := hcI HB hx111_2; replace hx111_3 := hcI HB hx111_3; replace hx111_4 := hcI HB hx111_4; replace hx111_5 := hcI HB hx111_5; replace hx111_6 := hcI HB hx111_6; have HR111_4 := Aside0.mk hi111_4; have HC111_4 := Aside0.mk hl111_4; clear hi111_4 hl111_4; replace p111 := eq_true p111; replace q111 := eq_true q111; have ea_ := Option.some.inj (hx104_4.symm.trans hx111_4); injection ea_ with ea_ en_ ec_; subst ea_; subst ec_; clear en_) | ((with_reducible refine gate_callee (f := 63) rfl ?_); refine gL (some 40) Tryd.func63 #[.slice (some ad104) l0.length c0, .string ((rd_T54 l0 x6_1).f6)] ?_; (with_reducible refine (spec_l23Find.calls k1 _ _ l0 ((rd_T54 l0 x6_1).f6) t112 _ ?side1 ?side2 A11.out).mono ?_); (case side1 => exact Q98); (case side2 => exact HC0.out); rintro e w' ⟨rfl, ⟨nd, rfl⟩⟩; refine ⟨_, rfl, ?_⟩; obtain ⟨Ao20, co20, eo20⟩ := Kd.R_slice HO_5.out; subst eo20; have p113 : 0 ≤ (t112 : Int) := odt; have q113 : t112 < (x5_1.length : Int) := odt; obtain ⟨ad113, e113, hx113_0⟩ := Kd.at_bool (Kd.R_reads' HO_5.out).2.2 t112 p113 q113; (try rw [← Nbq14.out] at hx113_0); cases e113; replace p113 := eq_true p113; replace q113 := eq_true q113) | ((with_reducible refine gate_builtin (b := .append) (xs := #[.tmp 47, .tmp 49]) rfl ?_); at_builtin; refine Kd.R_append Kd.bool (w0 := w) w.heap.size rfl (.tmp 47) (.tmp 49) 71 4 (.bool false) 1 rfl Tryd.underlying71 info4 rfl (by decide) (by omega) (.slice (some ad113) x5_1.length co20) x5_1 false [.bool false] (fun _ => True) (fun _ => False) rfl rfl ?aP (fun _ hk => hk.elim) ?aF ?aO ?aB ?aS ?aL ?_; (case aP => exact rfl); (case aB => exact (eI HB)); (case aF => exact Q75); (case aO => exact (rI HO_5)); (case aS => exact Q129); (case aL => have := LMc19.out; omega); intro v118 w21 ho hb hg hat; rw [← Ny117.out] at ho; have n0_ := Aside0.mk (hb); have n1_ := Aside0.mk (ho); clear HB HO_5; have HB := n0_; have HO119 := n1_; clear n0_ n1_ ho hb hg hat))); go_roundg k1
          case measure => have := HK1.out; omega
          case rel => exact ⟨(y117), (wrap64 (x6_1 + 1)), Q32, H', ⟨Q69⟩, ⟨rI HO119⟩, ⟨eI HB⟩⟩
         ·rw [if_neg c19] at H
          exact Q1
       ·rw [if_neg c13] at H
        exact Q1
      ·rw [if_neg c12] at H
       exact Q1
    ·rw [if_neg c6] at H
     exact Q1
   ·rw [if_neg c5] at H
    (have c5b0 := decide_eq_false c5); clear c5; (obtain rfl := Option.some.inj H); (go_wp2); go_ret; (exact Q124)
/-! ### spec_l1Num: function 84 -/
def spec_l1Num.f : Nat → Int → Option (ByteArray)
 | 0, _ => none
 | k + 1, a0 => if a0 < 0 then ((spec_l1Num.f k (wrap64 (-a0))).bind fun t101 => (if 1 + t101.size ≤ 9223372036854775807 then (some ((⟨#[45]⟩ : ByteArray) ++ t101)) else (none))) else (if a0 < 10 then (if 0 ≤ a0 then (if a0 ≤ (wrap64 (a0 + 1)) then (if (wrap64 (a0 + 1)) ≤ 10 then (some ((⟨#[48, 49, 50, 51, 52, 53, 54, 55, 56, 57]⟩ : ByteArray).extract (a0 : Int).toNat ((wrap64 (a0 + 1)) : Int).toNat)) else (none)) else (none)) else (none)) else ((spec_l1Num.f k (wrap64 (Int.tdiv a0 10))).bind fun t102 => (if 0 ≤ (Int.tmod a0 10) then (if (Int.tmod a0 10) ≤ (wrap64 ((Int.tmod a0 10) + 1)) then (if (wrap64 ((Int.tmod a0 10) + 1)) ≤ 10 then (if t102.size + ((⟨#[48, 49, 50, 51, 52, 53, 54, 55, 56, 57]⟩ : ByteArray).extract ((Int.tmod a0 10) : Int).toNat ((wrap64 ((Int.tmod a0 10) + 1)) : Int).toNat).size ≤ 9223372036854775807 then (some (t102 ++ ((⟨#[48, 49, 50, 51, 52, 53, 54, 55, 56, 57]⟩ : ByteArray).extract ((Int.tmod a0 10) : Int).toNat ((wrap64 ((Int.tmod a0 10) + 1)) : Int).toNat))) else (none)) else (none)) else (none)) else (none))))
def spec_l1Num.T5 : Bool × List (List Nat × List Nat) := (true, [([], []), ([0], [0]), ([1], [1]), ([], []), ([3], [3]), ([], []), ([5], [5]), ([6], [6]), ([4, 7], [4, 7]), ([2, 8], [2, 8]), ([9, 2, 0, 1, 2, 3, 4, 5, 6, 7, 8, 9], [9])])
def spec_l1Num.B5 : List Nat := [0, 1, 3, 0, 8, 0, 32, 96, 248, 511, 1023]
theorem spec_l1Num.tab5 : rtab .any (opsOf Tryd.f84 5) = spec_l1Num.T5 := by kernel_rfl
theorem spec_l1Num.bits5 : waitsOk spec_l1Num.T5.2 spec_l1Num.B5 = true := by kernel_rfl
set_option maxHeartbeats 8000000 in
set_option maxRecDepth 100000 in
theorem spec_l1Num.calls (k : Nat) : ∀ (a0 : Int) (r : ByteArray) (w : World) (h : spec_l1Num.f k a0 = some r),
  Calls Tryd.prog 84 #[.int .i64 a0] w fun e w' => e = .returned (.string r) ∧ Below w.heap.size w w' := by
 induction k using Nat.strongRecOn with
 | _ k ih =>
 intro a0 r w h
 cases k with
 | zero => exact absurd h (by simp [spec_l1Num.f])
 | succ k =>
 (simp only [spec_l1Num.f] at h); (have HB := Aside0.mk (Below.refl w.heap.size w)); (have H : (if a0 < 0 then ((spec_l1Num.f k (wrap64 (-a0))).bind fun t101 => (if 1 + t101.size ≤ 9223372036854775807 then (some ((⟨#[45]⟩ : ByteArray) ++ t101)) else (none))) else (if a0 < 10 then (if 0 ≤ a0 then (if a0 ≤ (wrap64 (a0 + 1)) then (if (wrap64 (a0 + 1)) ≤ 10 then (some ((⟨#[48, 49, 50, 51, 52, 53, 54, 55, 56, 57]⟩ : ByteArray).extract (a0 : Int).toNat ((wrap64 (a0 + 1)) : Int).toNat)) else (none)) else (none)) else (none)) else ((spec_l1Num.f k (wrap64 (Int.tdiv a0 10))).bind fun t102 => (if 0 ≤ (Int.tmod a0 10) then (if (Int.tmod a0 10) ≤ (wrap64 ((Int.tmod a0 10) + 1)) then (if (wrap64 ((Int.tmod a0 10) + 1)) ≤ 10 then (if t102.size + ((⟨#[48, 49, 50, 51, 52, 53, 54, 55, 56, 57]⟩ : ByteArray).extract ((Int.tmod a0 10) : Int).toNat ((wrap64 ((Int.tmod a0 10) + 1)) : Int).toNat).size ≤ 9223372036854775807 then (some (t102 ++ ((⟨#[48, 49, 50, 51, 52, 53, 54, 55, 56, 57]⟩ : ByteArray).extract ((Int.tmod a0 10) : Int).toNat ((wrap64 ((Int.tmod a0 10) + 1)) : Int).toNat))) else (none)) else (none)) else (none)) else (none))))) = some r := h); clear h; (by_cases c2 : a0 < 0)
 ·rw [if_pos c2] at H
  (have c2b0 := decide_eq_true c2); clear c2; (replace H := obS H); (obtain ⟨t101, A3, H⟩ := H); (by_cases c4 : 1 + t101.size ≤ 9223372036854775807); (· (rw [if_pos c4] at H); (have c4b0 := eq_true c4); (have c4b1 := decide_eq_true c4); (try have c4b2 : (9223372036854775807 < 1 + t101.size) = False := eq_false (Nat.not_lt.2 c4)); (obtain rfl := Option.some.inj H); (go_enter Tryd.func84, Tryd.ntmps84); (go_wp2_with (first | ((with_reducible refine gate_callee (f := 84) rfl ?_); refine gL (some 7) Tryd.func84 #[.int .i64 (wrap64 (-a0))] ?_; (with_reducible refine (ih k (by omega) (wrap64 (-a0)) t101 _ A3.out).mono ?_); rintro e w5 ⟨rfl, hb⟩; refine ⟨_, rfl, ?_⟩; have n0_ := Aside0.mk (sI hb HB); clear HB; have HB := n0_; clear n0_; (try clear hb); (try clear hb2); (try clear hk); (try clear hi)))); go_ret; (exact Q100)); (· (rw [if_neg c4] at H); (exact Q1))
 ·rw [if_neg c2] at H
  (have c2b0 := decide_eq_false c2); clear c2; (by_cases c6 : a0 < 10)
  ·rw [if_pos c6] at H
   (have c6b0 := decide_eq_true c6); clear c6; (by_cases c7 : 0 ≤ a0)
   ·rw [if_pos c7] at H
    (have c7b0 := eq_true c7); (have c7b1 := decide_eq_true c7); clear c7; (by_cases c8 : a0 ≤ (wrap64 (a0 + 1)))
    ·rw [if_pos c8] at H
     (have c8b0 := eq_true c8); (have c8b1 := decide_eq_true c8); (by_cases c9 : (wrap64 (a0 + 1)) ≤ 10); (· (rw [if_pos c9] at H); (have c9b0 := eq_true c9); (have c9b1 := decide_eq_true c9); (obtain rfl := Option.some.inj H); (go_enter Tryd.func84, Tryd.ntmps84); (go_wp2); go_ret; (exact Q100)); (· (rw [if_neg c9] at H); (exact Q1))
    ·rw [if_neg c8] at H
     exact Q1
   ·rw [if_neg c7] at H
    exact Q1
  ·rw [if_neg c6] at H
   (have c6b0 := decide_eq_false c6); clear c6; (replace H := obS H); (obtain ⟨t102, A10, H⟩ := H); (obtain ⟨ji11, hji11⟩ : ∃ j_ : Int, (Int.tmod a0 10) = j_ := ⟨_, rfl⟩); (replace H : (if 0 ≤ (ji11) then (if (ji11) ≤ (wrap64 ((ji11) + 1)) then (if (wrap64 ((ji11) + 1)) ≤ 10 then (if t102.size + ((⟨#[48, 49, 50, 51, 52, 53, 54, 55, 56, 57]⟩ : ByteArray).extract ((ji11) : Int).toNat ((wrap64 ((ji11) + 1)) : Int).toNat).size ≤ 9223372036854775807 then (some (t102 ++ ((⟨#[48, 49, 50, 51, 52, 53, 54, 55, 56, 57]⟩ : ByteArray).extract ((ji11) : Int).toNat ((wrap64 ((ji11) + 1)) : Int).toNat))) else (none)) else (none)) else (none)) else (none)) = some r := by first | (rw [hji11] at H; exact H) | (simp only [hji11] at H ⊢; exact H)); ((try rw [hji11] at A10)); (by_cases c12 : 0 ≤ (ji11))
   ·rw [if_pos c12] at H
    (have c12b0 := eq_true c12); (have c12b1 := decide_eq_true c12); clear c12; (by_cases c13 : (ji11) ≤ (wrap64 ((ji11) + 1)))
    ·rw [if_pos c13] at H
     (have c13b0 := eq_true c13); (have c13b1 := decide_eq_true c13); (by_cases c14 : (wrap64 ((ji11) + 1)) ≤ 10)
     ·rw [if_pos c14] at H
      (have c14b0 := eq_true c14); (have c14b1 := decide_eq_true c14); (by_cases c15 : t102.size + ((⟨#[48, 49, 50, 51, 52, 53, 54, 55, 56, 57]⟩ : ByteArray).extract ((ji11) : Int).toNat ((wrap64 ((ji11) + 1)) : Int).toNat).size ≤ 9223372036854775807)
      ·rw [if_pos c15] at H
       (have c15b0 := eq_true c15); (have c15b1 := decide_eq_true c15); (try have c15n0 := c15b0); (try (push_cast [Int.toNat_natCast, ByteArray.size_append, show (⟨#[48, 49, 50, 51, 52, 53, 54, 55, 56, 57]⟩ : ByteArray).size = 10 from rfl] at c15n0)); (try have c15n1 := c15b1); (try (push_cast [Int.toNat_natCast, ByteArray.size_append, show (⟨#[48, 49, 50, 51, 52, 53, 54, 55, 56, 57]⟩ : ByteArray).size = 10 from rfl] at c15n1)); (try have c15b2 : (9223372036854775807 < t102.size + ((⟨#[48, 49, 50, 51, 52, 53, 54, 55, 56, 57]⟩ : ByteArray).extract ((ji11) : Int).toNat ((wrap64 ((ji11) + 1)) : Int).toNat).size) = False := eq_false (Nat.not_lt.2 c15)); (try have c15b3 := c15b2); (try simp only [show ((⟨#[48, 49, 50, 51, 52, 53, 54, 55, 56, 57]⟩ : ByteArray).extract ((ji11) : Int).toNat ((wrap64 ((ji11) + 1)) : Int).toNat).size = ((wrap64 ((ji11) + 1)) : Int).toNat - ((ji11) : Int).toNat from by (rw [ByteArray.size_extract]; show min ((wrap64 ((ji11) + 1)) : Int).toNat 10 - ((ji11) : Int).toNat = _; omega), ByteArray.size_append, show (⟨#[48, 49, 50, 51, 52, 53, 54, 55, 56, 57]⟩ : ByteArray).size = 10 from rfl] at c15b3); (obtain rfl := Option.some.inj H); (go_enter Tryd.func84, Tryd.ntmps84); (try go_wp2); (have n0_ := Aside0.mk (below_drew1 HB.out)); clear HB; (have HB := n0_); clear n0_; (refine start_ (n := 11) (S := fun w' => True) (ds := []) (cn 11 0) (by kernel_rfl) rfl (by kernel_rfl) trivial (fun hHeld => ?_); refine with_tabW spec_l1Num.tab5 spec_l1Num.bits5 (fun HT_ HW_ => ?_)); (generalize w.drew = w16 at HB hHeld ⊢); (refine pB 0 (cn 11 1) (some 15) HT_ (h := ?_)); (refine pB 1 (cn 11 2) (some 16) HT_ (h := ?_)); (refine pB 3 (cb 11 11) (some 18) HT_ (h := ?_)); (refine pB 4 (cb 11 27) (some 19) HT_ (h := ?_)); (refine pB 5 (cb 11 59) (some 20) HT_ (h := ?_)); (refine pB 6 (cb 11 123) (some 21) HT_ (h := ?_)); (refine pB 7 (cb 11 251) (some 22) HT_ (h := ?_)); (refine pB 8 (cb 11 507) (some 23) HT_ (h := ?_)); (refine oN 2 (some 17) (cn 11 9) HT_ (fun K hK => ?_)); (refine gG Tryd.func84 #[.int .i64 (wrap64 (Int.tdiv a0 10))] ?_); (with_reducible refine (ih k (by omega) (wrap64 (Int.tdiv a0 10)) t102 _ A10.out).mono ?_); (rintro e w17 ⟨rfl, hb⟩); (refine ⟨_, rfl, ?_⟩); (have n0_ := Aside0.mk (sI hb HB)); clear HB; (have HB := n0_); clear n0_; ((try clear hb)); ((try clear hb2)); ((try clear hk)); ((try clear hi)); (refine hK.out _ _ trivial (fun hHeld => ?_)); clear hK K; (refine nP (some 17) (h := ?_)); (refine pB 9 (cn 11 10) (some 24) HT_ (h := ?_)); (refine pB 10 (cn 11 11) (some 2) HT_ (h := ?_)); (refine done_ (done_of HT_.out (by kernel_rfl)) ?_); (try go_wp2)
       go_ret; (exact ⟨by first | rfl | (simp [errW_none, errW_some] <;> rfl) | (simp only [← hji11]; first | rfl | (simp [errW_none, errW_some] <;> rfl)) | (simp [*, errW_none, errW_some] <;> rfl), eI HB⟩)
      ·rw [if_neg c15] at H
       exact Q1
     ·rw [if_neg c14] at H
      exact Q1
    ·rw [if_neg c13] at H
     exact Q1
   ·rw [if_neg c12] at H
    exact Q1
/-! ### spec_l1Read: function 96 -/
mutual
def spec_l1Read.j0 : Nat → ByteArray → ByteArray → Bool → Option (Int × Bool)
 | 0, _, _, _ => none
 | k + 1, x0, x4, x15 => if x15 = true then (if 1 ≤ (x4.size : Int) then (spec_l1Read.j1 k x0 (x4.extract 1 x4.size)) else (none)) else (spec_l1Read.j1 k x0 x4)
def spec_l1Read.j1 : Nat → ByteArray → ByteArray → Option (Int × Bool)
 | 0, _, _ => none
 | k + 1, x0, x4 => (spec_l1In.f (x4.size : Int) 1 6).bind fun t101 => (if t101 = true then (spec_l1Read.l0 k x0 x4 0 0) else (some (0, false)))
def spec_l1Read.l0 : Nat → ByteArray → ByteArray → Int → Int → Option (Int × Bool)
 | 0, _, _, _, _ => none
 | k + 1, x0, x4, x5, x6 => if x6 < (x4.size : Int) then (if 0 ≤ x6 then (if (bt x4 x6) < 48 then (some (0, false)) else (if (bt x4 x6) > 57 then (some (0, false)) else (spec_l1Read.l0 k x0 x4 (wrap64 ((wrap64 (10 * x5)) + (((bt x4 x6) - 48) % 256))) (wrap64 (x6 + 1))))) else (none)) else (if (x4.size : Int) < (x0.size : Int) then ((spec_l1Num.f k (wrap64 (-x5))).bind fun t102 => (if t102.toList = x0.toList then (some (wrap64 (-x5), true)) else (some (0, false)))) else ((spec_l1Num.f k x5).bind fun t103 => (if t103.toList = x0.toList then (some (x5, true)) else (some (0, false)))))
end
def spec_l1Read.f (k : Nat) (a0 : ByteArray) : Option (Int × Bool) := if (a0.size : Int) > 1 then (if 0 < (a0.size : Int) then (spec_l1Read.j0 k a0 a0 ((bt a0 0) == 45)) else (none)) else (spec_l1Read.j0 k a0 a0 false)
set_option maxHeartbeats 8000000 in
set_option maxRecDepth 100000 in
theorem spec_l1Read.calls (k : Nat) (a0 : ByteArray) (r1 : Int) (r2 : Bool) (w : World) (h : spec_l1Read.f k a0 = some (r1, r2)) :
  Calls Tryd.prog 96 #[.string a0] w fun e w' => e = .returned (.tuple #[.int .i64 r1, .bool r2]) ∧ Below w.heap.size w w' := by
 (have HB := Aside0.mk (Below.refl w.heap.size w)); (unfold spec_l1Read.f at h); (have H := h); clear h; (have HC2 := Aside0.mk H); clear H; (go_enter Tryd.func96, Tryd.ntmps96); (go_upto_region 2 with (fail)); (go_cut [15] (fun v15 wc => ∃ (kq : Nat) (x15_1 : Bool), v15 = .bool x15_1 ∧ Aside0 (spec_l1Read.j0 kq a0 a0 x15_1 = some (r1, r2)) ∧ Aside0 (kq ≤ k) ∧ Aside0 (Below w.heap.size w wc)))
 case first =>
  (have H := HC2.out); clear HC2; (by_cases c3 : (a0.size : Int) > 1)
  ·rw [if_pos c3] at H
   (have c3b0 : decide (1 < (a0.size : Int)) = true := decide_eq_true c3); (have c3b1 : decide (1 < a0.size) = true := decide_eq_true (by omega)); clear c3; ((first | rw [c3b0] | (simp only [i64_w, i32_w]; rw [c3b0]) | skip)); (by_cases c4 : 0 < (a0.size : Int))
   ·rw [if_pos c4] at H
    (have c4b0 := decide_eq_true c4); (have c4b1 : decide (0 < a0.size) = true := decide_eq_true (by omega)); clear c4; (have H' := Aside0.mk H); clear H; (have p5 : 0 ≤ (0 : Int) := (by omega)); (have q5 : 0 < a0.size := Q138); (have hx5 : ∀ h : 0 < a0.size, ((a0[0]'h).toNat : Int) = bt a0 0 := bt_at a0 0); clear p5; (have qi5 : (0 < (a0.size : Int)) = True := eq_true odt); (replace q5 := eq_true q5); (go_wp2); (go_meet)
    case rel => exact ⟨_, (((bt a0 0) == 45)), Q32, H', ⟨Q99⟩, ⟨eI HB⟩⟩
   ·rw [if_neg c4] at H
    exact Q1
  ·rw [if_neg c3] at H
   (have c3b0 : decide (1 < (a0.size : Int)) = false := decide_eq_false c3); (have c3b1 : decide (1 < a0.size) = false := decide_eq_false (by omega)); clear c3; ((first | rw [c3b0] | (simp only [i64_w, i32_w]; rw [c3b0]) | skip)); (have H' := Aside0.mk H); clear H; (go_wp2); (go_meet)
   case rel => exact ⟨_, (false), Q32, H', ⟨Q99⟩, ⟨eI HB⟩⟩
 case rest =>
  clear HC2; (try clear p2); (try clear c3); (try clear c3b0); (try clear c3b1); (try clear c4); (try clear c4b0); (try clear c4b1); (try clear p5); (try clear q5); (try clear hx5); (try clear qi5); (try clear p5); (try clear q5); (obtain ⟨kq, x15_1, rfl, HA, HJ1, HB⟩ := hcut)
  cases kq with
  | zero => exact absurd HA.out (by simp [spec_l1Read.j0])
  | succ kj1 =>
   (have H := HA.out); clear HA; (simp only [spec_l1Read.j0] at H); (have HC6 := Aside0.mk H); clear H; (go_upto_if 15 with (fail)); (go_cut [4] (fun v4 wc => ∃ (kq : Nat) (x4_5 : ByteArray), v4 = .string x4_5 ∧ Aside0 (spec_l1Read.j1 kq a0 x4_5 = some (r1, r2)) ∧ Aside0 (kq ≤ kj1) ∧ Aside0 (Below w.heap.size w wc)))
   case first =>
    (have H := HC6.out); clear HC6; (by_cases c7 : x15_1 = true)
    ·subst c7
     (rw [if_pos rfl] at H); (by_cases c8 : 1 ≤ (a0.size : Int))
     ·rw [if_pos c8] at H
      (have c8b0 := eq_true c8); (have c8b1 := decide_eq_true c8); clear c8; (have H' := Aside0.mk H); clear H; (go_wp2); (go_meet)
      case rel => exact ⟨_, (a0.extract 1 a0.size), Q32, H', ⟨by have := HJ1.out; first | omega | exact Q6⟩, ⟨eI HB⟩⟩
     ·rw [if_neg c8] at H
      exact Q1
    ·replace c7 := Bool.eq_false_iff.mpr c7
     subst c7; (rw [if_neg (show ¬ (false = true) by decide)] at H); (have H' := Aside0.mk H); clear H; (go_wp2); (go_meet)
     case rel => exact ⟨_, (a0), Q32, H', ⟨by have := HJ1.out; first | omega | exact Q6⟩, ⟨eI HB⟩⟩
   case rest =>
    clear HC6; (try clear p2); (try clear c3); (try clear c3b0); (try clear c3b1); (try clear c4); (try clear c4b0); (try clear c4b1); (try clear p5); (try clear q5); (try clear hx5); (try clear qi5); (try clear c7); (try clear c8); (try clear c8b0); (try clear c8b1); (try clear p2); (try clear p5); (try clear q5); (obtain ⟨kq, x4_5, rfl, HA, HJ5, HB⟩ := hcut)
    cases kq with
    | zero => exact absurd HA.out (by simp [spec_l1Read.j1])
    | succ kj5 =>
     (have H := HA.out); clear HA; (simp only [spec_l1Read.j1] at H); (replace H := obS H); (obtain ⟨t101, A9, H⟩ := H); (by_cases c10 : t101 = true)
     ·subst c10
      (rw [if_pos rfl] at H); (have H' := Aside0.mk H); clear H; (go_wp2_with (first | ((with_reducible refine gate_callee (f := 82) rfl ?_); refine gL (some 20) Tryd.func82 #[.int .i64 (x4_5.size : Int), .int .i64 1, .int .i64 6] ?_; (with_reducible refine (spec_l1In.calls (x4_5.size : Int) 1 6 true _ A9.out).mono ?_); rintro e w' ⟨rfl, ⟨nd, rfl⟩⟩; refine ⟨_, rfl, ?_⟩))); (go_loopg [5, 6] kj5 (fun kq v5 v6 w' => ∃ (x5_3 : Int) (x6_3 : Int), v5 = .int .i64 x5_3 ∧ v6 = .int .i64 x6_3 ∧ Aside0 (spec_l1Read.l0 kq a0 x4_5 x5_3 x6_3 = some (r1, r2)) ∧ Aside0 (kq ≤ kj5) ∧ Aside0 (Below w.heap.size w w')))
      case atStart => exact ⟨(0), (0), Q32, Q32, H', ⟨Nat.le_refl _⟩, ⟨eI HB⟩⟩
      case round =>
       (clear H'); (try clear c1); (try clear p2); (try clear c3); (try clear c3b0); (try clear c3b1); (try clear c4); (try clear c4b0); (try clear c4b1); (try clear p5); (try clear q5); (try clear hx5); (try clear qi5); (try clear c7); (try clear c8); (try clear c8b0); (try clear c8b1); (try clear c9); (try clear c10); (try clear p2); (try clear p5); (try clear q5); (obtain ⟨x5_3, x6_3, rfl, rfl, HA, HK3, HB⟩ := hrel)
       cases gk with
       | zero => exact absurd HA.out (by simp [spec_l1Read.l0])
       | succ k3 =>
        (have H := HA.out); clear HA; (simp only [spec_l1Read.l0] at H); (by_cases c11 : x6_3 < (x4_5.size : Int))
        ·rw [if_pos c11] at H
         (have c11b0 := decide_eq_true c11); clear c11; (by_cases c12 : 0 ≤ x6_3)
         ·rw [if_pos c12] at H
          (have c12b0 := decide_eq_true c12); clear c12; (by_cases c14 : (bt x4_5 x6_3) < 48)
          ·rw [if_pos c14] at H
           (have c14b0 := decide_eq_true c14); clear c14; (simp only [Option.some.injEq, Prod.mk.injEq] at H); (obtain ⟨rfl, rfl⟩ := H); (have p13 : 0 ≤ (x6_3 : Int) := odt); (have q13 : x6_3 < (x4_5.size : Int) := odt); (have hx13 := bt_at x4_5 x6_3); (replace p13 := eq_true p13); (replace q13 := eq_true q13); (go_wp2); (go_ret2); (exact Q100)
          ·rw [if_neg c14] at H
           (have c14b0 := decide_eq_false c14); clear c14; (by_cases c16 : (bt x4_5 x6_3) > 57)
           ·rw [if_pos c16] at H
            (have c16b0 : decide (57 < (bt x4_5 x6_3)) = true := decide_eq_true c16); clear c16; (simp only [Option.some.injEq, Prod.mk.injEq] at H); (obtain ⟨rfl, rfl⟩ := H); (have p13 : 0 ≤ (x6_3 : Int) := odt); (have q13 : x6_3 < (x4_5.size : Int) := odt); (have hx13 := bt_at x4_5 x6_3); (replace p13 := eq_true p13); (replace q13 := eq_true q13); (have p15 : 0 ≤ (x6_3 : Int) := odt); (have q15 : x6_3 < (x4_5.size : Int) := odt); (have hx15 := bt_at x4_5 x6_3); (replace p15 := eq_true p15); (replace q15 := eq_true q15); (go_wp2); (go_ret2); (exact Q100)
           ·rw [if_neg c16] at H
            (have c16b0 : decide (57 < (bt x4_5 x6_3)) = false := decide_eq_false c16); clear c16; (have H' := Aside0.mk H); clear H; (have p13 : 0 ≤ (x6_3 : Int) := odt); (have q13 : x6_3 < (x4_5.size : Int) := odt); (have hx13 := bt_at x4_5 x6_3); (replace p13 := eq_true p13); (replace q13 := eq_true q13); (have p15 : 0 ≤ (x6_3 : Int) := odt); (have q15 : x6_3 < (x4_5.size : Int) := odt); (have hx15 := bt_at x4_5 x6_3); (replace p15 := eq_true p15); (replace q15 := eq_true q15); (have p17 : 0 ≤ (x6_3 : Int) := odt); (have q17 : x6_3 < (x4_5.size : Int) := odt); (have hx17 := bt_at x4_5 x6_3); (replace p17 := eq_true p17); (replace q17 := eq_true q17); (go_wp2); go_roundg k3
            case measure => have := HJ1.out; have := HJ5.out; have := HK3.out; omega
            case rel => exact ⟨(wrap64 ((wrap64 (10 * x5_3)) + (((bt x4_5 x6_3) - 48) % 256))), (wrap64 (x6_3 + 1)), Q32, Q32, H', ⟨by have := HJ1.out; have := HJ5.out; have := HK3.out; omega⟩, ⟨eI HB⟩⟩
         ·rw [if_neg c12] at H
          exact Q1
        ·rw [if_neg c11] at H
         (have c11b0 := decide_eq_false c11); clear c11; (by_cases c18 : (x4_5.size : Int) < (a0.size : Int))
         ·rw [if_pos c18] at H
          (have c18b0 := decide_eq_true c18); (have c18b1 : decide (x4_5.size < a0.size) = true := decide_eq_true (Int.ofNat_lt.mp c18)); clear c18; (replace H := obS H); (obtain ⟨t102, A19, H⟩ := H); (by_cases c20 : t102.toList = a0.toList); (· (rw [if_pos c20] at H); (have c20b0 : (t102.toList == a0.toList) = true := beq_iff_eq.mpr c20); (have c20b1 : (t102.toList != a0.toList) = false := bne_eq_false_iff_eq.mpr c20); clear c20; (simp only [Option.some.injEq, Prod.mk.injEq] at H); (obtain ⟨rfl, rfl⟩ := H); (go_wp2_with (first | ((with_reducible refine gate_callee (f := 84) rfl ?_); refine gL (some 54) Tryd.func84 #[.int .i64 (wrap64 (-x5_3))] ?_; (with_reducible refine (spec_l1Num.calls k3 (wrap64 (-x5_3)) t102 _ A19.out).mono ?_); rintro e w21 ⟨rfl, hb⟩; refine ⟨_, rfl, ?_⟩; have n0_ := Aside0.mk (sI hb HB); clear HB; have HB := n0_; clear n0_; (try clear hb); (try clear hb2); (try clear hk); (try clear hi)))); (go_ret2); (exact Q100)); (· (rw [if_neg c20] at H); (have c20b0 : (t102.toList == a0.toList) = false := beq_eq_false_iff_ne.mpr c20); (have c20b1 : (t102.toList != a0.toList) = true := bne_iff_ne.mpr c20); (simp only [Option.some.injEq, Prod.mk.injEq] at H); (obtain ⟨rfl, rfl⟩ := H); (go_wp2_with (first | ((with_reducible refine gate_callee (f := 84) rfl ?_); refine gL (some 54) Tryd.func84 #[.int .i64 (wrap64 (-x5_3))] ?_; (with_reducible refine (spec_l1Num.calls k3 (wrap64 (-x5_3)) t102 _ A19.out).mono ?_); rintro e w22 ⟨rfl, hb⟩; refine ⟨_, rfl, ?_⟩; have n0_ := Aside0.mk (sI hb HB); clear HB; have HB := n0_; clear n0_; (try clear hb); (try clear hb2); (try clear hk); (try clear hi)))); (go_ret2); (exact Q100))
         ·rw [if_neg c18] at H
          (have c18b0 := decide_eq_false c18); (have c18b1 : decide (x4_5.size < a0.size) = false := decide_eq_false (fun h => c18 (Int.ofNat_lt.mpr h))); clear c18; (replace H := obS H); (obtain ⟨t103, A23, H⟩ := H); (by_cases c24 : t103.toList = a0.toList); (· (rw [if_pos c24] at H); (have c24b0 : (t103.toList == a0.toList) = true := beq_iff_eq.mpr c24); (have c24b1 : (t103.toList != a0.toList) = false := bne_eq_false_iff_eq.mpr c24); clear c24; (simp only [Option.some.injEq, Prod.mk.injEq] at H); (obtain ⟨rfl, rfl⟩ := H); (go_wp2_with (first | ((with_reducible refine gate_callee (f := 84) rfl ?_); refine gL (some 54) Tryd.func84 #[.int .i64 x5_3] ?_; (with_reducible refine (spec_l1Num.calls k3 x5_3 t103 _ A23.out).mono ?_); rintro e w25 ⟨rfl, hb⟩; refine ⟨_, rfl, ?_⟩; have n0_ := Aside0.mk (sI hb HB); clear HB; have HB := n0_; clear n0_; (try clear hb); (try clear hb2); (try clear hk); (try clear hi)))); (go_ret2); (exact Q100)); (· (rw [if_neg c24] at H); (have c24b0 : (t103.toList == a0.toList) = false := beq_eq_false_iff_ne.mpr c24); (have c24b1 : (t103.toList != a0.toList) = true := bne_iff_ne.mpr c24); (simp only [Option.some.injEq, Prod.mk.injEq] at H); (obtain ⟨rfl, rfl⟩ := H); (go_wp2_with (first | ((with_reducible refine gate_callee (f := 84) rfl ?_); refine gL (some 54) Tryd.func84 #[.int .i64 x5_3] ?_; (with_reducible refine (spec_l1Num.calls k3 x5_3 t103 _ A23.out).mono ?_); rintro e w26 ⟨rfl, hb⟩; refine ⟨_, rfl, ?_⟩; have n0_ := Aside0.mk (sI hb HB); clear HB; have HB := n0_; clear n0_; (try clear hb); (try clear hb2); (try clear hk); (try clear hi)))); (go_ret2); (exact Q100))
     ·replace c10 := Bool.eq_false_iff.mpr c10
      subst c10; (rw [if_neg (show ¬ (false = true) by decide)] at H); (simp only [Option.some.injEq, Prod.mk.injEq] at H); (obtain ⟨rfl, rfl⟩ := H); (go_wp2_with (first | ((with_reducible refine gate_callee (f := 82) rfl ?_); refine gL (some 20) Tryd.func82 #[.int .i64 (x4_5.size : Int), .int .i64 1, .int .i64 6] ?_; (with_reducible refine (spec_l1In.calls (x4_5.size : Int) 1 6 false _ A9.out).mono ?_); rintro e w' ⟨rfl, ⟨nd, rfl⟩⟩; refine ⟨_, rfl, ?_⟩))); (go_ret2); (exact Q100)
/-! ### spec_ParseInt: function 86 -/
def spec_ParseInt.f (k : Nat) (a0 : ByteArray) : Option (Int × Bool) := (spec_l1Read.f k a0).bind fun bt101 => (some (bt101.1, bt101.2))
set_option maxHeartbeats 8000000 in
set_option maxRecDepth 100000 in
theorem spec_ParseInt.calls (k : Nat) (a0 : ByteArray) (r1 : Int) (r2 : Bool) (w : World) (h : spec_ParseInt.f k a0 = some (r1, r2)) :
  Calls Tryd.prog 86 #[.string a0] w fun e w' => e = .returned (.tuple #[.int .i64 r1, .bool r2]) ∧ Below w.heap.size w w' := by
 (have HB := Aside0.mk (Below.refl w.heap.size w)); (unfold spec_ParseInt.f at h); (have H := h); clear h; (replace H := obS H); (obtain ⟨⟨t101, t102⟩, A2, H⟩ := H); (replace H : (some (t101, t102)) = some (r1, r2) := H); (simp only [Option.some.injEq, Prod.mk.injEq] at H); (obtain ⟨rfl, rfl⟩ := H); (go_enter Tryd.func86, Tryd.ntmps86); (go_wp2_with (first | ((with_reducible refine gate_callee (f := 96) rfl ?_); refine gL (some 5) Tryd.func96 #[.string a0] ?_; (with_reducible refine (spec_l1Read.calls k a0 t101 t102 _ A2.out).mono ?_); rintro e w3 ⟨rfl, hb⟩; refine ⟨_, rfl, ?_⟩; have n0_ := Aside0.mk (sI hb HB); clear HB; have HB := n0_; clear n0_; (try clear hb); (try clear hb2); (try clear hk); (try clear hi)))); (go_ret2); (exact Q100)
/-! ### spec_l23Value: function 67 -/
def spec_l23Value.l0 : Nat → ByteArray → Int → ByteArray → Int → Int → Int → List ByteArray → Bool → ByteArray → Option (Bool)
 | 0, _, _, _, _, _, _, _, _, _ => none
 | k + 1, x1, x7, x102000, x102001, x102002, x102003, x102004, x102005, x102006 => if x7 < (x102004.length : Int) then (if 0 ≤ x7 then (if (rdOf ByteArray.empty x102004 x7).toList = x1.toList then (some true) else (spec_l23Value.l0 k x1 (wrap64 (x7 + 1)) x102000 x102001 x102002 x102003 x102004 x102005 x102006)) else (none)) else (some false)
def spec_l23Value.f (k : Nat) (a0_0 : ByteArray) (a0_1 : Int) (a0_2 : Int) (a0_3 : Int) (l0_4 : List ByteArray) (a0_5 : Bool) (a0_6 : ByteArray) (a1 : ByteArray) : Option (Bool) := if a0_1 = 1 then ((spec_ParseInt.f k a1).bind fun bt102 => (if bt102.2 = true then ((spec_l1In.f bt102.1 a0_2 a0_3).bind fun t104 => (some t104)) else (some false))) else (if a0_1 = 2 then ((spec_l1In.f (a1.size : Int) a0_2 a0_3).bind fun t105 => (some t105)) else (if a0_1 = 4 then (if a1.toList = ([121, 101, 115] : List UInt8) then (some true) else (some (a1.toList == ([110, 111] : List UInt8)))) else (spec_l23Value.l0 k a1 0 a0_0 a0_1 a0_2 a0_3 l0_4 a0_5 a0_6)))
set_option maxHeartbeats 8000000 in
set_option maxRecDepth 100000 in
theorem spec_l23Value.calls (k : Nat) (a0_0 : ByteArray) (a0_1 : Int) (a0_2 : Int) (a0_3 : Int) (A0_4 : Option Addr) (c0_4 : Nat) (l0_4 : List ByteArray) (a0_5 : Bool) (a0_6 : ByteArray) (a1 : ByteArray) (r : Bool) (w : World) (hr0_4 : Kd.C Kd.string w A0_4 l0_4.length l0_4) (hc0_4 : l0_4.length ≤ c0_4) (h : spec_l23Value.f k a0_0 a0_1 a0_2 a0_3 l0_4 a0_5 a0_6 a1 = some r) :
  Calls Tryd.prog 67 #[.agg #[.string a0_0, .int .i64 a0_1, .int .i64 a0_2, .int .i64 a0_3, .slice A0_4 l0_4.length c0_4, .bool a0_5, .string a0_6], .string a1] w fun e w' => e = .returned (.bool r) ∧ Below w.heap.size w w' := by
 (have hu54 := Tryd.underlying54); (have HR0_4 := Aside0.mk hr0_4); (have HC0_4 := Aside0.mk hc0_4); clear hr0_4 hc0_4; (have HB := Aside0.mk (Below.refl w.heap.size w)); (unfold spec_l23Value.f at h); (have H := h); clear h; (by_cases c3 : a0_1 = 1)
 ·rw [if_pos c3] at H
  (have c3b0 : (a0_1 == 1) = true := beq_iff_eq.mpr c3); (have c3b1 : (a0_1 != 1) = false := bne_eq_false_iff_eq.mpr c3); clear c3; (replace H := obS H); (obtain ⟨⟨t102, t103⟩, A4, H⟩ := H); (replace H : (if t103 = true then ((spec_l1In.f t102 a0_2 a0_3).bind fun t104 => (some t104)) else (some false)) = some r := H); (by_cases c5 : t103 = true); (· subst c5; (rw [if_pos rfl] at H); (replace H := obS H); (obtain ⟨t104, A6, H⟩ := H); (obtain rfl := Option.some.inj H); (go_enter Tryd.func67, Tryd.ntmps67); (go_wp2_with (first | ((with_reducible refine gate_dst (N := 2) rfl ?_); refine box_event ?hg (N := 2) ?hd (cs := #[.string a0_0, .int .i64 a0_1, .int .i64 a0_2, .int .i64 a0_3, .slice A0_4 l0_4.length c0_4, .bool a0_5, .string a0_6]) (t := 54) ?hr ?_; (case hd => rfl); (case hg => rfl); (case hr => first | (go_simp; done) | (go_simp; rfl)); intro gb101 hg w7 hbox hb; have hB_ := zI hb HB; have n0_ := Aside0.mk (below_step hB_ hb); have n1_ := Aside0.mk (hbox); have n2_ := Aside0.mk (bx0 hg hB_); have n3_ := n2_; clear HB; have HB := n0_; have BK101 := n1_; have GW101 := n2_; have GE101 := n3_; clear n0_ n1_ n2_ n3_ hB_ hb hbox hg; have hcz8_0 := cz BK101.out 0; have hcz8_1 := cz BK101.out 1; have hcz8_2 := cz BK101.out 2; have hcz8_3 := cz BK101.out 3; have hcz8_4 := cz BK101.out 4; have hcz8_5 := cz BK101.out 5; have hcz8_6 := cz BK101.out 6; have hfz8_0 := blk_frozen BK101.out 0; have hfz8_1 := blk_frozen BK101.out 1; have hfz8_2 := blk_frozen BK101.out 2; have hfz8_3 := blk_frozen BK101.out 3; have hfz8_4 := blk_frozen BK101.out 4; have hfz8_5 := blk_frozen BK101.out 5; have hfz8_6 := blk_frozen BK101.out 6) | ((with_reducible refine gate_callee (f := 86) rfl ?_); refine gL (some 14) Tryd.func86 #[.string a1] ?_; (with_reducible refine (spec_ParseInt.calls k a1 t102 true _ A4.out).mono ?_); rintro e w9 ⟨rfl, hb⟩; refine ⟨_, rfl, ?_⟩; have n0_ := Aside0.mk (kbI hb BK101); have n1_ := Aside0.mk (sI hb HB); clear BK101 HB; have BK101 := n0_; have HB := n1_; clear n0_ n1_; (try clear hb); (try clear hb2); (try clear hk); (try clear hi); have hcz10_0 := cz BK101.out 0; have hcz10_1 := cz BK101.out 1; have hcz10_2 := cz BK101.out 2; have hcz10_3 := cz BK101.out 3; have hcz10_4 := cz BK101.out 4; have hcz10_5 := cz BK101.out 5; have hcz10_6 := cz BK101.out 6; have hfz10_0 := blk_frozen BK101.out 0; have hfz10_1 := blk_frozen BK101.out 1; have hfz10_2 := blk_frozen BK101.out 2; have hfz10_3 := blk_frozen BK101.out 3; have hfz10_4 := blk_frozen BK101.out 4; have hfz10_5 := blk_frozen BK101.out 5; have hfz10_6 := blk_frozen BK101.out 6) | (go_at_call 82; (with_reducible refine (spec_l1In.calls t102 a0_2 a0_3 t104 _ A6.out).mono ?_); rintro e w' ⟨rfl, ⟨nd, rfl⟩⟩))); go_ret; (exact Q100))
  ·replace c5 := Bool.eq_false_iff.mpr c5
   subst c5; (rw [if_neg (show ¬ (false = true) by decide)] at H); (obtain rfl := Option.some.inj H); (go_enter Tryd.func67, Tryd.ntmps67); (go_wp2_with (first | ((with_reducible refine gate_dst (N := 2) rfl ?_); refine box_event ?hg (N := 2) ?hd (cs := #[.string a0_0, .int .i64 a0_1, .int .i64 a0_2, .int .i64 a0_3, .slice A0_4 l0_4.length c0_4, .bool a0_5, .string a0_6]) (t := 54) ?hr ?_; (case hd => rfl); (case hg => rfl); (case hr => first | (go_simp; done) | (go_simp; rfl)); intro gb101 hg w11 hbox hb; have hB_ := zI hb HB; have n0_ := Aside0.mk (below_step hB_ hb); have n1_ := Aside0.mk (hbox); have n2_ := Aside0.mk (bx0 hg hB_); have n3_ := n2_; clear HB; have HB := n0_; have BK101 := n1_; have GW101 := n2_; have GE101 := n3_; clear n0_ n1_ n2_ n3_ hB_ hb hbox hg; have hcz12_0 := cz BK101.out 0; have hcz12_1 := cz BK101.out 1; have hcz12_2 := cz BK101.out 2; have hcz12_3 := cz BK101.out 3; have hcz12_4 := cz BK101.out 4; have hcz12_5 := cz BK101.out 5; have hcz12_6 := cz BK101.out 6; have hfz12_0 := blk_frozen BK101.out 0; have hfz12_1 := blk_frozen BK101.out 1; have hfz12_2 := blk_frozen BK101.out 2; have hfz12_3 := blk_frozen BK101.out 3; have hfz12_4 := blk_frozen BK101.out 4; have hfz12_5 := blk_frozen BK101.out 5; have hfz12_6 := blk_frozen BK101.out 6) | ((with_reducible refine gate_callee (f := 86) rfl ?_); refine gL (some 14) Tryd.func86 #[.string a1] ?_; (with_reducible refine (spec_ParseInt.calls k a1 t102 false _ A4.out).mono ?_); rintro e w13 ⟨rfl, hb⟩; refine ⟨_, rfl, ?_⟩; have n0_ := Aside0.mk (kbI hb BK101); have n1_ := Aside0.mk (sI hb HB); clear BK101 HB; have BK101 := n0_; have HB := n1_; clear n0_ n1_; (try clear hb); (try clear hb2); (try clear hk); (try clear hi)))); go_ret; (exact Q100)
 ·rw [if_neg c3] at H
  (have c3b0 : (a0_1 == 1) = false := beq_eq_false_iff_ne.mpr c3); (have c3b1 : (a0_1 != 1) = true := bne_iff_ne.mpr c3); (by_cases c14 : a0_1 = 2)
  ·rw [if_pos c14] at H
   (have c14b0 : (a0_1 == 2) = true := beq_iff_eq.mpr c14); (have c14b1 : (a0_1 != 2) = false := bne_eq_false_iff_eq.mpr c14); clear c14; (replace H := obS H); (obtain ⟨t105, A15, H⟩ := H); (obtain rfl := Option.some.inj H); (go_enter Tryd.func67, Tryd.ntmps67); (go_wp2_with (first | ((with_reducible refine gate_dst (N := 2) rfl ?_); refine box_event ?hg (N := 2) ?hd (cs := #[.string a0_0, .int .i64 a0_1, .int .i64 a0_2, .int .i64 a0_3, .slice A0_4 l0_4.length c0_4, .bool a0_5, .string a0_6]) (t := 54) ?hr ?_; (case hd => rfl); (case hg => rfl); (case hr => first | (go_simp; done) | (go_simp; rfl)); intro gb101 hg w16 hbox hb; have hB_ := zI hb HB; have n0_ := Aside0.mk (below_step hB_ hb); have n1_ := Aside0.mk (hbox); have n2_ := Aside0.mk (bx0 hg hB_); have n3_ := n2_; clear HB; have HB := n0_; have BK101 := n1_; have GW101 := n2_; have GE101 := n3_; clear n0_ n1_ n2_ n3_ hB_ hb hbox hg; have hcz17_0 := cz BK101.out 0; have hcz17_1 := cz BK101.out 1; have hcz17_2 := cz BK101.out 2; have hcz17_3 := cz BK101.out 3; have hcz17_4 := cz BK101.out 4; have hcz17_5 := cz BK101.out 5; have hcz17_6 := cz BK101.out 6; have hfz17_0 := blk_frozen BK101.out 0; have hfz17_1 := blk_frozen BK101.out 1; have hfz17_2 := blk_frozen BK101.out 2; have hfz17_3 := blk_frozen BK101.out 3; have hfz17_4 := blk_frozen BK101.out 4; have hfz17_5 := blk_frozen BK101.out 5; have hfz17_6 := blk_frozen BK101.out 6) | ((with_reducible refine gate_callee (f := 82) rfl ?_); refine gL (some 34) Tryd.func82 #[.int .i64 (a1.size : Int), .int .i64 a0_2, .int .i64 a0_3] ?_; (with_reducible refine (spec_l1In.calls (a1.size : Int) a0_2 a0_3 t105 _ A15.out).mono ?_); rintro e w' ⟨rfl, ⟨nd, rfl⟩⟩; refine ⟨_, rfl, ?_⟩))); go_ret; (exact Q100)
  ·rw [if_neg c14] at H
   (have c14b0 : (a0_1 == 2) = false := beq_eq_false_iff_ne.mpr c14); (have c14b1 : (a0_1 != 2) = true := bne_iff_ne.mpr c14); (by_cases c18 : a0_1 = 4)
   ·rw [if_pos c18] at H
    (have c18b0 : (a0_1 == 4) = true := beq_iff_eq.mpr c18); (have c18b1 : (a0_1 != 4) = false := bne_eq_false_iff_eq.mpr c18); clear c18; (by_cases c19 : a1.toList = ([121, 101, 115] : List UInt8)); (· (rw [if_pos c19] at H); (have c19b0 : (a1.toList == ([121, 101, 115] : List UInt8)) = true := beq_iff_eq.mpr c19); (have c19b1 : (a1.toList != ([121, 101, 115] : List UInt8)) = false := bne_eq_false_iff_eq.mpr c19); clear c19; (obtain rfl := Option.some.inj H); (go_enter Tryd.func67, Tryd.ntmps67); (go_wp2_with (first | ((with_reducible refine gate_dst (N := 2) rfl ?_); refine box_event ?hg (N := 2) ?hd (cs := #[.string a0_0, .int .i64 a0_1, .int .i64 a0_2, .int .i64 a0_3, .slice A0_4 l0_4.length c0_4, .bool a0_5, .string a0_6]) (t := 54) ?hr ?_; (case hd => rfl); (case hg => rfl); (case hr => first | (go_simp; done) | (go_simp; rfl)); intro gb101 hg w20 hbox hb; have hB_ := zI hb HB; have n0_ := Aside0.mk (below_step hB_ hb); have n1_ := Aside0.mk (hbox); have n2_ := Aside0.mk (bx0 hg hB_); have n3_ := n2_; clear HB; have HB := n0_; have BK101 := n1_; have GW101 := n2_; have GE101 := n3_; clear n0_ n1_ n2_ n3_ hB_ hb hbox hg; have hcz21_0 := cz BK101.out 0; have hcz21_1 := cz BK101.out 1; have hcz21_2 := cz BK101.out 2; have hcz21_3 := cz BK101.out 3; have hcz21_4 := cz BK101.out 4; have hcz21_5 := cz BK101.out 5; have hcz21_6 := cz BK101.out 6; have hfz21_0 := blk_frozen BK101.out 0; have hfz21_1 := blk_frozen BK101.out 1; have hfz21_2 := blk_frozen BK101.out 2; have hfz21_3 := blk_frozen BK101.out 3; have hfz21_4 := blk_frozen BK101.out 4; have hfz21_5 := blk_frozen BK101.out 5; have hfz21_6 := blk_frozen BK101.out 6))); go_ret; (exact Q100)); (· (rw [if_neg c19] at H); (have c19b0 : (a1.toList == ([121, 101, 115] : List UInt8)) = false := beq_eq_false_iff_ne.mpr c19); (have c19b1 : (a1.toList != ([121, 101, 115] : List UInt8)) = true := bne_iff_ne.mpr c19); (obtain rfl := Option.some.inj H); (go_enter Tryd.func67, Tryd.ntmps67); (go_wp2_with (first | ((with_reducible refine gate_dst (N := 2) rfl ?_); refine box_event ?hg (N := 2) ?hd (cs := #[.string a0_0, .int .i64 a0_1, .int .i64 a0_2, .int .i64 a0_3, .slice A0_4 l0_4.length c0_4, .bool a0_5, .string a0_6]) (t := 54) ?hr ?_; (case hd => rfl); (case hg => rfl); (case hr => first | (go_simp; done) | (go_simp; rfl)); intro gb101 hg w22 hbox hb; have hB_ := zI hb HB; have n0_ := Aside0.mk (below_step hB_ hb); have n1_ := Aside0.mk (hbox); have n2_ := Aside0.mk (bx0 hg hB_); have n3_ := n2_; clear HB; have HB := n0_; have BK101 := n1_; have GW101 := n2_; have GE101 := n3_; clear n0_ n1_ n2_ n3_ hB_ hb hbox hg; have hcz23_0 := cz BK101.out 0; have hcz23_1 := cz BK101.out 1; have hcz23_2 := cz BK101.out 2; have hcz23_3 := cz BK101.out 3; have hcz23_4 := cz BK101.out 4; have hcz23_5 := cz BK101.out 5; have hcz23_6 := cz BK101.out 6; have hfz23_0 := blk_frozen BK101.out 0; have hfz23_1 := blk_frozen BK101.out 1; have hfz23_2 := blk_frozen BK101.out 2; have hfz23_3 := blk_frozen BK101.out 3; have hfz23_4 := blk_frozen BK101.out 4; have hfz23_5 := blk_frozen BK101.out 5; have hfz23_6 := blk_frozen BK101.out 6))); go_ret; (exact Q100))
   ·rw [if_neg c18] at H
    (have c18b0 : (a0_1 == 4) = false := beq_eq_false_iff_ne.mpr c18); (have c18b1 : (a0_1 != 4) = true := bne_iff_ne.mpr c18); (have H' := Aside0.mk H); clear H; (go_enter Tryd.func67, Tryd.ntmps67); (go_wp2_with (first | ((with_reducible refine gate_dst (N := 2) rfl ?_); refine box_event ?hg (N := 2) ?hd (cs := #[.string a0_0, .int .i64 a0_1, .int .i64 a0_2, .int .i64 a0_3, .slice A0_4 l0_4.length c0_4, .bool a0_5, .string a0_6]) (t := 54) ?hr ?_; (case hd => rfl); (case hg => rfl); (case hr => first | (go_simp; done) | (go_simp; rfl)); intro gb101 hg w24 hbox hb; have hB_ := zI hb HB; have n0_ := Aside0.mk (below_step hB_ hb); have n1_ := Aside0.mk (hbox); have n2_ := Aside0.mk (bx0 hg hB_); have n3_ := n2_; clear HB; have HB := n0_; have BK101 := n1_; have GW101 := n2_; have GE101 := n3_; clear n0_ n1_ n2_ n3_ hB_ hb hbox hg; have hcz25_0 := cz BK101.out 0; have hcz25_1 := cz BK101.out 1; have hcz25_2 := cz BK101.out 2; have hcz25_3 := cz BK101.out 3; have hcz25_4 := cz BK101.out 4; have hcz25_5 := cz BK101.out 5; have hcz25_6 := cz BK101.out 6; have hfz25_0 := blk_frozen BK101.out 0; have hfz25_1 := blk_frozen BK101.out 1; have hfz25_2 := blk_frozen BK101.out 2; have hfz25_3 := blk_frozen BK101.out 3; have hfz25_4 := blk_frozen BK101.out 4; have hfz25_5 := blk_frozen BK101.out 5; have hfz25_6 := blk_frozen BK101.out 6))); (go_loopg [7] k (fun kq v7 w' => ∃ (x7_1 : Int), v7 = .int .i64 x7_1 ∧ Aside0 (spec_l23Value.l0 kq a1 x7_1 a0_0 a0_1 a0_2 a0_3 l0_4 a0_5 a0_6 = some r) ∧ Aside0 (kq ≤ k) ∧ Aside0 (w'.heap[gb101]? = some (.cells #[.string a0_0, .int .i64 a0_1, .int .i64 a0_2, .int .i64 a0_3, (.slice A0_4 l0_4.length c0_4), .bool a0_5, .string a0_6] 54 (0, 0))) ∧ Aside0 (Below w.heap.size w w')))
    case atStart => exact Q104
    case round =>
     (clear H'); (try clear c1); (try clear p2); (try clear c3); (try clear c3b0); (try clear c3b1); (try clear c5); (try clear c6); (try clear c8); (try clear c14); (try clear c14b0); (try clear c14b1); (try clear c18); (try clear c18b0); (try clear c18b1); (try clear c19); (try clear c19b0); (try clear c19b1); (try clear hcz10_0); (try clear hcz10_1); (try clear hcz10_2); (try clear hcz10_3); (try clear hcz10_4); (try clear hcz10_5); (try clear hcz10_6); (try clear hcz12_0); (try clear hcz12_1); (try clear hcz12_2); (try clear hcz12_3); (try clear hcz12_4); (try clear hcz12_5); (try clear hcz12_6); (try clear hcz17_0); (try clear hcz17_1); (try clear hcz17_2); (try clear hcz17_3); (try clear hcz17_4); (try clear hcz17_5); (try clear hcz17_6); (try clear hcz21_0); (try clear hcz21_1); (try clear hcz21_2); (try clear hcz21_3); (try clear hcz21_4); (try clear hcz21_5); (try clear hcz21_6); (try clear hcz23_0); (try clear hcz23_1); (try clear hcz23_2); (try clear hcz23_3); (try clear hcz23_4); (try clear hcz23_5); (try clear hcz23_6); (try clear hcz25_0); (try clear hcz25_1); (try clear hcz25_2); (try clear hcz25_3); (try clear hcz25_4); (try clear hcz25_5); (try clear hcz25_6); (try clear hcz8_0); (try clear hcz8_1); (try clear hcz8_2); (try clear hcz8_3); (try clear hcz8_4); (try clear hcz8_5); (try clear hcz8_6); (try clear hfz10_0); (try clear hfz10_1); (try clear hfz10_2); (try clear hfz10_3); (try clear hfz10_4); (try clear hfz10_5); (try clear hfz10_6); (try clear hfz12_0); (try clear hfz12_1); (try clear hfz12_2); (try clear hfz12_3); (try clear hfz12_4); (try clear hfz12_5); (try clear hfz12_6); (try clear hfz17_0); (try clear hfz17_1); (try clear hfz17_2); (try clear hfz17_3); (try clear hfz17_4); (try clear hfz17_5); (try clear hfz17_6); (try clear hfz21_0); (try clear hfz21_1); (try clear hfz21_2); (try clear hfz21_3); (try clear hfz21_4); (try clear hfz21_5); (try clear hfz21_6); (try clear hfz23_0); (try clear hfz23_1); (try clear hfz23_2); (try clear hfz23_3); (try clear hfz23_4); (try clear hfz23_5); (try clear hfz23_6); (try clear hfz25_0); (try clear hfz25_1); (try clear hfz25_2); (try clear hfz25_3); (try clear hfz25_4); (try clear hfz25_5); (try clear hfz25_6); (try clear hfz8_0); (try clear hfz8_1); (try clear hfz8_2); (try clear hfz8_3); (try clear hfz8_4); (try clear hfz8_5); (try clear hfz8_6); (obtain ⟨x7_1, rfl, HA, HK1, BK101, HB⟩ := hrel)
     cases gk with
     | zero => exact absurd HA.out (by simp [spec_l23Value.l0])
     | succ k1 =>
      (have H := HA.out); clear HA; (simp only [spec_l23Value.l0] at H); (by_cases c26 : x7_1 < (l0_4.length : Int))
      ·rw [if_pos c26] at H
       (have c26b0 := decide_eq_true c26); clear c26; (by_cases c27 : 0 ≤ x7_1)
       ·rw [if_pos c27] at H
        (have c27b0 := decide_eq_true c27); clear c27; (by_cases c28 : (rdOf ByteArray.empty l0_4 x7_1).toList = a1.toList)
        ·rw [if_pos c28] at H
         (have c28b0 : ((rdOf ByteArray.empty l0_4 x7_1).toList == a1.toList) = true := beq_iff_eq.mpr c28); (have c28b1 : ((rdOf ByteArray.empty l0_4 x7_1).toList != a1.toList) = false := bne_eq_false_iff_eq.mpr c28); clear c28; (obtain rfl := Option.some.inj H); (have hcz29_0 := cz BK101.out 0); (have hcz29_1 := cz BK101.out 1); (have hcz29_2 := cz BK101.out 2); (have hcz29_3 := cz BK101.out 3); (have hcz29_4 := cz BK101.out 4); (have hcz29_5 := cz BK101.out 5); (have hcz29_6 := cz BK101.out 6); (have hfz29_0 := blk_frozen BK101.out 0); (have hfz29_1 := blk_frozen BK101.out 1); (have hfz29_2 := blk_frozen BK101.out 2); (have hfz29_3 := blk_frozen BK101.out 3); (have hfz29_4 := blk_frozen BK101.out 4); (have hfz29_5 := blk_frozen BK101.out 5); (have hfz29_6 := blk_frozen BK101.out 6); (have p106 : 0 ≤ (x7_1 : Int) := odt); (have q106 : x7_1 < (l0_4.length : Int) := odt); (obtain ⟨ad106, e106, hx106_0⟩ := Kd.at_string HR0_4.out x7_1 p106 q106); (cases e106); (replace hx106_0 := hcI HB hx106_0); (replace p106 := eq_true p106); (replace q106 := eq_true q106); (go_wp2); go_ret; (exact Q100)
        ·rw [if_neg c28] at H
         (have c28b0 : ((rdOf ByteArray.empty l0_4 x7_1).toList == a1.toList) = false := beq_eq_false_iff_ne.mpr c28); (have c28b1 : ((rdOf ByteArray.empty l0_4 x7_1).toList != a1.toList) = true := bne_iff_ne.mpr c28); (have H' := Aside0.mk H); clear H; (have hcz30_0 := cz BK101.out 0); (have hcz30_1 := cz BK101.out 1); (have hcz30_2 := cz BK101.out 2); (have hcz30_3 := cz BK101.out 3); (have hcz30_4 := cz BK101.out 4); (have hcz30_5 := cz BK101.out 5); (have hcz30_6 := cz BK101.out 6); (have hfz30_0 := blk_frozen BK101.out 0); (have hfz30_1 := blk_frozen BK101.out 1); (have hfz30_2 := blk_frozen BK101.out 2); (have hfz30_3 := blk_frozen BK101.out 3); (have hfz30_4 := blk_frozen BK101.out 4); (have hfz30_5 := blk_frozen BK101.out 5); (have hfz30_6 := blk_frozen BK101.out 6); (have p106 : 0 ≤ (x7_1 : Int) := odt); (have q106 : x7_1 < (l0_4.length : Int) := odt); (obtain ⟨ad106, e106, hx106_0⟩ := Kd.at_string HR0_4.out x7_1 p106 q106); (cases e106); (replace hx106_0 := hcI HB hx106_0); (replace p106 := eq_true p106); (replace q106 := eq_true q106); (go_wp2); go_roundg k1
         case measure => have := HK1.out; omega
         case rel => exact ⟨(wrap64 (x7_1 + 1)), Q32, H', ⟨Q69⟩, ⟨kI BK101⟩, ⟨eI HB⟩⟩
       ·rw [if_neg c27] at H
        exact Q1
      ·rw [if_neg c26] at H
       (have c26b0 := decide_eq_false c26); clear c26; (obtain rfl := Option.some.inj H); (have hcz31_0 := cz BK101.out 0); (have hcz31_1 := cz BK101.out 1); (have hcz31_2 := cz BK101.out 2); (have hcz31_3 := cz BK101.out 3); (have hcz31_4 := cz BK101.out 4); (have hcz31_5 := cz BK101.out 5); (have hcz31_6 := cz BK101.out 6); (have hfz31_0 := blk_frozen BK101.out 0); (have hfz31_1 := blk_frozen BK101.out 1); (have hfz31_2 := blk_frozen BK101.out 2); (have hfz31_3 := blk_frozen BK101.out 3); (have hfz31_4 := blk_frozen BK101.out 4); (have hfz31_5 := blk_frozen BK101.out 5); (have hfz31_6 := blk_frozen BK101.out 6); (go_wp2); go_ret; (exact Q100)
/-! ### spec_l23States: function 41 -/
mutual
def spec_l23States.l0 : Nat → List (S54) → List (S51) → List Bool → List Int → Int → Option (List Int)
 | 0, _, _, _, _, _ => none
 | k + 1, x0, x1, x5, x6, x7 => if x7 < (x0.length : Int) then (if 0 ≤ x7 then ((spec_l23Text.f k x1 ((rd_T54 x0 x7).f0)).bind fun bt108 => (if x7 < (x5.length : Int) then (if rdOf false x5 x7 = true then (spec_l23States.j1 k x0 x1 x5 x6 x7 bt108.1 bt108.2 false) else (spec_l23States.j1 k x0 x1 x5 x6 x7 bt108.1 bt108.2 bt108.2)) else (none))) else (none)) else (some x6)
def spec_l23States.j1 : Nat → List (S54) → List (S51) → List Bool → List Int → Int → ByteArray → Bool → Bool → Option (List Int)
 | 0, _, _, _, _, _, _, _, _ => none
 | k + 1, x0, x1, x5, x6, x7, x8, x9, x33 => if x33 = true then (if x6.length < 17592186044416 then (spec_l23States.l0 k x0 x1 x5 (x6 ++ [3]) (wrap64 (x7 + 1))) else (none)) else (if 0 ≤ x7 then (if x7 < (x5.length : Int) then (if rdOf false x5 x7 = true then (if x7 < (x0.length : Int) then (if (rd_T54 x0 x7).f5 = true then (spec_l23States.j2 k x0 x1 x5 x6 x7 x8 x9 (!x9)) else (spec_l23States.j2 k x0 x1 x5 x6 x7 x8 x9 false)) else (none)) else (spec_l23States.j2 k x0 x1 x5 x6 x7 x8 x9 false)) else (none)) else (none))
def spec_l23States.j2 : Nat → List (S54) → List (S51) → List Bool → List Int → Int → ByteArray → Bool → Bool → Option (List Int)
 | 0, _, _, _, _, _, _, _, _ => none
 | k + 1, x0, x1, x5, x6, x7, x8, x9, x45 => if x45 = true then (if x6.length < 17592186044416 then (spec_l23States.l0 k x0 x1 x5 (x6 ++ [1]) (wrap64 (x7 + 1))) else (none)) else (if 0 ≤ x7 then (if x7 < (x5.length : Int) then (if rdOf false x5 x7 = true then (if x9 = true then (if x7 < (x0.length : Int) then ((spec_l23Value.f k ((rd_T54 x0 x7).f0) ((rd_T54 x0 x7).f1) ((rd_T54 x0 x7).f2) ((rd_T54 x0 x7).f3) ((rd_T54 x0 x7).f4) ((rd_T54 x0 x7).f5) ((rd_T54 x0 x7).f6) x8).bind fun t121 => (if t121 = true then (if x6.length < 17592186044416 then (spec_l23States.l0 k x0 x1 x5 (x6 ++ [0]) (wrap64 (x7 + 1))) else (none)) else (if x6.length < 17592186044416 then (spec_l23States.l0 k x0 x1 x5 (x6 ++ [2]) (wrap64 (x7 + 1))) else (none)))) else (none)) else (if x6.length < 17592186044416 then (spec_l23States.l0 k x0 x1 x5 (x6 ++ [0]) (wrap64 (x7 + 1))) else (none))) else (if x6.length < 17592186044416 then (spec_l23States.l0 k x0 x1 x5 (x6 ++ [0]) (wrap64 (x7 + 1))) else (none))) else (none)) else (none))
end
def spec_l23States.f (k : Nat) (l0 : List (S54)) (l1 : List (S51)) : Option (List Int) := (spec_l23Visible.f k l0 l1).bind fun t101 => (spec_l23States.l0 k l0 l1 t101 (([] : List Int)) 0)
set_option maxHeartbeats 8000000 in
set_option maxRecDepth 100000 in
theorem spec_l23States.calls (k : Nat) (A0 : Option Addr) (c0 : Nat) (l0 : List (S54)) (A1 : Option Addr) (c1 : Nat) (l1 : List (S51)) (r : List Int) (w : World) (hr0 : Kd.C k54 w A0 l0.length l0) (hc0 : l0.length ≤ c0) (hr1 : Kd.C k51 w A1 l1.length l1) (hc1 : l1.length ≤ c1) (h : spec_l23States.f k l0 l1 = some r) :
  Calls Tryd.prog 41 #[.slice A0 l0.length c0, .slice A1 l1.length c1] w fun e w' => ∃ v0_ : Value, e = .returned (v0_) ∧ Kd.R (Kd.int .i64) 3 w' w.heap.size (fun _ => True) v0_ r ∧ Below w.heap.size w w' := by
 (have hu54 := Tryd.underlying54); (have HR0 := Aside0.mk hr0); (have HC0 := Aside0.mk hc0); clear hr0 hc0; (have HR1 := Aside0.mk hr1); (have HC1 := Aside0.mk hc1); clear hr1 hc1; (have HB := Aside0.mk (Below.refl w.heap.size w)); (unfold spec_l23States.f at h); (have H := h); clear h; (replace H := obS H); (obtain ⟨t101, A3, H⟩ := H); (obtain ⟨y104, hy104⟩ : ∃ y_ : List Int, y_ = (([] : List Int)) := ⟨_, rfl⟩); (replace H : (spec_l23States.l0 k l0 l1 t101 y104 0) = some r := Q26); (have Ny104 := Aside0.mk hy104); clear hy104; (have H' := Aside0.mk H); clear H; (go_enter Tryd.func41, Tryd.ntmps41); (go_wp2_with (first | ((with_reducible refine gate_callee (f := 65) rfl ?_); refine gL (some 12) Tryd.func65 #[.slice A0 l0.length c0, .slice A1 l1.length c1] ?_; (with_reducible refine (spec_l23Visible.calls k _ _ l0 _ _ l1 t101 _ ?side1 ?side2 ?side3 ?side4 A3.out).mono ?_); (case side1 => exact cI HR0.out); (case side2 => exact HC0.out); (case side3 => exact cI HR1.out); (case side4 => exact HC1.out); rintro e w4 ⟨v102, rfl, ho0, hb⟩; refine ⟨_, rfl, ?_⟩; have n0_ := Aside0.mk (Kd.R_lower ho0 (below_size (eI HB))); have n1_ := Aside0.mk (sI hb HB); clear HB; have HO103 := n0_; have HB := n1_; clear n0_ n1_; (try clear hb); (try clear hb2); (try clear hk); (try clear hi); (try clear ho0)) | ((with_reducible refine gate_dst (N := 13) rfl ?_); refine Kd.R_lit (Kd.int .i64) _ 3 ?hg (N := 13) ?hd (xs := ([] : List Int)) (inner := []) (ok := fun _ => True) (okp := fun _ => True) ?hr ?hp (fun _ hk => hk) trivial (Below.refl _ _) (Nat.le_refl _) (by simp) ?_; (case hd => rfl); (case hg => rfl); (case hr => first | (go_simp; done) | (go_simp; rfl)); (case hp => exact Q28); intro v105 w5 ho6 hb hg_ hnew_; clear hg_ hnew_; (first | rw [← Ny104.out] at ho6 | (simp only [Int.reduceToNat] at ho6; rw [← Ny104.out] at ho6)); have n0_ := Aside0.mk (rbI hb HO103); have hB_ := zI hb HB; have n1_ := Aside0.mk (Kd.R_lower ho6 (below_size hB_)); have n2_ := Aside0.mk (below_step hB_ hb); clear HO103 HB; have HO103 := n0_; have HO106 := n1_; have HB := n2_; clear n0_ n1_ n2_ hB_ hb ho6))); (go_loopg [6, 7] k (fun kq v6 v7 w' => ∃ (x6_1 : List Int) (x7_1 : Int), v7 = .int .i64 x7_1 ∧ Aside0 (spec_l23States.l0 kq l0 l1 t101 x6_1 x7_1 = some r) ∧ Aside0 (kq ≤ k) ∧ Aside0 (Kd.R Kd.bool 4 w' w.heap.size (fun _ => True) v102 t101) ∧ Aside0 (Kd.R (Kd.int .i64) 3 w' w.heap.size (fun _ => True) v6 x6_1) ∧ Aside0 (Below w.heap.size w w')))
 case atStart => exact ⟨(y104), (0), Q32, H', ⟨Nat.le_refl _⟩, ⟨rI HO103⟩, ⟨rI HO106⟩, ⟨eI HB⟩⟩
 case round =>
  (clear H'); (try clear c1); (try clear p2); (try clear c4); (try clear c6); (obtain ⟨x6_1, x7_1, rfl, HA, HK1, HO_5, HO_6, HB⟩ := hrel)
  cases gk with
  | zero => exact absurd HA.out (by simp [spec_l23States.l0])
  | succ k1 =>
   (have H := HA.out); clear HA; (simp only [spec_l23States.l0] at H); (by_cases c7 : x7_1 < (l0.length : Int))
   ·rw [if_pos c7] at H
    (have c7b0 := decide_eq_true c7); clear c7; (by_cases c8 : 0 ≤ x7_1)
    ·rw [if_pos c8] at H
     (have c8b0 := decide_eq_true c8); clear c8; (replace H := obS H); (obtain ⟨⟨t108, t109⟩, A9, H⟩ := H); (replace H : (if x7_1 < (t101.length : Int) then (if rdOf false t101 x7_1 = true then (spec_l23States.j1 k1 l0 l1 t101 x6_1 x7_1 t108 t109 false) else (spec_l23States.j1 k1 l0 l1 t101 x6_1 x7_1 t108 t109 t109)) else (none)) = some r := H); (have HC10 := Aside0.mk H); clear H; (have p107 : 0 ≤ (x7_1 : Int) := odt); (have q107 : x7_1 < (l0.length : Int) := odt); (obtain ⟨ad107, A107_4, c107_4, e107, hx107_0, hx107_1, hx107_2, hx107_3, hx107_4, hx107_5, hx107_6, hl107_4, hi107_4⟩ := at_T54 HR0.out x7_1 p107 q107); (cases e107); (replace hx107_0 := hcI HB hx107_0); (replace hx107_1 := hcI HB hx107_1); (replace hx107_2 := hcI HB hx107_2); (replace hx107_3 := hcI HB hx107_3); (replace hx107_4 := hcI HB hx107_4); (replace hx107_5 := hcI HB hx107_5); (replace hx107_6 := hcI HB hx107_6); (have HR107_4 := Aside0.mk hi107_4); (have HC107_4 := Aside0.mk hl107_4); clear hi107_4 hl107_4; (replace p107 := eq_true p107); (replace q107 := eq_true q107); (go_upto_region 8 with (first | ((with_reducible refine gate_callee (f := 66) rfl ?_); refine gL (some 27) Tryd.func66 #[.slice A1 l1.length c1, .string ((rd_T54 l0 x7_1).f0)] ?_; (with_reducible refine (spec_l23Text.calls k1 _ _ l1 ((rd_T54 l0 x7_1).f0) t108 t109 _ ?side1 ?side2 A9.out).mono ?_); (case side1 => exact Q127); (case side2 => exact HC1.out); rintro e w' ⟨rfl, ⟨nd, rfl⟩⟩; refine ⟨_, rfl, ?_⟩))); ((try simp only [Act.put, aS1, aS2, aS3])); (go_cut [33] (fun v33 wc => ∃ (kq : Nat) (x33_9 : Bool), v33 = .bool x33_9 ∧ Aside0 (spec_l23States.j1 kq l0 l1 t101 x6_1 x7_1 t108 t109 x33_9 = some r) ∧ Aside0 (kq ≤ k1) ∧ Aside0 (Kd.R Kd.bool 4 wc w.heap.size (fun _ => True) v102 t101) ∧ Aside0 (Kd.R (Kd.int .i64) 3 wc w.heap.size (fun _ => True) u6 x6_1) ∧ Aside0 (Below w.heap.size w wc)))
     case first =>
      (have H := HC10.out); clear HC10; (by_cases c11 : x7_1 < (t101.length : Int))
      ·rw [if_pos c11] at H
       (have c11b0 := decide_eq_true c11); clear c11; ((first | rw [c11b0] | (simp only [i64_w, i32_w]; rw [c11b0]) | skip)); (obtain ⟨bq12, hbq12⟩ : ∃ b_ : Bool, b_ = (rdOf false t101 x7_1) := ⟨_, rfl⟩); (replace H : (if bq12 = true then (spec_l23States.j1 k1 l0 l1 t101 x6_1 x7_1 t108 t109 false) else (spec_l23States.j1 k1 l0 l1 t101 x6_1 x7_1 t108 t109 t109)) = some r := by rw [← hbq12] at H; exact H); (have Nbq12 := Aside0.mk hbq12); clear hbq12; (by_cases c13 : bq12 = true)
       ·subst c13
        (rw [if_pos rfl] at H); (have H' := Aside0.mk H); clear H; (obtain ⟨Ao14, co14, eo14⟩ := Kd.R_slice HO_5.out); subst eo14; (have p110 : 0 ≤ (x7_1 : Int) := odt); (have q110 : x7_1 < (t101.length : Int) := odt); (obtain ⟨ad110, e110, hx110_0⟩ := Kd.at_bool (Kd.R_reads' HO_5.out).2.2 x7_1 p110 q110); ((try rw [← Nbq12.out] at hx110_0)); (cases e110); (replace p110 := eq_true p110); (replace q110 := eq_true q110); (go_wp2); (go_meet)
        case rel => exact ⟨_, (false), Q32, H', ⟨Q50⟩, ⟨rI HO_5⟩, ⟨rI HO_6⟩, ⟨eI HB⟩⟩
       ·replace c13 := Bool.eq_false_iff.mpr c13
        subst c13; (rw [if_neg (show ¬ (false = true) by decide)] at H); (have H' := Aside0.mk H); clear H; (obtain ⟨Ao15, co15, eo15⟩ := Kd.R_slice HO_5.out); subst eo15; (have p110 : 0 ≤ (x7_1 : Int) := odt); (have q110 : x7_1 < (t101.length : Int) := odt); (obtain ⟨ad110, e110, hx110_0⟩ := Kd.at_bool (Kd.R_reads' HO_5.out).2.2 x7_1 p110 q110); ((try rw [← Nbq12.out] at hx110_0)); (cases e110); (replace p110 := eq_true p110); (replace q110 := eq_true q110); (go_wp2); (go_meet)
        case rel => exact ⟨_, (t109), Q32, H', ⟨Q50⟩, ⟨rI HO_5⟩, ⟨rI HO_6⟩, ⟨eI HB⟩⟩
      ·rw [if_neg c11] at H
       exact Q1
     case rest =>
      clear HC10; (try clear c1); (try clear p1); (try clear q1); (try clear hx1); (try clear p2); (try clear c4); (try clear c6); (try clear c7); (try clear c7b0); (try clear c8); (try clear c8b0); (try clear c10); (try clear p10); (try clear q10); (try clear hx10); (try clear c11); (try clear c11b0); (try clear p11); (try clear q11); (try clear hx11); (try clear q12); (try clear c13); (try clear hx107_0); (try clear hx107_1); (try clear hx107_2); (try clear hx107_3); (try clear hx107_4); (try clear hx107_5); (try clear hx107_6); (try clear hx110_0); (try clear p107); (try clear p110); (try clear p2); (try clear q107); (try clear q110); (obtain ⟨kq, x33_9, rfl, HA, HJ9, HO_5, HO_6, HB⟩ := hcut)
      cases kq with
      | zero => exact absurd HA.out (by simp [spec_l23States.j1])
      | succ kj9 =>
       (have H := HA.out); clear HA; (simp only [spec_l23States.j1] at H); (by_cases c16 : x33_9 = true)
       ·subst c16
        (rw [if_pos rfl] at H); (by_cases c17 : x6_1.length < 17592186044416)
        ·rw [if_pos c17] at H
         (have LMc17 := Aside0.mk c17); clear c17; (obtain ⟨y111, hy111⟩ : ∃ y_ : List Int, y_ = (x6_1 ++ [3]) := ⟨_, rfl⟩); (replace H : (spec_l23States.l0 kj9 l0 l1 t101 y111 (wrap64 (x7_1 + 1))) = some r := Q120); (have Ny111 := Aside0.mk hy111); clear hy111; (have H' := Aside0.mk H); clear H; (go_wp2_with (first | ((with_reducible refine gate_builtin (b := .append) (xs := #[.tmp 42, .tmp 43]) rfl ?_); at_builtin; refine Kd.R_append (Kd.int .i64) (w0 := w) w.heap.size rfl (.tmp 42) (.tmp 43) 36 3 (.int .i64 0) 8 rfl Tryd.underlying36 info3 rfl (by decide) (by omega) u6 x6_1 3 [.int .i64 3] (fun _ => True) (fun _ => False) rfl rfl ?aP (fun _ hk => hk.elim) ?aF ?aO ?aB ?aS ?aL ?_; (case aP => exact rfl); (case aB => exact (eI HB)); (case aF => exact Q75); (case aO => exact (rI HO_6)); (case aS => exact Q129); (case aL => have := LMc17.out; omega); intro v112 w18 ho hb hg hat; rw [← Ny111.out] at ho; have n0_ := Aside0.mk (Kd.R_over' (rI HO_5) (Kd.R_typed (rI HO_6)) (by decide) hg); have n1_ := Aside0.mk (hb); have n2_ := Aside0.mk (ho); clear HO_5 HB HO_6; have HO_5 := n0_; have HB := n1_; have HO113 := n2_; clear n0_ n1_ n2_ ho hb hg hat))); go_roundg kj9
         case measure => have := HK1.out; have := HJ9.out; omega
         case rel => exact ⟨(y111), (wrap64 (x7_1 + 1)), Q32, H', ⟨by have := HK1.out; have := HJ9.out; omega⟩, ⟨rI HO_5⟩, ⟨rI HO113⟩, ⟨eI HB⟩⟩
        ·rw [if_neg c17] at H
         exact Q1
       ·replace c16 := Bool.eq_false_iff.mpr c16
        subst c16; (rw [if_neg (show ¬ (false = true) by decide)] at H); (have HC19 := Aside0.mk H); clear H; (go_upto_region 10 with (fail)); (go_cut [45] (fun v45 wc => ∃ (kq : Nat) (x45_18 : Bool), v45 = .bool x45_18 ∧ Aside0 (spec_l23States.j2 kq l0 l1 t101 x6_1 x7_1 t108 t109 x45_18 = some r) ∧ Aside0 (kq ≤ kj9) ∧ Aside0 (Kd.R Kd.bool 4 wc w.heap.size (fun _ => True) v102 t101) ∧ Aside0 (Kd.R (Kd.int .i64) 3 wc w.heap.size (fun _ => True) u6 x6_1) ∧ Aside0 (Below w.heap.size w wc)))
        case first =>
         (have H := HC19.out); clear HC19; (by_cases c20 : 0 ≤ x7_1)
         ·rw [if_pos c20] at H
          (have c20b0 := decide_eq_true c20); clear c20; ((first | rw [c20b0] | (simp only [i64_w, i32_w]; rw [c20b0]) | skip)); (by_cases c21 : x7_1 < (t101.length : Int))
          ·rw [if_pos c21] at H
           (have c21b0 := decide_eq_true c21); clear c21; (obtain ⟨bq22, hbq22⟩ : ∃ b_ : Bool, b_ = (rdOf false t101 x7_1) := ⟨_, rfl⟩); (replace H : (if bq22 = true then (if x7_1 < (l0.length : Int) then (if (rd_T54 l0 x7_1).f5 = true then (spec_l23States.j2 kj9 l0 l1 t101 x6_1 x7_1 t108 t109 (!t109)) else (spec_l23States.j2 kj9 l0 l1 t101 x6_1 x7_1 t108 t109 false)) else (none)) else (spec_l23States.j2 kj9 l0 l1 t101 x6_1 x7_1 t108 t109 false)) = some r := by rw [← hbq22] at H; exact H); (have Nbq22 := Aside0.mk hbq22); clear hbq22; (by_cases c23 : bq22 = true)
           ·subst c23
            (rw [if_pos rfl] at H); (by_cases c24 : x7_1 < (l0.length : Int))
            ·rw [if_pos c24] at H
             (have c24b0 := decide_eq_true c24); clear c24; (obtain ⟨bq25, hbq25⟩ : ∃ b_ : Bool, b_ = ((rd_T54 l0 x7_1).f5) := ⟨_, rfl⟩); (replace H : (if bq25 = true then (spec_l23States.j2 kj9 l0 l1 t101 x6_1 x7_1 t108 t109 (!t109)) else (spec_l23States.j2 kj9 l0 l1 t101 x6_1 x7_1 t108 t109 false)) = some r := by rw [← hbq25] at H; exact H); (have Nbq25 := Aside0.mk hbq25); clear hbq25; (by_cases c26 : bq25 = true)
             ·subst c26
              (rw [if_pos rfl] at H); (have H' := Aside0.mk H); clear H; (obtain ⟨Ao27, co27, eo27⟩ := Kd.R_slice HO_5.out); subst eo27; (have p114 : 0 ≤ (x7_1 : Int) := odt); (have q114 : x7_1 < (t101.length : Int) := odt); (obtain ⟨ad114, e114, hx114_0⟩ := Kd.at_bool (Kd.R_reads' HO_5.out).2.2 x7_1 p114 q114); ((try rw [← Nbq22.out] at hx114_0)); ((try rw [← Nbq25.out] at hx114_0)); (cases e114); (replace p114 := eq_true p114); (replace q114 := eq_true q114); (have p115 : 0 ≤ (x7_1 : Int) := odt); (have q115 : x7_1 < (l0.length : Int) := odt); (obtain ⟨ad115, A115_4, c115_4, e115, hx115_0, hx115_1, hx115_2, hx115_3, hx115_4, hx115_5, hx115_6, hl115_4, hi115_4⟩ := at_T54 HR0.out x7_1 p115 q115); ((try rw [← Nbq22.out] at hx115_5)); ((try rw [← Nbq25.out] at hx115_5)); (obtain rfl : ad107 = ad115 := (by injection e115)); (replace hx115_0 := hcI HB hx115_0); (replace hx115_1 := hcI HB hx115_1); (replace hx115_2 := hcI HB hx115_2); (replace hx115_3 := hcI HB hx115_3); (replace hx115_4 := hcI HB hx115_4); (replace hx115_5 := hcI HB hx115_5); (replace hx115_6 := hcI HB hx115_6); (have HR115_4 := Aside0.mk hi115_4); (have HC115_4 := Aside0.mk hl115_4); clear hi115_4 hl115_4; (replace p115 := eq_true p115); (replace q115 := eq_true q115); (go_wp2); (go_meet)
              case rel => exact ⟨_, (!t109), Q32, H', ⟨Q153⟩, ⟨rI HO_5⟩, ⟨rI HO_6⟩, ⟨eI HB⟩⟩
             ·replace c26 := Bool.eq_false_iff.mpr c26
              subst c26; (rw [if_neg (show ¬ (false = true) by decide)] at H); (have H' := Aside0.mk H); clear H; (obtain ⟨Ao28, co28, eo28⟩ := Kd.R_slice HO_5.out); subst eo28; (have p114 : 0 ≤ (x7_1 : Int) := odt); (have q114 : x7_1 < (t101.length : Int) := odt); (obtain ⟨ad114, e114, hx114_0⟩ := Kd.at_bool (Kd.R_reads' HO_5.out).2.2 x7_1 p114 q114); ((try rw [← Nbq22.out] at hx114_0)); ((try rw [← Nbq25.out] at hx114_0)); (cases e114); (replace p114 := eq_true p114); (replace q114 := eq_true q114); (have p115 : 0 ≤ (x7_1 : Int) := odt); (have q115 : x7_1 < (l0.length : Int) := odt); (obtain ⟨ad115, A115_4, c115_4, e115, hx115_0, hx115_1, hx115_2, hx115_3, hx115_4, hx115_5, hx115_6, hl115_4, hi115_4⟩ := at_T54 HR0.out x7_1 p115 q115); ((try rw [← Nbq22.out] at hx115_5)); ((try rw [← Nbq25.out] at hx115_5)); (obtain rfl : ad107 = ad115 := (by injection e115)); (replace hx115_0 := hcI HB hx115_0); (replace hx115_1 := hcI HB hx115_1); (replace hx115_2 := hcI HB hx115_2); (replace hx115_3 := hcI HB hx115_3); (replace hx115_4 := hcI HB hx115_4); (replace hx115_5 := hcI HB hx115_5); (replace hx115_6 := hcI HB hx115_6); (have HR115_4 := Aside0.mk hi115_4); (have HC115_4 := Aside0.mk hl115_4); clear hi115_4 hl115_4; (replace p115 := eq_true p115); (replace q115 := eq_true q115); (go_wp2); (go_meet)
              case rel => exact Q154
            ·rw [if_neg c24] at H
             exact Q1
           ·replace c23 := Bool.eq_false_iff.mpr c23
            subst c23; (rw [if_neg (show ¬ (false = true) by decide)] at H); (have H' := Aside0.mk H); clear H; (obtain ⟨Ao29, co29, eo29⟩ := Kd.R_slice HO_5.out); subst eo29; (have p114 : 0 ≤ (x7_1 : Int) := odt); (have q114 : x7_1 < (t101.length : Int) := odt); (obtain ⟨ad114, e114, hx114_0⟩ := Kd.at_bool (Kd.R_reads' HO_5.out).2.2 x7_1 p114 q114); ((try rw [← Nbq22.out] at hx114_0)); (cases e114); (replace p114 := eq_true p114); (replace q114 := eq_true q114); (go_wp2); (go_meet)
            case rel => exact Q154
          ·rw [if_neg c21] at H
           exact Q1
         ·rw [if_neg c20] at H
          exact Q1
        case rest =>
         clear HC19; (try clear c1); (try clear p1); (try clear q1); (try clear hx1); (try clear c2); (try clear p2); (try clear q2); (try clear c4); (try clear c6); (try clear p6); (try clear c7); (try clear c7b0); (try clear c8); (try clear c8b0); (try clear c10); (try clear p10); (try clear q10); (try clear hx10); (try clear c11); (try clear c11b0); (try clear p11); (try clear q11); (try clear hx11); (try clear q12); (try clear c13); (try clear c16); (try clear c17); (try clear c20); (try clear c20b0); (try clear c21); (try clear c21b0); (try clear q22); (try clear c23); (try clear c24); (try clear c24b0); (try clear q25); (try clear c26); (try clear hx107_0); (try clear hx107_1); (try clear hx107_2); (try clear hx107_3); (try clear hx107_4); (try clear hx107_5); (try clear hx107_6); (try clear hx110_0); (try clear hx114_0); (try clear hx115_0); (try clear hx115_1); (try clear hx115_2); (try clear hx115_3); (try clear hx115_4); (try clear hx115_5); (try clear hx115_6); (try clear p1); (try clear p10); (try clear p107); (try clear p11); (try clear p110); (try clear p114); (try clear p115); (try clear p2); (try clear q1); (try clear q10); (try clear q107); (try clear q11); (try clear q110); (try clear q114); (try clear q115); (try clear q12); (obtain ⟨kq, x45_18, rfl, HA, HJ18, HO_5, HO_6, HB⟩ := hcut)
         cases kq with
         | zero => exact absurd HA.out (by simp [spec_l23States.j2])
         | succ kj18 =>
          (have H := HA.out); clear HA; (simp only [spec_l23States.j2] at H); (by_cases c30 : x45_18 = true)
          ·subst c30
           (rw [if_pos rfl] at H); (by_cases c31 : x6_1.length < 17592186044416)
           ·rw [if_pos c31] at H
            (have LMc31 := Aside0.mk c31); clear c31; (obtain ⟨y116, hy116⟩ : ∃ y_ : List Int, y_ = (x6_1 ++ [1]) := ⟨_, rfl⟩); (replace H : (spec_l23States.l0 kj18 l0 l1 t101 y116 (wrap64 (x7_1 + 1))) = some r := by first | (rw [hy116]; with_reducible exact H) | (have H2_ := (Option.bind_some _ _).symm.trans H; rw [hy116]; with_reducible exact H2_) | (have H2_ := (Option.bind_some _ _).symm.trans H; with_reducible exact H2_) | with_reducible exact H | (rw [hy116]; exact H) | exact H); (have Ny116 := Aside0.mk hy116); clear hy116; (have H' := Aside0.mk H); clear H; (go_wp2_with (first | ((with_reducible refine gate_builtin (b := .append) (xs := #[.tmp 61, .tmp 62]) rfl ?_); at_builtin; refine Kd.R_append (Kd.int .i64) (w0 := w) w.heap.size rfl (.tmp 61) (.tmp 62) 36 3 (.int .i64 0) 8 rfl Tryd.underlying36 info3 rfl (by decide) (by omega) u6 x6_1 1 [.int .i64 1] (fun _ => True) (fun _ => False) rfl rfl ?aP (fun _ hk => hk.elim) ?aF ?aO ?aB ?aS ?aL ?_; (case aP => exact rfl); (case aB => exact (eI HB)); (case aF => exact Q75); (case aO => exact (rI HO_6)); (case aS => exact Q129); (case aL => have := LMc31.out; omega); intro v117 w32 ho hb hg hat; rw [← Ny116.out] at ho; have n0_ := Aside0.mk (Kd.R_over' (rI HO_5) (Kd.R_typed (rI HO_6)) (by decide) hg); have n1_ := Aside0.mk (hb); have n2_ := Aside0.mk (ho); clear HO_5 HB HO_6; have HO_5 := n0_; have HB := n1_; have HO118 := n2_; clear n0_ n1_ n2_ ho hb hg hat))); go_roundg kj18
            case measure => have := HK1.out; have := HJ9.out; have := HJ18.out; omega
            case rel => exact ⟨(y116), (wrap64 (x7_1 + 1)), Q32, H', ⟨Q155⟩, ⟨rI HO_5⟩, ⟨rI HO118⟩, ⟨eI HB⟩⟩
           ·rw [if_neg c31] at H
            exact Q1
          ·replace c30 := Bool.eq_false_iff.mpr c30
           subst c30; (rw [if_neg (show ¬ (false = true) by decide)] at H); (by_cases c33 : 0 ≤ x7_1)
           ·rw [if_pos c33] at H
            (have c33b0 := decide_eq_true c33); clear c33; (by_cases c34 : x7_1 < (t101.length : Int))
            ·rw [if_pos c34] at H
             (have c34b0 := decide_eq_true c34); clear c34; (obtain ⟨bq35, hbq35⟩ : ∃ b_ : Bool, b_ = (rdOf false t101 x7_1) := ⟨_, rfl⟩); (replace H : (if bq35 = true then (if t109 = true then (if x7_1 < (l0.length : Int) then ((spec_l23Value.f kj18 ((rd_T54 l0 x7_1).f0) ((rd_T54 l0 x7_1).f1) ((rd_T54 l0 x7_1).f2) ((rd_T54 l0 x7_1).f3) ((rd_T54 l0 x7_1).f4) ((rd_T54 l0 x7_1).f5) ((rd_T54 l0 x7_1).f6) t108).bind fun t121 => (if t121 = true then (if x6_1.length < 17592186044416 then (spec_l23States.l0 kj18 l0 l1 t101 (x6_1 ++ [0]) (wrap64 (x7_1 + 1))) else (none)) else (if x6_1.length < 17592186044416 then (spec_l23States.l0 kj18 l0 l1 t101 (x6_1 ++ [2]) (wrap64 (x7_1 + 1))) else (none)))) else (none)) else (if x6_1.length < 17592186044416 then (spec_l23States.l0 kj18 l0 l1 t101 (x6_1 ++ [0]) (wrap64 (x7_1 + 1))) else (none))) else (if x6_1.length < 17592186044416 then (spec_l23States.l0 kj18 l0 l1 t101 (x6_1 ++ [0]) (wrap64 (x7_1 + 1))) else (none))) = some r := by rw [← hbq35] at H; exact H); (have Nbq35 := Aside0.mk hbq35); clear hbq35; (by_cases c36 : bq35 = true)
             ·subst c36
              (rw [if_pos rfl] at H); (by_cases c37 : t109 = true)
              ·subst c37
               (rw [if_pos rfl] at H); (by_cases c38 : x7_1 < (l0.length : Int))
               ·rw [if_pos c38] at H
                (have c38b0 := decide_eq_true c38); clear c38; (replace H := obS H); (obtain ⟨t121, A39, H⟩ := H); (by_cases c40 : t121 = true)
                ·subst c40
                 (rw [if_pos rfl] at H); (by_cases c41 : x6_1.length < 17592186044416)
                 ·rw [if_pos c41] at H
                  (have LMc41 := Aside0.mk c41); clear c41; (obtain ⟨y122, hy122⟩ : ∃ y_ : List Int, y_ = (x6_1 ++ [0]) := ⟨_, rfl⟩); (replace H : (spec_l23States.l0 kj18 l0 l1 t101 y122 (wrap64 (x7_1 + 1))) = some r := Q133); (have Ny122 := Aside0.mk hy122); clear hy122; (have H' := Aside0.mk H); clear H; (obtain ⟨Ao42, co42, eo42⟩ := Kd.R_slice HO_5.out); subst eo42; (have p119 : 0 ≤ (x7_1 : Int) := odt); (have q119 : x7_1 < (t101.length : Int) := odt); (obtain ⟨ad119, e119, hx119_0⟩ := Kd.at_bool (Kd.R_reads' HO_5.out).2.2 x7_1 p119 q119); ((try rw [← Nbq35.out] at hx119_0)); (cases e119); (replace p119 := eq_true p119); (replace q119 := eq_true q119); (have p120 : 0 ≤ (x7_1 : Int) := odt); (have q120 : x7_1 < (l0.length : Int) := odt); (obtain ⟨ad120, A120_4, c120_4, e120, hx120_0, hx120_1, hx120_2, hx120_3, hx120_4, hx120_5, hx120_6, hl120_4, hi120_4⟩ := at_T54 HR0.out x7_1 p120 q120); ((try rw [← Nbq35.out] at hx120_5)); (obtain rfl : ad107 = ad120 := (by injection e120)); (replace hx120_0 := hcI HB hx120_0); (replace hx120_1 := hcI HB hx120_1); (replace hx120_2 := hcI HB hx120_2); (replace hx120_3 := hcI HB hx120_3); (replace hx120_4 := hcI HB hx120_4); (replace hx120_5 := hcI HB hx120_5); (replace hx120_6 := hcI HB hx120_6); (have HR120_4 := Aside0.mk hi120_4); (have HC120_4 := Aside0.mk hl120_4); clear hi120_4 hl120_4; (replace p120 := eq_true p120); (replace q120 := eq_true q120); (go_wp2_with (first | (go_at_call 67; (with_reducible refine (spec_l23Value.calls kj18 ((rd_T54 l0 x7_1).f0) ((rd_T54 l0 x7_1).f1) ((rd_T54 l0 x7_1).f2) ((rd_T54 l0 x7_1).f3) _ _ ((rd_T54 l0 x7_1).f4) ((rd_T54 l0 x7_1).f5) ((rd_T54 l0 x7_1).f6) t108 true _ ?side1 ?side2 A39.out).mono ?_); (case side1 => exact Kd.C_below HR120_4.out (eI HB)); (case side2 => exact HC120_4.out); rintro e w43 ⟨rfl, hb⟩; have n0_ := Aside0.mk (rbI hb HO_5); have n1_ := Aside0.mk (rbI hb HO_6); have n2_ := Aside0.mk (sI hb HB); clear HO_5 HO_6 HB; have HO_5 := n0_; have HO_6 := n1_; have HB := n2_; clear n0_ n1_ n2_; (try clear hb); (try clear hb2); (try clear hk); (try clear hi)) | ((with_reducible refine gate_builtin (b := .append) (xs := #[.tmp 30, .tmp 31]) rfl ?_); at_builtin; refine Kd.R_append (Kd.int .i64) (w0 := w) w.heap.size rfl (.tmp 30) (.tmp 31) 36 3 (.int .i64 0) 8 rfl Tryd.underlying36 info3 rfl (by decide) (by omega) u6 x6_1 0 [.int .i64 0] (fun _ => True) (fun _ => False) rfl rfl ?aP (fun _ hk => hk.elim) ?aF ?aO ?aB ?aS ?aL ?_; (case aP => exact rfl); (case aB => exact (eI HB)); (case aF => exact Q75); (case aO => exact (rI HO_6)); (case aS => exact Q129); (case aL => have := LMc41.out; omega); intro v123 w44 ho hb hg hat; rw [← Ny122.out] at ho; have n0_ := Aside0.mk (Kd.R_over' (rI HO_5) (Kd.R_typed (rI HO_6)) (by decide) hg); have n1_ := Aside0.mk (hb); have n2_ := Aside0.mk (ho); clear HO_5 HB HO_6; have HO_5 := n0_; have HB := n1_; have HO124 := n2_; clear n0_ n1_ n2_ ho hb hg hat))); go_roundg kj18
                  case measure => have := HK1.out; have := HJ9.out; have := HJ18.out; omega
                  case rel => exact ⟨(y122), (wrap64 (x7_1 + 1)), Q32, H', ⟨Q155⟩, ⟨rI HO_5⟩, ⟨rI HO124⟩, ⟨eI HB⟩⟩
                 ·rw [if_neg c41] at H
                  exact Q1
                ·replace c40 := Bool.eq_false_iff.mpr c40
                 subst c40; (rw [if_neg (show ¬ (false = true) by decide)] at H); (by_cases c45 : x6_1.length < 17592186044416)
                 ·rw [if_pos c45] at H
                  (have LMc45 := Aside0.mk c45); clear c45; (obtain ⟨y125, hy125⟩ : ∃ y_ : List Int, y_ = (x6_1 ++ [2]) := ⟨_, rfl⟩); (replace H : (spec_l23States.l0 kj18 l0 l1 t101 y125 (wrap64 (x7_1 + 1))) = some r := Q134); (have Ny125 := Aside0.mk hy125); clear hy125; (have H' := Aside0.mk H); clear H; (obtain ⟨Ao46, co46, eo46⟩ := Kd.R_slice HO_5.out); subst eo46; (have p119 : 0 ≤ (x7_1 : Int) := odt); (have q119 : x7_1 < (t101.length : Int) := odt); (obtain ⟨ad119, e119, hx119_0⟩ := Kd.at_bool (Kd.R_reads' HO_5.out).2.2 x7_1 p119 q119); ((try rw [← Nbq35.out] at hx119_0)); (cases e119); (replace p119 := eq_true p119); (replace q119 := eq_true q119); (have p120 : 0 ≤ (x7_1 : Int) := odt); (have q120 : x7_1 < (l0.length : Int) := odt); (obtain ⟨ad120, A120_4, c120_4, e120, hx120_0, hx120_1, hx120_2, hx120_3, hx120_4, hx120_5, hx120_6, hl120_4, hi120_4⟩ := at_T54 HR0.out x7_1 p120 q120); ((try rw [← Nbq35.out] at hx120_5)); (obtain rfl : ad107 = ad120 := (by injection e120)); (replace hx120_0 := hcI HB hx120_0); (replace hx120_1 := hcI HB hx120_1); (replace hx120_2 := hcI HB hx120_2); (replace hx120_3 := hcI HB hx120_3); (replace hx120_4 := hcI HB hx120_4); (replace hx120_5 := hcI HB hx120_5); (replace hx120_6 := hcI HB hx120_6); (have HR120_4 := Aside0.mk hi120_4); (have HC120_4 := Aside0.mk hl120_4); clear hi120_4 hl120_4; (replace p120 := eq_true p120); (replace q120 := eq_true q120); (go_wp2_with (first | (go_at_call 67; (with_reducible refine (spec_l23Value.calls kj18 ((rd_T54 l0 x7_1).f0) ((rd_T54 l0 x7_1).f1) ((rd_T54 l0 x7_1).f2) ((rd_T54 l0 x7_1).f3) _ _ ((rd_T54 l0 x7_1).f4) ((rd_T54 l0 x7_1).f5) ((rd_T54 l0 x7_1).f6) t108 false _ ?side1 ?side2 A39.out).mono ?_); (case side1 => exact Kd.C_below HR120_4.out (eI HB)); (case side2 => exact HC120_4.out); rintro e w47 ⟨rfl, hb⟩; have n0_ := Aside0.mk (rbI hb HO_5); have n1_ := Aside0.mk (rbI hb HO_6); have n2_ := Aside0.mk (sI hb HB); clear HO_5 HO_6 HB; have HO_5 := n0_; have HO_6 := n1_; have HB := n2_; clear n0_ n1_ n2_; (try clear hb); (try clear hb2); (try clear hk); (try clear hi)) | ((with_reducible refine gate_builtin (b := .append) (xs := #[.tmp 81, .tmp 82]) rfl ?_); at_builtin; refine Kd.R_append (Kd.int .i64) (w0 := w) w.heap.size rfl (.tmp 81) (.tmp 82) 36 3 (.int .i64 0) 8 rfl Tryd.underlying36 info3 rfl (by decide) (by omega) u6 x6_1 2 [.int .i64 2] (fun _ => True) (fun _ => False) rfl rfl ?aP (fun _ hk => hk.elim) ?aF ?aO ?aB ?aS ?aL ?_; (case aP => exact rfl); (case aB => exact (eI HB)); (case aF => exact Q75); (case aO => exact (rI HO_6)); (case aS => exact Q129); (case aL => have := LMc45.out; omega); intro v126 w48 ho hb hg hat; rw [← Ny125.out] at ho; have n0_ := Aside0.mk (Kd.R_over' (rI HO_5) (Kd.R_typed (rI HO_6)) (by decide) hg); have n1_ := Aside0.mk (hb); have n2_ := Aside0.mk (ho); clear HO_5 HB HO_6; have HO_5 := n0_; have HB := n1_; have HO127 := n2_; clear n0_ n1_ n2_ ho hb hg hat))); go_roundg kj18
                  case measure => have := HK1.out; have := HJ9.out; have := HJ18.out; omega
                  case rel => exact ⟨(y125), (wrap64 (x7_1 + 1)), Q32, H', ⟨Q155⟩, ⟨rI HO_5⟩, ⟨rI HO127⟩, ⟨eI HB⟩⟩
                 ·rw [if_neg c45] at H
                  exact Q1
               ·rw [if_neg c38] at H
                exact Q1
              ·replace c37 := Bool.eq_false_iff.mpr c37
               subst c37; (rw [if_neg (show ¬ (false = true) by decide)] at H); (by_cases c49 : x6_1.length < 17592186044416)
               ·rw [if_pos c49] at H
                (have LMc49 := Aside0.mk c49); clear c49; (obtain ⟨y128, hy128⟩ : ∃ y_ : List Int, y_ = (x6_1 ++ [0]) := ⟨_, rfl⟩); (replace H : (spec_l23States.l0 kj18 l0 l1 t101 y128 (wrap64 (x7_1 + 1))) = some r := Q77); (have Ny128 := Aside0.mk hy128); clear hy128; (have H' := Aside0.mk H); clear H; (obtain ⟨Ao50, co50, eo50⟩ := Kd.R_slice HO_5.out); subst eo50; (have p119 : 0 ≤ (x7_1 : Int) := odt); (have q119 : x7_1 < (t101.length : Int) := odt); (obtain ⟨ad119, e119, hx119_0⟩ := Kd.at_bool (Kd.R_reads' HO_5.out).2.2 x7_1 p119 q119); ((try rw [← Nbq35.out] at hx119_0)); (cases e119); (replace p119 := eq_true p119); (replace q119 := eq_true q119); (go_wp2_with (first | ((with_reducible refine gate_builtin (b := .append) (xs := #[.tmp 30, .tmp 31]) rfl ?_); at_builtin; refine Kd.R_append (Kd.int .i64) (w0 := w) w.heap.size rfl (.tmp 30) (.tmp 31) 36 3 (.int .i64 0) 8 rfl Tryd.underlying36 info3 rfl (by decide) (by omega) u6 x6_1 0 [.int .i64 0] (fun _ => True) (fun _ => False) rfl rfl ?aP (fun _ hk => hk.elim) ?aF ?aO ?aB ?aS ?aL ?_; (case aP => exact rfl); (case aB => exact (eI HB)); (case aF => exact Q75); (case aO => exact (rI HO_6)); (case aS => exact Q129); (case aL => have := LMc49.out; omega); intro v129 w51 ho hb hg hat; rw [← Ny128.out] at ho; have n0_ := Aside0.mk (Kd.R_over' (rI HO_5) (Kd.R_typed (rI HO_6)) (by decide) hg); have n1_ := Aside0.mk (hb); have n2_ := Aside0.mk (ho); clear HO_5 HB HO_6; have HO_5 := n0_; have HB := n1_; have HO130 := n2_; clear n0_ n1_ n2_ ho hb hg hat))); go_roundg kj18
                case measure => have := HK1.out; have := HJ9.out; have := HJ18.out; omega
                case rel => exact ⟨(y128), (wrap64 (x7_1 + 1)), Q32, H', ⟨Q155⟩, ⟨rI HO_5⟩, ⟨rI HO130⟩, ⟨eI HB⟩⟩
               ·rw [if_neg c49] at H
                exact Q1
             ·replace c36 := Bool.eq_false_iff.mpr c36
              subst c36; (rw [if_neg (show ¬ (false = true) by decide)] at H); (by_cases c52 : x6_1.length < 17592186044416)
              ·rw [if_pos c52] at H
               (have LMc52 := Aside0.mk c52); clear c52; (obtain ⟨y131, hy131⟩ : ∃ y_ : List Int, y_ = (x6_1 ++ [0]) := ⟨_, rfl⟩); (replace H : (spec_l23States.l0 kj18 l0 l1 t101 y131 (wrap64 (x7_1 + 1))) = some r := by first | (rw [hy131]; with_reducible exact H) | (have H2_ := (Option.bind_some _ _).symm.trans H; rw [hy131]; with_reducible exact H2_) | (have H2_ := (Option.bind_some _ _).symm.trans H; with_reducible exact H2_) | with_reducible exact H | (rw [hy131]; exact H) | exact H); (have Ny131 := Aside0.mk hy131); clear hy131; (have H' := Aside0.mk H); clear H; (obtain ⟨Ao53, co53, eo53⟩ := Kd.R_slice HO_5.out); subst eo53; (have p119 : 0 ≤ (x7_1 : Int) := odt); (have q119 : x7_1 < (t101.length : Int) := odt); (obtain ⟨ad119, e119, hx119_0⟩ := Kd.at_bool (Kd.R_reads' HO_5.out).2.2 x7_1 p119 q119); ((try rw [← Nbq35.out] at hx119_0)); (cases e119); (replace p119 := eq_true p119); (replace q119 := eq_true q119); (go_wp2_with (first | ((with_reducible refine gate_builtin (b := .append) (xs := #[.tmp 30, .tmp 31]) rfl ?_); at_builtin; refine Kd.R_append (Kd.int .i64) (w0 := w) w.heap.size rfl (.tmp 30) (.tmp 31) 36 3 (.int .i64 0) 8 rfl Tryd.underlying36 info3 rfl (by decide) (by omega) u6 x6_1 0 [.int .i64 0] (fun _ => True) (fun _ => False) rfl rfl ?aP (fun _ hk => hk.elim) ?aF ?aO ?aB ?aS ?aL ?_; (case aP => exact rfl); (case aB => exact (eI HB)); (case aF => exact Q75); (case aO => exact (rI HO_6)); (case aS => exact Q129); (case aL => have := LMc52.out; omega); intro v132 w54 ho hb hg hat; rw [← Ny131.out] at ho; have n0_ := Aside0.mk (Kd.R_over' (rI HO_5) (Kd.R_typed (rI HO_6)) (by decide) hg); have n1_ := Aside0.mk (hb); have n2_ := Aside0.mk (ho); clear HO_5 HB HO_6; have HO_5 := n0_; have HB := n1_; have HO133 := n2_; clear n0_ n1_ n2_ ho hb hg hat))); go_roundg kj18
               case measure => have := HK1.out; have := HJ9.out; have := HJ18.out; omega
               case rel => exact ⟨(y131), (wrap64 (x7_1 + 1)), Q32, H', ⟨Q155⟩, ⟨rI HO_5⟩, ⟨rI HO133⟩, ⟨eI HB⟩⟩
              ·rw [if_neg c52] at H
               exact Q1
            ·rw [if_neg c34] at H
             exact Q1
           ·rw [if_neg c33] at H
            exact Q1
    ·rw [if_neg c8] at H
     exact Q1
   ·rw [if_neg c7] at H
    (have c7b0 := decide_eq_false c7); clear c7; (obtain rfl := Option.some.inj H); (go_wp2); go_ret; (exact Q156)
/-! ### spec_CheckAnswers: function 16 -/
def spec_CheckAnswers.f (k : Nat) (l0 : List (S54)) (l1 : List (S51)) : Option (List Int × Bool) := (spec_l23Answers.f k l0 l1).bind fun t101 => (if t101 = true then ((spec_l23States.f k l0 l1).bind fun t102 => (some (t102, true))) else (some ((([] : List Int)), false)))
set_option maxHeartbeats 8000000 in
set_option maxRecDepth 100000 in
theorem spec_CheckAnswers.calls (k : Nat) (A0 : Option Addr) (c0 : Nat) (l0 : List (S54)) (A1 : Option Addr) (c1 : Nat) (l1 : List (S51)) (r1 : List Int) (r2 : Bool) (w : World) (hr0 : Kd.C k54 w A0 l0.length l0) (hc0 : l0.length ≤ c0) (hr1 : Kd.C k51 w A1 l1.length l1) (hc1 : l1.length ≤ c1) (h : spec_CheckAnswers.f k l0 l1 = some (r1, r2)) :
  Calls Tryd.prog 16 #[.slice A0 l0.length c0, .slice A1 l1.length c1] w fun e w' => ∃ v0_ : Value, e = .returned (.tuple #[v0_, .bool r2]) ∧ Kd.R (Kd.int .i64) 3 w' w.heap.size (fun _ => True) v0_ r1 ∧ Below w.heap.size w w' := by
 (have HR0 := Aside0.mk hr0); (have HC0 := Aside0.mk hc0); clear hr0 hc0; (have HR1 := Aside0.mk hr1); (have HC1 := Aside0.mk hc1); clear hr1 hc1; (have HB := Aside0.mk (Below.refl w.heap.size w)); (unfold spec_CheckAnswers.f at h); (have H := h); clear h; (replace H := obS H); (obtain ⟨t101, A3, H⟩ := H); (by_cases c4 : t101 = true)
 ·subst c4
  (rw [if_pos rfl] at H); (replace H := obS H); (obtain ⟨t102, A5, H⟩ := H); (simp only [Option.some.injEq, Prod.mk.injEq] at H); (obtain ⟨rfl, rfl⟩ := H); (go_enter Tryd.func16, Tryd.ntmps16); (go_wp2_with (first | ((with_reducible refine gate_callee (f := 40) rfl ?_); refine gL (some 8) Tryd.func40 #[.slice A0 l0.length c0, .slice A1 l1.length c1] ?_; (with_reducible refine (spec_l23Answers.calls k _ _ l0 _ _ l1 true _ ?side1 ?side2 ?side3 ?side4 A3.out).mono ?_); (case side1 => exact cI HR0.out); (case side2 => exact HC0.out); (case side3 => exact cI HR1.out); (case side4 => exact HC1.out); rintro e w6 ⟨rfl, hb⟩; refine ⟨_, rfl, ?_⟩; have n0_ := Aside0.mk (sI hb HB); clear HB; have HB := n0_; clear n0_; (try clear hb); (try clear hb2); (try clear hk); (try clear hi)) | ((with_reducible refine gate_callee (f := 41) rfl ?_); refine gL (some 13) Tryd.func41 #[.slice A0 l0.length c0, .slice A1 l1.length c1] ?_; (with_reducible refine (spec_l23States.calls k _ _ l0 _ _ l1 t102 _ ?side1 ?side2 ?side3 ?side4 A5.out).mono ?_); (case side1 => exact Q98); (case side2 => exact HC0.out); (case side3 => exact Q127); (case side4 => exact HC1.out); rintro e w7 ⟨v103, rfl, ho0, hb⟩; refine ⟨_, rfl, ?_⟩; have n0_ := Aside0.mk (Kd.R_lower ho0 (below_size (eI HB))); have n1_ := Aside0.mk (sI hb HB); clear HB; have HO104 := n0_; have HB := n1_; clear n0_ n1_; (try clear hb); (try clear hb2); (try clear hk); (try clear hi); (try clear ho0)))); (go_ret2); (exact Q135)
 ·replace c4 := Bool.eq_false_iff.mpr c4
  subst c4; (rw [if_neg (show ¬ (false = true) by decide)] at H); (obtain ⟨y105, hy105⟩ : ∃ y_ : List Int, y_ = (([] : List Int)) := ⟨_, rfl⟩); (replace H : (some (y105, false)) = some (r1, r2) := Q150); (have Ny105 := Aside0.mk hy105); clear hy105; (simp only [Option.some.injEq, Prod.mk.injEq] at H); (obtain ⟨rfl, rfl⟩ := H); (go_enter Tryd.func16, Tryd.ntmps16); (go_wp2_with (first | ((with_reducible refine gate_callee (f := 40) rfl ?_); refine gL (some 8) Tryd.func40 #[.slice A0 l0.length c0, .slice A1 l1.length c1] ?_; (with_reducible refine (spec_l23Answers.calls k _ _ l0 _ _ l1 false _ ?side1 ?side2 ?side3 ?side4 A3.out).mono ?_); (case side1 => exact cI HR0.out); (case side2 => exact HC0.out); (case side3 => exact cI HR1.out); (case side4 => exact HC1.out); rintro e w8 ⟨rfl, hb⟩; refine ⟨_, rfl, ?_⟩; have n0_ := Aside0.mk (sI hb HB); clear HB; have HB := n0_; clear n0_; (try clear hb); (try clear hb2); (try clear hk); (try clear hi)) | ((with_reducible refine gate_dst (N := 10) rfl ?_); refine Kd.R_lit (Kd.int .i64) _ 3 ?hg (N := 10) ?hd (xs := ([] : List Int)) (inner := []) (ok := fun _ => True) (okp := fun _ => True) ?hr ?hp (fun _ hk => hk) trivial (Below.refl _ _) (Nat.le_refl _) (by simp) ?_; (case hd => rfl); (case hg => rfl); (case hr => first | (go_simp; done) | (go_simp; rfl)); (case hp => exact Q28); intro v106 w9 ho10 hb hg_ hnew_; clear hg_ hnew_; (first | rw [← Ny105.out] at ho10 | (simp only [Int.reduceToNat] at ho10; rw [← Ny105.out] at ho10)); have hB_ := zI hb HB; have n0_ := Aside0.mk (Kd.R_lower ho10 (below_size hB_)); have n1_ := Aside0.mk (below_step hB_ hb); clear HB; have HO107 := n0_; have HB := n1_; clear n0_ n1_ hB_ hb ho10))); (go_ret2); (exact ⟨_, Q18, rI HO107, eI HB⟩)
/-! ### laws_vInts: function 17 -/
def laws_vInts.l0 : Nat → List Int → List Int → Int → Option (Bool)
 | 0, _, _, _ => none
 | k + 1, x0, x1, x5 => if x5 < (x0.length : Int) then (if 0 ≤ x5 then (if x5 < (x1.length : Int) then (if (rd x0 x5) = (rd x1 x5) then (laws_vInts.l0 k x0 x1 (wrap64 (x5 + 1))) else (some false)) else (none)) else (none)) else (some true)
def laws_vInts.f (k : Nat) (l0 : List Int) (l1 : List Int) : Option (Bool) := if (l0.length : Int) = (l1.length : Int) then (laws_vInts.l0 k l0 l1 0) else (some false)
set_option maxHeartbeats 8000000 in
set_option maxRecDepth 100000 in
theorem laws_vInts.calls (k : Nat) (A0 : Option Addr) (c0 : Nat) (l0 : List Int) (A1 : Option Addr) (c1 : Nat) (l1 : List Int) (r : Bool) (w : World) (hr0 : Kd.C (Kd.int .i64) w A0 l0.length l0) (hc0 : l0.length ≤ c0) (hr1 : Kd.C (Kd.int .i64) w A1 l1.length l1) (hc1 : l1.length ≤ c1) (h : laws_vInts.f k l0 l1 = some r) :
  Calls Tryd.prog 17 #[.slice A0 l0.length c0, .slice A1 l1.length c1] w fun e w' => e = .returned (.bool r) ∧ Drawn0 w w' := by
 (have HR0 := Aside0.mk hr0); (have HC0 := Aside0.mk hc0); clear hr0 hc0; (have HR1 := Aside0.mk hr1); (have HC1 := Aside0.mk hc1); clear hr1 hc1; (unfold laws_vInts.f at h); (have H := h); clear h; (by_cases c3 : (l0.length : Int) = (l1.length : Int))
 ·rw [if_pos c3] at H
  (have c3b0 : ((l0.length : Int) == (l1.length : Int)) = true := beq_iff_eq.mpr c3); (have c3b1 : ((l0.length : Int) != (l1.length : Int)) = false := bne_eq_false_iff_eq.mpr c3); (have c3b2 : (l0.length == l1.length) = true := Q157); clear c3; (have H' := Aside0.mk H); clear H; (go_enter Tryd.func17, Tryd.ntmps17); (go_wp2); (repeat (go_quiet (fail); try go_wp2)); (go_loopg [5] k (fun kq v5 w' => ∃ (x5_1 : Int), v5 = .int .i64 x5_1 ∧ Aside0 (laws_vInts.l0 kq l0 l1 x5_1 = some r) ∧ Aside0 (kq ≤ k) ∧ Drawn0 w w'))
  case atStart => exact Q94
  case round =>
   (clear H'); (try clear c1); (try clear p2); (try clear c3); (try clear c3b0); (try clear c3b1); (try clear c3b2); (obtain ⟨x5_1, rfl, HA, HK1, ⟨m1, rfl⟩⟩ := hrel)
   cases gk with
   | zero => exact absurd HA.out (by simp [laws_vInts.l0])
   | succ k1 =>
    (have H := HA.out); clear HA; (simp only [laws_vInts.l0] at H); (by_cases c4 : x5_1 < (l0.length : Int))
    ·rw [if_pos c4] at H
     (have c4b0 := decide_eq_true c4); clear c4; (by_cases c5 : 0 ≤ x5_1)
     ·rw [if_pos c5] at H
      (have c5b0 := decide_eq_true c5); clear c5; (by_cases c6 : x5_1 < (l1.length : Int))
      ·rw [if_pos c6] at H
       (have c6b0 := decide_eq_true c6); clear c6; (by_cases c7 : (rd l0 x5_1) = (rd l1 x5_1))
       ·rw [if_pos c7] at H
        (have c7b0 : ((rd l0 x5_1) == (rd l1 x5_1)) = true := beq_iff_eq.mpr c7); (have c7b1 : ((rd l0 x5_1) != (rd l1 x5_1)) = false := bne_eq_false_iff_eq.mpr c7); clear c7; (have H' := Aside0.mk H); clear H; (have p101 : 0 ≤ (x5_1 : Int) := odt); (have q101 : x5_1 < (l0.length : Int) := odt); (obtain ⟨ad101, e101, hx101_0⟩ := Kd.at_int HR0.out x5_1 p101 q101); (cases e101); (replace p101 := eq_true p101); (replace q101 := eq_true q101); (have p102 : 0 ≤ (x5_1 : Int) := odt); (have q102 : x5_1 < (l1.length : Int) := odt); (obtain ⟨ad102, e102, hx102_0⟩ := Kd.at_int HR1.out x5_1 p102 q102); (cases e102); (replace p102 := eq_true p102); (replace q102 := eq_true q102); (go_wp2); (repeat (go_quiet (fail); try go_wp2)); go_roundg k1
        case measure => have := HK1.out; omega
        case rel => exact Q137
       ·rw [if_neg c7] at H
        (have c7b0 : ((rd l0 x5_1) == (rd l1 x5_1)) = false := beq_eq_false_iff_ne.mpr c7); (have c7b1 : ((rd l0 x5_1) != (rd l1 x5_1)) = true := bne_iff_ne.mpr c7); (obtain rfl := Option.some.inj H); (have p101 : 0 ≤ (x5_1 : Int) := odt); (have q101 : x5_1 < (l0.length : Int) := odt); (obtain ⟨ad101, e101, hx101_0⟩ := Kd.at_int HR0.out x5_1 p101 q101); (cases e101); (replace p101 := eq_true p101); (replace q101 := eq_true q101); (have p102 : 0 ≤ (x5_1 : Int) := odt); (have q102 : x5_1 < (l1.length : Int) := odt); (obtain ⟨ad102, e102, hx102_0⟩ := Kd.at_int HR1.out x5_1 p102 q102); (cases e102); (replace p102 := eq_true p102); (replace q102 := eq_true q102); (go_wp2); (repeat (go_quiet (fail); try go_wp2)); go_ret; (exact Q95)
      ·rw [if_neg c6] at H
       exact Q1
     ·rw [if_neg c5] at H
      exact Q1
    ·rw [if_neg c4] at H
     (have c4b0 := decide_eq_false c4); clear c4; (obtain rfl := Option.some.inj H); (go_wp2); (repeat (go_quiet (fail); try go_wp2)); go_ret; (exact Q95)
 ·rw [if_neg c3] at H
  (have c3b0 : ((l0.length : Int) == (l1.length : Int)) = false := beq_eq_false_iff_ne.mpr c3); (have c3b1 : ((l0.length : Int) != (l1.length : Int)) = true := bne_iff_ne.mpr c3); (have c3b2 : (l0.length == l1.length) = false := Q157); (obtain rfl := Option.some.inj H); (go_enter Tryd.func17, Tryd.ntmps17); (go_wp2); (repeat (go_quiet (fail); try go_wp2)); go_ret; (exact Q95)
end Go.Proofs.YtiaiohoadefgjaaDoor.X
namespace Go.Proofs.YtiaiohoadefgjaaDoor.X
open Go.RowKit Go.Proofs.YtiaiohoadefgjaaDoorW.PrintWords Go.Proofs.YtiaiohoadefgjaaDoorW.PrintLast Go.Proofs.YtiaiohoadefgjaaDoorW.PrintMore Go.Proofs.YtiaiohoadefgjaaDoor.E
attribute [local go_sem] max2_int min2_int max_two min_two max_three min_three max_four min_four
set_option linter.unusedVariables false
set_option linter.unusedSimpArgs false
attribute [-simp] ByteArray.size_append ByteArray.size_extract
attribute [-go_sem] ByteArray.size_append'
/-! ### impl_Answer: function 44 -/
def impl_Answer.f (l0 : List S51) : Option (List S51) := if l0.length < 4398046511104 then some l0 else none
theorem impl_Answer.eqnil (t e : Nat) (ht : Tryd.prog.underlying t = some (.slice e)) (A : Option Addr) (n c : Nat) (w : World) : Sem.run Tryd.prog (binOp .eql t (.slice A n c) (.slice none 0 0)) w = .ok (.bool A.isNone) w := by
 (have hr : Sem.run Tryd.prog (underlying t) w = .ok (.slice e) w := by simp [underlying, ht]); (cases A <;> (simp [binOp, Op.equal, Op.maxDepth]; unfold Op.equalIn; simp [hr]))
set_option maxHeartbeats 1000000 in
set_option maxRecDepth 100000 in
theorem impl_Answer.calls (A0 : Option Addr) (c0 : Nat) (l0 : List (S51)) (r1 : List (S51)) (w : World) (hr0 : Kd.C k51 w A0 l0.length l0) (hc0 : l0.length ≤ c0) (h : impl_Answer.f l0 = some r1) :
  Calls Tryd.prog 44 #[.slice A0 l0.length c0] w fun e w' => ∃ v0_ : Value, e = .returned v0_ ∧ Kd.R k51 51 w' w.heap.size (fun _ => True) v0_ r1 ∧ Below w.heap.size w w' := by
 (unfold impl_Answer.f at h); (by_cases hl : l0.length < 4398046511104)
 case neg => rw [if_neg hl] at h; exact absurd h (by simp)
 (rw [if_pos hl] at h); (obtain rfl := Option.some.inj h); clear h; (have HL := Aside0.mk hl); (have hu27 := Tryd.underlying33); clear hl
 cases A0 with
 | none =>
  have hn : l0 = [] := by
   (rcases l0 with _ | ⟨x, l⟩); (· rfl); (· (obtain ⟨ad, e, _⟩ := hr0.2.2 (Nat.succ_pos _)); (exact absurd e (by simp)))
  subst hn; clear hr0; (have he : Sem.run Tryd.prog (binOp .eql 33 (.slice none 0 c0) (.slice none 0 0)) w = .ok (.bool true) w := impl_Answer.eqnil _ _ hu27 none 0 c0 w); (go_enter Tryd.func44, Tryd.ntmps44); (go_wp2); go_ret
  exact ⟨_, rfl, Kd.R_nil _ _ _ _ _, Below.refl _ _⟩
 | some ad =>
  (have HR0 := Aside0.mk hr0); (have he : Sem.run Tryd.prog (binOp .eql 33 (.slice (some ad) l0.length c0) (.slice none 0 0)) w = .ok (.bool false) w := impl_Answer.eqnil _ _ hu27 (some ad) l0.length c0 w); clear hr0; (go_enter Tryd.func44, Tryd.ntmps44); (go_wp2_with (first | ((with_reducible refine gate_dst (N := 5) rfl ?_); refine Kd.R_lit k51 _ 51 ?hg (N := 5) ?hd (xs := ([] : List S51)) (inner := []) (ok := fun _ => True) (okp := fun _ => True) ?hr ?hp (fun _ hk => hk) trivial (Below.refl _ _) (Nat.le_refl _) (by simp) ?_; (case hd => rfl); (case hg => rfl); (case hr => first | (go_simp; done) | (go_simp; rfl)); (case hp => exact Q28); intro v1 w1 ho hb hg_ hnew_; clear hg_ hnew_; have HO := Aside0.mk ho; have HB := Aside0.mk hb; clear ho hb) | ((with_reducible refine gate_builtin (b := .append) (xs := #[.tmp 5, .tmp 6]) rfl ?_); refine Kd.R_append_rows k51 (w0 := w) w.heap.size rfl (.tmp 5) (.tmp 6) _ 51 (.agg #[(.string ByteArray.empty), (.string ByteArray.empty)]) 32 rfl (by kernel_rfl) info51 rfl (by decide) (by omega) v1 ([] : List S51) l0 _ _ _ (fun _ => True) (fun _ => False) rfl rfl ?aO ?aR (fun _ _ h => h) (fun _ h => h.elim) ?aF ?aB ?aS ?aL ?_; (case aO => exact HO.out); (case aR => exact Kd.C_below HR0.out HB.out); (case aF => exact Q75); (case aB => exact HB.out); (case aS => exact HB.out.size); (case aL => have := HL.out; simp only [List.length_nil]; omega); intro v2 w2 ho hb hg hat; clear hg hat; have HO2 := Aside0.mk ho; have HB2 := Aside0.mk hb; clear ho hb))); go_ret; (exact ⟨_, rfl, HO2.out, HB2.out⟩)
end Go.Proofs.YtiaiohoadefgjaaDoor.X
set_option linter.unusedVariables false
namespace Go.Proofs.YtiaiohoadefgjaaDoor.X
open Go.RowKit Go.Proofs.YtiaiohoadefgjaaDoorW.PrintWords Go.Proofs.YtiaiohoadefgjaaDoorW.PrintLast Go.Proofs.YtiaiohoadefgjaaDoorW.PrintMore Go.Proofs.YtiaiohoadefgjaaDoor.E
theorem zeroCells_mem (z : Array Value) (m : Nat) (v : Value) (h : v ∈ (Builtin.zeroCells z m).toList) : v ∈ z.toList := by
 unfold Builtin.zeroCells at h
 rw [Array.toList_map, List.mem_map] at h
 obtain ⟨i, hi, rfl⟩ := h
 have hi' : i < m * z.size := by simpa using hi
 have hp : 0 < z.size := by
  rcases Nat.eq_zero_or_pos z.size with h0 | h0
  ·rw [h0, Nat.mul_zero] at hi'
   omega
  ·exact h0
 have hlt : i % z.size < z.size := Nat.mod_lt _ hp
 rw [getElem!_pos z _ hlt]
 exact Array.getElem_mem_toList hlt
theorem R_clear {P : Program} {α : Type} (d : Kd α) {W w0 : World} {base e t ty g n cap c i bytes : Nat} {ok : Nat → Prop} {xs : List α} (z : Value) (ht : P.underlying t = some (.slice e)) (hinfo : (P.info? e).map (fun i => (i.zero, i.size, i.bytes)) = some (some z, d.sz, bytes)) (hz : z.cells.size = d.sz) (h1 : z.cells.toList.all (fun q => q.oneCell') = true)
  (HO : Kd.R d e W base ok (.slice (some ⟨g, 0, none⟩) n cap) xs) (hi : i < n) (HB : Below base w0 W) :
  ∃ w1, (Builtin.clear_ #[t] ty #[.slice (some ⟨g, i * d.sz, none⟩) (n - i) c]).run P W = .ok (.tuple #[]) w1 ∧ Kd.R d e w1 base ok (.slice (some ⟨g, 0, none⟩) i cap) (xs.take i) ∧ Below base w0 w1 := by
 obtain ⟨i0, hi0, hzz⟩ := Option.map_eq_some_iff.1 hinfo
 simp only [Prod.mk.injEq] at hzz
 have hv : ∀ w, (zeroValue e).run P w = .ok z w := fun w => by simp [zeroValue, typeInfo, hi0, hzz.1]
 obtain ⟨hn, hnc, _⟩ := Kd.R_reads' HO
 obtain ⟨hok, inner, ⟨hl, ho⟩, hr⟩ := Kd.R_take HO (m := i) (by omega)
 obtain ⟨m, hm⟩ : ∃ m, n - i = m + 1 := ⟨n - i - 1, by omega⟩
 obtain ⟨vs, hvs⟩ : ∃ vs, vs = (Builtin.zeroCells z.cells (m + 1)).toList := ⟨_, rfl⟩
 have hlen : vs.length = (n - i) * d.sz := by rw [hvs, hm, ← hz]; simp [Builtin.zeroCells]
 have h1s : ∀ v ∈ vs, v.oneCell' = true := fun v hv' => List.all_eq_true.1 h1 v (zeroCells_mem _ _ _ (hvs ▸ hv'))
 rcases ho with ⟨hv', _⟩ | ⟨g', cap', cur, hv', hb, hh, hnc', hcm, hcs, hct⟩
 ·cases hv'
 injection hv' with ha _ hc
 injection ha with ha
 injection ha with hg
 subst hg; subst hc
 have hfit : i * d.sz + vs.length ≤ cur.size := by
  rw [hlen, ← Nat.add_mul, hcs]
  exact Nat.mul_le_mul_right _ (by omega)
 obtain ⟨cur', h3, h4, h5⟩ := setCells_row vs (i * d.sz) W cur hh hfit
 obtain ⟨s1, s2, s3, s4⟩ := setCells_same g vs (i * d.sz) W
 have hli : (xs.take i).length = i := by rw [List.length_take]; omega
 refine ⟨W.setCells g (i * d.sz) vs, ?_, ⟨hok, inner, ⟨hl, .inr ⟨g, cap, cur', by rw [hli], hb, h3, hnc', hcm, h4.trans hcs, ?_⟩⟩, hr.imp_ (fun _ _ hp => d.M_move (fun k hk => setCells_far vs _ k (fun e => hk.2 (by rw [e]; rfl))) hp)⟩, HB.trans ⟨s1, s2, s3, by rw [s4]; exact Nat.le_refl _, fun k hk => setCells_far vs _ k (by omega)⟩⟩
 ·have hst := run_storeCells_cells (P := P) g (i * d.sz) vs 0 W (fun j hj => by rw [cell_of_row W g _ cur e (0, 0) hh]; simp; omega) (fun j _ => blk_frozen hh _) h1s
  simp only [Nat.add_zero] at hst
  rw [hvs] at hst ⊢
  simp [Builtin.clear_, run_underlying ht, hv, hm, hst]
 ·rw [hli] at hct ⊢
  have hb2 : i * d.sz ≤ cur.toList.length := by rw [Array.length_toList]; omega
  rw [h5, List.append_assoc, List.take_append_of_le_length (by rw [List.length_take]; omega), List.take_take, Nat.min_self]
  exact hct
theorem R_at0 {α : Type} {d : Kd α} {W : World} {base e : Nat} {ok : Nat → Prop} {v : Value} {xs : List α} (HO : Kd.R d e W base ok v xs) (hn : 0 < xs.length) : ∃ g cap, v = .slice (some ⟨g, 0, none⟩) xs.length cap := by
 obtain ⟨_, inner, ⟨_, ho⟩, _⟩ := HO
 rcases ho with ⟨_, h0⟩ | ⟨g, cap, cur, hv, _⟩
 ·omega
 ·exact ⟨g, cap, hv⟩
end Go.Proofs.YtiaiohoadefgjaaDoor.X
set_option linter.unusedVariables false
namespace Go.Proofs.YtiaiohoadefgjaaDoor.X
open Go.RowKit Go.Proofs.YtiaiohoadefgjaaDoorW.PrintWords Go.Proofs.YtiaiohoadefgjaaDoorW.PrintLast Go.Proofs.YtiaiohoadefgjaaDoorW.PrintMore Go.Proofs.YtiaiohoadefgjaaDoor.E
theorem filter_take_succ {α : Type} (p : α → Bool) (l : List α) (j : Nat) (x : α) (h : l[j]? = some x) : (l.take (j + 1)).filter p = (l.take j).filter p ++ (if p x = true then [x] else []) := by
 obtain ⟨hl, hx⟩ := List.getElem?_eq_some_iff.1 h
 rw [List.take_succ_eq_append_getElem hl, List.filter_append, hx]
 congr 1
 cases hp : p x <;> simp [hp]
theorem take_set_succ {α : Type} (l : List α) (i : Nat) (x : α) (h : i < l.length) : (l.set i x).take (i + 1) = l.take i ++ [x] := by
 rw [List.take_succ_eq_append_getElem (by rw [List.length_set]; exact h), List.getElem_set_self, List.take_set_of_le (Nat.le_refl i)]
set_option maxHeartbeats 4000000 in
set_option maxRecDepth 100000 in
theorem deleteFunc43 (v : Value) (l0 : List (S51)) (g : Nat) (lb : Array Value) (p : S51 → Bool) (w w0 : World) (base : Nat) (hbs : base ≤ w.heap.size) (hl : l0.length < 4398046511104)
  (HO : Kd.R k51 51 w base (fun _ => True) v l0) (HB0 : Below base w0 w) (eg : ∀ args w, (callFunc g args).run Tryd.prog w = .ok (.enter g args) w)
  (hp : ∀ (W : World) (x : S51), x ∈ l0 → Below base w0 W → Calls Tryd.prog g (#[.agg #[.string x.f0, .string x.f1]] ++ lb) W fun e w' => e = .returned (.bool (p x)) ∧ Below W.heap.size W w') :
  Calls Tryd.prog 43 #[v, .func (.func g) #[] lb] w fun e w' => ∃ v1, e = .returned v1 ∧ Kd.R k51 51 w' base (fun _ => True) v1 (l0.filter (fun x => !p x)) ∧ Below base w0 w' := by
 have hu51 := Tryd.underlying51
 have hust := Tryd.underlying33
 obtain ⟨A_, c_, rfl, hlc, hC⟩ := Kd.R_reads HO
 have hI := idxFunc68 A_ c_ l0 g lb p w hC eg (fun W x hx hb => hp W x hx (HB0.trans (hb.mono hbs)))
 rcases idxG_spec p l0 0 with ⟨h1, h2⟩ | ⟨j0, x0, h1, h2, h3, h4, h5, h6⟩
 ·rw [h1] at hI
  have HI := Aside0.mk hI
  have HF := Aside0.mk (List.filter_eq_self.2 (fun x hx => by show (!p x) = true; rw [h2 x hx]; rfl : ∀ x ∈ l0, (fun x => !p x) x = true))
  have HR0 := Aside0.mk HO
  have HB := Aside0.mk HB0
  clear hI h1 h2 HO HB0 hp hC
  go_enter Tryd.func43, Tryd.ntmps43
  go_wp2_with (go_at_call 68; refine HI.out.mono ?_; rintro e w' ⟨rfl, hb⟩)
  go_ret
  exact ⟨_, rfl, by rw [HF.out]; exact Kd.R_below HR0.out hb, HB.out.trans (hb.mono hbs)⟩
 rw [h2, Nat.zero_add] at hI
 have hn0 : 0 < l0.length := by omega
 obtain ⟨gb, cp, hv⟩ := R_at0 HO hn0
 obtain ⟨rfl, rfl⟩ : A_ = some ⟨gb, 0, none⟩ ∧ c_ = cp := by injection hv with a b c; exact ⟨a, c⟩
 have HI := Aside0.mk hI
 have HR0 := Aside0.mk HO
 have HB := Aside0.mk HB0
 have HP := Aside0.mk hp
 have HH := Aside0.mk h6
 have H4 := Aside0.mk (And.intro h3 h4)
 clear hI h2 HO HB0 hp hC hv h6 h5 h3 h4 hlc
 have hne1 : ((j0 : Int) == -1) = false := beq_eq_false_iff_ne.2 (by omega)
 go_enter Tryd.func43, Tryd.ntmps43
 go_wp2_with (go_at_call 68; refine HI.out.mono ?_; rintro e w1 ⟨rfl, hb⟩)
 have HR1 := Aside0.mk (Kd.R_below HR0.out hb)
 have HB1 := Aside0.mk (HB.out.trans (hb.mono hbs))
 have HS1 := Aside0.mk (Nat.le_trans hbs hb.size)
 clear hb HR0 HI HB
 have HADD := Aside0.mk (fun m => by unfold Addr.add; split <;> simp_all : ∀ m : Nat, (⟨gb, 0, none⟩ : Addr).add m = ⟨gb, m, none⟩)
 go_loopg [5, 6, 7] l0.length (fun gg s5 s6 _ wr => ∃ (i j : Int) (xs : List (S51)), s5 = .int .i64 i ∧ s6 = .int .i64 j ∧ Aside0 (0 ≤ i ∧ i < j) ∧ Aside0 (j ≤ (l0.length : Int)) ∧ Aside0 ((l0.length : Int) - j ≤ (gg : Int)) ∧ Aside0 (xs.length = l0.length) ∧ Aside0 (Kd.R k51 51 wr base (fun _ => True) (.slice (some ⟨gb, 0, none⟩) l0.length c_) xs) ∧ Aside0 (Below base w0 wr) ∧ Aside0 (base ≤ wr.heap.size) ∧ Aside0 (xs.take i.toNat = (l0.take j.toNat).filter (fun x => !p x)) ∧ Aside0 (xs.drop j.toNat = l0.drop j.toNat))
 case atStart =>
  refine ⟨(j0 : Int), (j0 : Int) + 1, l0, rfl, by go_num, ⟨by omega⟩, ⟨by omega⟩, ⟨by omega⟩, ⟨rfl⟩, HR1, HB1, HS1, ⟨?_⟩, ⟨rfl⟩⟩
  rw [Int.toNat_natCast, show ((j0 : Int) + 1).toNat = j0 + 1 by omega, filter_take_succ _ _ _ _ H4.out.1, H4.out.2, if_neg (by simp), List.append_nil]
  refine (List.filter_eq_self.2 fun x hx => ?_).symm
  obtain ⟨m, hm, e⟩ := List.mem_iff_getElem.1 hx
  rw [List.length_take] at hm
  rw [List.getElem_take] at e
  show (!p x) = true
  rw [HH.out m x (by omega) (by rw [← e]; exact List.getElem?_eq_getElem _)]
  rfl
 case round =>
  obtain ⟨i, j, xs, rfl, rfl, Hij, Hj, Hg, Hxl, HR, HB, HS, HT, HD⟩ := hrel
  by_cases c : j < (l0.length : Int)
  ·have cb : decide (j < (l0.length : Int)) = true := decide_eq_true c
   have q0 : 0 ≤ j := by have := Hij.out; omega
   have q1 : 0 ≤ i := Hij.out.1
   have q2 : i < (l0.length : Int) := by have := Hij.out; omega
   have hxl := Hxl.out
   have hCx := (Kd.R_reads' HR.out).2.2
   rw [hxl] at hCx
   obtain ⟨ad, e, hx0, hx1⟩ := at_T51 hCx j q0 c
   cases e
   simp only [HADD.out] at hx0 hx1
   have hel : xs[j.toNat]? = some (rd_T51 xs j) := by
    unfold rd_T51
    rw [List.getD_eq_getElem?_getD, List.getElem?_eq_getElem (show j.toNat < xs.length by omega), Option.getD_some]
   have hel0 : l0[j.toNat]? = some (rd_T51 xs j) := by
    have h7 := congrArg (fun l : List (S51) => l[0]?) HD.out
    simp only [List.getElem?_drop, Nat.add_zero] at h7
    rw [← h7]
    exact hel
   have HE := Aside0.mk hel0
   have HC := Aside0.mk (fun W (hb : Below base w0 W) => HP.out W (rd_T51 xs j) (List.mem_of_getElem? hel0) hb)
   clear hel hel0 hCx hxl
   have hwr : wrap64 (j + 1) = j + 1 := wrap_id (by omega) (by have := hl; omega)
   have hwi : wrap64 (i + 1) = i + 1 := wrap_id (by omega) (by have := hl; omega)
   cases hq : p (rd_T51 xs j) with
   | true =>
    have hc0 := HC.out
    simp only [hq] at hc0
    have HC1 := Aside0.mk hc0
    have HQ := Aside0.mk hq
    clear hq hc0 HC
    go_wp2_with (go_at_fn g; refine (HC1.out _ ?sb).mono ?_; (case sb => exact HB.out.alloc HS.out _); (rintro e w3 ⟨rfl, hb⟩))
    have HB3 := Aside0.mk ((HB.out.alloc HS.out _).trans (hb.mono (by have := HS.out; simp; omega)))
    have HS3 := Aside0.mk (Nat.le_trans (by have := HS.out; simp; omega : base ≤ _) hb.size)
    have HR3 := Aside0.mk (Kd.R_below (Kd.R_below HR.out ((Below.refl _ _).alloc (Nat.le_refl _) _)) hb)
    clear hb
    go_roundg ((l0.length : Int) - (j + 1)).toNat
    case measure => have := Hg.out; have := Hij.out; omega
    case rel =>
     refine ⟨i, j + 1, xs, rfl, by simp [*], ⟨by omega, by have := Hij.out; omega⟩, ⟨by omega⟩, ⟨by omega⟩, Hxl, HR3, HB3, HS3, ⟨?_⟩, ⟨?_⟩⟩
     ·rw [show (j + 1).toNat = j.toNat + 1 by omega, filter_take_succ _ _ _ _ HE.out, HQ.out, if_neg (by simp), List.append_nil]
      exact HT.out
     ·rw [show (j + 1).toNat = j.toNat + 1 by omega, ← List.drop_drop, HD.out, List.drop_drop]
   | false =>
    have hc0 := HC.out
    simp only [hq] at hc0
    have HC1 := Aside0.mk hc0
    have HQ := Aside0.mk hq
    clear hq hc0 HC
    go_wp2_with (first | (go_at_fn g; refine (HC1.out _ ?sb).mono ?_; (case sb => exact HB.out.alloc HS.out _); (rintro e w3 ⟨rfl, hb⟩); have g0 := (hb.cell (p := ⟨wr.heap.size, 0, none⟩) (by simp)).trans (by simp : _ = some (.string (rd_T51 xs j).f0)); have g1 := (hb.cell (p := ⟨wr.heap.size, 1, none⟩) (by simp)).trans (by simp : _ = some (.string (rd_T51 xs j).f1)); have HB3 := Aside0.mk ((HB.out.alloc HS.out _).trans (hb.mono (by have := HS.out; simp; omega))); have HS3 := Aside0.mk (Nat.le_trans (by have := HS.out; simp; omega : base ≤ _) hb.size); have HR3 := Aside0.mk (Kd.R_below (Kd.R_below HR.out ((Below.refl _ _).alloc (Nat.le_refl _) _)) hb); clear hb) | ((with_reducible refine gate_store (t := 51) (p := 33) rfl ?_); (obtain ⟨ad, e, hy0, hy1⟩ := at_T51 (Hxl.out ▸ (Kd.R_reads' HR3.out).2.2) i q1 q2); cases e; simp only [HADD.out] at hy0 hy1; refine Kd.R_store k51 (w0 := w0) base rfl rfl 51 (.tmp 33) (.tmp 32) rfl 51 i 0 xs (rd_T51 xs j) (.agg #[.string (rd_T51 xs j).f0, .string (rd_T51 xs j).f1]) [.string (rd_T51 xs j).f0, .string (rd_T51 xs j).f1] [.string (rd_T51 xs i).f0, .string (rd_T51 xs i).f1] (fun _ => True) (fun _ => False) rfl rfl rfl rfl (by kernel_rfl) (by intro q hq; simp at hq; rcases hq with rfl | rfl <;> rfl) HR3.out q1 q2 rfl ?acc (Nat.le_refl _) (k51_mkM _ _ _ _) (fun _ h => h.elim) HB3.out ?_; (case acc => intro m u hm; (rcases m with _ | m); (cases hm; exact hy0); (rcases m with _ | m); (cases hm; exact hy1); cases hm); intro w4 hr4 hb4 hg4; have HR4 := Aside0.mk hr4; have HB4 := Aside0.mk hb4; have HS4 := Aside0.mk (Nat.le_trans HS3.out hg4.size); clear hr4 hb4 hg4 hy0 hy1 HR3 HB3 HS3))
    go_roundg ((l0.length : Int) - (j + 1)).toNat
    case measure => have := Hg.out; have := Hij.out; omega
    case rel =>
     have hln := Hxl.out
     have hij := Hij.out
     refine ⟨i + 1, j + 1, xs.set i.toNat (rd_T51 xs j), by simp [*], by simp [*], ⟨by omega, by omega⟩, ⟨by omega⟩, ⟨by omega⟩, ⟨by rw [List.length_set]; exact hln⟩, HR4, HB4, HS4, ⟨?_⟩, ⟨?_⟩⟩
     ·rw [show (i + 1).toNat = i.toNat + 1 by omega, show (j + 1).toNat = j.toNat + 1 by omega, filter_take_succ _ _ _ _ HE.out, HQ.out, if_pos (by rfl), take_set_succ _ _ _ (by omega), HT.out]
     ·rw [show (j + 1).toNat = j.toNat + 1 by omega, List.drop_set_of_lt (by omega), ← List.drop_drop, HD.out, List.drop_drop]
  ·have cb : decide (j < (l0.length : Int)) = false := decide_eq_false c
   have e : j = (l0.length : Int) := by have := Hj.out; omega
   have HE := Aside0.mk e
   clear e
   have hbz := Nat.le_refl 0
   have hnc := (Kd.R_reads' HR.out).2.1
   have hij : i.toNat < l0.length := by have := Hij.out; have := HE.out; omega
   obtain ⟨w2, hcl, hR2, hB2⟩ := R_clear k51 (.agg #[.string ByteArray.empty, .string ByteArray.empty]) (ty := 0) (c := c_ - i.toNat) hust info51 rfl rfl HR.out hij HB.out
   replace hcl : (Builtin.clear_ #[33] 0 #[.slice (some ⟨gb, i.toNat * 2, none⟩) (l0.length - i.toNat) (c_ - i.toNat)]).run Tryd.prog wr = .ok (.tuple #[]) w2 := hcl
   have HR2 := Aside0.mk hR2
   have HB2 := Aside0.mk hB2
   have hne2 : ¬ c_ = i.toNat := by omega
   have hi1 : i ≤ (l0.length : Int) := by omega
   have hi2 : i.toNat ≤ c_ := by omega
   have hi3 : i ≤ (c_ : Int) := by omega
   have q1 : 0 ≤ i := Hij.out.1
   clear hR2 hB2 hbz
   go_wp2
   go_ret
   refine ⟨_, rfl, ?_, HB2.out⟩
   have h8 := HT.out
   rw [HE.out, Int.toNat_natCast, List.take_length] at h8
   rw [← h8]
   exact HR2.out
end Go.Proofs.YtiaiohoadefgjaaDoor.X
namespace Go.Proofs.YtiaiohoadefgjaaDoor.X
open Go.RowKit Go.Proofs.YtiaiohoadefgjaaDoorW.PrintWords Go.Proofs.YtiaiohoadefgjaaDoorW.PrintLast Go.Proofs.YtiaiohoadefgjaaDoorW.PrintMore Go.Proofs.YtiaiohoadefgjaaDoor.E
attribute [local go_sem] max2_int min2_int max_two min_two max_three min_three max_four min_four
set_option linter.unusedVariables false
set_option linter.unusedSimpArgs false
attribute [-simp] ByteArray.size_append ByteArray.size_extract
attribute [-go_sem] ByteArray.size_append'
/-! ### impl_ClearHidden: function 18 -/
set_option maxHeartbeats 8000000 in
set_option maxRecDepth 100000 in
theorem clearHidden1 (x : S51) (A0 : Option Addr) (c0 : Nat) (l0 : List S54) (A7 : Option Addr) (c7 : Nat) (q : List Bool) (B6 B2 : Nat) (t : Int) (w : World) (hc6 : w.cell? ⟨B6, 0, none⟩ = some (.slice A7 q.length c7)) (hc2 : w.cell? ⟨B2, 0, none⟩ = some (.slice A0 l0.length c0)) (hr0 : Kd.C k54 w A0 l0.length l0) (hc0 : l0.length ≤ c0) (hr7 : Kd.C Kd.bool w A7 q.length q) (ht : impl_fieldOf.f l0 x.f0 = some t) (h0 : 0 ≤ t) (h1 : t < (q.length : Int)) :
  Calls Tryd.prog 45 #[.agg #[.string x.f0, .string x.f1], .pointer (some ⟨B6, 0, none⟩), .pointer (some ⟨B2, 0, none⟩)] w fun e w' => e = .returned (.bool (!(rdOf false q t))) ∧ Below w.heap.size w w' := by
 (have hu59 := Tryd.underlying51); (have hc6' : ∀ o : Obj, (w.alloc o).cell? ⟨B6, 0, none⟩ = some (.slice A7 q.length c7) := fun o => ((((Below.refl _ _).alloc (Nat.le_refl _) o).cell (p := ⟨B6, 0, none⟩) (bltc w _ hc6))).trans hc6); (have hc2' : ∀ o : Obj, (w.alloc o).cell? ⟨B2, 0, none⟩ = some (.slice A0 l0.length c0) := fun o => ((((Below.refl _ _).alloc (Nat.le_refl _) o).cell (p := ⟨B2, 0, none⟩) (bltc w _ hc2))).trans hc2); (have HR0 := Aside0.mk hr0); (have HR7 := Aside0.mk hr7); (have HT := Aside0.mk ht); (have HC0 := Aside0.mk hc0); clear hr0 hr7 ht hc0; (obtain ⟨ad, e, hx⟩ := Kd.at_bool HR7.out t h0 h1); (cases e); (have HX := Aside0.mk hx); clear hx; (have HB := Aside0.mk (Below.refl w.heap.size w)); (have LT6 := Aside0.mk (bltc w _ hc6)); (have LTX := Aside0.mk (bltc w _ HX.out)); (have H6 := Aside0.mk hc6); (go_enter Tryd.func45, Tryd.ntmps45); (go_upto_region 1 with (fail)); (go_region_with (go_at_call 46; refine (impl_fieldOf.calls A0 c0 l0 x.f0 t _ ?s1 HC0.out HT.out).mono ?_; (case s1 => exact Q158); rintro e w1 ⟨rfl, hb⟩; have hb1 := Aside0.mk (below_step Q159 hb); clear hb; have g6 := (hb1.out.cell LT6.out).trans H6.out; have gx := (hb1.out.cell LTX.out).trans HX.out)); (all_goals (go_wp2_with fail; go_ret; exact ⟨rfl, by repeat (first | exact hb1.out | apply bA | apply bN | apply bD)⟩))
def hidAt (l0 : List S54) (a : S51) : Int := idxG (fun x : S54 => x.f0.toList == a.f0.toList) 0 l0
def hidOk (l0 : List S54) (l1 : List S51) (q : List Bool) : Bool := decide (l1.length < 4398046511104) && l1.all (fun a => decide (0 ≤ hidAt l0 a) && decide (hidAt l0 a < (q.length : Int)))
def impl_ClearHidden.f (k : Nat) (l0 : List S54) (l1 : List S51) : Option (List S51 × Bool) := (impl_IsValidAnswers.f k l0 l1).bind fun t => (if t = true then ((impl_visible.f k l0 l1).bind fun q => (if hidOk l0 l1 q = true then some (l1.filter (fun a => rdOf false q (hidAt l0 a)), true) else none)) else (some ([], false)))
theorem clearHiddenD {tb : TypeId} (v9 : Value) (A0 : Option Addr) (c0 : Nat) (l0 : List S54) (l1 : List S51) (A7 : Option Addr) (c7 : Nat) (q : List Bool) (w w7 w9 : World) (HB7 : Below w.heap.size w w7) (S7 : w.heap.size < w7.heap.size) (g3 : w7.cell? ⟨w.heap.size, 0, none⟩ = some (.slice A0 l0.length c0)) (HR0 : Kd.C k54 w A0 l0.length l0) (HC0 : l0.length ≤ c0) (HO7 : Kd.C Kd.bool w7 A7 q.length q) (HL : l1.length < 4398046511104) (HA : ∀ a ∈ l1, 0 ≤ hidAt l0 a ∧ hidAt l0 a < (q.length : Int))
  (ho : Kd.R k51 51 w9 (w7.alloc (.cells #[.slice A7 q.length c7] tb)).heap.size (fun _ => True) v9 l1) (hb : Below (w7.alloc (.cells #[.slice A7 q.length c7] tb)).heap.size (w7.alloc (.cells #[.slice A7 q.length c7] tb)) w9) :
  Calls Tryd.prog 43 #[v9, .func (.func 45) #[] #[.pointer (some ⟨w7.heap.size, 0, none⟩), .pointer (some ⟨w.heap.size, 0, none⟩)]] w9 fun e w' => ∃ v1, e = .returned v1 ∧ Kd.R k51 51 w' w.heap.size (fun _ => True) v1 (l1.filter (fun a => rdOf false q (hidAt l0 a))) ∧ Below w.heap.size w w' := by
 (have hsz : (w7.alloc (.cells #[.slice A7 q.length c7] tb)).heap.size = w7.heap.size + 1 := by simp); (have hB8 : Below w.heap.size w (w7.alloc (.cells #[.slice A7 q.length c7] tb)) := bA HB7 _); (have q2 : (w7.alloc (.cells #[.slice A7 q.length c7] tb)).cell? ⟨w.heap.size, 0, none⟩ = some (.slice A0 l0.length c0) := (((Below.refl w7.heap.size w7).alloc (Nat.le_refl _) _).cell (p := ⟨w.heap.size, 0, none⟩) S7).trans g3); (have q6 : (w7.alloc (.cells #[.slice A7 q.length c7] tb)).cell? ⟨w7.heap.size, 0, none⟩ = some (.slice A7 q.length c7) := by simp); (have q7 : Kd.C Kd.bool (w7.alloc (.cells #[.slice A7 q.length c7] tb)) A7 q.length q := Kd.C_below HO7 ((Below.refl w7.heap.size w7).alloc (Nat.le_refl _) _)); (have hle : w.heap.size ≤ (w7.alloc (.cells #[.slice A7 q.length c7] tb)).heap.size := by omega); (refine (deleteFunc43 v9 l1 45 #[.pointer (some ⟨w7.heap.size, 0, none⟩), .pointer (some ⟨w.heap.size, 0, none⟩)] (fun x => !(rdOf false q (hidAt l0 x))) w9 (w7.alloc (.cells #[.slice A7 q.length c7] tb)) _ hb.size HL ho hb (enters_of Tryd.func45 (by kernel_rfl) rfl) (fun W' x hx hb' => clearHidden1 x A0 c0 l0 A7 c7 q w7.heap.size w.heap.size (hidAt l0 x) W' ((hb'.cell (p := ⟨w7.heap.size, 0, none⟩) (by show w7.heap.size < _; omega)).trans q6) ((hb'.cell (p := ⟨w.heap.size, 0, none⟩) (by show w.heap.size < _; omega)).trans q2) (Kd.C_below HR0 (below_step hB8 hb')) HC0 (Kd.C_below q7 hb') rfl (HA x hx).1 (HA x hx).2)).mono ?_); (rintro e w' ⟨v1, rfl, h1, h2⟩); (refine ⟨v1, rfl, ?_, below_step hB8 h2⟩); (have e1 : l1.filter (fun x => !(!(rdOf false q (hidAt l0 x)))) = l1.filter (fun a => rdOf false q (hidAt l0 a)) := by congr 1; funext x; rw [Bool.not_not]); (rw [← e1]); (exact Kd.R_lower h1 hle)
set_option maxHeartbeats 4000000 in
set_option maxRecDepth 100000 in
theorem impl_ClearHidden.calls (k : Nat) (A0 : Option Addr) (c0 : Nat) (l0 : List (S54)) (A1 : Option Addr) (c1 : Nat) (l1 : List (S51)) (r1 : List (S51)) (r2 : Bool) (w : World) (hr0 : Kd.C k54 w A0 l0.length l0) (hc0 : l0.length ≤ c0) (hr1 : Kd.C k51 w A1 l1.length l1) (hc1 : l1.length ≤ c1) (h : impl_ClearHidden.f k l0 l1 = some (r1, r2)) :
  Calls Tryd.prog 18 #[.slice A0 l0.length c0, .slice A1 l1.length c1] w fun e w' => ∃ v0_ : Value, e = .returned (.tuple #[v0_, .bool r2]) ∧ Kd.R k51 51 w' w.heap.size (fun _ => True) v0_ r1 ∧ Below w.heap.size w w' := by
 (have HR0 := Aside0.mk hr0); (have HC0 := Aside0.mk hc0); (have HR1 := Aside0.mk hr1); (have HC1 := Aside0.mk hc1); clear hr0 hc0 hr1 hc1; (have HB := Aside0.mk (Below.refl w.heap.size w)); (unfold impl_ClearHidden.f at h); (have H := h); clear h; (replace H := obS H; obtain ⟨t101, A3, H⟩ := H); (by_cases c4 : t101 = true)
 ·subst c4
  (rw [if_pos rfl] at H); (replace H := obS H; obtain ⟨q, A5, H⟩ := H); (by_cases c6 : hidOk l0 l1 q = true)
  case neg => rw [if_neg c6] at H; exact Q1
  (rw [if_pos c6] at H); (simp only [Option.some.injEq, Prod.mk.injEq] at H); (obtain ⟨HQ, rfl⟩ := H); (have HH := Aside0.mk HQ); clear HQ; (unfold hidOk at c6); (rw [Bool.and_eq_true, decide_eq_true_eq, List.all_eq_true] at c6); (have HL := Aside0.mk c6.1); (have HA := Aside0.mk (fun a (ha : a ∈ l1) => by have := c6.2 a ha; rw [Bool.and_eq_true, decide_eq_true_eq, decide_eq_true_eq] at this; exact this : ∀ a ∈ l1, 0 ≤ hidAt l0 a ∧ hidAt l0 a < (q.length : Int))); clear c6; (go_enter Tryd.func18, Tryd.ntmps18); (go_wp2_with (first | (go_at_call 24; refine (impl_IsValidAnswers.calls k _ _ l0 _ _ l1 true _ ?side1 ?side2 ?side3 ?side4 A3.out).mono ?_; (case side1 => exact Q158); (case side2 => exact HC0.out); (case side3 => exact Q160); (case side4 => exact HC1.out); rintro e w6 ⟨rfl, hb⟩; have HB6 := Aside0.mk (below_step Q159 hb); have g2 : w6.cell? ⟨w.heap.size, 0, none⟩ = some (.slice A0 l0.length c0) := (hb.cell (p := ⟨w.heap.size, 0, none⟩) (by simp)).trans (by simp); have S6 := Aside0.mk (Nat.lt_of_lt_of_le (by simp : w.heap.size < _) hb.size); clear hb) | (go_at_call 42; refine (impl_visible.calls k _ _ l0 _ _ l1 q _ ?side1 ?side2 ?side3 ?side4 A5.out).mono ?_; (case side1 => exact Kd.C_below HR0.out Q161); (case side2 => exact HC0.out); (case side3 => exact Kd.C_below HR1.out Q161); (case side4 => exact HC1.out); rintro e w7 ⟨v7, rfl, ho, hb⟩; obtain ⟨A7, c7, rfl⟩ := Kd.R_slice ho; have HB7 := Aside0.mk (below_step Q161 hb); have HO7 := Aside0.mk (Kd.R_reads' ho).2.2; have g3 := Aside0.mk ((hb.cell (p := ⟨w.heap.size, 0, none⟩) S6.out).trans g2); have S7 := Aside0.mk (Nat.lt_of_lt_of_le S6.out hb.size); clear hb ho) | (go_at_call 44; refine (impl_Answer.calls _ _ l1 l1 _ ?side1 HC1.out ?side3).mono ?_; (case side1 => exact Kd.C_below HR1.out (by repeat (first | exact HB7.out | apply bA | apply bN | apply bD))); (case side3 => unfold impl_Answer.f; rw [if_pos HL.out]); rintro e w9 ⟨v9, rfl, ho, hb⟩; have D9 := Aside0.mk (clearHiddenD v9 A0 c0 l0 l1 A7 c7 q w w7 w9 HB7.out S7.out g3.out HR0.out HC0.out HO7.out HL.out HA.out ho hb); clear hb ho) | (go_at_call 43; refine D9.out.mono ?_; rintro e w10 ⟨v10, rfl, ho, hb⟩; have HO10 := Aside0.mk ho; have HB10 := Aside0.mk hb; clear ho hb))); (go_ret2); (exact ⟨_, rfl, HH.out ▸ HO10.out, HB10.out⟩)
 ·replace c4 := Bool.eq_false_iff.mpr c4
  subst c4; (rw [if_neg (show ¬ (false = true) by decide)] at H); (simp only [Option.some.injEq, Prod.mk.injEq] at H); (obtain ⟨rfl, rfl⟩ := H); (go_enter Tryd.func18, Tryd.ntmps18); (go_wp2_with (go_at_call 24; refine (impl_IsValidAnswers.calls k _ _ l0 _ _ l1 false _ ?side1 ?side2 ?side3 ?side4 A3.out).mono ?_; (case side1 => exact Q158); (case side2 => exact HC0.out); (case side3 => exact Q160); (case side4 => exact HC1.out); rintro e w6 ⟨rfl, hb⟩; have HB6 := Aside0.mk (below_step Q159 hb); clear hb)); (go_ret2); (exact ⟨_, rfl, Kd.R_nil _ _ _ _ _, HB6.out⟩)
end Go.Proofs.YtiaiohoadefgjaaDoor.X
namespace Go.Proofs.YtiaiohoadefgjaaDoor.X
open Go.RowKit Go.Proofs.YtiaiohoadefgjaaDoorW.PrintWords Go.Proofs.YtiaiohoadefgjaaDoorW.PrintLast Go.Proofs.YtiaiohoadefgjaaDoorW.PrintMore
attribute [local go_sem] max2_int min2_int max_two min_two max_three min_three max_four min_four
set_option linter.unusedVariables false
set_option linter.unusedSimpArgs false
attribute [-simp] ByteArray.size_append ByteArray.size_extract
attribute [-go_sem] ByteArray.size_append'
/-! ### impl_VisibleFields: function 19 -/
def impl_VisibleFields.l0 : Nat → List (S54) → List ByteArray → List Bool → Int → Int → Option (List ByteArray × Bool)
 | 0, _, _, _, _, _ => none
 | k + 1, x0, x6, x16, x17, x18 => if x18 < x17 then (if 0 ≤ x18 then (if x18 < (x16.length : Int) then (if rdOf false x16 x18 = true then (if x18 < (x0.length : Int) then (if x6.length < 8796093022208 then (impl_VisibleFields.l0 k x0 (x6 ++ [(rd_T54 x0 x18).f0]) x16 x17 (wrap64 (x18 + 1))) else (none)) else (none)) else (impl_VisibleFields.l0 k x0 x6 x16 x17 (wrap64 (x18 + 1)))) else (none)) else (none)) else (some (x6, true))
def impl_VisibleFields.f (k : Nat) (l0 : List (S54)) (l1 : List (S51)) : Option (List ByteArray × Bool) := (impl_IsValidAnswers.f k l0 l1).bind fun t101 => (if t101 = true then ((impl_visible.f k l0 l1).bind fun t105 => (impl_VisibleFields.l0 k l0 (([] : List ByteArray)) t105 (t105.length : Int) 0)) else (some (([] : List ByteArray), false)))
set_option maxHeartbeats 8000000 in
set_option maxRecDepth 100000 in
theorem impl_VisibleFields.calls (k : Nat) (A0 : Option Addr) (c0 : Nat) (l0 : List (S54)) (A1 : Option Addr) (c1 : Nat) (l1 : List (S51)) (r1 : List ByteArray) (r2 : Bool) (w : World) (hr0 : Kd.C k54 w A0 l0.length l0) (hc0 : l0.length ≤ c0) (hr1 : Kd.C k51 w A1 l1.length l1) (hc1 : l1.length ≤ c1) (h : impl_VisibleFields.f k l0 l1 = some (r1, r2)) :
  Calls Tryd.prog 19 #[.slice A0 l0.length c0, .slice A1 l1.length c1] w fun e w' => ∃ v0_ : Value, e = .returned (.tuple #[v0_, .bool r2]) ∧ Kd.R Kd.string 9 w' w.heap.size (fun _ => True) v0_ r1 ∧ Below w.heap.size w w' := by
 (have HR0 := Aside0.mk hr0); (have HC0 := Aside0.mk hc0); clear hr0 hc0; (have HR1 := Aside0.mk hr1); (have HC1 := Aside0.mk hc1); clear hr1 hc1; (have HB := Aside0.mk (Below.refl w.heap.size w)); (unfold impl_VisibleFields.f at h); (have H := h); clear h; (replace H := obS H); (obtain ⟨t101, A3, H⟩ := H); (by_cases c4 : t101 = true)
 ·subst c4
  (rw [if_pos rfl] at H); (obtain ⟨y102, hy102⟩ : ∃ y_ : List ByteArray, y_ = (([] : List ByteArray)) := ⟨_, rfl⟩); (replace H : ((impl_visible.f k l0 l1).bind fun t105 => (impl_VisibleFields.l0 k l0 y102 t105 (t105.length : Int) 0)) = some (r1, r2) := by first | (rw [hy102]; with_reducible exact H) | (have H2_ := (Option.bind_some _ _).symm.trans H; rw [hy102]; with_reducible exact H2_) | (have H2_ := (Option.bind_some _ _).symm.trans H; with_reducible exact H2_) | with_reducible exact H | (rw [hy102]; exact H) | exact H); (have Ny102 := Aside0.mk hy102); clear hy102; (replace H := obS H); (obtain ⟨t105, A5, H⟩ := H); (have H' := Aside0.mk H); clear H; (go_enter Tryd.func19, Tryd.ntmps19); (go_wp2_with (first | ((with_reducible refine gate_callee (f := 24) rfl ?_); refine gL (some 11) Tryd.func24 #[.slice A0 l0.length c0, .slice A1 l1.length c1] ?_; (with_reducible refine (impl_IsValidAnswers.calls k _ _ l0 _ _ l1 true _ ?side1 ?side2 ?side3 ?side4 A3.out).mono ?_); (case side1 => exact cI HR0.out); (case side2 => exact HC0.out); (case side3 => exact cI HR1.out); (case side4 => exact HC1.out); rintro e w6 ⟨rfl, hb⟩; refine ⟨_, rfl, ?_⟩; have n0_ := Aside0.mk (sI hb HB); clear HB; have HB := n0_; clear n0_; (try clear hb); (try clear hb2); (try clear hk); (try clear hi)) | ((with_reducible refine gate_dst (N := 13) rfl ?_); refine Kd.R_lit Kd.string _ 9 ?hg (N := 13) ?hd (xs := ([] : List ByteArray)) (inner := []) (ok := fun _ => True) (okp := fun _ => True) ?hr ?hp (fun _ hk => hk) trivial (Below.refl _ _) (Nat.le_refl _) (by simp) ?_; (case hd => rfl); (case hg => rfl); (case hr => first | (go_simp; done) | (go_simp; rfl)); (case hp => exact Q28); intro v103 w7 ho8 hb hg_ hnew_; clear hg_ hnew_; (first | rw [← Ny102.out] at ho8 | (simp only [Int.reduceToNat] at ho8; rw [← Ny102.out] at ho8)); have hB_ := zI hb HB; have n0_ := Aside0.mk (Kd.R_lower ho8 (below_size hB_)); have n1_ := Aside0.mk (below_step hB_ hb); clear HB; have HO104 := n0_; have HB := n1_; clear n0_ n1_ hB_ hb ho8) | ((with_reducible refine gate_callee (f := 42) rfl ?_); refine gL (some 16) Tryd.func42 #[.slice A0 l0.length c0, .slice A1 l1.length c1] ?_; (with_reducible refine (impl_visible.calls k _ _ l0 _ _ l1 t105 _ ?side1 ?side2 ?side3 ?side4 A5.out).mono ?_); (case side1 => exact Q98); (case side2 => exact HC0.out); (case side3 => exact Q127); (case side4 => exact HC1.out); rintro e w9 ⟨v106, rfl, ho0, hb⟩; refine ⟨_, rfl, ?_⟩; have n0_ := Aside0.mk (rbI hb HO104); have n1_ := Aside0.mk (Kd.R_lower ho0 (below_size (eI HB))); have n2_ := Aside0.mk (sI hb HB); clear HO104 HB; have HO104 := n0_; have HO107 := n1_; have HB := n2_; clear n0_ n1_ n2_; (try clear hb); (try clear hb2); (try clear hk); (try clear hi); (try clear ho0); obtain ⟨Ao10, co10, eo10⟩ := Kd.R_slice HO107.out; subst eo10))); (go_loopg [6, 18] k (fun kq v6 v18 w' => ∃ (x6_1 : List ByteArray) (x18_1 : Int), v18 = .int .i64 x18_1 ∧ Aside0 (impl_VisibleFields.l0 kq l0 x6_1 t105 (t105.length : Int) x18_1 = some (r1, r2)) ∧ Aside0 (kq ≤ k) ∧ Aside0 (Kd.R Kd.string 9 w' w.heap.size (fun _ => True) v6 x6_1) ∧ Aside0 (Kd.R Kd.bool 4 w' w.heap.size (fun _ => True) (.slice Ao10 t105.length co10) t105) ∧ Aside0 (Below w.heap.size w w')))
  case atStart => exact ⟨(y102), (0), Q32, H', ⟨Nat.le_refl _⟩, ⟨rI HO104⟩, ⟨rI HO107⟩, ⟨eI HB⟩⟩
  case round =>
   (clear H'); (try clear c1); (try clear c2); (try clear p2); (try clear c4); (obtain ⟨x6_1, x18_1, rfl, HA, HK1, HO_6, HO_16, HB⟩ := hrel)
   cases gk with
   | zero => exact absurd HA.out (by simp [impl_VisibleFields.l0])
   | succ k1 =>
    (have H := HA.out); clear HA; (simp only [impl_VisibleFields.l0] at H); (by_cases c11 : x18_1 < (t105.length : Int))
    ·rw [if_pos c11] at H
     (have c11b0 := decide_eq_true c11); clear c11; (by_cases c12 : 0 ≤ x18_1)
     ·rw [if_pos c12] at H
      (have c12b0 := decide_eq_true c12); clear c12; (by_cases c13 : x18_1 < (t105.length : Int))
      ·rw [if_pos c13] at H
       (have c13b0 := decide_eq_true c13); clear c13; (obtain ⟨bq14, hbq14⟩ : ∃ b_ : Bool, b_ = (rdOf false t105 x18_1) := ⟨_, rfl⟩); (replace H : (if bq14 = true then (if x18_1 < (l0.length : Int) then (if x6_1.length < 8796093022208 then (impl_VisibleFields.l0 k1 l0 (x6_1 ++ [(rd_T54 l0 x18_1).f0]) t105 (t105.length : Int) (wrap64 (x18_1 + 1))) else (none)) else (none)) else (impl_VisibleFields.l0 k1 l0 x6_1 t105 (t105.length : Int) (wrap64 (x18_1 + 1)))) = some (r1, r2) := by rw [← hbq14] at H; exact H); (have Nbq14 := Aside0.mk hbq14); clear hbq14; (by_cases c15 : bq14 = true)
       ·subst c15
        (rw [if_pos rfl] at H); (by_cases c16 : x18_1 < (l0.length : Int))
        ·rw [if_pos c16] at H
         (have c16b0 := decide_eq_true c16); clear c16; (by_cases c17 : x6_1.length < 8796093022208)
         ·rw [if_pos c17] at H
          (have LMc17 := Aside0.mk c17); clear c17; (obtain ⟨y110, hy110⟩ : ∃ y_ : List ByteArray, y_ = (x6_1 ++ [(rd_T54 l0 x18_1).f0]) := ⟨_, rfl⟩); (replace H : (impl_VisibleFields.l0 k1 l0 y110 t105 (t105.length : Int) (wrap64 (x18_1 + 1))) = some (r1, r2) := by first | (rw [hy110]; with_reducible exact H) | (have H2_ := (Option.bind_some _ _).symm.trans H; rw [hy110]; with_reducible exact H2_) | (have H2_ := (Option.bind_some _ _).symm.trans H; with_reducible exact H2_) | with_reducible exact H | (rw [hy110]; exact H) | exact H); (have Ny110 := Aside0.mk hy110); clear hy110; (have H' := Aside0.mk H); clear H; (have p108 : 0 ≤ (x18_1 : Int) := odt); (have q108 : x18_1 < (t105.length : Int) := odt); (obtain ⟨ad108, e108, hx108_0⟩ := Kd.at_bool (Kd.R_reads' HO_16.out).2.2 x18_1 p108 q108); ((try rw [← Nbq14.out] at hx108_0)); (cases e108); (replace p108 := eq_true p108); (replace q108 := eq_true q108); (have p109 : 0 ≤ (x18_1 : Int) := odt); (have q109 : x18_1 < (l0.length : Int) := odt); (obtain ⟨ad109, A109_4, c109_4, e109, hx109_0, hx109_1, hx109_2, hx109_3, hx109_4, hx109_5, hx109_6, hl109_4, hi109_4⟩ := at_T54 HR0.out x18_1 p109 q109); ((try rw [← Nbq14.out] at hx109_5)); (cases e109); (replace hx109_0 := hcI HB hx109_0); (replace hx109_1 := hcI HB hx109_1); (replace hx109_2 := hcI HB hx109_2); (replace hx109_3 := hcI HB hx109_3); (replace hx109_4 := hcI HB hx109_4); (replace hx109_5 := hcI HB hx109_5); (replace hx109_6 := hcI HB hx109_6); (have HR109_4 := Aside0.mk hi109_4); (have HC109_4 := Aside0.mk hl109_4); clear hi109_4 hl109_4; (replace p109 := eq_true p109); (replace q109 := eq_true q109); (go_wp2_with (first | ((with_reducible refine gate_builtin (b := .append) (xs := #[.tmp 24, .tmp 30]) rfl ?_); at_builtin; refine Kd.R_append Kd.string (w0 := w) w.heap.size rfl (.tmp 24) (.tmp 30) 42 9 (.string ⟨#[]⟩) 16 rfl Tryd.underlying42 info9 rfl (by decide) (by omega) u6 x6_1 ((rd_T54 l0 x18_1).f0) [.string ((rd_T54 l0 x18_1).f0)] (fun _ => True) (fun _ => False) rfl rfl ?aP (fun _ hk => hk.elim) ?aF ?aO ?aB ?aS ?aL ?_; (case aP => exact rfl); (case aB => exact (eI HB)); (case aF => exact Q75); (case aO => exact (rI HO_6)); (case aS => exact Q129); (case aL => have := LMc17.out; omega); intro v111 w18 ho hb hg hat; rw [← Ny110.out] at ho; have n0_ := Aside0.mk (Kd.R_over' (rI HO_16) (Kd.R_typed (rI HO_6)) (by decide) hg); have n1_ := Aside0.mk (hb); have n2_ := Aside0.mk (ho); clear HO_16 HB HO_6; have HO_16 := n0_; have HB := n1_; have HO112 := n2_; clear n0_ n1_ n2_ ho hb hg hat))); go_roundg k1
          case measure => have := HK1.out; omega
          case rel => exact ⟨(y110), (wrap64 (x18_1 + 1)), Q32, H', ⟨Q69⟩, ⟨rI HO112⟩, ⟨rI HO_16⟩, ⟨eI HB⟩⟩
         ·rw [if_neg c17] at H
          exact Q1
        ·rw [if_neg c16] at H
         exact Q1
       ·replace c15 := Bool.eq_false_iff.mpr c15
        subst c15; (rw [if_neg (show ¬ (false = true) by decide)] at H); (have H' := Aside0.mk H); clear H; (have p108 : 0 ≤ (x18_1 : Int) := odt); (have q108 : x18_1 < (t105.length : Int) := odt); (obtain ⟨ad108, e108, hx108_0⟩ := Kd.at_bool (Kd.R_reads' HO_16.out).2.2 x18_1 p108 q108); ((try rw [← Nbq14.out] at hx108_0)); (cases e108); (replace p108 := eq_true p108); (replace q108 := eq_true q108); (go_wp2); go_roundg k1
        case measure => have := HK1.out; omega
        case rel => exact ⟨(x6_1), (wrap64 (x18_1 + 1)), Q32, H', ⟨Q69⟩, ⟨rI HO_6⟩, ⟨rI HO_16⟩, ⟨eI HB⟩⟩
      ·rw [if_neg c13] at H
       exact Q1
     ·rw [if_neg c12] at H
      exact Q1
    ·rw [if_neg c11] at H
     (have c11b0 := decide_eq_false c11); clear c11; (simp only [Option.some.injEq, Prod.mk.injEq] at H); (obtain ⟨rfl, rfl⟩ := H); (go_wp2); (go_ret2); (exact Q156)
 ·replace c4 := Bool.eq_false_iff.mpr c4
  subst c4; (rw [if_neg (show ¬ (false = true) by decide)] at H); (simp only [Option.some.injEq, Prod.mk.injEq] at H); (obtain ⟨rfl, rfl⟩ := H); (go_enter Tryd.func19, Tryd.ntmps19); (go_wp2_with (first | ((with_reducible refine gate_callee (f := 24) rfl ?_); refine gL (some 11) Tryd.func24 #[.slice A0 l0.length c0, .slice A1 l1.length c1] ?_; (with_reducible refine (impl_IsValidAnswers.calls k _ _ l0 _ _ l1 false _ ?side1 ?side2 ?side3 ?side4 A3.out).mono ?_); (case side1 => exact cI HR0.out); (case side2 => exact HC0.out); (case side3 => exact cI HR1.out); (case side4 => exact HC1.out); rintro e w19 ⟨rfl, hb⟩; refine ⟨_, rfl, ?_⟩; have n0_ := Aside0.mk (sI hb HB); clear HB; have HB := n0_; clear n0_; (try clear hb); (try clear hb2); (try clear hk); (try clear hi)))); (go_ret2); (exact Q136)
/-! ### laws_vTexts: function 20 -/
def laws_vTexts.l0 : Nat → List ByteArray → List ByteArray → Int → Option (Bool)
 | 0, _, _, _ => none
 | k + 1, x0, x1, x5 => if x5 < (x0.length : Int) then (if 0 ≤ x5 then (if x5 < (x1.length : Int) then (if (rdOf ByteArray.empty x0 x5).toList = (rdOf ByteArray.empty x1 x5).toList then (laws_vTexts.l0 k x0 x1 (wrap64 (x5 + 1))) else (some false)) else (none)) else (none)) else (some true)
def laws_vTexts.f (k : Nat) (l0 : List ByteArray) (l1 : List ByteArray) : Option (Bool) := if (l0.length : Int) = (l1.length : Int) then (laws_vTexts.l0 k l0 l1 0) else (some false)
set_option maxHeartbeats 8000000 in
set_option maxRecDepth 100000 in
theorem laws_vTexts.calls (k : Nat) (A0 : Option Addr) (c0 : Nat) (l0 : List ByteArray) (A1 : Option Addr) (c1 : Nat) (l1 : List ByteArray) (r : Bool) (w : World) (hr0 : Kd.C Kd.string w A0 l0.length l0) (hc0 : l0.length ≤ c0) (hr1 : Kd.C Kd.string w A1 l1.length l1) (hc1 : l1.length ≤ c1) (h : laws_vTexts.f k l0 l1 = some r) :
  Calls Tryd.prog 20 #[.slice A0 l0.length c0, .slice A1 l1.length c1] w fun e w' => e = .returned (.bool r) ∧ Drawn0 w w' := by
 (have HR0 := Aside0.mk hr0); (have HC0 := Aside0.mk hc0); clear hr0 hc0; (have HR1 := Aside0.mk hr1); (have HC1 := Aside0.mk hc1); clear hr1 hc1; (unfold laws_vTexts.f at h); (have H := h); clear h; (by_cases c3 : (l0.length : Int) = (l1.length : Int))
 ·rw [if_pos c3] at H
  (have c3b0 : ((l0.length : Int) == (l1.length : Int)) = true := beq_iff_eq.mpr c3); (have c3b1 : ((l0.length : Int) != (l1.length : Int)) = false := bne_eq_false_iff_eq.mpr c3); (have c3b2 : (l0.length == l1.length) = true := Q157); clear c3; (have H' := Aside0.mk H); clear H; (go_enter Tryd.func20, Tryd.ntmps20); (go_wp2); (repeat (go_quiet (fail); try go_wp2)); (go_loopg [5] k (fun kq v5 w' => ∃ (x5_1 : Int), v5 = .int .i64 x5_1 ∧ Aside0 (laws_vTexts.l0 kq l0 l1 x5_1 = some r) ∧ Aside0 (kq ≤ k) ∧ Drawn0 w w'))
  case atStart => exact Q94
  case round =>
   (clear H'); (try clear c1); (try clear c2); (try clear p2); (try clear c3); (try clear c3b0); (try clear c3b1); (try clear c3b2); (obtain ⟨x5_1, rfl, HA, HK1, ⟨m1, rfl⟩⟩ := hrel)
   cases gk with
   | zero => exact absurd HA.out (by simp [laws_vTexts.l0])
   | succ k1 =>
    (have H := HA.out); clear HA; (simp only [laws_vTexts.l0] at H); (by_cases c4 : x5_1 < (l0.length : Int))
    ·rw [if_pos c4] at H
     (have c4b0 := decide_eq_true c4); clear c4; (by_cases c5 : 0 ≤ x5_1)
     ·rw [if_pos c5] at H
      (have c5b0 := decide_eq_true c5); clear c5; (by_cases c6 : x5_1 < (l1.length : Int))
      ·rw [if_pos c6] at H
       (have c6b0 := decide_eq_true c6); clear c6; (by_cases c7 : (rdOf ByteArray.empty l0 x5_1).toList = (rdOf ByteArray.empty l1 x5_1).toList)
       ·rw [if_pos c7] at H
        (have c7b0 : ((rdOf ByteArray.empty l0 x5_1).toList == (rdOf ByteArray.empty l1 x5_1).toList) = true := beq_iff_eq.mpr c7); (have c7b1 : ((rdOf ByteArray.empty l0 x5_1).toList != (rdOf ByteArray.empty l1 x5_1).toList) = false := bne_eq_false_iff_eq.mpr c7); clear c7; (have H' := Aside0.mk H); clear H; (have p101 : 0 ≤ (x5_1 : Int) := odt); (have q101 : x5_1 < (l0.length : Int) := odt); (obtain ⟨ad101, e101, hx101_0⟩ := Kd.at_string HR0.out x5_1 p101 q101); (cases e101); (replace p101 := eq_true p101); (replace q101 := eq_true q101); (have p102 : 0 ≤ (x5_1 : Int) := odt); (have q102 : x5_1 < (l1.length : Int) := odt); (obtain ⟨ad102, e102, hx102_0⟩ := Kd.at_string HR1.out x5_1 p102 q102); (cases e102); (replace p102 := eq_true p102); (replace q102 := eq_true q102); (go_wp2); (repeat (go_quiet (fail); try go_wp2)); go_roundg k1
        case measure => have := HK1.out; omega
        case rel => exact Q137
       ·rw [if_neg c7] at H
        (have c7b0 : ((rdOf ByteArray.empty l0 x5_1).toList == (rdOf ByteArray.empty l1 x5_1).toList) = false := beq_eq_false_iff_ne.mpr c7); (have c7b1 : ((rdOf ByteArray.empty l0 x5_1).toList != (rdOf ByteArray.empty l1 x5_1).toList) = true := bne_iff_ne.mpr c7); (obtain rfl := Option.some.inj H); (have p101 : 0 ≤ (x5_1 : Int) := odt); (have q101 : x5_1 < (l0.length : Int) := odt); (obtain ⟨ad101, e101, hx101_0⟩ := Kd.at_string HR0.out x5_1 p101 q101); (cases e101); (replace p101 := eq_true p101); (replace q101 := eq_true q101); (have p102 : 0 ≤ (x5_1 : Int) := odt); (have q102 : x5_1 < (l1.length : Int) := odt); (obtain ⟨ad102, e102, hx102_0⟩ := Kd.at_string HR1.out x5_1 p102 q102); (cases e102); (replace p102 := eq_true p102); (replace q102 := eq_true q102); (go_wp2); (repeat (go_quiet (fail); try go_wp2)); go_ret; (exact Q95)
      ·rw [if_neg c6] at H
       exact Q1
     ·rw [if_neg c5] at H
      exact Q1
    ·rw [if_neg c4] at H
     (have c4b0 := decide_eq_false c4); clear c4; (obtain rfl := Option.some.inj H); (go_wp2); (repeat (go_quiet (fail); try go_wp2)); go_ret; (exact Q95)
 ·rw [if_neg c3] at H
  (have c3b0 : ((l0.length : Int) == (l1.length : Int)) = false := beq_eq_false_iff_ne.mpr c3); (have c3b1 : ((l0.length : Int) != (l1.length : Int)) = true := bne_iff_ne.mpr c3); (have c3b2 : (l0.length == l1.length) = false := Q157); (obtain rfl := Option.some.inj H); (go_enter Tryd.func20, Tryd.ntmps20); (go_wp2); (repeat (go_quiet (fail); try go_wp2)); go_ret; (exact Q95)
/-! ### laws_vHas: function 21 -/
def laws_vHas.l0 : Nat → List Int → Int → Int → Option (Bool)
 | 0, _, _, _ => none
 | k + 1, x0, x1, x5 => if x5 < (x0.length : Int) then (if 0 ≤ x5 then (if (rd x0 x5) = x1 then (some true) else (laws_vHas.l0 k x0 x1 (wrap64 (x5 + 1)))) else (none)) else (some false)
def laws_vHas.f (k : Nat) (l0 : List Int) (a1 : Int) : Option (Bool) := laws_vHas.l0 k l0 a1 0
set_option maxHeartbeats 8000000 in
set_option maxRecDepth 100000 in
theorem laws_vHas.calls (k : Nat) (A0 : Option Addr) (c0 : Nat) (l0 : List Int) (a1 : Int) (r : Bool) (w : World) (hr0 : Kd.C (Kd.int .i64) w A0 l0.length l0) (hc0 : l0.length ≤ c0) (h : laws_vHas.f k l0 a1 = some r) :
  Calls Tryd.prog 21 #[.slice A0 l0.length c0, .int .i64 a1] w fun e w' => e = .returned (.bool r) ∧ Drawn0 w w' := by
 (have HR0 := Aside0.mk hr0); (have HC0 := Aside0.mk hc0); clear hr0 hc0; (unfold laws_vHas.f at h); (have H := h); clear h; (have H' := Aside0.mk H); clear H; (go_enter Tryd.func21, Tryd.ntmps21); (go_wp2); (go_loopg [5] k (fun kq v5 w' => ∃ (x5_1 : Int), v5 = .int .i64 x5_1 ∧ Aside0 (laws_vHas.l0 kq l0 a1 x5_1 = some r) ∧ Aside0 (kq ≤ k) ∧ Drawn0 w w'))
 case atStart => exact Q94
 case round =>
  (clear H'); (try clear c2); (try clear p2); (obtain ⟨x5_1, rfl, HA, HK1, ⟨m1, rfl⟩⟩ := hrel)
  cases gk with
  | zero => exact absurd HA.out (by simp [laws_vHas.l0])
  | succ k1 =>
   (have H := HA.out); clear HA; (simp only [laws_vHas.l0] at H); (by_cases c3 : x5_1 < (l0.length : Int))
   ·rw [if_pos c3] at H
    (have c3b0 := decide_eq_true c3); clear c3; (by_cases c4 : 0 ≤ x5_1)
    ·rw [if_pos c4] at H
     (have c4b0 := decide_eq_true c4); clear c4; (by_cases c5 : (rd l0 x5_1) = a1)
     ·rw [if_pos c5] at H
      (have c5b0 : ((rd l0 x5_1) == a1) = true := beq_iff_eq.mpr c5); (have c5b1 : ((rd l0 x5_1) != a1) = false := bne_eq_false_iff_eq.mpr c5); clear c5; (obtain rfl := Option.some.inj H); (have p101 : 0 ≤ (x5_1 : Int) := odt); (have q101 : x5_1 < (l0.length : Int) := odt); (obtain ⟨ad101, e101, hx101_0⟩ := Kd.at_int HR0.out x5_1 p101 q101); (cases e101); (replace p101 := eq_true p101); (replace q101 := eq_true q101); (go_wp2); go_ret; (exact Q95)
     ·rw [if_neg c5] at H
      (have c5b0 : ((rd l0 x5_1) == a1) = false := beq_eq_false_iff_ne.mpr c5); (have c5b1 : ((rd l0 x5_1) != a1) = true := bne_iff_ne.mpr c5); (have H' := Aside0.mk H); clear H; (have p101 : 0 ≤ (x5_1 : Int) := odt); (have q101 : x5_1 < (l0.length : Int) := odt); (obtain ⟨ad101, e101, hx101_0⟩ := Kd.at_int HR0.out x5_1 p101 q101); (cases e101); (replace p101 := eq_true p101); (replace q101 := eq_true q101); (go_wp2); go_roundg k1
      case measure => have := HK1.out; omega
      case rel => exact Q137
    ·rw [if_neg c4] at H
     exact Q1
   ·rw [if_neg c3] at H
    (have c3b0 := decide_eq_false c3); clear c3; (obtain rfl := Option.some.inj H); (go_wp2); go_ret; (exact Q95)
end Go.Proofs.YtiaiohoadefgjaaDoor.X
set_option linter.unusedVariables false
namespace Go.Proofs.YtiaiohoadefgjaaDoor.X
open Go.RowKit Go.Proofs.YtiaiohoadefgjaaDoorW.PrintWords Go.Proofs.YtiaiohoadefgjaaDoorW.PrintLast Go.Proofs.YtiaiohoadefgjaaDoorW.PrintMore Go.Proofs.YtiaiohoadefgjaaDoor.E
set_option maxHeartbeats 1000000 in
set_option maxRecDepth 100000 in
theorem idxFunc71 (A_ : Option Addr) (c_ : Nat) (l0 : List (Int)) (g : Nat) (lb : Array Value) (p : Int → Bool) (w : World)
  (hr0 : Kd.C (Kd.int .i64) w A_ l0.length l0) (eg : ∀ args w, (callFunc g args).run Tryd.prog w = .ok (.enter g args) w)
  (hp : ∀ (W : World) (x : Int), x ∈ l0 → Below w.heap.size w W → Calls Tryd.prog g (#[.int .i64 x] ++ lb) W fun e w' => e = .returned (.bool (p x)) ∧ Below W.heap.size W w') :
  Calls Tryd.prog 71 #[.slice A_ l0.length c_, .func (.func g) #[] lb] w fun e w' => e = .returned (.int .i64 (idxG p 0 l0)) ∧ Below w.heap.size w w' := by
 have HL := Aside0.mk hr0.2.1
 have HR0 := Aside0.mk hr0
 have HP := Aside0.mk hp
 clear hr0 hp
 go_enter Tryd.func71, Tryd.ntmps71
 go_wp2
 go_loopg [5, 8] l0.length (fun gg _ s8 wr => ∃ x8 : Int, s8 = .int .i64 x8 ∧ Aside0 (0 ≤ x8) ∧ Aside0 (x8 ≤ (l0.length : Int)) ∧ Aside0 ((l0.length : Int) - x8 ≤ (gg : Int)) ∧ Aside0 (Below w.heap.size w wr) ∧ Aside0 (∀ (m : Nat) y, (m : Int) < x8 → l0[m]? = some y → p y = false))
 case atStart => exact ⟨0, rfl, ⟨by omega⟩, ⟨by omega⟩, ⟨by omega⟩, ⟨Below.refl _ _⟩, ⟨fun m y hm => by omega⟩⟩
 case round =>
  obtain ⟨x8, rfl, H0, H1, HG, HB, HN⟩ := hrel
  by_cases c : x8 < (l0.length : Int)
  ·have p1 := H0.out
   have q1 := c
   have cb : decide (x8 < (l0.length : Int)) = true := decide_eq_true c
   obtain ⟨ad, e, hx0⟩ := Kd.at_int (Kd.C_below HR0.out HB.out) x8 p1 q1
   cases e
   replace p1 := eq_true p1
   replace q1 := eq_true q1
   have hel : l0[x8.toNat]? = some (rd l0 x8) := by
    have := H0.out
    unfold rd
    rw [List.getD_eq_getElem?_getD, List.getElem?_eq_getElem (show x8.toNat < l0.length by omega), Option.getD_some]
   have hcall := HP.out wr (rd l0 x8) (List.mem_of_getElem? hel) HB.out
   have HE := Aside0.mk hel
   clear hel
   have hwr : wrap64 (x8 + 1) = x8 + 1 := wrap_id (by have := H0.out; omega) (by have := HL.out; omega)
   cases hq : p (rd l0 x8) with
   | true =>
    rw [hq] at hcall
    have HQ := Aside0.mk hq
    clear hq
    go_wp2_with (go_at_fn g; refine hcall.mono ?_; rintro e w' ⟨rfl, hb⟩)
    go_ret
    refine ⟨?_, ?_⟩
    ·rw [idxG_here HE.out HQ.out (fun m y hm => HN.out m y (by have := H0.out; omega))]
     have := H0.out
     rw [Int.toNat_of_nonneg (by omega)]
     rfl
    ·exact below_step HB.out hb
   | false =>
    rw [hq] at hcall
    have HQ := Aside0.mk hq
    clear hq
    go_wp2_with (go_at_fn g; refine hcall.mono ?_; rintro e w' ⟨rfl, hb⟩)
    go_roundg (l0.length - (x8.toNat + 1))
    case measure => have := HG.out; have := H0.out; omega
    case rel =>
     refine ⟨x8 + 1, by simp [*], ⟨by have := H0.out; omega⟩, ⟨by omega⟩, ⟨by have := H0.out; omega⟩, ⟨below_step HB.out hb⟩, ⟨fun m y hm hy => ?_⟩⟩
     by_cases e : (m : Int) = x8
     ·have : x8.toNat = m := by omega
      rw [← this, HE.out] at hy
      cases hy
      exact HQ.out
     ·exact HN.out m y (by omega) hy
  ·have cb : decide (x8 < (l0.length : Int)) = false := decide_eq_false c
   have e : x8 = (l0.length : Int) := by have := H1.out; omega
   have HE := Aside0.mk e
   clear e
   go_wp2
   go_ret
   refine ⟨?_, HB.out⟩
   rw [idxG_none (fun m y hm => HN.out m y (by rw [HE.out]; omega))]
   rfl
end Go.Proofs.YtiaiohoadefgjaaDoor.X
set_option linter.unusedVariables false
namespace Go.Proofs.YtiaiohoadefgjaaDoor.X
open Go.RowKit Go.Proofs.YtiaiohoadefgjaaDoorW.PrintWords Go.Proofs.YtiaiohoadefgjaaDoorW.PrintLast Go.Proofs.YtiaiohoadefgjaaDoorW.PrintMore Go.Proofs.YtiaiohoadefgjaaDoor.E
set_option maxHeartbeats 1000000 in
set_option maxRecDepth 100000 in
theorem containsFunc47 (A_ : Option Addr) (c_ : Nat) (l0 : List (Int)) (g : Nat) (lb : Array Value) (p : Int → Bool) (w : World)
  (hr0 : Kd.C (Kd.int .i64) w A_ l0.length l0) (eg : ∀ args w, (callFunc g args).run Tryd.prog w = .ok (.enter g args) w)
  (hp : ∀ (W : World) (x : Int), x ∈ l0 → Below w.heap.size w W → Calls Tryd.prog g (#[.int .i64 x] ++ lb) W fun e w' => e = .returned (.bool (p x)) ∧ Below W.heap.size W w') :
  Calls Tryd.prog 47 #[.slice A_ l0.length c_, .func (.func g) #[] lb] w fun e w' => e = .returned (.bool (l0.any p)) ∧ Below w.heap.size w w' := by
 have C := Aside0.mk (idxFunc71 A_ c_ l0 g lb p w hr0 eg hp)
 have hn := Aside0.mk (idxG_nonneg p l0 0)
 clear hr0 hp
 go_enter Tryd.func47, Tryd.ntmps47
 go_wp2_with (go_at_call 71; refine C.out.mono ?_; rintro e w' ⟨rfl, hb⟩)
 go_ret
 refine ⟨?_, hb⟩
 rw [← hn.out]
 rfl
end Go.Proofs.YtiaiohoadefgjaaDoor.X
set_option linter.unusedVariables false
set_option linter.unusedSimpArgs false
namespace Go.Proofs.YtiaiohoadefgjaaDoor.X
open Go.RowKit Go.Proofs.YtiaiohoadefgjaaDoorW.PrintWords Go.Proofs.YtiaiohoadefgjaaDoorW.PrintLast Go.Proofs.YtiaiohoadefgjaaDoorW.PrintMore
structure RngMk (w W w1 : World) (lo hi : Nat) : Prop where
 r : ∀ {α : Type} {d : Kd α} {e : Nat} {v : Value} {xs : List α}, d.R e w1 W.heap.size (fun _ => True) v xs → d.R e w1 w.heap.size (fun k_ => lo ≤ k_ ∧ k_ < hi) v xs
 s : ∀ {α : Type} {d : Kd α} {e : Nat} {v : Value} {xs : List α}, Kd.S d e w1 W.heap.size (fun _ => True) v xs → Kd.S d e w1 w.heap.size (fun k_ => lo ≤ k_ ∧ k_ < hi) v xs
theorem rcI {α : Type} {d : Kd α} {e : Nat} {W W' : World} {base n c : Nat} {ok : Nat → Prop} {A : Option Addr} {xs : List α} (h : Aside0 (d.R e W base ok (.slice A n c) xs)) [k : Lat W W'] : d.C W' A xs.length xs ∧ xs.length ≤ c := by
 obtain ⟨h1, h2, h3⟩ := Kd.R_reads' (Kd.R_below h.out k.out)
 subst h1
 exact ⟨h3, h2⟩
end Go.Proofs.YtiaiohoadefgjaaDoor.X
namespace Go.Proofs.YtiaiohoadefgjaaDoor.X
open Go.RowKit Go.Proofs.YtiaiohoadefgjaaDoorW.PrintWords Go.Proofs.YtiaiohoadefgjaaDoorW.PrintLast Go.Proofs.YtiaiohoadefgjaaDoorW.PrintMore Go.Proofs.YtiaiohoadefgjaaDoor.E
attribute [local go_sem] max2_int min2_int max_two min_two max_three min_three max_four min_four
set_option linter.unusedVariables false
set_option linter.unusedSimpArgs false
attribute [-simp] ByteArray.size_append ByteArray.size_extract
attribute [-go_sem] ByteArray.size_append'
/-! ### impl_IsComplete: function 22 -/
theorem isComplete1 (x : Int) (w : World) :
  Calls Tryd.prog 48 #[.int .i64 x] w fun e w' => e = .returned (.bool (x != 0)) ∧ Below w.heap.size w w' := by
 (go_enter Tryd.func48, Tryd.ntmps48); (go_wp2); go_ret; (exact ⟨rfl, Below.refl _ _⟩)
def impl_IsComplete.f (k : Nat) (l0 : List S54) (l1 : List S51) : Option (Bool × Bool) := (impl_IsValidAnswers.f k l0 l1).bind fun t => (if t = true then ((impl_states.f k l0 l1).bind fun q => (some (!(q.any (fun x => x != 0)), true))) else (some (false, false)))
set_option maxHeartbeats 1000000 in
set_option maxRecDepth 100000 in
theorem impl_IsComplete.calls (k : Nat) (A0 : Option Addr) (c0 : Nat) (l0 : List (S54)) (A1 : Option Addr) (c1 : Nat) (l1 : List (S51)) (r1 : Bool) (r2 : Bool) (w : World) (hr0 : Kd.C k54 w A0 l0.length l0) (hc0 : l0.length ≤ c0) (hr1 : Kd.C k51 w A1 l1.length l1) (hc1 : l1.length ≤ c1) (hG : GE w) (h : impl_IsComplete.f k l0 l1 = some (r1, r2)) :
  Calls Tryd.prog 22 #[.slice A0 l0.length c0, .slice A1 l1.length c1] w fun e w' => e = .returned (.tuple #[.bool r1, .bool r2]) ∧ Below w.heap.size w w' := by
 (have HR0 := Aside0.mk hr0); (have HC0 := Aside0.mk hc0); (have HR1 := Aside0.mk hr1); (have HC1 := Aside0.mk hc1); (have HG := Aside0.mk hG); clear hr0 hc0 hr1 hc1 hG; (have HB := Aside0.mk (Below.refl w.heap.size w)); (unfold impl_IsComplete.f at h); (have H := h); clear h; (replace H := obS H; obtain ⟨t101, A3, H⟩ := H); (by_cases c4 : t101 = true)
 ·subst c4
  (rw [if_pos rfl] at H); (replace H := obS H; obtain ⟨t102, A5, H⟩ := H); (simp only [Option.some.injEq, Prod.mk.injEq] at H); (obtain ⟨HQ, rfl⟩ := H); (have HH := Aside0.mk HQ); clear HQ; (go_enter Tryd.func22, Tryd.ntmps22); (go_wp2_with (first | ((with_reducible refine gate_callee (f := 24) rfl ?_); refine gL (some 8) Tryd.func24 #[.slice A0 l0.length c0, .slice A1 l1.length c1] ?_; (with_reducible refine (impl_IsValidAnswers.calls k _ _ l0 _ _ l1 true _ ?side1 ?side2 ?side3 ?side4 A3.out).mono ?_); (case side1 => exact cI HR0.out); (case side2 => exact HC0.out); (case side3 => exact cI HR1.out); (case side4 => exact HC1.out); rintro e w6 ⟨rfl, hb⟩; refine ⟨_, rfl, ?_⟩; have n0_ := Aside0.mk (sI hb HB); clear HB hb; have HB := n0_; clear n0_) | ((with_reducible refine gate_callee (f := 39) rfl ?_); refine gL (some 12) Tryd.func39 #[.slice A0 l0.length c0, .slice A1 l1.length c1] ?_; (with_reducible refine (impl_states.calls k _ _ l0 _ _ l1 t102 _ ?side1 ?side2 ?side3 ?side4 ?side5 A5.out).mono ?_); (case side1 => exact Q98); (case side2 => exact HC0.out); (case side3 => exact Q127); (case side4 => exact HC1.out); (case side5 => exact Q126); rintro e w7 ⟨v103, rfl, ho0, hb⟩; refine ⟨_, rfl, ?_⟩; obtain ⟨A7, c7, rfl⟩ := Kd.R_slice ho0; have n0_ := Aside0.mk ho0; have n1_ := Aside0.mk (sI hb HB); clear HB hb ho0; have HO := n0_; have HB := n1_; clear n0_ n1_) | (go_at_call 47; refine (containsFunc47 A7 c7 t102 48 #[] (fun x => x != 0) _ (rcI HO).1 (enters_of Tryd.func48 (by kernel_rfl) rfl) (fun W x _ _ => isComplete1 x W)).mono ?_; rintro e w8 ⟨rfl, hb⟩; have n1_ := Aside0.mk (sI hb HB); clear HB hb; have HB := n1_; clear n1_))); (go_ret2); (refine ⟨?_, eI HB⟩); (rw [← HH.out]); rfl
 ·replace c4 := Bool.eq_false_iff.mpr c4
  subst c4; (rw [if_neg (show ¬ (false = true) by decide)] at H); (simp only [Option.some.injEq, Prod.mk.injEq] at H); (obtain ⟨rfl, rfl⟩ := H); (go_enter Tryd.func22, Tryd.ntmps22); (go_wp2_with ((with_reducible refine gate_callee (f := 24) rfl ?_); refine gL (some 8) Tryd.func24 #[.slice A0 l0.length c0, .slice A1 l1.length c1] ?_; (with_reducible refine (impl_IsValidAnswers.calls k _ _ l0 _ _ l1 false _ ?side1 ?side2 ?side3 ?side4 A3.out).mono ?_); (case side1 => exact cI HR0.out); (case side2 => exact HC0.out); (case side3 => exact cI HR1.out); (case side4 => exact HC1.out); rintro e w8 ⟨rfl, hb⟩; refine ⟨_, rfl, ?_⟩; have n0_ := Aside0.mk (sI hb HB); clear HB; have HB := n0_; clear n0_)); (go_ret2); (exact Q100)
end Go.Proofs.YtiaiohoadefgjaaDoor.X
namespace Go.Proofs.YtiaiohoadefgjaaDoor.X
open Go.RowKit Go.Proofs.YtiaiohoadefgjaaDoorW.PrintWords Go.Proofs.YtiaiohoadefgjaaDoorW.PrintLast Go.Proofs.YtiaiohoadefgjaaDoorW.PrintMore
attribute [local go_sem] max2_int min2_int max_two min_two max_three min_three max_four min_four
set_option linter.unusedVariables false
set_option linter.unusedSimpArgs false
attribute [-simp] ByteArray.size_append ByteArray.size_extract
attribute [-go_sem] ByteArray.size_append'
/-! ### impl_SetAnswer: function 23 -/
mutual
def impl_SetAnswer.j0 : Nat → List (S54) → List (S51) → ByteArray → ByteArray → Bool → Option ((List (S51)) × Bool)
 | 0, _, _, _, _, _ => none
 | k + 1, x0, x1, x2, x3, x29 => if x29 = true then (some (([] : List (S51)), false)) else (impl_SetAnswer.l0 k x1 x2 x3 (([] : List (S51))) x0 (x0.length : Int) 0)
def impl_SetAnswer.l0 : Nat → List (S51) → ByteArray → ByteArray → List (S51) → List (S54) → Int → Int → Option ((List (S51)) × Bool)
 | 0, _, _, _, _, _, _, _ => none
 | k + 1, x1, x2, x3, x10, x31, x32, x33 => if x33 < x32 then (if 0 ≤ x33 then (if x33 < (x31.length : Int) then ((impl_answerOf.f x1 ((rd_T54 x31 x33).f0)).bind fun bt109 => (if ((rd_T54 x31 x33).f0).toList = x2.toList then (if x10.length < 4398046511104 then (impl_SetAnswer.l0 k x1 x2 x3 (x10 ++ [(⟨(rd_T54 x31 x33).f0, x3⟩ : S51)]) x31 x32 (wrap64 (x33 + 1))) else (none)) else (if bt109.2 = true then (if x10.length < 4398046511104 then (impl_SetAnswer.l0 k x1 x2 x3 (x10 ++ [(⟨(rd_T54 x31 x33).f0, bt109.1⟩ : S51)]) x31 x32 (wrap64 (x33 + 1))) else (none)) else (impl_SetAnswer.l0 k x1 x2 x3 x10 x31 x32 (wrap64 (x33 + 1)))))) else (none)) else (none)) else (some (x10, true))
end
def impl_SetAnswer.f (k : Nat) (l0 : List (S54)) (l1 : List (S51)) (a2 : ByteArray) (a3 : ByteArray) : Option ((List (S51)) × Bool) := (impl_IsValidAnswers.f k l0 l1).bind fun t101 => (if t101 = true then ((impl_fieldOf.f l0 a2).bind fun t102 => (if t102 < 0 then (impl_SetAnswer.j0 k l0 l1 a2 a3 true) else ((impl_isText.f k a3).bind fun t103 => (impl_SetAnswer.j0 k l0 l1 a2 a3 (!t103))))) else (impl_SetAnswer.j0 k l0 l1 a2 a3 true))
set_option maxHeartbeats 8000000 in
set_option maxRecDepth 100000 in
theorem impl_SetAnswer.calls (k : Nat) (A0 : Option Addr) (c0 : Nat) (l0 : List (S54)) (A1 : Option Addr) (c1 : Nat) (l1 : List (S51)) (a2 : ByteArray) (a3 : ByteArray) (r1 : List (S51)) (r2 : Bool) (w : World) (hr0 : Kd.C k54 w A0 l0.length l0) (hc0 : l0.length ≤ c0) (hr1 : Kd.C k51 w A1 l1.length l1) (hc1 : l1.length ≤ c1) (h : impl_SetAnswer.f k l0 l1 a2 a3 = some (r1, r2)) :
  Calls Tryd.prog 23 #[.slice A0 l0.length c0, .slice A1 l1.length c1, .string a2, .string a3] w fun e w' => ∃ v0_ : Value, e = .returned (.tuple #[v0_, .bool r2]) ∧ Kd.R k51 51 w' w.heap.size (fun _ => True) v0_ r1 ∧ Below w.heap.size w w' := by
 (have hu54 := Tryd.underlying54); (have hu51 := Tryd.underlying51); (have HR0 := Aside0.mk hr0); (have HC0 := Aside0.mk hc0); clear hr0 hc0; (have HR1 := Aside0.mk hr1); (have HC1 := Aside0.mk hc1); clear hr1 hc1; (have HB := Aside0.mk (Below.refl w.heap.size w)); (unfold impl_SetAnswer.f at h); (have H := h); clear h; (have HC5 := Aside0.mk H); clear H; (go_enter Tryd.func23, Tryd.ntmps23); (go_upto_region 1 with (fail)); (go_cut [29] (fun v29 wc => ∃ (kq : Nat) (x29_4 : Bool), v29 = .bool x29_4 ∧ Aside0 (impl_SetAnswer.j0 kq l0 l1 a2 a3 x29_4 = some (r1, r2)) ∧ Aside0 (kq ≤ k) ∧ Aside0 (Below w.heap.size w wc)))
 case first =>
  (have H := HC5.out); clear HC5; (replace H := obS H); (obtain ⟨t101, A6, H⟩ := H); (by_cases c7 : t101 = true)
  ·subst c7
   (rw [if_pos rfl] at H); (replace H := obS H); (obtain ⟨t102, A8, H⟩ := H); (by_cases c9 : t102 < 0)
   ·rw [if_pos c9] at H
    (have c9b0 := decide_eq_true c9); clear c9; ((first | rw [c9b0] | (simp only [i64_w, i32_w]; rw [c9b0]) | skip)); (have H' := Aside0.mk H); clear H; (go_wp2_with (first | ((with_reducible refine gate_callee (f := 24) rfl ?_); refine gL (some 17) Tryd.func24 #[.slice A0 l0.length c0, .slice A1 l1.length c1] ?_; (with_reducible refine (impl_IsValidAnswers.calls k _ _ l0 _ _ l1 true _ ?side1 ?side2 ?side3 ?side4 A6.out).mono ?_); (case side1 => exact Q98); (case side2 => exact HC0.out); (case side3 => exact Q127); (case side4 => exact HC1.out); rintro e w10 ⟨rfl, hb⟩; refine ⟨_, rfl, ?_⟩; have n0_ := Aside0.mk (sI hb HB); clear HB; have HB := n0_; clear n0_; (try clear hb); (try clear hb2); (try clear hk); (try clear hi)) | (go_at_call 46; (with_reducible refine (impl_fieldOf.calls _ _ l0 a2 t102 _ ?side1 ?side2 A8.out).mono ?_); (case side1 => exact Q98); (case side2 => exact HC0.out); rintro e w11 ⟨rfl, hb⟩; have n0_ := Aside0.mk (sI hb HB); clear HB; have HB := n0_; clear n0_; (try clear hb); (try clear hb2); (try clear hk); (try clear hi)))); (go_meet)
    case rel => exact Q149
   ·rw [if_neg c9] at H
    (have c9b0 := decide_eq_false c9); clear c9; ((first | rw [c9b0] | (simp only [i64_w, i32_w]; rw [c9b0]) | skip)); (replace H := obS H); (obtain ⟨t103, A12, H⟩ := H); (have H' := Aside0.mk H); clear H; (go_wp2_with (first | ((with_reducible refine gate_callee (f := 24) rfl ?_); refine gL (some 17) Tryd.func24 #[.slice A0 l0.length c0, .slice A1 l1.length c1] ?_; (with_reducible refine (impl_IsValidAnswers.calls k _ _ l0 _ _ l1 true _ ?side1 ?side2 ?side3 ?side4 A6.out).mono ?_); (case side1 => exact Q98); (case side2 => exact HC0.out); (case side3 => exact Q127); (case side4 => exact HC1.out); rintro e w13 ⟨rfl, hb⟩; refine ⟨_, rfl, ?_⟩; have n0_ := Aside0.mk (sI hb HB); clear HB; have HB := n0_; clear n0_; (try clear hb); (try clear hb2); (try clear hk); (try clear hi)) | (go_at_call 46; (with_reducible refine (impl_fieldOf.calls _ _ l0 a2 t102 _ ?side1 ?side2 A8.out).mono ?_); (case side1 => exact Q98); (case side2 => exact HC0.out); rintro e w14 ⟨rfl, hb⟩; have n0_ := Aside0.mk (sI hb HB); clear HB; have HB := n0_; clear n0_; (try clear hb); (try clear hb2); (try clear hk); (try clear hi)) | (go_at_call 49; (with_reducible refine (impl_isText.calls k a3 t103 _ A12.out).mono ?_); rintro e w' ⟨rfl, ⟨nd, rfl⟩⟩))); (go_meet)
    case rel => exact ⟨_, (!t103), Q32, H', ⟨Q99⟩, ⟨eI HB⟩⟩
  ·replace c7 := Bool.eq_false_iff.mpr c7
   subst c7; (rw [if_neg (show ¬ (false = true) by decide)] at H); (have H' := Aside0.mk H); clear H; (go_wp2_with (first | ((with_reducible refine gate_callee (f := 24) rfl ?_); refine gL (some 17) Tryd.func24 #[.slice A0 l0.length c0, .slice A1 l1.length c1] ?_; (with_reducible refine (impl_IsValidAnswers.calls k _ _ l0 _ _ l1 false _ ?side1 ?side2 ?side3 ?side4 A6.out).mono ?_); (case side1 => exact Q98); (case side2 => exact HC0.out); (case side3 => exact Q127); (case side4 => exact HC1.out); rintro e w15 ⟨rfl, hb⟩; refine ⟨_, rfl, ?_⟩; have n0_ := Aside0.mk (sI hb HB); clear HB; have HB := n0_; clear n0_; (try clear hb); (try clear hb2); (try clear hk); (try clear hi)))); (go_meet)
   case rel => exact Q149
 case rest =>
  clear HC5; (try clear c1); (try clear c2); (try clear p2); (try clear c7); (try clear c9); (try clear c9b0); (obtain ⟨kq, x29_4, rfl, HA, HJ4, HB⟩ := hcut)
  cases kq with
  | zero => exact absurd HA.out (by simp [impl_SetAnswer.j0])
  | succ kj4 =>
   (have H := HA.out); clear HA; (simp only [impl_SetAnswer.j0] at H); (by_cases c16 : x29_4 = true); (· subst c16; (rw [if_pos rfl] at H); (simp only [Option.some.injEq, Prod.mk.injEq] at H); (obtain ⟨rfl, rfl⟩ := H); (go_wp2); (go_ret2); (exact Q136))
   ·replace c16 := Bool.eq_false_iff.mpr c16
    subst c16; (rw [if_neg (show ¬ (false = true) by decide)] at H); (obtain ⟨y104, hy104⟩ : ∃ y_ : List (S51), y_ = (([] : List (S51))) := ⟨_, rfl⟩); (replace H : (impl_SetAnswer.l0 kj4 l1 a2 a3 y104 l0 (l0.length : Int) 0) = some (r1, r2) := Q26); (have Ny104 := Aside0.mk hy104); clear hy104; (have H' := Aside0.mk H); clear H; (go_wp2_with (first | ((with_reducible refine gate_dst (N := 30) rfl ?_); refine Kd.R_lit k51 _ 51 ?hg (N := 30) ?hd (xs := ([] : List (S51))) (inner := []) (ok := fun _ => True) (okp := fun _ => True) ?hr ?hp (fun _ hk => hk) trivial (Below.refl _ _) (Nat.le_refl _) (by simp) ?_; (case hd => rfl); (case hg => rfl); (case hr => first | (go_simp; done) | (go_simp; rfl)); (case hp => exact Q28); intro v105 w17 ho18 hb hg_ hnew_; clear hg_ hnew_; (first | rw [← Ny104.out] at ho18 | (simp only [Int.reduceToNat] at ho18; rw [← Ny104.out] at ho18)); have hB_ := zI hb HB; have n0_ := Aside0.mk (Kd.R_lower ho18 (below_size hB_)); have n1_ := Aside0.mk (below_step hB_ hb); clear HB; have HO106 := n0_; have HB := n1_; clear n0_ n1_ hB_ hb ho18))); (go_loopg [10, 33] kj4 (fun kq v10 v33 w' => ∃ (x10_2 : List (S51)) (x33_2 : Int), v33 = .int .i64 x33_2 ∧ Aside0 (impl_SetAnswer.l0 kq l1 a2 a3 x10_2 l0 (l0.length : Int) x33_2 = some (r1, r2)) ∧ Aside0 (kq ≤ kj4) ∧ Aside0 (Kd.R k51 51 w' w.heap.size (fun _ => True) v10 x10_2) ∧ Aside0 (Below w.heap.size w w')))
    case atStart => exact ⟨(y104), (0), Q32, H', ⟨Nat.le_refl _⟩, ⟨rI HO106⟩, ⟨eI HB⟩⟩
    case round =>
     (clear H'); (try clear c1); (try clear c2); (try clear p2); (try clear c7); (try clear c9); (try clear c9b0); (try clear c16); (try clear p2); (obtain ⟨x10_2, x33_2, rfl, HA, HK2, HO_10, HB⟩ := hrel)
     cases gk with
     | zero => exact absurd HA.out (by simp [impl_SetAnswer.l0])
     | succ k2 =>
      (have H := HA.out); clear HA; (simp only [impl_SetAnswer.l0] at H); (by_cases c19 : x33_2 < (l0.length : Int))
      ·rw [if_pos c19] at H
       (have c19b0 := decide_eq_true c19); clear c19; (by_cases c20 : 0 ≤ x33_2)
       ·rw [if_pos c20] at H
        (have c20b0 := decide_eq_true c20); clear c20; (by_cases c21 : x33_2 < (l0.length : Int))
        ·rw [if_pos c21] at H
         (have c21b0 := decide_eq_true c21); clear c21; (replace H := obS H); (obtain ⟨⟨t109, t110⟩, A22, H⟩ := H); (replace H : (if ((rd_T54 l0 x33_2).f0).toList = a2.toList then (if x10_2.length < 4398046511104 then (impl_SetAnswer.l0 k2 l1 a2 a3 (x10_2 ++ [(⟨(rd_T54 l0 x33_2).f0, a3⟩ : S51)]) l0 (l0.length : Int) (wrap64 (x33_2 + 1))) else (none)) else (if t110 = true then (if x10_2.length < 4398046511104 then (impl_SetAnswer.l0 k2 l1 a2 a3 (x10_2 ++ [(⟨(rd_T54 l0 x33_2).f0, t109⟩ : S51)]) l0 (l0.length : Int) (wrap64 (x33_2 + 1))) else (none)) else (impl_SetAnswer.l0 k2 l1 a2 a3 x10_2 l0 (l0.length : Int) (wrap64 (x33_2 + 1))))) = some (r1, r2) := H); (by_cases c23 : ((rd_T54 l0 x33_2).f0).toList = a2.toList)
         ·rw [if_pos c23] at H
          (have c23b0 : (((rd_T54 l0 x33_2).f0).toList == a2.toList) = true := beq_iff_eq.mpr c23); (have c23b1 : (((rd_T54 l0 x33_2).f0).toList != a2.toList) = false := bne_eq_false_iff_eq.mpr c23); clear c23; (by_cases c24 : x10_2.length < 4398046511104)
          ·rw [if_pos c24] at H
           (have LMc24 := Aside0.mk c24); clear c24; (obtain ⟨y111, hy111⟩ : ∃ y_ : List (S51), y_ = (x10_2 ++ [(⟨(rd_T54 l0 x33_2).f0, a3⟩ : S51)]) := ⟨_, rfl⟩); (replace H : (impl_SetAnswer.l0 k2 l1 a2 a3 y111 l0 (l0.length : Int) (wrap64 (x33_2 + 1))) = some (r1, r2) := Q120); (have Ny111 := Aside0.mk hy111); clear hy111; (have H' := Aside0.mk H); clear H; (have p107 : 0 ≤ (x33_2 : Int) := of_decide_eq_true Q33); (have q107 : x33_2 < (l0.length : Int) := of_decide_eq_true Q33); (obtain ⟨ad107, A107_4, c107_4, e107, hx107_0, hx107_1, hx107_2, hx107_3, hx107_4, hx107_5, hx107_6, hl107_4, hi107_4⟩ := at_T54 HR0.out x33_2 p107 q107); (cases e107); (replace hx107_0 := (HB.out.cell (bltc w _ hx107_0)).trans hx107_0); (replace hx107_1 := (HB.out.cell (bltc w _ hx107_1)).trans hx107_1); (replace hx107_2 := (HB.out.cell (bltc w _ hx107_2)).trans hx107_2); (replace hx107_3 := (HB.out.cell (bltc w _ hx107_3)).trans hx107_3); (replace hx107_4 := (HB.out.cell (bltc w _ hx107_4)).trans hx107_4); (replace hx107_5 := (HB.out.cell (bltc w _ hx107_5)).trans hx107_5); (replace hx107_6 := (HB.out.cell (bltc w _ hx107_6)).trans hx107_6); (have HR107_4 := Aside0.mk hi107_4); (have HC107_4 := Aside0.mk hl107_4); clear hi107_4 hl107_4; (replace p107 := eq_true p107); (replace q107 := eq_true q107)
           go_wp2_with (first | ((with_reducible refine gate_dst (N := 12) rfl ?_); refine box_event ?hg (N := 12) ?hd (cs := #[.string (⟨#[]⟩ : ByteArray), .int .i64 0, .int .i64 0, .int .i64 0, .slice none 0 0, .bool false, .string (⟨#[]⟩ : ByteArray)]) (t := 54) ?hr ?_; (case hd => rfl); (case hg => rfl); (case hr => first | (go_simp; done) | (go_simp; rfl)); intro gb108 hg w25 hbox hb; have n0_ := Aside0.mk (Kd.R_below Q162 hb); have hB_ := bz Q87 hb; have n1_ := Aside0.mk (below_step hB_ hb); have n2_ := Aside0.mk (hbox); have n3_ := Aside0.mk ((Q88 : w.heap.size ≤ gb108)); have n4_ := n3_; clear HO_10 HB; have HO_10 := n0_; have HB := n1_; have BK108 := n2_; have GW108 := n3_; have GE108 := n4_; clear n0_ n1_ n2_ n3_ n4_ hB_ hb hbox hg; have hcz26_0 := cz BK108.out 0; have hcz26_1 := cz BK108.out 1; have hcz26_2 := cz BK108.out 2; have hcz26_3 := cz BK108.out 3; have hcz26_4 := cz BK108.out 4; have hcz26_5 := cz BK108.out 5; have hcz26_6 := cz BK108.out 6; have hfz26_0 := blk_frozen BK108.out 0; have hfz26_1 := blk_frozen BK108.out 1; have hfz26_2 := blk_frozen BK108.out 2; have hfz26_3 := blk_frozen BK108.out 3; have hfz26_4 := blk_frozen BK108.out 4; have hfz26_5 := blk_frozen BK108.out 5; have hfz26_6 := blk_frozen BK108.out 6) | ((with_reducible refine gate_callee (f := 50) rfl ?_); refine gL (some 41) Tryd.func50 #[.slice A1 l1.length c1, .string ((rd_T54 l0 x33_2).f0)] ?_; (with_reducible refine (impl_answerOf.calls _ _ l1 ((rd_T54 l0 x33_2).f0) t109 t110 _ ?side1 ?side2 A22.out).mono ?_); (case side1 => exact Q163); (case side2 => exact HC1.out); rintro e w27 ⟨rfl, hb⟩; refine ⟨_, rfl, ?_⟩; have n0_ := Aside0.mk (Kd.R_below Q164 hb); have n1_ := Aside0.mk (blk_below (g := gb108) (o := .cells #[.string ((rd_T54 l0 x33_2).f0), .int .i64 ((rd_T54 l0 x33_2).f1), .int .i64 ((rd_T54 l0 x33_2).f2), .int .i64 ((rd_T54 l0 x33_2).f3), .slice A107_4 ((rd_T54 l0 x33_2).f4).length c107_4, .bool ((rd_T54 l0 x33_2).f5), .string ((rd_T54 l0 x33_2).f6)] 54 (0, 0)) Q165 hb); have n2_ := Aside0.mk (below_step Q166 hb); clear HO_10 BK108 HB; have HO_10 := n0_; have BK108 := n1_; have HB := n2_; clear n0_ n1_ n2_; (try clear hb); (try clear hb2); (try clear hk); (try clear hi); have hcz28_0 := cz BK108.out 0; have hcz28_1 := cz BK108.out 1; have hcz28_2 := cz BK108.out 2; have hcz28_3 := cz BK108.out 3; have hcz28_4 := cz BK108.out 4; have hcz28_5 := cz BK108.out 5; have hcz28_6 := cz BK108.out 6; have hfz28_0 := blk_frozen BK108.out 0; have hfz28_1 := blk_frozen BK108.out 1; have hfz28_2 := blk_frozen BK108.out 2; have hfz28_3 := blk_frozen BK108.out 3; have hfz28_4 := blk_frozen BK108.out 4; have hfz28_5 := blk_frozen BK108.out 5; have hfz28_6 := blk_frozen BK108.out 6) | ((with_reducible refine gate_builtin (b := .append) (xs := #[.tmp 50, .tmp 55]) rfl ?_); at_builtin; refine Kd.R_append k51 (w0 := w) w.heap.size rfl (.tmp 50) (.tmp 55) 33 51 (.agg #[(.string ⟨#[]⟩), (.string ⟨#[]⟩)]) 32 rfl Tryd.underlying33 info51 rfl (by decide) (by omega) u10 x10_2 (⟨(rd_T54 l0 x33_2).f0, a3⟩ : S51) [.string ((rd_T54 l0 x33_2).f0), .string a3] (fun _ => True) (fun _ => False) rfl rfl ?aP (fun _ hk => hk.elim) ?aF ?aO ?aB ?aS ?aL ?_; (case aP => exact k51_mkM _ _ _ (⟨(rd_T54 l0 x33_2).f0, a3⟩ : S51)); (case aB => exact (eI HB)); (case aF => exact Q75); (case aO => exact Q167); (case aS => exact Q129); (case aL => have := LMc24.out; omega); intro v112 w29 ho hb hg hat; rw [← Ny111.out] at ho; have n0_ := Aside0.mk (blk_grown (kI BK108) hg (Kd.R_ne HO_10.out BK108.out (by decide))); have n1_ := Aside0.mk (hb); have n2_ := Aside0.mk (ho); clear BK108 HB HO_10; have BK108 := n0_; have HB := n1_; have HO113 := n2_; clear n0_ n1_ n2_ ho hb hg hat))
           go_roundg k2
           case measure => have := HJ4.out; have := HK2.out; omega
           case rel => exact ⟨(y111), (wrap64 (x33_2 + 1)), Q32, H', ⟨Q168⟩, ⟨Q169⟩, ⟨eI HB⟩⟩
          ·rw [if_neg c24] at H
           exact Q1
         ·rw [if_neg c23] at H
          (have c23b0 : (((rd_T54 l0 x33_2).f0).toList == a2.toList) = false := beq_eq_false_iff_ne.mpr c23); (have c23b1 : (((rd_T54 l0 x33_2).f0).toList != a2.toList) = true := bne_iff_ne.mpr c23); (by_cases c30 : t110 = true)
          ·subst c30
           (rw [if_pos rfl] at H); (by_cases c31 : x10_2.length < 4398046511104)
           ·rw [if_pos c31] at H
            (have LMc31 := Aside0.mk c31); clear c31; (obtain ⟨y114, hy114⟩ : ∃ y_ : List (S51), y_ = (x10_2 ++ [(⟨(rd_T54 l0 x33_2).f0, t109⟩ : S51)]) := ⟨_, rfl⟩); (replace H : (impl_SetAnswer.l0 k2 l1 a2 a3 y114 l0 (l0.length : Int) (wrap64 (x33_2 + 1))) = some (r1, r2) := Q152); (have Ny114 := Aside0.mk hy114); clear hy114; (have H' := Aside0.mk H); clear H; (have p107 : 0 ≤ (x33_2 : Int) := of_decide_eq_true Q33); (have q107 : x33_2 < (l0.length : Int) := of_decide_eq_true Q33); (obtain ⟨ad107, A107_4, c107_4, e107, hx107_0, hx107_1, hx107_2, hx107_3, hx107_4, hx107_5, hx107_6, hl107_4, hi107_4⟩ := at_T54 HR0.out x33_2 p107 q107); (cases e107); (replace hx107_0 := (HB.out.cell (bltc w _ hx107_0)).trans hx107_0); (replace hx107_1 := (HB.out.cell (bltc w _ hx107_1)).trans hx107_1); (replace hx107_2 := (HB.out.cell (bltc w _ hx107_2)).trans hx107_2); (replace hx107_3 := (HB.out.cell (bltc w _ hx107_3)).trans hx107_3); (replace hx107_4 := (HB.out.cell (bltc w _ hx107_4)).trans hx107_4); (replace hx107_5 := (HB.out.cell (bltc w _ hx107_5)).trans hx107_5); (replace hx107_6 := (HB.out.cell (bltc w _ hx107_6)).trans hx107_6); (have HR107_4 := Aside0.mk hi107_4); (have HC107_4 := Aside0.mk hl107_4); clear hi107_4 hl107_4; (replace p107 := eq_true p107); (replace q107 := eq_true q107)
            go_wp2_with (first | ((with_reducible refine gate_dst (N := 12) rfl ?_); refine box_event ?hg (N := 12) ?hd (cs := #[.string (⟨#[]⟩ : ByteArray), .int .i64 0, .int .i64 0, .int .i64 0, .slice none 0 0, .bool false, .string (⟨#[]⟩ : ByteArray)]) (t := 54) ?hr ?_; (case hd => rfl); (case hg => rfl); (case hr => first | (go_simp; done) | (go_simp; rfl)); intro gb108 hg w32 hbox hb; have n0_ := Aside0.mk (Kd.R_below Q162 hb); have hB_ := bz Q87 hb; have n1_ := Aside0.mk (below_step hB_ hb); have n2_ := Aside0.mk (hbox); have n3_ := Aside0.mk ((Q88 : w.heap.size ≤ gb108)); have n4_ := n3_; clear HO_10 HB; have HO_10 := n0_; have HB := n1_; have BK108 := n2_; have GW108 := n3_; have GE108 := n4_; clear n0_ n1_ n2_ n3_ n4_ hB_ hb hbox hg; have hcz33_0 := cz BK108.out 0; have hcz33_1 := cz BK108.out 1; have hcz33_2 := cz BK108.out 2; have hcz33_3 := cz BK108.out 3; have hcz33_4 := cz BK108.out 4; have hcz33_5 := cz BK108.out 5; have hcz33_6 := cz BK108.out 6; have hfz33_0 := blk_frozen BK108.out 0; have hfz33_1 := blk_frozen BK108.out 1; have hfz33_2 := blk_frozen BK108.out 2; have hfz33_3 := blk_frozen BK108.out 3; have hfz33_4 := blk_frozen BK108.out 4; have hfz33_5 := blk_frozen BK108.out 5; have hfz33_6 := blk_frozen BK108.out 6) | ((with_reducible refine gate_callee (f := 50) rfl ?_); refine gL (some 41) Tryd.func50 #[.slice A1 l1.length c1, .string ((rd_T54 l0 x33_2).f0)] ?_; (with_reducible refine (impl_answerOf.calls _ _ l1 ((rd_T54 l0 x33_2).f0) t109 true _ ?side1 ?side2 A22.out).mono ?_); (case side1 => exact Q163); (case side2 => exact HC1.out); rintro e w34 ⟨rfl, hb⟩; refine ⟨_, rfl, ?_⟩; have n0_ := Aside0.mk (Kd.R_below Q164 hb); have n1_ := Aside0.mk (blk_below (g := gb108) (o := .cells #[.string ((rd_T54 l0 x33_2).f0), .int .i64 ((rd_T54 l0 x33_2).f1), .int .i64 ((rd_T54 l0 x33_2).f2), .int .i64 ((rd_T54 l0 x33_2).f3), .slice A107_4 ((rd_T54 l0 x33_2).f4).length c107_4, .bool ((rd_T54 l0 x33_2).f5), .string ((rd_T54 l0 x33_2).f6)] 54 (0, 0)) Q165 hb); have n2_ := Aside0.mk (below_step Q166 hb); clear HO_10 BK108 HB; have HO_10 := n0_; have BK108 := n1_; have HB := n2_; clear n0_ n1_ n2_; (try clear hb); (try clear hb2); (try clear hk); (try clear hi); have hcz35_0 := cz BK108.out 0; have hcz35_1 := cz BK108.out 1; have hcz35_2 := cz BK108.out 2; have hcz35_3 := cz BK108.out 3; have hcz35_4 := cz BK108.out 4; have hcz35_5 := cz BK108.out 5; have hcz35_6 := cz BK108.out 6; have hfz35_0 := blk_frozen BK108.out 0; have hfz35_1 := blk_frozen BK108.out 1; have hfz35_2 := blk_frozen BK108.out 2; have hfz35_3 := blk_frozen BK108.out 3; have hfz35_4 := blk_frozen BK108.out 4; have hfz35_5 := blk_frozen BK108.out 5; have hfz35_6 := blk_frozen BK108.out 6) | ((with_reducible refine gate_builtin (b := .append) (xs := #[.tmp 50, .tmp 55]) rfl ?_); at_builtin; refine Kd.R_append k51 (w0 := w) w.heap.size rfl (.tmp 50) (.tmp 55) 33 51 (.agg #[(.string ⟨#[]⟩), (.string ⟨#[]⟩)]) 32 rfl Tryd.underlying33 info51 rfl (by decide) (by omega) u10 x10_2 (⟨(rd_T54 l0 x33_2).f0, t109⟩ : S51) [.string ((rd_T54 l0 x33_2).f0), .string t109] (fun _ => True) (fun _ => False) rfl rfl ?aP (fun _ hk => hk.elim) ?aF ?aO ?aB ?aS ?aL ?_; (case aP => exact k51_mkM _ _ _ (⟨(rd_T54 l0 x33_2).f0, t109⟩ : S51)); (case aB => exact Q166); (case aF => exact Q75); (case aO => exact Q167); (case aS => exact Q129); (case aL => have := LMc31.out; omega); intro v115 w36 ho hb hg hat; rw [← Ny114.out] at ho; have n0_ := Aside0.mk (blk_grown (by (with_reducible repeat (first | refine kN ?_ _ | refine kD ?_ | refine kA ?_ _)); exact BK108.out) hg (Kd.R_ne HO_10.out BK108.out (by decide))); have n1_ := Aside0.mk (hb); have n2_ := Aside0.mk (ho); clear BK108 HB HO_10; have BK108 := n0_; have HB := n1_; have HO116 := n2_; clear n0_ n1_ n2_ ho hb hg hat))
            go_roundg k2
            case measure => have := HJ4.out; have := HK2.out; omega
            case rel => exact ⟨(y114), (wrap64 (x33_2 + 1)), Q32, H', ⟨Q168⟩, ⟨rI HO116⟩, ⟨eI HB⟩⟩
           ·rw [if_neg c31] at H
            exact Q1
          ·replace c30 := Bool.eq_false_iff.mpr c30
           subst c30; (rw [if_neg (show ¬ (false = true) by decide)] at H); (have H' := Aside0.mk H); clear H; (have p107 : 0 ≤ (x33_2 : Int) := of_decide_eq_true Q33); (have q107 : x33_2 < (l0.length : Int) := of_decide_eq_true Q33); (obtain ⟨ad107, A107_4, c107_4, e107, hx107_0, hx107_1, hx107_2, hx107_3, hx107_4, hx107_5, hx107_6, hl107_4, hi107_4⟩ := at_T54 HR0.out x33_2 p107 q107); (cases e107); (replace hx107_0 := (HB.out.cell (bltc w _ hx107_0)).trans hx107_0); (replace hx107_1 := (HB.out.cell (bltc w _ hx107_1)).trans hx107_1); (replace hx107_2 := (HB.out.cell (bltc w _ hx107_2)).trans hx107_2); (replace hx107_3 := (HB.out.cell (bltc w _ hx107_3)).trans hx107_3); (replace hx107_4 := (HB.out.cell (bltc w _ hx107_4)).trans hx107_4); (replace hx107_5 := (HB.out.cell (bltc w _ hx107_5)).trans hx107_5); (replace hx107_6 := (HB.out.cell (bltc w _ hx107_6)).trans hx107_6); (have HR107_4 := Aside0.mk hi107_4); (have HC107_4 := Aside0.mk hl107_4); clear hi107_4 hl107_4; (replace p107 := eq_true p107); (replace q107 := eq_true q107)
           go_wp2_with (first | ((with_reducible refine gate_dst (N := 12) rfl ?_); refine box_event ?hg (N := 12) ?hd (cs := #[.string (⟨#[]⟩ : ByteArray), .int .i64 0, .int .i64 0, .int .i64 0, .slice none 0 0, .bool false, .string (⟨#[]⟩ : ByteArray)]) (t := 54) ?hr ?_; (case hd => rfl); (case hg => rfl); (case hr => first | (go_simp; done) | (go_simp; rfl)); intro gb108 hg w37 hbox hb; have n0_ := Aside0.mk (Kd.R_below Q162 hb); have hB_ := bz Q87 hb; have n1_ := Aside0.mk (below_step hB_ hb); have n2_ := Aside0.mk (hbox); have n3_ := Aside0.mk ((Q88 : w.heap.size ≤ gb108)); have n4_ := n3_; clear HO_10 HB; have HO_10 := n0_; have HB := n1_; have BK108 := n2_; have GW108 := n3_; have GE108 := n4_; clear n0_ n1_ n2_ n3_ n4_ hB_ hb hbox hg; have hcz38_0 := cz BK108.out 0; have hcz38_1 := cz BK108.out 1; have hcz38_2 := cz BK108.out 2; have hcz38_3 := cz BK108.out 3; have hcz38_4 := cz BK108.out 4; have hcz38_5 := cz BK108.out 5; have hcz38_6 := cz BK108.out 6; have hfz38_0 := blk_frozen BK108.out 0; have hfz38_1 := blk_frozen BK108.out 1; have hfz38_2 := blk_frozen BK108.out 2; have hfz38_3 := blk_frozen BK108.out 3; have hfz38_4 := blk_frozen BK108.out 4; have hfz38_5 := blk_frozen BK108.out 5; have hfz38_6 := blk_frozen BK108.out 6) | ((with_reducible refine gate_callee (f := 50) rfl ?_); refine gL (some 41) Tryd.func50 #[.slice A1 l1.length c1, .string ((rd_T54 l0 x33_2).f0)] ?_; (with_reducible refine (impl_answerOf.calls _ _ l1 ((rd_T54 l0 x33_2).f0) t109 false _ ?side1 ?side2 A22.out).mono ?_); (case side1 => exact Q163); (case side2 => exact HC1.out); rintro e w39 ⟨rfl, hb⟩; refine ⟨_, rfl, ?_⟩; have n0_ := Aside0.mk (Kd.R_below Q164 hb); have n1_ := Aside0.mk (blk_below (g := gb108) (o := .cells #[.string ((rd_T54 l0 x33_2).f0), .int .i64 ((rd_T54 l0 x33_2).f1), .int .i64 ((rd_T54 l0 x33_2).f2), .int .i64 ((rd_T54 l0 x33_2).f3), .slice A107_4 ((rd_T54 l0 x33_2).f4).length c107_4, .bool ((rd_T54 l0 x33_2).f5), .string ((rd_T54 l0 x33_2).f6)] 54 (0, 0)) Q165 hb); have n2_ := Aside0.mk (below_step Q166 hb); clear HO_10 BK108 HB; have HO_10 := n0_; have BK108 := n1_; have HB := n2_; clear n0_ n1_ n2_; (try clear hb); (try clear hb2); (try clear hk); (try clear hi); have hcz40_0 := cz BK108.out 0; have hcz40_1 := cz BK108.out 1; have hcz40_2 := cz BK108.out 2; have hcz40_3 := cz BK108.out 3; have hcz40_4 := cz BK108.out 4; have hcz40_5 := cz BK108.out 5; have hcz40_6 := cz BK108.out 6; have hfz40_0 := blk_frozen BK108.out 0; have hfz40_1 := blk_frozen BK108.out 1; have hfz40_2 := blk_frozen BK108.out 2; have hfz40_3 := blk_frozen BK108.out 3; have hfz40_4 := blk_frozen BK108.out 4; have hfz40_5 := blk_frozen BK108.out 5; have hfz40_6 := blk_frozen BK108.out 6))
           go_roundg k2
           case measure => have := HJ4.out; have := HK2.out; omega
           case rel => exact ⟨(x10_2), (wrap64 (x33_2 + 1)), Q32, H', ⟨Q168⟩, ⟨Q162⟩, ⟨Q166⟩⟩
        ·rw [if_neg c21] at H
         exact Q1
       ·rw [if_neg c20] at H
        exact Q1
      ·rw [if_neg c19] at H
       (have c19b0 := decide_eq_false c19); clear c19; (simp only [Option.some.injEq, Prod.mk.injEq] at H); (obtain ⟨rfl, rfl⟩ := H); (go_wp2); (go_ret2); (exact ⟨_, Q18, rI HO_10, eI HB⟩)
/-! ### laws_vBig: function 5 -/
def laws_vBig.f (l0 : List Int) : Option (Bool) := some (decide ((l0.length : Int) > 65536))
set_option maxHeartbeats 8000000 in
set_option maxRecDepth 100000 in
theorem laws_vBig.calls (A0 : Option Addr) (c0 : Nat) (l0 : List Int) (r : Bool) (w : World) (hr0 : Kd.C (Kd.int .u8) w A0 l0.length l0) (hc0 : l0.length ≤ c0) (h : laws_vBig.f l0 = some r) :
  Calls Tryd.prog 5 #[.slice A0 l0.length c0] w fun e w' => e = .returned (.bool r) ∧ Drawn0 w w' := by
 (have HR0 := Aside0.mk hr0); (have HC0 := Aside0.mk hc0); clear hr0 hc0; (unfold laws_vBig.f at h); (have H := h); clear h; (obtain rfl := Option.some.inj H); (go_enter Tryd.func5, Tryd.ntmps5); (go_wp2); go_ret; (exact Q95)
/-! ### laws_FnAnswers: function 4 -/
mutual
def laws_FnAnswers.j0 : Nat → List (S54) → List (S51) → ByteArray → ByteArray → List Int → Bool → Bool → Option (Bool)
 | 0, _, _, _, _, _, _, _ => none
 | k + 1, x3, x4, x5, x6, x7, x8, x56 => if x56 = true then (some false) else (if x8 = true then ((impl_ClearHidden.f k x3 x4).bind fun bt119 => ((impl_VisibleFields.f k x3 x4).bind fun bt123 => ((impl_VisibleFields.f k x3 bt119.1).bind fun bt127 => ((impl_CheckAnswers.f k x3 bt119.1).bind fun bt131 => (if bt119.2 = true then (if bt123.2 = true then (if bt127.2 = true then (if bt131.2 = true then ((laws_vTexts.f k bt123.1 bt127.1).bind fun t135 => (if t135 = true then ((laws_vHas.f k bt131.1 3).bind fun t136 => (laws_FnAnswers.j1 k x3 x4 x5 x6 x7 t136)) else (laws_FnAnswers.j1 k x3 x4 x5 x6 x7 true))) else (laws_FnAnswers.j1 k x3 x4 x5 x6 x7 true)) else (laws_FnAnswers.j1 k x3 x4 x5 x6 x7 true)) else (laws_FnAnswers.j1 k x3 x4 x5 x6 x7 true)) else (laws_FnAnswers.j1 k x3 x4 x5 x6 x7 true)))))) else (some ((x7.length : Int) == 0)))
def laws_FnAnswers.j1 : Nat → List (S54) → List (S51) → ByteArray → ByteArray → List Int → Bool → Option (Bool)
 | 0, _, _, _, _, _, _ => none
 | k + 1, x3, x4, x5, x6, x7, x109 => if x109 = true then (some false) else ((impl_IsComplete.f k x3 x4).bind fun bt137 => (laws_FnAnswers.l0 k x3 x4 x5 x6 x7 bt137.1 bt137.2 true 0))
def laws_FnAnswers.l0 : Nat → List (S54) → List (S51) → ByteArray → ByteArray → List Int → Bool → Bool → Bool → Int → Option (Bool)
 | 0, _, _, _, _, _, _, _, _, _ => none
 | k + 1, x3, x4, x5, x6, x7, x19, x20, x21, x22 => if x22 < (x7.length : Int) then (if x21 = true then (if 0 ≤ x22 then (laws_FnAnswers.l0 k x3 x4 x5 x6 x7 x19 x20 ((rd x7 x22) == 0) (wrap64 (x22 + 1))) else (none)) else (laws_FnAnswers.l0 k x3 x4 x5 x6 x7 x19 x20 false (wrap64 (x22 + 1)))) else (if x20 = true then (laws_FnAnswers.j3 k x3 x4 x5 x6 (x19 != x21)) else (laws_FnAnswers.j3 k x3 x4 x5 x6 true))
def laws_FnAnswers.j3 : Nat → List (S54) → List (S51) → ByteArray → ByteArray → Bool → Option (Bool)
 | 0, _, _, _, _, _ => none
 | k + 1, x3, x4, x5, x6, x136 => if x136 = true then (some false) else ((impl_SetAnswer.f k x3 x4 x5 x6).bind fun bt140 => (laws_FnAnswers.l1 k x3 x5 x6 bt140.1 bt140.2 false 0))
def laws_FnAnswers.l1 : Nat → List (S54) → ByteArray → ByteArray → List (S51) → Bool → Bool → Int → Option (Bool)
 | 0, _, _, _, _, _, _, _ => none
 | k + 1, x3, x5, x6, x23, x24, x25, x26 => if x26 < (x23.length : Int) then (if x25 = true then (laws_FnAnswers.l1 k x3 x5 x6 x23 x24 true (wrap64 (x26 + 1))) else (if 0 ≤ x26 then (if ((rd_T51 x23 x26).f0).toList = x5.toList then (laws_FnAnswers.l1 k x3 x5 x6 x23 x24 (((rd_T51 x23 x26).f1).toList == x6.toList) (wrap64 (x26 + 1))) else (laws_FnAnswers.l1 k x3 x5 x6 x23 x24 false (wrap64 (x26 + 1)))) else (none))) else (if x24 = true then (if x25 = true then ((impl_IsValidAnswers.f k x3 x23).bind fun t146 => (some t146)) else (some false)) else (some true))
end
def laws_FnAnswers.f (k : Nat) (l0 : List Int) : Option (Bool) := (laws_vBig.f l0).bind fun t101 => (if t101 = true then (some true) else ((spec_DrawSetAnswer.f k l0).bind fun bt102 => ((impl_CheckAnswers.f k bt102.1 bt102.2.1).bind fun bt110 => ((spec_CheckAnswers.f k bt102.1 bt102.2.1).bind fun bt114 => (if (bt110.2 != bt114.2) = true then (laws_FnAnswers.j0 k bt102.1 bt102.2.1 bt102.2.2.1 bt102.2.2.2 bt110.1 bt110.2 true) else ((laws_vInts.f k bt110.1 bt114.1).bind fun t118 => (laws_FnAnswers.j0 k bt102.1 bt102.2.1 bt102.2.2.1 bt102.2.2.2 bt110.1 bt110.2 (!t118))))))))
set_option maxHeartbeats 8000000 in
set_option maxRecDepth 100000 in
theorem laws_FnAnswers.calls (k : Nat) (A0 : Option Addr) (c0 : Nat) (l0 : List Int) (r : Bool) (w : World) (hr0 : Kd.C (Kd.int .u8) w A0 l0.length l0) (hc0 : l0.length ≤ c0) (hG : GE w) (h : laws_FnAnswers.f k l0 = some r) (ht_ : Aside0 (r = true)) :
  Calls Tryd.prog 4 #[.slice A0 l0.length c0] w fun e w' => e = .returned (.bool r) ∧ Below w.heap.size w w' := by
 (have HR0 := Aside0.mk hr0); (have HC0 := Aside0.mk hc0); clear hr0 hc0; (have HG := Aside0.mk hG); clear hG; (have HB := Aside0.mk (Below.refl w.heap.size w)); (have H : ((laws_vBig.f l0).bind fun t101 => (if t101 = true then (some true) else ((spec_DrawSetAnswer.f k l0).bind fun bt102 => ((impl_CheckAnswers.f k bt102.1 bt102.2.1).bind fun bt110 => ((spec_CheckAnswers.f k bt102.1 bt102.2.1).bind fun bt114 => (if (bt110.2 != bt114.2) = true then (laws_FnAnswers.j0 k bt102.1 bt102.2.1 bt102.2.2.1 bt102.2.2.2 bt110.1 bt110.2 true) else ((laws_vInts.f k bt110.1 bt114.1).bind fun t118 => (laws_FnAnswers.j0 k bt102.1 bt102.2.1 bt102.2.2.1 bt102.2.2.2 bt110.1 bt110.2 (!t118))))))))) = some r := h); clear h; (replace H := Option.bind_eq_some_iff.mp H); (obtain ⟨t101, A20, H⟩ := H); (have A2 := Aside0.mk A20); clear A20; (by_cases c3 : t101 = true); (· subst c3; (rw [if_pos rfl] at H); (obtain rfl := Option.some.inj H); (go_enter Tryd.func4, Tryd.ntmps4); (go_wp2_with (first | ((with_reducible refine gate_callee (f := 5) rfl ?_); refine gL (some 28) Tryd.func5 #[.slice A0 l0.length c0] ?_; (with_reducible refine (laws_vBig.calls _ _ l0 true _ ?side1 ?side2 A2.out).mono ?_); (case side1 => repeat (first | exact HR0.out | (with_reducible first | refine cA ?_ _ | refine cN ?_ _ | refine cD ?_))); (case side2 => exact HC0.out); rintro e w' ⟨rfl, ⟨nd, rfl⟩⟩; refine ⟨_, rfl, ?_⟩))); go_ret; (exact Q170))
 ·replace c3 := Bool.eq_false_iff.mpr c3
  subst c3; (rw [if_neg (show ¬ (false = true) by decide)] at H); (replace H := Option.bind_eq_some_iff.mp H); (obtain ⟨⟨t102, t105, t108, t109⟩, A40, H⟩ := H); (replace H : ((impl_CheckAnswers.f k t102 t105).bind fun bt110 => ((spec_CheckAnswers.f k t102 t105).bind fun bt114 => (if (bt110.2 != bt114.2) = true then (laws_FnAnswers.j0 k t102 t105 t108 t109 bt110.1 bt110.2 true) else ((laws_vInts.f k bt110.1 bt114.1).bind fun t118 => (laws_FnAnswers.j0 k t102 t105 t108 t109 bt110.1 bt110.2 (!t118)))))) = some r := H); (have A4 := Aside0.mk A40); clear A40; (replace H := Option.bind_eq_some_iff.mp H); (obtain ⟨⟨t110, t111⟩, A50, H⟩ := H); (replace H : ((spec_CheckAnswers.f k t102 t105).bind fun bt114 => (if (t111 != bt114.2) = true then (laws_FnAnswers.j0 k t102 t105 t108 t109 t110 t111 true) else ((laws_vInts.f k t110 bt114.1).bind fun t118 => (laws_FnAnswers.j0 k t102 t105 t108 t109 t110 t111 (!t118))))) = some r := H); (have A5 := Aside0.mk A50); clear A50; (replace H := Option.bind_eq_some_iff.mp H); (obtain ⟨⟨t114, t115⟩, A60, H⟩ := H); (replace H : (if (t111 != t115) = true then (laws_FnAnswers.j0 k t102 t105 t108 t109 t110 t111 true) else ((laws_vInts.f k t110 t114).bind fun t118 => (laws_FnAnswers.j0 k t102 t105 t108 t109 t110 t111 (!t118)))) = some r := H); (have A6 := Aside0.mk A60); clear A60; (have HC7 := Aside0.mk H); clear H; (go_enter Tryd.func4, Tryd.ntmps4)
  go_upto_region 6 with (first | ((with_reducible refine gate_callee (f := 5) rfl ?_); refine gL (some 28) Tryd.func5 #[.slice A0 l0.length c0] ?_; (with_reducible refine (laws_vBig.calls _ _ l0 false _ ?side1 ?side2 A2.out).mono ?_); (case side1 => repeat (first | exact HR0.out | (with_reducible first | refine cA ?_ _ | refine cN ?_ _ | refine cD ?_))); (case side2 => exact HC0.out); rintro e w' ⟨rfl, ⟨nd, rfl⟩⟩; refine ⟨_, rfl, ?_⟩) | ((with_reducible refine gate_callee (f := 14) rfl ?_); refine gL (some 31) Tryd.func14 #[.slice A0 l0.length c0] ?_; (with_reducible refine (spec_DrawSetAnswer.calls k _ _ l0 t102 t105 t108 t109 _ ?side1 ?side2 A4.out).mono ?_); (case side1 => repeat (first | exact HR0.out | (with_reducible first | refine cA ?_ _ | refine cN ?_ _ | refine cD ?_))); (case side2 => exact HC0.out); rintro e w8 ⟨v103, v106, rfl, ho0, ho1, hb⟩; refine ⟨_, rfl, ?_⟩; have n0_ := Aside0.mk (Kd.N_lower (Kd.N_mono (ok' := fun k_ => some k_ ≠ (v106 : Value).ownBlock) ho0 (fun k_ hk_ => hk_.2)) (below_size Q87)); have n1_ := Aside0.mk (Kd.R_lower (Kd.R_mono (ok' := fun k_ => True) ho1 (fun _ hk_ => trivial)) (below_size Q87)); have n2_ := Aside0.mk (below_step Q87 hb); clear HB; have HO104 := n0_; have HO107 := n1_; have HB := n2_; clear n0_ n1_ n2_; (try clear hb); (try clear hb2); (try clear hk); (try clear hi); (try clear ho0); (try clear ho1); obtain ⟨Ao9, co9, eo9⟩ := Kd.N_slice HO104.out; subst eo9; obtain ⟨Ao10, co10, eo10⟩ := Kd.R_slice HO107.out; subst eo10) | ((with_reducible refine gate_callee (f := 15) rfl ?_); refine gL (some 39) Tryd.func15 #[.slice Ao9 t102.length co9, .slice Ao10 t105.length co10] ?_; (with_reducible refine (impl_CheckAnswers.calls k _ _ t102 _ _ t105 t110 t111 _ ?side1 ?side2 ?side3 ?side4 ?side5 A5.out).mono ?_); (case side1 => repeat (first | exact (Kd.N_reads' HO104.out).2.2 | (with_reducible first | refine cA ?_ _ | refine cN ?_ _ | refine cD ?_))); (case side2 => exact Q92); (case side3 => repeat (first | exact (Kd.R_reads' HO107.out).2.2 | (with_reducible first | refine cA ?_ _ | refine cN ?_ _ | refine cD ?_))); (case side4 => exact (Kd.R_reads' HO107.out).2.1); (case side5 => first | exact Q171 | (repeat (first | exact HG.out | (with_reducible first | apply GE.drewN | apply GE.drew | apply GE.alloc)))); rintro e w11 ⟨v112, rfl, ho0, hb⟩; refine ⟨_, rfl, ?_⟩; have n0_ := Aside0.mk (Kd.N_elder' Q91 (Kd.R_base ho0) hb); have n1_ := Aside0.mk (Kd.R_below Q172 hb); have n2_ := Aside0.mk (Kd.R_lower ho0 (below_size Q87)); have n3_ := Aside0.mk (below_step Q87 hb); clear HO104 HO107 HB; have HO104 := n0_; have HO107 := n1_; have HO113 := n2_; have HB := n3_; clear n0_ n1_ n2_ n3_; (try clear hb); (try clear hb2); (try clear hk); (try clear hi); (try clear ho0)) | ((with_reducible refine gate_callee (f := 16) rfl ?_); refine gL (some 45) Tryd.func16 #[.slice Ao9 t102.length co9, .slice Ao10 t105.length co10] ?_; (with_reducible refine (spec_CheckAnswers.calls k _ _ t102 _ _ t105 t114 t115 _ ?side1 ?side2 ?side3 ?side4 A6.out).mono ?_); (case side1 => repeat (first | exact (Kd.N_reads' HO104.out).2.2 | (with_reducible first | refine cA ?_ _ | refine cN ?_ _ | refine cD ?_))); (case side2 => exact Q92); (case side3 => repeat (first | exact (Kd.R_reads' HO107.out).2.2 | (with_reducible first | refine cA ?_ _ | refine cN ?_ _ | refine cD ?_))); (case side4 => exact (Kd.R_reads' HO107.out).2.1); rintro e w12 ⟨v116, rfl, ho0, hb⟩; refine ⟨_, rfl, ?_⟩; have n0_ := Aside0.mk (Kd.N_elder' Q91 (Kd.R_base ho0) hb); have n1_ := Aside0.mk (Kd.R_below Q172 hb); have n2_ := Aside0.mk (Kd.R_elder' Q169 (Kd.R_base ho0) hb); have n3_ := Aside0.mk (Kd.R_lower (Kd.R_new' ho0 (Kd.R_lt Q169)) (below_size Q87)); have n4_ := Aside0.mk (below_step Q87 hb); clear HO104 HO107 HO113 HB; have HO104 := n0_; have HO107 := n1_; have HO113 := n2_; have HO117 := n3_; have HB := n4_; clear n0_ n1_ n2_ n3_ n4_; (try clear hb); (try clear hb2); (try clear hk); (try clear hi); (try clear ho0)))
  ((try simp only [Act.put, aS1, aS2, aS3])); (go_cut [56] (fun v56 wc => ∃ (kq : Nat) (x56_6 : Bool), v56 = .bool x56_6 ∧ Aside0 (laws_FnAnswers.j0 kq t102 t105 t108 t109 t110 t111 x56_6 = some r) ∧ Aside0 (kq ≤ k) ∧ Aside0 (Kd.N k54 54 wc w.heap.size (fun k_ => some k_ ≠ ((.slice Ao10 t105.length co10) : Value).ownBlock ∧ some k_ ≠ (v112 : Value).ownBlock) (.slice Ao9 t102.length co9) t102) ∧ Aside0 (Kd.R k51 51 wc w.heap.size (fun _ => True) (.slice Ao10 t105.length co10) t105) ∧ Aside0 (Kd.R (Kd.int .i64) 3 wc w.heap.size (fun _ => True) v112 t110) ∧ Aside0 (Below w.heap.size w wc)))
  case first =>
   (have H := HC7.out); clear HC7; (by_cases c13 : (t111 != t115) = true)
   ·rw [if_pos c13] at H
    (have c13b0 : (t111 != t115) = true := c13); ((try (have c13b1 : decide (t111 = t115) = false := Q173))); ((try (have c13b2 : (t111 == t115) = false := Q173))); ((try (have c13b3 : ¬ (t111 = t115) := Q173))); clear c13; ((first | rw [c13b0] | (simp only [i64_w, i32_w]; rw [c13b0]) | skip)); (have H' := Aside0.mk H); clear H; (go_wp2); (go_meet)
    case rel => exact ⟨_, (true), Q32, H', ⟨Q99⟩, ⟨Q174⟩, ⟨Q172⟩, ⟨Q175⟩, ⟨Q87⟩⟩
   ·rw [if_neg c13] at H
    (have c13b0 : (t111 != t115) = false := Q173); ((try (have c13b1 : decide (t111 = t115) = true := Q173))); ((try (have c13b2 : (t111 == t115) = true := Q173))); clear c13; ((first | rw [c13b0] | (simp only [i64_w, i32_w]; rw [c13b0]) | skip)); (replace H := Option.bind_eq_some_iff.mp H); (obtain ⟨t118, A140, H⟩ := H); (have A14 := Aside0.mk A140); clear A140; (have H' := Aside0.mk H); clear H; (obtain ⟨Ao15, co15, eo15⟩ := Kd.R_slice HO113.out); subst eo15; (obtain ⟨Ao16, co16, eo16⟩ := Kd.R_slice HO117.out); subst eo16; (go_wp2_with (first | (go_at_call 17; (with_reducible refine (laws_vInts.calls k _ _ t110 _ _ t114 t118 _ ?side1 ?side2 ?side3 ?side4 A14.out).mono ?_); (case side1 => repeat (first | exact (Kd.R_reads' HO113.out).2.2 | (with_reducible first | refine cA ?_ _ | refine cN ?_ _ | refine cD ?_))); (case side2 => exact (Kd.R_reads' HO113.out).2.1); (case side3 => repeat (first | exact (Kd.R_reads' HO117.out).2.2 | (with_reducible first | refine cA ?_ _ | refine cN ?_ _ | refine cD ?_))); (case side4 => exact (Kd.R_reads' HO117.out).2.1); rintro e w' ⟨rfl, ⟨nd, rfl⟩⟩))); (go_meet)
    case rel => exact ⟨_, (!t118), Q32, H', ⟨Q99⟩, ⟨Q174⟩, ⟨Q172⟩, ⟨Q175⟩, ⟨Q87⟩⟩
  case rest =>
   clear HC7; (try clear c1); (try clear p2); (try clear c3); (try clear c4); (try clear c5); (try clear c13); (try clear c13b0); (try clear c13b1); (try clear c13b2); (try clear c14); (try clear c15); (try clear c16); (obtain ⟨kq, x56_6, rfl, HA, HJ6, HO_3, HO_4, HO_7, HB⟩ := hcut)
   cases kq with
   | zero => exact absurd HA.out (by simp [laws_FnAnswers.j0])
   | succ kj6 =>
    (have H := HA.out); clear HA; (simp only [laws_FnAnswers.j0] at H); (by_cases c17 : x56_6 = true); (· subst c17; (rw [if_pos rfl] at H); (obtain rfl := Option.some.inj H); (exact Q176))
    ·replace c17 := Bool.eq_false_iff.mpr c17
     subst c17; (rw [if_neg (show ¬ (false = true) by decide)] at H); (by_cases c18 : t111 = true)
     ·subst c18
      (rw [if_pos rfl] at H); (replace H := Option.bind_eq_some_iff.mp H); (obtain ⟨⟨t119, t120⟩, A190, H⟩ := H); (replace H : ((impl_VisibleFields.f kj6 t102 t105).bind fun bt123 => ((impl_VisibleFields.f kj6 t102 t119).bind fun bt127 => ((impl_CheckAnswers.f kj6 t102 t119).bind fun bt131 => (if t120 = true then (if bt123.2 = true then (if bt127.2 = true then (if bt131.2 = true then ((laws_vTexts.f kj6 bt123.1 bt127.1).bind fun t135 => (if t135 = true then ((laws_vHas.f kj6 bt131.1 3).bind fun t136 => (laws_FnAnswers.j1 kj6 t102 t105 t108 t109 t110 t136)) else (laws_FnAnswers.j1 kj6 t102 t105 t108 t109 t110 true))) else (laws_FnAnswers.j1 kj6 t102 t105 t108 t109 t110 true)) else (laws_FnAnswers.j1 kj6 t102 t105 t108 t109 t110 true)) else (laws_FnAnswers.j1 kj6 t102 t105 t108 t109 t110 true)) else (laws_FnAnswers.j1 kj6 t102 t105 t108 t109 t110 true))))) = some r := H); (have A19 := Aside0.mk A190); clear A190; (replace H := Option.bind_eq_some_iff.mp H); (obtain ⟨⟨t123, t124⟩, A200, H⟩ := H); (replace H : ((impl_VisibleFields.f kj6 t102 t119).bind fun bt127 => ((impl_CheckAnswers.f kj6 t102 t119).bind fun bt131 => (if t120 = true then (if t124 = true then (if bt127.2 = true then (if bt131.2 = true then ((laws_vTexts.f kj6 t123 bt127.1).bind fun t135 => (if t135 = true then ((laws_vHas.f kj6 bt131.1 3).bind fun t136 => (laws_FnAnswers.j1 kj6 t102 t105 t108 t109 t110 t136)) else (laws_FnAnswers.j1 kj6 t102 t105 t108 t109 t110 true))) else (laws_FnAnswers.j1 kj6 t102 t105 t108 t109 t110 true)) else (laws_FnAnswers.j1 kj6 t102 t105 t108 t109 t110 true)) else (laws_FnAnswers.j1 kj6 t102 t105 t108 t109 t110 true)) else (laws_FnAnswers.j1 kj6 t102 t105 t108 t109 t110 true)))) = some r := H); (have A20 := Aside0.mk A200); clear A200; (replace H := Option.bind_eq_some_iff.mp H); (obtain ⟨⟨t127, t128⟩, A210, H⟩ := H); (replace H : ((impl_CheckAnswers.f kj6 t102 t119).bind fun bt131 => (if t120 = true then (if t124 = true then (if t128 = true then (if bt131.2 = true then ((laws_vTexts.f kj6 t123 t127).bind fun t135 => (if t135 = true then ((laws_vHas.f kj6 bt131.1 3).bind fun t136 => (laws_FnAnswers.j1 kj6 t102 t105 t108 t109 t110 t136)) else (laws_FnAnswers.j1 kj6 t102 t105 t108 t109 t110 true))) else (laws_FnAnswers.j1 kj6 t102 t105 t108 t109 t110 true)) else (laws_FnAnswers.j1 kj6 t102 t105 t108 t109 t110 true)) else (laws_FnAnswers.j1 kj6 t102 t105 t108 t109 t110 true)) else (laws_FnAnswers.j1 kj6 t102 t105 t108 t109 t110 true))) = some r := H); (have A21 := Aside0.mk A210); clear A210; (replace H := Option.bind_eq_some_iff.mp H); (obtain ⟨⟨t131, t132⟩, A220, H⟩ := H); (replace H : (if t120 = true then (if t124 = true then (if t128 = true then (if t132 = true then ((laws_vTexts.f kj6 t123 t127).bind fun t135 => (if t135 = true then ((laws_vHas.f kj6 t131 3).bind fun t136 => (laws_FnAnswers.j1 kj6 t102 t105 t108 t109 t110 t136)) else (laws_FnAnswers.j1 kj6 t102 t105 t108 t109 t110 true))) else (laws_FnAnswers.j1 kj6 t102 t105 t108 t109 t110 true)) else (laws_FnAnswers.j1 kj6 t102 t105 t108 t109 t110 true)) else (laws_FnAnswers.j1 kj6 t102 t105 t108 t109 t110 true)) else (laws_FnAnswers.j1 kj6 t102 t105 t108 t109 t110 true)) = some r := H); (have A22 := Aside0.mk A220); clear A220; (have HC23 := Aside0.mk H); clear H
      go_upto_region 14 with (first | ((with_reducible refine gate_callee (f := 18) rfl ?_); refine gL (some 65) Tryd.func18 #[.slice Ao9 t102.length co9, .slice Ao10 t105.length co10] ?_; (with_reducible refine (impl_ClearHidden.calls kj6 _ _ t102 _ _ t105 t119 t120 _ ?side1 ?side2 ?side3 ?side4 A19.out).mono ?_); (case side1 => repeat (first | exact Q177 | (with_reducible first | refine cA ?_ _ | refine cN ?_ _ | refine cD ?_))); (case side2 => exact Q178); (case side3 => repeat (first | exact Q179 | (with_reducible first | refine cA ?_ _ | refine cN ?_ _ | refine cD ?_))); (case side4 => exact Q180); rintro e w24 ⟨v121, rfl, ho0, hb⟩; refine ⟨_, rfl, ?_⟩; have n0_ := Aside0.mk (Kd.N_elder' Q19 (Kd.R_base ho0) hb); have n1_ := Aside0.mk (Kd.R_elder' Q14 (Kd.R_base ho0) hb); have n2_ := Aside0.mk (Kd.R_below Q181 hb); have n3_ := Aside0.mk (Kd.R_lower (Kd.R_new' ho0 (Kd.R_lt Q14)) (below_size Q87)); have n4_ := Aside0.mk (below_step Q87 hb); clear HO_3 HO_4 HO_7 HB; have HO_3 := n0_; have HO_4 := n1_; have HO_7 := n2_; have HO122 := n3_; have HB := n4_; clear n0_ n1_ n2_ n3_ n4_; (try clear hb); (try clear hb2); (try clear hk); (try clear hi); (try clear ho0)) | ((with_reducible refine gate_callee (f := 19) rfl ?_); refine gL (some 71) Tryd.func19 #[.slice Ao9 t102.length co9, .slice Ao10 t105.length co10] ?_; (with_reducible refine (impl_VisibleFields.calls kj6 _ _ t102 _ _ t105 t123 t124 _ ?side1 ?side2 ?side3 ?side4 A20.out).mono ?_); (case side1 => repeat (first | exact Q177 | (with_reducible first | refine cA ?_ _ | refine cN ?_ _ | refine cD ?_))); (case side2 => exact Q178); (case side3 => repeat (first | exact Q179 | (with_reducible first | refine cA ?_ _ | refine cN ?_ _ | refine cD ?_))); (case side4 => exact Q180); rintro e w25 ⟨v125, rfl, ho0, hb⟩; refine ⟨_, rfl, ?_⟩; have n0_ := Aside0.mk (Kd.N_elder' Q19 (Kd.R_base ho0) hb); have n1_ := Aside0.mk (Kd.R_below Q14 hb); have n2_ := Aside0.mk (Kd.R_below Q181 hb); have n3_ := Aside0.mk (Kd.R_below Q182 hb); have n4_ := Aside0.mk (Kd.R_lower ho0 (below_size Q87)); have n5_ := Aside0.mk (below_step Q87 hb); clear HO_3 HO_4 HO_7 HO122 HB; have HO_3 := n0_; have HO_4 := n1_; have HO_7 := n2_; have HO122 := n3_; have HO126 := n4_; have HB := n5_; clear n0_ n1_ n2_ n3_ n4_ n5_; (try clear hb); (try clear hb2); (try clear hk); (try clear hi); (try clear ho0); obtain ⟨Ao26, co26, eo26⟩ := Kd.R_slice HO122.out; subst eo26) | ((with_reducible refine gate_callee (f := 19) rfl ?_); refine gL (some 77) Tryd.func19 #[.slice Ao9 t102.length co9, .slice Ao26 t119.length co26] ?_; (with_reducible refine (impl_VisibleFields.calls kj6 _ _ t102 _ _ t119 t127 t128 _ ?side1 ?side2 ?side3 ?side4 A21.out).mono ?_); (case side1 => repeat (first | exact Q177 | (with_reducible first | refine cA ?_ _ | refine cN ?_ _ | refine cD ?_))); (case side2 => exact Q178); (case side3 => repeat (first | exact (Kd.R_reads' HO122.out).2.2 | (with_reducible first | refine cA ?_ _ | refine cN ?_ _ | refine cD ?_))); (case side4 => exact (Kd.R_reads' HO122.out).2.1); rintro e w27 ⟨v129, rfl, ho0, hb⟩; refine ⟨_, rfl, ?_⟩; have n0_ := Aside0.mk (Kd.N_elder' Q19 (Kd.R_base ho0) hb); have n1_ := Aside0.mk (Kd.R_below Q14 hb); have n2_ := Aside0.mk (Kd.R_below Q181 hb); have n3_ := Aside0.mk (Kd.R_below Q182 hb); have n4_ := Aside0.mk (Kd.R_elder' Q48 (Kd.R_base ho0) hb); have n5_ := Aside0.mk (Kd.R_lower (Kd.R_new' ho0 (Kd.R_lt Q48)) (below_size Q87)); have n6_ := Aside0.mk (below_step Q87 hb); clear HO_3 HO_4 HO_7 HO122 HO126 HB; have HO_3 := n0_; have HO_4 := n1_; have HO_7 := n2_; have HO122 := n3_; have HO126 := n4_; have HO130 := n5_; have HB := n6_; clear n0_ n1_ n2_ n3_ n4_ n5_ n6_; (try clear hb); (try clear hb2); (try clear hk); (try clear hi); (try clear ho0)) | ((with_reducible refine gate_callee (f := 15) rfl ?_); refine gL (some 83) Tryd.func15 #[.slice Ao9 t102.length co9, .slice Ao26 t119.length co26] ?_; (with_reducible refine (impl_CheckAnswers.calls kj6 _ _ t102 _ _ t119 t131 t132 _ ?side1 ?side2 ?side3 ?side4 ?side5 A22.out).mono ?_); (case side1 => repeat (first | exact Q177 | (with_reducible first | refine cA ?_ _ | refine cN ?_ _ | refine cD ?_))); (case side2 => exact Q178); (case side3 => repeat (first | exact (Kd.R_reads' HO122.out).2.2 | (with_reducible first | refine cA ?_ _ | refine cN ?_ _ | refine cD ?_))); (case side4 => exact (Kd.R_reads' HO122.out).2.1); (case side5 => first | exact Q171 | (repeat (first | exact HG.out | (with_reducible first | apply GE.drewN | apply GE.drew | apply GE.alloc)))); rintro e w28 ⟨v133, rfl, ho0, hb⟩; refine ⟨_, rfl, ?_⟩; have n0_ := Aside0.mk (Kd.N_elder' Q19 (Kd.R_base ho0) hb); have n1_ := Aside0.mk (Kd.R_below Q14 hb); have n2_ := Aside0.mk (Kd.R_elder' Q181 (Kd.R_base ho0) hb); have n3_ := Aside0.mk (Kd.R_below Q182 hb); have n4_ := Aside0.mk (Kd.R_below Q48 hb); have n5_ := Aside0.mk (Kd.R_below (by (with_reducible repeat (first | apply rA | apply rN | apply rD)); exact HO130.out) hb); have n6_ := Aside0.mk (Kd.R_lower (Kd.R_new' ho0 (Kd.R_lt Q181)) (below_size Q87)); have n7_ := Aside0.mk (below_step Q87 hb); clear HO_3 HO_4 HO_7 HO122 HO126 HO130 HB; have HO_3 := n0_; have HO_4 := n1_; have HO_7 := n2_; have HO122 := n3_; have HO126 := n4_; have HO130 := n5_; have HO134 := n6_; have HB := n7_; clear n0_ n1_ n2_ n3_ n4_ n5_ n6_ n7_; (try clear hb); (try clear hb2); (try clear hk); (try clear hi); (try clear ho0)))
      ((try simp only [Act.put, aS1, aS2, aS3])); (go_cut [109] (fun v109 wc => ∃ (kq : Nat) (x109_22 : Bool), v109 = .bool x109_22 ∧ Aside0 (laws_FnAnswers.j1 kq t102 t105 t108 t109 t110 x109_22 = some r) ∧ Aside0 (kq ≤ kj6) ∧ Aside0 (Kd.N k54 54 wc w.heap.size (fun k_ => some k_ ≠ ((.slice Ao10 t105.length co10) : Value).ownBlock ∧ some k_ ≠ (v112 : Value).ownBlock) (.slice Ao9 t102.length co9) t102) ∧ Aside0 (Kd.R k51 51 wc w.heap.size (fun _ => True) (.slice Ao10 t105.length co10) t105) ∧ Aside0 (Kd.R (Kd.int .i64) 3 wc w.heap.size (fun _ => True) v112 t110) ∧ Aside0 (Below w.heap.size w wc)))
      case first =>
       (have H := HC23.out); clear HC23; (by_cases c29 : t120 = true)
       ·subst c29
        (rw [if_pos rfl] at H); (by_cases c30 : t124 = true)
        ·subst c30
         (rw [if_pos rfl] at H); (by_cases c31 : t128 = true)
         ·subst c31
          (rw [if_pos rfl] at H); (by_cases c32 : t132 = true)
          ·subst c32
           (rw [if_pos rfl] at H); (replace H := Option.bind_eq_some_iff.mp H); (obtain ⟨t135, A330, H⟩ := H); (have A33 := Aside0.mk A330); clear A330; (by_cases c34 : t135 = true)
           ·subst c34
            (rw [if_pos rfl] at H); (replace H := Option.bind_eq_some_iff.mp H); (obtain ⟨t136, A350, H⟩ := H); (have A35 := Aside0.mk A350); clear A350; (have H' := Aside0.mk H); clear H; (obtain ⟨Ao36, co36, eo36⟩ := Kd.R_slice HO126.out); subst eo36; (obtain ⟨Ao37, co37, eo37⟩ := Kd.R_slice HO130.out); subst eo37; (go_wp2_with (first | (go_at_call 20; (with_reducible refine (laws_vTexts.calls kj6 _ _ t123 _ _ t127 true _ ?side1 ?side2 ?side3 ?side4 A33.out).mono ?_); (case side1 => repeat (first | exact Q46 | (with_reducible first | refine cA ?_ _ | refine cN ?_ _ | refine cD ?_))); (case side2 => exact Q47); (case side3 => repeat (first | exact (Kd.R_reads' HO130.out).2.2 | (with_reducible first | refine cA ?_ _ | refine cN ?_ _ | refine cD ?_))); (case side4 => exact (Kd.R_reads' HO130.out).2.1); rintro e w' ⟨rfl, ⟨nd, rfl⟩⟩; obtain ⟨Ao38, co38, eo38⟩ := Kd.R_slice HO134.out; subst eo38) | (go_at_call 21; (with_reducible refine (laws_vHas.calls kj6 _ _ t131 3 t136 _ ?side1 ?side2 A35.out).mono ?_); (case side1 => repeat (first | exact (Kd.R_reads' HO134.out).2.2 | (with_reducible first | refine cA ?_ _ | refine cN ?_ _ | refine cD ?_))); (case side2 => exact (Kd.R_reads' HO134.out).2.1); rintro e w' ⟨rfl, ⟨nd, rfl⟩⟩))); (go_meet)
            case rel => exact ⟨_, (t136), Q32, H', ⟨Q183⟩, ⟨Q184⟩, ⟨Q185⟩, ⟨Q186⟩, ⟨Q87⟩⟩
           ·replace c34 := Bool.eq_false_iff.mpr c34
            subst c34; (rw [if_neg (show ¬ (false = true) by decide)] at H); (have H' := Aside0.mk H); clear H; (obtain ⟨Ao39, co39, eo39⟩ := Kd.R_slice HO126.out); subst eo39; (obtain ⟨Ao40, co40, eo40⟩ := Kd.R_slice HO130.out); subst eo40; (go_wp2_with (first | (go_at_call 20; (with_reducible refine (laws_vTexts.calls kj6 _ _ t123 _ _ t127 false _ ?side1 ?side2 ?side3 ?side4 A33.out).mono ?_); (case side1 => repeat (first | exact Q46 | (with_reducible first | refine cA ?_ _ | refine cN ?_ _ | refine cD ?_))); (case side2 => exact Q47); (case side3 => repeat (first | exact (Kd.R_reads' HO130.out).2.2 | (with_reducible first | refine cA ?_ _ | refine cN ?_ _ | refine cD ?_))); (case side4 => exact (Kd.R_reads' HO130.out).2.1); rintro e w' ⟨rfl, ⟨nd, rfl⟩⟩))); (go_meet)
            case rel => exact Q187
          ·replace c32 := Bool.eq_false_iff.mpr c32
           subst c32; (rw [if_neg (show ¬ (false = true) by decide)] at H); (have H' := Aside0.mk H); clear H; (go_wp2); (go_meet)
           case rel => exact Q187
         ·replace c31 := Bool.eq_false_iff.mpr c31
          subst c31; (rw [if_neg (show ¬ (false = true) by decide)] at H); (have H' := Aside0.mk H); clear H; (go_wp2); (go_meet)
          case rel => exact Q187
        ·replace c30 := Bool.eq_false_iff.mpr c30
         subst c30; (rw [if_neg (show ¬ (false = true) by decide)] at H); (have H' := Aside0.mk H); clear H; (go_wp2); (go_meet)
         case rel => exact Q187
       ·replace c29 := Bool.eq_false_iff.mpr c29
        subst c29; (rw [if_neg (show ¬ (false = true) by decide)] at H); (have H' := Aside0.mk H); clear H; (go_wp2); (go_meet)
        case rel => exact Q187
      case rest =>
       clear HC23; (try clear c1); (try clear c2); (try clear p2); (try clear c3); (try clear c4); (try clear c5); (try clear c13); (try clear c13b0); (try clear c13b1); (try clear c13b2); (try clear c14); (try clear c15); (try clear c16); (try clear c17); (try clear c18); (try clear c19); (try clear c29); (try clear c30); (try clear c31); (try clear c32); (try clear c34); (try clear p2); (obtain ⟨kq, x109_22, rfl, HA, HJ22, HO_3, HO_4, HO_7, HB⟩ := hcut)
       cases kq with
       | zero => exact absurd HA.out (by simp [laws_FnAnswers.j1])
       | succ kj22 =>
        (have H := HA.out); clear HA; (simp only [laws_FnAnswers.j1] at H); (by_cases c41 : x109_22 = true); (· subst c41; (rw [if_pos rfl] at H); (obtain rfl := Option.some.inj H); (exact Q176))
        ·replace c41 := Bool.eq_false_iff.mpr c41
         subst c41; (rw [if_neg (show ¬ (false = true) by decide)] at H); (replace H := Option.bind_eq_some_iff.mp H); (obtain ⟨⟨t137, t138⟩, A420, H⟩ := H); (replace H : (laws_FnAnswers.l0 kj22 t102 t105 t108 t109 t110 t137 t138 true 0) = some r := H); (have A42 := Aside0.mk A420); clear A420; (have H' := Aside0.mk H); clear H; (go_wp2_with (first | ((with_reducible refine gate_callee (f := 22) rfl ?_); refine gL (some 113) Tryd.func22 #[.slice Ao9 t102.length co9, .slice Ao10 t105.length co10] ?_; (with_reducible refine (impl_IsComplete.calls kj22 _ _ t102 _ _ t105 t137 t138 _ ?side1 ?side2 ?side3 ?side4 ?side5 A42.out).mono ?_); (case side1 => repeat (first | exact Q177 | (with_reducible first | refine cA ?_ _ | refine cN ?_ _ | refine cD ?_))); (case side2 => exact Q178); (case side3 => repeat (first | exact Q179 | (with_reducible first | refine cA ?_ _ | refine cN ?_ _ | refine cD ?_))); (case side4 => exact Q180); (case side5 => first | exact Q171 | (repeat (first | exact HG.out | (with_reducible first | apply GE.drewN | apply GE.drew | apply GE.alloc)))); rintro e w43 ⟨rfl, hb⟩; refine ⟨_, rfl, ?_⟩; have n0_ := Aside0.mk (Kd.N_below Q19 hb); have n1_ := Aside0.mk (Kd.R_below Q14 hb); have n2_ := Aside0.mk (Kd.R_below Q181 hb); have n3_ := Aside0.mk (below_step Q87 hb); clear HO_3 HO_4 HO_7 HB; have HO_3 := n0_; have HO_4 := n1_; have HO_7 := n2_; have HB := n3_; clear n0_ n1_ n2_ n3_; (try clear hb); (try clear hb2); (try clear hk); (try clear hi)))); (go_loopg [21, 22] kj22 (fun kq v21 v22 w' => ∃ (x21_3 : Bool) (x22_3 : Int), v21 = .bool x21_3 ∧ v22 = .int .i64 x22_3 ∧ Aside0 (laws_FnAnswers.l0 kq t102 t105 t108 t109 t110 t137 t138 x21_3 x22_3 = some r) ∧ Aside0 (kq ≤ kj22) ∧ Aside0 (Kd.N k54 54 w' w.heap.size (fun k_ => some k_ ≠ ((.slice Ao10 t105.length co10) : Value).ownBlock ∧ some k_ ≠ (v112 : Value).ownBlock) (.slice Ao9 t102.length co9) t102) ∧ Aside0 (Kd.R k51 51 w' w.heap.size (fun _ => True) (.slice Ao10 t105.length co10) t105) ∧ Aside0 (Kd.R (Kd.int .i64) 3 w' w.heap.size (fun _ => True) v112 t110) ∧ Aside0 (Below w.heap.size w w')))
         case atStart => exact ⟨(true), (0), Q32, Q32, H', ⟨Nat.le_refl _⟩, ⟨Q19⟩, ⟨Q14⟩, ⟨Q181⟩, ⟨Q87⟩⟩
         case round =>
          (clear H'); (try clear c1); (try clear c2); (try clear p2); (try clear c3); (try clear c4); (try clear c5); (try clear c13); (try clear c13b0); (try clear c13b1); (try clear c13b2); (try clear c14); (try clear c15); (try clear c16); (try clear c17); (try clear c18); (try clear c19); (try clear c22); (try clear c29); (try clear c30); (try clear c31); (try clear c32); (try clear c34); (try clear c41); (try clear p2); (obtain ⟨x21_3, x22_3, rfl, rfl, HA, HK3, HO_3, HO_4, HO_7, HB⟩ := hrel)
          cases gk with
          | zero => exact absurd HA.out (by simp [laws_FnAnswers.l0])
          | succ k3 =>
           (have H := HA.out); clear HA; (simp only [laws_FnAnswers.l0] at H); (by_cases c44 : x22_3 < (t110.length : Int))
           ·rw [if_pos c44] at H
            (have c44b0 : decide (x22_3 < (t110.length : Int)) = true := decide_eq_true c44); clear c44; (by_cases c45 : x21_3 = true)
            ·subst c45
             (rw [if_pos rfl] at H); (by_cases c46 : 0 ≤ x22_3)
             ·rw [if_pos c46] at H
              (have c46b0 : decide (0 ≤ x22_3) = true := decide_eq_true c46); clear c46; (have H' := Aside0.mk H); clear H; (obtain ⟨Ao47, co47, eo47⟩ := Kd.R_slice HO_7.out); subst eo47; (have p139 : 0 ≤ (x22_3 : Int) := of_decide_eq_true Q33); (have q139 : x22_3 < (t110.length : Int) := of_decide_eq_true Q33); (obtain ⟨ad139, e139, hx139_0⟩ := Kd.at_int (Kd.R_reads' HO_7.out).2.2 x22_3 p139 q139); (cases e139); (replace p139 := eq_true p139); (replace q139 := eq_true q139); (go_wp2); go_roundg k3
              case measure => have := HJ6.out; have := HJ22.out; have := HK3.out; omega
              case rel => exact ⟨(((rd t110 x22_3) == 0)), (wrap64 (x22_3 + 1)), Q32, Q32, H', ⟨by have := HJ6.out; have := HJ22.out; have := HK3.out; omega⟩, ⟨Q19⟩, ⟨Q14⟩, ⟨Q181⟩, ⟨Q87⟩⟩
             ·rw [if_neg c46] at H
              exact Q1
            ·replace c45 := Bool.eq_false_iff.mpr c45
             subst c45; (rw [if_neg (show ¬ (false = true) by decide)] at H); (have H' := Aside0.mk H); clear H; (obtain ⟨Ao48, co48, eo48⟩ := Kd.R_slice HO_7.out); subst eo48; (go_wp2); go_roundg k3
             case measure => have := HJ6.out; have := HJ22.out; have := HK3.out; omega
             case rel => exact ⟨(false), (wrap64 (x22_3 + 1)), Q32, Q32, H', ⟨by have := HJ6.out; have := HJ22.out; have := HK3.out; omega⟩, ⟨Q19⟩, ⟨Q14⟩, ⟨Q181⟩, ⟨Q87⟩⟩
           ·rw [if_neg c44] at H
            (have c44b0 : decide (x22_3 < (t110.length : Int)) = false := decide_eq_false c44); clear c44; (have HC49 := Aside0.mk H); clear H; (obtain ⟨Ao50, co50, eo50⟩ := Kd.R_slice HO_7.out); subst eo50; (go_upto_region 22 with (fail)); (go_cut [136] (fun v136 wc => ∃ (kq : Nat) (x136_48 : Bool), v136 = .bool x136_48 ∧ Aside0 (laws_FnAnswers.j3 kq t102 t105 t108 t109 x136_48 = some r) ∧ Aside0 (kq ≤ k3) ∧ Aside0 (Kd.N k54 54 wc w.heap.size (fun k_ => some k_ ≠ ((.slice Ao10 t105.length co10) : Value).ownBlock) (.slice Ao9 t102.length co9) t102) ∧ Aside0 (Kd.R k51 51 wc w.heap.size (fun _ => True) (.slice Ao10 t105.length co10) t105) ∧ Aside0 (Below w.heap.size w wc)))
            case first =>
             (have H := HC49.out); clear HC49; (by_cases c51 : t138 = true)
             ·subst c51
              (rw [if_pos rfl] at H); (have H' := Aside0.mk H); clear H; (go_wp2); (go_meet)
              case rel => exact ⟨_, ((t137 != x21_3)), Q32, H', ⟨Q188⟩, ⟨Q189⟩, ⟨Q14⟩, ⟨Q87⟩⟩
             ·replace c51 := Bool.eq_false_iff.mpr c51
              subst c51; (rw [if_neg (show ¬ (false = true) by decide)] at H); (have H' := Aside0.mk H); clear H; (go_wp2); (go_meet)
              case rel => exact ⟨_, (true), Q32, H', ⟨Q188⟩, ⟨Q189⟩, ⟨Q14⟩, ⟨Q87⟩⟩
            case rest =>
             clear HC49; (try clear c1); (try clear p1); (try clear q1); (try clear hx1); (try clear c2); (try clear p2); (try clear c3); (try clear c4); (try clear c5); (try clear p6); (try clear c13); (try clear c13b0); (try clear c13b1); (try clear c13b2); (try clear p13); (try clear q13); (try clear hx13); (try clear c14); (try clear c15); (try clear c16); (try clear c17); (try clear c18); (try clear c19); (try clear c22); (try clear c29); (try clear c30); (try clear c31); (try clear c32); (try clear c34); (try clear c41); (try clear c44); (try clear c44b0); (try clear c45); (try clear c46); (try clear c46b0); (try clear c51); (try clear hx139_0); (try clear p139); (try clear p2); (try clear q139); (obtain ⟨kq, x136_48, rfl, HA, HJ48, HO_3, HO_4, HB⟩ := hcut)
             cases kq with
             | zero => exact absurd HA.out (by simp [laws_FnAnswers.j3])
             | succ kj48 =>
              (have H := HA.out); clear HA; (simp only [laws_FnAnswers.j3] at H); (by_cases c52 : x136_48 = true); (· subst c52; (rw [if_pos rfl] at H); (obtain rfl := Option.some.inj H); (exact Q176))
              ·replace c52 := Bool.eq_false_iff.mpr c52
               subst c52; (rw [if_neg (show ¬ (false = true) by decide)] at H); (replace H := Option.bind_eq_some_iff.mp H); (obtain ⟨⟨t140, t141⟩, A530, H⟩ := H); (replace H : (laws_FnAnswers.l1 kj48 t102 t108 t109 t140 t141 false 0) = some r := H); (have A53 := Aside0.mk A530); clear A530; (have H' := Aside0.mk H); clear H; (go_wp2_with (first | ((with_reducible refine gate_callee (f := 23) rfl ?_); refine gL (some 142) Tryd.func23 #[.slice Ao9 t102.length co9, .slice Ao10 t105.length co10, .string t108, .string t109] ?_; (with_reducible refine (impl_SetAnswer.calls kj48 _ _ t102 _ _ t105 t108 t109 t140 t141 _ ?side1 ?side2 ?side3 ?side4 A53.out).mono ?_); (case side1 => repeat (first | exact Q177 | (with_reducible first | refine cA ?_ _ | refine cN ?_ _ | refine cD ?_))); (case side2 => exact Q178); (case side3 => repeat (first | exact Q179 | (with_reducible first | refine cA ?_ _ | refine cN ?_ _ | refine cD ?_))); (case side4 => exact Q180); rintro e w54 ⟨v142, rfl, ho0, hb⟩; refine ⟨_, rfl, ?_⟩; have n0_ := Aside0.mk (Kd.N_elder' Q19 (Kd.R_base ho0) hb); have n1_ := Aside0.mk (Kd.R_elder' Q14 (Kd.R_base ho0) hb); have n2_ := Aside0.mk (Kd.R_lower (Kd.R_new' ho0 (Kd.R_lt Q14)) (below_size Q87)); have n3_ := Aside0.mk (below_step Q87 hb); clear HO_3 HO_4 HB; have HO_3 := n0_; have HO_4 := n1_; have HO143 := n2_; have HB := n3_; clear n0_ n1_ n2_ n3_; (try clear hb); (try clear hb2); (try clear hk); (try clear hi); (try clear ho0)))); (go_loopg [25, 26] kj48 (fun kq v25 v26 w' => ∃ (x25_5 : Bool) (x26_5 : Int), v25 = .bool x25_5 ∧ v26 = .int .i64 x26_5 ∧ Aside0 (laws_FnAnswers.l1 kq t102 t108 t109 t140 t141 x25_5 x26_5 = some r) ∧ Aside0 (kq ≤ kj48) ∧ Aside0 (Kd.N k54 54 w' w.heap.size (fun k_ => some k_ ≠ (v142 : Value).ownBlock) (.slice Ao9 t102.length co9) t102) ∧ Aside0 (Kd.R k51 51 w' w.heap.size (fun _ => True) v142 t140) ∧ Aside0 (Below w.heap.size w w')))
               case atStart => exact ⟨(false), (0), Q32, Q32, H', ⟨Nat.le_refl _⟩, ⟨by (with_reducible repeat (first | apply Kd.N_alloc | apply Kd.N_drewN | apply Kd.N_drew)); exact Kd.N_mono HO_3.out (fun _ hk => hk.2)⟩, ⟨by (with_reducible repeat (first | apply rA | apply rN | apply rD)); exact Kd.R_mono HO143.out (fun _ hk => trivial)⟩, ⟨Q87⟩⟩
               case round =>
                (clear H'); (try clear c1); (try clear p1); (try clear q1); (try clear hx1); (try clear c2); (try clear p2); (try clear c3); (try clear c4); (try clear c5); (try clear p6); (try clear c13); (try clear c13b0); (try clear c13b1); (try clear c13b2); (try clear p13); (try clear q13); (try clear hx13); (try clear c14); (try clear c15); (try clear c16); (try clear c17); (try clear c18); (try clear c19); (try clear c22); (try clear c23); (try clear c29); (try clear c30); (try clear c31); (try clear c32); (try clear c34); (try clear c41); (try clear c44); (try clear c44b0); (try clear c45); (try clear c46); (try clear c46b0); (try clear c51); (try clear c52); (try clear hx139_0); (try clear p1); (try clear p13); (try clear p139); (try clear p2); (try clear p6); (try clear q1); (try clear q13); (try clear q139); (obtain ⟨x25_5, x26_5, rfl, rfl, HA, HK5, HO_3, HO_23, HB⟩ := hrel)
                cases gk with
                | zero => exact absurd HA.out (by simp [laws_FnAnswers.l1])
                | succ k5 =>
                 (have H := HA.out); clear HA; (simp only [laws_FnAnswers.l1] at H); (by_cases c55 : x26_5 < (t140.length : Int))
                 ·rw [if_pos c55] at H
                  (have c55b0 : decide (x26_5 < (t140.length : Int)) = true := decide_eq_true c55); clear c55; (by_cases c56 : x25_5 = true)
                  ·subst c56
                   (rw [if_pos rfl] at H); (have H' := Aside0.mk H); clear H; (obtain ⟨Ao57, co57, eo57⟩ := Kd.R_slice HO_23.out); subst eo57; (go_wp2); go_roundg k5
                   case measure => have := HJ6.out; have := HJ22.out; have := HK3.out; have := HJ48.out; have := HK5.out; omega
                   case rel => exact ⟨(true), (wrap64 (x26_5 + 1)), Q32, Q32, H', ⟨Q190⟩, ⟨Q19⟩, ⟨Q191⟩, ⟨Q87⟩⟩
                  ·replace c56 := Bool.eq_false_iff.mpr c56
                   subst c56; (rw [if_neg (show ¬ (false = true) by decide)] at H); (by_cases c58 : 0 ≤ x26_5)
                   ·rw [if_pos c58] at H
                    (have c58b0 : decide (0 ≤ x26_5) = true := decide_eq_true c58); clear c58; (by_cases c59 : ((rd_T51 t140 x26_5).f0).toList = t108.toList)
                    ·rw [if_pos c59] at H
                     (have c59b0 : (((rd_T51 t140 x26_5).f0).toList == t108.toList) = true := beq_iff_eq.mpr c59); (have c59b1 : (((rd_T51 t140 x26_5).f0).toList != t108.toList) = false := bne_eq_false_iff_eq.mpr c59); clear c59; (have H' := Aside0.mk H); clear H; (obtain ⟨Ao60, co60, eo60⟩ := Kd.R_slice HO_23.out); subst eo60; (have p144 : 0 ≤ (x26_5 : Int) := of_decide_eq_true Q33); (have q144 : x26_5 < (t140.length : Int) := of_decide_eq_true Q33); (obtain ⟨ad144, e144, hx144_0, hx144_1⟩ := at_T51 (Kd.R_reads' HO_23.out).2.2 x26_5 p144 q144); (cases e144); (replace p144 := eq_true p144); (replace q144 := eq_true q144); (have p145 : 0 ≤ (x26_5 : Int) := of_decide_eq_true Q33); (have q145 : x26_5 < (t140.length : Int) := of_decide_eq_true Q33); (obtain ⟨ad145, e145, hx145_0, hx145_1⟩ := at_T51 (Kd.R_reads' HO_23.out).2.2 x26_5 p145 q145); (obtain rfl : ad144 = ad145 := (by injection e145)); (replace p145 := eq_true p145); (replace q145 := eq_true q145); (go_wp2); go_roundg k5
                     case measure => have := HJ6.out; have := HJ22.out; have := HK3.out; have := HJ48.out; have := HK5.out; omega
                     case rel => exact ⟨((((rd_T51 t140 x26_5).f1).toList == t109.toList)), (wrap64 (x26_5 + 1)), Q32, Q32, H', ⟨Q190⟩, ⟨Q19⟩, ⟨Q191⟩, ⟨Q87⟩⟩
                    ·rw [if_neg c59] at H
                     (have c59b0 : (((rd_T51 t140 x26_5).f0).toList == t108.toList) = false := beq_eq_false_iff_ne.mpr c59); (have c59b1 : (((rd_T51 t140 x26_5).f0).toList != t108.toList) = true := bne_iff_ne.mpr c59); (have H' := Aside0.mk H); clear H; (obtain ⟨Ao61, co61, eo61⟩ := Kd.R_slice HO_23.out); subst eo61; (have p144 : 0 ≤ (x26_5 : Int) := of_decide_eq_true Q33); (have q144 : x26_5 < (t140.length : Int) := of_decide_eq_true Q33); (obtain ⟨ad144, e144, hx144_0, hx144_1⟩ := at_T51 (Kd.R_reads' HO_23.out).2.2 x26_5 p144 q144); (cases e144); (replace p144 := eq_true p144); (replace q144 := eq_true q144); (go_wp2); go_roundg k5
                     case measure => have := HJ6.out; have := HJ22.out; have := HK3.out; have := HJ48.out; have := HK5.out; omega
                     case rel => exact ⟨(false), (wrap64 (x26_5 + 1)), Q32, Q32, H', ⟨Q190⟩, ⟨Q19⟩, ⟨Q191⟩, ⟨Q87⟩⟩
                   ·rw [if_neg c58] at H
                    exact Q1
                 ·rw [if_neg c55] at H
                  (have c55b0 : decide (x26_5 < (t140.length : Int)) = false := decide_eq_false c55); clear c55; (by_cases c62 : t141 = true)
                  ·subst c62
                   (rw [if_pos rfl] at H); (by_cases c63 : x25_5 = true)
                   ·subst c63
                    (rw [if_pos rfl] at H); (replace H := Option.bind_eq_some_iff.mp H); (obtain ⟨t146, A640, H⟩ := H); (have A64 := Aside0.mk A640); clear A640; (obtain rfl := Option.some.inj H); (obtain ⟨Ao65, co65, eo65⟩ := Kd.R_slice HO_23.out); subst eo65; (go_wp2_with (first | (go_at_call 24; (with_reducible refine (impl_IsValidAnswers.calls k5 _ _ t102 _ _ t140 t146 _ ?side1 ?side2 ?side3 ?side4 A64.out).mono ?_); (case side1 => repeat (first | exact Q177 | (with_reducible first | refine cA ?_ _ | refine cN ?_ _ | refine cD ?_))); (case side2 => exact Q178); (case side3 => repeat (first | exact (Kd.R_reads' HO_23.out).2.2 | (with_reducible first | refine cA ?_ _ | refine cN ?_ _ | refine cD ?_))); (case side4 => exact (Kd.R_reads' HO_23.out).2.1); rintro e w66 ⟨rfl, hb⟩; have n0_ := Aside0.mk (Kd.N_below Q19 hb); have n1_ := Aside0.mk (Kd.R_below Q191 hb); have n2_ := Aside0.mk (below_step Q87 hb); clear HO_3 HO_23 HB; have HO_3 := n0_; have HO_23 := n1_; have HB := n2_; clear n0_ n1_ n2_; (try clear hb); (try clear hb2); (try clear hk); (try clear hi)))); go_ret; (exact Q170)
                   ·replace c63 := Bool.eq_false_iff.mpr c63
                    subst c63; (rw [if_neg (show ¬ (false = true) by decide)] at H); (obtain rfl := Option.some.inj H); (exact Q176)
                  ·replace c62 := Bool.eq_false_iff.mpr c62
                   subst c62; (rw [if_neg (show ¬ (false = true) by decide)] at H); (obtain rfl := Option.some.inj H); (obtain ⟨Ao68, co68, eo68⟩ := Kd.R_slice HO_23.out); subst eo68; (go_wp2); go_ret; (exact Q170)
     ·replace c18 := Bool.eq_false_iff.mpr c18
      subst c18; (rw [if_neg (show ¬ (false = true) by decide)] at H); (obtain rfl := Option.some.inj H); (obtain ⟨Ao69, co69, eo69⟩ := Kd.R_slice HO_7.out); subst eo69; (go_wp2); go_ret; (exact Q170)
end Go.Proofs.YtiaiohoadefgjaaDoor.X
set_option linter.unusedVariables false
set_option linter.unusedSimpArgs false
namespace Go.Proofs.YtiaiohoadefgjaaDoor.Open
open Go.RowKit Go.Proofs.YtiaiohoadefgjaaDoorW.PrintWords
def Opens (P : Program) (t : TypeId) {α : Type} (d : Kd α) (good : α → Prop) : Prop :=
 ∀ (H : Type) (enc : TypeId × Value → H) (w : World) (fuel : Nat) (cs : List Value) (x : DataW H × List MemPlace),
  DataW.trod enc P w 0 (fun _ => true) true fuel t cs = some x → ∃ a, d.K w a cs ∧ good a
theorem opens_int {P : Program} {t : TypeId} {k : IntKind} (ht : P.underlying t = some (.int k)) : Opens P t (Kd.int k) (fun n => (Lit.int k n).wf = true) := by
 intro H enc w fuel cs x hx
 obtain ⟨n, rfl, _, hw⟩ := DataW.trod_int ht hx
 exact ⟨n, rfl, hw⟩
theorem cells_each {w : World} {a : Addr} {n : Nat} {cs : List Value} (h : w.cells? 0 a n = some cs) : cs.length = n ∧ ∀ i u, cs[i]? = some u → w.cell? (a.add i) = some u := by
 have h1 := World.cells?_some h
 refine ⟨h1.2.1, fun i u hu => ?_⟩
 have hi : i < n := by
  have := (List.getElem?_eq_some_iff.1 hu).1
  omega
 rw [h1.2.2 i hi, hu]
theorem opens_slice {P : Program} {t e : TypeId} {α : Type} {d : Kd α} {g : α → Prop} (ht : P.underlying t = some (.slice e)) (hsz : P.cellsOf e = d.sz) (h : Opens P e d g) :
  Opens P t (Kd.slice e d) (fun xs => xs.length ≤ 9223372036854775807 ∧ ∀ x ∈ xs, g x) := by
 intro H enc w fuel cs x hx
 rcases DataW.trod_slice ht hx with ⟨rfl, _⟩ | ⟨a, len, cap, elems, rest, n, rfl, rfl, _, _, hlc, hcap, hel, hget, _, _⟩
 ·exact ⟨[], ⟨none, 0, rfl, Nat.le_refl _, Kd.C_nil d w⟩, by simp, by simp⟩
 ·simp only [maxLen] at hcap
  have each : ∀ i, i < len → ∃ b : α, ∃ c : List Value, c.length = d.sz ∧ d.K w b c ∧ g b ∧ ∀ j u, c[j]? = some u → w.cell? (a.add (i * d.sz + j)) = some u := by
   intro i hi
   have h1 := hget i hi
   obtain ⟨y, hy⟩ : ∃ y, elems[i]? = some y := ⟨_, List.getElem?_eq_getElem (by omega)⟩
   rw [hy] at h1
   obtain ⟨c, hc, ht'⟩ := Option.bind_eq_some_iff.1 h1
   obtain ⟨b, hK, hg⟩ := h H enc w n c y ht'
   obtain ⟨hl, hcell⟩ := cells_each hc
   refine ⟨b, c, hl.trans hsz, hK, hg, fun j u hu => ?_⟩
   have := hcell j u hu
   rw [Deep.add_add, hsz] at this
   exact this
  have mk : ∀ m, m ≤ len → ∃ xs : List α, xs.length = m ∧ (∀ x ∈ xs, g x) ∧ ∀ j p, xs[j]? = some p → ∃ c, c.length = d.sz ∧ d.K w p c ∧ ∀ i u, c[i]? = some u → w.cell? (a.add (j * d.sz + i)) = some u := by
   intro m
   induction m with
   | zero => exact fun _ => ⟨[], rfl, by simp, by simp⟩
   | succ m ih =>
    intro hm
    obtain ⟨xs, hl, hg, hx⟩ := ih (by omega)
    obtain ⟨b, c, hc1, hc2, hc3, hc4⟩ := each m (by omega)
    refine ⟨xs ++ [b], by simp [hl], ?_, ?_⟩
    ·intro x hx'
     rcases List.mem_append.1 hx' with hx' | hx'
     ·exact hg x hx'
     ·rw [List.mem_singleton.1 hx']; exact hc3
    ·intro j p hj
     by_cases hjm : j < m
     ·rw [List.getElem?_append_left (by omega)] at hj
      exact hx j p hj
     ·have hlt := (List.getElem?_eq_some_iff.1 hj).1
      simp only [List.length_append, List.length_cons, List.length_nil] at hlt
      obtain rfl : j = m := by omega
      rw [List.getElem?_append_right (by omega), hl, Nat.sub_self] at hj
      simp only [List.getElem?_cons_zero, Option.some.injEq] at hj
      subst hj
      exact ⟨c, hc1, hc2, hc4⟩
  obtain ⟨ys, hl, hg, hy⟩ := mk len (Nat.le_refl _)
  subst hl
  exact ⟨ys, ⟨some a, cap, rfl, hlc, rfl, by omega, fun _ => ⟨a, rfl, hy⟩⟩, by omega, hg⟩
theorem arg_slice {P : Program} {W : World} {H : Type} {enc : TypeId × Value → H} {t e : TypeId} {α : Type} {d : Kd α} {g : List α → Prop} {v : Value} {x : DataW H} {p : List MemPlace} (h : Opens P t (Kd.slice e d) g)
  (hs : ∃ a len cap, v = .slice a len cap) (hv : DataW.Trod enc P W 0 (fun _ => true) true t v x p) : ∃ A c xs, v = .slice A xs.length c ∧ xs.length ≤ c ∧ Kd.C d W A xs.length xs ∧ g xs := by
 obtain ⟨a, len, cap, rfl⟩ := hs
 obtain ⟨fuel, hf⟩ := hv
 obtain ⟨xs, ⟨A, c, he, hl, hc⟩, hg⟩ := h H enc W fuel _ _ hf
 simp [Value.cells] at he
 obtain ⟨rfl, rfl, rfl⟩ := he
 exact ⟨_, _, xs, rfl, hl, hc, hg⟩
end Go.Proofs.YtiaiohoadefgjaaDoor.Open
set_option linter.unusedVariables false
namespace Go.Proofs.YtiaiohoadefgjaaDoor.X
open Go.RowKit Go.Proofs.YtiaiohoadefgjaaDoorW.PrintWords Go.Proofs.YtiaiohoadefgjaaDoor.Open
theorem op5 : Opens Tryd.prog 5 (Kd.int .u8) (fun n => (Lit.int .u8 n).wf = true) := opens_int Tryd.underlying5
theorem op22 : Opens Tryd.prog 22 (Kd.slice 5 (Kd.int .u8)) (fun xs => (xs.length ≤ 9223372036854775807 ∧ ∀ y ∈ xs, (Lit.int .u8 y).wf = true)) := opens_slice Tryd.underlying22 (by kernel_rfl) op5
end Go.Proofs.YtiaiohoadefgjaaDoor.X
namespace Go.Proofs.YtiaiohoadefgjaaDoor.X
open Go.RowKit Go.Proofs.YtiaiohoadefgjaaDoorW.PrintWords
def PureFnAnswers : Prop := ∀ (a0 : List (Int)), (a0.length ≤ 9223372036854775807 ∧ ∀ y ∈ a0, (Lit.int .u8 y).wf = true) → ∃ k, laws_FnAnswers.f k a0 = some true
end Go.Proofs.YtiaiohoadefgjaaDoor.X
