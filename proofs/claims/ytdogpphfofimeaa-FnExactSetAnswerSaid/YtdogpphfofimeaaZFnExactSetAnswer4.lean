/- For all forms, answers, names and texts the law FnExactSetAnswer answers true. No condition beyond what a reading tells.
This file (part 4 of 4) holds what the proof needs: plain functions with rounds and contracts written by programs of this work over the translation, and the lemmas. -/
import Derived.Test.YtdogpphfofimeaaZFnExactSetAnswer2
import Derived.Test.YtdogpphfofimeaaZFnExactSetAnswer3
import Derived.Test.YtdogpphfofimeaaZFnExactSetAnswer1
import Derived.ChangeArms
import Derived.DataReads
import Derived.Deep.Slices
import Derived.ChangeOld
import Derived.OpenShut
import Derived.Lib.Strings
import Derived.Test.YtdogpphfofimeaaRows
import Derived.WalkKit
import Derived.ProofKit
import Derived.ShutString
import Derived.Below
import Derived.SizedLaws
import Derived.Lib.SmallJoins
namespace Go.Proofs.Ytdogpphfofimeaa.X
open Go.RowKit Go.Proofs.YtdogpphfofimeaaW.PrintWords Go.Proofs.YtdogpphfofimeaaW.PrintLast Go.Proofs.YtdogpphfofimeaaW.PrintMore
attribute [local go_sem] max2_int min2_int max_two min_two max_three min_three max_four min_four   -- for this text's walks alone
set_option linter.unusedVariables false
set_option linter.unusedSimpArgs false
attribute [-simp] ByteArray.size_append ByteArray.size_extract
attribute [-go_sem] ByteArray.size_append'

/-! ### laws_szFieldS: function 8 -/
def laws_szFieldS.l0 : Nat → List (S49) → Int → Int → Option (Int)
 | 0, _, _, _ => none
 | k + 1, x0, x1, x5 => if x5 < (x0.length : Int) then (if 0 ≤ x5 then ((laws_szField.f k ((rd_T49 x0 x5).f0) ((rd_T49 x0 x5).f1) ((rd_T49 x0 x5).f2) ((rd_T49 x0 x5).f3) ((rd_T49 x0 x5).f4) ((rd_T49 x0 x5).f5) ((rd_T49 x0 x5).f6) x1).bind fun t102 => (if t102 < 0 then (some (-1)) else (laws_szFieldS.l0 k x0 t102 (wrap64 (x5 + 1))))) else (none)) else (some x1)
def laws_szFieldS.f (k : Nat) (l0 : List (S49)) (a1 : Int) : Option (Int) := if (wrap64 (a1 - (l0.length : Int))) < 0 then (some (-1)) else (laws_szFieldS.l0 k l0 (wrap64 (a1 - (l0.length : Int))) 0)
set_option maxHeartbeats 8000000 in
set_option maxRecDepth 100000 in
theorem laws_szFieldS.calls (k : Nat) (A0 : Option Addr) (c0 : Nat) (l0 : List (S49)) (a1 : Int) (r : Int) (w : World) (hr0 : Kd.C k49 w A0 l0.length l0) (hc0 : l0.length ≤ c0) (h : laws_szFieldS.f k l0 a1 = some r) :
  Calls Try.prog 8 #[.slice A0 l0.length c0, .int .i64 a1] w fun e w' => e = .returned (.int .i64 r) ∧ Below w.heap.size w w' := by
 (have hu49 := Try.underlying49); (have HR0 := Aside0.mk hr0); (have HC0 := Aside0.mk hc0); clear hr0 hc0; (have HB := Aside0.mk (Below.refl w.heap.size w)); (unfold laws_szFieldS.f at h); (have H := h); clear h; (by_cases c3 : (wrap64 (a1 - (l0.length : Int))) < 0); (· (rw [if_pos c3] at H); (have c3b0 := decide_eq_true c3); clear c3; (obtain rfl := Option.some.inj H); (go_enter Try.func8, Try.ntmps8); (go_wp2); go_ret; (exact ⟨rfl, eI HB⟩))
 ·rw [if_neg c3] at H
  (have c3b0 := decide_eq_false c3); clear c3; (have H' := Aside0.mk H); clear H; (go_enter Try.func8, Try.ntmps8); (go_wp2); (go_loopg [1, 5] k (fun kq v1 v5 w' => ∃ (x1_1 : Int) (x5_1 : Int), v1 = .int .i64 x1_1 ∧ v5 = .int .i64 x5_1 ∧ Aside0 (laws_szFieldS.l0 kq l0 x1_1 x5_1 = some r) ∧ Aside0 (kq ≤ k) ∧ Aside0 (Below w.heap.size w w')))
  case atStart => exact ⟨(wrap64 (a1 - (l0.length : Int))), (0), (by first | rfl | (simp; done) | (simp [*]; done)), (by first | rfl | (simp; done) | (simp [*]; done)), H', ⟨Nat.le_refl _⟩, ⟨eI HB⟩⟩
  case round =>
   (clear H'); (try clear p2); (try clear c3); (try clear c3b0); (obtain ⟨x1_1, x5_1, rfl, rfl, HA, HK1, HB⟩ := hrel)
   cases gk with
   | zero => exact absurd HA.out (by simp [laws_szFieldS.l0])
   | succ k1 =>
    (have H := HA.out); clear HA; (simp only [laws_szFieldS.l0] at H); (by_cases c4 : x5_1 < (l0.length : Int))
    ·rw [if_pos c4] at H
     (have c4b0 := decide_eq_true c4); clear c4; (by_cases c5 : 0 ≤ x5_1)
     ·rw [if_pos c5] at H
      (have c5b0 := decide_eq_true c5); clear c5; (obtain ⟨t102, A6, H⟩ := obS H); (by_cases c7 : t102 < 0)
      ·rw [if_pos c7] at H
       (have c7b0 := decide_eq_true c7); clear c7; (obtain rfl := Option.some.inj H); (have p101 : 0 ≤ (x5_1 : Int) := odt); (have q101 : x5_1 < (l0.length : Int) := odt); (obtain ⟨ad101, A101_4, c101_4, e101, hx101_0, hx101_1, hx101_2, hx101_3, hx101_4, hx101_5, hx101_6, hl101_4, hi101_4⟩ := at_T49 HR0.out x5_1 p101 q101); (cases e101); (replace hx101_0 := hcI HB hx101_0); (replace hx101_1 := hcI HB hx101_1); (replace hx101_2 := hcI HB hx101_2); (replace hx101_3 := hcI HB hx101_3); (replace hx101_4 := hcI HB hx101_4); (replace hx101_5 := hcI HB hx101_5); (replace hx101_6 := hcI HB hx101_6); (have HR101_4 := Aside0.mk hi101_4); (have HC101_4 := Aside0.mk hl101_4); clear hi101_4 hl101_4; (replace p101 := eq_true p101); (replace q101 := eq_true q101); (go_wp2_with (first | ((with_reducible refine gate_callee (f := 30) rfl ?_); refine gL (some 23) Try.func30 #[.agg #[.string ((rd_T49 l0 x5_1).f0), .int .i64 ((rd_T49 l0 x5_1).f1), .int .i64 ((rd_T49 l0 x5_1).f2), .int .i64 ((rd_T49 l0 x5_1).f3), .slice A101_4 ((rd_T49 l0 x5_1).f4).length c101_4, .bool ((rd_T49 l0 x5_1).f5), .string ((rd_T49 l0 x5_1).f6)], .int .i64 x1_1] ?_; (with_reducible refine (laws_szField.calls k1 ((rd_T49 l0 x5_1).f0) ((rd_T49 l0 x5_1).f1) ((rd_T49 l0 x5_1).f2) ((rd_T49 l0 x5_1).f3) _ _ ((rd_T49 l0 x5_1).f4) ((rd_T49 l0 x5_1).f5) ((rd_T49 l0 x5_1).f6) x1_1 t102 _ ?side1 ?side2 A6.out).mono ?_); (case side1 => exact Kd.C_below HR101_4.out (eI HB)); (case side2 => exact HC101_4.out); rintro e w8 ⟨rfl, hb⟩; refine ⟨_, rfl, ?_⟩; have n0_ := Aside0.mk (sI hb HB); clear HB; have HB := n0_; clear n0_; (try clear hb); (try clear hb2); (try clear hk); (try clear hi)))); go_ret; (exact ⟨rfl, eI HB⟩)
      ·rw [if_neg c7] at H
       (have c7b0 := decide_eq_false c7); clear c7; (have H' := Aside0.mk H); clear H; (have p101 : 0 ≤ (x5_1 : Int) := odt); (have q101 : x5_1 < (l0.length : Int) := odt); (obtain ⟨ad101, A101_4, c101_4, e101, hx101_0, hx101_1, hx101_2, hx101_3, hx101_4, hx101_5, hx101_6, hl101_4, hi101_4⟩ := at_T49 HR0.out x5_1 p101 q101); (cases e101); (replace hx101_0 := hcI HB hx101_0); (replace hx101_1 := hcI HB hx101_1); (replace hx101_2 := hcI HB hx101_2); (replace hx101_3 := hcI HB hx101_3); (replace hx101_4 := hcI HB hx101_4); (replace hx101_5 := hcI HB hx101_5); (replace hx101_6 := hcI HB hx101_6); (have HR101_4 := Aside0.mk hi101_4); (have HC101_4 := Aside0.mk hl101_4); clear hi101_4 hl101_4; (replace p101 := eq_true p101); (replace q101 := eq_true q101); (go_wp2_with (first | ((with_reducible refine gate_callee (f := 30) rfl ?_); refine gL (some 23) Try.func30 #[.agg #[.string ((rd_T49 l0 x5_1).f0), .int .i64 ((rd_T49 l0 x5_1).f1), .int .i64 ((rd_T49 l0 x5_1).f2), .int .i64 ((rd_T49 l0 x5_1).f3), .slice A101_4 ((rd_T49 l0 x5_1).f4).length c101_4, .bool ((rd_T49 l0 x5_1).f5), .string ((rd_T49 l0 x5_1).f6)], .int .i64 x1_1] ?_; (with_reducible refine (laws_szField.calls k1 ((rd_T49 l0 x5_1).f0) ((rd_T49 l0 x5_1).f1) ((rd_T49 l0 x5_1).f2) ((rd_T49 l0 x5_1).f3) _ _ ((rd_T49 l0 x5_1).f4) ((rd_T49 l0 x5_1).f5) ((rd_T49 l0 x5_1).f6) x1_1 t102 _ ?side1 ?side2 A6.out).mono ?_); (case side1 => exact Kd.C_below HR101_4.out (eI HB)); (case side2 => exact HC101_4.out); rintro e w9 ⟨rfl, hb⟩; refine ⟨_, rfl, ?_⟩; have n0_ := Aside0.mk (sI hb HB); clear HB; have HB := n0_; clear n0_; (try clear hb); (try clear hb2); (try clear hk); (try clear hi)))); go_roundg k1
       case measure => have := HK1.out; omega
       case rel => exact ⟨(t102), (wrap64 (x5_1 + 1)), (by first | rfl | (simp; done) | (simp [*]; done)), (by first | rfl | (simp; done) | (simp [*]; done)), H', ⟨by have := HK1.out; omega⟩, ⟨eI HB⟩⟩
     ·rw [if_neg c5] at H
      exact absurd H (by simp)
    ·rw [if_neg c4] at H
     (have c4b0 := decide_eq_false c4); clear c4; (obtain rfl := Option.some.inj H); (go_wp2); go_ret; (exact ⟨rfl, eI HB⟩)

end Go.Proofs.Ytdogpphfofimeaa.X
namespace Go.Proofs.Ytdogpphfofimeaa.X
open Go.RowKit Go.Proofs.YtdogpphfofimeaaW.PrintWords Go.Proofs.YtdogpphfofimeaaW.PrintLast Go.Proofs.YtdogpphfofimeaaW.PrintMore
set_option linter.unusedVariables false
set_option linter.unusedSimpArgs false
def laws_FnExactSetAnswer.f (k : Nat) (l0 : List (S49)) (l1 : List (S56)) (a2 : ByteArray) (a3 : ByteArray) : Option Bool := if (a2.size : Int) > 1048576 then some true else if (a3.size : Int) > 1048576 then some true else (laws_szFieldS.f k l0 1048576).bind fun t1 => if t1 < 0 then some true else (laws_szAnswerS.f k l1 t1).bind fun t6 => if t6 < 0 then some true else (laws_toFieldS.f k l0).bind fun t11 => (laws_toAnswerS.f k l1).bind fun t24 => (spec_SetAnswer.f k t11 t24 a2 a3).bind fun ⟨t37, t38⟩ => (laws_toFieldS.f k l0).bind fun t53 => (laws_toAnswerS.f k l1).bind fun t66 => (impl_SetAnswer.f k t53 t66 a2 a3).bind fun ⟨t79, t80⟩ => (laws_eqAnswerS.f k t79 t37).bind fun t95 => if t95 = true then if t80 = t38 then (laws_toFieldS.f k l0).bind fun t102 => (laws_eqFieldS.f k t53 t102).bind fun t115 => if t115 = true then (laws_toAnswerS.f k l1).bind fun t122 => (laws_eqAnswerS.f k t66 t122).bind fun t135 => if t135 = true then (laws_markFieldS.f k t53 1).bind fun ⟨t142, t143⟩ => (laws_markAnswerS.f k t66 t142).bind fun ⟨t148, t149⟩ => if ¬ t148 < 0 then (laws_eqAnswerS.f k t79 t37).bind fun t154 => if t154 = true then if t80 = t38 then (laws_markAnswerS.f k t79 1).bind fun ⟨t161, t162⟩ => (laws_heldAnswerS.f k t162 1).bind fun t167 => if ¬ t167 < 0 then if t167 = t161 then (laws_toFieldS.f k l0).bind fun t172 => (laws_toAnswerS.f k l1).bind fun t185 => (impl_SetAnswer.f k t172 t185 a2 a3).bind fun ⟨t198, t199⟩ => (laws_eqAnswerS.f k t198 t37).bind fun t214 => if t214 = true then if t199 = t38 then (laws_heldAnswerS.f k t162 1).bind fun t221 => if ¬ t221 < 0 then if t221 = t161 then some true else none else none else none else none else none else none else none else none else none else none else none else none else none
set_option maxHeartbeats 8000000 in
set_option maxRecDepth 100000 in
theorem laws_FnExactSetAnswer.calls (k : Nat) (A0 : Option Addr) (c0 : Nat) (l0 : List (S49)) (A1 : Option Addr) (c1 : Nat) (l1 : List (S56)) (a2 : ByteArray) (a3 : ByteArray) (r : Bool) (w : World) (hr0 : Kd.C k49 w A0 l0.length l0) (hc0 : l0.length ≤ c0) (hr1 : Kd.C k56 w A1 l1.length l1) (hc1 : l1.length ≤ c1) (h : laws_FnExactSetAnswer.f k l0 l1 a2 a3 = some r) :
  Calls Try.prog 5 #[.slice A0 l0.length c0, .slice A1 l1.length c1, .string a2, .string a3] w fun e w' => e = .returned (.bool r) ∧ Below w.heap.size w w' := by
 have HR0 := Aside0.mk hr0
 have HC0 := Aside0.mk hc0
 clear hr0 hc0
 have HR1 := Aside0.mk hr1
 have HC1 := Aside0.mk hc1
 clear hr1 hc1
 have HB := Aside0.mk (Below.refl w.heap.size w)
 have HS := Aside0.mk (Nat.le_refl w.heap.size)
 unfold laws_FnExactSetAnswer.f at h
 have H := h
 clear h
 by_cases c226 : (a2.size : Int) > 1048576
 ·rw [if_pos c226] at H
  have c226b := decide_eq_true c226
  clear c226
  obtain rfl := Option.some.inj H
  go_enter Try.func5, Try.ntmps5
  go_wp2
  go_ret
  exact ⟨rfl, eI HB⟩
 rw [if_neg c226] at H
 have c226b := decide_eq_false c226
 clear c226
 by_cases c227 : (a3.size : Int) > 1048576
 ·rw [if_pos c227] at H
  have c227b := decide_eq_true c227
  clear c227
  obtain rfl := Option.some.inj H
  go_enter Try.func5, Try.ntmps5
  go_wp2
  go_ret
  exact ⟨rfl, eI HB⟩
 rw [if_neg c227] at H
 have c227b := decide_eq_false c227
 clear c227
 replace H := obS H; obtain ⟨t1, A_2, H⟩ := H
 by_cases c228 : t1 < 0
 ·rw [if_pos c228] at H
  have c228b := decide_eq_true c228
  clear c228
  obtain rfl := Option.some.inj H
  go_enter Try.func5, Try.ntmps5
  go_wp2_with (first | ((with_reducible refine gate_callee (f := 8) rfl ?_); refine gL (some 29) Try.func8 #[.slice A0 l0.length c0, .int .i64 1048576] ?_; (with_reducible refine (laws_szFieldS.calls k _ _ _ _ _ _ ?s_4 ?s_5 A_2.out).mono ?_); (case s_4 => exact Kd.C_below HR0.out (eI HB)); (case s_5 => exact HC0.out); rintro e w_3 ⟨rfl, hb⟩; refine ⟨_, rfl, ?_⟩; have n0_ := Aside0.mk (sI hb HB); have n1_ := Aside0.mk (leI hb HS); clear HB HS; have HB := n0_; have HS := n1_; clear n0_ n1_ hb))
  go_ret
  exact ⟨rfl, eI HB⟩
 rw [if_neg c228] at H
 have c228b := decide_eq_false c228
 clear c228
 replace H := obS H; obtain ⟨t6, A_7, H⟩ := H
 by_cases c229 : t6 < 0
 ·rw [if_pos c229] at H
  have c229b := decide_eq_true c229
  clear c229
  obtain rfl := Option.some.inj H
  go_enter Try.func5, Try.ntmps5
  go_wp2_with (first | ((with_reducible refine gate_callee (f := 8) rfl ?_); refine gL (some 29) Try.func8 #[.slice A0 l0.length c0, .int .i64 1048576] ?_; (with_reducible refine (laws_szFieldS.calls k _ _ _ _ _ _ ?s_4 ?s_5 A_2.out).mono ?_); (case s_4 => exact Kd.C_below HR0.out (eI HB)); (case s_5 => exact HC0.out); rintro e w_3 ⟨rfl, hb⟩; refine ⟨_, rfl, ?_⟩; have n0_ := Aside0.mk (sI hb HB); have n1_ := Aside0.mk (leI hb HS); clear HB HS; have HB := n0_; have HS := n1_; clear n0_ n1_ hb) | ((with_reducible refine gate_callee (f := 13) rfl ?_); refine gL (some 34) Try.func13 #[.slice A1 l1.length c1, .int .i64 t1] ?_; (with_reducible refine (laws_szAnswerS.calls k _ _ _ _ _ _ ?s_9 ?s_10 A_7.out).mono ?_); (case s_9 => exact Kd.C_below HR1.out (eI HB)); (case s_10 => exact HC1.out); rintro e w_8 ⟨rfl, hb⟩; refine ⟨_, rfl, ?_⟩; have n0_ := Aside0.mk (sI hb HB); have n1_ := Aside0.mk (leI hb HS); clear HB HS; have HB := n0_; have HS := n1_; clear n0_ n1_ hb))
  go_ret
  exact ⟨rfl, eI HB⟩
 rw [if_neg c229] at H
 have c229b := decide_eq_false c229
 clear c229
 replace H := obS H; obtain ⟨t11, A_12, H⟩ := H
 replace H := obS H; obtain ⟨t24, A_25, H⟩ := H
 replace H := obS H; obtain ⟨⟨t37, t38⟩, A_39, H⟩ := H
 replace H := obS H; obtain ⟨t53, A_54, H⟩ := H
 replace H := obS H; obtain ⟨t66, A_67, H⟩ := H
 replace H := obS H; obtain ⟨⟨t79, t80⟩, A_81, H⟩ := H
 replace H := obS H; obtain ⟨t95, A_96, H⟩ := H
 replace H := needS H; obtain ⟨c230, H⟩ := H
 subst c230
 replace H := needS H; obtain ⟨c231, H⟩ := H
 have c231b := bne_eq_false_iff_eq.mpr c231
 have c231d := beq_iff_eq.mpr c231
 clear c231
 replace H := obS H; obtain ⟨t102, A_103, H⟩ := H
 replace H := obS H; obtain ⟨t115, A_116, H⟩ := H
 replace H := needS H; obtain ⟨c232, H⟩ := H
 subst c232
 replace H := obS H; obtain ⟨t122, A_123, H⟩ := H
 replace H := obS H; obtain ⟨t135, A_136, H⟩ := H
 replace H := needS H; obtain ⟨c233, H⟩ := H
 subst c233
 replace H := obS H; obtain ⟨⟨t142, t143⟩, A_144, H⟩ := H
 replace H := obS H; obtain ⟨⟨t148, t149⟩, A_150, H⟩ := H
 replace H := needS H; obtain ⟨c234, H⟩ := H
 have c234b := decide_eq_false c234
 clear c234
 replace H := obS H; obtain ⟨t154, A_155, H⟩ := H
 replace H := needS H; obtain ⟨c235, H⟩ := H
 subst c235
 replace H := needS H; obtain ⟨c236, H⟩ := H
 have c236b := bne_eq_false_iff_eq.mpr c236
 have c236d := beq_iff_eq.mpr c236
 clear c236
 replace H := obS H; obtain ⟨⟨t161, t162⟩, A_163, H⟩ := H
 replace H := obS H; obtain ⟨t167, A_168, H⟩ := H
 replace H := needS H; obtain ⟨c237, H⟩ := H
 have c237b := decide_eq_false c237
 clear c237
 replace H := needS H; obtain ⟨c238, H⟩ := H
 have c238b := bne_eq_false_iff_eq.mpr c238
 have c238d := beq_iff_eq.mpr c238
 clear c238
 replace H := obS H; obtain ⟨t172, A_173, H⟩ := H
 replace H := obS H; obtain ⟨t185, A_186, H⟩ := H
 replace H := obS H; obtain ⟨⟨t198, t199⟩, A_200, H⟩ := H
 replace H := obS H; obtain ⟨t214, A_215, H⟩ := H
 replace H := needS H; obtain ⟨c239, H⟩ := H
 subst c239
 replace H := needS H; obtain ⟨c240, H⟩ := H
 have c240b := bne_eq_false_iff_eq.mpr c240
 have c240d := beq_iff_eq.mpr c240
 clear c240
 replace H := obS H; obtain ⟨t221, A_222, H⟩ := H
 replace H := needS H; obtain ⟨c241, H⟩ := H
 have c241b := decide_eq_false c241
 clear c241
 replace H := needS H; obtain ⟨c242, H⟩ := H
 have c242b := bne_eq_false_iff_eq.mpr c242
 have c242d := beq_iff_eq.mpr c242
 clear c242
 obtain rfl := Option.some.inj H
 go_enter Try.func5, Try.ntmps5
 go_wp2_with (first | ((with_reducible refine gate_callee (f := 8) rfl ?_); refine gL (some 29) Try.func8 #[.slice A0 l0.length c0, .int .i64 1048576] ?_; (with_reducible refine (laws_szFieldS.calls k _ _ _ _ _ _ ?s_4 ?s_5 A_2.out).mono ?_); (case s_4 => exact Kd.C_below HR0.out (eI HB)); (case s_5 => exact HC0.out); rintro e w_3 ⟨rfl, hb⟩; refine ⟨_, rfl, ?_⟩; have n0_ := Aside0.mk (sI hb HB); have n1_ := Aside0.mk (leI hb HS); clear HB HS; have HB := n0_; have HS := n1_; clear n0_ n1_ hb) | ((with_reducible refine gate_callee (f := 13) rfl ?_); refine gL (some 34) Try.func13 #[.slice A1 l1.length c1, .int .i64 t1] ?_; (with_reducible refine (laws_szAnswerS.calls k _ _ _ _ _ _ ?s_9 ?s_10 A_7.out).mono ?_); (case s_9 => exact Kd.C_below HR1.out (eI HB)); (case s_10 => exact HC1.out); rintro e w_8 ⟨rfl, hb⟩; refine ⟨_, rfl, ?_⟩; have n0_ := Aside0.mk (sI hb HB); have n1_ := Aside0.mk (leI hb HS); clear HB HS; have HB := n0_; have HS := n1_; clear n0_ n1_ hb) | ((with_reducible refine gate_callee (f := 10) rfl ?_); refine gL (some 39) Try.func10 #[.slice A0 l0.length c0] ?_; (with_reducible refine (laws_toFieldS.calls k _ _ _ _ _ ?s_14 ?s_15 A_12.out).mono ?_); (case s_14 => exact Kd.C_below HR0.out (eI HB)); (case s_15 => exact HC0.out); rintro e w_13 ⟨v17, rfl, ho16, hb⟩; refine ⟨_, rfl, ?_⟩; obtain ⟨lo18, hi19, hle_, hsz_, hin_⟩ := newRng HB HS hb; have ho_0 := Aside0.mk (hin_.s ho16); have n0_ := Aside0.mk (sI hb HB); have n1_ := Aside0.mk (hsz_); clear HB HS; have HB := n0_; have HS := n1_; clear n0_ n1_ hb; have HE20 := Aside0.mk hle_; clear hle_ hsz_ hin_ ho16; have HO23 := ho_0; clear ho_0; obtain ⟨Ao21, co22, e_⟩ := Kd.R_slice (Kd.S_R HO23.out); subst e_) | ((with_reducible refine gate_callee (f := 15) rfl ?_); refine gL (some 41) Try.func15 #[.slice A1 l1.length c1] ?_; (with_reducible refine (laws_toAnswerS.calls k _ _ _ _ _ ?s_27 ?s_28 A_25.out).mono ?_); (case s_27 => exact Kd.C_below HR1.out (eI HB)); (case s_28 => exact HC1.out); rintro e w_26 ⟨v30, rfl, ho29, hb⟩; refine ⟨_, rfl, ?_⟩; obtain ⟨lo31, hi32, hle_, hsz_, hin_⟩ := newRng HB HS hb; have ho_0 := Aside0.mk (hin_.r ho29); have n0_ := Aside0.mk (sbI hb HO23); have n1_ := Aside0.mk (sI hb HB); have n2_ := Aside0.mk (hsz_); clear HO23 HB HS; have HO23 := n0_; have HB := n1_; have HS := n2_; clear n0_ n1_ n2_ hb; have HE33 := Aside0.mk hle_; clear hle_ hsz_ hin_ ho29; have HO36 := ho_0; clear ho_0; obtain ⟨Ao34, co35, e_⟩ := Kd.R_slice (HO36.out); subst e_) | ((with_reducible refine gate_callee (f := 18) rfl ?_); refine gL (some 44) Try.func18 #[.slice Ao21 t11.length co22, .slice Ao34 t24.length co35, .string a2, .string a3] ?_; (with_reducible refine (spec_SetAnswer.calls k _ _ _ _ _ _ _ _ _ _ _ ?s_41 ?s_42 ?s_43 ?s_44 A_39.out).mono ?_); (case s_41 => exact (scI HO23).1); (case s_42 => exact (scR HO23).2); (case s_43 => exact (rcI HO36).1); (case s_44 => exact (rcR HO36).2); rintro e w_40 ⟨v46, rfl, ho45, hb⟩; refine ⟨_, rfl, ?_⟩; obtain ⟨lo47, hi48, hle_, hsz_, hin_⟩ := newRng HB HS hb; have ho_0 := Aside0.mk (hin_.r ho45); have n0_ := Aside0.mk (sbI hb HO23); have n1_ := Aside0.mk (rbI hb HO36); have n2_ := Aside0.mk (sI hb HB); have n3_ := Aside0.mk (hsz_); clear HO23 HO36 HB HS; have HO23 := n0_; have HO36 := n1_; have HB := n2_; have HS := n3_; clear n0_ n1_ n2_ n3_ hb; have HE49 := Aside0.mk hle_; clear hle_ hsz_ hin_ ho45; have HO52 := ho_0; clear ho_0; obtain ⟨Ao50, co51, e_⟩ := Kd.R_slice (HO52.out); subst e_) | ((with_reducible refine gate_callee (f := 10) rfl ?_); refine gL (some 48) Try.func10 #[.slice A0 l0.length c0] ?_; (with_reducible refine (laws_toFieldS.calls k _ _ _ _ _ ?s_56 ?s_57 A_54.out).mono ?_); (case s_56 => exact Kd.C_below HR0.out (eI HB)); (case s_57 => exact HC0.out); rintro e w_55 ⟨v59, rfl, ho58, hb⟩; refine ⟨_, rfl, ?_⟩; obtain ⟨lo60, hi61, hle_, hsz_, hin_⟩ := newRng HB HS hb; have ho_0 := Aside0.mk (hin_.s ho58); have n0_ := Aside0.mk (sbI hb HO23); have n1_ := Aside0.mk (rbI hb HO36); have n2_ := Aside0.mk (rbI hb HO52); have n3_ := Aside0.mk (sI hb HB); have n4_ := Aside0.mk (hsz_); clear HO23 HO36 HO52 HB HS; have HO23 := n0_; have HO36 := n1_; have HO52 := n2_; have HB := n3_; have HS := n4_; clear n0_ n1_ n2_ n3_ n4_ hb; have HE62 := Aside0.mk hle_; clear hle_ hsz_ hin_ ho58; have HO65 := ho_0; clear ho_0; obtain ⟨Ao63, co64, e_⟩ := Kd.R_slice (Kd.S_R HO65.out); subst e_) | ((with_reducible refine gate_callee (f := 15) rfl ?_); refine gL (some 50) Try.func15 #[.slice A1 l1.length c1] ?_; (with_reducible refine (laws_toAnswerS.calls k _ _ _ _ _ ?s_69 ?s_70 A_67.out).mono ?_); (case s_69 => exact Kd.C_below HR1.out (eI HB)); (case s_70 => exact HC1.out); rintro e w_68 ⟨v72, rfl, ho71, hb⟩; refine ⟨_, rfl, ?_⟩; obtain ⟨lo73, hi74, hle_, hsz_, hin_⟩ := newRng HB HS hb; have ho_0 := Aside0.mk (hin_.r ho71); have n0_ := Aside0.mk (sbI hb HO23); have n1_ := Aside0.mk (rbI hb HO36); have n2_ := Aside0.mk (rbI hb HO52); have n3_ := Aside0.mk (sbI hb HO65); have n4_ := Aside0.mk (sI hb HB); have n5_ := Aside0.mk (hsz_); clear HO23 HO36 HO52 HO65 HB HS; have HO23 := n0_; have HO36 := n1_; have HO52 := n2_; have HO65 := n3_; have HB := n4_; have HS := n5_; clear n0_ n1_ n2_ n3_ n4_ n5_ hb; have HE75 := Aside0.mk hle_; clear hle_ hsz_ hin_ ho71; have HO78 := ho_0; clear ho_0; obtain ⟨Ao76, co77, e_⟩ := Kd.R_slice (HO78.out); subst e_) | ((with_reducible refine gate_callee (f := 19) rfl ?_); refine gL (some 56) Try.func19 #[.slice Ao63 t53.length co64, .slice Ao76 t66.length co77, .string a2, .string a3] ?_; (with_reducible refine (impl_SetAnswer.calls k _ _ _ _ _ _ _ _ _ _ _ ?s_83 ?s_84 ?s_85 ?s_86 A_81.out).mono ?_); (case s_83 => exact (scI HO65).1); (case s_84 => exact (scR HO65).2); (case s_85 => exact (rcI HO78).1); (case s_86 => exact (rcR HO78).2); rintro e w_82 ⟨v88, rfl, ho87, hb⟩; refine ⟨_, rfl, ?_⟩; obtain ⟨lo89, hi90, hle_, hsz_, hin_⟩ := newRng HB HS hb; have ho_0 := Aside0.mk (hin_.r ho87); have n0_ := Aside0.mk (sbI hb HO23); have n1_ := Aside0.mk (rbI hb HO36); have n2_ := Aside0.mk (rbI hb HO52); have n3_ := Aside0.mk (sbI hb HO65); have n4_ := Aside0.mk (rbI hb HO78); have n5_ := Aside0.mk (sI hb HB); have n6_ := Aside0.mk (hsz_); clear HO23 HO36 HO52 HO65 HO78 HB HS; have HO23 := n0_; have HO36 := n1_; have HO52 := n2_; have HO65 := n3_; have HO78 := n4_; have HB := n5_; have HS := n6_; clear n0_ n1_ n2_ n3_ n4_ n5_ n6_ hb; have HE91 := Aside0.mk hle_; clear hle_ hsz_ hin_ ho87; have HO94 := ho_0; clear ho_0; obtain ⟨Ao92, co93, e_⟩ := Kd.R_slice (HO94.out); subst e_) | ((with_reducible refine gate_callee (f := 17) rfl ?_); refine gL (some 61) Try.func17 #[.slice Ao92 t79.length co93, .slice Ao50 t37.length co51] ?_; (with_reducible refine (laws_eqAnswerS.calls k _ _ _ _ _ _ _ _ ?s_98 ?s_99 ?s_100 ?s_101 A_96.out ⟨rfl⟩).mono ?_); (case s_98 => exact (rcI HO94).1); (case s_99 => exact (rcR HO94).2); (case s_100 => exact (rcI HO52).1); (case s_101 => exact (rcR HO52).2); rintro e w_97 ⟨rfl, hb⟩; refine ⟨_, rfl, ?_⟩; have n0_ := Aside0.mk (sbI hb HO23); have n1_ := Aside0.mk (rbI hb HO36); have n2_ := Aside0.mk (rbI hb HO52); have n3_ := Aside0.mk (sbI hb HO65); have n4_ := Aside0.mk (rbI hb HO78); have n5_ := Aside0.mk (rbI hb HO94); have n6_ := Aside0.mk (sI hb HB); have n7_ := Aside0.mk (leI hb HS); clear HO23 HO36 HO52 HO65 HO78 HO94 HB HS; have HO23 := n0_; have HO36 := n1_; have HO52 := n2_; have HO65 := n3_; have HO78 := n4_; have HO94 := n5_; have HB := n6_; have HS := n7_; clear n0_ n1_ n2_ n3_ n4_ n5_ n6_ n7_ hb) | ((with_reducible refine gate_callee (f := 10) rfl ?_); refine gL (some 70) Try.func10 #[.slice A0 l0.length c0] ?_; (with_reducible refine (laws_toFieldS.calls k _ _ _ _ _ ?s_105 ?s_106 A_103.out).mono ?_); (case s_105 => exact Kd.C_below HR0.out (eI HB)); (case s_106 => exact HC0.out); rintro e w_104 ⟨v108, rfl, ho107, hb⟩; refine ⟨_, rfl, ?_⟩; obtain ⟨lo109, hi110, hle_, hsz_, hin_⟩ := newRng HB HS hb; have ho_0 := Aside0.mk (hin_.s ho107); have n0_ := Aside0.mk (sbI hb HO23); have n1_ := Aside0.mk (rbI hb HO36); have n2_ := Aside0.mk (rbI hb HO52); have n3_ := Aside0.mk (sbI hb HO65); have n4_ := Aside0.mk (rbI hb HO78); have n5_ := Aside0.mk (rbI hb HO94); have n6_ := Aside0.mk (sI hb HB); have n7_ := Aside0.mk (hsz_); clear HO23 HO36 HO52 HO65 HO78 HO94 HB HS; have HO23 := n0_; have HO36 := n1_; have HO52 := n2_; have HO65 := n3_; have HO78 := n4_; have HO94 := n5_; have HB := n6_; have HS := n7_; clear n0_ n1_ n2_ n3_ n4_ n5_ n6_ n7_ hb; have HE111 := Aside0.mk hle_; clear hle_ hsz_ hin_ ho107; have HO114 := ho_0; clear ho_0; obtain ⟨Ao112, co113, e_⟩ := Kd.R_slice (Kd.S_R HO114.out); subst e_) | ((with_reducible refine gate_callee (f := 12) rfl ?_); refine gL (some 71) Try.func12 #[.slice Ao63 t53.length co64, .slice Ao112 t102.length co113] ?_; (with_reducible refine (laws_eqFieldS.calls k _ _ _ _ _ _ _ _ ?s_118 ?s_119 ?s_120 ?s_121 A_116.out ⟨rfl⟩).mono ?_); (case s_118 => exact (scI HO65).1); (case s_119 => exact (scR HO65).2); (case s_120 => exact (scI HO114).1); (case s_121 => exact (scR HO114).2); rintro e w_117 ⟨rfl, hb⟩; refine ⟨_, rfl, ?_⟩; have n0_ := Aside0.mk (sbI hb HO23); have n1_ := Aside0.mk (rbI hb HO36); have n2_ := Aside0.mk (rbI hb HO52); have n3_ := Aside0.mk (sbI hb HO65); have n4_ := Aside0.mk (rbI hb HO78); have n5_ := Aside0.mk (rbI hb HO94); have n6_ := Aside0.mk (sbI hb HO114); have n7_ := Aside0.mk (sI hb HB); have n8_ := Aside0.mk (leI hb HS); clear HO23 HO36 HO52 HO65 HO78 HO94 HO114 HB HS; have HO23 := n0_; have HO36 := n1_; have HO52 := n2_; have HO65 := n3_; have HO78 := n4_; have HO94 := n5_; have HO114 := n6_; have HB := n7_; have HS := n8_; clear n0_ n1_ n2_ n3_ n4_ n5_ n6_ n7_ n8_ hb) | ((with_reducible refine gate_callee (f := 15) rfl ?_); refine gL (some 75) Try.func15 #[.slice A1 l1.length c1] ?_; (with_reducible refine (laws_toAnswerS.calls k _ _ _ _ _ ?s_125 ?s_126 A_123.out).mono ?_); (case s_125 => exact Kd.C_below HR1.out (eI HB)); (case s_126 => exact HC1.out); rintro e w_124 ⟨v128, rfl, ho127, hb⟩; refine ⟨_, rfl, ?_⟩; obtain ⟨lo129, hi130, hle_, hsz_, hin_⟩ := newRng HB HS hb; have ho_0 := Aside0.mk (hin_.r ho127); have n0_ := Aside0.mk (sbI hb HO23); have n1_ := Aside0.mk (rbI hb HO36); have n2_ := Aside0.mk (rbI hb HO52); have n3_ := Aside0.mk (sbI hb HO65); have n4_ := Aside0.mk (rbI hb HO78); have n5_ := Aside0.mk (rbI hb HO94); have n6_ := Aside0.mk (sbI hb HO114); have n7_ := Aside0.mk (sI hb HB); have n8_ := Aside0.mk (hsz_); clear HO23 HO36 HO52 HO65 HO78 HO94 HO114 HB HS; have HO23 := n0_; have HO36 := n1_; have HO52 := n2_; have HO65 := n3_; have HO78 := n4_; have HO94 := n5_; have HO114 := n6_; have HB := n7_; have HS := n8_; clear n0_ n1_ n2_ n3_ n4_ n5_ n6_ n7_ n8_ hb; have HE131 := Aside0.mk hle_; clear hle_ hsz_ hin_ ho127; have HO134 := ho_0; clear ho_0; obtain ⟨Ao132, co133, e_⟩ := Kd.R_slice (HO134.out); subst e_) | ((with_reducible refine gate_callee (f := 17) rfl ?_); refine gL (some 76) Try.func17 #[.slice Ao76 t66.length co77, .slice Ao132 t122.length co133] ?_; (with_reducible refine (laws_eqAnswerS.calls k _ _ _ _ _ _ _ _ ?s_138 ?s_139 ?s_140 ?s_141 A_136.out ⟨rfl⟩).mono ?_); (case s_138 => exact (rcI HO78).1); (case s_139 => exact (rcR HO78).2); (case s_140 => exact (rcI HO134).1); (case s_141 => exact (rcR HO134).2); rintro e w_137 ⟨rfl, hb⟩; refine ⟨_, rfl, ?_⟩; have n0_ := Aside0.mk (sbI hb HO23); have n1_ := Aside0.mk (rbI hb HO36); have n2_ := Aside0.mk (rbI hb HO52); have n3_ := Aside0.mk (sbI hb HO65); have n4_ := Aside0.mk (rbI hb HO78); have n5_ := Aside0.mk (rbI hb HO94); have n6_ := Aside0.mk (sbI hb HO114); have n7_ := Aside0.mk (rbI hb HO134); have n8_ := Aside0.mk (sI hb HB); have n9_ := Aside0.mk (leI hb HS); clear HO23 HO36 HO52 HO65 HO78 HO94 HO114 HO134 HB HS; have HO23 := n0_; have HO36 := n1_; have HO52 := n2_; have HO65 := n3_; have HO78 := n4_; have HO94 := n5_; have HO114 := n6_; have HO134 := n7_; have HB := n8_; have HS := n9_; clear n0_ n1_ n2_ n3_ n4_ n5_ n6_ n7_ n8_ n9_ hb) | ((with_reducible refine gate_callee (f := 20) rfl ?_); refine gL (some 80) Try.func20 #[.slice Ao63 t53.length co64, .int .i64 1] ?_; (with_reducible refine (laws_markFieldS.calls k (fun k_ => lo60 ≤ k_ ∧ k_ < hi61) _ _ _ _ _ w _ (eI HB) (sbI0 HO65) A_144.out).mono ?_); rintro e w_145 ⟨rfl, ho146, hb, hk⟩; refine ⟨_, rfl, ?_⟩; have hkp := keptRng (lo := lo60) (hi := hi61) hk (fun k_ h_ => by first | exact h_ | exact h_.elim id id); clear HO65; have n0_ := Aside0.mk (ksI hkp HO23 (by have h0_ := HE20.out; have h1_ := HE33.out; have h2_ := HE49.out; have h3_ := HE62.out; have h4_ := HE75.out; have h5_ := HE91.out; have h6_ := HE111.out; have h7_ := HE131.out; omega)); have n1_ := Aside0.mk (krI hkp HO36 (by have h0_ := HE20.out; have h1_ := HE33.out; have h2_ := HE49.out; have h3_ := HE62.out; have h4_ := HE75.out; have h5_ := HE91.out; have h6_ := HE111.out; have h7_ := HE131.out; omega)); have n2_ := Aside0.mk (krI hkp HO52 (by have h0_ := HE20.out; have h1_ := HE33.out; have h2_ := HE49.out; have h3_ := HE62.out; have h4_ := HE75.out; have h5_ := HE91.out; have h6_ := HE111.out; have h7_ := HE131.out; omega)); have n3_ := Aside0.mk (krI hkp HO78 (by have h0_ := HE20.out; have h1_ := HE33.out; have h2_ := HE49.out; have h3_ := HE62.out; have h4_ := HE75.out; have h5_ := HE91.out; have h6_ := HE111.out; have h7_ := HE131.out; omega)); have n4_ := Aside0.mk (krI hkp HO94 (by have h0_ := HE20.out; have h1_ := HE33.out; have h2_ := HE49.out; have h3_ := HE62.out; have h4_ := HE75.out; have h5_ := HE91.out; have h6_ := HE111.out; have h7_ := HE131.out; omega)); have n5_ := Aside0.mk (ksI hkp HO114 (by have h0_ := HE20.out; have h1_ := HE33.out; have h2_ := HE49.out; have h3_ := HE62.out; have h4_ := HE75.out; have h5_ := HE91.out; have h6_ := HE111.out; have h7_ := HE131.out; omega)); have n6_ := Aside0.mk (krI hkp HO134 (by have h0_ := HE20.out; have h1_ := HE33.out; have h2_ := HE49.out; have h3_ := HE62.out; have h4_ := HE75.out; have h5_ := HE91.out; have h6_ := HE111.out; have h7_ := HE131.out; omega)); have n7_ := Aside0.mk (hb); have n8_ := Aside0.mk (leK hk HS); clear HO23 HO36 HO52 HO78 HO94 HO114 HO134 HB HS; have HO23 := n0_; have HO36 := n1_; have HO52 := n2_; have HO78 := n3_; have HO94 := n4_; have HO114 := n5_; have HO134 := n6_; have HB := n7_; have HS := n8_; clear n0_ n1_ n2_ n3_ n4_ n5_ n6_ n7_ n8_ hb hk hkp ho146) | ((with_reducible refine gate_callee (f := 21) rfl ?_); refine gL (some 83) Try.func21 #[.slice Ao76 t66.length co77, .int .i64 t142] ?_; (with_reducible refine (laws_markAnswerS.calls k (fun k_ => lo73 ≤ k_ ∧ k_ < hi74) _ _ _ _ _ w _ (eI HB) (rI HO78) A_150.out).mono ?_); rintro e w_151 ⟨rfl, ho152, hb, hk⟩; refine ⟨_, rfl, ?_⟩; have hkp := keptRng (lo := lo73) (hi := hi74) hk (fun k_ h_ => by first | exact h_ | exact h_.elim id id); clear HO78; have n0_ := Aside0.mk (ksI hkp HO23 (by have h0_ := HE20.out; have h1_ := HE33.out; have h2_ := HE49.out; have h3_ := HE62.out; have h4_ := HE75.out; have h5_ := HE91.out; have h6_ := HE111.out; have h7_ := HE131.out; omega)); have n1_ := Aside0.mk (krI hkp HO36 (by have h0_ := HE20.out; have h1_ := HE33.out; have h2_ := HE49.out; have h3_ := HE62.out; have h4_ := HE75.out; have h5_ := HE91.out; have h6_ := HE111.out; have h7_ := HE131.out; omega)); have n2_ := Aside0.mk (krI hkp HO52 (by have h0_ := HE20.out; have h1_ := HE33.out; have h2_ := HE49.out; have h3_ := HE62.out; have h4_ := HE75.out; have h5_ := HE91.out; have h6_ := HE111.out; have h7_ := HE131.out; omega)); have n3_ := Aside0.mk (krI hkp HO94 (by have h0_ := HE20.out; have h1_ := HE33.out; have h2_ := HE49.out; have h3_ := HE62.out; have h4_ := HE75.out; have h5_ := HE91.out; have h6_ := HE111.out; have h7_ := HE131.out; omega)); have n4_ := Aside0.mk (ksI hkp HO114 (by have h0_ := HE20.out; have h1_ := HE33.out; have h2_ := HE49.out; have h3_ := HE62.out; have h4_ := HE75.out; have h5_ := HE91.out; have h6_ := HE111.out; have h7_ := HE131.out; omega)); have n5_ := Aside0.mk (krI hkp HO134 (by have h0_ := HE20.out; have h1_ := HE33.out; have h2_ := HE49.out; have h3_ := HE62.out; have h4_ := HE75.out; have h5_ := HE91.out; have h6_ := HE111.out; have h7_ := HE131.out; omega)); have n6_ := Aside0.mk (hb); have n7_ := Aside0.mk (leK hk HS); clear HO23 HO36 HO52 HO94 HO114 HO134 HB HS; have HO23 := n0_; have HO36 := n1_; have HO52 := n2_; have HO94 := n3_; have HO114 := n4_; have HO134 := n5_; have HB := n6_; have HS := n7_; clear n0_ n1_ n2_ n3_ n4_ n5_ n6_ n7_ hb hk hkp ho152) | ((with_reducible refine gate_callee (f := 17) rfl ?_); refine gate_guard (by first | rfl | kernel_rfl) ?_; refine gL (some 89) Try.func17 #[.slice Ao92 t79.length co93, .slice Ao50 t37.length co51] ?_; (with_reducible refine (laws_eqAnswerS.calls k _ _ _ _ _ _ _ _ ?s_157 ?s_158 ?s_159 ?s_160 A_155.out ⟨rfl⟩).mono ?_); (case s_157 => exact (rcI HO94).1); (case s_158 => exact (rcR HO94).2); (case s_159 => exact (rcI HO52).1); (case s_160 => exact (rcR HO52).2); rintro e w_156 ⟨rfl, hb⟩; refine ⟨_, rfl, ?_⟩; have n0_ := Aside0.mk (sbI hb HO23); have n1_ := Aside0.mk (rbI hb HO36); have n2_ := Aside0.mk (rbI hb HO52); have n3_ := Aside0.mk (rbI hb HO94); have n4_ := Aside0.mk (sbI hb HO114); have n5_ := Aside0.mk (rbI hb HO134); have n6_ := Aside0.mk (sI hb HB); have n7_ := Aside0.mk (leI hb HS); clear HO23 HO36 HO52 HO94 HO114 HO134 HB HS; have HO23 := n0_; have HO36 := n1_; have HO52 := n2_; have HO94 := n3_; have HO114 := n4_; have HO134 := n5_; have HB := n6_; have HS := n7_; clear n0_ n1_ n2_ n3_ n4_ n5_ n6_ n7_ hb) | ((with_reducible refine gate_callee (f := 21) rfl ?_); refine gL (some 99) Try.func21 #[.slice Ao92 t79.length co93, .int .i64 1] ?_; (with_reducible refine (laws_markAnswerS.calls k (fun k_ => lo89 ≤ k_ ∧ k_ < hi90) _ _ _ _ _ w _ (eI HB) (rI HO94) A_163.out).mono ?_); rintro e w_164 ⟨rfl, ho165, hb, hk⟩; refine ⟨_, rfl, ?_⟩; have hkp := keptRng (lo := lo89) (hi := hi90) hk (fun k_ h_ => by first | exact h_ | exact h_.elim id id); have n0_ := Aside0.mk (ksI hkp HO23 (by have h0_ := HE20.out; have h1_ := HE33.out; have h2_ := HE49.out; have h3_ := HE62.out; have h4_ := HE75.out; have h5_ := HE91.out; have h6_ := HE111.out; have h7_ := HE131.out; omega)); have n1_ := Aside0.mk (krI hkp HO36 (by have h0_ := HE20.out; have h1_ := HE33.out; have h2_ := HE49.out; have h3_ := HE62.out; have h4_ := HE75.out; have h5_ := HE91.out; have h6_ := HE111.out; have h7_ := HE131.out; omega)); have n2_ := Aside0.mk (krI hkp HO52 (by have h0_ := HE20.out; have h1_ := HE33.out; have h2_ := HE49.out; have h3_ := HE62.out; have h4_ := HE75.out; have h5_ := HE91.out; have h6_ := HE111.out; have h7_ := HE131.out; omega)); have n3_ := Aside0.mk (ksI hkp HO114 (by have h0_ := HE20.out; have h1_ := HE33.out; have h2_ := HE49.out; have h3_ := HE62.out; have h4_ := HE75.out; have h5_ := HE91.out; have h6_ := HE111.out; have h7_ := HE131.out; omega)); have n4_ := Aside0.mk (krI hkp HO134 (by have h0_ := HE20.out; have h1_ := HE33.out; have h2_ := HE49.out; have h3_ := HE62.out; have h4_ := HE75.out; have h5_ := HE91.out; have h6_ := HE111.out; have h7_ := HE131.out; omega)); have n5_ := Aside0.mk (Kd.R_mono (ok' := fun _ => True) ho165 (fun _ _ => trivial)); have n6_ := Aside0.mk (hb); have n7_ := Aside0.mk (leK hk HS); clear HO23 HO36 HO52 HO114 HO134 HO94 HB HS; have HO23 := n0_; have HO36 := n1_; have HO52 := n2_; have HO114 := n3_; have HO134 := n4_; have HO94 := n5_; have HB := n6_; have HS := n7_; clear n0_ n1_ n2_ n3_ n4_ n5_ n6_ n7_ hb hk hkp ho165) | ((with_reducible refine gate_callee (f := 22) rfl ?_); refine gL (some 102) Try.func22 #[.slice Ao92 t79.length co93, .int .i64 1] ?_; refine calls_of_args (args' := #[.slice Ao92 t162.length co93, .int .i64 1]) (by rw [← rlI HO94]) ?_; (with_reducible refine (laws_heldAnswerS.calls k _ _ _ _ _ _ ?s_170 ?s_171 A_168.out).mono ?_); (case s_170 => exact (rcI HO94).1); (case s_171 => exact (rcR HO94).2); rintro e w_169 ⟨rfl, hb⟩; refine ⟨_, rfl, ?_⟩; have n0_ := Aside0.mk (sbI hb HO23); have n1_ := Aside0.mk (rbI hb HO36); have n2_ := Aside0.mk (rbI hb HO52); have n3_ := Aside0.mk (rbI hb HO94); have n4_ := Aside0.mk (sbI hb HO114); have n5_ := Aside0.mk (rbI hb HO134); have n6_ := Aside0.mk (sI hb HB); have n7_ := Aside0.mk (leI hb HS); clear HO23 HO36 HO52 HO94 HO114 HO134 HB HS; have HO23 := n0_; have HO36 := n1_; have HO52 := n2_; have HO94 := n3_; have HO114 := n4_; have HO134 := n5_; have HB := n6_; have HS := n7_; clear n0_ n1_ n2_ n3_ n4_ n5_ n6_ n7_ hb) | ((with_reducible refine gate_callee (f := 10) rfl ?_); refine gL (some 110) Try.func10 #[.slice A0 l0.length c0] ?_; (with_reducible refine (laws_toFieldS.calls k _ _ _ _ _ ?s_175 ?s_176 A_173.out).mono ?_); (case s_175 => exact Kd.C_below HR0.out (eI HB)); (case s_176 => exact HC0.out); rintro e w_174 ⟨v178, rfl, ho177, hb⟩; refine ⟨_, rfl, ?_⟩; obtain ⟨lo179, hi180, hle_, hsz_, hin_⟩ := newRng HB HS hb; have ho_0 := Aside0.mk (hin_.s ho177); have n0_ := Aside0.mk (sbI hb HO23); have n1_ := Aside0.mk (rbI hb HO36); have n2_ := Aside0.mk (rbI hb HO52); have n3_ := Aside0.mk (rbI hb HO94); have n4_ := Aside0.mk (sbI hb HO114); have n5_ := Aside0.mk (rbI hb HO134); have n6_ := Aside0.mk (sI hb HB); have n7_ := Aside0.mk (hsz_); clear HO23 HO36 HO52 HO94 HO114 HO134 HB HS; have HO23 := n0_; have HO36 := n1_; have HO52 := n2_; have HO94 := n3_; have HO114 := n4_; have HO134 := n5_; have HB := n6_; have HS := n7_; clear n0_ n1_ n2_ n3_ n4_ n5_ n6_ n7_ hb; have HE181 := Aside0.mk hle_; clear hle_ hsz_ hin_ ho177; have HO184 := ho_0; clear ho_0; obtain ⟨Ao182, co183, e_⟩ := Kd.R_slice (Kd.S_R HO184.out); subst e_) | ((with_reducible refine gate_callee (f := 15) rfl ?_); refine gL (some 112) Try.func15 #[.slice A1 l1.length c1] ?_; (with_reducible refine (laws_toAnswerS.calls k _ _ _ _ _ ?s_188 ?s_189 A_186.out).mono ?_); (case s_188 => exact Kd.C_below HR1.out (eI HB)); (case s_189 => exact HC1.out); rintro e w_187 ⟨v191, rfl, ho190, hb⟩; refine ⟨_, rfl, ?_⟩; obtain ⟨lo192, hi193, hle_, hsz_, hin_⟩ := newRng HB HS hb; have ho_0 := Aside0.mk (hin_.r ho190); have n0_ := Aside0.mk (sbI hb HO23); have n1_ := Aside0.mk (rbI hb HO36); have n2_ := Aside0.mk (rbI hb HO52); have n3_ := Aside0.mk (rbI hb HO94); have n4_ := Aside0.mk (sbI hb HO114); have n5_ := Aside0.mk (rbI hb HO134); have n6_ := Aside0.mk (sbI hb HO184); have n7_ := Aside0.mk (sI hb HB); have n8_ := Aside0.mk (hsz_); clear HO23 HO36 HO52 HO94 HO114 HO134 HO184 HB HS; have HO23 := n0_; have HO36 := n1_; have HO52 := n2_; have HO94 := n3_; have HO114 := n4_; have HO134 := n5_; have HO184 := n6_; have HB := n7_; have HS := n8_; clear n0_ n1_ n2_ n3_ n4_ n5_ n6_ n7_ n8_ hb; have HE194 := Aside0.mk hle_; clear hle_ hsz_ hin_ ho190; have HO197 := ho_0; clear ho_0; obtain ⟨Ao195, co196, e_⟩ := Kd.R_slice (HO197.out); subst e_) | ((with_reducible refine gate_callee (f := 19) rfl ?_); refine gL (some 115) Try.func19 #[.slice Ao182 t172.length co183, .slice Ao195 t185.length co196, .string a2, .string a3] ?_; (with_reducible refine (impl_SetAnswer.calls k _ _ _ _ _ _ _ _ _ _ _ ?s_202 ?s_203 ?s_204 ?s_205 A_200.out).mono ?_); (case s_202 => exact (scI HO184).1); (case s_203 => exact (scR HO184).2); (case s_204 => exact (rcI HO197).1); (case s_205 => exact (rcR HO197).2); rintro e w_201 ⟨v207, rfl, ho206, hb⟩; refine ⟨_, rfl, ?_⟩; obtain ⟨lo208, hi209, hle_, hsz_, hin_⟩ := newRng HB HS hb; have ho_0 := Aside0.mk (hin_.r ho206); have n0_ := Aside0.mk (sbI hb HO23); have n1_ := Aside0.mk (rbI hb HO36); have n2_ := Aside0.mk (rbI hb HO52); have n3_ := Aside0.mk (rbI hb HO94); have n4_ := Aside0.mk (sbI hb HO114); have n5_ := Aside0.mk (rbI hb HO134); have n6_ := Aside0.mk (sbI hb HO184); have n7_ := Aside0.mk (rbI hb HO197); have n8_ := Aside0.mk (sI hb HB); have n9_ := Aside0.mk (hsz_); clear HO23 HO36 HO52 HO94 HO114 HO134 HO184 HO197 HB HS; have HO23 := n0_; have HO36 := n1_; have HO52 := n2_; have HO94 := n3_; have HO114 := n4_; have HO134 := n5_; have HO184 := n6_; have HO197 := n7_; have HB := n8_; have HS := n9_; clear n0_ n1_ n2_ n3_ n4_ n5_ n6_ n7_ n8_ n9_ hb; have HE210 := Aside0.mk hle_; clear hle_ hsz_ hin_ ho206; have HO213 := ho_0; clear ho_0; obtain ⟨Ao211, co212, e_⟩ := Kd.R_slice (HO213.out); subst e_) | ((with_reducible refine gate_callee (f := 17) rfl ?_); refine gL (some 120) Try.func17 #[.slice Ao211 t198.length co212, .slice Ao50 t37.length co51] ?_; (with_reducible refine (laws_eqAnswerS.calls k _ _ _ _ _ _ _ _ ?s_217 ?s_218 ?s_219 ?s_220 A_215.out ⟨rfl⟩).mono ?_); (case s_217 => exact (rcI HO213).1); (case s_218 => exact (rcR HO213).2); (case s_219 => exact (rcI HO52).1); (case s_220 => exact (rcR HO52).2); rintro e w_216 ⟨rfl, hb⟩; refine ⟨_, rfl, ?_⟩; have n0_ := Aside0.mk (sbI hb HO23); have n1_ := Aside0.mk (rbI hb HO36); have n2_ := Aside0.mk (rbI hb HO52); have n3_ := Aside0.mk (rbI hb HO94); have n4_ := Aside0.mk (sbI hb HO114); have n5_ := Aside0.mk (rbI hb HO134); have n6_ := Aside0.mk (sbI hb HO184); have n7_ := Aside0.mk (rbI hb HO197); have n8_ := Aside0.mk (rbI hb HO213); have n9_ := Aside0.mk (sI hb HB); have n10_ := Aside0.mk (leI hb HS); clear HO23 HO36 HO52 HO94 HO114 HO134 HO184 HO197 HO213 HB HS; have HO23 := n0_; have HO36 := n1_; have HO52 := n2_; have HO94 := n3_; have HO114 := n4_; have HO134 := n5_; have HO184 := n6_; have HO197 := n7_; have HO213 := n8_; have HB := n9_; have HS := n10_; clear n0_ n1_ n2_ n3_ n4_ n5_ n6_ n7_ n8_ n9_ n10_ hb) | ((with_reducible refine gate_callee (f := 22) rfl ?_); refine gL (some 129) Try.func22 #[.slice Ao92 t79.length co93, .int .i64 1] ?_; refine calls_of_args (args' := #[.slice Ao92 t162.length co93, .int .i64 1]) (by rw [← rlI HO94]) ?_; (with_reducible refine (laws_heldAnswerS.calls k _ _ _ _ _ _ ?s_224 ?s_225 A_222.out).mono ?_); (case s_224 => exact (rcI HO94).1); (case s_225 => exact (rcR HO94).2); rintro e w_223 ⟨rfl, hb⟩; refine ⟨_, rfl, ?_⟩; have n0_ := Aside0.mk (sbI hb HO23); have n1_ := Aside0.mk (rbI hb HO36); have n2_ := Aside0.mk (rbI hb HO52); have n3_ := Aside0.mk (rbI hb HO94); have n4_ := Aside0.mk (sbI hb HO114); have n5_ := Aside0.mk (rbI hb HO134); have n6_ := Aside0.mk (sbI hb HO184); have n7_ := Aside0.mk (rbI hb HO197); have n8_ := Aside0.mk (rbI hb HO213); have n9_ := Aside0.mk (sI hb HB); have n10_ := Aside0.mk (leI hb HS); clear HO23 HO36 HO52 HO94 HO114 HO134 HO184 HO197 HO213 HB HS; have HO23 := n0_; have HO36 := n1_; have HO52 := n2_; have HO94 := n3_; have HO114 := n4_; have HO134 := n5_; have HO184 := n6_; have HO197 := n7_; have HO213 := n8_; have HB := n9_; have HS := n10_; clear n0_ n1_ n2_ n3_ n4_ n5_ n6_ n7_ n8_ n9_ n10_ hb))
 go_ret
 exact ⟨rfl, eI HB⟩
end Go.Proofs.Ytdogpphfofimeaa.X
set_option linter.unusedVariables false
set_option linter.unusedSimpArgs false
namespace Go.Proofs.Ytdogpphfofimeaa.Open
open Go.RowKit Go.Proofs.YtdogpphfofimeaaW.PrintWords

/-- What reads at type t is of kind d, and good. -/
def Opens (P : Program) (t : TypeId) {α : Type} (d : Kd α) (good : α → Prop) : Prop :=
  ∀ (H : Type) (enc : TypeId × Value → H) (w : World) (fuel : Nat) (cs : List Value) (x : DataW H × List MemPlace),
    DataW.trod enc P w 0 (fun _ => true) true fuel t cs = some x → ∃ a, d.K w a cs ∧ good a

theorem opens_int {P : Program} {t : TypeId} {k : IntKind} (ht : P.underlying t = some (.int k)) : Opens P t (Kd.int k) (fun n => (Lit.int k n).wf = true) := by
  intro H enc w fuel cs x hx
  obtain ⟨n, rfl, _, hw⟩ := DataW.trod_int ht hx
  exact ⟨n, rfl, hw⟩
theorem opens_bool {P : Program} {t : TypeId} (ht : P.underlying t = some .bool) : Opens P t Kd.bool (fun _ => True) := by
  intro H enc w fuel cs x hx
  obtain ⟨n, rfl, _⟩ := DataW.trod_bool ht hx
  exact ⟨n, rfl, trivial⟩
theorem opens_string {P : Program} {t : TypeId} (ht : P.underlying t = some .string) : Opens P t Kd.string (fun s => s.size ≤ 9223372036854775807) := by
  intro H enc w fuel cs x hx
  obtain ⟨n, rfl, _, hw⟩ := DataW.trod_string ht hx
  exact ⟨n, rfl, by simpa [maxLen] using hw⟩

theorem cells_each {w : World} {a : Addr} {n : Nat} {cs : List Value} (h : w.cells? 0 a n = some cs) : cs.length = n ∧ ∀ i u, cs[i]? = some u → w.cell? (a.add i) = some u := by
  have h1 := World.cells?_some h
  refine ⟨h1.2.1, fun i u hu => ?_⟩
  have hi : i < n := by
    have := (List.getElem?_eq_some_iff.1 hu).1
    omega
  rw [h1.2.2 i hi, hu]

theorem opens_slice {P : Program} {t e : TypeId} {α : Type} {d : Kd α} {g : α → Prop} (ht : P.underlying t = some (.slice e)) (hsz : P.cellsOf e = d.sz) (h : Opens P e d g) :
    Opens P t (Kd.slice e d) (fun xs => xs.length ≤ 9223372036854775807 ∧ ∀ x ∈ xs, g x) := by
  intro H enc w fuel cs x hx
  rcases DataW.trod_slice ht hx with ⟨rfl, _⟩ | ⟨a, len, cap, elems, rest, n, rfl, rfl, _, _, hlc, hcap, hel, hget, _, _⟩
  · exact ⟨[], ⟨none, 0, rfl, Nat.le_refl _, Kd.C_nil d w⟩, by simp, by simp⟩
  · simp only [maxLen] at hcap
    have each : ∀ i, i < len → ∃ b : α, ∃ c : List Value, c.length = d.sz ∧ d.K w b c ∧ g b ∧ ∀ j u, c[j]? = some u → w.cell? (a.add (i * d.sz + j)) = some u := by
      intro i hi
      have h1 := hget i hi
      obtain ⟨y, hy⟩ : ∃ y, elems[i]? = some y := ⟨_, List.getElem?_eq_getElem (by omega)⟩
      rw [hy] at h1
      obtain ⟨c, hc, ht'⟩ := Option.bind_eq_some_iff.1 h1
      obtain ⟨b, hK, hg⟩ := h H enc w n c y ht'
      obtain ⟨hl, hcell⟩ := cells_each hc
      refine ⟨b, c, hl.trans hsz, hK, hg, fun j u hu => ?_⟩
      have := hcell j u hu
      rw [Deep.add_add, hsz] at this
      exact this
    have mk : ∀ m, m ≤ len → ∃ xs : List α, xs.length = m ∧ (∀ x ∈ xs, g x) ∧ ∀ j p, xs[j]? = some p → ∃ c, c.length = d.sz ∧ d.K w p c ∧ ∀ i u, c[i]? = some u → w.cell? (a.add (j * d.sz + i)) = some u := by
      intro m
      induction m with
      | zero => exact fun _ => ⟨[], rfl, by simp, by simp⟩
      | succ m ih =>
        intro hm
        obtain ⟨xs, hl, hg, hx⟩ := ih (by omega)
        obtain ⟨b, c, hc1, hc2, hc3, hc4⟩ := each m (by omega)
        refine ⟨xs ++ [b], by simp [hl], ?_, ?_⟩
        · intro x hx'
          rcases List.mem_append.1 hx' with hx' | hx'
          · exact hg x hx'
          · rw [List.mem_singleton.1 hx']; exact hc3
        · intro j p hj
          by_cases hjm : j < m
          · rw [List.getElem?_append_left (by omega)] at hj
            exact hx j p hj
          · have hlt := (List.getElem?_eq_some_iff.1 hj).1
            simp only [List.length_append, List.length_cons, List.length_nil] at hlt
            obtain rfl : j = m := by omega
            rw [List.getElem?_append_right (by omega), hl, Nat.sub_self] at hj
            simp only [List.getElem?_cons_zero, Option.some.injEq] at hj
            subst hj
            exact ⟨c, hc1, hc2, hc4⟩
    obtain ⟨ys, hl, hg, hy⟩ := mk len (Nat.le_refl _)
    subst hl
    exact ⟨ys, ⟨some a, cap, rfl, hlc, rfl, by omega, fun _ => ⟨a, rfl, hy⟩⟩, by omega, hg⟩

def offs (L : List (TypeId × Nat)) (i : Nat) : Nat := ((L.take i).map (·.2)).sum
def Sect (P : Program) (L : List (TypeId × Nat)) {α : Type} (d : Kd α) (good : α → Prop) : Prop :=
  ∀ (H : Type) (enc : TypeId × Value → H) (w : World) (n : Nat) (cs : List Value), cs.length = (L.map (·.2)).sum →
    (∀ i p, L[i]? = some p → ∃ y, DataW.trod enc P w 0 (fun _ => true) true n p.1 ((cs.drop (offs L i)).take p.2) = some y) → ∃ a, d.K w a cs ∧ good a
theorem sect_one {P : Program} {t : TypeId} {s : Nat} {α : Type} {d : Kd α} {g : α → Prop} (h : Opens P t d g) : Sect P [(t, s)] d g := by
  intro H enc w n cs hl hf
  obtain ⟨y, hy⟩ := hf 0 _ rfl
  simp only [offs, List.take_zero, List.map_nil, List.sum_nil, List.drop_zero] at hy
  rw [List.take_of_length_le (by simp at hl; omega)] at hy
  exact h H enc w n cs y hy
theorem sect_cons {P : Program} {t : TypeId} {s : Nat} {L : List (TypeId × Nat)} {α β : Type} {d : Kd α} {d' : Kd β} {g : α → Prop} {g' : β → Prop} (h : Opens P t d g) (h' : Sect P L d' g') :
    Sect P ((t, s) :: L) (Kd.pair d d') (fun x => g x.1 ∧ g' x.2) := by
  intro H enc w n cs hl hf
  obtain ⟨y, hy⟩ := hf 0 _ rfl
  simp only [offs, List.take_zero, List.map_nil, List.sum_nil, List.drop_zero] at hy
  obtain ⟨a, ha, hga⟩ := h H enc w n _ y hy
  obtain ⟨b, hb, hgb⟩ := h' H enc w n (cs.drop s) (by simp only [List.map_cons, List.sum_cons] at hl; rw [List.length_drop, hl]; omega) (by
    intro i p hp
    obtain ⟨z, hz⟩ := hf (i + 1) p (by simpa using hp)
    refine ⟨z, ?_⟩
    simp only [offs, List.take_succ_cons, List.map_cons, List.sum_cons] at hz
    rw [List.drop_drop]
    exact hz)
  exact ⟨(a, b), ⟨cs.take s, cs.drop s, (List.take_append_drop s cs).symm, ha, hb⟩, hga, hgb⟩
theorem opens_struct {P : Program} {t : TypeId} {fs : Array Field} {α β : Type} {d : Kd α} {g : α → Prop} (f : β → α) (k : α → β) (hk : ∀ x, f (k x) = x) (L : List (TypeId × Nat))
    (ht : P.underlying t = some (.struct fs)) (hL : L = fs.toList.map (fun f => (f.type, P.cellsOf f.type))) (ho : fs.toList.map (·.offset) = (List.range L.length).map (offs L)) (hc : P.cellsOf t = (L.map (·.2)).sum)
    (h : Sect P L d g) : Opens P t (Kd.iso d f) (fun x => g (f x)) := by
  intro H enc w fuel cs x hx
  obtain ⟨xs, n, rfl, rfl, hl, hxl, hf⟩ := DataW.trod_struct ht hx
  obtain ⟨a, ha, hg⟩ := h H enc w n cs (hl.trans hc) (by
    intro i p hp
    have hi : i < fs.size := by
      have := (List.getElem?_eq_some_iff.1 hp).1
      rw [hL] at this
      simpa using this
    have hfi : fs[i]? = some fs[i] := Array.getElem?_eq_getElem hi
    have h1 := hf i fs[i] hfi
    obtain ⟨y, hy⟩ : ∃ y, xs[i]? = some y := ⟨_, List.getElem?_eq_getElem (by omega)⟩
    rw [hy] at h1
    refine ⟨y, ?_⟩
    have hp' : p = (fs[i].type, P.cellsOf fs[i].type) := by
      rw [hL] at hp
      simp only [List.getElem?_map, Array.getElem?_toList, hfi, Option.map_some, Option.some.injEq] at hp
      exact hp.symm
    have hoi : fs[i].offset = offs L i := by
      have h2 : (fs.toList.map (·.offset))[i]? = ((List.range L.length).map (offs L))[i]? := by rw [ho]
      have hLl : L.length = fs.size := by rw [hL]; simp
      simp only [List.getElem?_map, Array.getElem?_toList, hfi, Option.map_some, List.getElem?_range (show i < L.length by omega)] at h2
      exact Option.some.inj h2
    rw [hp', ← hoi]
    exact h1)
  refine ⟨k a, ?_, ?_⟩
  · show d.K w (f (k a)) cs
    rw [hk]; exact ha
  · show g (f (k a))
    rw [hk]; exact hg

theorem arg_slice {P : Program} {W : World} {H : Type} {enc : TypeId × Value → H} {t e : TypeId} {α : Type} {d : Kd α} {g : List α → Prop} {v : Value} {x : DataW H} {p : List MemPlace} (h : Opens P t (Kd.slice e d) g)
    (hs : ∃ a len cap, v = .slice a len cap) (hv : DataW.Trod enc P W 0 (fun _ => true) true t v x p) : ∃ A c xs, v = .slice A xs.length c ∧ xs.length ≤ c ∧ Kd.C d W A xs.length xs ∧ g xs := by
  obtain ⟨a, len, cap, rfl⟩ := hs
  obtain ⟨fuel, hf⟩ := hv
  obtain ⟨xs, ⟨A, c, he, hl, hc⟩, hg⟩ := h H enc W fuel _ _ hf
  simp [Value.cells] at he
  obtain ⟨rfl, rfl, rfl⟩ := he
  exact ⟨_, _, xs, rfl, hl, hc, hg⟩
end Go.Proofs.Ytdogpphfofimeaa.Open
set_option linter.unusedVariables false
namespace Go.Proofs.Ytdogpphfofimeaa.X
open Go.RowKit Go.Proofs.YtdogpphfofimeaaW.PrintWords Go.Proofs.Ytdogpphfofimeaa.Open
theorem op9 : Opens Try.prog 9 Kd.string (fun s => s.size ≤ 9223372036854775807) := opens_string Try.underlying9
theorem op3 : Opens Try.prog 3 (Kd.int .i64) (fun n => (Lit.int .i64 n).wf = true) := opens_int Try.underlying3
theorem op41 : Opens Try.prog 41 (Kd.slice 9 Kd.string) (fun xs => (xs.length ≤ 9223372036854775807 ∧ ∀ y ∈ xs, y.size ≤ 9223372036854775807)) := opens_slice Try.underlying41 (by kernel_rfl) op9
theorem op4 : Opens Try.prog 4 Kd.bool (fun _ => True) := opens_bool Try.underlying4
def good49 (x : S49) : Prop := x.f0.size ≤ 9223372036854775807 ∧ (Lit.int .i64 x.f1).wf = true ∧ (Lit.int .i64 x.f2).wf = true ∧ (Lit.int .i64 x.f3).wf = true ∧ (x.f4.length ≤ 9223372036854775807 ∧ ∀ y ∈ x.f4, y.size ≤ 9223372036854775807) ∧ True ∧ x.f6.size ≤ 9223372036854775807
theorem op49 : Opens Try.prog 49 k49 good49 :=
  opens_struct (fun x : S49 => (x.f0, x.f1, x.f2, x.f3, x.f4, x.f5, x.f6)) (fun p => ⟨p.1, p.2.1, p.2.2.1, p.2.2.2.1, p.2.2.2.2.1, p.2.2.2.2.2.1, p.2.2.2.2.2.2⟩) (fun _ => rfl) [(9, 1), (3, 1), (3, 1), (3, 1), (41, 1), (4, 1), (9, 1)] Try.underlying49 (by kernel_rfl) (by decide) (by kernel_rfl) (sect_cons op9 (sect_cons op3 (sect_cons op3 (sect_cons op3 (sect_cons op41 (sect_cons op4 (sect_one op9)))))))
theorem op22 : Opens Try.prog 22 (Kd.slice 49 k49) (fun xs => (xs.length ≤ 9223372036854775807 ∧ ∀ y ∈ xs, good49 y)) := opens_slice Try.underlying22 (by kernel_rfl) op49
def good56 (x : S56) : Prop := x.f0.size ≤ 9223372036854775807 ∧ x.f1.size ≤ 9223372036854775807
theorem op56 : Opens Try.prog 56 k56 good56 :=
  opens_struct (fun x : S56 => (x.f0, x.f1)) (fun p => ⟨p.1, p.2⟩) (fun _ => rfl) [(9, 1), (9, 1)] Try.underlying56 (by kernel_rfl) (by decide) (by kernel_rfl) (sect_cons op9 (sect_one op9))
theorem op29 : Opens Try.prog 29 (Kd.slice 56 k56) (fun xs => (xs.length ≤ 9223372036854775807 ∧ ∀ y ∈ xs, good56 y)) := opens_slice Try.underlying29 (by kernel_rfl) op56
end Go.Proofs.Ytdogpphfofimeaa.X
namespace Go.Proofs.Ytdogpphfofimeaa.X
open Go.RowKit Go.Proofs.YtdogpphfofimeaaW.PrintWords
def PureFnExactSetAnswer : Prop := ∀ (a0 : List (S49)) (a1 : List (S56)) (a2 : ByteArray) (a3 : ByteArray), (a0.length ≤ 9223372036854775807 ∧ ∀ y ∈ a0, good49 y) → (a1.length ≤ 9223372036854775807 ∧ ∀ y ∈ a1, good56 y) → a2.size ≤ 9223372036854775807 → a3.size ≤ 9223372036854775807 → ∃ k, laws_FnExactSetAnswer.f k a0 a1 a2 a3 = some true
end Go.Proofs.Ytdogpphfofimeaa.X
set_option linter.unusedVariables false
set_option linter.unusedSimpArgs false
namespace Go.Proofs.Ytdogpphfofimeaa.X
open Go.RowKit Go.Proofs.YtdogpphfofimeaaW.PrintWords Go.Proofs.Ytdogpphfofimeaa.E
theorem l1In_eq (a l h : Int) : spec_l1In.f a l h = some (decide (l ≤ a ∧ a ≤ h)) := by
  unfold spec_l1In.f
  by_cases h1 : a ≥ l
  · rw [if_pos h1]; congr 1; simp [h1]
  · rw [if_neg h1]; congr 1; symm; simp; intro h2; omega
theorem within_eq (a l h : Int) : impl_within.f a l h = some (decide (l ≤ a ∧ a ≤ h)) := by
  unfold impl_within.f
  by_cases h1 : a ≥ l
  · rw [if_pos h1]; congr 1; simp [h1]
  · rw [if_neg h1]; congr 1; symm; simp; intro h2; omega
def nameAt (s : ByteArray) (i : Nat) : Bool := decide (97 ≤ bt s i ∧ bt s i ≤ 122) || (decide (0 < i) && decide (48 ≤ bt s i ∧ bt s i ≤ 57))
def nameB (s : ByteArray) : Bool := decide (1 ≤ (s.size : Int) ∧ (s.size : Int) ≤ 8) && (List.range s.size).all (nameAt s)
theorem isName_ev (s : ByteArray) (hs : s.size ≤ 9223372036854775807) : Ev (fun k => impl_isName.f k s) (nameB s) := by
  have h := ev_all0 (L := fun k i => impl_isName.l0 k s (s.size : Int) i) s.size (nameAt s) false (decide (1 ≤ (s.size : Int) ∧ (s.size : Int) ≤ 8)) (fun _ => Ev.step (fun k => rfl) (ev_neg (by omega) ?_)) ?h1 ?h2
  case refine_1 => simp only [within_eq]; exact ev_now rfl
  case h1 =>
    intro i hi _ hc y hy
    simp only [nameAt, Bool.or_eq_true, Bool.and_eq_true, decide_eq_true_eq] at hc
    refine Ev.step (fun k => rfl) (ev_pos (by omega) (ev_pos (by omega) (ev_pos (by omega) ?_)))
    rw [wrap_succ hi hs]
    repeat' (first | exact hy | (exfalso; omega) | (refine ev_ite (fun _ => ?_) (fun _ => ?_)))
  case h2 =>
    intro i hi _ hc
    simp only [nameAt, Bool.or_eq_false_iff, Bool.and_eq_false_iff, decide_eq_false_iff_not] at hc
    refine Ev.step (fun k => rfl) (ev_pos (by omega) (ev_pos (by omega) (ev_pos (by omega) ?_)))
    rw [wrap_succ hi hs]
    repeat' (first | exact ev_now rfl | (exfalso; omega) | (refine ev_ite (fun _ => ?_) (fun _ => ?_)))
  refine ev_cast h ?_
  unfold nameB
  cases (List.range s.size).all (nameAt s) <;> simp
theorem l7Name_ev (s : ByteArray) (hs : s.size ≤ 9223372036854775807) : Ev (fun k => spec_l7Name.f k s) (nameB s) := by
  unfold spec_l7Name.f
  simp only [l1In_eq]
  have stop : ∀ b, b = false → Ev (fun k => spec_l7Name.j0 k s true) b := fun b hb => hb ▸ Ev.step (fun k => rfl) (ev_now rfl)
  refine ev_ite (fun h1 => ?_) (fun h1 => stop _ ?_)
  case refine_2 => unfold nameB; simp only [Bool.and_eq_false_iff]; left; simpa using h1
  have h1' : 1 ≤ (s.size : Int) ∧ (s.size : Int) ≤ 8 := by simpa using h1
  have h0 : ∀ b : Bool, (97 ≤ bt s 0 ∧ bt s 0 ≤ 122 → b = (List.range s.size).all (nameAt s)) → (¬ (97 ≤ bt s 0 ∧ bt s 0 ≤ 122) → b = false) → b = nameB s := by
    intro b hy hn
    unfold nameB
    rw [decide_eq_true h1', Bool.true_and]
    by_cases c : 97 ≤ bt s 0 ∧ bt s 0 ≤ 122
    · exact hy c
    · rw [hn c]
      symm
      rw [Bool.eq_false_iff]
      intro hall
      have := all_range.1 hall 0 (by omega)
      simp only [nameAt, Nat.lt_irrefl, decide_false, Bool.false_and, Bool.or_false, decide_eq_true_eq] at this
      exact c this
  refine ev_pos (by omega) ?_
  have loop : 97 ≤ bt s 0 ∧ bt s 0 ≤ 122 → Ev (fun k => spec_l7Name.l0 k s 0) ((List.range s.size).all (nameAt s)) := by
    intro hf
    have h := ev_all0 (L := fun k i => spec_l7Name.l0 k s i) s.size (nameAt s) false true (fun _ => Ev.step (fun k => rfl) (ev_neg (by omega) (ev_now rfl))) ?h1 ?h2
    case h1 =>
      intro i hi _ hc y hy
      simp only [nameAt, Bool.or_eq_true, Bool.and_eq_true, decide_eq_true_eq] at hc
      refine Ev.step (fun k => rfl) (ev_pos (by omega) (ev_pos (by omega) ?_))
      rw [wrap_succ hi hs]
      repeat' (first | exact hy | (exfalso; omega) | (refine ev_ite (fun _ => ?_) (fun _ => ?_)))
    case h2 =>
      intro i hi _ hc
      simp only [nameAt, Bool.or_eq_false_iff, Bool.and_eq_false_iff, decide_eq_false_iff_not] at hc
      have hi0 : 0 < i := by
        rcases Nat.eq_zero_or_pos i with e | e
        · subst e; exact absurd hf hc.1
        · exact e
      refine Ev.step (fun k => rfl) (ev_pos (by omega) (ev_pos (by omega) ?_))
      rw [wrap_succ hi hs]
      repeat' (first | exact ev_now rfl | (exfalso; omega) | (refine ev_ite (fun _ => ?_) (fun _ => ?_)))
    refine ev_cast h ?_
    cases (List.range s.size).all (nameAt s) <;> rfl
  refine ev_ite (fun c => stop _ (h0 false (fun h => by exfalso; omega) (fun _ => rfl)).symm) (fun c => ?_)
  by_cases c2 : bt s 0 > 122
  · rw [decide_eq_true c2]
    exact stop _ (h0 false (fun h => by exfalso; omega) (fun _ => rfl)).symm
  · rw [decide_eq_false c2]
    exact Ev.step (fun k => rfl) (ev_cast (loop ⟨by omega, by omega⟩) (h0 _ (fun _ => rfl) (fun h => absurd (And.intro (show 97 ≤ bt s 0 by omega) (show bt s 0 ≤ 122 by omega)) h)))
def textAt (s : ByteArray) (i : Nat) : Bool := decide (32 ≤ bt s i ∧ bt s i ≤ 126)
def textB (s : ByteArray) : Bool := (List.range s.size).all (textAt s) && decide ((s.size : Int) ≤ 40)
theorem isText_ev (s : ByteArray) (hs : s.size ≤ 9223372036854775807) : Ev (fun k => impl_isText.f k s) (textB s) := by
  have h := ev_all0 (L := fun k i => impl_isText.l0 k s (s.size : Int) i) s.size (textAt s) false (decide ((s.size : Int) ≤ 40)) (fun _ => Ev.step (fun k => rfl) (ev_neg (by omega) (ev_now rfl))) ?h1 ?h2
  case h1 =>
    intro i hi _ hc y hy
    simp only [textAt, decide_eq_true_eq] at hc
    refine Ev.step (fun k => rfl) (ev_pos (by omega) (ev_pos (by omega) (ev_pos (by omega) ?_)))
    rw [wrap_succ hi hs]
    exact ev_neg (by omega) (ev_neg (by omega) hy)
  case h2 =>
    intro i hi _ hc
    simp only [textAt, decide_eq_false_iff_not] at hc
    refine Ev.step (fun k => rfl) (ev_pos (by omega) (ev_pos (by omega) (ev_pos (by omega) ?_)))
    refine ev_ite (fun _ => ev_now rfl) (fun _ => ev_ite (fun _ => ev_now rfl) (fun _ => ?_))
    exfalso; omega
  refine ev_cast h ?_
  unfold textB
  cases (List.range s.size).all (textAt s) <;> simp
theorem l21Text_ev (s : ByteArray) (hs : s.size ≤ 9223372036854775807) : Ev (fun k => spec_l21Text.f k s) (textB s) := by
  -- within the first forty bytes as the program; a longer one is refused at the forty-second step or before
  have h := ev_all0 (L := fun k i => spec_l21Text.l0 k s i) (min s.size 41) (textAt s) false (decide ((s.size : Int) ≤ 40)) ?h0 ?h1 ?h2
  case h0 =>
    intro _
    by_cases c : s.size ≤ 40
    · rw [Nat.min_eq_left (by omega)]
      exact Ev.step (fun k => rfl) (ev_neg (by omega) (Ev.step (fun k => rfl) (ev_now rfl)))
    · rw [Nat.min_eq_right (by omega)]
      refine Ev.step (fun k => rfl) ?_
      show Ev (fun k => if ((41 : Nat) : Int) < (s.size : Int) then spec_l21Text.j1 k s ((41 : Nat) : Int) (decide (((41 : Nat) : Int) ≤ 40)) else spec_l21Text.j1 k s ((41 : Nat) : Int) false) _
      rw [decide_eq_false (show ¬ (((41 : Nat) : Int) ≤ 40) by omega)]
      exact ev_ite (fun _ => Ev.step (fun k => rfl) (ev_now rfl)) (fun _ => Ev.step (fun k => rfl) (ev_now rfl))
  case h1 =>
    intro i hi _ hc y hy
    simp only [textAt, decide_eq_true_eq] at hc
    have hi' : i < s.size := by omega
    refine Ev.step (fun k => rfl) (ev_pos (by omega) ?_)
    rw [decide_eq_true (show (i : Int) ≤ 40 by omega)]
    refine Ev.step (fun k => rfl) ?_
    show Ev (fun k => if 0 ≤ (i : Int) then (if (i : Int) < (s.size : Int) then (if (bt s i) < 32 then (some false) else (if (bt s i) > 126 then (some false) else (spec_l21Text.l0 k s (wrap64 ((i : Int) + 1))))) else none) else none) y
    rw [wrap_succ hi' hs]
    exact ev_pos (by omega) (ev_pos (by omega) (ev_neg (by omega) (ev_neg (by omega) hy)))
  case h2 =>
    intro i hi _ hc
    simp only [textAt, decide_eq_false_iff_not] at hc
    have hi' : i < s.size := by omega
    refine Ev.step (fun k => rfl) (ev_pos (by omega) ?_)
    rw [decide_eq_true (show (i : Int) ≤ 40 by omega)]
    refine Ev.step (fun k => rfl) ?_
    show Ev (fun k => if 0 ≤ (i : Int) then (if (i : Int) < (s.size : Int) then (if (bt s i) < 32 then (some false) else (if (bt s i) > 126 then (some false) else (spec_l21Text.l0 k s (wrap64 ((i : Int) + 1))))) else none) else none) _
    refine ev_pos (by omega) (ev_pos (by omega) (ev_ite (fun _ => ev_now rfl) (fun _ => ev_ite (fun _ => ev_now rfl) (fun _ => ?_))))
    exfalso; omega
  refine ev_cast h ?_
  unfold textB
  by_cases c : s.size ≤ 40
  · rw [Nat.min_eq_left (by omega)]
    cases (List.range s.size).all (textAt s) <;> simp
  · rw [decide_eq_false (show ¬ ((s.size : Int) ≤ 40) by omega)]
    simp
end Go.Proofs.Ytdogpphfofimeaa.X
namespace Go.Proofs.Ytdogpphfofimeaa.X
open Go.RowKit Go.Proofs.YtdogpphfofimeaaW.PrintWords Go.Proofs.YtdogpphfofimeaaW.PrintLast Go.Proofs.YtdogpphfofimeaaW.PrintMore
attribute [local go_sem] max2_int min2_int max_two min_two max_three min_three max_four min_four   -- for this text's walks alone
set_option linter.unusedVariables false
set_option linter.unusedSimpArgs false
attribute [-simp] ByteArray.size_append ByteArray.size_extract
attribute [-go_sem] ByteArray.size_append'

/-! ### spec_IsValidForm: function 9 -/
def spec_IsValidForm.f (k : Nat) (l0 : List (S50)) : Option (Bool) := (spec_l23Good.f k l0).bind fun t101 => (some t101)
set_option maxHeartbeats 8000000 in
set_option maxRecDepth 100000 in
theorem spec_IsValidForm.calls (k : Nat) (A0 : Option Addr) (c0 : Nat) (l0 : List (S50)) (r : Bool) (w : World) (hr0 : Kd.C k50 w A0 l0.length l0) (hc0 : l0.length ≤ c0) (h : spec_IsValidForm.f k l0 = some r) :
  Calls Try.prog 9 #[.slice A0 l0.length c0] w fun e w' => e = .returned (.bool r) ∧ Below w.heap.size w w' := by
 (have HR0 := Aside0.mk hr0); (have HC0 := Aside0.mk hc0); clear hr0 hc0; (have HB := Aside0.mk (Below.refl w.heap.size w)); (unfold spec_IsValidForm.f at h); (have H := h); clear h; (obtain ⟨t101, A2, H⟩ := obS H); (obtain rfl := Option.some.inj H); (go_enter Try.func9, Try.ntmps9); (go_wp2_with (first | ((with_reducible refine gate_callee (f := 31) rfl ?_); refine gL (some 4) Try.func31 #[.slice A0 l0.length c0] ?_; (with_reducible refine (spec_l23Good.calls k _ _ l0 t101 _ ?side1 ?side2 A2.out).mono ?_); (case side1 => exact cI HR0.out); (case side2 => exact HC0.out); rintro e w3 ⟨rfl, hb⟩; refine ⟨_, rfl, ?_⟩; have n0_ := Aside0.mk (sI hb HB); clear HB; have HB := n0_; clear n0_; (try clear hb); (try clear hb2); (try clear hk); (try clear hi)))); go_ret; (exact ⟨rfl, eI HB⟩)

end Go.Proofs.Ytdogpphfofimeaa.X
set_option linter.unusedVariables false
set_option linter.unusedSimpArgs false
namespace Go.Proofs.Ytdogpphfofimeaa.X
open Go.RowKit Go.Proofs.YtdogpphfofimeaaW.PrintWords Go.Proofs.Ytdogpphfofimeaa.E
abbrev Field := S50
abbrev zF : Field := z50
/-- What a reading tells of a field's sizes. -/
def fine (f : Field) : Prop := f.f0.size ≤ 9223372036854775807 ∧ f.f4.length ≤ 9223372036854775807 ∧ (∀ s ∈ f.f4, s.size ≤ 9223372036854775807) ∧ f.f6.size ≤ 9223372036854775807
abbrev fidx (form : List Field) (n : ByteArray) : Int := idxG (fun x : Field => x.f0.toList == n.toList) 0 form
theorem l23Find_ev (form : List Field) (n : ByteArray) (hl : form.length ≤ 9223372036854775807) : Ev (fun k => spec_l23Find.f k form n) (fidx form n) := by
  have h := ev_walk (L := fun k i => spec_l23Find.l0 k form n i) (G := fun i r => idxG (fun x : Field => x.f0.toList == n.toList) i r) form (Ev.step (fun k => rfl) (ev_neg (by omega) (ev_now rfl))) ?step
  case step =>
    intro i x r hi hd hx hk
    refine Ev.step (fun k => rfl) (ev_pos (by omega) (ev_pos (by omega) ?_))
    simp only [rd_T50, Int.toNat_natCast, hx]
    by_cases c : x.f0.toList = n.toList
    · exact ev_pos c (ev_now (by simp [idxG, c]))
    · refine ev_neg c ?_
      rw [wrap_succ hi hl]
      exact ev_cast hk (by simp [idxG, c])
  exact h
theorem fieldOf_eq (form : List Field) (n : ByteArray) : impl_fieldOf.f form n = some (fidx form n) := rfl
/-- A list's choices: names, and none twice. -/
def choiceAt (l : List ByteArray) (i : Nat) : Bool := nameB (l.getD i ByteArray.empty) && (List.range i).all (fun k => !((l.getD k ByteArray.empty).toList == (l.getD i ByteArray.empty).toList))
def choices (l : List ByteArray) : Bool := (List.range l.length).all (choiceAt l)
theorem l23Names_ev (l : List ByteArray) (hl : l.length ≤ 9223372036854775807) (hs : ∀ s ∈ l, s.size ≤ 9223372036854775807) : Ev (fun k => spec_l23Names.f k l) (choices l) := by
  have inner : ∀ i, i < l.length → ∀ y, ((List.range i).all (fun k => !((l.getD k ByteArray.empty).toList == (l.getD i ByteArray.empty).toList)) = true → Ev (fun k => spec_l23Names.l0 k l ((i + 1 : Nat) : Int)) y) →
      Ev (fun k => spec_l23Names.l1 k l i 0) (if (List.range i).all (fun k => !((l.getD k ByteArray.empty).toList == (l.getD i ByteArray.empty).toList)) = true then y else false) := by
    intro i hi y hy
    refine ev_all0 (L := fun k j => spec_l23Names.l1 k l i j) i _ false y ?_ ?_ ?_
    · intro hC
      refine Ev.step (fun k => rfl) (ev_neg (by omega) ?_)
      rw [wrap_succ hi hl]
      exact hy (all_range.2 hC)
    · intro m hm _ hc z hz
      refine Ev.step (fun k => rfl) (ev_pos (by omega) (ev_pos (by omega) (ev_pos (by omega) (ev_pos (by omega) (ev_pos (by omega) (ev_neg ?_ ?_))))))
      · simp only [rdOf, Int.toNat_natCast]
        simpa using hc
      · rw [wrap_succ hm (by omega)]; exact hz
    · intro m hm _ hc
      refine Ev.step (fun k => rfl) (ev_pos (by omega) (ev_pos (by omega) (ev_pos (by omega) (ev_pos (by omega) (ev_pos (by omega) (ev_pos ?_ (ev_now rfl)))))))
      simp only [rdOf, Int.toNat_natCast]
      simpa using hc
  have h := ev_all0 (L := fun k i => spec_l23Names.l0 k l i) l.length (choiceAt l) false true (fun _ => Ev.step (fun k => rfl) (ev_neg (by omega) (ev_now rfl))) ?h1 ?h2
  case h1 =>
    intro i hi _ hc y hy
    simp only [choiceAt, Bool.and_eq_true] at hc
    refine Ev.step (fun k => rfl) (ev_pos (by omega) (ev_pos (by omega) ?_))
    simp only [rdOf, Int.toNat_natCast]
    refine Ev.bind (l7Name_ev _ (by rw [getD_in hi]; exact hs _ (List.getElem_mem hi))) (ev_pos hc.1 ?_)
    have := inner i hi y (fun _ => hy)
    rw [if_pos hc.2] at this
    exact this
  case h2 =>
    intro i hi _ hc
    refine Ev.step (fun k => rfl) (ev_pos (by omega) (ev_pos (by omega) ?_))
    simp only [rdOf, Int.toNat_natCast]
    refine Ev.bind (l7Name_ev _ (by rw [getD_in hi]; exact hs _ (List.getElem_mem hi))) (ev_ite (fun h1 => ?_) (fun _ => ev_now rfl))
    have hn : ¬ (List.range i).all (fun k => !((l.getD k ByteArray.empty).toList == (l.getD i ByteArray.empty).toList)) = true := by
      intro h2
      simp only [choiceAt, h1, h2] at hc
      cases hc
    have := inner i hi false (fun h => absurd h hn)
    rw [if_neg hn] at this
    exact this
  refine ev_cast h ?_
  unfold choices
  cases (List.range l.length).all (choiceAt l) <;> rfl
theorem slicesIndexStr_ev (l : List ByteArray) (n : ByteArray) (hl : l.length ≤ 9223372036854775807) : Ev (fun k => slices_Index_string_string.f k l n) (idxG (fun x : ByteArray => x.toList == n.toList) 0 l) := by
  have h := ev_walk (L := fun k i => slices_Index_string_string.l0 k l n (l.length : Int) i) (G := fun i r => idxG (fun x : ByteArray => x.toList == n.toList) i r) l (Ev.step (fun k => rfl) (ev_neg (by omega) (ev_now rfl))) ?step
  case step =>
    intro i x r hi hd hx hk
    refine Ev.step (fun k => rfl) (ev_pos (by omega) (ev_pos (by omega) (ev_pos (by omega) ?_)))
    simp only [rdOf, Int.toNat_natCast, hx]
    by_cases c : n.toList = x.toList
    · exact ev_pos c (ev_now (by simp [idxG, c]))
    · refine ev_neg c ?_
      rw [wrap_succ hi hl]
      have c' : ¬ x.toList = n.toList := fun h => c h.symm
      exact ev_cast hk (by simp [idxG, c'])
  exact h
theorem slicesContainsStr_ev (l : List ByteArray) (n : ByteArray) (hl : l.length ≤ 9223372036854775807) : Ev (fun k => slices_Contains_string_string.f k l n) (l.any (fun x => x.toList == n.toList)) := by
  unfold slices_Contains_string_string.f
  refine Ev.bind (slicesIndexStr_ev l n hl) (ev_now ?_)
  exact idxG_nonneg (fun x : ByteArray => x.toList == n.toList) l 0
theorem any_take (l : List ByteArray) (i : Nat) (hi : i < l.length) (n : ByteArray) : (l.take i).any (fun x => x.toList == n.toList) = !(List.range i).all (fun k => !((l.getD k ByteArray.empty).toList == n.toList)) := by
  rw [Bool.eq_iff_iff, Bool.not_eq_true', List.any_eq_true, Bool.eq_false_iff, ne_eq, all_range]
  constructor
  · rintro ⟨x, hx, hp⟩ h
    obtain ⟨q, hq, rfl⟩ := List.getElem_of_mem hx
    have hq' : q < i := by simp at hq; omega
    have := h q hq'
    rw [getD_in (by omega)] at this
    rw [List.getElem_take] at hp
    rw [hp] at this; cases this
  · intro h
    refine Classical.byContradiction (fun hc => h (fun k hk => ?_))
    rw [getD_in (by omega)]
    cases hq : (l[k].toList == n.toList) with
    | false => rfl
    | true =>
      refine absurd ⟨l[k], ?_, hq⟩ hc
      rw [List.mem_take_iff_getElem]
      exact ⟨k, by omega, rfl⟩
/-- What is asked of the kind. -/
def kindOk (f : Field) : Bool :=
  if f.f1 = 1 then decide (-999999 ≤ f.f2 ∧ f.f2 ≤ f.f3 ∧ f.f3 ≤ 999999) && (f.f4.length == 0)
  else if f.f1 = 2 then decide (0 ≤ f.f2 ∧ f.f2 ≤ f.f3 ∧ f.f3 ≤ 40) && (f.f4.length == 0)
  else if f.f1 = 3 then decide (f.f2 = 0 ∧ f.f3 = 0) && decide (1 ≤ (f.f4.length : Int) ∧ (f.f4.length : Int) ≤ 6) && choices f.f4
  else if f.f1 = 4 then decide (f.f2 = 0 ∧ f.f3 = 0) && (f.f4.length == 0) else false
/-- What is asked of the condition, the fields ahead being known. -/
def ifOk (form : List Field) (i : Nat) (n : ByteArray) : Bool := (n.toList == []) || (decide (0 ≤ fidx form n ∧ fidx form n < (i : Int)) && ((form.getD (fidx form n).toNat zF).f1 == 4))
def fieldB (form : List Field) (i : Nat) : Bool :=
  nameB (form.getD i zF).f0 && decide (fidx form (form.getD i zF).f0 = (i : Int)) && decide (1 ≤ (form.getD i zF).f1 ∧ (form.getD i zF).f1 ≤ 4) && ifOk form i (form.getD i zF).f6 && kindOk (form.getD i zF)
theorem specField_ev (form : List Field) (i : Nat) (hi : i < form.length) (hl : form.length ≤ 9223372036854775807) (hf : fine (form.getD i zF)) : Ev (fun k => spec_l23Field.f k form i) (fieldB form i) := by
  unfold spec_l23Field.f
  refine ev_pos (by omega) (ev_pos (by omega) ?_)
  simp only [rd_T50, Int.toNat_natCast, l1In_eq]
  generalize hF : form.getD i z50 = F at *
  have hFB : fieldB form i = (nameB F.f0 && decide (fidx form F.f0 = (i : Int)) && decide (1 ≤ F.f1 ∧ F.f1 ≤ 4) && ifOk form i F.f6 && kindOk F) := by unfold fieldB; rw [show form.getD i zF = F from hF]
  rw [hFB]
  obtain ⟨g0, g4, g4s, g6⟩ := id hf
  have stop : ∀ b, b = false → Ev (fun k => spec_l23Field.j0 k form i true F.f0 F.f1 F.f2 F.f3 F.f4 F.f5 F.f6) b := fun b hb => hb ▸ Ev.step (fun k => rfl) (ev_now rfl)
  refine Ev.bind (l7Name_ev F.f0 g0) (ev_ite (fun h1 => ?_) (fun h1 => stop _ (by simp [h1])))
  refine Ev.bind (l23Find_ev form F.f0 hl) (ev_ite (fun h2 => ?_) (fun h2 => stop _ (by simp [h2])))
  by_cases h3 : 1 ≤ F.f1 ∧ F.f1 ≤ 4
  case neg =>
    show Ev (fun k => spec_l23Field.j0 k form i (!decide (1 ≤ F.f1 ∧ F.f1 ≤ 4)) F.f0 F.f1 F.f2 F.f3 F.f4 F.f5 F.f6) _
    rw [decide_eq_false h3]
    exact stop _ (by simp)
  show Ev (fun k => spec_l23Field.j0 k form i (!decide (1 ≤ F.f1 ∧ F.f1 ≤ 4)) F.f0 F.f1 F.f2 F.f3 F.f4 F.f5 F.f6) _
  rw [decide_eq_true h3]
  have tail : Ev (fun k => spec_l23Field.j1 k F.f0 F.f1 F.f2 F.f3 F.f4 F.f5 F.f6) (kindOk F) := by
    refine Ev.step (fun k => rfl) ?_
    unfold kindOk
    simp only [spec_l23Field.j1, l1In_eq]
    have e0 : ((F.f4.length : Int) == 0) = (F.f4.length == 0) := by
      rw [Bool.eq_iff_iff, beq_iff_eq, beq_iff_eq]; omega
    refine ev_ite (fun k1 => ?_) (fun k1 => ev_ite (fun k2 => ?_) (fun k2 => ev_ite (fun k3 => ?_) (fun k3 => ?_)))
    · rw [if_pos k1]
      refine ev_ite (fun h => ev_ite (fun h' => ev_now ?_) (fun h' => ev_now ?_)) (fun h => ev_now ?_)
      · rw [decide_eq_true_eq] at h; rw [decide_eq_true (show -999999 ≤ F.f2 ∧ F.f2 ≤ F.f3 ∧ F.f3 ≤ 999999 by omega), Bool.true_and, e0]
      · rw [decide_eq_false (show ¬ (-999999 ≤ F.f2 ∧ F.f2 ≤ F.f3 ∧ F.f3 ≤ 999999) by omega), Bool.false_and]
      · rw [decide_eq_true_eq] at h; rw [decide_eq_false (show ¬ (-999999 ≤ F.f2 ∧ F.f2 ≤ F.f3 ∧ F.f3 ≤ 999999) by omega), Bool.false_and]
    · rw [if_neg k1, if_pos k2]
      refine ev_ite (fun h => ev_ite (fun h' => ev_now ?_) (fun h' => ev_now ?_)) (fun h => ev_now ?_)
      · rw [decide_eq_true_eq] at h; rw [decide_eq_true (show 0 ≤ F.f2 ∧ F.f2 ≤ F.f3 ∧ F.f3 ≤ 40 by omega), Bool.true_and, e0]
      · rw [decide_eq_false (show ¬ (0 ≤ F.f2 ∧ F.f2 ≤ F.f3 ∧ F.f3 ≤ 40) by omega), Bool.false_and]
      · rw [decide_eq_true_eq] at h; rw [decide_eq_false (show ¬ (0 ≤ F.f2 ∧ F.f2 ≤ F.f3 ∧ F.f3 ≤ 40) by omega), Bool.false_and]
    · rw [if_neg k1, if_neg k2, if_pos k3]
      refine ev_ite (fun h => ev_ite (fun h' => ev_ite (fun h'' => ?_) (fun h'' => ev_now ?_)) (fun h' => ev_now ?_)) (fun h => ev_now ?_)
      · rw [decide_eq_true (show F.f2 = 0 ∧ F.f3 = 0 from ⟨h, h'⟩), h'', Bool.true_and, Bool.true_and]
        exact Ev.bind (l23Names_ev F.f4 g4 g4s) (ev_now rfl)
      · rw [decide_eq_true (show F.f2 = 0 ∧ F.f3 = 0 from ⟨h, h'⟩), Bool.eq_false_iff.2 h'']; rfl
      · rw [decide_eq_false (show ¬ (F.f2 = 0 ∧ F.f3 = 0) by omega)]; rfl
      · rw [decide_eq_false (show ¬ (F.f2 = 0 ∧ F.f3 = 0) by omega)]; rfl
    · rw [if_neg k1, if_neg k2, if_neg k3, if_pos (show F.f1 = 4 by omega)]
      refine ev_ite (fun h => ev_ite (fun h' => ev_now ?_) (fun h' => ev_now ?_)) (fun h => ev_now ?_)
      · rw [decide_eq_true (show F.f2 = 0 ∧ F.f3 = 0 from ⟨h, h'⟩), Bool.true_and, e0]
      · rw [decide_eq_false (show ¬ (F.f2 = 0 ∧ F.f3 = 0) by omega)]; rfl
      · rw [decide_eq_false (show ¬ (F.f2 = 0 ∧ F.f3 = 0) by omega)]; rfl
  rw [h1, decide_eq_true h2, Bool.true_and, Bool.true_and, Bool.true_and]
  refine Ev.step (fun k => rfl) ?_
  show Ev (fun k => if F.f6.toList = ([] : List UInt8) then _ else _) _
  unfold ifOk
  refine ev_ite (fun h4 => ev_cast tail (by simp [h4])) (fun h4 => ?_)
  have h4' : (F.f6.toList == []) = false := by simpa using h4
  rw [h4', Bool.false_or]
  refine Ev.bind (l23Find_ev form F.f6 hl) (ev_ite (fun h5 => ev_now ?_) (fun h5 => ev_ite (fun h6 => ev_now ?_) (fun h6 => ?_)))
  · rw [decide_eq_false (by omega), Bool.false_and, Bool.false_and]
  · rw [decide_eq_false (by omega), Bool.false_and, Bool.false_and]
  · refine ev_pos (by omega) (ev_pos (by omega) ?_)
    simp only [rd_T50]
    rw [decide_eq_true (show 0 ≤ fidx form F.f6 ∧ fidx form F.f6 < (i : Int) by omega), Bool.true_and]
    refine ev_ite (fun h7 => ev_cast tail ?_) (fun h7 => ev_now ?_)
    · show kindOk F = (((form.getD (fidx form F.f6).toNat z50).f1 == 4) && kindOk F)
      rw [h7]; rfl
    · show false = (((form.getD (fidx form F.f6).toNat z50).f1 == 4) && kindOk F)
      rw [show ((form.getD (fidx form F.f6).toNat z50).f1 == 4) = false from by simpa using h7]; rfl
def formB (form : List Field) : Bool := decide ((form.length : Int) ≤ 10) && (List.range form.length).all (fieldB form)
theorem specForm_ev (form : List Field) (hl : form.length ≤ 9223372036854775807) (hf : ∀ f ∈ form, fine f) : Ev (fun k => spec_l23Good.f k form) (formB form) := by
  unfold spec_l23Good.f
  refine ev_ite (fun h => ev_now ?_) (fun h => ?_)
  · unfold formB; rw [decide_eq_false (by omega), Bool.false_and]
  unfold formB
  rw [decide_eq_true (by omega), Bool.true_and]
  have h := ev_all0 (L := fun k i => spec_l23Good.l0 k form i) form.length (fieldB form) false true (fun _ => Ev.step (fun k => rfl) (ev_neg (by omega) (ev_now rfl))) ?h1 ?h2
  case h1 =>
    intro i hi _ hc y hy
    refine Ev.step (fun k => rfl) (ev_pos (by omega) (Ev.bind (specField_ev form i hi hl (hf _ (by rw [getD_in hi]; exact List.getElem_mem hi))) (ev_pos hc ?_)))
    rw [wrap_succ hi hl]; exact hy
  case h2 =>
    intro i hi _ hc
    exact Ev.step (fun k => rfl) (ev_pos (by omega) (Ev.bind (specField_ev form i hi hl (hf _ (by rw [getD_in hi]; exact List.getElem_mem hi))) (ev_neg (by rw [hc]; simp) (ev_now rfl))))
  refine ev_cast h ?_
  cases (List.range form.length).all (fieldB form) <;> rfl
end Go.Proofs.Ytdogpphfofimeaa.X
set_option linter.unusedVariables false
set_option linter.unusedSimpArgs false
namespace Go.Proofs.Ytdogpphfofimeaa.X
open Go.RowKit Go.Proofs.YtdogpphfofimeaaW.PrintWords Go.Proofs.Ytdogpphfofimeaa.E
theorem choiceLoop_ev (F : Field) (hF : fine F) :
    Ev (fun k => impl_isField.l0 k F.f4 (F.f4.length : Int) 0 F.f0 F.f1 F.f2 F.f3 F.f4 F.f5 F.f6) (decide (F.f2 = 0 ∧ F.f3 = 0) && decide (1 ≤ (F.f4.length : Int) ∧ (F.f4.length : Int) ≤ 6) && choices F.f4) := by
  obtain ⟨g0, g4, g4s, g6⟩ := hF
  have h := ev_all0 (L := fun k i => impl_isField.l0 k F.f4 (F.f4.length : Int) i F.f0 F.f1 F.f2 F.f3 F.f4 F.f5 F.f6) F.f4.length (choiceAt F.f4) false
    (decide (F.f2 = 0 ∧ F.f3 = 0) && decide (1 ≤ (F.f4.length : Int) ∧ (F.f4.length : Int) ≤ 6)) (fun _ => Ev.step (fun k => rfl) (ev_neg (by omega) ?h0)) ?h1 ?h2
  case h0 =>
    simp only [within_eq]
    refine ev_ite (fun h => ev_ite (fun h' => ev_now ?_) (fun h' => ev_now ?_)) (fun h => ev_now ?_)
    · rw [h, Bool.and_true]
      rw [Bool.eq_iff_iff, beq_iff_eq, decide_eq_true_eq]
      exact ⟨fun e => ⟨h', e⟩, fun e => e.2⟩
    · rw [decide_eq_false (show ¬ (F.f2 = 0 ∧ F.f3 = 0) by omega), Bool.false_and]
    · rw [Bool.eq_false_iff.2 h, Bool.and_false]
  case h1 =>
    intro i hi _ hc y hy
    simp only [choiceAt, Bool.and_eq_true] at hc
    refine Ev.step (fun k => rfl) (ev_pos (by omega) (ev_pos (by omega) (ev_pos (by omega) ?_)))
    simp only [rdOf, Int.toNat_natCast]
    refine Ev.bind (isName_ev _ (by rw [getD_in hi]; exact g4s _ (List.getElem_mem hi))) (ev_pos hc.1 (ev_pos (by omega) ?_))
    refine Ev.bind (slicesContainsStr_ev _ _ (by simp; omega)) (ev_neg ?_ ?_)
    · rw [any_take _ _ hi, hc.2]; simp
    · rw [wrap_succ hi g4]; exact hy
  case h2 =>
    intro i hi _ hc
    refine Ev.step (fun k => rfl) (ev_pos (by omega) (ev_pos (by omega) (ev_pos (by omega) ?_)))
    simp only [rdOf, Int.toNat_natCast]
    refine Ev.bind (isName_ev _ (by rw [getD_in hi]; exact g4s _ (List.getElem_mem hi))) (ev_ite (fun h1 => ev_pos (by omega) ?_) (fun _ => ev_now rfl))
    refine Ev.bind (slicesContainsStr_ev _ _ (by simp; omega)) (ev_pos ?_ (ev_now rfl))
    rw [any_take _ _ hi]
    unfold choiceAt at hc
    rw [h1, Bool.true_and] at hc
    rw [hc]; rfl
  refine ev_cast h ?_
  unfold choices
  cases (List.range F.f4.length).all (choiceAt F.f4) <;> simp
theorem kindSwitch_ev (F : Field) (hF : fine F) : Ev (fun k => impl_isField.j1 k false F.f0 F.f1 F.f2 F.f3 F.f4 F.f5 F.f6) (decide (1 ≤ F.f1 ∧ F.f1 ≤ 4) && kindOk F) := by
  have e0 : decide ((F.f4.length : Int) > 0) = !(F.f4.length == 0) := by
    cases h : (F.f4.length == 0)
    · have : ¬ F.f4.length = 0 := by simpa using h
      rw [decide_eq_true (by omega)]; rfl
    · have : F.f4.length = 0 := by simpa using h
      rw [decide_eq_false (by omega)]; rfl
  have bad : Ev (fun k => impl_isField.j2 k true F.f0 F.f1 F.f2 F.f3 F.f4 F.f5 F.f6) false := Ev.step (fun k => rfl) (ev_now rfl)
  refine Ev.step (fun k => rfl) ?_
  show Ev (fun k => if F.f1 = 3 then impl_isField.j2 k false F.f0 F.f1 F.f2 F.f3 F.f4 F.f5 F.f6 else impl_isField.j2 k (decide ((F.f4.length : Int) > 0)) F.f0 F.f1 F.f2 F.f3 F.f4 F.f5 F.f6) _
  have sw : F.f1 = 3 ∨ (F.f4.length == 0) = true → Ev (fun k => impl_isField.j2 k false F.f0 F.f1 F.f2 F.f3 F.f4 F.f5 F.f6) (decide (1 ≤ F.f1 ∧ F.f1 ≤ 4) && kindOk F) := by
    intro hz
    refine Ev.step (fun k => rfl) ?_
    show Ev (fun k => if F.f1 = 1 then _ else _) _
    unfold kindOk
    refine ev_ite (fun k1 => ?_) (fun k1 => ev_ite (fun k2 => ?_) (fun k2 => ev_ite (fun k3 => ?_) (fun k3 => ev_ite (fun k4 => ?_) (fun k4 => ev_now ?_))))
    · rw [if_pos k1, decide_eq_true (show 1 ≤ F.f1 ∧ F.f1 ≤ 4 by omega), Bool.true_and, show (F.f4.length == 0) = true from hz.resolve_left (by omega), Bool.and_true]
      refine ev_ite (fun h => ev_ite (fun h' => ev_now ?_) (fun h' => ev_now ?_)) (fun h => ev_now ?_)
      · rw [Bool.eq_iff_iff, decide_eq_true_eq, decide_eq_true_eq]; omega
      · rw [decide_eq_false (by omega)]
      · rw [decide_eq_false (by omega)]
    · rw [if_neg k1, if_pos k2, decide_eq_true (show 1 ≤ F.f1 ∧ F.f1 ≤ 4 by omega), Bool.true_and, show (F.f4.length == 0) = true from hz.resolve_left (by omega), Bool.and_true]
      refine ev_ite (fun h => ev_ite (fun h' => ev_now ?_) (fun h' => ev_now ?_)) (fun h => ev_now ?_)
      · rw [Bool.eq_iff_iff, decide_eq_true_eq, decide_eq_true_eq]; omega
      · rw [decide_eq_false (by omega)]
      · rw [decide_eq_false (by omega)]
    · rw [if_neg k1, if_neg k2, if_pos k3, decide_eq_true (show 1 ≤ F.f1 ∧ F.f1 ≤ 4 by omega), Bool.true_and]
      exact choiceLoop_ev F hF
    · rw [if_neg k1, if_neg k2, if_neg k3, if_pos k4, decide_eq_true (show 1 ≤ F.f1 ∧ F.f1 ≤ 4 by omega), Bool.true_and, show (F.f4.length == 0) = true from hz.resolve_left (by omega), Bool.and_true]
      refine ev_ite (fun h => ev_now ?_) (fun h => ev_now ?_)
      · rw [Bool.eq_iff_iff, beq_iff_eq, decide_eq_true_eq]; exact ⟨fun e => ⟨h, e⟩, fun e => e.2⟩
      · rw [decide_eq_false (by omega)]
    · rw [decide_eq_false (show ¬ (1 ≤ F.f1 ∧ F.f1 ≤ 4) by omega), Bool.false_and]
  refine ev_ite (fun h3 => sw (.inl h3)) (fun h3 => ?_)
  rw [e0]
  cases hz : (F.f4.length == 0) with
  | true => exact sw (.inr hz)
  | false =>
    refine ev_cast bad ?_
    unfold kindOk
    rw [hz, if_neg h3]
    simp
theorem implField_ev (form : List Field) (i : Nat) (hi : i < form.length) (hl : form.length ≤ 9223372036854775807) (hf : fine (form.getD i zF)) :
    Ev (fun k => impl_isField.f k (form.take i) (form.getD i zF).f0 (form.getD i zF).f1 (form.getD i zF).f2 (form.getD i zF).f3 (form.getD i zF).f4 (form.getD i zF).f5 (form.getD i zF).f6) (fieldB form i) := by
  have hself : form[i]? = some (form.getD i zF) := by rw [getD_in hi, List.getElem?_eq_getElem hi]
  have hfirst := idxG_first (p := fun x : Field => x.f0.toList == (form.getD i zF).f0.toList) hself (by simp)
  have hFB : fieldB form i = (nameB (form.getD i zF).f0 && decide (fidx form (form.getD i zF).f0 = (i : Int)) && decide (1 ≤ (form.getD i zF).f1 ∧ (form.getD i zF).f1 ≤ 4) && ifOk form i (form.getD i zF).f6 && kindOk (form.getD i zF)) := rfl
  rw [hFB]
  clear hFB hself
  generalize form.getD i zF = F at *
  obtain ⟨g0, g4, g4s, g6⟩ := id hf
  have stop : ∀ b, b = false → Ev (fun k => impl_isField.j0 k (form.take i) true F.f0 F.f1 F.f2 F.f3 F.f4 F.f5 F.f6) b := fun b hb => hb ▸ Ev.step (fun k => rfl) (ev_now rfl)
  unfold impl_isField.f
  simp only [fieldOf_eq]
  refine Ev.bind (isName_ev F.f0 g0) (ev_ite (fun h1 => ?_) (fun h1 => stop _ (by simp [h1])))
  show Ev (fun k => impl_isField.j0 k (form.take i) (decide (fidx (form.take i) F.f0 ≥ 0)) F.f0 F.f1 F.f2 F.f3 F.f4 F.f5 F.f6) _
  by_cases h2 : fidx form F.f0 = (i : Int)
  case neg =>
    have h2' : ¬ fidx (form.take i) F.f0 < 0 := fun h => h2 (hfirst.2 h)
    rw [decide_eq_true (show fidx (form.take i) F.f0 ≥ 0 by omega)]
    exact stop _ (by simp [h2])
  have h2' := hfirst.1 h2
  rw [decide_eq_false (show ¬ fidx (form.take i) F.f0 ≥ 0 from by have : fidx (form.take i) F.f0 < 0 := h2'; omega)]
  rw [h1, decide_eq_true h2, Bool.true_and, Bool.true_and]
  have bad : ∀ b, b = false → Ev (fun k => impl_isField.j1 k true F.f0 F.f1 F.f2 F.f3 F.f4 F.f5 F.f6) b := fun b hb => hb ▸ Ev.step (fun k => rfl) (ev_now rfl)
  have good := kindSwitch_ev F hf
  refine Ev.step (fun k => rfl) ?_
  simp only [impl_isField.j0]
  refine ev_neg (by simp) (ev_bind0 (fieldOf_eq _ _) ?_)
  unfold ifOk
  refine ev_ite (fun h4 => ev_cast good (by simp [h4])) (fun h4 => ?_)
  have h4' : (F.f6.toList == []) = false := by simpa using h4
  rw [h4', Bool.false_or]
  have hif : fidx (form.take i) F.f6 = if ((0 : Nat) : Int) ≤ fidx form F.f6 ∧ fidx form F.f6 < ((0 + i : Nat) : Int) then fidx form F.f6 else -1 := idxG_take _ form 0 i
  refine ev_ite (fun h5 => bad _ ?_) (fun h5 => ?_)
  · have : ¬ (0 ≤ fidx form F.f6 ∧ fidx form F.f6 < (i : Int)) := by
      intro h
      rw [hif, if_pos (by omega)] at h5
      omega
    rw [decide_eq_false this]; simp
  · have hr : 0 ≤ fidx form F.f6 ∧ fidx form F.f6 < (i : Int) := by
      refine Classical.byContradiction (fun h => ?_)
      rw [hif, if_neg (by omega)] at h5
      omega
    have he : fidx (form.take i) F.f6 = fidx form F.f6 := by rw [hif, if_pos (by omega)]
    rw [decide_eq_true hr, Bool.true_and]
    have hlen : (form.take i).length = i := by simp; omega
    refine ev_pos (by omega) (ev_pos (by rw [he, hlen]; omega) ?_)
    have hrd : rd_T50 (form.take i) (fidx (form.take i) F.f6) = form.getD (fidx form F.f6).toNat zF := by
      unfold rd_T50
      rw [he, getD_in (by rw [hlen]; omega), List.getElem_take, getD_in (by omega)]
    simp only [hrd]
    by_cases h7 : (form.getD (fidx form F.f6).toNat zF).f1 = 4
    · have e : ((form.getD (fidx form F.f6).toNat zF).f1 != 4) = false := bne_eq_false_iff_eq.mpr h7
      rw [e, h7]
      exact ev_cast good (by simp)
    · have e : ((form.getD (fidx form F.f6).toNat zF).f1 != 4) = true := bne_iff_ne.mpr h7
      rw [e]
      rw [show ((form.getD (fidx form F.f6).toNat zF).f1 == 4) = false from beq_eq_false_iff_ne.mpr h7]
      exact bad _ (by simp)
theorem implForm_ev (form : List Field) (hl : form.length ≤ 9223372036854775807) (hf : ∀ f ∈ form, fine f) : Ev (fun k => impl_IsValidForm.f k form) (formB form) := by
  have h := ev_all0 (L := fun k i => impl_IsValidForm.l0 k form form (form.length : Int) i) form.length (fieldB form) false (decide ((form.length : Int) ≤ 10)) (fun _ => Ev.step (fun k => rfl) (ev_neg (by omega) (ev_now rfl))) ?h1 ?h2
  case h1 =>
    intro i hi _ hc y hy
    refine Ev.step (fun k => rfl) (ev_pos (by omega) (ev_pos (by omega) (ev_pos (by omega) (ev_pos (by omega) ?_))))
    simp only [rd_T50, Int.toNat_natCast]
    refine Ev.bind (implField_ev form i hi hl (hf _ (by rw [getD_in hi]; exact List.getElem_mem hi))) (ev_pos hc ?_)
    rw [wrap_succ hi hl]; exact hy
  case h2 =>
    intro i hi _ hc
    refine Ev.step (fun k => rfl) (ev_pos (by omega) (ev_pos (by omega) (ev_pos (by omega) (ev_pos (by omega) ?_))))
    simp only [rd_T50, Int.toNat_natCast]
    exact Ev.bind (implField_ev form i hi hl (hf _ (by rw [getD_in hi]; exact List.getElem_mem hi))) (ev_neg (by rw [hc]; simp) (ev_now rfl))
  refine ev_cast h ?_
  unfold formB
  cases (List.range form.length).all (fieldB form) <;> simp
end Go.Proofs.Ytdogpphfofimeaa.X
namespace Go.Proofs.Ytdogpphfofimeaa.X
open Go.RowKit Go.Proofs.YtdogpphfofimeaaW.PrintWords Go.Proofs.YtdogpphfofimeaaW.PrintLast Go.Proofs.YtdogpphfofimeaaW.PrintMore
attribute [local go_sem] max2_int min2_int max_two min_two max_three min_three max_four min_four   -- for this text's walks alone
set_option linter.unusedVariables false
set_option linter.unusedSimpArgs false
attribute [-simp] ByteArray.size_append ByteArray.size_extract
attribute [-go_sem] ByteArray.size_append'

/-! ### spec_IsValidAnswers: function 14 -/
def spec_IsValidAnswers.f (k : Nat) (l0 : List (S50)) (l1 : List (S57)) : Option (Bool) := (spec_l23Answers.f k l0 l1).bind fun t101 => (some t101)
set_option maxHeartbeats 8000000 in
set_option maxRecDepth 100000 in
theorem spec_IsValidAnswers.calls (k : Nat) (A0 : Option Addr) (c0 : Nat) (l0 : List (S50)) (A1 : Option Addr) (c1 : Nat) (l1 : List (S57)) (r : Bool) (w : World) (hr0 : Kd.C k50 w A0 l0.length l0) (hc0 : l0.length ≤ c0) (hr1 : Kd.C k57 w A1 l1.length l1) (hc1 : l1.length ≤ c1) (h : spec_IsValidAnswers.f k l0 l1 = some r) :
  Calls Try.prog 14 #[.slice A0 l0.length c0, .slice A1 l1.length c1] w fun e w' => e = .returned (.bool r) ∧ Below w.heap.size w w' := by
 (have HR0 := Aside0.mk hr0); (have HC0 := Aside0.mk hc0); clear hr0 hc0; (have HR1 := Aside0.mk hr1); (have HC1 := Aside0.mk hc1); clear hr1 hc1; (have HB := Aside0.mk (Below.refl w.heap.size w)); (unfold spec_IsValidAnswers.f at h); (have H := h); clear h; (obtain ⟨t101, A3, H⟩ := obS H); (obtain rfl := Option.some.inj H); (go_enter Try.func14, Try.ntmps14); (go_wp2_with (first | ((with_reducible refine gate_callee (f := 36) rfl ?_); refine gL (some 7) Try.func36 #[.slice A0 l0.length c0, .slice A1 l1.length c1] ?_; (with_reducible refine (spec_l23Answers.calls k _ _ l0 _ _ l1 t101 _ ?side1 ?side2 ?side3 ?side4 A3.out).mono ?_); (case side1 => exact cI HR0.out); (case side2 => exact HC0.out); (case side3 => exact cI HR1.out); (case side4 => exact HC1.out); rintro e w4 ⟨rfl, hb⟩; refine ⟨_, rfl, ?_⟩; have n0_ := Aside0.mk (sI hb HB); clear HB; have HB := n0_; clear n0_; (try clear hb); (try clear hb2); (try clear hk); (try clear hi)))); go_ret; (exact ⟨rfl, eI HB⟩)

end Go.Proofs.Ytdogpphfofimeaa.X
set_option linter.unusedVariables false
set_option linter.unusedSimpArgs false
namespace Go.Proofs.Ytdogpphfofimeaa.X
open Go.RowKit Go.Proofs.YtdogpphfofimeaaW.PrintWords Go.Proofs.Ytdogpphfofimeaa.E
abbrev Answer := S57
def fineA (a : Answer) : Prop := a.f0.size ≤ 9223372036854775807 ∧ a.f1.size ≤ 9223372036854775807
/-- The place of the last answered field ahead. -/
def lastI (form : List Field) (ans : List Answer) (i : Nat) : Int := if i = 0 then -1 else fidx form (ans.getD (i - 1) z57).f0
theorem lastI_succ (form : List Field) (ans : List Answer) (i : Nat) : lastI form ans (i + 1) = fidx form (ans.getD i z57).f0 := by
  unfold lastI
  rw [if_neg (by omega), Nat.add_sub_cancel]
def ansAt (form : List Field) (ans : List Answer) (i : Nat) : Bool := decide (lastI form ans i < fidx form (ans.getD i z57).f0) && textB (ans.getD i z57).f1
def ansB (form : List Field) (ans : List Answer) : Bool := formB form && (List.range ans.length).all (ansAt form ans)
theorem ans_short {form : List Field} {ans : List Answer} (h : (List.range ans.length).all (ansAt form ans) = true) : ans.length ≤ form.length := by
  have h' := all_range.1 h
  have low : ∀ i, i ≤ ans.length → (i : Int) - 1 ≤ lastI form ans i := by
    intro i
    induction i with
    | zero => intro _; simp [lastI]
    | succ i ih =>
      intro hi
      have h1 := ih (by omega)
      have h2 := h' i (by omega)
      simp only [ansAt, Bool.and_eq_true, decide_eq_true_eq] at h2
      rw [lastI_succ]
      omega
  rcases Nat.eq_zero_or_pos ans.length with e | e
  · omega
  · have h1 := low ans.length (Nat.le_refl _)
    have h3 : lastI form ans ans.length < (form.length : Int) := by
      rw [show ans.length = (ans.length - 1) + 1 from by omega, lastI_succ]
      rcases idxG_range (fun x : Field => x.f0.toList == (ans.getD (ans.length - 1) z57).f0.toList) form with h | h
      · show fidx form _ < _
        rw [fidx, h]; omega
      · exact h.2
    omega
theorem implAnswers_ev (form : List Field) (ans : List Answer) (hl : form.length ≤ 9223372036854775807) (hf : ∀ f ∈ form, fine f) (hla : ans.length ≤ 9223372036854775807) (ha : ∀ a ∈ ans, fineA a) :
    Ev (fun k => impl_IsValidAnswers.f k form ans) (ansB form ans) := by
  have h := ev_all (L := fun k (s : Int) i => impl_IsValidAnswers.l0 k form s ans (ans.length : Int) i) ans.length (lastI form ans) (ansAt form ans) false (formB form)
    (fun _ => Ev.step (fun k => rfl) (ev_neg (by omega) (Ev.bind (implForm_ev form hl hf) (ev_now rfl)))) ?h1 ?h2
  case h1 =>
    intro i hi _ hc y hy
    simp only [ansAt, Bool.and_eq_true, decide_eq_true_eq] at hc
    have hfa := ha _ (List.getElem_mem hi)
    rw [← getD_in hi z57] at hfa
    refine Ev.step (fun k => rfl) (ev_pos (by omega) (ev_pos (by omega) (ev_pos (by omega) ?_)))
    simp only [rd_T57, Int.toNat_natCast, fieldOf_eq]
    refine ev_some (ev_neg (by omega) (Ev.bind (isText_ev _ hfa.2) (ev_pos hc.2 ?_)))
    rw [wrap_succ hi hla]
    rw [lastI_succ] at hy
    exact hy
  case h2 =>
    intro i hi _ hc
    have hfa := ha _ (List.getElem_mem hi)
    rw [← getD_in hi z57] at hfa
    refine Ev.step (fun k => rfl) (ev_pos (by omega) (ev_pos (by omega) (ev_pos (by omega) ?_)))
    simp only [rd_T57, Int.toNat_natCast, fieldOf_eq]
    refine ev_some (ev_ite (fun _ => ev_now rfl) (fun h1 => Ev.bind (isText_ev _ hfa.2) (ev_neg ?_ (ev_now rfl))))
    intro h2
    have : ansAt form ans i = true := by
      simp only [ansAt, Bool.and_eq_true, decide_eq_true_eq]
      exact ⟨by omega, h2⟩
    rw [this] at hc; cases hc
  refine ev_cast h ?_
  unfold ansB
  cases (List.range ans.length).all (ansAt form ans) <;> simp
theorem specAnswers_ev (form : List Field) (ans : List Answer) (hl : form.length ≤ 9223372036854775807) (hf : ∀ f ∈ form, fine f) (hla : ans.length ≤ 9223372036854775807) (ha : ∀ a ∈ ans, fineA a) :
    Ev (fun k => spec_l23Answers.f k form ans) (ansB form ans) := by
  unfold spec_l23Answers.f
  refine Ev.bind (specForm_ev form hl hf) ?_
  unfold ansB
  have stop : ∀ b, b = false → Ev (fun k => spec_l23Answers.j0 k form ans true) b := fun b hb => hb ▸ Ev.step (fun k => rfl) (ev_now rfl)
  refine ev_ite (fun h1 => ?_) (fun h1 => stop _ (by simp [h1]))
  rw [h1, Bool.true_and]
  by_cases h2 : (ans.length : Int) > (form.length : Int)
  · rw [decide_eq_true h2]
    refine stop _ ?_
    rw [Bool.eq_false_iff]
    intro h
    have := ans_short h
    omega
  rw [decide_eq_false h2]
  refine Ev.step (fun k => rfl) ?_
  simp only [spec_l23Answers.j0]
  refine ev_neg (by simp) ?_
  have h := ev_all (L := fun k (s : Int) i => spec_l23Answers.l0 k form ans s i) ans.length (lastI form ans) (ansAt form ans) false true
    (fun _ => Ev.step (fun k => rfl) (ev_neg (by omega) (ev_now rfl))) ?h1 ?h2
  case h1 =>
    intro i hi _ hc y hy
    simp only [ansAt, Bool.and_eq_true, decide_eq_true_eq] at hc
    have hfa := ha _ (List.getElem_mem hi)
    rw [← getD_in hi z57] at hfa
    refine Ev.step (fun k => rfl) (ev_pos (by omega) (ev_pos (by omega) ?_))
    simp only [rd_T57, Int.toNat_natCast]
    refine Ev.bind (l23Find_ev form _ hl) (ev_neg (by omega) (Ev.bind (l21Text_ev _ hfa.2) (ev_pos hc.2 ?_)))
    rw [wrap_succ hi hla]
    rw [lastI_succ] at hy
    exact hy
  case h2 =>
    intro i hi _ hc
    have hfa := ha _ (List.getElem_mem hi)
    rw [← getD_in hi z57] at hfa
    refine Ev.step (fun k => rfl) (ev_pos (by omega) (ev_pos (by omega) ?_))
    simp only [rd_T57, Int.toNat_natCast]
    refine Ev.bind (l23Find_ev form _ hl) (ev_ite (fun _ => ev_now rfl) (fun h1 => Ev.bind (l21Text_ev _ hfa.2) (ev_neg ?_ (ev_now rfl))))
    intro h2
    have : ansAt form ans i = true := by
      simp only [ansAt, Bool.and_eq_true, decide_eq_true_eq]
      exact ⟨by omega, h2⟩
    rw [this] at hc; cases hc
  refine ev_cast h ?_
  cases (List.range ans.length).all (ansAt form ans) <;> rfl
end Go.Proofs.Ytdogpphfofimeaa.X
set_option linter.unusedVariables false
set_option linter.unusedSimpArgs false
namespace Go.Proofs.Ytdogpphfofimeaa.X
open Go.RowKit Go.Proofs.YtdogpphfofimeaaW.PrintWords Go.Proofs.Ytdogpphfofimeaa.E
theorem ba_inj {a b : ByteArray} (h : a.toList = b.toList) : a = b := by
  rw [Lib.toList_data, Lib.toList_data] at h
  exact ByteArray.ext (Array.toList_inj.1 h)
abbrev zA : Answer := z57
/-- The place of an answer's field. -/
abbrev pos (form : List Field) (ans : List Answer) (i : Nat) : Int := fidx form (ans.getD i zA).f0
structure Valid (form : List Field) (ans : List Answer) : Prop where
  len : form.length ≤ 10
  name : ∀ j, j < form.length → fidx form (form.getD j zF).f0 = (j : Int)
  up : ∀ i, i < ans.length → lastI form ans i < pos form ans i
  fld : ∀ j, j < form.length → fieldB form j = true
  txt : ∀ i, i < ans.length → textB (ans.getD i zA).f1 = true
theorem valid_of {form : List Field} {ans : List Answer} (h : ansB form ans = true) : Valid form ans := by
  unfold ansB formB at h
  rw [Bool.and_eq_true, Bool.and_eq_true, decide_eq_true_eq, all_range, all_range] at h
  obtain ⟨⟨h1, h2⟩, h3⟩ := h
  refine ⟨by omega, fun j hj => ?_, fun i hi => ?_, h2, fun i hi => ?_⟩
  · have := h2 j hj
    unfold fieldB at this
    simp only [Bool.and_eq_true, decide_eq_true_eq] at this
    exact this.1.1.1.2
  · have := h3 i hi
    unfold ansAt at this
    rw [Bool.and_eq_true, decide_eq_true_eq] at this
    exact this.1
  · have := h3 i hi
    unfold ansAt at this
    rw [Bool.and_eq_true] at this
    exact this.2
theorem fidx_congr (form : List Field) {a b : ByteArray} (h : a.toList = b.toList) : fidx form a = fidx form b := by rw [ba_inj h]
theorem fidx_at {form : List Field} {n : ByteArray} {j : Nat} (h : fidx form n = (j : Int)) : j < form.length ∧ (form.getD j zF).f0 = n := by
  rcases idxG_spec (fun x : Field => x.f0.toList == n.toList) form 0 with ⟨h1, _⟩ | ⟨j', x, h1, h2, h3, h4, _⟩
  · have : fidx form n = -1 := h1
    omega
  · have e : fidx form n = ((0 + j' : Nat) : Int) := h2
    obtain rfl : j' = j := by omega
    refine ⟨h1, ?_⟩
    rw [List.getD_eq_getElem?_getD, h3, Option.getD_some]
    exact ba_inj (by simpa using h4)
theorem pos_low {form : List Field} {ans : List Answer} (V : Valid form ans) : ∀ i, i ≤ ans.length → -1 ≤ lastI form ans i ∧ ∀ j, j < i → pos form ans j ≤ lastI form ans i := by
  intro i
  induction i with
  | zero => intro _; exact ⟨by simp [lastI], fun j hj => by omega⟩
  | succ i ih =>
    intro hi
    obtain ⟨h1, h2⟩ := ih (by omega)
    have h3 := V.up i (by omega)
    rw [lastI_succ]
    refine ⟨by show -1 ≤ pos form ans i; omega, fun j hj => ?_⟩
    show pos form ans j ≤ pos form ans i
    by_cases e : j = i
    · rw [e]; exact Int.le_refl _
    · have := h2 j (by omega)
      omega
theorem pos_high {form : List Field} {ans : List Answer} (V : Valid form ans) {i j : Nat} (hij : i ≤ j) (hj : j < ans.length) : pos form ans i ≤ pos form ans j := by
  by_cases e : i = j
  · rw [e]; exact Int.le_refl _
  · have h1 := (pos_low V j (by omega)).2 i (by omega)
    have h2 := V.up j hj
    omega
theorem pos_lt {form : List Field} {ans : List Answer} (V : Valid form ans) {i j : Nat} (hij : i < j) (hj : j < ans.length) : pos form ans i < pos form ans j := by
  have h1 := (pos_low V j (by omega)).2 i hij
  have h2 := V.up j hj
  omega
theorem pos_in {form : List Field} {ans : List Answer} (V : Valid form ans) {i : Nat} (hi : i < ans.length) : ∃ k : Nat, pos form ans i = (k : Int) ∧ k < form.length ∧ (form.getD k zF).f0 = (ans.getD i zA).f0 := by
  have h1 := (pos_low V i (by omega)).1
  have h2 := V.up i hi
  have h3 : fidx form (ans.getD i zA).f0 = (((pos form ans i).toNat : Nat) : Int) := by
    have : fidx form (ans.getD i zA).f0 = pos form ans i := rfl
    omega
  exact ⟨_, h3, fidx_at h3⟩
/-- The answer to a field, as both look it up. -/
def look (ans : List Answer) (n : ByteArray) : Option Answer := ans.find? (fun x => x.f0.toList == n.toList)
theorem look_none {form : List Field} {ans : List Answer} (V : Valid form ans) {j : Nat} (hj : j < form.length) (h : ∀ i, i < ans.length → pos form ans i ≠ (j : Int)) : look ans (form.getD j zF).f0 = none := by
  unfold look
  rw [List.find?_eq_none]
  intro x hx hc
  obtain ⟨i, hi, rfl⟩ := List.getElem_of_mem hx
  refine h i hi ?_
  have e : ans[i].f0.toList = (form.getD j zF).f0.toList := by simpa using hc
  show fidx form (ans.getD i zA).f0 = _
  rw [getD_in hi, fidx_congr form e]
  exact V.name j hj
theorem look_some {form : List Field} {ans : List Answer} (V : Valid form ans) {i : Nat} (hi : i < ans.length) {j : Nat} (h : pos form ans i = (j : Int)) : look ans (form.getD j zF).f0 = some (ans.getD i zA) := by
  obtain ⟨k, hk, hkl, hkn⟩ := pos_in V hi
  obtain rfl : k = j := by omega
  unfold look
  cases hf : ans.find? (fun x => x.f0.toList == (form.getD k zF).f0.toList) with
  | none =>
    rw [List.find?_eq_none] at hf
    exact absurd (show ((ans[i].f0.toList == (form.getD k zF).f0.toList) = true) by rw [hkn, getD_in hi]; simp) (hf _ (List.getElem_mem hi))
  | some x =>
    have hx := List.mem_of_find?_eq_some hf
    have hp := List.find?_some hf
    obtain ⟨i', hi', rfl⟩ := List.getElem_of_mem hx
    have e : ans[i'].f0.toList = (form.getD k zF).f0.toList := by simpa using hp
    have e2 : pos form ans i' = (k : Int) := by
      show fidx form (ans.getD i' zA).f0 = _
      rw [getD_in hi', fidx_congr form e]
      exact V.name k hkl
    have : i' = i := by
      rcases Nat.lt_trichotomy i' i with h1 | h1 | h1
      · have := pos_lt V h1 hi; omega
      · exact h1
      · have := pos_lt V h1 hi'; omega
    subst this
    rw [getD_in hi']
end Go.Proofs.Ytdogpphfofimeaa.X
set_option linter.unusedVariables false
set_option linter.unusedSimpArgs false
namespace Go.Proofs.Ytdogpphfofimeaa.X
open Go.RowKit Go.Proofs.YtdogpphfofimeaaW.PrintWords Go.Proofs.Ytdogpphfofimeaa.E
def setG (ans : List Answer) (n t : ByteArray) (f : Field) : Option Answer := if f.f0.toList = n.toList then some ⟨n, t⟩ else (look ans f.f0).map (fun a => ⟨f.f0, a.f1⟩)
theorem set_seg {form : List Field} {ans : List Answer} (V : Valid form ans) {n t : ByteArray} {at_ : Nat} (hat : fidx form n = (at_ : Int)) (p : Nat) : ∀ q, p ≤ q → q ≤ form.length → (∀ j, p ≤ j → j < q → ∀ i, i < ans.length → pos form ans i ≠ (j : Int)) →
    (form.take q).filterMap (setG ans n t) = (form.take p).filterMap (setG ans n t) ++ (if p ≤ at_ ∧ at_ < q then [⟨n, t⟩] else []) := by
  intro q hpq
  induction q with
  | zero => intro _ _; obtain rfl : p = 0 := by omega
            rw [if_neg (by omega), List.append_nil]
  | succ q ih =>
    intro hq hn
    by_cases e : p = q + 1
    · subst e; rw [if_neg (by omega), List.append_nil]
    · have h1 := ih (by omega) (by omega) (fun j h2 h3 => hn j h2 (by omega))
      rw [List.take_succ_eq_append_getElem (by omega), List.filterMap_append, h1, List.append_assoc]
      congr 1
      have hnone := look_none V (show q < form.length by omega) (hn q (by omega) (by omega))
      rw [getD_in (by omega)] at hnone
      have hat2 := fidx_at hat
      by_cases c : q = at_
      · subst c
        rw [if_neg (by omega), if_pos (by omega)]
        have : form[q].f0 = n := by rw [← hat2.2, getD_in (by omega)]
        simp [setG, this]
      · have hne : ¬ form[q].f0.toList = n.toList := by
          intro he
          have h5 := V.name q (by omega)
          rw [getD_in (by omega), fidx_congr form he, hat] at h5
          omega
        have hg : setG ans n t form[q] = none := by unfold setG; rw [if_neg hne, hnone]; rfl
        have : [form[q]].filterMap (setG ans n t) = [] := by simp [hg]
        rw [this, List.append_nil]
        by_cases d : p ≤ at_ ∧ at_ < q
        · rw [if_pos d, if_pos (by omega)]
        · rw [if_neg d, if_neg (by omega)]
theorem set_here {form : List Field} {ans : List Answer} (V : Valid form ans) {n t : ByteArray} {at_ : Nat} (hat : fidx form n = (at_ : Int)) {i k : Nat} (hi : i < ans.length) (hk : pos form ans i = (k : Int)) :
    (form.take (k + 1)).filterMap (setG ans n t) = (form.take k).filterMap (setG ans n t) ++ [if k = at_ then ⟨n, t⟩ else ans.getD i zA] := by
  obtain ⟨k', h1, h2, h3⟩ := pos_in V hi
  obtain rfl : k' = k := by omega
  rw [List.take_succ_eq_append_getElem h2, List.filterMap_append]
  congr 1
  have hat2 := fidx_at hat
  have hgd : form.getD k' zF = form[k'] := getD_in h2 _
  by_cases c : k' = at_
  · subst c
    have : form[k'].f0 = n := by rw [← hat2.2, hgd]
    simp [setG, this]
  · have hne : ¬ form[k'].f0.toList = n.toList := by
      intro he
      have h5 := V.name k' h2
      rw [hgd, fidx_congr form he, hat] at h5
      omega
    have hl := look_some V hi hk
    rw [hgd] at hl h3
    have hg : setG ans n t form[k'] = some (ans.getD i zA) := by unfold setG; rw [if_neg hne, hl]; show some (⟨form[k'].f0, (ans.getD i zA).f1⟩ : Answer) = _; rw [h3]
    rw [if_neg c]
    simp [hg]
theorem implSet_ev (form : List Field) (ans : List Answer) (n t : ByteArray) (hl : form.length ≤ 10) : Ev (fun k => impl_SetAnswer.l0 k ans n t [] form (form.length : Int) 0) (form.filterMap (setG ans n t), true) := by
  have h := ev_scan0 (L := fun k (o : List Answer) i => impl_SetAnswer.l0 k ans n t o form (form.length : Int) i) (G := fun o i (r : List Field) => (o ++ r.filterMap (setG ans n t), true)) (fun o i r => o.length ≤ i) form [] (Nat.le_refl _) ?h1 ?h2
  case h1 =>
    intro o ho
    rw [List.filterMap_nil, List.append_nil]
    exact Ev.step (fun k => rfl) (ev_neg (by omega) (ev_now rfl))
  case h2 =>
    intro o i x r hI hi hd hg hk
    have hrd : rd_T50 form (i : Int) = x := by unfold rd_T50; rw [Int.toNat_natCast]; exact hg _
    refine Ev.step (fun k => rfl) (ev_pos (by omega) (ev_pos (by omega) (ev_pos (by omega) ?_)))
    rw [hrd, wrap_succ hi (by omega)]
    have ha : ∃ v, impl_answerOf.f ans x.f0 = some v ∧ (look ans x.f0).map (fun a => (⟨x.f0, a.f1⟩ : Answer)) = (if v.2 = true then some ⟨x.f0, v.1⟩ else none) := by
      unfold impl_answerOf.f look
      cases ans.find? (fun y => y.f0.toList == x.f0.toList) with
      | none => exact ⟨_, rfl, rfl⟩
      | some a => exact ⟨_, rfl, rfl⟩
    obtain ⟨v, hv, hvm⟩ := ha
    refine ev_bind0 hv ?_
    rw [List.filterMap_cons]
    by_cases c : x.f0.toList = n.toList
    · refine ev_pos c (ev_pos (by omega) ?_)
      have h3 := hk (o ++ [⟨x.f0, t⟩]) (by rw [List.length_append, List.length_singleton]; omega)
      have hs : setG ans n t x = some ⟨x.f0, t⟩ := by unfold setG; rw [if_pos c, ba_inj c]
      rw [hs]
      rw [List.append_assoc] at h3
      exact h3
    · refine ev_neg c ?_
      have hs : setG ans n t x = (if v.2 = true then some ⟨x.f0, v.1⟩ else none) := by unfold setG; rw [if_neg c]; exact hvm
      by_cases d : v.2 = true
      · rw [if_pos d] at hs
        rw [hs]
        refine ev_pos d (ev_pos (by omega) ?_)
        have h3 := hk (o ++ [⟨x.f0, v.1⟩]) (by rw [List.length_append, List.length_singleton]; omega)
        rw [List.append_assoc] at h3
        exact h3
      · rw [if_neg d] at hs
        rw [hs]
        exact ev_neg d (hk o (by omega))
  exact h
theorem take_len {α β : Type} (l : List α) (f : α → Option β) (p : Nat) (h : l.length ≤ 10) : ((l.take p).filterMap f).length ≤ 10 := by
  have h1 := List.length_filterMap_le f (l.take p)
  rw [List.length_take] at h1
  omega
theorem specSet_ev (form : List Field) (ans : List Answer) (n t : ByteArray) (V : Valid form ans) (hm : ans.length ≤ 9223372036854775807) (at_ : Nat) (hat : fidx form n = (at_ : Int)) : Ev (fun k => spec_SetAnswer.l0 k form ans n t [] (at_ : Int) false 0) (form.filterMap (setG ans n t), true) := by
  have hatl := (fidx_at hat).1
  have hlen := V.len
  have h := ev_scan0 (L := fun k (s : List Answer × Bool) i => spec_SetAnswer.l0 k form ans n t s.1 (at_ : Int) s.2 i) (G := fun s i (r : List Answer) => (form.filterMap (setG ans n t), true))
    (fun s i r => s.1 = (form.take (lastI form ans i + 1).toNat).filterMap (setG ans n t) ∧ s.2 = decide ((at_ : Int) ≤ lastI form ans i)) ans ([], false) ?h0 ?h1 ?h2
  case h0 =>
    have : lastI form ans 0 = -1 := by simp [lastI]
    rw [this]
    exact ⟨rfl, (decide_eq_false (by omega)).symm⟩
  case h1 =>
    rintro ⟨o, d⟩ ⟨ho, hd⟩
    have hlow := pos_low V ans.length (Nat.le_refl _)
    have hle : (lastI form ans ans.length + 1).toNat ≤ form.length := by
      rcases Nat.eq_zero_or_pos ans.length with e | e
      · rw [e]; simp [lastI]
      · rw [show ans.length = (ans.length - 1) + 1 by omega, lastI_succ]
        obtain ⟨k, h1, h2, _⟩ := pos_in V (show ans.length - 1 < ans.length by omega)
        show (pos form ans (ans.length - 1) + 1).toNat ≤ _
        omega
    have hseg := set_seg V (n := n) (t := t) hat (lastI form ans ans.length + 1).toNat form.length hle (Nat.le_refl _) (fun j h1 h2 i hi => by have := hlow.2 i hi; omega)
    rw [List.take_length] at hseg
    refine Ev.step (fun k => rfl) (ev_neg (by omega) ?_)
    simp only at ho hd
    by_cases c : (at_ : Int) ≤ lastI form ans ans.length
    · rw [decide_eq_true c] at hd
      subst hd
      rw [if_neg (by omega), List.append_nil] at hseg
      exact ev_pos rfl (ev_now (by rw [hseg, ho]))
    · rw [decide_eq_false c] at hd
      subst hd
      rw [if_pos (by omega)] at hseg
      have hol : o.length ≤ 10 := by rw [ho]; exact take_len _ _ _ hlen
      exact ev_neg (by simp) (ev_pos (by show o.length < _; omega) (ev_now (by rw [hseg, ho])))
  case h2 =>
    rintro ⟨o, d⟩ i x r ⟨ho, hd⟩ hi hdr hg hk
    simp only at ho hd
    have hrd : rd_T57 ans (i : Int) = x := by unfold rd_T57; rw [Int.toNat_natCast]; exact hg _
    have hxa : ans.getD i zA = x := hg _
    obtain ⟨k, hp, hkl, hkn⟩ := pos_in V hi
    have hlow := pos_low V i (by omega)
    have hup := V.up i hi
    have hseg := set_seg V (n := n) (t := t) hat (lastI form ans i + 1).toNat k (by omega) (by omega) (fun j h1 h2 i' hi' => by
      rcases Nat.lt_or_ge i' i with h3 | h3
      · have := hlow.2 i' h3; omega
      · have := pos_high V h3 hi'; omega)
    have hhere := set_here V (n := n) (t := t) hat hi hp
    rw [hxa] at hhere
    have hol : o.length ≤ 10 := by rw [ho]; exact take_len _ _ _ hlen
    have hol1 : ((form.take (k + 1)).filterMap (setG ans n t)).length ≤ 10 := take_len _ _ _ hlen
    have hlast : lastI form ans (i + 1) = (k : Int) := by rw [lastI_succ]; exact hp
    have hgoal : Ev (fun q => spec_SetAnswer.l0 q form ans n t ((form.take (k + 1)).filterMap (setG ans n t)) (at_ : Int) (decide ((at_ : Int) ≤ k)) ((i + 1 : Nat) : Int)) (form.filterMap (setG ans n t), true) :=
      hk ((form.take (k + 1)).filterMap (setG ans n t), decide ((at_ : Int) ≤ k)) ⟨by rw [hlast, show ((k : Int) + 1).toNat = k + 1 by omega], by rw [hlast]⟩
    refine Ev.step (fun k => rfl) (ev_pos (by omega) (ev_pos (by omega) ?_))
    rw [hrd]
    refine Ev.bind (l23Find_ev form x.f0 (by omega)) ?_
    rw [show fidx form x.f0 = (k : Int) by rw [← hxa]; exact hp]
    have hb : Ev (fun q => spec_SetAnswer.j2 q form ans n t o (at_ : Int) d (i : Int) (k : Int) (decide (k ≥ at_) && !d)) (form.filterMap (setG ans n t), true) := by
      refine Ev.step (fun k => rfl) ?_
      rw [hhere, hseg, ← ho] at hgoal
      by_cases c : (at_ : Int) ≤ lastI form ans i
      · rw [decide_eq_true c] at hd
        subst hd
        rw [if_neg (by omega), List.append_nil, if_neg (by omega), decide_eq_true (by omega)] at hgoal
        refine ev_neg (by simp) (ev_neg (by omega) (ev_pos (by omega) (ev_pos (by omega) (ev_pos (by show o.length < _; omega) ?_))))
        rw [hrd, wrap_succ hi hm]
        exact hgoal
      · rw [decide_eq_false c] at hd
        subst hd
        by_cases e : at_ ≤ k
        · refine ev_pos (by simpa using e) (ev_pos (by show o.length < _; omega) (ev_some ?_))
          rw [decide_eq_true (by omega)] at hgoal
          by_cases f : k = at_
          · rw [if_neg (by omega), List.append_nil, if_pos f] at hgoal
            refine ev_pos (by omega) ?_
            rw [wrap_succ hi hm]
            exact hgoal
          · rw [if_pos (by omega), if_neg f] at hgoal
            refine ev_neg (by omega) (ev_pos (by omega) (ev_pos (by omega) (ev_pos (by rw [List.length_append, List.length_singleton]; omega) ?_)))
            rw [hrd, wrap_succ hi hm]
            exact hgoal
        · rw [decide_eq_false (by omega), if_neg (by omega), List.append_nil, if_neg (by omega)] at hgoal
          refine ev_neg (by simpa using e) (ev_neg (by omega) (ev_pos (by omega) (ev_pos (by omega) (ev_pos (by show o.length < _; omega) ?_))))
          rw [hrd, wrap_succ hi hm]
          exact hgoal
    by_cases e : (k : Int) ≥ (at_ : Int)
    · refine ev_pos e ?_
      rw [show (decide (k ≥ at_) && !d) = !d by rw [decide_eq_true (by omega)]; rfl] at hb
      exact hb
    · refine ev_neg e ?_
      rw [show (decide (k ≥ at_) && !d) = false by rw [decide_eq_false (by omega)]; rfl] at hb
      exact hb
  exact h
end Go.Proofs.Ytdogpphfofimeaa.X
set_option linter.unusedVariables false
set_option linter.unusedSimpArgs false
namespace Go.Proofs.Ytdogpphfofimeaa.X
open Go.RowKit Go.Proofs.YtdogpphfofimeaaW.PrintWords Go.Proofs.Ytdogpphfofimeaa.E
theorem markLoop : ∀ (n : Nat) (x : Int) (s : ByteArray), x.toNat = n → 0 ≤ x → s.size + n ≤ 4611686018427387905 → ∃ r, Ev (fun k => laws_markText.l0 k x s) r := by
  intro n
  induction n using Nat.strongRecOn with
  | _ n ih =>
    intro x s hn h0 hb
    by_cases c : x > 0
    · have hs : (strOfNums [(wrap64 (48 + (Int.tmod x 10))) % 256]).size = 1 := by rw [strOfNums_size]; rfl
      have hd : wrap64 (Int.tdiv x 10) = x / 10 := by rw [Int.tdiv_eq_ediv_of_nonneg h0, wrap_id (by omega) (by omega)]
      obtain ⟨r, h⟩ := ih (x / 10).toNat (by omega) (x / 10) (strOfNums [(wrap64 (48 + (Int.tmod x 10))) % 256] ++ s) rfl (by omega) (by rw [ByteArray.size_append, hs]; omega)
      refine ⟨r, Ev.step (fun k => rfl) (ev_pos c (ev_some (ev_pos (by rw [hs]; omega) ?_)))⟩
      rw [hd]
      exact h
    · exact ⟨_, Ev.step (fun k => rfl) (ev_neg c (ev_pos (by omega) (ev_now rfl)))⟩
theorem mark_ex (q : Int) (h : q ≤ 4611686018427387905) : ∃ r, Ev (fun k => laws_markText.f k q) r := by
  unfold laws_markText.f
  by_cases c : q ≤ 0
  · exact ⟨_, ev_pos c (ev_now rfl)⟩
  · obtain ⟨r, h⟩ := markLoop q.toNat q (⟨#[]⟩ : ByteArray) rfl (by omega) (by rw [show (⟨#[]⟩ : ByteArray).size = 0 from rfl]; omega)
    exact ⟨r, ev_neg c h⟩
open Classical in
noncomputable def mt (q : Int) : ByteArray := if h : ∃ r, Ev (fun k => laws_markText.f k q) r then Classical.choose h else (⟨#[]⟩ : ByteArray)
theorem mt_ev (q : Int) (h : q ≤ 4611686018427387905) : Ev (fun k => laws_markText.f k q) (mt q) := by
  unfold mt
  rw [dif_pos (mark_ex q h)]
  exact Classical.choose_spec (mark_ex q h)
end Go.Proofs.Ytdogpphfofimeaa.X
set_option linter.unusedVariables false
set_option linter.unusedSimpArgs false
namespace Go.Proofs.Ytdogpphfofimeaa.X
open Go.RowKit Go.Proofs.YtdogpphfofimeaaW.PrintWords Go.Proofs.Ytdogpphfofimeaa.E
noncomputable def mkS (q : Int) (_ : ByteArray) : ByteArray := mt q
theorem sum1 {α : Type} (L : List α) : (L.map (fun _ => 1)).sum = L.length := by
  induction L with
  | nil => rfl
  | cons e L ih => rw [List.map_cons, List.sum_cons, ih, List.length_cons]; omega
theorem markStr (L : List ByteArray) (q : Int) (h0 : 0 ≤ q) (hq : q + L.length ≤ 4611686018427387904) : Ev (fun k => laws_markStringS.f k L q) (q + (L.length : Nat), markAll mkS (fun _ => 1) q L) := by
  have h := ev_mark (L := fun k l q i => laws_markStringS.l0 k l q i) L mkS (fun _ => 1) (fun out q ho => Ev.step (fun k => rfl) (ev_neg (by omega) (ev_now rfl))) ?hs q h0 (by rw [sum1]; omega)
  case hs =>
    intro out q i x y hi ho hx hxm hg h0 hb h
    have hw1 : wrap64 (q + 1) = q + (1 : Nat) := by rw [wrap_id (by omega) (by omega)]; omega
    refine Ev.step (fun k => rfl) (ev_pos (by omega) (Ev.bind (mt_ev q (by omega)) (ev_pos (by omega) ?_)))
    rw [hw1, wrap_succ hi (by omega), Int.toNat_natCast]
    exact h
  rw [sum1] at h
  exact h
end Go.Proofs.Ytdogpphfofimeaa.X
set_option linter.unusedVariables false
set_option linter.unusedSimpArgs false
namespace Go.Proofs.Ytdogpphfofimeaa.X
open Go.RowKit Go.Proofs.YtdogpphfofimeaaW.PrintWords Go.Proofs.Ytdogpphfofimeaa.E
noncomputable def mkF (q : Int) (x : S50) : S50 := ⟨mt q, q + 1, q + 2, q + 3, markAll mkS (fun _ => 1) (q + 4) x.f4, (Int.tmod (q + 4 + x.f4.length) 3 == 0), mt (q + 5 + x.f4.length)⟩
def wF (x : S50) : Nat := 6 + x.f4.length
theorem wF_len (L : List S50) : L.length ≤ (L.map wF).sum := by
  induction L with
  | nil => exact Nat.le_refl _
  | cons e L ih => rw [List.map_cons, List.sum_cons, List.length_cons]; unfold wF at *; omega
theorem markField (L : List S50) (q : Int) (h0 : 0 ≤ q) (hq : q + (((L.map wF).sum : Nat) : Int) ≤ 4611686018427387904) : Ev (fun k => laws_markFieldS.f k L q) (q + (((L.map wF).sum : Nat) : Int), markAll mkF wF q L) := by
  refine ev_mark (L := fun k l q i => laws_markFieldS.l0 k l q i) L mkF wF (fun out q ho => Ev.step (fun k => rfl) (ev_neg (by omega) (ev_now rfl))) ?hs q h0 (by omega)
  case hs =>
    intro out q i x y hi ho hx hxm hg h0 hb h
    have hc : (wF x : Int) = 6 + (x.f4.length : Int) := by unfold wF; omega
    have hle : wF x ≤ (L.map wF).sum := le_sum hxm
    have hll := wF_len L
    have e1 : wrap64 (q + 1) = q + 1 := wrap_id (by omega) (by omega)
    have e2 : wrap64 (q + 1 + 1) = q + 2 := by rw [wrap_id (by omega) (by omega)]; omega
    have e3 : wrap64 (q + 2 + 1) = q + 3 := by rw [wrap_id (by omega) (by omega)]; omega
    have e4 : wrap64 (q + 3 + 1) = q + 4 := by rw [wrap_id (by omega) (by omega)]; omega
    have hrd : rd_T50 out (i : Int) = x := by unfold rd_T50; rw [Int.toNat_natCast]; exact hg _
    refine Ev.step (fun k => rfl) (ev_pos (by omega) (ev_pos (by omega) (Ev.bind (mt_ev q (by omega)) ?_)))
    simp only [e1, e2, e3, e4, hrd]
    have e5 : wrap64 (q + 4 + ((x.f4.length : Nat) : Int) + 1) = q + 5 + (x.f4.length : Int) := by rw [wrap_id (by omega) (by omega)]; omega
    have e6 : wrap64 (q + 5 + (x.f4.length : Int) + 1) = q + (wF x : Int) := by rw [wrap_id (by omega) (by omega)]; omega
    refine Ev.bind (markStr x.f4 (q + 4) (by omega) (by omega)) ?_
    simp only [e5, e6]
    refine Ev.bind (mt_ev _ (by omega)) ?_
    rw [wrap_succ hi (by omega), Int.toNat_natCast]
    exact h
end Go.Proofs.Ytdogpphfofimeaa.X
set_option linter.unusedVariables false
set_option linter.unusedSimpArgs false
namespace Go.Proofs.Ytdogpphfofimeaa.X
open Go.RowKit Go.Proofs.YtdogpphfofimeaaW.PrintWords Go.Proofs.Ytdogpphfofimeaa.E
noncomputable def mkA (q : Int) (_ : S57) : S57 := ⟨mt q, mt (q + 1)⟩
theorem sum2 {α : Type} (L : List α) : (L.map (fun _ => 2)).sum = 2 * L.length := by
  induction L with
  | nil => rfl
  | cons e L ih => rw [List.map_cons, List.sum_cons, ih, List.length_cons]; omega
theorem markAns (L : List S57) (q : Int) (h0 : 0 ≤ q) (hq : q + 2 * L.length ≤ 4611686018427387904) : Ev (fun k => laws_markAnswerS.f k L q) (q + (2 * L.length : Nat), markAll mkA (fun _ => 2) q L) := by
  have h := ev_mark (L := fun k l q i => laws_markAnswerS.l0 k l q i) L mkA (fun _ => 2) (fun out q ho => Ev.step (fun k => rfl) (ev_neg (by omega) (ev_now rfl))) ?hs q h0 (by rw [sum2]; omega)
  case hs =>
    intro out q i x y hi ho hx hxm hg h0 hb h
    have hw1 : wrap64 (q + 1) = q + 1 := wrap_id (by omega) (by omega)
    have hw2 : wrap64 (q + 1 + 1) = q + (2 : Nat) := by rw [wrap_id (by omega) (by omega)]; omega
    refine Ev.step (fun k => rfl) (ev_pos (by omega) (Ev.bind (mt_ev q (by omega)) (ev_pos (by omega) (ev_some ?_))))
    rw [hw1, hw2, wrap_succ hi (by omega)]
    refine Ev.bind (mt_ev (q + 1) (by omega)) ?_
    rw [Int.toNat_natCast, List.set_set, show (rd_T57 (out.set i (⟨mt q, (rd_T57 out i).f1⟩ : S57)) (i : Int)).f0 = mt q by unfold rd_T57; rw [Int.toNat_natCast, List.getD_eq_getElem?_getD, List.getElem?_set_self (by omega)]; rfl]
    exact h
  rw [sum2] at h
  exact h
end Go.Proofs.Ytdogpphfofimeaa.X
set_option linter.unusedVariables false
set_option linter.unusedSimpArgs false
namespace Go.Proofs.Ytdogpphfofimeaa.X
open Go.RowKit Go.Proofs.YtdogpphfofimeaaW.PrintWords Go.Proofs.Ytdogpphfofimeaa.E
theorem heldAns (L : List S57) (q0 : Int) (h0 : 0 ≤ q0) (hq : q0 + 2 * L.length ≤ 4611686018427387904) : Ev (fun k => laws_heldAnswerS.f k (markAll mkA (fun _ => 2) q0 L) q0) (q0 + (2 * L.length : Nat)) := by
  have hlen := markAll_length mkA (fun _ => 2) L q0
  have h := ev_held (H := fun k q i => laws_heldAnswerS.l0 k (markAll mkA (fun _ => 2) q0 L) q i) L (markAll mkA (fun _ => 2) q0 L) mkA (fun _ => 2) q0 rfl (fun q => Ev.step (fun k => rfl) (ev_neg (by omega) (ev_now rfl))) ?hs h0 (by rw [sum2]; omega)
  case hs =>
    intro q i x y hi hxm hx hg h0 hb h
    have hw1 : wrap64 (q + 1) = q + 1 := wrap_id (by omega) (by omega)
    have hw2 : wrap64 (q + 1 + 1) = q + (2 : Nat) := by rw [wrap_id (by omega) (by omega)]; omega
    have hr : rd_T57 (markAll mkA (fun _ => 2) q0 L) (i : Int) = mkA q x := by unfold rd_T57; rw [Int.toNat_natCast]; exact hg _
    refine Ev.step (fun k => rfl) (ev_pos (by omega) (ev_pos (by omega) (Ev.bind (mt_ev q (by omega)) ?_)))
    rw [hr, hw1, hw2, wrap_succ hi (by omega)]
    exact ev_pos rfl (Ev.bind (mt_ev (q + 1) (by omega)) (ev_pos rfl h))
  rw [sum2] at h
  exact h
end Go.Proofs.Ytdogpphfofimeaa.X
set_option linter.unusedVariables false
namespace Go.Proofs.Ytdogpphfofimeaa.X
open Go.RowKit Go.Proofs.YtdogpphfofimeaaW.PrintWords Go.Proofs.Ytdogpphfofimeaa.E
def wt49 (x : S49) : Nat := x.f0.size + (x.f4.length + (x.f4.map (fun y => y.size)).sum) + x.f6.size
def wt56 (x : S56) : Nat := x.f0.size + x.f1.size
end Go.Proofs.Ytdogpphfofimeaa.X
set_option linter.unusedVariables false
namespace Go.Proofs.Ytdogpphfofimeaa.X
open Go.RowKit Go.Proofs.YtdogpphfofimeaaW.PrintWords Go.Proofs.Ytdogpphfofimeaa.E
theorem laws_szStringS_ev (x : List (ByteArray)) (g0 : x.length ≤ 9223372036854775807) (g1 : ∀ y ∈ x, (y.size ≤ 9223372036854775807)) (left : Int) (h0 : 0 ≤ left) (h1 : left ≤ 4611686018427387904) :
    Ev (fun k => laws_szStringS.f k x left) (if (((x.length + (x.map (fun y => y.size)).sum) : Nat) : Int) ≤ left then left - (((x.length + (x.map (fun y => y.size)).sum) : Nat) : Int) else -1) := by
  unfold laws_szStringS.f
  have e0 : wrap64 (left - ((x.length : Nat) : Int)) = left - ((x.length : Nat) : Int) := wrap_id (by omega) (by omega)
  simp only [e0]
  by_cases c : ((x.length : Nat) : Int) ≤ left
  case neg => exact ev_pos (by omega) (ev_now (by first | rfl | rw [if_neg (by omega)]))
  refine ev_neg (by omega) ?_
  have h := ev_sz (L := fun k l i => laws_szStringS.l0 k x l i) x (fun y => y.size) (fun l => Ev.step (fun k => rfl) (ev_neg (by omega) (ev_now rfl))) ?step (left - ((x.length : Nat) : Int)) (by omega) (by omega)
  case step =>
    intro l i y r l0 l1 hi hm hd hy hn
    refine Ev.step (fun k => rfl) (ev_pos (by omega) (ev_pos (by omega) ?_))
    simp only [rdOf, Int.toNat_natCast, hd]
    have hg := g1 y hm
    have e1 : wrap64 (l - ((y.size : Nat) : Int)) = l - ((y.size : Nat) : Int) := wrap_id (by omega) (by omega)
    simp only [e1]
    by_cases c1 : ((y.size : Nat) : Int) ≤ l
    case neg => exact ev_pos (by omega) (ev_now (hn c1).symm)
    refine ev_neg (by omega) ?_
    rw [wrap_succ hi (by omega)]
    exact hy c1
  refine ev_cast h ?_
  by_cases c2 : (((x.map (fun y => y.size)).sum : Nat) : Int) ≤ left - ((x.length : Nat) : Int)
  · rw [if_pos c2, if_pos (by omega)]; omega
  · rw [if_neg c2, if_neg (by omega)]
end Go.Proofs.Ytdogpphfofimeaa.X
set_option linter.unusedVariables false
namespace Go.Proofs.Ytdogpphfofimeaa.X
open Go.RowKit Go.Proofs.YtdogpphfofimeaaW.PrintWords Go.Proofs.Ytdogpphfofimeaa.E
theorem laws_szField_ev (x : S49) (g0 : x.f0.size ≤ 9223372036854775807) (g1 : x.f4.length ≤ 9223372036854775807) (g2 : ∀ y ∈ x.f4, (y.size ≤ 9223372036854775807)) (g3 : x.f6.size ≤ 9223372036854775807) (left : Int) (h0 : 0 ≤ left) (h1 : left ≤ 4611686018427387904) :
    Ev (fun k => laws_szField.f k (x.f0) (x.f1) (x.f2) (x.f3) (x.f4) (x.f5) (x.f6) left) (if (((wt49 x) : Nat) : Int) ≤ left then left - (((wt49 x) : Nat) : Int) else -1) := by
  unfold laws_szField.f
  unfold wt49
  have e0 : wrap64 (left - ((x.f0.size : Nat) : Int)) = left - ((x.f0.size : Nat) : Int) := wrap_id (by omega) (by omega)
  simp only [e0]
  by_cases c0 : ((x.f0.size : Nat) : Int) ≤ left
  case neg =>
    exact ev_pos (by omega) (ev_now (by first | rfl | rw [if_neg (by omega)]))
  refine ev_neg (by omega) ?_
  refine Ev.bind (laws_szStringS_ev _ (by assumption) (by assumption) _ (by omega) (by omega)) ?_
  by_cases c4 : (((x.f4.length + (x.f4.map (fun y => y.size)).sum) : Nat) : Int) ≤ (left - ((x.f0.size : Nat) : Int))
  case neg =>
    rw [if_neg c4]
    exact ev_pos (by omega) (ev_now (by first | rfl | rw [if_neg (by omega)]))
  rw [if_pos c4]
  refine ev_neg (by omega) ?_
  have e6 : wrap64 (((left - ((x.f0.size : Nat) : Int)) - (((x.f4.length + (x.f4.map (fun y => y.size)).sum) : Nat) : Int)) - ((x.f6.size : Nat) : Int)) = ((left - ((x.f0.size : Nat) : Int)) - (((x.f4.length + (x.f4.map (fun y => y.size)).sum) : Nat) : Int)) - ((x.f6.size : Nat) : Int) := wrap_id (by omega) (by omega)
  simp only [e6]
  by_cases c6 : ((x.f6.size : Nat) : Int) ≤ ((left - ((x.f0.size : Nat) : Int)) - (((x.f4.length + (x.f4.map (fun y => y.size)).sum) : Nat) : Int))
  case neg =>
    exact ev_pos (by omega) (ev_now (by first | rfl | rw [if_neg (by omega)]))
  refine ev_neg (by omega) ?_
  exact ev_now (by first | rfl | omega | (rw [if_pos (by omega)]; omega))
end Go.Proofs.Ytdogpphfofimeaa.X
set_option linter.unusedVariables false
namespace Go.Proofs.Ytdogpphfofimeaa.X
open Go.RowKit Go.Proofs.YtdogpphfofimeaaW.PrintWords Go.Proofs.Ytdogpphfofimeaa.E
theorem laws_szFieldS_ev (x : List (S49)) (g0 : x.length ≤ 9223372036854775807) (g1 : ∀ y ∈ x, (y.f0.size ≤ 9223372036854775807) ∧ (y.f4.length ≤ 9223372036854775807) ∧ (∀ z ∈ y.f4, (z.size ≤ 9223372036854775807)) ∧ (y.f6.size ≤ 9223372036854775807)) (left : Int) (h0 : 0 ≤ left) (h1 : left ≤ 4611686018427387904) :
    Ev (fun k => laws_szFieldS.f k x left) (if (((x.length + (x.map (fun y => (wt49 y))).sum) : Nat) : Int) ≤ left then left - (((x.length + (x.map (fun y => (wt49 y))).sum) : Nat) : Int) else -1) := by
  unfold laws_szFieldS.f
  have e0 : wrap64 (left - ((x.length : Nat) : Int)) = left - ((x.length : Nat) : Int) := wrap_id (by omega) (by omega)
  simp only [e0]
  by_cases c : ((x.length : Nat) : Int) ≤ left
  case neg => exact ev_pos (by omega) (ev_now (by first | rfl | rw [if_neg (by omega)]))
  refine ev_neg (by omega) ?_
  have h := ev_sz (L := fun k l i => laws_szFieldS.l0 k x l i) x (fun y => (wt49 y)) (fun l => Ev.step (fun k => rfl) (ev_neg (by omega) (ev_now rfl))) ?step (left - ((x.length : Nat) : Int)) (by omega) (by omega)
  case step =>
    intro l i y r l0 l1 hi hm hd hy hn
    refine Ev.step (fun k => rfl) (ev_pos (by omega) (ev_pos (by omega) ?_))
    simp only [rd_T49, Int.toNat_natCast, hd]
    have hg := g1 y hm
    obtain ⟨q0, q1, q2, q3⟩ := hg
    refine Ev.bind (laws_szField_ev y (by assumption) (by assumption) (by assumption) (by assumption) l l0 l1) ?_
    by_cases c1 : (((wt49 y) : Nat) : Int) ≤ l
    case neg => rw [if_neg c1]; exact ev_pos (by omega) (ev_now (hn c1).symm)
    rw [if_pos c1]
    refine ev_neg (by omega) ?_
    rw [wrap_succ hi (by omega)]
    exact hy c1
  refine ev_cast h ?_
  by_cases c2 : (((x.map (fun y => (wt49 y))).sum : Nat) : Int) ≤ left - ((x.length : Nat) : Int)
  · rw [if_pos c2, if_pos (by omega)]; omega
  · rw [if_neg c2, if_neg (by omega)]
end Go.Proofs.Ytdogpphfofimeaa.X
set_option linter.unusedVariables false
namespace Go.Proofs.Ytdogpphfofimeaa.X
open Go.RowKit Go.Proofs.YtdogpphfofimeaaW.PrintWords Go.Proofs.Ytdogpphfofimeaa.E
theorem laws_toStringS_ev (x : List (ByteArray)) (hb : (x.length + (x.map (fun y => y.size)).sum) ≤ 1048576) : Ev (fun k => laws_toStringS.f k x) (x) := by
  unfold laws_toStringS.f
  refine ev_pos (by omega) (ev_pos (by simp only [Int.toNat_natCast]; omega) ?_)
  simp only [Int.toNat_natCast]
  refine ev_cast (r := x.map id) ?_ (List.map_id x)
  refine ev_fill (L := fun k o i => laws_toStringS.l0 k x o i) x id _ (fun o => Ev.step (fun k => rfl) (ev_neg (by omega) (ev_now rfl))) ?_
  intro o i y r hi hx hd hl hk
  refine Ev.step (fun k => rfl) (ev_pos (by omega) (ev_pos (by omega) ?_))
  simp only [rdOf, Int.toNat_natCast, hd]
  refine ev_pos (by omega) ?_
  rw [wrap_succ hi (by omega)]
  exact hk
end Go.Proofs.Ytdogpphfofimeaa.X
set_option linter.unusedVariables false
namespace Go.Proofs.Ytdogpphfofimeaa.X
open Go.RowKit Go.Proofs.YtdogpphfofimeaaW.PrintWords Go.Proofs.Ytdogpphfofimeaa.E
def conv49 (x : S49) : S50 := ⟨x.f0, x.f1, x.f2, x.f3, x.f4, x.f5, x.f6⟩
theorem laws_toField_ev (x : S49) (hb : (wt49 x) ≤ 1048576) : Ev (fun k => laws_toField.f k (x.f0) (x.f1) (x.f2) (x.f3) (x.f4) (x.f5) (x.f6)) ((conv49 x).f0, (conv49 x).f1, (conv49 x).f2, (conv49 x).f3, (conv49 x).f4, (conv49 x).f5, (conv49 x).f6) := by
  unfold laws_toField.f
  unfold wt49 at hb
  refine Ev.bind (laws_toStringS_ev x.f4 (by omega)) ?_
  exact ev_now rfl
end Go.Proofs.Ytdogpphfofimeaa.X
set_option linter.unusedVariables false
namespace Go.Proofs.Ytdogpphfofimeaa.X
open Go.RowKit Go.Proofs.YtdogpphfofimeaaW.PrintWords Go.Proofs.Ytdogpphfofimeaa.E
theorem laws_toFieldS_ev (x : List (S49)) (hb : (x.length + (x.map (fun y => (wt49 y))).sum) ≤ 1048576) : Ev (fun k => laws_toFieldS.f k x) (x.map conv49) := by
  unfold laws_toFieldS.f
  refine ev_pos (by omega) (ev_pos (by simp only [Int.toNat_natCast]; omega) ?_)
  simp only [Int.toNat_natCast]
  refine ev_fill (L := fun k o i => laws_toFieldS.l0 k x o i) x conv49 _ (fun o => Ev.step (fun k => rfl) (ev_neg (by omega) (ev_now rfl))) ?_
  intro o i y r hi hx hd hl hk
  refine Ev.step (fun k => rfl) (ev_pos (by omega) (ev_pos (by omega) ?_))
  simp only [rd_T49, Int.toNat_natCast, hd]
  have hq := le_sum (f := fun y => (wt49 y)) (List.mem_of_getElem? hx)
  refine Ev.bind (laws_toField_ev y (by omega)) ?_
  refine ev_pos (by omega) ?_
  rw [wrap_succ hi (by omega)]
  exact hk
end Go.Proofs.Ytdogpphfofimeaa.X
set_option linter.unusedVariables false
namespace Go.Proofs.Ytdogpphfofimeaa.X
open Go.RowKit Go.Proofs.YtdogpphfofimeaaW.PrintWords Go.Proofs.Ytdogpphfofimeaa.E
theorem laws_eqStringS_ev (x : List (ByteArray)) (hl0 : x.length ≤ 9223372036854775807) : Ev (fun k => laws_eqStringS.f k x x) true := by
  unfold laws_eqStringS.f
  refine ev_pos rfl ?_
  refine ev_same (L := fun k i => laws_eqStringS.l0 k x x i) x.length (Ev.step (fun k => rfl) (ev_neg (by omega) (ev_now rfl))) ?_
  intro i hi hk
  refine Ev.step (fun k => rfl) (ev_pos (by omega) (ev_pos (by omega) (ev_pos (by omega) ?_)))
  refine ev_pos rfl ?_
  rw [wrap_succ hi (by omega)]
  exact hk
end Go.Proofs.Ytdogpphfofimeaa.X
set_option linter.unusedVariables false
namespace Go.Proofs.Ytdogpphfofimeaa.X
open Go.RowKit Go.Proofs.YtdogpphfofimeaaW.PrintWords Go.Proofs.Ytdogpphfofimeaa.E
theorem laws_eqField_ev (x : S50) (hl0 : x.f4.length ≤ 9223372036854775807) : Ev (fun k => laws_eqField.f k (x.f0) (x.f1) (x.f2) (x.f3) (x.f4) (x.f5) (x.f6) (x.f0) (x.f1) (x.f2) (x.f3) (x.f4) (x.f5) (x.f6)) true := by
  unfold laws_eqField.f
  repeat' (first | exact ev_now rfl | refine ev_pos rfl ?_ | refine ev_neg (by simp) ?_ | refine Ev.bind (laws_eqStringS_ev _ (by assumption)) ?_)
end Go.Proofs.Ytdogpphfofimeaa.X
set_option linter.unusedVariables false
namespace Go.Proofs.Ytdogpphfofimeaa.X
open Go.RowKit Go.Proofs.YtdogpphfofimeaaW.PrintWords Go.Proofs.Ytdogpphfofimeaa.E
theorem laws_eqFieldS_ev (x : List (S50)) (hl0 : x.length ≤ 9223372036854775807) (hl1 : ∀ y ∈ x, (y.f4.length ≤ 9223372036854775807)) : Ev (fun k => laws_eqFieldS.f k x x) true := by
  unfold laws_eqFieldS.f
  refine ev_pos rfl ?_
  refine ev_same (L := fun k i => laws_eqFieldS.l0 k x x i) x.length (Ev.step (fun k => rfl) (ev_neg (by omega) (ev_now rfl))) ?_
  intro i hi hk
  refine Ev.step (fun k => rfl) (ev_pos (by omega) (ev_pos (by omega) (ev_pos (by omega) ?_)))
  have hy := hl1 _ (List.getElem_mem hi)
  have hr : rd_T50 x (i : Int) = x[i] := by simp [rd_T50, List.getD_eq_getElem?_getD, List.getElem?_eq_getElem hi]
  rw [hr]
  refine Ev.bind (laws_eqField_ev _ (by first | exact hy | exact hy)) ?_
  refine ev_pos rfl ?_
  rw [wrap_succ hi (by omega)]
  exact hk
end Go.Proofs.Ytdogpphfofimeaa.X
set_option linter.unusedVariables false
namespace Go.Proofs.Ytdogpphfofimeaa.X
open Go.RowKit Go.Proofs.YtdogpphfofimeaaW.PrintWords Go.Proofs.Ytdogpphfofimeaa.E
theorem laws_szAnswer_ev (x : S56) (g0 : x.f0.size ≤ 9223372036854775807) (g1 : x.f1.size ≤ 9223372036854775807) (left : Int) (h0 : 0 ≤ left) (h1 : left ≤ 4611686018427387904) :
    Ev (fun k => laws_szAnswer.f (x.f0) (x.f1) left) (if (((wt56 x) : Nat) : Int) ≤ left then left - (((wt56 x) : Nat) : Int) else -1) := by
  unfold laws_szAnswer.f
  unfold wt56
  have e0 : wrap64 (left - ((x.f0.size : Nat) : Int)) = left - ((x.f0.size : Nat) : Int) := wrap_id (by omega) (by omega)
  simp only [e0]
  by_cases c0 : ((x.f0.size : Nat) : Int) ≤ left
  case neg =>
    exact ev_pos (by omega) (ev_now (by first | rfl | rw [if_neg (by omega)]))
  refine ev_neg (by omega) ?_
  have e1 : wrap64 ((left - ((x.f0.size : Nat) : Int)) - ((x.f1.size : Nat) : Int)) = (left - ((x.f0.size : Nat) : Int)) - ((x.f1.size : Nat) : Int) := wrap_id (by omega) (by omega)
  simp only [e1]
  by_cases c1 : ((x.f1.size : Nat) : Int) ≤ (left - ((x.f0.size : Nat) : Int))
  case neg =>
    exact ev_pos (by omega) (ev_now (by first | rfl | rw [if_neg (by omega)]))
  refine ev_neg (by omega) ?_
  exact ev_now (by first | rfl | omega | (rw [if_pos (by omega)]; omega))
end Go.Proofs.Ytdogpphfofimeaa.X
set_option linter.unusedVariables false
namespace Go.Proofs.Ytdogpphfofimeaa.X
open Go.RowKit Go.Proofs.YtdogpphfofimeaaW.PrintWords Go.Proofs.Ytdogpphfofimeaa.E
theorem laws_szAnswerS_ev (x : List (S56)) (g0 : x.length ≤ 9223372036854775807) (g1 : ∀ y ∈ x, (y.f0.size ≤ 9223372036854775807) ∧ (y.f1.size ≤ 9223372036854775807)) (left : Int) (h0 : 0 ≤ left) (h1 : left ≤ 4611686018427387904) :
    Ev (fun k => laws_szAnswerS.f k x left) (if (((x.length + (x.map (fun y => (wt56 y))).sum) : Nat) : Int) ≤ left then left - (((x.length + (x.map (fun y => (wt56 y))).sum) : Nat) : Int) else -1) := by
  unfold laws_szAnswerS.f
  have e0 : wrap64 (left - ((x.length : Nat) : Int)) = left - ((x.length : Nat) : Int) := wrap_id (by omega) (by omega)
  simp only [e0]
  by_cases c : ((x.length : Nat) : Int) ≤ left
  case neg => exact ev_pos (by omega) (ev_now (by first | rfl | rw [if_neg (by omega)]))
  refine ev_neg (by omega) ?_
  have h := ev_sz (L := fun k l i => laws_szAnswerS.l0 k x l i) x (fun y => (wt56 y)) (fun l => Ev.step (fun k => rfl) (ev_neg (by omega) (ev_now rfl))) ?step (left - ((x.length : Nat) : Int)) (by omega) (by omega)
  case step =>
    intro l i y r l0 l1 hi hm hd hy hn
    refine Ev.step (fun k => rfl) (ev_pos (by omega) (ev_pos (by omega) ?_))
    simp only [rd_T56, Int.toNat_natCast, hd]
    have hg := g1 y hm
    obtain ⟨q0, q1⟩ := hg
    refine Ev.bind (laws_szAnswer_ev y (by assumption) (by assumption) l l0 l1) ?_
    by_cases c1 : (((wt56 y) : Nat) : Int) ≤ l
    case neg => rw [if_neg c1]; exact ev_pos (by omega) (ev_now (hn c1).symm)
    rw [if_pos c1]
    refine ev_neg (by omega) ?_
    rw [wrap_succ hi (by omega)]
    exact hy c1
  refine ev_cast h ?_
  by_cases c2 : (((x.map (fun y => (wt56 y))).sum : Nat) : Int) ≤ left - ((x.length : Nat) : Int)
  · rw [if_pos c2, if_pos (by omega)]; omega
  · rw [if_neg c2, if_neg (by omega)]
end Go.Proofs.Ytdogpphfofimeaa.X
set_option linter.unusedVariables false
namespace Go.Proofs.Ytdogpphfofimeaa.X
open Go.RowKit Go.Proofs.YtdogpphfofimeaaW.PrintWords Go.Proofs.Ytdogpphfofimeaa.E
def conv56 (x : S56) : S57 := ⟨x.f0, x.f1⟩
theorem laws_toAnswer_ev (x : S56) (hb : (wt56 x) ≤ 1048576) : Ev (fun k => laws_toAnswer.f (x.f0) (x.f1)) ((conv56 x).f0, (conv56 x).f1) := by
  unfold laws_toAnswer.f
  unfold wt56 at hb
  exact ev_now rfl
end Go.Proofs.Ytdogpphfofimeaa.X
set_option linter.unusedVariables false
namespace Go.Proofs.Ytdogpphfofimeaa.X
open Go.RowKit Go.Proofs.YtdogpphfofimeaaW.PrintWords Go.Proofs.Ytdogpphfofimeaa.E
theorem laws_toAnswerS_ev (x : List (S56)) (hb : (x.length + (x.map (fun y => (wt56 y))).sum) ≤ 1048576) : Ev (fun k => laws_toAnswerS.f k x) (x.map conv56) := by
  unfold laws_toAnswerS.f
  refine ev_pos (by omega) (ev_pos (by simp only [Int.toNat_natCast]; omega) ?_)
  simp only [Int.toNat_natCast]
  refine ev_fill (L := fun k o i => laws_toAnswerS.l0 k x o i) x conv56 _ (fun o => Ev.step (fun k => rfl) (ev_neg (by omega) (ev_now rfl))) ?_
  intro o i y r hi hx hd hl hk
  refine Ev.step (fun k => rfl) (ev_pos (by omega) (ev_pos (by omega) ?_))
  simp only [rd_T56, Int.toNat_natCast, hd]
  have hq := le_sum (f := fun y => (wt56 y)) (List.mem_of_getElem? hx)
  refine Ev.bind (laws_toAnswer_ev y (by omega)) ?_
  refine ev_pos (by omega) ?_
  rw [wrap_succ hi (by omega)]
  exact hk
end Go.Proofs.Ytdogpphfofimeaa.X
set_option linter.unusedVariables false
namespace Go.Proofs.Ytdogpphfofimeaa.X
open Go.RowKit Go.Proofs.YtdogpphfofimeaaW.PrintWords Go.Proofs.Ytdogpphfofimeaa.E
theorem laws_eqAnswer_ev (x : S57) : Ev (fun k => laws_eqAnswer.f (x.f0) (x.f1) (x.f0) (x.f1)) true := by
  unfold laws_eqAnswer.f
  repeat' (first | exact ev_now rfl | refine ev_pos rfl ?_ | refine ev_neg (by simp) ?_)
end Go.Proofs.Ytdogpphfofimeaa.X
set_option linter.unusedVariables false
namespace Go.Proofs.Ytdogpphfofimeaa.X
open Go.RowKit Go.Proofs.YtdogpphfofimeaaW.PrintWords Go.Proofs.Ytdogpphfofimeaa.E
theorem laws_eqAnswerS_ev (x : List (S57)) (hl0 : x.length ≤ 9223372036854775807) : Ev (fun k => laws_eqAnswerS.f k x x) true := by
  unfold laws_eqAnswerS.f
  refine ev_pos rfl ?_
  refine ev_same (L := fun k i => laws_eqAnswerS.l0 k x x i) x.length (Ev.step (fun k => rfl) (ev_neg (by omega) (ev_now rfl))) ?_
  intro i hi hk
  refine Ev.step (fun k => rfl) (ev_pos (by omega) (ev_pos (by omega) (ev_pos (by omega) ?_)))
  refine Ev.bind (laws_eqAnswer_ev _) ?_
  refine ev_pos rfl ?_
  rw [wrap_succ hi (by omega)]
  exact hk
end Go.Proofs.Ytdogpphfofimeaa.X
set_option linter.unusedVariables false
set_option linter.unusedSimpArgs false
namespace Go.Proofs.Ytdogpphfofimeaa.Pure
open Go.RowKit Go.Proofs.Ytdogpphfofimeaa.X Go.Proofs.YtdogpphfofimeaaW.PrintWords Go.Proofs.Ytdogpphfofimeaa.E
theorem set_both (form : List X.Field) (ans : List X.Answer) (n t : ByteArray) (hl : form.length ≤ 9223372036854775807) (hf : ∀ f ∈ form, fine f) (hla : ans.length ≤ 9223372036854775807) (ha : ∀ a ∈ ans, fineA a) (hn : n.size ≤ 9223372036854775807) (ht : t.size ≤ 9223372036854775807) :
    ∃ (L : List X.Answer) (b : Bool), L.length ≤ 10 ∧ Ev (fun k => spec_SetAnswer.f k form ans n t) (L, b) ∧ Ev (fun k => impl_SetAnswer.f k form ans n t) (L, b) := by
  have h1 := specAnswers_ev form ans hl hf hla ha
  have h2 := implAnswers_ev form ans hl hf hla ha
  have no1 : ∀ (z : Int), Ev (fun k => spec_SetAnswer.j0 k form ans n t [] z true) (([] : List X.Answer), false) := fun z => Ev.step (fun k => rfl) (ev_now rfl)
  have no2 : Ev (fun k => impl_SetAnswer.j0 k form ans n t true) (([] : List X.Answer), false) := Ev.step (fun k => rfl) (ev_now rfl)
  cases hv : ansB form ans
  · rw [hv] at h1 h2
    exact ⟨[], false, by simp, ev_some (Ev.bind (l23Find_ev form n hl) (Ev.bind h1 (ev_neg (by simp) (no1 _)))), Ev.bind h2 (ev_neg (by simp) no2)⟩
  rw [hv] at h1 h2
  have V := valid_of hv
  by_cases c : fidx form n < 0
  · exact ⟨[], false, by simp, ev_some (Ev.bind (l23Find_ev form n hl) (Ev.bind h1 (ev_pos rfl (ev_pos c (no1 _))))), Ev.bind h2 (ev_pos rfl (ev_bind0 (fieldOf_eq form n) (ev_pos c no2)))⟩
  cases hx : textB t
  · have g1 := l21Text_ev t ht
    have g2 := isText_ev t ht
    rw [hx] at g1 g2
    exact ⟨[], false, by simp, ev_some (Ev.bind (l23Find_ev form n hl) (Ev.bind h1 (ev_pos rfl (ev_neg c (Ev.bind g1 (no1 _)))))), Ev.bind h2 (ev_pos rfl (ev_bind0 (fieldOf_eq form n) (ev_neg c (Ev.bind g2 no2))))⟩
  have g1 := l21Text_ev t ht
  have g2 := isText_ev t ht
  rw [hx] at g1 g2
  obtain ⟨at_, hat⟩ : ∃ k : Nat, fidx form n = (k : Int) := ⟨(fidx form n).toNat, by omega⟩
  have hs := specSet_ev form ans n t V hla at_ hat
  have hi := implSet_ev form ans n t V.len
  have hlen : (form.filterMap (setG ans n t)).length ≤ 10 := Nat.le_trans (List.length_filterMap_le _ _) V.len
  refine ⟨form.filterMap (setG ans n t), true, hlen, ev_some (Ev.bind (l23Find_ev form n hl) (Ev.bind h1 (ev_pos rfl (ev_neg c (Ev.bind g1 ?_))))), Ev.bind h2 (ev_pos rfl (ev_bind0 (fieldOf_eq form n) (ev_neg c (Ev.bind g2 ?_))))⟩
  · refine Ev.step (fun k => rfl) ?_
    simp only [spec_SetAnswer.j0]
    refine ev_neg (by simp) ?_
    rw [hat]
    exact hs
  · refine Ev.step (fun k => rfl) ?_
    simp only [impl_SetAnswer.j0]
    exact ev_neg (by simp) hi
theorem wF_sum (l : List S49) : ((l.map conv49).map wF).sum ≤ 6 * l.length + (l.map (fun y => wt49 y)).sum := by
  induction l with
  | nil => exact Nat.le_refl _
  | cons y l ih =>
    rw [List.map_cons, List.map_cons, List.sum_cons, List.map_cons, List.sum_cons, List.length_cons]
    have h1 : wF (conv49 y) = 6 + y.f4.length := rfl
    have h2 : y.f4.length ≤ wt49 y := by unfold wt49; omega
    omega
theorem FnExactSetAnswer : PureFnExactSetAnswer := by
  intro form ans n t hf ha hn ht
  have hsz : ∀ y ∈ form, (y.f0.size ≤ 9223372036854775807) ∧ (y.f4.length ≤ 9223372036854775807) ∧ (∀ z ∈ y.f4, (z.size ≤ 9223372036854775807)) ∧ (y.f6.size ≤ 9223372036854775807) := by
    intro y hy
    have g := hf.2 y hy
    exact ⟨g.1, g.2.2.2.2.1.1, g.2.2.2.2.1.2, g.2.2.2.2.2.2⟩
  have hsa : ∀ y ∈ ans, (y.f0.size ≤ 9223372036854775807) ∧ (y.f1.size ≤ 9223372036854775807) := fun y hy => ha.2 y hy
  unfold laws_FnExactSetAnswer.f
  apply ev_get
  refine ev_ite (fun _ => ev_now rfl) (fun b1 => ev_ite (fun _ => ev_now rfl) (fun b2 => ?_))
  refine Ev.bind (laws_szFieldS_ev form hf.1 hsz 1048576 (by omega) (by omega)) ?_
  by_cases c : (((form.length + (form.map (fun y => wt49 y)).sum : Nat)) : Int) ≤ 1048576
  case neg => rw [if_neg c]; exact ev_pos (by omega) (ev_now rfl)
  rw [if_pos c]
  refine ev_neg (by omega) (Ev.bind (laws_szAnswerS_ev ans ha.1 hsa _ (by omega) (by omega)) ?_)
  by_cases c2 : (((ans.length + (ans.map (fun y => wt56 y)).sum : Nat)) : Int) ≤ 1048576 - (((form.length + (form.map (fun y => wt49 y)).sum : Nat)) : Int)
  case neg => rw [if_neg c2]; exact ev_pos (by omega) (ev_now rfl)
  rw [if_pos c2]
  refine ev_neg (by omega) ?_
  have hto := laws_toFieldS_ev form (by omega)
  have hta := laws_toAnswerS_ev ans (by omega)
  have hl : (form.map conv49).length ≤ 9223372036854775807 := by rw [List.length_map]; exact hf.1
  have hla : (ans.map conv56).length ≤ 9223372036854775807 := by rw [List.length_map]; exact ha.1
  have hll : (ans.map conv56).length = ans.length := List.length_map ..
  have hfine : ∀ f ∈ form.map conv49, fine f := by
    intro f hf'
    obtain ⟨y, hy, rfl⟩ := List.mem_map.1 hf'
    have g := hsz y hy
    exact ⟨g.1, g.2.1, g.2.2.1, g.2.2.2⟩
  have hfineA : ∀ f ∈ ans.map conv56, fineA f := by
    intro f hf'
    obtain ⟨y, hy, rfl⟩ := List.mem_map.1 hf'
    exact hsa y hy
  have hws := wF_sum form
  obtain ⟨L, b, hL, g1, g2⟩ := set_both (form.map conv49) (ans.map conv56) n t hl hfine hla hfineA hn ht
  have heF := laws_eqFieldS_ev _ hl (fun f hf' => (hfine f hf').2.1)
  have heA := laws_eqAnswerS_ev _ hla
  have heL := laws_eqAnswerS_ev L (by omega)
  have hm1 := markField (form.map conv49) 1 (by omega) (by omega)
  have hm2 := markAns (ans.map conv56) (1 + ((((form.map conv49).map wF).sum : Nat) : Int)) (by omega) (by omega)
  have hm3 := markAns L 1 (by omega) (by omega)
  have hh := heldAns L 1 (by omega) (by omega)
  refine Ev.bind hto (Ev.bind hta (Ev.bind g1 (Ev.bind hto (Ev.bind hta (Ev.bind g2 (Ev.bind heL (ev_pos rfl (ev_pos rfl ?_))))))))
  refine Ev.bind hto (Ev.bind heF (ev_pos rfl (Ev.bind hta (Ev.bind heA (ev_pos rfl (Ev.bind hm1 (Ev.bind hm2 (ev_pos (by omega) (Ev.bind heL (ev_pos rfl (ev_pos rfl ?_)))))))))))
  refine Ev.bind hm3 (Ev.bind hh (ev_pos (by omega) (ev_pos rfl (Ev.bind hto (Ev.bind hta (Ev.bind g2 (Ev.bind heL (ev_pos rfl (ev_pos rfl ?_)))))))))
  exact Ev.bind hh (ev_pos (by omega) (ev_pos rfl (ev_now rfl)))
end Go.Proofs.Ytdogpphfofimeaa.Pure
namespace Go.Proofs.Ytdogpphfofimeaa.fnExactSetAnswer
open Go.ChangeShapes Go.WideShapes Go.ChangeAt Go.RowKit Go.Joins Go.Proofs.YtdogpphfofimeaaW.PrintWords Go.Proofs.Ytdogpphfofimeaa.Open Go.Proofs.Ytdogpphfofimeaa.X
open Go.ChangeMaps (open_string shut_string)
set_option linter.unusedVariables false
theorem own : ownKnob Try.prog.godebug = none := by kernel_rfl
theorem laidOut : laidOutB Try.prog = true := by kernel_rfl
set_option maxRecDepth 100000 in
theorem lifted (os : Os) (started : os.Started) (H : Type) (enc : TypeId × Value → H) :
    ReturnsInHanded {} Try.checked os 5 .any (Rows.fnExactSetAnswerSpec.pre6 enc Try.prog Try.f5 Rows.fnExactSetAnswerRow.domain false) (Rows.fnExactSetAnswerSpec.post enc Try.prog Try.f5 false true false false) := by
  refine returnsInHanded_of_change_sized (C := Try.checked) own started (by kernel_rfl) Try.func5
    (ChangeSpec.witness6 (enc := enc) (C := Try.checked) false ⟨#[], #[.slice none 0 0, .slice none 0 0, .string ByteArray.empty, .string ByteArray.empty], []⟩ 8 (by kernel_rfl) (by kernel_rfl) (by kernel_rfl) (by kernel_rfl)) ?_
  intro W base args ds gs before hval0 hW hcnd hsz0 _
  have hval : ∀ (j : Nat) t v, Try.f5.params[j]? = some t → args[j]? = some v → Value.okWide Try.prog W .any base t v := hval0
  have hW' := hW
  obtain ⟨p, q, hA0, hV, rfl, hfz, hnd⟩ := hW
  have hA : DataW.TrodAll enc Try.prog W 0 (fun _ => true) true Try.f5.params.toList args.toList ds p := hA0
  rw [Try.params5] at hA hval
  obtain ⟨v0, vs0, d0, ds0, p0, q0, hargs, rfl, rfl, h0, r0⟩ := trodAll_cons hA
  obtain ⟨v1, vs1, d1, ds1, p1, q1, rfl, rfl, rfl, h1, r1⟩ := trodAll_cons r0
  obtain ⟨v2, vs2, d2, ds2, p2, q2, rfl, rfl, rfl, h2, r2⟩ := trodAll_cons r1
  obtain ⟨v3, vs3, d3, ds3, p3, q3, rfl, rfl, rfl, h3, r3⟩ := trodAll_cons r2
  obtain ⟨rfl, rfl, rfl⟩ := trodAll_nil r3
  obtain rfl : args = #[v0, v1, v2, v3] := by cases args; simp_all
  obtain ⟨rfl, rfl⟩ := trodVars_none hV
  have kk0 := h0
  have lt0 : ∀ x ∈ p0, x.block < W.heap.size := by obtain ⟨m, hm⟩ := kk0; exact DataW.trod_lt m _ _ _ hm
  obtain ⟨A0, c0, a0, rfl, hc0, hr0, g0⟩ := arg_slice op22 (okWide_slice Try.underlying22 (hval 0 22 v0 rfl rfl)) h0
  have kk1 := h1
  have lt1 : ∀ x ∈ p1, x.block < W.heap.size := by obtain ⟨m, hm⟩ := kk1; exact DataW.trod_lt m _ _ _ hm
  obtain ⟨A1, c1, a1, rfl, hc1, hr1, g1⟩ := arg_slice op29 (okWide_slice Try.underlying29 (hval 1 29 v1 rfl rfl)) h1
  obtain ⟨a2, rfl, rfl, rfl, y2⟩ := open_string Try.underlying9 (hval 2 9 v2 rfl rfl) h2
  have w2 : a2.size ≤ 9223372036854775807 := by simpa [maxLen] using y2
  obtain ⟨a3, rfl, rfl, rfl, y3⟩ := open_string Try.underlying9 (hval 3 9 v3 rfl rfl) h3
  have w3 : a3.size ≤ 9223372036854775807 := by simpa [maxLen] using y3
  clear hA0 hval0 hsz0
  obtain ⟨k, hk⟩ := Pure.FnExactSetAnswer a0 a1 a2 a3 g0 g1 w2 w3
  refine (X.laws_FnExactSetAnswer.calls k _ _ a0 _ _ a1 a2 a3 true W hr0 hc0 hr1 hc1 hk).mono ?_
  rintro e W' ⟨he, bel0⟩
  have bel : Below W.heap.size W W' := by first | exact bel0 | exact bel0.below
  subst he
  exact ⟨_, rfl, _, _, _, [], _, [], hW', trodAll_mk1 (shut_bool Try.underlying4 _), (trodAll_cons_mk (Below.trod laidOut (by kernel_rfl) (of_decide_eq_true (by kernel_rfl)) kk0 bel lt0) (trodAll_cons_mk (Below.trod laidOut (by kernel_rfl) (of_decide_eq_true (by kernel_rfl)) kk1 bel lt1) (trodAll_cons_mk (shut_string Try.underlying9 y2) (trodAll_cons_mk (shut_string Try.underlying9 y3) trodAll_mk0)))), rfl, bel.frame _, fun h => by cases h⟩
theorem over : Rows.fnExactSetAnswerRow.holds Try.pinned (OpenSpec.ofChange Rows.fnExactSetAnswerSpec) :=
  OpenClaim.holds_of_wide 5 Try.f5 rfl rfl rfl rfl rfl rfl rfl ⟨rfl, rfl, rfl, rfl, rfl⟩ rfl rfl rfl rfl rfl (by kernel_rfl) Try.func5 (by kernel_rfl)
    (of_decide_eq_true (by kernel_rfl)) (by unfold Func.isWrapper; first | (rw [if_pos (by decide +kernel)]; kernel_rfl) | (rw [if_neg (by decide +kernel)]; exact ⟨rfl, rfl⟩))
    (fun os started H enc _ => lifted os started H enc)
theorem proved : Rows.FnExactSetAnswerSaid := over
#print axioms proved
end Go.Proofs.Ytdogpphfofimeaa.fnExactSetAnswer
namespace Go.Proofs.Ytdogpphfofimeaa
/-- The row, under a short name, for the claim. -/
theorem fnExactSetAnswer_holds : Rows.FnExactSetAnswerSaid := fnExactSetAnswer.proved
end Go.Proofs.Ytdogpphfofimeaa
