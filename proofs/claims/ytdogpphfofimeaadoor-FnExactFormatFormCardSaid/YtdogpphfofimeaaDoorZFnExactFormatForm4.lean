/- For all forms the law FnExactFormatForm answers true. No condition beyond what a reading tells.
This file (part 4 of 4) holds what the proof needs: plain functions with rounds and contracts written by programs of this work over the translation, and the lemmas. -/
import Derived.Test.YtdogpphfofimeaaDoorZFnExactFormatForm2
import Derived.Test.YtdogpphfofimeaaDoorZFnExactFormatForm3
import Derived.Test.YtdogpphfofimeaaDoorZFnExactFormatForm1
import Derived.ChangeArms
import Derived.DataReads
import Derived.Deep.Slices
import Derived.ChangeOld
import Derived.OpenShut
import Derived.Lib.ItoaNum
import Derived.Lib.ItoaLen
import Derived.Lib.Join
import Derived.Test.YtdogpphfofimeaaDoorTie
import Derived.Test.YtdogpphfofimeaaDoorCards
import Derived.Test.YtdogpphfofimeaaDoorRows
import Derived.WalkKit
import Derived.ProofKit
import Derived.ShutString
import Derived.Below
import Derived.SizedLaws
import Derived.Lib.SmallJoins
import Derived.LaidMore
import Derived.Stop.Joined
import Derived.Stop.LaidErr
import Derived.Lib.LaidTab
import Derived.LaidSub
import Derived.Handed
import Derived.SevenTiedAt
namespace Go.Proofs.YtdogpphfofimeaaDoor.X
open Go.RowKit Go.Proofs.YtdogpphfofimeaaDoorW.PrintWords Go.Proofs.YtdogpphfofimeaaDoorW.PrintLast Go.Proofs.YtdogpphfofimeaaDoorW.PrintMore
attribute [local go_sem] max2_int min2_int max_two min_two max_three min_three max_four min_four   -- for this text's walks alone
set_option linter.unusedVariables false
set_option linter.unusedSimpArgs false
attribute [-simp] ByteArray.size_append ByteArray.size_extract
attribute [-go_sem] ByteArray.size_append'

/-! ### laws_szField: function 43 -/
def laws_szField.f (k : Nat) (a0_0 : ByteArray) (a0_1 : Int) (a0_2 : Int) (a0_3 : Int) (l0_4 : List ByteArray) (a0_5 : Bool) (a0_6 : ByteArray) (a1 : Int) : Option (Int) := if (wrap64 (a1 - (a0_0.size : Int))) < 0 then (some (-1)) else ((laws_szStringS.f k l0_4 (wrap64 (a1 - (a0_0.size : Int)))).bind fun t102 => (if t102 < 0 then (some (-1)) else (if (wrap64 (t102 - (a0_6.size : Int))) < 0 then (some (-1)) else (some (wrap64 (t102 - (a0_6.size : Int)))))))
set_option maxHeartbeats 8000000 in
set_option maxRecDepth 100000 in
theorem laws_szField.calls (k : Nat) (a0_0 : ByteArray) (a0_1 : Int) (a0_2 : Int) (a0_3 : Int) (A0_4 : Option Addr) (c0_4 : Nat) (l0_4 : List ByteArray) (a0_5 : Bool) (a0_6 : ByteArray) (a1 : Int) (r : Int) (w : World) (hr0_4 : Kd.C Kd.string w A0_4 l0_4.length l0_4) (hc0_4 : l0_4.length ≤ c0_4) (h : laws_szField.f k a0_0 a0_1 a0_2 a0_3 l0_4 a0_5 a0_6 a1 = some r) :
  Calls Tryd.prog 43 #[.agg #[.string a0_0, .int .i64 a0_1, .int .i64 a0_2, .int .i64 a0_3, .slice A0_4 l0_4.length c0_4, .bool a0_5, .string a0_6], .int .i64 a1] w fun e w' => e = .returned (.int .i64 r) ∧ Below w.heap.size w w' := by
 (have hu68 := Tryd.underlying68); (have HR0_4 := Aside0.mk hr0_4); (have HC0_4 := Aside0.mk hc0_4); clear hr0_4 hc0_4; (have HB := Aside0.mk (Below.refl w.heap.size w)); (unfold laws_szField.f at h); (have H := h); clear h; (by_cases c3 : (wrap64 (a1 - (a0_0.size : Int))) < 0); (· (rw [if_pos c3] at H); (have c3b0 := decide_eq_true c3); clear c3; (obtain rfl := Option.some.inj H); (go_enter Tryd.func43, Tryd.ntmps43); (go_wp2_with (first | ((with_reducible refine gate_dst (N := 2) rfl ?_); refine box_event ?hg (N := 2) ?hd (cs := #[.string a0_0, .int .i64 a0_1, .int .i64 a0_2, .int .i64 a0_3, .slice A0_4 l0_4.length c0_4, .bool a0_5, .string a0_6]) (t := 68) ?hr ?_; (case hd => rfl); (case hg => rfl); (case hr => first | (go_simp; done) | (go_simp; rfl)); intro gb101 hg w4 hbox hb; have hB_ := zI hb HB; have n0_ := Aside0.mk (below_step hB_ hb); have n1_ := Aside0.mk (hbox); have n2_ := Aside0.mk (bx0 hg hB_); have n3_ := n2_; clear HB; have HB := n0_; have BK101 := n1_; have GW101 := n2_; have GE101 := n3_; clear n0_ n1_ n2_ n3_ hB_ hb hbox hg; have hcz5_0 := cz BK101.out 0; have hcz5_1 := cz BK101.out 1; have hcz5_2 := cz BK101.out 2; have hcz5_3 := cz BK101.out 3; have hcz5_4 := cz BK101.out 4; have hcz5_5 := cz BK101.out 5; have hcz5_6 := cz BK101.out 6; have hfz5_0 := blk_frozen BK101.out 0; have hfz5_1 := blk_frozen BK101.out 1; have hfz5_2 := blk_frozen BK101.out 2; have hfz5_3 := blk_frozen BK101.out 3; have hfz5_4 := blk_frozen BK101.out 4; have hfz5_5 := blk_frozen BK101.out 5; have hfz5_6 := blk_frozen BK101.out 6))); go_ret; (exact ⟨rfl, eI HB⟩))
 ·rw [if_neg c3] at H
  (have c3b0 := decide_eq_false c3); clear c3; (replace H := obS H); (obtain ⟨t102, A6, H⟩ := H); (by_cases c7 : t102 < 0); (· (rw [if_pos c7] at H); (have c7b0 := decide_eq_true c7); clear c7; (obtain rfl := Option.some.inj H); (go_enter Tryd.func43, Tryd.ntmps43); (go_wp2_with (first | ((with_reducible refine gate_dst (N := 2) rfl ?_); refine box_event ?hg (N := 2) ?hd (cs := #[.string a0_0, .int .i64 a0_1, .int .i64 a0_2, .int .i64 a0_3, .slice A0_4 l0_4.length c0_4, .bool a0_5, .string a0_6]) (t := 68) ?hr ?_; (case hd => rfl); (case hg => rfl); (case hr => first | (go_simp; done) | (go_simp; rfl)); intro gb101 hg w8 hbox hb; have hB_ := zI hb HB; have n0_ := Aside0.mk (below_step hB_ hb); have n1_ := Aside0.mk (hbox); have n2_ := Aside0.mk (bx0 hg hB_); have n3_ := n2_; clear HB; have HB := n0_; have BK101 := n1_; have GW101 := n2_; have GE101 := n3_; clear n0_ n1_ n2_ n3_ hB_ hb hbox hg; have hcz9_0 := cz BK101.out 0; have hcz9_1 := cz BK101.out 1; have hcz9_2 := cz BK101.out 2; have hcz9_3 := cz BK101.out 3; have hcz9_4 := cz BK101.out 4; have hcz9_5 := cz BK101.out 5; have hcz9_6 := cz BK101.out 6; have hfz9_0 := blk_frozen BK101.out 0; have hfz9_1 := blk_frozen BK101.out 1; have hfz9_2 := blk_frozen BK101.out 2; have hfz9_3 := blk_frozen BK101.out 3; have hfz9_4 := blk_frozen BK101.out 4; have hfz9_5 := blk_frozen BK101.out 5; have hfz9_6 := blk_frozen BK101.out 6) | ((with_reducible refine gate_callee (f := 80) rfl ?_); refine gL (some 15) Tryd.func80 #[.slice A0_4 l0_4.length c0_4, .int .i64 (wrap64 (a1 - (a0_0.size : Int)))] ?_; (with_reducible refine (laws_szStringS.calls k _ _ l0_4 (wrap64 (a1 - (a0_0.size : Int))) t102 _ ?side1 ?side2 A6.out).mono ?_); (case side1 => exact Kd.C_below HR0_4.out (eI HB)); (case side2 => exact HC0_4.out); rintro e w' ⟨rfl, ⟨nd, rfl⟩⟩; refine ⟨_, rfl, ?_⟩))); go_ret; (exact ⟨rfl, eI HB⟩))
  ·rw [if_neg c7] at H
   (have c7b0 := decide_eq_false c7); clear c7; (by_cases c10 : (wrap64 (t102 - (a0_6.size : Int))) < 0); (· (rw [if_pos c10] at H); (have c10b0 := decide_eq_true c10); clear c10; (obtain rfl := Option.some.inj H); (go_enter Tryd.func43, Tryd.ntmps43); (go_wp2_with (first | ((with_reducible refine gate_dst (N := 2) rfl ?_); refine box_event ?hg (N := 2) ?hd (cs := #[.string a0_0, .int .i64 a0_1, .int .i64 a0_2, .int .i64 a0_3, .slice A0_4 l0_4.length c0_4, .bool a0_5, .string a0_6]) (t := 68) ?hr ?_; (case hd => rfl); (case hg => rfl); (case hr => first | (go_simp; done) | (go_simp; rfl)); intro gb101 hg w11 hbox hb; have hB_ := zI hb HB; have n0_ := Aside0.mk (below_step hB_ hb); have n1_ := Aside0.mk (hbox); have n2_ := Aside0.mk (bx0 hg hB_); have n3_ := n2_; clear HB; have HB := n0_; have BK101 := n1_; have GW101 := n2_; have GE101 := n3_; clear n0_ n1_ n2_ n3_ hB_ hb hbox hg; have hcz12_0 := cz BK101.out 0; have hcz12_1 := cz BK101.out 1; have hcz12_2 := cz BK101.out 2; have hcz12_3 := cz BK101.out 3; have hcz12_4 := cz BK101.out 4; have hcz12_5 := cz BK101.out 5; have hcz12_6 := cz BK101.out 6; have hfz12_0 := blk_frozen BK101.out 0; have hfz12_1 := blk_frozen BK101.out 1; have hfz12_2 := blk_frozen BK101.out 2; have hfz12_3 := blk_frozen BK101.out 3; have hfz12_4 := blk_frozen BK101.out 4; have hfz12_5 := blk_frozen BK101.out 5; have hfz12_6 := blk_frozen BK101.out 6) | ((with_reducible refine gate_callee (f := 80) rfl ?_); refine gL (some 15) Tryd.func80 #[.slice A0_4 l0_4.length c0_4, .int .i64 (wrap64 (a1 - (a0_0.size : Int)))] ?_; (with_reducible refine (laws_szStringS.calls k _ _ l0_4 (wrap64 (a1 - (a0_0.size : Int))) t102 _ ?side1 ?side2 A6.out).mono ?_); (case side1 => exact Kd.C_below HR0_4.out (eI HB)); (case side2 => exact HC0_4.out); rintro e w' ⟨rfl, ⟨nd, rfl⟩⟩; refine ⟨_, rfl, ?_⟩))); go_ret; (exact ⟨rfl, eI HB⟩)); (· (rw [if_neg c10] at H); (have c10b0 := decide_eq_false c10); clear c10; (obtain rfl := Option.some.inj H); (go_enter Tryd.func43, Tryd.ntmps43); (go_wp2_with (first | ((with_reducible refine gate_dst (N := 2) rfl ?_); refine box_event ?hg (N := 2) ?hd (cs := #[.string a0_0, .int .i64 a0_1, .int .i64 a0_2, .int .i64 a0_3, .slice A0_4 l0_4.length c0_4, .bool a0_5, .string a0_6]) (t := 68) ?hr ?_; (case hd => rfl); (case hg => rfl); (case hr => first | (go_simp; done) | (go_simp; rfl)); intro gb101 hg w13 hbox hb; have hB_ := zI hb HB; have n0_ := Aside0.mk (below_step hB_ hb); have n1_ := Aside0.mk (hbox); have n2_ := Aside0.mk (bx0 hg hB_); have n3_ := n2_; clear HB; have HB := n0_; have BK101 := n1_; have GW101 := n2_; have GE101 := n3_; clear n0_ n1_ n2_ n3_ hB_ hb hbox hg; have hcz14_0 := cz BK101.out 0; have hcz14_1 := cz BK101.out 1; have hcz14_2 := cz BK101.out 2; have hcz14_3 := cz BK101.out 3; have hcz14_4 := cz BK101.out 4; have hcz14_5 := cz BK101.out 5; have hcz14_6 := cz BK101.out 6; have hfz14_0 := blk_frozen BK101.out 0; have hfz14_1 := blk_frozen BK101.out 1; have hfz14_2 := blk_frozen BK101.out 2; have hfz14_3 := blk_frozen BK101.out 3; have hfz14_4 := blk_frozen BK101.out 4; have hfz14_5 := blk_frozen BK101.out 5; have hfz14_6 := blk_frozen BK101.out 6) | ((with_reducible refine gate_callee (f := 80) rfl ?_); refine gL (some 15) Tryd.func80 #[.slice A0_4 l0_4.length c0_4, .int .i64 (wrap64 (a1 - (a0_0.size : Int)))] ?_; (with_reducible refine (laws_szStringS.calls k _ _ l0_4 (wrap64 (a1 - (a0_0.size : Int))) t102 _ ?side1 ?side2 A6.out).mono ?_); (case side1 => exact Kd.C_below HR0_4.out (eI HB)); (case side2 => exact HC0_4.out); rintro e w' ⟨rfl, ⟨nd, rfl⟩⟩; refine ⟨_, rfl, ?_⟩))); go_ret; (exact ⟨rfl, eI HB⟩))
/-! ### laws_szFieldS: function 9 -/
def laws_szFieldS.l0 : Nat → List (S68) → Int → Int → Option (Int)
 | 0, _, _, _ => none
 | k + 1, x0, x1, x5 => if x5 < (x0.length : Int) then (if 0 ≤ x5 then ((laws_szField.f k ((rd_T68 x0 x5).f0) ((rd_T68 x0 x5).f1) ((rd_T68 x0 x5).f2) ((rd_T68 x0 x5).f3) ((rd_T68 x0 x5).f4) ((rd_T68 x0 x5).f5) ((rd_T68 x0 x5).f6) x1).bind fun t102 => (if t102 < 0 then (some (-1)) else (laws_szFieldS.l0 k x0 t102 (wrap64 (x5 + 1))))) else (none)) else (some x1)
def laws_szFieldS.f (k : Nat) (l0 : List (S68)) (a1 : Int) : Option (Int) := if (wrap64 (a1 - (l0.length : Int))) < 0 then (some (-1)) else (laws_szFieldS.l0 k l0 (wrap64 (a1 - (l0.length : Int))) 0)
set_option maxHeartbeats 8000000 in
set_option maxRecDepth 100000 in
theorem laws_szFieldS.calls (k : Nat) (A0 : Option Addr) (c0 : Nat) (l0 : List (S68)) (a1 : Int) (r : Int) (w : World) (hr0 : Kd.C k68 w A0 l0.length l0) (hc0 : l0.length ≤ c0) (h : laws_szFieldS.f k l0 a1 = some r) :
  Calls Tryd.prog 9 #[.slice A0 l0.length c0, .int .i64 a1] w fun e w' => e = .returned (.int .i64 r) ∧ Below w.heap.size w w' := by
 (have hu68 := Tryd.underlying68); (have HR0 := Aside0.mk hr0); (have HC0 := Aside0.mk hc0); clear hr0 hc0; (have HB := Aside0.mk (Below.refl w.heap.size w)); (unfold laws_szFieldS.f at h); (have H := h); clear h; (by_cases c3 : (wrap64 (a1 - (l0.length : Int))) < 0); (· (rw [if_pos c3] at H); (have c3b0 := decide_eq_true c3); clear c3; (obtain rfl := Option.some.inj H); (go_enter Tryd.func9, Tryd.ntmps9); (go_wp2); go_ret; (exact ⟨rfl, eI HB⟩))
 ·rw [if_neg c3] at H
  (have c3b0 := decide_eq_false c3); clear c3; (have H' := Aside0.mk H); clear H; (go_enter Tryd.func9, Tryd.ntmps9); (go_wp2); (go_loopg [1, 5] k (fun kq v1 v5 w' => ∃ (x1_1 : Int) (x5_1 : Int), v1 = .int .i64 x1_1 ∧ v5 = .int .i64 x5_1 ∧ Aside0 (laws_szFieldS.l0 kq l0 x1_1 x5_1 = some r) ∧ Aside0 (kq ≤ k) ∧ Aside0 (Below w.heap.size w w')))
  case atStart => exact ⟨(wrap64 (a1 - (l0.length : Int))), (0), (by first | rfl | (simp; done) | (simp [*]; done)), (by first | rfl | (simp; done) | (simp [*]; done)), H', ⟨Nat.le_refl _⟩, ⟨eI HB⟩⟩
  case round =>
   (clear H'); (try clear p2); (try clear c3); (try clear c3b0); (obtain ⟨x1_1, x5_1, rfl, rfl, HA, HK1, HB⟩ := hrel)
   cases gk with
   | zero => exact absurd HA.out (by simp [laws_szFieldS.l0])
   | succ k1 =>
    (have H := HA.out); clear HA; (simp only [laws_szFieldS.l0] at H); (by_cases c4 : x5_1 < (l0.length : Int))
    ·rw [if_pos c4] at H
     (have c4b0 := decide_eq_true c4); clear c4; (by_cases c5 : 0 ≤ x5_1)
     ·rw [if_pos c5] at H
      (have c5b0 := decide_eq_true c5); clear c5; (replace H := obS H); (obtain ⟨t102, A6, H⟩ := H); (by_cases c7 : t102 < 0)
      ·rw [if_pos c7] at H
       (have c7b0 := decide_eq_true c7); clear c7; (obtain rfl := Option.some.inj H); (have p101 : 0 ≤ (x5_1 : Int) := odt); (have q101 : x5_1 < (l0.length : Int) := odt); (obtain ⟨ad101, A101_4, c101_4, e101, hx101_0, hx101_1, hx101_2, hx101_3, hx101_4, hx101_5, hx101_6, hl101_4, hi101_4⟩ := at_T68 HR0.out x5_1 p101 q101); (cases e101); (replace hx101_0 := hcI HB hx101_0); (replace hx101_1 := hcI HB hx101_1); (replace hx101_2 := hcI HB hx101_2); (replace hx101_3 := hcI HB hx101_3); (replace hx101_4 := hcI HB hx101_4); (replace hx101_5 := hcI HB hx101_5); (replace hx101_6 := hcI HB hx101_6); (have HR101_4 := Aside0.mk hi101_4); (have HC101_4 := Aside0.mk hl101_4); clear hi101_4 hl101_4; (replace p101 := eq_true p101); (replace q101 := eq_true q101); (go_wp2_with (first | ((with_reducible refine gate_callee (f := 43) rfl ?_); refine gL (some 23) Tryd.func43 #[.agg #[.string ((rd_T68 l0 x5_1).f0), .int .i64 ((rd_T68 l0 x5_1).f1), .int .i64 ((rd_T68 l0 x5_1).f2), .int .i64 ((rd_T68 l0 x5_1).f3), .slice A101_4 ((rd_T68 l0 x5_1).f4).length c101_4, .bool ((rd_T68 l0 x5_1).f5), .string ((rd_T68 l0 x5_1).f6)], .int .i64 x1_1] ?_; (with_reducible refine (laws_szField.calls k1 ((rd_T68 l0 x5_1).f0) ((rd_T68 l0 x5_1).f1) ((rd_T68 l0 x5_1).f2) ((rd_T68 l0 x5_1).f3) _ _ ((rd_T68 l0 x5_1).f4) ((rd_T68 l0 x5_1).f5) ((rd_T68 l0 x5_1).f6) x1_1 t102 _ ?side1 ?side2 A6.out).mono ?_); (case side1 => exact Kd.C_below HR101_4.out (eI HB)); (case side2 => exact HC101_4.out); rintro e w8 ⟨rfl, hb⟩; refine ⟨_, rfl, ?_⟩; have n0_ := Aside0.mk (sI hb HB); clear HB; have HB := n0_; clear n0_; (try clear hb); (try clear hb2); (try clear hk); (try clear hi)))); go_ret; (exact ⟨rfl, eI HB⟩)
      ·rw [if_neg c7] at H
       (have c7b0 := decide_eq_false c7); clear c7; (have H' := Aside0.mk H); clear H; (have p101 : 0 ≤ (x5_1 : Int) := odt); (have q101 : x5_1 < (l0.length : Int) := odt); (obtain ⟨ad101, A101_4, c101_4, e101, hx101_0, hx101_1, hx101_2, hx101_3, hx101_4, hx101_5, hx101_6, hl101_4, hi101_4⟩ := at_T68 HR0.out x5_1 p101 q101); (cases e101); (replace hx101_0 := hcI HB hx101_0); (replace hx101_1 := hcI HB hx101_1); (replace hx101_2 := hcI HB hx101_2); (replace hx101_3 := hcI HB hx101_3); (replace hx101_4 := hcI HB hx101_4); (replace hx101_5 := hcI HB hx101_5); (replace hx101_6 := hcI HB hx101_6); (have HR101_4 := Aside0.mk hi101_4); (have HC101_4 := Aside0.mk hl101_4); clear hi101_4 hl101_4; (replace p101 := eq_true p101); (replace q101 := eq_true q101); (go_wp2_with (first | ((with_reducible refine gate_callee (f := 43) rfl ?_); refine gL (some 23) Tryd.func43 #[.agg #[.string ((rd_T68 l0 x5_1).f0), .int .i64 ((rd_T68 l0 x5_1).f1), .int .i64 ((rd_T68 l0 x5_1).f2), .int .i64 ((rd_T68 l0 x5_1).f3), .slice A101_4 ((rd_T68 l0 x5_1).f4).length c101_4, .bool ((rd_T68 l0 x5_1).f5), .string ((rd_T68 l0 x5_1).f6)], .int .i64 x1_1] ?_; (with_reducible refine (laws_szField.calls k1 ((rd_T68 l0 x5_1).f0) ((rd_T68 l0 x5_1).f1) ((rd_T68 l0 x5_1).f2) ((rd_T68 l0 x5_1).f3) _ _ ((rd_T68 l0 x5_1).f4) ((rd_T68 l0 x5_1).f5) ((rd_T68 l0 x5_1).f6) x1_1 t102 _ ?side1 ?side2 A6.out).mono ?_); (case side1 => exact Kd.C_below HR101_4.out (eI HB)); (case side2 => exact HC101_4.out); rintro e w9 ⟨rfl, hb⟩; refine ⟨_, rfl, ?_⟩; have n0_ := Aside0.mk (sI hb HB); clear HB; have HB := n0_; clear n0_; (try clear hb); (try clear hb2); (try clear hk); (try clear hi)))); go_roundg k1
       case measure => have := HK1.out; omega
       case rel => exact ⟨(t102), (wrap64 (x5_1 + 1)), (by first | rfl | (simp; done) | (simp [*]; done)), (by first | rfl | (simp; done) | (simp [*]; done)), H', ⟨by have := HK1.out; omega⟩, ⟨eI HB⟩⟩
     ·rw [if_neg c5] at H
      exact absurd H (by simp)
    ·rw [if_neg c4] at H
     (have c4b0 := decide_eq_false c4); clear c4; (obtain rfl := Option.some.inj H); (go_wp2); go_ret; (exact ⟨rfl, eI HB⟩)
/-! ### laws_FnExactFormatForm: function 3 -/
def laws_FnExactFormatForm.j0 : Nat → List (S68) → List (S69) → Bool → Option (Bool)
 | 0, _, _, _ => none
 | k + 1, x0, x6, x34 => if x34 = true then (some false) else ((laws_toFieldS.f k x0).bind fun t112 => ((laws_eqFieldS.f k x6 t112).bind fun t115 => (if t115 = true then (some true) else (some false))))
def laws_FnExactFormatForm.f (k : Nat) (l0 : List (S68)) : Option (Bool) := (laws_szFieldS.f k l0 1048576).bind fun t101 => (if t101 < 0 then (some true) else ((laws_toFieldS.f k l0).bind fun t102 => ((spec_FormatForm.f k t102).bind fun bt105 => ((laws_toFieldS.f k l0).bind fun t107 => ((impl_FormatForm.f k t107).bind fun bt110 => (if bt110.1.toList = bt105.1.toList then (laws_FnExactFormatForm.j0 k l0 t107 (bt110.2 != bt105.2)) else (laws_FnExactFormatForm.j0 k l0 t107 true)))))))
set_option maxHeartbeats 8000000 in
set_option maxRecDepth 100000 in
theorem laws_FnExactFormatForm.calls (k : Nat) (A0 : Option Addr) (c0 : Nat) (l0 : List (S68)) (r : Bool) (w : World) (hr0 : Kd.C k68 w A0 l0.length l0) (hc0 : l0.length ≤ c0) (hG : GT w) (h : laws_FnExactFormatForm.f k l0 = some r) (ht_ : Aside0 (r = true)) :
  Calls Tryd.prog 3 #[.slice A0 l0.length c0] w fun e w' => e = .returned (.bool r) ∧ Below w.heap.size w w' := by
 (have HR0 := Aside0.mk hr0); (have HC0 := Aside0.mk hc0); clear hr0 hc0; (have HG := Aside0.mk hG); clear hG; (have HB := Aside0.mk (Below.refl w.heap.size w)); (unfold laws_FnExactFormatForm.f at h); (have H := h); clear h; (replace H := obS H); (obtain ⟨t101, A2, H⟩ := H); (by_cases c3 : t101 < 0); (· (rw [if_pos c3] at H); (have c3b0 := decide_eq_true c3); clear c3; (obtain rfl := Option.some.inj H); (go_enter Tryd.func3, Tryd.ntmps3); (go_wp2_with (first | ((with_reducible refine gate_callee (f := 9) rfl ?_); refine gL (some 11) Tryd.func9 #[.slice A0 l0.length c0, .int .i64 1048576] ?_; (with_reducible refine (laws_szFieldS.calls k _ _ l0 1048576 t101 _ ?side1 ?side2 A2.out).mono ?_); (case side1 => exact cI HR0.out); (case side2 => exact HC0.out); rintro e w4 ⟨rfl, hb⟩; refine ⟨_, rfl, ?_⟩; have n0_ := Aside0.mk (sI hb HB); clear HB; have HB := n0_; clear n0_; (try clear hb); (try clear hb2); (try clear hk); (try clear hi)))); go_ret; (exact ⟨rfl, eI HB⟩))
 ·rw [if_neg c3] at H
  (have c3b0 := decide_eq_false c3); clear c3; (replace H := obS H); (obtain ⟨t102, A5, H⟩ := H); (replace H := obS H); (obtain ⟨⟨t105, t106⟩, A6, H⟩ := H); (replace H : ((laws_toFieldS.f k l0).bind fun t107 => ((impl_FormatForm.f k t107).bind fun bt110 => (if bt110.1.toList = t105.toList then (laws_FnExactFormatForm.j0 k l0 t107 (bt110.2 != t106)) else (laws_FnExactFormatForm.j0 k l0 t107 true)))) = some r := H); (replace H := obS H); (obtain ⟨t107, A7, H⟩ := H); (replace H := obS H); (obtain ⟨⟨t110, t111⟩, A8, H⟩ := H); (replace H : (if t110.toList = t105.toList then (laws_FnExactFormatForm.j0 k l0 t107 (t111 != t106)) else (laws_FnExactFormatForm.j0 k l0 t107 true)) = some r := H); (have HC9 := Aside0.mk H); clear H; (go_enter Tryd.func3, Tryd.ntmps3)
  (go_upto_region 8 with (first | ((with_reducible refine gate_callee (f := 9) rfl ?_); refine gL (some 11) Tryd.func9 #[.slice A0 l0.length c0, .int .i64 1048576] ?_; (with_reducible refine (laws_szFieldS.calls k _ _ l0 1048576 t101 _ ?side1 ?side2 A2.out).mono ?_); (case side1 => exact cI HR0.out); (case side2 => exact HC0.out); rintro e w10 ⟨rfl, hb⟩; refine ⟨_, rfl, ?_⟩; have n0_ := Aside0.mk (sI hb HB); clear HB; have HB := n0_; clear n0_; (try clear hb); (try clear hb2); (try clear hk); (try clear hi)) | ((with_reducible refine gate_callee (f := 11) rfl ?_); refine gL (some 16) Tryd.func11 #[.slice A0 l0.length c0] ?_; (with_reducible refine (laws_toFieldS.calls k _ _ l0 t102 _ ?side1 ?side2 A5.out).mono ?_); (case side1 => exact Kd.C_below HR0.out (eI HB)); (case side2 => exact HC0.out); rintro e w11 ⟨v103, rfl, ho0, hb⟩; refine ⟨_, rfl, ?_⟩; have n0_ := Aside0.mk (Kd.S_lower ho0 (below_size (eI HB))); have n1_ := Aside0.mk (sI hb HB); clear HB; have HO104 := n0_; have HB := n1_; clear n0_ n1_; (try clear hb); (try clear hb2); (try clear hk); (try clear hi); (try clear ho0); obtain ⟨Ao12, co12, eo12⟩ := Kd.S_slice HO104.out; subst eo12) | ((with_reducible refine gate_callee (f := 10) rfl ?_); refine gL (some 17) Tryd.func10 #[.slice Ao12 t102.length co12] ?_; (with_reducible refine (spec_FormatForm.calls k _ _ t102 t105 t106 _ ?side1 ?side2 A6.out).mono ?_); (case side1 => repeat (first | exact (Kd.S_reads' HO104.out).2.2 | (with_reducible first | refine cA ?_ _ | refine cN ?_ _ | refine cD ?_))); (case side2 => exact (Kd.S_reads' HO104.out).2.1); rintro e w13 ⟨rfl, hb⟩; refine ⟨_, rfl, ?_⟩; have n0_ := Aside0.mk (Kd.S_below (by (with_reducible repeat (first | apply Kd.S_alloc | apply Kd.S_drewN | apply Kd.S_drew)); exact HO104.out) hb); have n1_ := Aside0.mk (sI hb HB); clear HO104 HB; have HO104 := n0_; have HB := n1_; clear n0_ n1_; (try clear hb); (try clear hb2); (try clear hk); (try clear hi)) | ((with_reducible refine gate_callee (f := 11) rfl ?_); refine gL (some 21) Tryd.func11 #[.slice A0 l0.length c0] ?_; (with_reducible refine (laws_toFieldS.calls k _ _ l0 t107 _ ?side1 ?side2 A7.out).mono ?_); (case side1 => exact Kd.C_below HR0.out (eI HB)); (case side2 => exact HC0.out); rintro e w14 ⟨v108, rfl, ho0, hb⟩; refine ⟨_, rfl, ?_⟩; have n0_ := Aside0.mk (Kd.S_elder' (by (with_reducible repeat (first | apply Kd.S_alloc | apply Kd.S_drewN | apply Kd.S_drew)); exact HO104.out) (Kd.S_base ho0) hb); have n1_ := Aside0.mk (Kd.S_lower (Kd.S_new' ho0 (Kd.S_lt (by (with_reducible repeat (first | apply Kd.S_alloc | apply Kd.S_drewN | apply Kd.S_drew)); exact HO104.out))) (below_size (eI HB))); have n2_ := Aside0.mk (sI hb HB); clear HO104 HB; have HO104 := n0_; have HO109 := n1_; have HB := n2_; clear n0_ n1_ n2_; (try clear hb); (try clear hb2); (try clear hk); (try clear hi); (try clear ho0); obtain ⟨Ao15, co15, eo15⟩ := Kd.S_slice HO109.out; subst eo15) | ((with_reducible refine gate_callee (f := 12) rfl ?_); refine gL (some 24) Tryd.func12 #[.slice Ao15 t107.length co15] ?_; (with_reducible refine (impl_FormatForm.calls k _ _ t107 t110 t111 _ ?side1 ?side2 ?side3 A8.out).mono ?_); (case side1 => repeat (first | exact (Kd.S_reads' HO109.out).2.2 | (with_reducible first | refine cA ?_ _ | refine cN ?_ _ | refine cD ?_))); (case side2 => exact (Kd.S_reads' HO109.out).2.1); (case side3 => first | exact GT.below HG.out (eI HB) | (repeat (first | exact HG.out | (with_reducible first | apply GT.drewN | apply GT.drew | apply GT.alloc)))); rintro e w16 ⟨rfl, hb⟩; refine ⟨_, rfl, ?_⟩; have n0_ := Aside0.mk (Kd.S_below (by (with_reducible repeat (first | apply Kd.S_alloc | apply Kd.S_drewN | apply Kd.S_drew)); exact HO104.out) hb); have n1_ := Aside0.mk (Kd.S_below (by (with_reducible repeat (first | apply Kd.S_alloc | apply Kd.S_drewN | apply Kd.S_drew)); exact HO109.out) hb); have n2_ := Aside0.mk (sI hb HB); clear HO104 HO109 HB; have HO104 := n0_; have HO109 := n1_; have HB := n2_; clear n0_ n1_ n2_; (try clear hb); (try clear hb2); (try clear hk); (try clear hi)))); ((try simp only [Act.put, aS1, aS2, aS3]))
  go_cut [34] (fun v34 wc => ∃ (kq : Nat) (x34_8 : Bool), v34 = .bool x34_8 ∧ Aside0 (laws_FnExactFormatForm.j0 kq l0 t107 x34_8 = some r) ∧ Aside0 (kq ≤ k) ∧ Aside0 (Kd.S k69 69 wc w.heap.size (fun _ => True) (.slice Ao15 t107.length co15) t107) ∧ Aside0 (Below w.heap.size w wc))
  case first =>
   (have H := HC9.out); clear HC9; (by_cases c17 : t110.toList = t105.toList)
   ·rw [if_pos c17] at H
    (have c17b0 : (t110.toList == t105.toList) = true := beq_iff_eq.mpr c17); (have c17b1 : (t110.toList != t105.toList) = false := bne_eq_false_iff_eq.mpr c17); clear c17; ((first | rw [c17b0] | (simp only [i64_w, i32_w]; rw [c17b0]) | skip)); (have H' := Aside0.mk H); clear H; (go_wp2); (go_meet)
    case rel => exact ⟨_, ((t111 != t106)), (by first | rfl | (simp; done) | (simp [*]; done)), H', ⟨by first | omega | exact Nat.le_refl _⟩, ⟨by (with_reducible repeat (first | apply Kd.S_alloc | apply Kd.S_drewN | apply Kd.S_drew)); exact Kd.S_mono HO109.out (fun _ hk => trivial)⟩, ⟨eI HB⟩⟩
   ·rw [if_neg c17] at H
    (have c17b0 : (t110.toList == t105.toList) = false := beq_eq_false_iff_ne.mpr c17); (have c17b1 : (t110.toList != t105.toList) = true := bne_iff_ne.mpr c17); ((first | rw [c17b0] | (simp only [i64_w, i32_w]; rw [c17b0]) | skip)); (have H' := Aside0.mk H); clear H; (go_wp2); (go_meet)
    case rel => exact ⟨_, (true), (by first | rfl | (simp; done) | (simp [*]; done)), H', ⟨by first | omega | exact Nat.le_refl _⟩, ⟨by (with_reducible repeat (first | apply Kd.S_alloc | apply Kd.S_drewN | apply Kd.S_drew)); exact Kd.S_mono HO109.out (fun _ hk => trivial)⟩, ⟨eI HB⟩⟩
  case rest =>
   clear HC9; (try clear c1); (try clear p2); (try clear c3); (try clear c3b0); (try clear c9); (try clear c10); (try clear c11); (try clear c12); (try clear c17); (try clear c17b0); (try clear c17b1); (obtain ⟨kq, x34_8, rfl, HA, HJ8, HO_6, HB⟩ := hcut)
   cases kq with
   | zero => exact absurd HA.out (by simp [laws_FnExactFormatForm.j0])
   | succ kj8 =>
    (have H := HA.out); clear HA; (simp only [laws_FnExactFormatForm.j0] at H); (by_cases c18 : x34_8 = true); (· subst c18; (rw [if_pos rfl] at H); (obtain rfl := Option.some.inj H); (exact absurd ht_.out (by decide)))
    ·replace c18 := Bool.eq_false_iff.mpr c18
     subst c18; (rw [if_neg (show ¬ (false = true) by decide)] at H); (replace H := obS H); (obtain ⟨t112, A19, H⟩ := H); (replace H := obS H); (obtain ⟨t115, A20, H⟩ := H); (by_cases c21 : t115 = true); (· subst c21; (rw [if_pos rfl] at H); (obtain rfl := Option.some.inj H); (go_wp2_with (first | ((with_reducible refine gate_callee (f := 11) rfl ?_); refine gL (some 37) Tryd.func11 #[.slice A0 l0.length c0] ?_; (with_reducible refine (laws_toFieldS.calls kj8 _ _ l0 t112 _ ?side1 ?side2 A19.out).mono ?_); (case side1 => exact Kd.C_below HR0.out (eI HB)); (case side2 => exact HC0.out); rintro e w22 ⟨v113, rfl, ho0, hb⟩; refine ⟨_, rfl, ?_⟩; have n0_ := Aside0.mk (Kd.S_elder' (by (with_reducible repeat (first | apply Kd.S_alloc | apply Kd.S_drewN | apply Kd.S_drew)); exact HO_6.out) (Kd.S_base ho0) hb); have n1_ := Aside0.mk (Kd.S_lower (Kd.S_new' ho0 (Kd.S_lt (by (with_reducible repeat (first | apply Kd.S_alloc | apply Kd.S_drewN | apply Kd.S_drew)); exact HO_6.out))) (below_size (eI HB))); have n2_ := Aside0.mk (sI hb HB); clear HO_6 HB; have HO_6 := n0_; have HO114 := n1_; have HB := n2_; clear n0_ n1_ n2_; (try clear hb); (try clear hb2); (try clear hk); (try clear hi); (try clear ho0); obtain ⟨Ao23, co23, eo23⟩ := Kd.S_slice HO114.out; subst eo23) | ((with_reducible refine gate_callee (f := 13) rfl ?_); refine gL (some 38) Tryd.func13 #[.slice Ao15 t107.length co15, .slice Ao23 t112.length co23] ?_; (with_reducible refine (laws_eqFieldS.calls kj8 _ _ t107 _ _ t112 true _ ?side1 ?side2 ?side3 ?side4 A20.out ⟨rfl⟩).mono ?_); (case side1 => repeat (first | exact (Kd.S_reads' HO_6.out).2.2 | (with_reducible first | refine cA ?_ _ | refine cN ?_ _ | refine cD ?_))); (case side2 => exact (Kd.S_reads' HO_6.out).2.1); (case side3 => repeat (first | exact (Kd.S_reads' HO114.out).2.2 | (with_reducible first | refine cA ?_ _ | refine cN ?_ _ | refine cD ?_))); (case side4 => exact (Kd.S_reads' HO114.out).2.1); rintro e w24 ⟨rfl, hb⟩; refine ⟨_, rfl, ?_⟩; have n0_ := Aside0.mk (Kd.S_below (by (with_reducible repeat (first | apply Kd.S_alloc | apply Kd.S_drewN | apply Kd.S_drew)); exact HO_6.out) hb); have n1_ := Aside0.mk (Kd.S_below (by (with_reducible repeat (first | apply Kd.S_alloc | apply Kd.S_drewN | apply Kd.S_drew)); exact HO114.out) hb); have n2_ := Aside0.mk (sI hb HB); clear HO_6 HO114 HB; have HO_6 := n0_; have HO114 := n1_; have HB := n2_; clear n0_ n1_ n2_; (try clear hb); (try clear hb2); (try clear hk); (try clear hi)))); go_ret; (exact ⟨rfl, eI HB⟩)); (· (replace c21 := Bool.eq_false_iff.mpr c21); subst c21; (rw [if_neg (show ¬ (false = true) by decide)] at H); (obtain rfl := Option.some.inj H); (exact absurd ht_.out (by decide)))

end Go.Proofs.YtdogpphfofimeaaDoor.X
set_option linter.unusedVariables false
set_option linter.unusedSimpArgs false
namespace Go.Proofs.YtdogpphfofimeaaDoor.Open
open Go.RowKit Go.Proofs.YtdogpphfofimeaaDoorW.PrintWords

/-- What reads at type t is of kind d, and good. -/
def Opens (P : Program) (t : TypeId) {α : Type} (d : Kd α) (good : α → Prop) : Prop :=
  ∀ (H : Type) (enc : TypeId × Value → H) (w : World) (fuel : Nat) (cs : List Value) (x : DataW H × List MemPlace),
    DataW.trod enc P w 0 (fun _ => true) true fuel t cs = some x → ∃ a, d.K w a cs ∧ good a

theorem opens_int {P : Program} {t : TypeId} {k : IntKind} (ht : P.underlying t = some (.int k)) : Opens P t (Kd.int k) (fun n => (Lit.int k n).wf = true) := by
  intro H enc w fuel cs x hx
  obtain ⟨n, rfl, _, hw⟩ := DataW.trod_int ht hx
  exact ⟨n, rfl, hw⟩
theorem opens_bool {P : Program} {t : TypeId} (ht : P.underlying t = some .bool) : Opens P t Kd.bool (fun _ => True) := by
  intro H enc w fuel cs x hx
  obtain ⟨n, rfl, _⟩ := DataW.trod_bool ht hx
  exact ⟨n, rfl, trivial⟩
theorem opens_string {P : Program} {t : TypeId} (ht : P.underlying t = some .string) : Opens P t Kd.string (fun s => s.size ≤ 9223372036854775807) := by
  intro H enc w fuel cs x hx
  obtain ⟨n, rfl, _, hw⟩ := DataW.trod_string ht hx
  exact ⟨n, rfl, by simpa [maxLen] using hw⟩

theorem cells_each {w : World} {a : Addr} {n : Nat} {cs : List Value} (h : w.cells? 0 a n = some cs) : cs.length = n ∧ ∀ i u, cs[i]? = some u → w.cell? (a.add i) = some u := by
  have h1 := World.cells?_some h
  refine ⟨h1.2.1, fun i u hu => ?_⟩
  have hi : i < n := by
    have := (List.getElem?_eq_some_iff.1 hu).1
    omega
  rw [h1.2.2 i hi, hu]

theorem opens_slice {P : Program} {t e : TypeId} {α : Type} {d : Kd α} {g : α → Prop} (ht : P.underlying t = some (.slice e)) (hsz : P.cellsOf e = d.sz) (h : Opens P e d g) :
    Opens P t (Kd.slice e d) (fun xs => xs.length ≤ 9223372036854775807 ∧ ∀ x ∈ xs, g x) := by
  intro H enc w fuel cs x hx
  rcases DataW.trod_slice ht hx with ⟨rfl, _⟩ | ⟨a, len, cap, elems, rest, n, rfl, rfl, _, _, hlc, hcap, hel, hget, _, _⟩
  · exact ⟨[], ⟨none, 0, rfl, Nat.le_refl _, Kd.C_nil d w⟩, by simp, by simp⟩
  · simp only [maxLen] at hcap
    have each : ∀ i, i < len → ∃ b : α, ∃ c : List Value, c.length = d.sz ∧ d.K w b c ∧ g b ∧ ∀ j u, c[j]? = some u → w.cell? (a.add (i * d.sz + j)) = some u := by
      intro i hi
      have h1 := hget i hi
      obtain ⟨y, hy⟩ : ∃ y, elems[i]? = some y := ⟨_, List.getElem?_eq_getElem (by omega)⟩
      rw [hy] at h1
      obtain ⟨c, hc, ht'⟩ := Option.bind_eq_some_iff.1 h1
      obtain ⟨b, hK, hg⟩ := h H enc w n c y ht'
      obtain ⟨hl, hcell⟩ := cells_each hc
      refine ⟨b, c, hl.trans hsz, hK, hg, fun j u hu => ?_⟩
      have := hcell j u hu
      rw [Deep.add_add, hsz] at this
      exact this
    have mk : ∀ m, m ≤ len → ∃ xs : List α, xs.length = m ∧ (∀ x ∈ xs, g x) ∧ ∀ j p, xs[j]? = some p → ∃ c, c.length = d.sz ∧ d.K w p c ∧ ∀ i u, c[i]? = some u → w.cell? (a.add (j * d.sz + i)) = some u := by
      intro m
      induction m with
      | zero => exact fun _ => ⟨[], rfl, by simp, by simp⟩
      | succ m ih =>
        intro hm
        obtain ⟨xs, hl, hg, hx⟩ := ih (by omega)
        obtain ⟨b, c, hc1, hc2, hc3, hc4⟩ := each m (by omega)
        refine ⟨xs ++ [b], by simp [hl], ?_, ?_⟩
        · intro x hx'
          rcases List.mem_append.1 hx' with hx' | hx'
          · exact hg x hx'
          · rw [List.mem_singleton.1 hx']; exact hc3
        · intro j p hj
          by_cases hjm : j < m
          · rw [List.getElem?_append_left (by omega)] at hj
            exact hx j p hj
          · have hlt := (List.getElem?_eq_some_iff.1 hj).1
            simp only [List.length_append, List.length_cons, List.length_nil] at hlt
            obtain rfl : j = m := by omega
            rw [List.getElem?_append_right (by omega), hl, Nat.sub_self] at hj
            simp only [List.getElem?_cons_zero, Option.some.injEq] at hj
            subst hj
            exact ⟨c, hc1, hc2, hc4⟩
    obtain ⟨ys, hl, hg, hy⟩ := mk len (Nat.le_refl _)
    subst hl
    exact ⟨ys, ⟨some a, cap, rfl, hlc, rfl, by omega, fun _ => ⟨a, rfl, hy⟩⟩, by omega, hg⟩

def offs (L : List (TypeId × Nat)) (i : Nat) : Nat := ((L.take i).map (·.2)).sum
def Sect (P : Program) (L : List (TypeId × Nat)) {α : Type} (d : Kd α) (good : α → Prop) : Prop :=
  ∀ (H : Type) (enc : TypeId × Value → H) (w : World) (n : Nat) (cs : List Value), cs.length = (L.map (·.2)).sum →
    (∀ i p, L[i]? = some p → ∃ y, DataW.trod enc P w 0 (fun _ => true) true n p.1 ((cs.drop (offs L i)).take p.2) = some y) → ∃ a, d.K w a cs ∧ good a
theorem sect_one {P : Program} {t : TypeId} {s : Nat} {α : Type} {d : Kd α} {g : α → Prop} (h : Opens P t d g) : Sect P [(t, s)] d g := by
  intro H enc w n cs hl hf
  obtain ⟨y, hy⟩ := hf 0 _ rfl
  simp only [offs, List.take_zero, List.map_nil, List.sum_nil, List.drop_zero] at hy
  rw [List.take_of_length_le (by simp at hl; omega)] at hy
  exact h H enc w n cs y hy
theorem sect_cons {P : Program} {t : TypeId} {s : Nat} {L : List (TypeId × Nat)} {α β : Type} {d : Kd α} {d' : Kd β} {g : α → Prop} {g' : β → Prop} (h : Opens P t d g) (h' : Sect P L d' g') :
    Sect P ((t, s) :: L) (Kd.pair d d') (fun x => g x.1 ∧ g' x.2) := by
  intro H enc w n cs hl hf
  obtain ⟨y, hy⟩ := hf 0 _ rfl
  simp only [offs, List.take_zero, List.map_nil, List.sum_nil, List.drop_zero] at hy
  obtain ⟨a, ha, hga⟩ := h H enc w n _ y hy
  obtain ⟨b, hb, hgb⟩ := h' H enc w n (cs.drop s) (by simp only [List.map_cons, List.sum_cons] at hl; rw [List.length_drop, hl]; omega) (by
    intro i p hp
    obtain ⟨z, hz⟩ := hf (i + 1) p (by simpa using hp)
    refine ⟨z, ?_⟩
    simp only [offs, List.take_succ_cons, List.map_cons, List.sum_cons] at hz
    rw [List.drop_drop]
    exact hz)
  exact ⟨(a, b), ⟨cs.take s, cs.drop s, (List.take_append_drop s cs).symm, ha, hb⟩, hga, hgb⟩
theorem opens_struct {P : Program} {t : TypeId} {fs : Array Field} {α β : Type} {d : Kd α} {g : α → Prop} (f : β → α) (k : α → β) (hk : ∀ x, f (k x) = x) (L : List (TypeId × Nat))
    (ht : P.underlying t = some (.struct fs)) (hL : L = fs.toList.map (fun f => (f.type, P.cellsOf f.type))) (ho : fs.toList.map (·.offset) = (List.range L.length).map (offs L)) (hc : P.cellsOf t = (L.map (·.2)).sum)
    (h : Sect P L d g) : Opens P t (Kd.iso d f) (fun x => g (f x)) := by
  intro H enc w fuel cs x hx
  obtain ⟨xs, n, rfl, rfl, hl, hxl, hf⟩ := DataW.trod_struct ht hx
  obtain ⟨a, ha, hg⟩ := h H enc w n cs (hl.trans hc) (by
    intro i p hp
    have hi : i < fs.size := by
      have := (List.getElem?_eq_some_iff.1 hp).1
      rw [hL] at this
      simpa using this
    have hfi : fs[i]? = some fs[i] := Array.getElem?_eq_getElem hi
    have h1 := hf i fs[i] hfi
    obtain ⟨y, hy⟩ : ∃ y, xs[i]? = some y := ⟨_, List.getElem?_eq_getElem (by omega)⟩
    rw [hy] at h1
    refine ⟨y, ?_⟩
    have hp' : p = (fs[i].type, P.cellsOf fs[i].type) := by
      rw [hL] at hp
      simp only [List.getElem?_map, Array.getElem?_toList, hfi, Option.map_some, Option.some.injEq] at hp
      exact hp.symm
    have hoi : fs[i].offset = offs L i := by
      have h2 : (fs.toList.map (·.offset))[i]? = ((List.range L.length).map (offs L))[i]? := by rw [ho]
      have hLl : L.length = fs.size := by rw [hL]; simp
      simp only [List.getElem?_map, Array.getElem?_toList, hfi, Option.map_some, List.getElem?_range (show i < L.length by omega)] at h2
      exact Option.some.inj h2
    rw [hp', ← hoi]
    exact h1)
  refine ⟨k a, ?_, ?_⟩
  · show d.K w (f (k a)) cs
    rw [hk]; exact ha
  · show g (f (k a))
    rw [hk]; exact hg

theorem arg_slice {P : Program} {W : World} {H : Type} {enc : TypeId × Value → H} {t e : TypeId} {α : Type} {d : Kd α} {g : List α → Prop} {v : Value} {x : DataW H} {p : List MemPlace} (h : Opens P t (Kd.slice e d) g)
    (hs : ∃ a len cap, v = .slice a len cap) (hv : DataW.Trod enc P W 0 (fun _ => true) true t v x p) : ∃ A c xs, v = .slice A xs.length c ∧ xs.length ≤ c ∧ Kd.C d W A xs.length xs ∧ g xs := by
  obtain ⟨a, len, cap, rfl⟩ := hs
  obtain ⟨fuel, hf⟩ := hv
  obtain ⟨xs, ⟨A, c, he, hl, hc⟩, hg⟩ := h H enc W fuel _ _ hf
  simp [Value.cells] at he
  obtain ⟨rfl, rfl, rfl⟩ := he
  exact ⟨_, _, xs, rfl, hl, hc, hg⟩
end Go.Proofs.YtdogpphfofimeaaDoor.Open
set_option linter.unusedVariables false
namespace Go.Proofs.YtdogpphfofimeaaDoor.X
open Go.RowKit Go.Proofs.YtdogpphfofimeaaDoorW.PrintWords Go.Proofs.YtdogpphfofimeaaDoor.Open
theorem op9 : Opens Tryd.prog 9 Kd.string (fun s => s.size ≤ 9223372036854775807) := opens_string Tryd.underlying9
theorem op3 : Opens Tryd.prog 3 (Kd.int .i64) (fun n => (Lit.int .i64 n).wf = true) := opens_int Tryd.underlying3
theorem op51 : Opens Tryd.prog 51 (Kd.slice 9 Kd.string) (fun xs => (xs.length ≤ 9223372036854775807 ∧ ∀ y ∈ xs, y.size ≤ 9223372036854775807)) := opens_slice Tryd.underlying51 (by kernel_rfl) op9
theorem op4 : Opens Tryd.prog 4 Kd.bool (fun _ => True) := opens_bool Tryd.underlying4
def good68 (x : S68) : Prop := x.f0.size ≤ 9223372036854775807 ∧ (Lit.int .i64 x.f1).wf = true ∧ (Lit.int .i64 x.f2).wf = true ∧ (Lit.int .i64 x.f3).wf = true ∧ (x.f4.length ≤ 9223372036854775807 ∧ ∀ y ∈ x.f4, y.size ≤ 9223372036854775807) ∧ True ∧ x.f6.size ≤ 9223372036854775807
theorem op68 : Opens Tryd.prog 68 k68 good68 :=
  opens_struct (fun x : S68 => (x.f0, x.f1, x.f2, x.f3, x.f4, x.f5, x.f6)) (fun p => ⟨p.1, p.2.1, p.2.2.1, p.2.2.2.1, p.2.2.2.2.1, p.2.2.2.2.2.1, p.2.2.2.2.2.2⟩) (fun _ => rfl) [(9, 1), (3, 1), (3, 1), (3, 1), (51, 1), (4, 1), (9, 1)] Tryd.underlying68 (by kernel_rfl) (by decide) (by kernel_rfl) (sect_cons op9 (sect_cons op3 (sect_cons op3 (sect_cons op3 (sect_cons op51 (sect_cons op4 (sect_one op9)))))))
theorem op22 : Opens Tryd.prog 22 (Kd.slice 68 k68) (fun xs => (xs.length ≤ 9223372036854775807 ∧ ∀ y ∈ xs, good68 y)) := opens_slice Tryd.underlying22 (by kernel_rfl) op68
end Go.Proofs.YtdogpphfofimeaaDoor.X
namespace Go.Proofs.YtdogpphfofimeaaDoor.X
open Go.RowKit Go.Proofs.YtdogpphfofimeaaDoorW.PrintWords
def PureFnExactFormatForm : Prop := ∀ (a0 : List (S68)), (a0.length ≤ 9223372036854775807 ∧ ∀ y ∈ a0, good68 y) → ∃ k, laws_FnExactFormatForm.f k a0 = some true
end Go.Proofs.YtdogpphfofimeaaDoor.X
namespace Go.Proofs.YtdogpphfofimeaaDoor.X
open Go.RowKit Go.Proofs.YtdogpphfofimeaaDoorW.PrintWords Go.Proofs.YtdogpphfofimeaaDoorW.PrintLast Go.Proofs.YtdogpphfofimeaaDoorW.PrintMore
attribute [local go_sem] max2_int min2_int max_two min_two max_three min_three max_four min_four   -- for this text's walks alone
set_option linter.unusedVariables false
set_option linter.unusedSimpArgs false
attribute [-simp] ByteArray.size_append ByteArray.size_extract
attribute [-go_sem] ByteArray.size_append'

/-! ### impl_isText: function 69 -/
def impl_isText.l0 : Nat → ByteArray → Int → Int → Option (Bool)
 | 0, _, _, _ => none
 | k + 1, x0, x5, x6 => if x6 < x5 then (if 0 ≤ x6 then (if x6 < (x0.size : Int) then (if (bt x0 x6) < 32 then (some false) else (if (bt x0 x6) > 126 then (some false) else (impl_isText.l0 k x0 x5 (wrap64 (x6 + 1))))) else (none)) else (none)) else (some (decide ((x0.size : Int) ≤ 40)))
def impl_isText.f (k : Nat) (a0 : ByteArray) : Option (Bool) := impl_isText.l0 k a0 (a0.size : Int) 0
set_option maxHeartbeats 8000000 in
set_option maxRecDepth 100000 in
theorem impl_isText.calls (k : Nat) (a0 : ByteArray) (r : Bool) (w : World) (h : impl_isText.f k a0 = some r) :
  Calls Tryd.prog 69 #[.string a0] w fun e w' => e = .returned (.bool r) ∧ Drawn0 w w' := by
 (unfold impl_isText.f at h); (have H := h); clear h; (have H' := Aside0.mk H); clear H; (go_enter Tryd.func69, Tryd.ntmps69); (go_wp2); (go_loopg [6] k (fun kq v6 w' => ∃ (x6_1 : Int), v6 = .int .i64 x6_1 ∧ Aside0 (impl_isText.l0 kq a0 (a0.size : Int) x6_1 = some r) ∧ Aside0 (kq ≤ k) ∧ Drawn0 w w'))
 case atStart => exact ⟨(0), (by first | rfl | (simp; done) | (simp [*]; done)), H', ⟨Nat.le_refl _⟩, by repeat (first | exact Drawn0.refl _ | apply Drawn0.step)⟩
 case round =>
  (clear H'); (obtain ⟨x6_1, rfl, HA, HK1, ⟨m1, rfl⟩⟩ := hrel)
  cases gk with
  | zero => exact absurd HA.out (by simp [impl_isText.l0])
  | succ k1 =>
   (have H := HA.out); clear HA; (simp only [impl_isText.l0] at H); (by_cases c2 : x6_1 < (a0.size : Int))
   ·rw [if_pos c2] at H
    (have c2b0 := decide_eq_true c2); clear c2; (by_cases c3 : 0 ≤ x6_1)
    ·rw [if_pos c3] at H
     (have c3b0 := decide_eq_true c3); clear c3; (by_cases c4 : x6_1 < (a0.size : Int))
     ·rw [if_pos c4] at H
      (have c4b0 := decide_eq_true c4); clear c4; (by_cases c6 : (bt a0 x6_1) < 32); (· (rw [if_pos c6] at H); (have c6b0 := decide_eq_true c6); clear c6; (obtain rfl := Option.some.inj H); (have p5 : 0 ≤ (x6_1 : Int) := odt); (have q5 : x6_1 < (a0.size : Int) := odt); (have hx5 := bt_at a0 x6_1); (replace p5 := eq_true p5); (replace q5 := eq_true q5); (go_wp2); go_ret; (exact ⟨by first | rfl | (simp; done) | (simp [*]; done), by repeat (first | exact Drawn0.refl _ | apply Drawn0.step)⟩))
      ·rw [if_neg c6] at H
       (have c6b0 := decide_eq_false c6); clear c6; (by_cases c8 : (bt a0 x6_1) > 126)
       ·rw [if_pos c8] at H
        (have c8b0 : decide (126 < (bt a0 x6_1)) = true := decide_eq_true c8); clear c8; (obtain rfl := Option.some.inj H); (have p5 : 0 ≤ (x6_1 : Int) := odt); (have q5 : x6_1 < (a0.size : Int) := odt); (have hx5 := bt_at a0 x6_1); (replace p5 := eq_true p5); (replace q5 := eq_true q5); (have p7 : 0 ≤ (x6_1 : Int) := odt); (have q7 : x6_1 < (a0.size : Int) := odt); (have hx7 := bt_at a0 x6_1); (replace p7 := eq_true p7); (replace q7 := eq_true q7); (go_wp2); go_ret; (exact ⟨by first | rfl | (simp; done) | (simp [*]; done), by repeat (first | exact Drawn0.refl _ | apply Drawn0.step)⟩)
       ·rw [if_neg c8] at H
        (have c8b0 : decide (126 < (bt a0 x6_1)) = false := decide_eq_false c8); clear c8; (have H' := Aside0.mk H); clear H; (have p5 : 0 ≤ (x6_1 : Int) := odt); (have q5 : x6_1 < (a0.size : Int) := odt); (have hx5 := bt_at a0 x6_1); (replace p5 := eq_true p5); (replace q5 := eq_true q5); (have p7 : 0 ≤ (x6_1 : Int) := odt); (have q7 : x6_1 < (a0.size : Int) := odt); (have hx7 := bt_at a0 x6_1); (replace p7 := eq_true p7); (replace q7 := eq_true q7); (go_wp2); go_roundg k1
        case measure => have := HK1.out; omega
        case rel => exact ⟨(wrap64 (x6_1 + 1)), (by first | rfl | (simp; done) | (simp [*]; done)), H', ⟨by have := HK1.out; omega⟩, by repeat (first | exact Drawn0.refl _ | apply Drawn0.step)⟩
     ·rw [if_neg c4] at H
      exact absurd H (by simp)
    ·rw [if_neg c3] at H
     exact absurd H (by simp)
   ·rw [if_neg c2] at H
    (have c2b0 := decide_eq_false c2); clear c2; (obtain rfl := Option.some.inj H); (go_wp2); go_ret; (exact ⟨by first | rfl | (simp; done) | (simp [*]; done), by repeat (first | exact Drawn0.refl _ | apply Drawn0.step)⟩)
/-! ### spec_l21Text: function 89 -/
mutual
def spec_l21Text.l0 : Nat → ByteArray → Int → Option (Bool)
 | 0, _, _ => none
 | k + 1, x0, x3 => if x3 < (x0.size : Int) then (spec_l21Text.j1 k x0 x3 (decide (x3 ≤ 40))) else (spec_l21Text.j1 k x0 x3 false)
def spec_l21Text.j1 : Nat → ByteArray → Int → Bool → Option (Bool)
 | 0, _, _, _ => none
 | k + 1, x0, x3, x11 => if x11 = true then (if 0 ≤ x3 then (if x3 < (x0.size : Int) then (if (bt x0 x3) < 32 then (some false) else (if (bt x0 x3) > 126 then (some false) else (spec_l21Text.l0 k x0 (wrap64 (x3 + 1))))) else (none)) else (none)) else (some (decide ((x0.size : Int) ≤ 40)))
end
def spec_l21Text.f (k : Nat) (a0 : ByteArray) : Option (Bool) := spec_l21Text.l0 k a0 0
set_option maxHeartbeats 8000000 in
set_option maxRecDepth 100000 in
theorem spec_l21Text.calls (k : Nat) (a0 : ByteArray) (r : Bool) (w : World) (h : spec_l21Text.f k a0 = some r) :
  Calls Tryd.prog 89 #[.string a0] w fun e w' => e = .returned (.bool r) ∧ Drawn0 w w' := by
 (unfold spec_l21Text.f at h); (have H := h); clear h; (have H' := Aside0.mk H); clear H; (go_enter Tryd.func89, Tryd.ntmps89); (go_wp2); (go_loopg [3] k (fun kq v3 w' => ∃ (x3_1 : Int), v3 = .int .i64 x3_1 ∧ Aside0 (spec_l21Text.l0 kq a0 x3_1 = some r) ∧ Aside0 (kq ≤ k) ∧ Drawn0 w w'))
 case atStart => exact ⟨(0), (by first | rfl | (simp; done) | (simp [*]; done)), H', ⟨Nat.le_refl _⟩, by repeat (first | exact Drawn0.refl _ | apply Drawn0.step)⟩
 case round =>
  (clear H'); (obtain ⟨x3_1, rfl, HA, HK1, ⟨m1, rfl⟩⟩ := hrel)
  cases gk with
  | zero => exact absurd HA.out (by simp [spec_l21Text.l0])
  | succ k1 =>
   (have H := HA.out); clear HA; (simp only [spec_l21Text.l0] at H); (have HC2 := Aside0.mk H); clear H; (go_upto_region 2 with (fail)); (go_cut [11] (fun v11 wc => ∃ (kq : Nat) (x11_1 : Bool), v11 = .bool x11_1 ∧ Aside0 (spec_l21Text.j1 kq a0 x3_1 x11_1 = some r) ∧ Aside0 (kq ≤ k1) ∧ Drawn0 w wc))
   case first =>
    (have H := HC2.out); clear HC2; (by_cases c3 : x3_1 < (a0.size : Int))
    ·rw [if_pos c3] at H
     (have c3b0 := decide_eq_true c3); clear c3; ((first | rw [c3b0] | (simp only [i64_w, i32_w]; rw [c3b0]) | skip)); (have H' := Aside0.mk H); clear H; (go_wp2); (go_meet)
     case rel => exact ⟨_, (decide (x3_1 ≤ 40)), (by first | rfl | (simp; done) | (simp [*]; done)), H', ⟨by have := HK1.out; first | omega | exact Nat.le_refl _⟩, by repeat (first | exact Drawn0.refl _ | apply Drawn0.step)⟩
    ·rw [if_neg c3] at H
     (have c3b0 := decide_eq_false c3); clear c3; ((first | rw [c3b0] | (simp only [i64_w, i32_w]; rw [c3b0]) | skip)); (have H' := Aside0.mk H); clear H; (go_wp2); (go_meet)
     case rel => exact ⟨_, (false), (by first | rfl | (simp; done) | (simp [*]; done)), H', ⟨by have := HK1.out; first | omega | exact Nat.le_refl _⟩, by repeat (first | exact Drawn0.refl _ | apply Drawn0.step)⟩
   case rest =>
    clear HC2; (try clear p2); (try clear c3); (try clear c3b0); (obtain ⟨kq, x11_1, rfl, HA, HJ1, ⟨mc1, rfl⟩⟩ := hcut)
    cases kq with
    | zero => exact absurd HA.out (by simp [spec_l21Text.j1])
    | succ kj1 =>
     (have H := HA.out); clear HA; (simp only [spec_l21Text.j1] at H); (by_cases c4 : x11_1 = true)
     ·subst c4
      (rw [if_pos rfl] at H); (by_cases c5 : 0 ≤ x3_1)
      ·rw [if_pos c5] at H
       (have c5b0 := decide_eq_true c5); clear c5; (by_cases c6 : x3_1 < (a0.size : Int))
       ·rw [if_pos c6] at H
        (have c6b0 := decide_eq_true c6); clear c6; (by_cases c8 : (bt a0 x3_1) < 32); (· (rw [if_pos c8] at H); (have c8b0 := decide_eq_true c8); clear c8; (obtain rfl := Option.some.inj H); (have p7 : 0 ≤ (x3_1 : Int) := odt); (have q7 : x3_1 < (a0.size : Int) := odt); (have hx7 := bt_at a0 x3_1); (replace p7 := eq_true p7); (replace q7 := eq_true q7); (go_wp2); go_ret; (exact ⟨by first | rfl | (simp; done) | (simp [*]; done), by repeat (first | exact Drawn0.refl _ | apply Drawn0.step)⟩))
        ·rw [if_neg c8] at H
         (have c8b0 := decide_eq_false c8); clear c8; (by_cases c10 : (bt a0 x3_1) > 126)
         ·rw [if_pos c10] at H
          (have c10b0 : decide (126 < (bt a0 x3_1)) = true := decide_eq_true c10); clear c10; (obtain rfl := Option.some.inj H); (have p7 : 0 ≤ (x3_1 : Int) := odt); (have q7 : x3_1 < (a0.size : Int) := odt); (have hx7 := bt_at a0 x3_1); (replace p7 := eq_true p7); (replace q7 := eq_true q7); (have p9 : 0 ≤ (x3_1 : Int) := odt); (have q9 : x3_1 < (a0.size : Int) := odt); (have hx9 := bt_at a0 x3_1); (replace p9 := eq_true p9); (replace q9 := eq_true q9); (go_wp2); go_ret; (exact ⟨by first | rfl | (simp; done) | (simp [*]; done), by repeat (first | exact Drawn0.refl _ | apply Drawn0.step)⟩)
         ·rw [if_neg c10] at H
          (have c10b0 : decide (126 < (bt a0 x3_1)) = false := decide_eq_false c10); clear c10; (have H' := Aside0.mk H); clear H; (have p7 : 0 ≤ (x3_1 : Int) := odt); (have q7 : x3_1 < (a0.size : Int) := odt); (have hx7 := bt_at a0 x3_1); (replace p7 := eq_true p7); (replace q7 := eq_true q7); (have p9 : 0 ≤ (x3_1 : Int) := odt); (have q9 : x3_1 < (a0.size : Int) := odt); (have hx9 := bt_at a0 x3_1); (replace p9 := eq_true p9); (replace q9 := eq_true q9); (go_wp2); go_roundg kj1
          case measure => have := HK1.out; have := HJ1.out; omega
          case rel => exact ⟨(wrap64 (x3_1 + 1)), (by first | rfl | (simp; done) | (simp [*]; done)), H', ⟨by have := HK1.out; have := HJ1.out; omega⟩, by repeat (first | exact Drawn0.refl _ | apply Drawn0.step)⟩
       ·rw [if_neg c6] at H
        exact absurd H (by simp)
      ·rw [if_neg c5] at H
       exact absurd H (by simp)
     ·replace c4 := Bool.eq_false_iff.mpr c4
      subst c4; (rw [if_neg (show ¬ (false = true) by decide)] at H); (obtain rfl := Option.some.inj H); (go_wp2); go_ret; (exact ⟨by first | rfl | (simp; done) | (simp [*]; done), by repeat (first | exact Drawn0.refl _ | apply Drawn0.step)⟩)

end Go.Proofs.YtdogpphfofimeaaDoor.X
set_option linter.unusedVariables false
set_option linter.unusedSimpArgs false
namespace Go.Proofs.YtdogpphfofimeaaDoor.X
open Go.RowKit Go.Proofs.YtdogpphfofimeaaDoorW.PrintWords Go.Proofs.YtdogpphfofimeaaDoor.E
theorem l1In_eq (a l h : Int) : spec_l1In.f a l h = some (decide (l ≤ a ∧ a ≤ h)) := by
  unfold spec_l1In.f
  by_cases h1 : a ≥ l
  · rw [if_pos h1]; congr 1; simp [h1]
  · rw [if_neg h1]; congr 1; symm; simp; intro h2; omega
theorem within_eq (a l h : Int) : impl_within.f a l h = some (decide (l ≤ a ∧ a ≤ h)) := by
  unfold impl_within.f
  by_cases h1 : a ≥ l
  · rw [if_pos h1]; congr 1; simp [h1]
  · rw [if_neg h1]; congr 1; symm; simp; intro h2; omega
def nameAt (s : ByteArray) (i : Nat) : Bool := decide (97 ≤ bt s i ∧ bt s i ≤ 122) || (decide (0 < i) && decide (48 ≤ bt s i ∧ bt s i ≤ 57))
def nameB (s : ByteArray) : Bool := decide (1 ≤ (s.size : Int) ∧ (s.size : Int) ≤ 8) && (List.range s.size).all (nameAt s)
theorem isName_ev (s : ByteArray) (hs : s.size ≤ 9223372036854775807) : Ev (fun k => impl_isName.f k s) (nameB s) := by
  have h := ev_all0 (L := fun k i => impl_isName.l0 k s (s.size : Int) i) s.size (nameAt s) false (decide (1 ≤ (s.size : Int) ∧ (s.size : Int) ≤ 8)) (fun _ => Ev.step (fun k => rfl) (ev_neg (by omega) ?_)) ?h1 ?h2
  case refine_1 => simp only [within_eq]; exact ev_now rfl
  case h1 =>
    intro i hi _ hc y hy
    simp only [nameAt, Bool.or_eq_true, Bool.and_eq_true, decide_eq_true_eq] at hc
    refine Ev.step (fun k => rfl) (ev_pos (by omega) (ev_pos (by omega) (ev_pos (by omega) ?_)))
    rw [wrap_succ hi hs]
    repeat' (first | exact hy | (exfalso; omega) | (refine ev_ite (fun _ => ?_) (fun _ => ?_)))
  case h2 =>
    intro i hi _ hc
    simp only [nameAt, Bool.or_eq_false_iff, Bool.and_eq_false_iff, decide_eq_false_iff_not] at hc
    refine Ev.step (fun k => rfl) (ev_pos (by omega) (ev_pos (by omega) (ev_pos (by omega) ?_)))
    rw [wrap_succ hi hs]
    repeat' (first | exact ev_now rfl | (exfalso; omega) | (refine ev_ite (fun _ => ?_) (fun _ => ?_)))
  refine ev_cast h ?_
  unfold nameB
  cases (List.range s.size).all (nameAt s) <;> simp
theorem l7Name_ev (s : ByteArray) (hs : s.size ≤ 9223372036854775807) : Ev (fun k => spec_l7Name.f k s) (nameB s) := by
  unfold spec_l7Name.f
  simp only [l1In_eq]
  have stop : ∀ b, b = false → Ev (fun k => spec_l7Name.j0 k s true) b := fun b hb => hb ▸ Ev.step (fun k => rfl) (ev_now rfl)
  refine ev_ite (fun h1 => ?_) (fun h1 => stop _ ?_)
  case refine_2 => unfold nameB; simp only [Bool.and_eq_false_iff]; left; simpa using h1
  have h1' : 1 ≤ (s.size : Int) ∧ (s.size : Int) ≤ 8 := by simpa using h1
  have h0 : ∀ b : Bool, (97 ≤ bt s 0 ∧ bt s 0 ≤ 122 → b = (List.range s.size).all (nameAt s)) → (¬ (97 ≤ bt s 0 ∧ bt s 0 ≤ 122) → b = false) → b = nameB s := by
    intro b hy hn
    unfold nameB
    rw [decide_eq_true h1', Bool.true_and]
    by_cases c : 97 ≤ bt s 0 ∧ bt s 0 ≤ 122
    · exact hy c
    · rw [hn c]
      symm
      rw [Bool.eq_false_iff]
      intro hall
      have := all_range.1 hall 0 (by omega)
      simp only [nameAt, Nat.lt_irrefl, decide_false, Bool.false_and, Bool.or_false, decide_eq_true_eq] at this
      exact c this
  refine ev_pos (by omega) ?_
  have loop : 97 ≤ bt s 0 ∧ bt s 0 ≤ 122 → Ev (fun k => spec_l7Name.l0 k s 0) ((List.range s.size).all (nameAt s)) := by
    intro hf
    have h := ev_all0 (L := fun k i => spec_l7Name.l0 k s i) s.size (nameAt s) false true (fun _ => Ev.step (fun k => rfl) (ev_neg (by omega) (ev_now rfl))) ?h1 ?h2
    case h1 =>
      intro i hi _ hc y hy
      simp only [nameAt, Bool.or_eq_true, Bool.and_eq_true, decide_eq_true_eq] at hc
      refine Ev.step (fun k => rfl) (ev_pos (by omega) (ev_pos (by omega) ?_))
      rw [wrap_succ hi hs]
      repeat' (first | exact hy | (exfalso; omega) | (refine ev_ite (fun _ => ?_) (fun _ => ?_)))
    case h2 =>
      intro i hi _ hc
      simp only [nameAt, Bool.or_eq_false_iff, Bool.and_eq_false_iff, decide_eq_false_iff_not] at hc
      have hi0 : 0 < i := by
        rcases Nat.eq_zero_or_pos i with e | e
        · subst e; exact absurd hf hc.1
        · exact e
      refine Ev.step (fun k => rfl) (ev_pos (by omega) (ev_pos (by omega) ?_))
      rw [wrap_succ hi hs]
      repeat' (first | exact ev_now rfl | (exfalso; omega) | (refine ev_ite (fun _ => ?_) (fun _ => ?_)))
    refine ev_cast h ?_
    cases (List.range s.size).all (nameAt s) <;> rfl
  refine ev_ite (fun c => stop _ (h0 false (fun h => by exfalso; omega) (fun _ => rfl)).symm) (fun c => ?_)
  by_cases c2 : bt s 0 > 122
  · rw [decide_eq_true c2]
    exact stop _ (h0 false (fun h => by exfalso; omega) (fun _ => rfl)).symm
  · rw [decide_eq_false c2]
    exact Ev.step (fun k => rfl) (ev_cast (loop ⟨by omega, by omega⟩) (h0 _ (fun _ => rfl) (fun h => absurd (And.intro (show 97 ≤ bt s 0 by omega) (show bt s 0 ≤ 122 by omega)) h)))
end Go.Proofs.YtdogpphfofimeaaDoor.X
namespace Go.Proofs.YtdogpphfofimeaaDoor.X
open Go.RowKit Go.Proofs.YtdogpphfofimeaaDoorW.PrintWords Go.Proofs.YtdogpphfofimeaaDoorW.PrintLast Go.Proofs.YtdogpphfofimeaaDoorW.PrintMore
attribute [local go_sem] max2_int min2_int max_two min_two max_three min_three max_four min_four   -- for this text's walks alone
set_option linter.unusedVariables false
set_option linter.unusedSimpArgs false
attribute [-simp] ByteArray.size_append ByteArray.size_extract
attribute [-go_sem] ByteArray.size_append'

/-! ### spec_IsValidForm: function 38 -/
def spec_IsValidForm.f (k : Nat) (l0 : List (S69)) : Option (Bool) := (spec_l23Good.f k l0).bind fun t101 => (some t101)
set_option maxHeartbeats 8000000 in
set_option maxRecDepth 100000 in
theorem spec_IsValidForm.calls (k : Nat) (A0 : Option Addr) (c0 : Nat) (l0 : List (S69)) (r : Bool) (w : World) (hr0 : Kd.C k69 w A0 l0.length l0) (hc0 : l0.length ≤ c0) (h : spec_IsValidForm.f k l0 = some r) :
  Calls Tryd.prog 38 #[.slice A0 l0.length c0] w fun e w' => e = .returned (.bool r) ∧ Below w.heap.size w w' := by
 (have HR0 := Aside0.mk hr0); (have HC0 := Aside0.mk hc0); clear hr0 hc0; (have HB := Aside0.mk (Below.refl w.heap.size w)); (unfold spec_IsValidForm.f at h); (have H := h); clear h; (replace H := obS H); (obtain ⟨t101, A2, H⟩ := H); (obtain rfl := Option.some.inj H); (go_enter Tryd.func38, Tryd.ntmps38); (go_wp2_with (first | ((with_reducible refine gate_callee (f := 44) rfl ?_); refine gL (some 4) Tryd.func44 #[.slice A0 l0.length c0] ?_; (with_reducible refine (spec_l23Good.calls k _ _ l0 t101 _ ?side1 ?side2 A2.out).mono ?_); (case side1 => exact cI HR0.out); (case side2 => exact HC0.out); rintro e w3 ⟨rfl, hb⟩; refine ⟨_, rfl, ?_⟩; have n0_ := Aside0.mk (sI hb HB); clear HB; have HB := n0_; clear n0_; (try clear hb); (try clear hb2); (try clear hk); (try clear hi)))); go_ret; (exact ⟨rfl, eI HB⟩)

end Go.Proofs.YtdogpphfofimeaaDoor.X
set_option linter.unusedVariables false
set_option linter.unusedSimpArgs false
namespace Go.Proofs.YtdogpphfofimeaaDoor.X
open Go.RowKit Go.Proofs.YtdogpphfofimeaaDoorW.PrintWords Go.Proofs.YtdogpphfofimeaaDoor.E
abbrev Field := S69
abbrev zF : Field := z69
/-- What a reading tells of a field's sizes. -/
def fine (f : Field) : Prop := f.f0.size ≤ 9223372036854775807 ∧ f.f4.length ≤ 9223372036854775807 ∧ (∀ s ∈ f.f4, s.size ≤ 9223372036854775807) ∧ f.f6.size ≤ 9223372036854775807
abbrev fidx (form : List Field) (n : ByteArray) : Int := idxG (fun x : Field => x.f0.toList == n.toList) 0 form
theorem l23Find_ev (form : List Field) (n : ByteArray) (hl : form.length ≤ 9223372036854775807) : Ev (fun k => spec_l23Find.f k form n) (fidx form n) := by
  have h := ev_walk (L := fun k i => spec_l23Find.l0 k form n i) (G := fun i r => idxG (fun x : Field => x.f0.toList == n.toList) i r) form (Ev.step (fun k => rfl) (ev_neg (by omega) (ev_now rfl))) ?step
  case step =>
    intro i x r hi hd hx hk
    refine Ev.step (fun k => rfl) (ev_pos (by omega) (ev_pos (by omega) ?_))
    simp only [rd_T69, Int.toNat_natCast, hx]
    by_cases c : x.f0.toList = n.toList
    · exact ev_pos c (ev_now (by simp [idxG, c]))
    · refine ev_neg c ?_
      rw [wrap_succ hi hl]
      exact ev_cast hk (by simp [idxG, c])
  exact h
theorem fieldOf_eq (form : List Field) (n : ByteArray) : impl_fieldOf.f form n = some (fidx form n) := rfl
/-- A list's choices: names, and none twice. -/
def choiceAt (l : List ByteArray) (i : Nat) : Bool := nameB (l.getD i ByteArray.empty) && (List.range i).all (fun k => !((l.getD k ByteArray.empty).toList == (l.getD i ByteArray.empty).toList))
def choices (l : List ByteArray) : Bool := (List.range l.length).all (choiceAt l)
theorem l23Names_ev (l : List ByteArray) (hl : l.length ≤ 9223372036854775807) (hs : ∀ s ∈ l, s.size ≤ 9223372036854775807) : Ev (fun k => spec_l23Names.f k l) (choices l) := by
  have inner : ∀ i, i < l.length → ∀ y, ((List.range i).all (fun k => !((l.getD k ByteArray.empty).toList == (l.getD i ByteArray.empty).toList)) = true → Ev (fun k => spec_l23Names.l0 k l ((i + 1 : Nat) : Int)) y) →
      Ev (fun k => spec_l23Names.l1 k l i 0) (if (List.range i).all (fun k => !((l.getD k ByteArray.empty).toList == (l.getD i ByteArray.empty).toList)) = true then y else false) := by
    intro i hi y hy
    refine ev_all0 (L := fun k j => spec_l23Names.l1 k l i j) i _ false y ?_ ?_ ?_
    · intro hC
      refine Ev.step (fun k => rfl) (ev_neg (by omega) ?_)
      rw [wrap_succ hi hl]
      exact hy (all_range.2 hC)
    · intro m hm _ hc z hz
      refine Ev.step (fun k => rfl) (ev_pos (by omega) (ev_pos (by omega) (ev_pos (by omega) (ev_pos (by omega) (ev_pos (by omega) (ev_neg ?_ ?_))))))
      · simp only [rdOf, Int.toNat_natCast]
        simpa using hc
      · rw [wrap_succ hm (by omega)]; exact hz
    · intro m hm _ hc
      refine Ev.step (fun k => rfl) (ev_pos (by omega) (ev_pos (by omega) (ev_pos (by omega) (ev_pos (by omega) (ev_pos (by omega) (ev_pos ?_ (ev_now rfl)))))))
      simp only [rdOf, Int.toNat_natCast]
      simpa using hc
  have h := ev_all0 (L := fun k i => spec_l23Names.l0 k l i) l.length (choiceAt l) false true (fun _ => Ev.step (fun k => rfl) (ev_neg (by omega) (ev_now rfl))) ?h1 ?h2
  case h1 =>
    intro i hi _ hc y hy
    simp only [choiceAt, Bool.and_eq_true] at hc
    refine Ev.step (fun k => rfl) (ev_pos (by omega) (ev_pos (by omega) ?_))
    simp only [rdOf, Int.toNat_natCast]
    refine Ev.bind (l7Name_ev _ (by rw [getD_in hi]; exact hs _ (List.getElem_mem hi))) (ev_pos hc.1 ?_)
    have := inner i hi y (fun _ => hy)
    rw [if_pos hc.2] at this
    exact this
  case h2 =>
    intro i hi _ hc
    refine Ev.step (fun k => rfl) (ev_pos (by omega) (ev_pos (by omega) ?_))
    simp only [rdOf, Int.toNat_natCast]
    refine Ev.bind (l7Name_ev _ (by rw [getD_in hi]; exact hs _ (List.getElem_mem hi))) (ev_ite (fun h1 => ?_) (fun _ => ev_now rfl))
    have hn : ¬ (List.range i).all (fun k => !((l.getD k ByteArray.empty).toList == (l.getD i ByteArray.empty).toList)) = true := by
      intro h2
      simp only [choiceAt, h1, h2] at hc
      cases hc
    have := inner i hi false (fun h => absurd h hn)
    rw [if_neg hn] at this
    exact this
  refine ev_cast h ?_
  unfold choices
  cases (List.range l.length).all (choiceAt l) <;> rfl
theorem slicesIndexStr_ev (l : List ByteArray) (n : ByteArray) (hl : l.length ≤ 9223372036854775807) : Ev (fun k => slices_Index_string_string.f k l n) (idxG (fun x : ByteArray => x.toList == n.toList) 0 l) := by
  have h := ev_walk (L := fun k i => slices_Index_string_string.l0 k l n (l.length : Int) i) (G := fun i r => idxG (fun x : ByteArray => x.toList == n.toList) i r) l (Ev.step (fun k => rfl) (ev_neg (by omega) (ev_now rfl))) ?step
  case step =>
    intro i x r hi hd hx hk
    refine Ev.step (fun k => rfl) (ev_pos (by omega) (ev_pos (by omega) (ev_pos (by omega) ?_)))
    simp only [rdOf, Int.toNat_natCast, hx]
    by_cases c : n.toList = x.toList
    · exact ev_pos c (ev_now (by simp [idxG, c]))
    · refine ev_neg c ?_
      rw [wrap_succ hi hl]
      have c' : ¬ x.toList = n.toList := fun h => c h.symm
      exact ev_cast hk (by simp [idxG, c'])
  exact h
theorem slicesContainsStr_ev (l : List ByteArray) (n : ByteArray) (hl : l.length ≤ 9223372036854775807) : Ev (fun k => slices_Contains_string_string.f k l n) (l.any (fun x => x.toList == n.toList)) := by
  unfold slices_Contains_string_string.f
  refine Ev.bind (slicesIndexStr_ev l n hl) (ev_now ?_)
  exact idxG_nonneg (fun x : ByteArray => x.toList == n.toList) l 0
theorem any_take (l : List ByteArray) (i : Nat) (hi : i < l.length) (n : ByteArray) : (l.take i).any (fun x => x.toList == n.toList) = !(List.range i).all (fun k => !((l.getD k ByteArray.empty).toList == n.toList)) := by
  rw [Bool.eq_iff_iff, Bool.not_eq_true', List.any_eq_true, Bool.eq_false_iff, ne_eq, all_range]
  constructor
  · rintro ⟨x, hx, hp⟩ h
    obtain ⟨q, hq, rfl⟩ := List.getElem_of_mem hx
    have hq' : q < i := by simp at hq; omega
    have := h q hq'
    rw [getD_in (by omega)] at this
    rw [List.getElem_take] at hp
    rw [hp] at this; cases this
  · intro h
    refine Classical.byContradiction (fun hc => h (fun k hk => ?_))
    rw [getD_in (by omega)]
    cases hq : (l[k].toList == n.toList) with
    | false => rfl
    | true =>
      refine absurd ⟨l[k], ?_, hq⟩ hc
      rw [List.mem_take_iff_getElem]
      exact ⟨k, by omega, rfl⟩
/-- What is asked of the kind. -/
def kindOk (f : Field) : Bool :=
  if f.f1 = 1 then decide (-999999 ≤ f.f2 ∧ f.f2 ≤ f.f3 ∧ f.f3 ≤ 999999) && (f.f4.length == 0)
  else if f.f1 = 2 then decide (0 ≤ f.f2 ∧ f.f2 ≤ f.f3 ∧ f.f3 ≤ 40) && (f.f4.length == 0)
  else if f.f1 = 3 then decide (f.f2 = 0 ∧ f.f3 = 0) && decide (1 ≤ (f.f4.length : Int) ∧ (f.f4.length : Int) ≤ 6) && choices f.f4
  else if f.f1 = 4 then decide (f.f2 = 0 ∧ f.f3 = 0) && (f.f4.length == 0) else false
/-- What is asked of the condition, the fields ahead being known. -/
def ifOk (form : List Field) (i : Nat) (n : ByteArray) : Bool := (n.toList == []) || (decide (0 ≤ fidx form n ∧ fidx form n < (i : Int)) && ((form.getD (fidx form n).toNat zF).f1 == 4))
def fieldB (form : List Field) (i : Nat) : Bool :=
  nameB (form.getD i zF).f0 && decide (fidx form (form.getD i zF).f0 = (i : Int)) && decide (1 ≤ (form.getD i zF).f1 ∧ (form.getD i zF).f1 ≤ 4) && ifOk form i (form.getD i zF).f6 && kindOk (form.getD i zF)
theorem specField_ev (form : List Field) (i : Nat) (hi : i < form.length) (hl : form.length ≤ 9223372036854775807) (hf : fine (form.getD i zF)) : Ev (fun k => spec_l23Field.f k form i) (fieldB form i) := by
  unfold spec_l23Field.f
  refine ev_pos (by omega) (ev_pos (by omega) ?_)
  simp only [rd_T69, Int.toNat_natCast, l1In_eq]
  generalize hF : form.getD i z69 = F at *
  have hFB : fieldB form i = (nameB F.f0 && decide (fidx form F.f0 = (i : Int)) && decide (1 ≤ F.f1 ∧ F.f1 ≤ 4) && ifOk form i F.f6 && kindOk F) := by unfold fieldB; rw [show form.getD i zF = F from hF]
  rw [hFB]
  obtain ⟨g0, g4, g4s, g6⟩ := id hf
  have stop : ∀ b, b = false → Ev (fun k => spec_l23Field.j0 k form i true F.f0 F.f1 F.f2 F.f3 F.f4 F.f5 F.f6) b := fun b hb => hb ▸ Ev.step (fun k => rfl) (ev_now rfl)
  refine Ev.bind (l7Name_ev F.f0 g0) (ev_ite (fun h1 => ?_) (fun h1 => stop _ (by simp [h1])))
  refine Ev.bind (l23Find_ev form F.f0 hl) (ev_ite (fun h2 => ?_) (fun h2 => stop _ (by simp [h2])))
  by_cases h3 : 1 ≤ F.f1 ∧ F.f1 ≤ 4
  case neg =>
    show Ev (fun k => spec_l23Field.j0 k form i (!decide (1 ≤ F.f1 ∧ F.f1 ≤ 4)) F.f0 F.f1 F.f2 F.f3 F.f4 F.f5 F.f6) _
    rw [decide_eq_false h3]
    exact stop _ (by simp)
  show Ev (fun k => spec_l23Field.j0 k form i (!decide (1 ≤ F.f1 ∧ F.f1 ≤ 4)) F.f0 F.f1 F.f2 F.f3 F.f4 F.f5 F.f6) _
  rw [decide_eq_true h3]
  have tail : Ev (fun k => spec_l23Field.j1 k F.f0 F.f1 F.f2 F.f3 F.f4 F.f5 F.f6) (kindOk F) := by
    refine Ev.step (fun k => rfl) ?_
    unfold kindOk
    simp only [spec_l23Field.j1, l1In_eq]
    have e0 : ((F.f4.length : Int) == 0) = (F.f4.length == 0) := by
      rw [Bool.eq_iff_iff, beq_iff_eq, beq_iff_eq]; omega
    refine ev_ite (fun k1 => ?_) (fun k1 => ev_ite (fun k2 => ?_) (fun k2 => ev_ite (fun k3 => ?_) (fun k3 => ?_)))
    · rw [if_pos k1]
      refine ev_ite (fun h => ev_ite (fun h' => ev_now ?_) (fun h' => ev_now ?_)) (fun h => ev_now ?_)
      · rw [decide_eq_true_eq] at h; rw [decide_eq_true (show -999999 ≤ F.f2 ∧ F.f2 ≤ F.f3 ∧ F.f3 ≤ 999999 by omega), Bool.true_and, e0]
      · rw [decide_eq_false (show ¬ (-999999 ≤ F.f2 ∧ F.f2 ≤ F.f3 ∧ F.f3 ≤ 999999) by omega), Bool.false_and]
      · rw [decide_eq_true_eq] at h; rw [decide_eq_false (show ¬ (-999999 ≤ F.f2 ∧ F.f2 ≤ F.f3 ∧ F.f3 ≤ 999999) by omega), Bool.false_and]
    · rw [if_neg k1, if_pos k2]
      refine ev_ite (fun h => ev_ite (fun h' => ev_now ?_) (fun h' => ev_now ?_)) (fun h => ev_now ?_)
      · rw [decide_eq_true_eq] at h; rw [decide_eq_true (show 0 ≤ F.f2 ∧ F.f2 ≤ F.f3 ∧ F.f3 ≤ 40 by omega), Bool.true_and, e0]
      · rw [decide_eq_false (show ¬ (0 ≤ F.f2 ∧ F.f2 ≤ F.f3 ∧ F.f3 ≤ 40) by omega), Bool.false_and]
      · rw [decide_eq_true_eq] at h; rw [decide_eq_false (show ¬ (0 ≤ F.f2 ∧ F.f2 ≤ F.f3 ∧ F.f3 ≤ 40) by omega), Bool.false_and]
    · rw [if_neg k1, if_neg k2, if_pos k3]
      refine ev_ite (fun h => ev_ite (fun h' => ev_ite (fun h'' => ?_) (fun h'' => ev_now ?_)) (fun h' => ev_now ?_)) (fun h => ev_now ?_)
      · rw [decide_eq_true (show F.f2 = 0 ∧ F.f3 = 0 from ⟨h, h'⟩), h'', Bool.true_and, Bool.true_and]
        exact Ev.bind (l23Names_ev F.f4 g4 g4s) (ev_now rfl)
      · rw [decide_eq_true (show F.f2 = 0 ∧ F.f3 = 0 from ⟨h, h'⟩), Bool.eq_false_iff.2 h'']; rfl
      · rw [decide_eq_false (show ¬ (F.f2 = 0 ∧ F.f3 = 0) by omega)]; rfl
      · rw [decide_eq_false (show ¬ (F.f2 = 0 ∧ F.f3 = 0) by omega)]; rfl
    · rw [if_neg k1, if_neg k2, if_neg k3, if_pos (show F.f1 = 4 by omega)]
      refine ev_ite (fun h => ev_ite (fun h' => ev_now ?_) (fun h' => ev_now ?_)) (fun h => ev_now ?_)
      · rw [decide_eq_true (show F.f2 = 0 ∧ F.f3 = 0 from ⟨h, h'⟩), Bool.true_and, e0]
      · rw [decide_eq_false (show ¬ (F.f2 = 0 ∧ F.f3 = 0) by omega)]; rfl
      · rw [decide_eq_false (show ¬ (F.f2 = 0 ∧ F.f3 = 0) by omega)]; rfl
  rw [h1, decide_eq_true h2, Bool.true_and, Bool.true_and, Bool.true_and]
  refine Ev.step (fun k => rfl) ?_
  show Ev (fun k => if F.f6.toList = ([] : List UInt8) then _ else _) _
  unfold ifOk
  refine ev_ite (fun h4 => ev_cast tail (by simp [h4])) (fun h4 => ?_)
  have h4' : (F.f6.toList == []) = false := by simpa using h4
  rw [h4', Bool.false_or]
  refine Ev.bind (l23Find_ev form F.f6 hl) (ev_ite (fun h5 => ev_now ?_) (fun h5 => ev_ite (fun h6 => ev_now ?_) (fun h6 => ?_)))
  · rw [decide_eq_false (by omega), Bool.false_and, Bool.false_and]
  · rw [decide_eq_false (by omega), Bool.false_and, Bool.false_and]
  · refine ev_pos (by omega) (ev_pos (by omega) ?_)
    simp only [rd_T69]
    rw [decide_eq_true (show 0 ≤ fidx form F.f6 ∧ fidx form F.f6 < (i : Int) by omega), Bool.true_and]
    refine ev_ite (fun h7 => ev_cast tail ?_) (fun h7 => ev_now ?_)
    · show kindOk F = (((form.getD (fidx form F.f6).toNat z69).f1 == 4) && kindOk F)
      rw [h7]; rfl
    · show false = (((form.getD (fidx form F.f6).toNat z69).f1 == 4) && kindOk F)
      rw [show ((form.getD (fidx form F.f6).toNat z69).f1 == 4) = false from by simpa using h7]; rfl
def formB (form : List Field) : Bool := decide ((form.length : Int) ≤ 10) && (List.range form.length).all (fieldB form)
theorem specForm_ev (form : List Field) (hl : form.length ≤ 9223372036854775807) (hf : ∀ f ∈ form, fine f) : Ev (fun k => spec_l23Good.f k form) (formB form) := by
  unfold spec_l23Good.f
  refine ev_ite (fun h => ev_now ?_) (fun h => ?_)
  · unfold formB; rw [decide_eq_false (by omega), Bool.false_and]
  unfold formB
  rw [decide_eq_true (by omega), Bool.true_and]
  have h := ev_all0 (L := fun k i => spec_l23Good.l0 k form i) form.length (fieldB form) false true (fun _ => Ev.step (fun k => rfl) (ev_neg (by omega) (ev_now rfl))) ?h1 ?h2
  case h1 =>
    intro i hi _ hc y hy
    refine Ev.step (fun k => rfl) (ev_pos (by omega) (Ev.bind (specField_ev form i hi hl (hf _ (by rw [getD_in hi]; exact List.getElem_mem hi))) (ev_pos hc ?_)))
    rw [wrap_succ hi hl]; exact hy
  case h2 =>
    intro i hi _ hc
    exact Ev.step (fun k => rfl) (ev_pos (by omega) (Ev.bind (specField_ev form i hi hl (hf _ (by rw [getD_in hi]; exact List.getElem_mem hi))) (ev_neg (by rw [hc]; simp) (ev_now rfl))))
  refine ev_cast h ?_
  cases (List.range form.length).all (fieldB form) <;> rfl
end Go.Proofs.YtdogpphfofimeaaDoor.X
set_option linter.unusedVariables false
set_option linter.unusedSimpArgs false
namespace Go.Proofs.YtdogpphfofimeaaDoor.X
open Go.RowKit Go.Proofs.YtdogpphfofimeaaDoorW.PrintWords Go.Proofs.YtdogpphfofimeaaDoor.E
theorem choiceLoop_ev (F : Field) (hF : fine F) :
    Ev (fun k => impl_isField.l0 k F.f4 (F.f4.length : Int) 0 F.f0 F.f1 F.f2 F.f3 F.f4 F.f5 F.f6) (decide (F.f2 = 0 ∧ F.f3 = 0) && decide (1 ≤ (F.f4.length : Int) ∧ (F.f4.length : Int) ≤ 6) && choices F.f4) := by
  obtain ⟨g0, g4, g4s, g6⟩ := hF
  have h := ev_all0 (L := fun k i => impl_isField.l0 k F.f4 (F.f4.length : Int) i F.f0 F.f1 F.f2 F.f3 F.f4 F.f5 F.f6) F.f4.length (choiceAt F.f4) false
    (decide (F.f2 = 0 ∧ F.f3 = 0) && decide (1 ≤ (F.f4.length : Int) ∧ (F.f4.length : Int) ≤ 6)) (fun _ => Ev.step (fun k => rfl) (ev_neg (by omega) ?h0)) ?h1 ?h2
  case h0 =>
    simp only [within_eq]
    refine ev_ite (fun h => ev_ite (fun h' => ev_now ?_) (fun h' => ev_now ?_)) (fun h => ev_now ?_)
    · rw [h, Bool.and_true]
      rw [Bool.eq_iff_iff, beq_iff_eq, decide_eq_true_eq]
      exact ⟨fun e => ⟨h', e⟩, fun e => e.2⟩
    · rw [decide_eq_false (show ¬ (F.f2 = 0 ∧ F.f3 = 0) by omega), Bool.false_and]
    · rw [Bool.eq_false_iff.2 h, Bool.and_false]
  case h1 =>
    intro i hi _ hc y hy
    simp only [choiceAt, Bool.and_eq_true] at hc
    refine Ev.step (fun k => rfl) (ev_pos (by omega) (ev_pos (by omega) (ev_pos (by omega) ?_)))
    simp only [rdOf, Int.toNat_natCast]
    refine Ev.bind (isName_ev _ (by rw [getD_in hi]; exact g4s _ (List.getElem_mem hi))) (ev_pos hc.1 (ev_pos (by omega) ?_))
    refine Ev.bind (slicesContainsStr_ev _ _ (by simp; omega)) (ev_neg ?_ ?_)
    · rw [any_take _ _ hi, hc.2]; simp
    · rw [wrap_succ hi g4]; exact hy
  case h2 =>
    intro i hi _ hc
    refine Ev.step (fun k => rfl) (ev_pos (by omega) (ev_pos (by omega) (ev_pos (by omega) ?_)))
    simp only [rdOf, Int.toNat_natCast]
    refine Ev.bind (isName_ev _ (by rw [getD_in hi]; exact g4s _ (List.getElem_mem hi))) (ev_ite (fun h1 => ev_pos (by omega) ?_) (fun _ => ev_now rfl))
    refine Ev.bind (slicesContainsStr_ev _ _ (by simp; omega)) (ev_pos ?_ (ev_now rfl))
    rw [any_take _ _ hi]
    unfold choiceAt at hc
    rw [h1, Bool.true_and] at hc
    rw [hc]; rfl
  refine ev_cast h ?_
  unfold choices
  cases (List.range F.f4.length).all (choiceAt F.f4) <;> simp
theorem kindSwitch_ev (F : Field) (hF : fine F) : Ev (fun k => impl_isField.j1 k false F.f0 F.f1 F.f2 F.f3 F.f4 F.f5 F.f6) (decide (1 ≤ F.f1 ∧ F.f1 ≤ 4) && kindOk F) := by
  have e0 : decide ((F.f4.length : Int) > 0) = !(F.f4.length == 0) := by
    cases h : (F.f4.length == 0)
    · have : ¬ F.f4.length = 0 := by simpa using h
      rw [decide_eq_true (by omega)]; rfl
    · have : F.f4.length = 0 := by simpa using h
      rw [decide_eq_false (by omega)]; rfl
  have bad : Ev (fun k => impl_isField.j2 k true F.f0 F.f1 F.f2 F.f3 F.f4 F.f5 F.f6) false := Ev.step (fun k => rfl) (ev_now rfl)
  refine Ev.step (fun k => rfl) ?_
  show Ev (fun k => if F.f1 = 3 then impl_isField.j2 k false F.f0 F.f1 F.f2 F.f3 F.f4 F.f5 F.f6 else impl_isField.j2 k (decide ((F.f4.length : Int) > 0)) F.f0 F.f1 F.f2 F.f3 F.f4 F.f5 F.f6) _
  have sw : F.f1 = 3 ∨ (F.f4.length == 0) = true → Ev (fun k => impl_isField.j2 k false F.f0 F.f1 F.f2 F.f3 F.f4 F.f5 F.f6) (decide (1 ≤ F.f1 ∧ F.f1 ≤ 4) && kindOk F) := by
    intro hz
    refine Ev.step (fun k => rfl) ?_
    show Ev (fun k => if F.f1 = 1 then _ else _) _
    unfold kindOk
    refine ev_ite (fun k1 => ?_) (fun k1 => ev_ite (fun k2 => ?_) (fun k2 => ev_ite (fun k3 => ?_) (fun k3 => ev_ite (fun k4 => ?_) (fun k4 => ev_now ?_))))
    · rw [if_pos k1, decide_eq_true (show 1 ≤ F.f1 ∧ F.f1 ≤ 4 by omega), Bool.true_and, show (F.f4.length == 0) = true from hz.resolve_left (by omega), Bool.and_true]
      refine ev_ite (fun h => ev_ite (fun h' => ev_now ?_) (fun h' => ev_now ?_)) (fun h => ev_now ?_)
      · rw [Bool.eq_iff_iff, decide_eq_true_eq, decide_eq_true_eq]; omega
      · rw [decide_eq_false (by omega)]
      · rw [decide_eq_false (by omega)]
    · rw [if_neg k1, if_pos k2, decide_eq_true (show 1 ≤ F.f1 ∧ F.f1 ≤ 4 by omega), Bool.true_and, show (F.f4.length == 0) = true from hz.resolve_left (by omega), Bool.and_true]
      refine ev_ite (fun h => ev_ite (fun h' => ev_now ?_) (fun h' => ev_now ?_)) (fun h => ev_now ?_)
      · rw [Bool.eq_iff_iff, decide_eq_true_eq, decide_eq_true_eq]; omega
      · rw [decide_eq_false (by omega)]
      · rw [decide_eq_false (by omega)]
    · rw [if_neg k1, if_neg k2, if_pos k3, decide_eq_true (show 1 ≤ F.f1 ∧ F.f1 ≤ 4 by omega), Bool.true_and]
      exact choiceLoop_ev F hF
    · rw [if_neg k1, if_neg k2, if_neg k3, if_pos k4, decide_eq_true (show 1 ≤ F.f1 ∧ F.f1 ≤ 4 by omega), Bool.true_and, show (F.f4.length == 0) = true from hz.resolve_left (by omega), Bool.and_true]
      refine ev_ite (fun h => ev_now ?_) (fun h => ev_now ?_)
      · rw [Bool.eq_iff_iff, beq_iff_eq, decide_eq_true_eq]; exact ⟨fun e => ⟨h, e⟩, fun e => e.2⟩
      · rw [decide_eq_false (by omega)]
    · rw [decide_eq_false (show ¬ (1 ≤ F.f1 ∧ F.f1 ≤ 4) by omega), Bool.false_and]
  refine ev_ite (fun h3 => sw (.inl h3)) (fun h3 => ?_)
  rw [e0]
  cases hz : (F.f4.length == 0) with
  | true => exact sw (.inr hz)
  | false =>
    refine ev_cast bad ?_
    unfold kindOk
    rw [hz, if_neg h3]
    simp
theorem implField_ev (form : List Field) (i : Nat) (hi : i < form.length) (hl : form.length ≤ 9223372036854775807) (hf : fine (form.getD i zF)) :
    Ev (fun k => impl_isField.f k (form.take i) (form.getD i zF).f0 (form.getD i zF).f1 (form.getD i zF).f2 (form.getD i zF).f3 (form.getD i zF).f4 (form.getD i zF).f5 (form.getD i zF).f6) (fieldB form i) := by
  have hself : form[i]? = some (form.getD i zF) := by rw [getD_in hi, List.getElem?_eq_getElem hi]
  have hfirst := idxG_first (p := fun x : Field => x.f0.toList == (form.getD i zF).f0.toList) hself (by simp)
  have hFB : fieldB form i = (nameB (form.getD i zF).f0 && decide (fidx form (form.getD i zF).f0 = (i : Int)) && decide (1 ≤ (form.getD i zF).f1 ∧ (form.getD i zF).f1 ≤ 4) && ifOk form i (form.getD i zF).f6 && kindOk (form.getD i zF)) := rfl
  rw [hFB]
  clear hFB hself
  generalize form.getD i zF = F at *
  obtain ⟨g0, g4, g4s, g6⟩ := id hf
  have stop : ∀ b, b = false → Ev (fun k => impl_isField.j0 k (form.take i) true F.f0 F.f1 F.f2 F.f3 F.f4 F.f5 F.f6) b := fun b hb => hb ▸ Ev.step (fun k => rfl) (ev_now rfl)
  unfold impl_isField.f
  simp only [fieldOf_eq]
  refine Ev.bind (isName_ev F.f0 g0) (ev_ite (fun h1 => ?_) (fun h1 => stop _ (by simp [h1])))
  show Ev (fun k => impl_isField.j0 k (form.take i) (decide (fidx (form.take i) F.f0 ≥ 0)) F.f0 F.f1 F.f2 F.f3 F.f4 F.f5 F.f6) _
  by_cases h2 : fidx form F.f0 = (i : Int)
  case neg =>
    have h2' : ¬ fidx (form.take i) F.f0 < 0 := fun h => h2 (hfirst.2 h)
    rw [decide_eq_true (show fidx (form.take i) F.f0 ≥ 0 by omega)]
    exact stop _ (by simp [h2])
  have h2' := hfirst.1 h2
  rw [decide_eq_false (show ¬ fidx (form.take i) F.f0 ≥ 0 from by have : fidx (form.take i) F.f0 < 0 := h2'; omega)]
  rw [h1, decide_eq_true h2, Bool.true_and, Bool.true_and]
  have bad : ∀ b, b = false → Ev (fun k => impl_isField.j1 k true F.f0 F.f1 F.f2 F.f3 F.f4 F.f5 F.f6) b := fun b hb => hb ▸ Ev.step (fun k => rfl) (ev_now rfl)
  have good := kindSwitch_ev F hf
  refine Ev.step (fun k => rfl) ?_
  simp only [impl_isField.j0]
  refine ev_neg (by simp) (ev_bind0 (fieldOf_eq _ _) ?_)
  unfold ifOk
  refine ev_ite (fun h4 => ev_cast good (by simp [h4])) (fun h4 => ?_)
  have h4' : (F.f6.toList == []) = false := by simpa using h4
  rw [h4', Bool.false_or]
  have hif : fidx (form.take i) F.f6 = if ((0 : Nat) : Int) ≤ fidx form F.f6 ∧ fidx form F.f6 < ((0 + i : Nat) : Int) then fidx form F.f6 else -1 := idxG_take _ form 0 i
  refine ev_ite (fun h5 => bad _ ?_) (fun h5 => ?_)
  · have : ¬ (0 ≤ fidx form F.f6 ∧ fidx form F.f6 < (i : Int)) := by
      intro h
      rw [hif, if_pos (by omega)] at h5
      omega
    rw [decide_eq_false this]; simp
  · have hr : 0 ≤ fidx form F.f6 ∧ fidx form F.f6 < (i : Int) := by
      refine Classical.byContradiction (fun h => ?_)
      rw [hif, if_neg (by omega)] at h5
      omega
    have he : fidx (form.take i) F.f6 = fidx form F.f6 := by rw [hif, if_pos (by omega)]
    rw [decide_eq_true hr, Bool.true_and]
    have hlen : (form.take i).length = i := by simp; omega
    refine ev_pos (by omega) (ev_pos (by rw [he, hlen]; omega) ?_)
    have hrd : rd_T69 (form.take i) (fidx (form.take i) F.f6) = form.getD (fidx form F.f6).toNat zF := by
      unfold rd_T69
      rw [he, getD_in (by rw [hlen]; omega), List.getElem_take, getD_in (by omega)]
    simp only [hrd]
    by_cases h7 : (form.getD (fidx form F.f6).toNat zF).f1 = 4
    · have e : ((form.getD (fidx form F.f6).toNat zF).f1 != 4) = false := bne_eq_false_iff_eq.mpr h7
      rw [e, h7]
      exact ev_cast good (by simp)
    · have e : ((form.getD (fidx form F.f6).toNat zF).f1 != 4) = true := bne_iff_ne.mpr h7
      rw [e]
      rw [show ((form.getD (fidx form F.f6).toNat zF).f1 == 4) = false from beq_eq_false_iff_ne.mpr h7]
      exact bad _ (by simp)
theorem implForm_ev (form : List Field) (hl : form.length ≤ 9223372036854775807) (hf : ∀ f ∈ form, fine f) : Ev (fun k => impl_IsValidForm.f k form) (formB form) := by
  have h := ev_all0 (L := fun k i => impl_IsValidForm.l0 k form form (form.length : Int) i) form.length (fieldB form) false (decide ((form.length : Int) ≤ 10)) (fun _ => Ev.step (fun k => rfl) (ev_neg (by omega) (ev_now rfl))) ?h1 ?h2
  case h1 =>
    intro i hi _ hc y hy
    refine Ev.step (fun k => rfl) (ev_pos (by omega) (ev_pos (by omega) (ev_pos (by omega) (ev_pos (by omega) ?_))))
    simp only [rd_T69, Int.toNat_natCast]
    refine Ev.bind (implField_ev form i hi hl (hf _ (by rw [getD_in hi]; exact List.getElem_mem hi))) (ev_pos hc ?_)
    rw [wrap_succ hi hl]; exact hy
  case h2 =>
    intro i hi _ hc
    refine Ev.step (fun k => rfl) (ev_pos (by omega) (ev_pos (by omega) (ev_pos (by omega) (ev_pos (by omega) ?_))))
    simp only [rd_T69, Int.toNat_natCast]
    exact Ev.bind (implField_ev form i hi hl (hf _ (by rw [getD_in hi]; exact List.getElem_mem hi))) (ev_neg (by rw [hc]; simp) (ev_now rfl))
  refine ev_cast h ?_
  unfold formB
  cases (List.range form.length).all (fieldB form) <;> simp
end Go.Proofs.YtdogpphfofimeaaDoor.X
set_option linter.unusedVariables false
set_option linter.unusedSimpArgs false
namespace Go.Proofs.YtdogpphfofimeaaDoor.X
open Go.RowKit Go.Proofs.YtdogpphfofimeaaDoorW.PrintWords Go.Proofs.YtdogpphfofimeaaDoor.E
def numB (n : Int) : ByteArray := ⟨(Lib.itoa n).toArray⟩
def decB (u : Nat) : ByteArray := ⟨(Lib.decDigits u).toArray⟩
theorem digit_fin : ∀ i : Fin 10, (⟨#[48, 49, 50, 51, 52, 53, 54, 55, 56, 57]⟩ : ByteArray).extract i.val (i.val + 1) = ⟨#[UInt8.ofNat (48 + i.val)]⟩ := by decide +kernel
theorem digit_at (i : Int) (j : Int) (h0 : 0 ≤ i) (h1 : i < 10) (hj : j = i + 1) : (⟨#[48, 49, 50, 51, 52, 53, 54, 55, 56, 57]⟩ : ByteArray).extract i.toNat j.toNat = ⟨#[UInt8.ofNat (48 + i.toNat)]⟩ := by
  rw [show j.toNat = i.toNat + 1 by omega]
  exact digit_fin ⟨i.toNat, by omega⟩
theorem ba_append (l m : List UInt8) : (⟨l.toArray⟩ : ByteArray) ++ (⟨m.toArray⟩ : ByteArray) = ⟨(l ++ m).toArray⟩ := by
  apply ByteArray.ext
  rw [ByteArray.data_append]
  simp
theorem ba_size (l : List UInt8) : (⟨l.toArray⟩ : ByteArray).size = l.length := rfl
theorem decB_size (u : Nat) (h : u < 18446744073709551616) : (decB u).size ≤ 20 := by
  unfold decB
  rw [ba_size, Lib.decDigits_length]
  exact Lib.nDigits_le20 u h
theorem numB_size (n : Int) (h0 : -9223372036854775808 ≤ n) (h1 : n ≤ 9223372036854775807) : (numB n).size ≤ 21 := by
  unfold numB
  rw [ba_size]
  exact Lib.itoa_length_le n h0 h1
theorem l1Num_nat : ∀ (u : Nat), u ≤ 9223372036854775807 → Ev (fun k => spec_l1Num.f k (u : Int)) (decB u) := by
  intro u
  induction u using Nat.strongRecOn with
  | _ u ih =>
    intro hu
    refine Ev.step (fun k => rfl) (ev_neg (by omega) ?_)
    by_cases h : u < 10
    · have hw : wrap64 ((u : Int) + 1) = (u : Int) + 1 := wrap_id (by omega) (by omega)
      rw [hw]
      refine ev_pos (by omega) (ev_pos (by omega) (ev_pos (by omega) (ev_pos (by omega) (ev_now ?_))))
      rw [digit_at (u : Int) _ (by omega) (by omega) rfl]
      unfold decB
      rw [Lib.decDigits, dif_pos h, Int.toNat_natCast]
    · refine ev_neg (by omega) ?_
      have hd : Int.tdiv (u : Int) 10 = ((u / 10 : Nat) : Int) := by rw [Int.tdiv_eq_ediv_of_nonneg (by omega)]; omega
      have hm : Int.tmod (u : Int) 10 = ((u % 10 : Nat) : Int) := by rw [Int.tmod_eq_emod_of_nonneg (by omega)]; omega
      have hw : wrap64 ((u / 10 : Nat) : Int) = ((u / 10 : Nat) : Int) := wrap_id (by omega) (by omega)
      have hw2 : wrap64 (((u % 10 : Nat) : Int) + 1) = ((u % 10 : Nat) : Int) + 1 := wrap_id (by omega) (by omega)
      rw [hd, hw, hm, hw2]
      refine Ev.bind (ih (u / 10) (by omega) (by omega)) ?_
      rw [digit_at ((u % 10 : Nat) : Int) _ (by omega) (by omega) rfl]
      have hs := decB_size (u / 10) (by omega)
      have h1 : (⟨#[UInt8.ofNat (48 + ((u % 10 : Nat) : Int).toNat)]⟩ : ByteArray).size = 1 := rfl
      refine ev_pos (by omega) (ev_pos (by omega) (ev_pos (by omega) (ev_pos (by omega) (ev_now ?_))))
      unfold decB
      rw [show (⟨#[UInt8.ofNat (48 + ((u % 10 : Nat) : Int).toNat)]⟩ : ByteArray) = ⟨[UInt8.ofNat (48 + u % 10)].toArray⟩ by rw [Int.toNat_natCast], ba_append]
      conv => rhs; rw [Lib.decDigits, dif_neg h]
theorem l1Num_ev (n : Int) (h0 : -9223372036854775807 ≤ n) (h1 : n ≤ 9223372036854775807) : Ev (fun k => spec_l1Num.f k n) (numB n) := by
  by_cases hn : n < 0
  · have hw : wrap64 (-n) = ((n.natAbs : Nat) : Int) := by rw [wrap_id (by omega) (by omega)]; omega
    refine Ev.step (fun k => rfl) (ev_pos hn ?_)
    rw [hw]
    have hs := decB_size n.natAbs (by omega)
    refine Ev.bind (l1Num_nat _ (by omega)) (ev_pos (by omega) (ev_now ?_))
    unfold numB decB
    rw [show (⟨#[45]⟩ : ByteArray) = ⟨[45].toArray⟩ from rfl, ba_append, Lib.itoa, if_pos hn]
    rfl
  · obtain ⟨u, rfl⟩ : ∃ u : Nat, n = u := ⟨n.toNat, by omega⟩
    refine ev_cast (l1Num_nat u (by omega)) ?_
    unfold numB decB
    rw [Lib.itoa, if_neg hn, Int.toNat_natCast]
end Go.Proofs.YtdogpphfofimeaaDoor.X
set_option linter.unusedVariables false
set_option linter.unusedSimpArgs false
namespace Go.Proofs.YtdogpphfofimeaaDoor.X
open Go.RowKit Go.Proofs.YtdogpphfofimeaaDoorW.PrintWords Go.Proofs.YtdogpphfofimeaaDoor.E
/-- Words behind a text, a space ahead of each. -/
def jn (s : ByteArray) (ws : List ByteArray) : ByteArray := ws.foldl (fun s w => (s ++ (⟨#[32]⟩ : ByteArray)) ++ w) s
theorem jn_list : ∀ (ws : List ByteArray) (s : ByteArray), (jn s ws).data.toList = s.data.toList ++ Lib.joinTail [32] (ws.map (·.data.toList))
  | [], s => by simp [jn, Lib.joinTail]
  | w :: ws, s => by
    have h := jn_list ws ((s ++ (⟨#[32]⟩ : ByteArray)) ++ w)
    show (jn ((s ++ (⟨#[32]⟩ : ByteArray)) ++ w) ws).data.toList = _
    rw [h]
    simp [Lib.joinTail, ByteArray.data_append]
theorem jn_app (s : ByteArray) (a b : List ByteArray) : jn (jn s a) b = jn s (a ++ b) := by unfold jn; rw [List.foldl_append]
def wsum (ws : List ByteArray) : Nat := (ws.map (fun w => w.size + 1)).sum
theorem jn_size : ∀ (ws : List ByteArray) (s : ByteArray), (jn s ws).size = s.size + wsum ws
  | [], s => by simp [jn, wsum]
  | w :: ws, s => by
    have h := jn_size ws ((s ++ (⟨#[32]⟩ : ByteArray)) ++ w)
    show (jn ((s ++ (⟨#[32]⟩ : ByteArray)) ++ w) ws).size = _
    have h1 : (⟨#[32]⟩ : ByteArray).size = 1 := rfl
    rw [h, ByteArray.size_append, ByteArray.size_append]
    unfold wsum
    rw [List.map_cons, List.sum_cons]
    omega
theorem join_jn (x : ByteArray) (ws : List ByteArray) : (⟨(Lib.join ((x :: ws).map (·.data.toList)) [32]).toArray⟩ : ByteArray) = jn x ws := by
  apply ByteArray.ext
  apply Array.toList_inj.1
  rw [jn_list, List.map_cons, Lib.join_cons]
theorem join_len (x : ByteArray) (ws : List ByteArray) : (Lib.join ((x :: ws).map (·.data.toList)) [32]).length = x.size + wsum ws := by
  rw [← jn_size, ← join_jn]
  rfl
def kindW (F : Field) : List ByteArray :=
  if F.f1 = 1 then [⟨#[110, 117, 109, 98, 101, 114]⟩, numB F.f2, numB F.f3]
  else if F.f1 = 2 then [⟨#[116, 101, 120, 116]⟩, numB F.f2, numB F.f3]
  else if F.f1 = 3 then ⟨#[99, 104, 111, 105, 99, 101]⟩ :: F.f4 else [⟨#[102, 108, 97, 103]⟩]
def needW (b : Bool) : List ByteArray := if b = true then [⟨#[110, 101, 101, 100, 101, 100]⟩] else []
def ifW (s : ByteArray) : List ByteArray := if s.toList = ([] : List UInt8) then [] else [⟨#[105, 102]⟩, s]
def lineB (F : Field) : ByteArray := jn F.f0 (kindW F ++ (needW F.f5 ++ ifW F.f6))
/-- Sizes that a valid form in the law's bounds has. -/
def Small (F : Field) : Prop := F.f0.size ≤ 1048576 ∧ F.f4.length ≤ 6 ∧ (∀ s ∈ F.f4, s.size ≤ 1048576) ∧ F.f6.size ≤ 1048576
theorem wsum_le {ws : List ByteArray} (h : ∀ s ∈ ws, s.size ≤ 1048576) : wsum ws ≤ 1048577 * ws.length := by
  induction ws with
  | nil => simp [wsum]
  | cons w ws ih =>
    have h1 := h w (List.mem_cons_self ..)
    have h2 := ih (fun s hs => h s (List.mem_cons_of_mem _ hs))
    unfold wsum at *
    rw [List.map_cons, List.sum_cons, List.length_cons]
    omega
theorem need_eq (s : ByteArray) : jn s (needW true) = s ++ (⟨#[32, 110, 101, 101, 100, 101, 100]⟩ : ByteArray) := by
  show (s ++ (⟨#[32]⟩ : ByteArray)) ++ (⟨#[110, 101, 101, 100, 101, 100]⟩ : ByteArray) = _
  rw [ByteArray.append_assoc]; rfl
theorem if_eq (s x : ByteArray) (h : ¬ x.toList = ([] : List UInt8)) : jn s (ifW x) = (s ++ (⟨#[32, 105, 102, 32]⟩ : ByteArray)) ++ x := by
  unfold ifW
  rw [if_neg h]
  show (((s ++ (⟨#[32]⟩ : ByteArray)) ++ (⟨#[105, 102]⟩ : ByteArray)) ++ (⟨#[32]⟩ : ByteArray)) ++ x = _
  rw [show (⟨#[32, 105, 102, 32]⟩ : ByteArray) = ((⟨#[32]⟩ : ByteArray) ++ (⟨#[105, 102]⟩ : ByteArray)) ++ (⟨#[32]⟩ : ByteArray) from rfl]
  simp only [ByteArray.append_assoc]
theorem tail_eq (s : ByteArray) (b : Bool) (x : ByteArray) (hs : s.size ≤ 100000000) (hx : x.size ≤ 1048576) :
    (if b = true then (if s.size + 7 ≤ 9223372036854775807 then (if x.toList = ([] : List UInt8) then (some (s ++ (⟨#[32, 110, 101, 101, 100, 101, 100]⟩ : ByteArray))) else (if (s ++ (⟨#[32, 110, 101, 101, 100, 101, 100]⟩ : ByteArray)).size + 4 ≤ 9223372036854775807 then (if ((s ++ (⟨#[32, 110, 101, 101, 100, 101, 100]⟩ : ByteArray)) ++ (⟨#[32, 105, 102, 32]⟩ : ByteArray)).size + x.size ≤ 9223372036854775807 then (some (((s ++ (⟨#[32, 110, 101, 101, 100, 101, 100]⟩ : ByteArray)) ++ (⟨#[32, 105, 102, 32]⟩ : ByteArray)) ++ x)) else (none)) else (none))) else (none)) else (if x.toList = ([] : List UInt8) then (some s) else (if s.size + 4 ≤ 9223372036854775807 then (if (s ++ (⟨#[32, 105, 102, 32]⟩ : ByteArray)).size + x.size ≤ 9223372036854775807 then (some ((s ++ (⟨#[32, 105, 102, 32]⟩ : ByteArray)) ++ x)) else (none)) else (none)))) = some (jn s (needW b ++ ifW x)) := by
  have h7 : (s ++ (⟨#[32, 110, 101, 101, 100, 101, 100]⟩ : ByteArray)).size = s.size + 7 := by rw [ByteArray.size_append]; rfl
  have h4 : ∀ t : ByteArray, (t ++ (⟨#[32, 105, 102, 32]⟩ : ByteArray)).size = t.size + 4 := fun t => by rw [ByteArray.size_append]; rfl
  rw [← jn_app]
  cases b
  · rw [if_neg (by simp), show jn s (needW false) = s from rfl]
    by_cases c : x.toList = ([] : List UInt8)
    · rw [if_pos c]; unfold ifW; rw [if_pos c]; rfl
    · rw [if_neg c, if_pos (by omega), if_pos (by rw [h4]; omega), if_eq _ _ c]
  · rw [if_pos rfl, if_pos (by omega), need_eq]
    by_cases c : x.toList = ([] : List UInt8)
    · rw [if_pos c]; unfold ifW; rw [if_pos c]; rfl
    · rw [if_neg c, if_pos (by omega), if_pos (by rw [h4]; omega), if_eq _ _ c]
theorem numB_small (n : Int) (h0 : -999999 ≤ n) (h1 : n ≤ 999999) : (numB n).size ≤ 21 := numB_size n (by omega) (by omega)
theorem two_words (s : ByteArray) (w : ByteArray) (l : ByteArray) (hw : (⟨#[32]⟩ : ByteArray) ++ (w ++ (⟨#[32]⟩ : ByteArray)) = l) (t u : ByteArray) : (((s ++ l) ++ t) ++ (⟨#[32]⟩ : ByteArray)) ++ u = jn s [w, t, u] := by
  subst hw
  show _ = (((((s ++ (⟨#[32]⟩ : ByteArray)) ++ w) ++ (⟨#[32]⟩ : ByteArray)) ++ t) ++ (⟨#[32]⟩ : ByteArray)) ++ u
  simp only [ByteArray.append_assoc]
theorem specLine_ev (F : Field) (hk : kindOk F = true) (hs : Small F) : Ev (fun k => spec_l23Line.f k F.f0 F.f1 F.f2 F.f3 F.f4 F.f5 F.f6) (lineB F) := by
  obtain ⟨s0, s4, s5, s6⟩ := hs
  have z1 : ∀ t : ByteArray, (t ++ (⟨#[32]⟩ : ByteArray)).size = t.size + 1 := fun t => by rw [ByteArray.size_append]; rfl
  unfold spec_l23Line.f lineB kindW
  unfold kindOk at hk
  by_cases c1 : F.f1 = 1
  · rw [if_pos c1] at hk ⊢
    simp only [Bool.and_eq_true, decide_eq_true_eq] at hk
    have n2 := numB_small F.f2 (by omega) (by omega)
    have n3 := numB_small F.f3 (by omega) (by omega)
    have z8 : (F.f0 ++ (⟨#[32, 110, 117, 109, 98, 101, 114, 32]⟩ : ByteArray)).size = F.f0.size + 8 := by rw [ByteArray.size_append]; rfl
    have e := two_words F.f0 (⟨#[110, 117, 109, 98, 101, 114]⟩ : ByteArray) (⟨#[32, 110, 117, 109, 98, 101, 114, 32]⟩ : ByteArray) rfl (numB F.f2) (numB F.f3)
    refine ev_pos c1 (ev_pos (by omega) (Ev.bind (l1Num_ev F.f2 (by omega) (by omega)) (ev_pos (by omega) (ev_pos (by rw [ByteArray.size_append]; omega) (Ev.bind (l1Num_ev F.f3 (by omega) (by omega)) (ev_pos (by rw [z1, ByteArray.size_append]; omega) ?_))))))
    rw [← jn_app, ← e]
    exact ev_of (tail_eq _ F.f5 F.f6 (by rw [ByteArray.size_append, z1, ByteArray.size_append]; omega) s6)
  rw [if_neg c1] at hk ⊢
  refine ev_neg c1 ?_
  by_cases c2 : F.f1 = 2
  · rw [if_pos c2] at hk ⊢
    simp only [Bool.and_eq_true, decide_eq_true_eq] at hk
    have n2 := numB_small F.f2 (by omega) (by omega)
    have n3 := numB_small F.f3 (by omega) (by omega)
    have z6 : (F.f0 ++ (⟨#[32, 116, 101, 120, 116, 32]⟩ : ByteArray)).size = F.f0.size + 6 := by rw [ByteArray.size_append]; rfl
    have e := two_words F.f0 (⟨#[116, 101, 120, 116]⟩ : ByteArray) (⟨#[32, 116, 101, 120, 116, 32]⟩ : ByteArray) rfl (numB F.f2) (numB F.f3)
    refine ev_pos c2 (ev_pos (by omega) (Ev.bind (l1Num_ev F.f2 (by omega) (by omega)) (ev_pos (by omega) (ev_pos (by rw [ByteArray.size_append]; omega) (Ev.bind (l1Num_ev F.f3 (by omega) (by omega)) (ev_pos (by rw [z1, ByteArray.size_append]; omega) ?_))))))
    rw [← jn_app, ← e]
    exact ev_of (tail_eq _ F.f5 F.f6 (by rw [ByteArray.size_append, z1, ByteArray.size_append]; omega) s6)
  rw [if_neg c2] at hk ⊢
  refine ev_neg c2 ?_
  by_cases c3 : F.f1 = 3
  · rw [if_pos c3]
    refine ev_pos c3 (ev_pos (by omega) ?_)
    have z7 : (F.f0 ++ (⟨#[32, 99, 104, 111, 105, 99, 101]⟩ : ByteArray)).size = F.f0.size + 7 := by rw [ByteArray.size_append]; rfl
    have e : F.f0 ++ (⟨#[32, 99, 104, 111, 105, 99, 101]⟩ : ByteArray) = jn F.f0 [⟨#[99, 104, 111, 105, 99, 101]⟩] := by
      show _ = (F.f0 ++ (⟨#[32]⟩ : ByteArray)) ++ (⟨#[99, 104, 111, 105, 99, 101]⟩ : ByteArray)
      rw [ByteArray.append_assoc]; rfl
    have hL := ev_scan0 (L := fun k (s : ByteArray) i => spec_l23Line.l0 k s i F.f0 F.f1 F.f2 F.f3 F.f4 F.f5 F.f6) (G := fun s i (r : List ByteArray) => jn (jn s r) (needW F.f5 ++ ifW F.f6)) (fun s i r => s.size ≤ 2000000 + 1048577 * i) F.f4 (F.f0 ++ (⟨#[32, 99, 104, 111, 105, 99, 101]⟩ : ByteArray)) (by rw [z7]; omega) ?h1 ?h2
    case h1 =>
      intro s hI
      refine Ev.step (fun k => rfl) (ev_neg (by omega) (ev_of (tail_eq s F.f5 F.f6 (by omega) s6)))
    case h2 =>
      intro s i x r hI hi hd hx hgo
      have hxs : x.size ≤ 1048576 := by rw [← hx ByteArray.empty, getD_in hi]; exact s5 _ (List.getElem_mem _)
      have hr : rdOf ByteArray.empty F.f4 (i : Int) = x := by unfold rdOf; rw [Int.toNat_natCast]; exact hx _
      refine Ev.step (fun k => rfl) (ev_pos (by omega) (ev_pos (by omega) (ev_pos (by omega) (ev_pos (by rw [hr, z1]; omega) ?_))))
      rw [hr, wrap_succ hi (by omega)]
      exact hgo _ (by rw [ByteArray.size_append, z1]; omega)
    refine ev_cast hL ?_
    rw [e, jn_app, jn_app]
    rfl
  rw [if_neg c3]
  refine ev_neg c3 (ev_pos (by omega) ?_)
  have z5 : (F.f0 ++ (⟨#[32, 102, 108, 97, 103]⟩ : ByteArray)).size = F.f0.size + 5 := by rw [ByteArray.size_append]; rfl
  have e : F.f0 ++ (⟨#[32, 102, 108, 97, 103]⟩ : ByteArray) = jn F.f0 [⟨#[102, 108, 97, 103]⟩] := by
    show _ = (F.f0 ++ (⟨#[32]⟩ : ByteArray)) ++ (⟨#[102, 108, 97, 103]⟩ : ByteArray)
    rw [ByteArray.append_assoc]; rfl
  rw [← jn_app, ← e]
  exact ev_of (tail_eq _ F.f5 F.f6 (by rw [z5]; omega) s6)
end Go.Proofs.YtdogpphfofimeaaDoor.X
set_option linter.unusedVariables false
set_option linter.unusedSimpArgs false
namespace Go.Proofs.YtdogpphfofimeaaDoor.X
open Go.RowKit Go.Proofs.YtdogpphfofimeaaDoorW.PrintWords Go.Proofs.YtdogpphfofimeaaDoor.E
theorem wsum_app (a b : List ByteArray) : wsum (a ++ b) = wsum a + wsum b := by simp [wsum]
theorem join_f (x : ByteArray) (ws : List ByteArray) (h : x.size + wsum ws ≤ 100000000000) (h2 : ws.length ≤ 1000) : strings_Join.f (x :: ws) (⟨#[32]⟩ : ByteArray) = some (jn x ws) := by
  have e : (⟨#[32]⟩ : ByteArray).data.toList = [32] := rfl
  unfold strings_Join.f
  rw [e, if_pos ⟨by rw [join_len]; omega, by rw [List.length_cons]; omega⟩, join_jn]
theorem implJ_ev (F : Field) (us : List ByteArray) (hu : us.length ≤ 10) (hz : F.f0.size + wsum us ≤ 100000000) (h6 : F.f6.size ≤ 1048576) :
    Ev (fun k => impl_fieldLine.j0 k (F.f0 :: us) F.f0 F.f1 F.f2 F.f3 F.f4 F.f5 F.f6) (jn F.f0 (us ++ (needW F.f5 ++ ifW F.f6))) := by
  have fin : ∀ vs : List ByteArray, vs.length ≤ 3 → (∀ s ∈ vs, s.size ≤ 1048576) → strings_Join.f (F.f0 :: (us ++ vs)) (⟨#[32]⟩ : ByteArray) = some (jn F.f0 (us ++ vs)) := by
    intro vs h1 h2
    have := wsum_le h2
    refine join_f _ _ ?_ (by rw [List.length_append]; omega)
    rw [wsum_app]
    have : 1048577 * vs.length ≤ 1048577 * 3 := Nat.mul_le_mul_left _ h1
    omega
  have hn : (⟨#[110, 101, 101, 100, 101, 100]⟩ : ByteArray).size ≤ 1048576 := by decide
  have hi : (⟨#[105, 102]⟩ : ByteArray).size ≤ 1048576 := by decide
  refine Ev.step (fun k => rfl) ?_
  by_cases c5 : F.f5 = true
  · rw [show needW F.f5 = [⟨#[110, 101, 101, 100, 101, 100]⟩] from by unfold needW; exact if_pos c5]
    refine ev_pos c5 (ev_pos (by rw [List.length_cons]; omega) (ev_some ?_))
    by_cases c6 : F.f6.toList = ([] : List UInt8)
    · rw [show ifW F.f6 = [] from by unfold ifW; exact if_pos c6]
      have h := fin [⟨#[110, 101, 101, 100, 101, 100]⟩] (by simp) (List.forall_mem_cons.2 ⟨hn, fun _ h => nomatch h⟩)
      rw [← List.cons_append] at h
      exact ev_pos c6 (ev_bind0 h (ev_now rfl))
    · rw [show ifW F.f6 = [⟨#[105, 102]⟩, F.f6] from by unfold ifW; exact if_neg c6]
      have h := fin [⟨#[110, 101, 101, 100, 101, 100]⟩, ⟨#[105, 102]⟩, F.f6] (by simp) (List.forall_mem_cons.2 ⟨hn, List.forall_mem_cons.2 ⟨hi, List.forall_mem_cons.2 ⟨h6, fun _ h => nomatch h⟩⟩⟩)
      have e : F.f0 :: (us ++ [⟨#[110, 101, 101, 100, 101, 100]⟩, ⟨#[105, 102]⟩, F.f6]) = (F.f0 :: us ++ [⟨#[110, 101, 101, 100, 101, 100]⟩]) ++ [⟨#[105, 102]⟩, F.f6] := by simp
      rw [e] at h
      exact ev_neg c6 (ev_some (ev_pos (by simp only [List.length_cons, List.length_append, List.length_nil]; omega) (ev_bind0 h (ev_now rfl))))
  · rw [show needW F.f5 = [] from by unfold needW; exact if_neg c5]
    refine ev_neg c5 ?_
    by_cases c6 : F.f6.toList = ([] : List UInt8)
    · rw [show ifW F.f6 = [] from by unfold ifW; exact if_pos c6]
      have h := fin [] (by simp) (fun _ h => nomatch h)
      rw [List.append_nil] at h
      exact ev_pos c6 (ev_bind0 h (ev_now (by simp)))
    · rw [show ifW F.f6 = [⟨#[105, 102]⟩, F.f6] from by unfold ifW; exact if_neg c6]
      have h := fin [⟨#[105, 102]⟩, F.f6] (by simp) (List.forall_mem_cons.2 ⟨hi, List.forall_mem_cons.2 ⟨h6, fun _ h => nomatch h⟩⟩)
      rw [← List.cons_append] at h
      exact ev_neg c6 (ev_some (ev_pos (by simp only [List.length_cons, List.length_nil]; omega) (ev_bind0 h (ev_now rfl))))
theorem itoaF (n : Int) (h0 : -999999 ≤ n) (h1 : n ≤ 999999) : strconv_Itoa.f n = some (numB n) := by unfold strconv_Itoa.f; rw [if_pos ⟨by omega, by omega⟩]; rfl
theorem kindW_len (F : Field) (h : F.f4.length ≤ 6) : (kindW F).length ≤ 7 := by
  unfold kindW
  split
  · simp
  · split
    · simp
    · split
      · simp only [List.length_cons]; omega
      · simp
theorem kindW_size (F : Field) (hk : kindOk F = true) (hs : Small F) : ∀ s ∈ kindW F, s.size ≤ 1048576 := by
  obtain ⟨s0, s4, s5, s6⟩ := hs
  unfold kindOk at hk
  unfold kindW
  by_cases c1 : F.f1 = 1
  · rw [if_pos c1] at hk ⊢
    simp only [Bool.and_eq_true, decide_eq_true_eq] at hk
    have n2 := numB_small F.f2 (by omega) (by omega)
    have n3 := numB_small F.f3 (by omega) (by omega)
    exact List.forall_mem_cons.2 ⟨by decide, List.forall_mem_cons.2 ⟨by omega, List.forall_mem_cons.2 ⟨by omega, fun _ h => nomatch h⟩⟩⟩
  rw [if_neg c1] at hk ⊢
  by_cases c2 : F.f1 = 2
  · rw [if_pos c2] at hk ⊢
    simp only [Bool.and_eq_true, decide_eq_true_eq] at hk
    have n2 := numB_small F.f2 (by omega) (by omega)
    have n3 := numB_small F.f3 (by omega) (by omega)
    exact List.forall_mem_cons.2 ⟨by decide, List.forall_mem_cons.2 ⟨by omega, List.forall_mem_cons.2 ⟨by omega, fun _ h => nomatch h⟩⟩⟩
  rw [if_neg c2]
  by_cases c3 : F.f1 = 3
  · rw [if_pos c3]
    exact List.forall_mem_cons.2 ⟨by decide, s5⟩
  rw [if_neg c3]
  exact List.forall_mem_cons.2 ⟨by decide, fun _ h => nomatch h⟩
theorem implLine_ev (F : Field) (hk : kindOk F = true) (hs : Small F) : Ev (fun k => impl_fieldLine.f k F.f0 F.f1 F.f2 F.f3 F.f4 F.f5 F.f6) (lineB F) := by
  have hw := wsum_le (kindW_size F hk hs)
  have hwl := kindW_len F hs.2.1
  have hw2 : wsum (kindW F) ≤ 1048577 * 7 := Nat.le_trans hw (Nat.mul_le_mul_left _ hwl)
  have hJ := implJ_ev F (kindW F) (by omega) (by have := hs.1; omega) hs.2.2.2
  obtain ⟨s0, s4, s5, s6⟩ := hs
  unfold impl_fieldLine.f lineB
  refine ev_some ?_
  unfold kindOk at hk
  by_cases c1 : F.f1 = 1
  · have e : kindW F = [⟨#[110, 117, 109, 98, 101, 114]⟩, numB F.f2, numB F.f3] := by unfold kindW; rw [if_pos c1]
    rw [if_pos c1] at hk
    simp only [Bool.and_eq_true, decide_eq_true_eq] at hk
    rw [e] at hJ ⊢
    exact ev_pos c1 (ev_bind0 (itoaF F.f2 (by omega) (by omega)) (ev_bind0 (itoaF F.f3 (by omega) (by omega)) (ev_some (ev_pos (by simp) hJ))))
  rw [if_neg c1] at hk
  refine ev_neg c1 ?_
  by_cases c2 : F.f1 = 2
  · have e : kindW F = [⟨#[116, 101, 120, 116]⟩, numB F.f2, numB F.f3] := by unfold kindW; rw [if_neg c1, if_pos c2]
    rw [if_pos c2] at hk
    simp only [Bool.and_eq_true, decide_eq_true_eq] at hk
    rw [e] at hJ ⊢
    exact ev_pos c2 (ev_bind0 (itoaF F.f2 (by omega) (by omega)) (ev_bind0 (itoaF F.f3 (by omega) (by omega)) (ev_some (ev_pos (by simp) hJ))))
  refine ev_neg c2 ?_
  by_cases c3 : F.f1 = 3
  · have e : kindW F = ⟨#[99, 104, 111, 105, 99, 101]⟩ :: F.f4 := by unfold kindW; rw [if_neg c1, if_neg c2, if_pos c3]
    rw [e] at hJ ⊢
    exact ev_pos c3 (ev_pos (by simp) (ev_some (ev_pos (by simp only [List.length_cons, List.length_append, List.length_nil]; omega) hJ)))
  · have e : kindW F = [⟨#[102, 108, 97, 103]⟩] := by unfold kindW; rw [if_neg c1, if_neg c2, if_neg c3]
    rw [e] at hJ ⊢
    exact ev_neg c3 (ev_pos (by simp) hJ)
theorem ifW_mem (x : ByteArray) (h : x.size ≤ 1048576) : (ifW x).length ≤ 2 ∧ ∀ s ∈ ifW x, s.size ≤ 1048576 := by
  unfold ifW
  split
  · exact ⟨by simp, fun _ h => nomatch h⟩
  · exact ⟨by simp, List.forall_mem_cons.2 ⟨by decide, List.forall_mem_cons.2 ⟨h, fun _ h => nomatch h⟩⟩⟩
theorem needW_mem (b : Bool) : (needW b).length ≤ 1 ∧ ∀ s ∈ needW b, s.size ≤ 1048576 := by
  unfold needW
  split
  · exact ⟨by simp, List.forall_mem_cons.2 ⟨by decide, fun _ h => nomatch h⟩⟩
  · exact ⟨by simp, fun _ h => nomatch h⟩
theorem lineB_size (F : Field) (hk : kindOk F = true) (hs : Small F) : (lineB F).size ≤ 20000000 := by
  have hw := wsum_le (kindW_size F hk hs)
  have hw2 := Nat.mul_le_mul_left 1048577 (kindW_len F hs.2.1)
  obtain ⟨a1, a2⟩ := ifW_mem F.f6 hs.2.2.2
  obtain ⟨b1, b2⟩ := needW_mem F.f5
  have a3 := wsum_le a2
  have b3 := wsum_le b2
  have a4 := Nat.mul_le_mul_left 1048577 a1
  have b4 := Nat.mul_le_mul_left 1048577 b1
  have := hs.1
  unfold lineB
  rw [jn_size, wsum_app, wsum_app]
  omega
def isN (x : ByteArray) : Bool := x.toList == ([110, 101, 101, 100, 101, 100] : List UInt8)
def isI (x : ByteArray) : Bool := x.toList == ([105, 102] : List UInt8)
def badF (F : Field) : Bool := F.f4.any isN || F.f4.any isI
theorem good_all (F : Field) : (List.range F.f4.length).all (fun j => !(isN (F.f4.getD j ByteArray.empty)) && !(isI (F.f4.getD j ByteArray.empty))) = !(badF F) := by
  unfold badF
  rw [Bool.eq_iff_iff, all_range, Bool.not_eq_true', Bool.or_eq_false_iff, List.any_eq_false, List.any_eq_false]
  constructor
  · intro h
    constructor
    · intro x hx
      obtain ⟨i, hi, rfl⟩ := List.getElem_of_mem hx
      have := h i hi
      rw [getD_in hi] at this
      simp at this
      simp [this.1]
    · intro x hx
      obtain ⟨i, hi, rfl⟩ := List.getElem_of_mem hx
      have := h i hi
      rw [getD_in hi] at this
      simp at this
      simp [this.2]
  · rintro ⟨h1, h2⟩ i hi
    rw [getD_in hi]
    have a := h1 _ (List.getElem_mem hi)
    have b := h2 _ (List.getElem_mem hi)
    simp at a b
    simp [a, b]
def linesUp (form : List Field) : Nat → List ByteArray
  | 0 => []
  | i + 1 => linesUp form i ++ [lineB (form.getD i zF)]
theorem linesUp_len (form : List Field) : ∀ i, (linesUp form i).length = i
  | 0 => rfl
  | i + 1 => by rw [linesUp, List.length_append, linesUp_len form i]; rfl
theorem linesUp_get (form : List Field) : ∀ n i, i < n → (linesUp form n).getD i ByteArray.empty = lineB (form.getD i zF)
  | n + 1, i, h => by
    rw [linesUp, List.getD_eq_getElem?_getD]
    by_cases c : i < n
    · rw [List.getElem?_append_left (by rw [linesUp_len]; exact c), ← List.getD_eq_getElem?_getD]
      exact linesUp_get form n i c
    · obtain rfl : i = n := by omega
      rw [List.getElem?_append_right (by rw [linesUp_len]; omega), linesUp_len, Nat.sub_self]
      rfl
def textUp (form : List Field) : Nat → ByteArray
  | 0 => ⟨#[]⟩
  | i + 1 => (textUp form i ++ lineB (form.getD i zF)) ++ (⟨#[10]⟩ : ByteArray)
structure FormOk (form : List Field) : Prop where
  len : form.length ≤ 10
  kind : ∀ i, i < form.length → kindOk (form.getD i zF) = true
  small : ∀ i, i < form.length → Small (form.getD i zF)
theorem textUp_size {form : List Field} (V : FormOk form) : ∀ i, i ≤ form.length → (textUp form i).size ≤ 20000001 * i
  | 0, _ => Nat.le_refl _
  | i + 1, h => by
    have h1 := textUp_size V i (by omega)
    have h2 := lineB_size _ (V.kind i (by omega)) (V.small i (by omega))
    have h3 : (⟨#[10]⟩ : ByteArray).size = 1 := rfl
    rw [textUp, ByteArray.size_append, ByteArray.size_append]
    omega
theorem implNl_ev {form : List Field} (V : FormOk form) : Ev (fun k => impl_withNewlines.f k (linesUp form form.length)) (textUp form form.length) := by
  have hlen := V.len
  have hll := linesUp_len form form.length
  have h := ev_all (L := fun k (s : ByteArray) i => impl_withNewlines.l0 k s (linesUp form form.length) ((linesUp form form.length).length : Int) i) form.length (textUp form) (fun _ => true) ⟨#[]⟩ (textUp form form.length) (fun _ => Ev.step (fun k => rfl) (ev_neg (by rw [hll]; omega) (ev_now rfl))) ?h1 (fun i hi _ hc => nomatch hc)
  case h1 =>
    intro i hi _ _ y hy
    have h1 := textUp_size V i (by omega)
    have h2 := lineB_size _ (V.kind i hi) (V.small i hi)
    have h3 : (lineB (form.getD i zF) ++ (⟨#[10]⟩ : ByteArray)).size = (lineB (form.getD i zF)).size + 1 := by rw [ByteArray.size_append]; rfl
    have hr : rdOf ByteArray.empty (linesUp form form.length) (i : Int) = lineB (form.getD i zF) := by unfold rdOf; rw [Int.toNat_natCast, linesUp_get form _ i hi]
    refine Ev.step (fun k => rfl) (ev_pos (by rw [hll]; omega) (ev_pos (by omega) (ev_pos (by rw [hll]; omega) (ev_pos (by rw [hr]; omega) (ev_pos (by rw [hr, h3]; omega) ?_)))))
    rw [hr, wrap_succ hi (by omega), ← ByteArray.append_assoc]
    exact hy
  rw [if_pos (by rw [all_range]; intro i hi; rfl)] at h
  exact h
def allGood (form : List Field) : Bool := (List.range form.length).all (fun i => !(badF (form.getD i zF)))
def fmtB (form : List Field) : ByteArray × Bool := if allGood form = true then (textUp form form.length, true) else (⟨#[]⟩, false)
theorem implFmt_ev {form : List Field} (V : FormOk form) : Ev (fun k => impl_FormatForm.l0 k ([] : List ByteArray) form (form.length : Int) 0) (fmtB form) := by
  have hlen := V.len
  refine ev_all (L := fun k (s : List ByteArray) i => impl_FormatForm.l0 k s form (form.length : Int) i) form.length (linesUp form) (fun i => !(badF (form.getD i zF))) (⟨#[]⟩, false) (textUp form form.length, true) (fun _ => Ev.step (fun k => rfl) (ev_neg (by omega) (Ev.bind (implNl_ev V) (ev_now rfl)))) ?h1 ?h2
  case h1 =>
    intro i hi _ hc y hy
    have hk := V.kind i hi
    have hs := V.small i hi
    have hll := linesUp_len form i
    have hrd : rd_T69 form (i : Int) = form.getD i zF := by unfold rd_T69; rw [Int.toNat_natCast]
    rw [linesUp] at hy
    generalize hF : form.getD i zF = F at *
    have c1 := slicesContainsStr_ev F.f4 (⟨#[110, 101, 101, 100, 101, 100]⟩ : ByteArray) (by have := hs.2.1; omega)
    have c2 := slicesContainsStr_ev F.f4 (⟨#[105, 102]⟩ : ByteArray) (by have := hs.2.1; omega)
    unfold badF at hc
    simp only [Bool.not_eq_true', Bool.or_eq_false_iff] at hc
    refine Ev.step (fun k => rfl) (ev_pos (by omega) (ev_pos (by omega) (ev_pos (by omega) ?_)))
    rw [hrd]
    rw [show (F.f4.any fun x => x.toList == (⟨#[110, 101, 101, 100, 101, 100]⟩ : ByteArray).toList) = false from by rw [Lib.toList_data]; exact hc.1] at c1
    rw [show (F.f4.any fun x => x.toList == (⟨#[105, 102]⟩ : ByteArray).toList) = false from by rw [Lib.toList_data]; exact hc.2] at c2
    refine Ev.bind c1 (ev_neg (by simp) (Ev.bind c2 (ev_neg (by simp) (Ev.bind (implLine_ev F hk hs) (ev_pos (by omega) ?_)))))
    rw [wrap_succ hi (by omega)]
    exact hy
  case h2 =>
    intro i hi _ hc
    have hs := V.small i hi
    have hrd : rd_T69 form (i : Int) = form.getD i zF := by unfold rd_T69; rw [Int.toNat_natCast]
    generalize hF : form.getD i zF = F at *
    have c1 := slicesContainsStr_ev F.f4 (⟨#[110, 101, 101, 100, 101, 100]⟩ : ByteArray) (by have := hs.2.1; omega)
    have c2 := slicesContainsStr_ev F.f4 (⟨#[105, 102]⟩ : ByteArray) (by have := hs.2.1; omega)
    rw [show (F.f4.any fun x => x.toList == (⟨#[110, 101, 101, 100, 101, 100]⟩ : ByteArray).toList) = F.f4.any isN from by rw [Lib.toList_data]; rfl] at c1
    rw [show (F.f4.any fun x => x.toList == (⟨#[105, 102]⟩ : ByteArray).toList) = F.f4.any isI from by rw [Lib.toList_data]; rfl] at c2
    unfold badF at hc
    refine Ev.step (fun k => rfl) (ev_pos (by omega) (ev_pos (by omega) (ev_pos (by omega) ?_)))
    rw [hrd]
    cases hn : F.f4.any isN
    · rw [hn] at c1 hc
      cases hi2 : F.f4.any isI
      · rw [hi2] at hc; simp at hc
      · rw [hi2] at c2
        exact Ev.bind c1 (ev_neg (by simp) (Ev.bind c2 (ev_pos rfl (ev_now rfl))))
    · rw [hn] at c1
      exact Ev.bind c1 (ev_pos rfl (ev_now rfl))
theorem specFmt_ev {form : List Field} (V : FormOk form) : Ev (fun k => spec_l23Lines.f k form) (fmtB form) := by
  have hlen := V.len
  have inner : ∀ i, i < form.length → ∀ (s : ByteArray) y, ((!(badF (form.getD i zF))) = true → Ev (fun k => (spec_l23Line.f k (form.getD i zF).f0 (form.getD i zF).f1 (form.getD i zF).f2 (form.getD i zF).f3 (form.getD i zF).f4 (form.getD i zF).f5 (form.getD i zF).f6).bind fun t107 => (if s.size + t107.size ≤ 9223372036854775807 then (if (s ++ t107).size + 1 ≤ 9223372036854775807 then (spec_l23Lines.l0 k form ((s ++ t107) ++ (⟨#[10]⟩ : ByteArray)) (wrap64 ((i : Int) + 1))) else (none)) else (none))) y) →
      Ev (fun k => spec_l23Lines.l1 k form s i 0) (if (!(badF (form.getD i zF))) = true then y else (⟨#[]⟩, false)) := by
    intro i hi s y hy
    have hs := V.small i hi
    have hrd : rd_T69 form (i : Int) = form.getD i zF := by unfold rd_T69; rw [Int.toNat_natCast]
    rw [← good_all] at hy ⊢
    generalize hF : form.getD i zF = F at *
    have h4 := hs.2.1
    refine ev_all0 (L := fun k j => spec_l23Lines.l1 k form s i j) F.f4.length _ (⟨#[]⟩, false) y ?_ ?_ ?_
    · intro hC
      have hy := hy (by rw [all_range]; exact hC)
      refine Ev.step (fun k => rfl) (ev_pos (by omega) (ev_pos (by omega) ?_))
      rw [hrd]
      exact ev_neg (by omega) hy
    · intro j hj _ hc y hy
      simp only [isN, isI, Bool.and_eq_true, Bool.not_eq_true', beq_eq_false_iff_ne] at hc
      have hr : rdOf ByteArray.empty F.f4 (j : Int) = F.f4.getD j ByteArray.empty := by unfold rdOf; rw [Int.toNat_natCast]
      refine Ev.step (fun k => rfl) (ev_pos (by omega) (ev_pos (by omega) ?_))
      rw [hrd]
      refine ev_pos (by omega) (ev_pos (by omega) (ev_neg (by rw [hr]; exact hc.1) (ev_neg (by rw [hr]; exact hc.2) ?_)))
      rw [wrap_succ hj (by omega)]
      exact hy
    · intro j hj _ hc
      have hr : rdOf ByteArray.empty F.f4 (j : Int) = F.f4.getD j ByteArray.empty := by unfold rdOf; rw [Int.toNat_natCast]
      refine Ev.step (fun k => rfl) (ev_pos (by omega) (ev_pos (by omega) ?_))
      rw [hrd]
      refine ev_pos (by omega) (ev_pos (by omega) (ev_ite (fun _ => ev_now rfl) (fun c => ev_pos ?_ (ev_now rfl))))
      rw [hr] at c ⊢
      simp only [isN, isI, Bool.and_eq_false_iff, Bool.not_eq_false', beq_iff_eq] at hc
      exact hc.resolve_left c
  refine ev_all (L := fun k (s : ByteArray) i => spec_l23Lines.l0 k form s i) form.length (textUp form) (fun i => !(badF (form.getD i zF))) (⟨#[]⟩, false) (textUp form form.length, true) (fun _ => Ev.step (fun k => rfl) (ev_neg (by omega) (ev_now rfl))) ?h1 ?h2
  case h1 =>
    intro i hi _ hc y hy
    have h1 := textUp_size V i (by omega)
    have h2 := lineB_size _ (V.kind i hi) (V.small i hi)
    have hin := inner i hi (textUp form i) y (fun _ => ?_)
    · rw [if_pos hc] at hin
      exact Ev.step (fun k => rfl) (ev_pos (by omega) hin)
    · refine Ev.bind (specLine_ev _ (V.kind i hi) (V.small i hi)) (ev_pos (by omega) (ev_pos (by rw [ByteArray.size_append]; omega) ?_))
      rw [wrap_succ hi (by omega)]
      exact hy
  case h2 =>
    intro i hi _ hc
    have hin := inner i hi (textUp form i) (⟨#[]⟩, false) (fun h => by rw [hc] at h; cases h)
    rw [if_neg (by rw [hc]; simp)] at hin
    exact Ev.step (fun k => rfl) (ev_pos (by omega) hin)
end Go.Proofs.YtdogpphfofimeaaDoor.X
set_option linter.unusedVariables false
namespace Go.Proofs.YtdogpphfofimeaaDoor.X
open Go.RowKit Go.Proofs.YtdogpphfofimeaaDoorW.PrintWords Go.Proofs.YtdogpphfofimeaaDoor.E
def wt68 (x : S68) : Nat := x.f0.size + (x.f4.length + (x.f4.map (fun y => y.size)).sum) + x.f6.size
end Go.Proofs.YtdogpphfofimeaaDoor.X
set_option linter.unusedVariables false
namespace Go.Proofs.YtdogpphfofimeaaDoor.X
open Go.RowKit Go.Proofs.YtdogpphfofimeaaDoorW.PrintWords Go.Proofs.YtdogpphfofimeaaDoor.E
theorem laws_szStringS_ev (x : List (ByteArray)) (g0 : x.length ≤ 9223372036854775807) (g1 : ∀ y ∈ x, (y.size ≤ 9223372036854775807)) (left : Int) (h0 : 0 ≤ left) (h1 : left ≤ 4611686018427387904) :
    Ev (fun k => laws_szStringS.f k x left) (if (((x.length + (x.map (fun y => y.size)).sum) : Nat) : Int) ≤ left then left - (((x.length + (x.map (fun y => y.size)).sum) : Nat) : Int) else -1) := by
  unfold laws_szStringS.f
  have e0 : wrap64 (left - ((x.length : Nat) : Int)) = left - ((x.length : Nat) : Int) := wrap_id (by omega) (by omega)
  simp only [e0]
  by_cases c : ((x.length : Nat) : Int) ≤ left
  case neg => exact ev_pos (by omega) (ev_now (by first | rfl | rw [if_neg (by omega)]))
  refine ev_neg (by omega) ?_
  have h := ev_sz (L := fun k l i => laws_szStringS.l0 k x l i) x (fun y => y.size) (fun l => Ev.step (fun k => rfl) (ev_neg (by omega) (ev_now rfl))) ?step (left - ((x.length : Nat) : Int)) (by omega) (by omega)
  case step =>
    intro l i y r l0 l1 hi hm hd hy hn
    refine Ev.step (fun k => rfl) (ev_pos (by omega) (ev_pos (by omega) ?_))
    simp only [rdOf, Int.toNat_natCast, hd]
    have hg := g1 y hm
    have e1 : wrap64 (l - ((y.size : Nat) : Int)) = l - ((y.size : Nat) : Int) := wrap_id (by omega) (by omega)
    simp only [e1]
    by_cases c1 : ((y.size : Nat) : Int) ≤ l
    case neg => exact ev_pos (by omega) (ev_now (hn c1).symm)
    refine ev_neg (by omega) ?_
    rw [wrap_succ hi (by omega)]
    exact hy c1
  refine ev_cast h ?_
  by_cases c2 : (((x.map (fun y => y.size)).sum : Nat) : Int) ≤ left - ((x.length : Nat) : Int)
  · rw [if_pos c2, if_pos (by omega)]; omega
  · rw [if_neg c2, if_neg (by omega)]
end Go.Proofs.YtdogpphfofimeaaDoor.X
set_option linter.unusedVariables false
namespace Go.Proofs.YtdogpphfofimeaaDoor.X
open Go.RowKit Go.Proofs.YtdogpphfofimeaaDoorW.PrintWords Go.Proofs.YtdogpphfofimeaaDoor.E
theorem laws_szField_ev (x : S68) (g0 : x.f0.size ≤ 9223372036854775807) (g1 : x.f4.length ≤ 9223372036854775807) (g2 : ∀ y ∈ x.f4, (y.size ≤ 9223372036854775807)) (g3 : x.f6.size ≤ 9223372036854775807) (left : Int) (h0 : 0 ≤ left) (h1 : left ≤ 4611686018427387904) :
    Ev (fun k => laws_szField.f k (x.f0) (x.f1) (x.f2) (x.f3) (x.f4) (x.f5) (x.f6) left) (if (((wt68 x) : Nat) : Int) ≤ left then left - (((wt68 x) : Nat) : Int) else -1) := by
  unfold laws_szField.f
  unfold wt68
  have e0 : wrap64 (left - ((x.f0.size : Nat) : Int)) = left - ((x.f0.size : Nat) : Int) := wrap_id (by omega) (by omega)
  simp only [e0]
  by_cases c0 : ((x.f0.size : Nat) : Int) ≤ left
  case neg =>
    exact ev_pos (by omega) (ev_now (by first | rfl | rw [if_neg (by omega)]))
  refine ev_neg (by omega) ?_
  refine Ev.bind (laws_szStringS_ev _ (by assumption) (by assumption) _ (by omega) (by omega)) ?_
  by_cases c4 : (((x.f4.length + (x.f4.map (fun y => y.size)).sum) : Nat) : Int) ≤ (left - ((x.f0.size : Nat) : Int))
  case neg =>
    rw [if_neg c4]
    exact ev_pos (by omega) (ev_now (by first | rfl | rw [if_neg (by omega)]))
  rw [if_pos c4]
  refine ev_neg (by omega) ?_
  have e6 : wrap64 (((left - ((x.f0.size : Nat) : Int)) - (((x.f4.length + (x.f4.map (fun y => y.size)).sum) : Nat) : Int)) - ((x.f6.size : Nat) : Int)) = ((left - ((x.f0.size : Nat) : Int)) - (((x.f4.length + (x.f4.map (fun y => y.size)).sum) : Nat) : Int)) - ((x.f6.size : Nat) : Int) := wrap_id (by omega) (by omega)
  simp only [e6]
  by_cases c6 : ((x.f6.size : Nat) : Int) ≤ ((left - ((x.f0.size : Nat) : Int)) - (((x.f4.length + (x.f4.map (fun y => y.size)).sum) : Nat) : Int))
  case neg =>
    exact ev_pos (by omega) (ev_now (by first | rfl | rw [if_neg (by omega)]))
  refine ev_neg (by omega) ?_
  exact ev_now (by first | rfl | omega | (rw [if_pos (by omega)]; omega))
end Go.Proofs.YtdogpphfofimeaaDoor.X
set_option linter.unusedVariables false
namespace Go.Proofs.YtdogpphfofimeaaDoor.X
open Go.RowKit Go.Proofs.YtdogpphfofimeaaDoorW.PrintWords Go.Proofs.YtdogpphfofimeaaDoor.E
theorem laws_szFieldS_ev (x : List (S68)) (g0 : x.length ≤ 9223372036854775807) (g1 : ∀ y ∈ x, (y.f0.size ≤ 9223372036854775807) ∧ (y.f4.length ≤ 9223372036854775807) ∧ (∀ z ∈ y.f4, (z.size ≤ 9223372036854775807)) ∧ (y.f6.size ≤ 9223372036854775807)) (left : Int) (h0 : 0 ≤ left) (h1 : left ≤ 4611686018427387904) :
    Ev (fun k => laws_szFieldS.f k x left) (if (((x.length + (x.map (fun y => (wt68 y))).sum) : Nat) : Int) ≤ left then left - (((x.length + (x.map (fun y => (wt68 y))).sum) : Nat) : Int) else -1) := by
  unfold laws_szFieldS.f
  have e0 : wrap64 (left - ((x.length : Nat) : Int)) = left - ((x.length : Nat) : Int) := wrap_id (by omega) (by omega)
  simp only [e0]
  by_cases c : ((x.length : Nat) : Int) ≤ left
  case neg => exact ev_pos (by omega) (ev_now (by first | rfl | rw [if_neg (by omega)]))
  refine ev_neg (by omega) ?_
  have h := ev_sz (L := fun k l i => laws_szFieldS.l0 k x l i) x (fun y => (wt68 y)) (fun l => Ev.step (fun k => rfl) (ev_neg (by omega) (ev_now rfl))) ?step (left - ((x.length : Nat) : Int)) (by omega) (by omega)
  case step =>
    intro l i y r l0 l1 hi hm hd hy hn
    refine Ev.step (fun k => rfl) (ev_pos (by omega) (ev_pos (by omega) ?_))
    simp only [rd_T68, Int.toNat_natCast, hd]
    have hg := g1 y hm
    obtain ⟨q0, q1, q2, q3⟩ := hg
    refine Ev.bind (laws_szField_ev y (by assumption) (by assumption) (by assumption) (by assumption) l l0 l1) ?_
    by_cases c1 : (((wt68 y) : Nat) : Int) ≤ l
    case neg => rw [if_neg c1]; exact ev_pos (by omega) (ev_now (hn c1).symm)
    rw [if_pos c1]
    refine ev_neg (by omega) ?_
    rw [wrap_succ hi (by omega)]
    exact hy c1
  refine ev_cast h ?_
  by_cases c2 : (((x.map (fun y => (wt68 y))).sum : Nat) : Int) ≤ left - ((x.length : Nat) : Int)
  · rw [if_pos c2, if_pos (by omega)]; omega
  · rw [if_neg c2, if_neg (by omega)]
end Go.Proofs.YtdogpphfofimeaaDoor.X
set_option linter.unusedVariables false
namespace Go.Proofs.YtdogpphfofimeaaDoor.X
open Go.RowKit Go.Proofs.YtdogpphfofimeaaDoorW.PrintWords Go.Proofs.YtdogpphfofimeaaDoor.E
theorem laws_toStringS_ev (x : List (ByteArray)) (hb : (x.length + (x.map (fun y => y.size)).sum) ≤ 1048576) : Ev (fun k => laws_toStringS.f k x) (x) := by
  unfold laws_toStringS.f
  refine ev_pos (by omega) (ev_pos (by simp only [Int.toNat_natCast]; omega) ?_)
  simp only [Int.toNat_natCast]
  refine ev_cast (r := x.map id) ?_ (List.map_id x)
  refine ev_fill (L := fun k o i => laws_toStringS.l0 k x o i) x id _ (fun o => Ev.step (fun k => rfl) (ev_neg (by omega) (ev_now rfl))) ?_
  intro o i y r hi hx hd hl hk
  refine Ev.step (fun k => rfl) (ev_pos (by omega) (ev_pos (by omega) ?_))
  simp only [rdOf, Int.toNat_natCast, hd]
  refine ev_pos (by omega) ?_
  rw [wrap_succ hi (by omega)]
  exact hk
end Go.Proofs.YtdogpphfofimeaaDoor.X
set_option linter.unusedVariables false
namespace Go.Proofs.YtdogpphfofimeaaDoor.X
open Go.RowKit Go.Proofs.YtdogpphfofimeaaDoorW.PrintWords Go.Proofs.YtdogpphfofimeaaDoor.E
def conv68 (x : S68) : S69 := ⟨x.f0, x.f1, x.f2, x.f3, x.f4, x.f5, x.f6⟩
theorem laws_toField_ev (x : S68) (hb : (wt68 x) ≤ 1048576) : Ev (fun k => laws_toField.f k (x.f0) (x.f1) (x.f2) (x.f3) (x.f4) (x.f5) (x.f6)) ((conv68 x).f0, (conv68 x).f1, (conv68 x).f2, (conv68 x).f3, (conv68 x).f4, (conv68 x).f5, (conv68 x).f6) := by
  unfold laws_toField.f
  unfold wt68 at hb
  refine Ev.bind (laws_toStringS_ev x.f4 (by omega)) ?_
  exact ev_now rfl
end Go.Proofs.YtdogpphfofimeaaDoor.X
set_option linter.unusedVariables false
namespace Go.Proofs.YtdogpphfofimeaaDoor.X
open Go.RowKit Go.Proofs.YtdogpphfofimeaaDoorW.PrintWords Go.Proofs.YtdogpphfofimeaaDoor.E
theorem laws_toFieldS_ev (x : List (S68)) (hb : (x.length + (x.map (fun y => (wt68 y))).sum) ≤ 1048576) : Ev (fun k => laws_toFieldS.f k x) (x.map conv68) := by
  unfold laws_toFieldS.f
  refine ev_pos (by omega) (ev_pos (by simp only [Int.toNat_natCast]; omega) ?_)
  simp only [Int.toNat_natCast]
  refine ev_fill (L := fun k o i => laws_toFieldS.l0 k x o i) x conv68 _ (fun o => Ev.step (fun k => rfl) (ev_neg (by omega) (ev_now rfl))) ?_
  intro o i y r hi hx hd hl hk
  refine Ev.step (fun k => rfl) (ev_pos (by omega) (ev_pos (by omega) ?_))
  simp only [rd_T68, Int.toNat_natCast, hd]
  have hq := le_sum (f := fun y => (wt68 y)) (List.mem_of_getElem? hx)
  refine Ev.bind (laws_toField_ev y (by omega)) ?_
  refine ev_pos (by omega) ?_
  rw [wrap_succ hi (by omega)]
  exact hk
end Go.Proofs.YtdogpphfofimeaaDoor.X
set_option linter.unusedVariables false
namespace Go.Proofs.YtdogpphfofimeaaDoor.X
open Go.RowKit Go.Proofs.YtdogpphfofimeaaDoorW.PrintWords Go.Proofs.YtdogpphfofimeaaDoor.E
theorem laws_eqStringS_ev (x : List (ByteArray)) (hl0 : x.length ≤ 9223372036854775807) : Ev (fun k => laws_eqStringS.f k x x) true := by
  unfold laws_eqStringS.f
  refine ev_pos rfl ?_
  refine ev_same (L := fun k i => laws_eqStringS.l0 k x x i) x.length (Ev.step (fun k => rfl) (ev_neg (by omega) (ev_now rfl))) ?_
  intro i hi hk
  refine Ev.step (fun k => rfl) (ev_pos (by omega) (ev_pos (by omega) (ev_pos (by omega) ?_)))
  refine ev_pos rfl ?_
  rw [wrap_succ hi (by omega)]
  exact hk
end Go.Proofs.YtdogpphfofimeaaDoor.X
set_option linter.unusedVariables false
namespace Go.Proofs.YtdogpphfofimeaaDoor.X
open Go.RowKit Go.Proofs.YtdogpphfofimeaaDoorW.PrintWords Go.Proofs.YtdogpphfofimeaaDoor.E
theorem laws_eqField_ev (x : S69) (hl0 : x.f4.length ≤ 9223372036854775807) : Ev (fun k => laws_eqField.f k (x.f0) (x.f1) (x.f2) (x.f3) (x.f4) (x.f5) (x.f6) (x.f0) (x.f1) (x.f2) (x.f3) (x.f4) (x.f5) (x.f6)) true := by
  unfold laws_eqField.f
  repeat' (first | exact ev_now rfl | refine ev_pos rfl ?_ | refine ev_neg (by simp) ?_ | refine Ev.bind (laws_eqStringS_ev _ (by assumption)) ?_)
end Go.Proofs.YtdogpphfofimeaaDoor.X
set_option linter.unusedVariables false
namespace Go.Proofs.YtdogpphfofimeaaDoor.X
open Go.RowKit Go.Proofs.YtdogpphfofimeaaDoorW.PrintWords Go.Proofs.YtdogpphfofimeaaDoor.E
theorem laws_eqFieldS_ev (x : List (S69)) (hl0 : x.length ≤ 9223372036854775807) (hl1 : ∀ y ∈ x, (y.f4.length ≤ 9223372036854775807)) : Ev (fun k => laws_eqFieldS.f k x x) true := by
  unfold laws_eqFieldS.f
  refine ev_pos rfl ?_
  refine ev_same (L := fun k i => laws_eqFieldS.l0 k x x i) x.length (Ev.step (fun k => rfl) (ev_neg (by omega) (ev_now rfl))) ?_
  intro i hi hk
  refine Ev.step (fun k => rfl) (ev_pos (by omega) (ev_pos (by omega) (ev_pos (by omega) ?_)))
  have hy := hl1 _ (List.getElem_mem hi)
  have hr : rd_T69 x (i : Int) = x[i] := by simp [rd_T69, List.getD_eq_getElem?_getD, List.getElem?_eq_getElem hi]
  rw [hr]
  refine Ev.bind (laws_eqField_ev _ (by first | exact hy | exact hy)) ?_
  refine ev_pos rfl ?_
  rw [wrap_succ hi (by omega)]
  exact hk
end Go.Proofs.YtdogpphfofimeaaDoor.X
set_option linter.unusedVariables false
set_option linter.unusedSimpArgs false
namespace Go.Proofs.YtdogpphfofimeaaDoor.Pure
open Go.RowKit Go.Proofs.YtdogpphfofimeaaDoor.X Go.Proofs.YtdogpphfofimeaaDoorW.PrintWords Go.Proofs.YtdogpphfofimeaaDoor.E
theorem wt_one {α : Type} (g : α → Nat) : ∀ (l : List α) (y : α), y ∈ l → g y ≤ (l.map g).sum
  | [], y, h => nomatch h
  | a :: l, y, h => by
    rw [List.map_cons, List.sum_cons]
    rcases List.mem_cons.1 h with rfl | h
    · omega
    · have := wt_one g l y h
      omega
theorem f4_len {F : X.Field} (h : X.kindOk F = true) : F.f4.length ≤ 6 := by
  unfold X.kindOk at h
  split at h
  · simp only [Bool.and_eq_true, beq_iff_eq] at h; omega
  · split at h
    · simp only [Bool.and_eq_true, beq_iff_eq] at h; omega
    · split at h
      · simp only [Bool.and_eq_true, decide_eq_true_eq] at h; omega
      · split at h
        · simp only [Bool.and_eq_true, beq_iff_eq] at h; omega
        · cases h
theorem fmt_both (form : List X.Field) (hl : form.length ≤ 9223372036854775807) (hf : ∀ f ∈ form, fine f) (hs : ∀ f ∈ form, f.f0.size ≤ 1048576 ∧ (∀ s ∈ f.f4, s.size ≤ 1048576) ∧ f.f6.size ≤ 1048576) :
    ∃ (t : ByteArray) (b : Bool), Ev (fun k => spec_FormatForm.f k form) (t, b) ∧ Ev (fun k => impl_FormatForm.f k form) (t, b) := by
  have h1 := specForm_ev form hl hf
  have h2 := implForm_ev form hl hf
  unfold spec_FormatForm.f impl_FormatForm.f
  cases hv : formB form
  · rw [hv] at h1 h2
    exact ⟨⟨#[]⟩, false, Ev.bind h1 (ev_neg (by simp) (ev_now rfl)), Ev.bind h2 (ev_neg (by simp) (ev_now rfl))⟩
  rw [hv] at h1 h2
  unfold formB at hv
  rw [Bool.and_eq_true, decide_eq_true_eq, all_range] at hv
  have hk : ∀ i, i < form.length → X.kindOk (form.getD i zF) = true := by
    intro i hi
    have := hv.2 i hi
    unfold fieldB at this
    rw [Bool.and_eq_true] at this
    exact this.2
  have V : FormOk form := ⟨by omega, hk, fun i hi => by
    have g := hs _ (List.getElem_mem hi)
    rw [← getD_in hi zF] at g
    exact ⟨g.1, f4_len (hk i hi), g.2.1, g.2.2⟩⟩
  have e1 := specFmt_ev V
  have e2 := implFmt_ev V
  refine ⟨(fmtB form).1, (fmtB form).2, Ev.bind h1 (ev_pos rfl (Ev.bind e1 (ev_now rfl))), Ev.bind h2 (ev_pos rfl e2)⟩
theorem FnExactFormatForm : PureFnExactFormatForm := by
  intro form hf
  have hsz : ∀ y ∈ form, (y.f0.size ≤ 9223372036854775807) ∧ (y.f4.length ≤ 9223372036854775807) ∧ (∀ z ∈ y.f4, (z.size ≤ 9223372036854775807)) ∧ (y.f6.size ≤ 9223372036854775807) := by
    intro y hy
    have g := hf.2 y hy
    exact ⟨g.1, g.2.2.2.2.1.1, g.2.2.2.2.1.2, g.2.2.2.2.2.2⟩
  unfold laws_FnExactFormatForm.f
  refine ev_get (Ev.bind (laws_szFieldS_ev form hf.1 hsz 1048576 (by omega) (by omega)) ?_)
  by_cases c : (((form.length + (form.map (fun y => wt68 y)).sum : Nat)) : Int) ≤ 1048576
  case neg => rw [if_neg c]; exact ev_pos (by omega) (ev_now rfl)
  rw [if_pos c]
  refine ev_neg (by omega) ?_
  have hto := laws_toFieldS_ev form (by omega)
  have hl : (form.map conv68).length ≤ 9223372036854775807 := by rw [List.length_map]; exact hf.1
  have hfine : ∀ f ∈ form.map conv68, fine f := by
    intro f hf'
    obtain ⟨y, hy, rfl⟩ := List.mem_map.1 hf'
    have g := hsz y hy
    exact ⟨g.1, g.2.1, g.2.2.1, g.2.2.2⟩
  have hsmall : ∀ f ∈ form.map conv68, f.f0.size ≤ 1048576 ∧ (∀ s ∈ f.f4, s.size ≤ 1048576) ∧ f.f6.size ≤ 1048576 := by
    intro f hf'
    obtain ⟨y, hy, rfl⟩ := List.mem_map.1 hf'
    have g := wt_one (fun y => wt68 y) form y hy
    have g0 : wt68 y ≤ 1048576 := by omega
    unfold wt68 at g0
    refine ⟨?_, fun s hs => ?_, ?_⟩
    · show y.f0.size ≤ _; omega
    · have := wt_one (fun y : ByteArray => y.size) y.f4 s hs
      omega
    · show y.f6.size ≤ _; omega
  obtain ⟨t, b, g1, g2⟩ := fmt_both _ hl hfine hsmall
  refine Ev.bind hto (Ev.bind g1 (Ev.bind hto (Ev.bind g2 (ev_pos rfl ?_))))
  exact Ev.step (fun k => rfl) (ev_neg (by simp) (Ev.bind hto (Ev.bind (laws_eqFieldS_ev _ hl (fun f hf' => (hfine f hf').2.1)) (ev_pos rfl (ev_now rfl)))))
end Go.Proofs.YtdogpphfofimeaaDoor.Pure
namespace Go.Proofs.YtdogpphfofimeaaDoor.fnExactFormatForm
open Go.ChangeShapes Go.WideShapes Go.ChangeAt Go.RowKit Go.Joins Go.Proofs.YtdogpphfofimeaaDoorW.PrintWords Go.Proofs.YtdogpphfofimeaaDoor.Open Go.Proofs.YtdogpphfofimeaaDoor.X
open Go.ChangeMaps (open_string shut_string)
set_option linter.unusedVariables false
theorem own : ownKnob Tryd.prog.godebug = none := by kernel_rfl
def laid : List (String × DataW Unit) := [("math/bits.deBruijn32tab", Rows.laid_math_bits_deBruijn32tab), ("math/bits.deBruijn64tab", Rows.laid_math_bits_deBruijn64tab), ("internal/strconv.uint64pow10", Rows.laid_internal_strconv_uint64pow10)]
theorem door_met (os : Os) (args : Array Value) : laidMetH Tryd.prog laid ((World.doorLaid Tryd.prog 72 os).forCall (fun _ _ => 0) ⟨#[], args, []⟩).memory :=
  laidMetH_of_parts3 (fuel := 8) (laidMet_of_run' 8 (by kernel_rfl) (by kernel_rfl)) (by kernel_rfl) (by kernel_rfl)
theorem gTab : Tryd.prog.globalNamed "internal/strconv.uint64pow10" = some 1 := by kernel_rfl
theorem gTabType : (Tryd.prog.globals[1]?).map (·.type) = some 154 := by kernel_rfl
theorem cellsT : Tryd.prog.cellsOf 154 = 20 := by kernel_rfl
theorem cellsE : Tryd.prog.cellsOf 85 = 1 := by kernel_rfl
theorem only : laid.filter (fun x => x.1 == "internal/strconv.uint64pow10") = [("internal/strconv.uint64pow10", Lib.tabData .u64 Lib.pow10Tab)] := by kernel_rfl
theorem table {W : World} (h : laidMetH Tryd.prog laid W) : GT W := by
  have h2 := h.filter (fun x => x.1 == "internal/strconv.uint64pow10")
  rw [only] at h2
  rw [MakeChecks.laidMetH_plain _ _ _ (by kernel_rfl)] at h2
  exact Lib.tabIs_of_head (rest := []) gTab gTabType Tryd.underlying154 Tryd.underlying85 cellsE cellsT h2
theorem laidOut : laidOutB Tryd.prog = true := by kernel_rfl
set_option maxRecDepth 100000 in
theorem lifted (os : Os) (started : os.Started) (H : Type) (enc : TypeId × Value → H) :
    ReturnsInHanded {} Tryd.checked os 3 .any (fun w args => (Rows.fnExactFormatFormSpec.pre enc Tryd.prog Tryd.f3 [] false w args ∧ laidMetH Tryd.prog laid w) ∧ sizedMet enc Tryd.prog Tryd.f3 (OpenSpec.ofChange Rows.fnExactFormatFormSpec) false w args)
      (Rows.fnExactFormatFormSpec.post enc Tryd.prog Tryd.f3 false true false false) := by
  refine returnsInHanded_of_change_and (C := Tryd.checked) (X := fun w _ => laidMetH Tryd.prog laid w) (fun _ _ _ hh h => h.of_heap hh) own started (by kernel_rfl) Tryd.func3
    (ChangeSpec.witness_shaped (enc := enc) (C := Tryd.checked) (os := os) (X := fun w _ => laidMetH Tryd.prog laid w) false (World.doorLaid Tryd.prog 72 os) #[.slice none 0 0] 8 rfl (World.shaped_of_RefB (by kernel_rfl) (by kernel_rfl)) (by kernel_rfl) (by kernel_rfl) (by kernel_rfl) (door_met os _)) ?_
  intro W base args ds gs before hval0 hW hcnd hsz0 hL _
  have hval : ∀ (j : Nat) t v, Tryd.f3.params[j]? = some t → args[j]? = some v → Value.okWide Tryd.prog W .any base t v := hval0
  have hW' := hW
  obtain ⟨p, q, hA0, hV, rfl, hfz, hnd⟩ := hW
  have hA : DataW.TrodAll enc Tryd.prog W 0 (fun _ => true) true Tryd.f3.params.toList args.toList ds p := hA0
  rw [Tryd.params3] at hA hval
  obtain ⟨v0, vs0, d0, ds0, p0, q0, hargs, rfl, rfl, h0, r0⟩ := trodAll_cons hA
  obtain ⟨rfl, rfl, rfl⟩ := trodAll_nil r0
  obtain rfl : args = #[v0] := by cases args; simp_all
  obtain ⟨rfl, rfl⟩ := trodVars_none hV
  have kk0 := h0
  have lt0 : ∀ x ∈ p0, x.block < W.heap.size := by obtain ⟨m, hm⟩ := kk0; exact DataW.trod_lt m _ _ _ hm
  obtain ⟨A0, c0, a0, rfl, hc0, hr0, g0⟩ := arg_slice op22 (okWide_slice Tryd.underlying22 (hval 0 22 v0 rfl rfl)) h0
  clear hA0 hval0 hsz0
  obtain ⟨k, hk⟩ := Pure.FnExactFormatForm a0 g0
  refine (X.laws_FnExactFormatForm.calls k _ _ a0 true W hr0 hc0 (table hL) hk (Aside0.mk rfl)).mono ?_
  rintro e W' ⟨he, bel0⟩
  have bel : Below W.heap.size W W' := by first | exact bel0 | exact bel0.below
  subst he
  exact ⟨_, rfl, _, _, _, [], _, [], hW', trodAll_mk1 (shut_bool Tryd.underlying4 _), (trodAll_cons_mk (Below.trod laidOut (by kernel_rfl) (of_decide_eq_true (by kernel_rfl)) kk0 bel lt0) trodAll_mk0), rfl, bel.frame _, fun h => by cases h⟩
theorem over : Rows.fnExactFormatFormRow.holds Tryd.pinned (OpenSpec.ofChange Rows.fnExactFormatFormSpec) :=
  OpenClaim.holds_of_wide 3 Tryd.f3 rfl rfl rfl rfl rfl rfl rfl ⟨rfl, rfl, rfl, rfl, rfl⟩ rfl rfl rfl rfl rfl (by kernel_rfl) Tryd.func3 (by kernel_rfl)
    (of_decide_eq_true (by kernel_rfl)) (by unfold Func.isWrapper; first | (rw [if_pos (by decide +kernel)]; kernel_rfl) | (rw [if_neg (by decide +kernel)]; exact ⟨rfl, rfl⟩))
    (fun os started H enc _ => lifted os started H enc)
theorem proved : Rows.FnExactFormatFormSaid := over
#print axioms proved
theorem plain (f : FuncId) (fn : Func) (hf : Tryd.pinned.checked.prog.funcNamed "loop.example/g00876/laws.FnExactFormatForm" = some f) (hfn : Tryd.pinned.checked.prog.funcs[f]? = some fn) :
    true = Tryd.pinned.checked.prog.looks [] ∧ ∀ (j : Nat) t, fn.params[j]? = some t → Tryd.pinned.checked.prog.wantsStandIn t = false := by
  obtain rfl : f = 3 := Option.some.inj ((show Tryd.prog.funcNamed "loop.example/g00876/laws.FnExactFormatForm" = some 3 by kernel_rfl).symm.trans hf) |>.symm
  obtain rfl : fn = Tryd.f3 := (Option.some.inj (Tryd.func3.symm.trans hfn)).symm
  refine ⟨by kernel_rfl, fun j t ht => ?_⟩
  rw [Tryd.params3] at ht
  have hm := Array.mem_of_getElem? ht
  simp only [List.mem_toArray, List.mem_cons, List.not_mem_nil, or_false] at hm
  rcases hm with rfl
  exact (show Tryd.prog.wantsStandIn 22 = false by kernel_rfl)
theorem card : Rows.FnExactFormatFormCardSaid :=
  Claim7.holds_tied_plain_at .later [] _ _ _ _ proved (fun _ h => by cases h) (by kernel_rfl) (fun _ h => by cases h) fnExactFormatForm_row_tie rfl ⟨rfl, rfl⟩ (by kernel_rfl) rfl plain (by kernel_rfl)
#print axioms card
end Go.Proofs.YtdogpphfofimeaaDoor.fnExactFormatForm
namespace Go.Proofs.YtdogpphfofimeaaDoor
/-- The row, under a short name, for the claim. -/
theorem fnExactFormatForm_holds : Rows.FnExactFormatFormSaid := fnExactFormatForm.proved
/-- The card, under a short name. -/
theorem fnExactFormatFormCard_holds : Rows.FnExactFormatFormCardSaid := fnExactFormatForm.card
end Go.Proofs.YtdogpphfofimeaaDoor
