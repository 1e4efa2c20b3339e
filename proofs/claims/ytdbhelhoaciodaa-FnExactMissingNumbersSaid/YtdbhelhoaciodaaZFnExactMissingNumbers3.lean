/- For all items and boxes the law FnExactMissingNumbers answers true. No condition beyond what a reading tells.
This file (part 3 of 4) holds what the proof needs: plain functions with rounds and contracts written by programs of this work over the translation, and the lemmas. -/
import Derived.Test.YtdbhelhoaciodaaZFnExactMissingNumbers2
import Derived.Test.YtdbhelhoaciodaaZFnExactMissingNumbers1
import Derived.IntWalk
import Derived.Shelf.Abstract
import Derived.Shelf.Small.Bits
import Derived.Shelf.Strconv.Itoa0
import Derived.Shelf.Sort.Plain
import Derived.Ground.Names2Prog
import Derived.Shelf.Slices.Clone
import Derived.Shelf.Slices.CompactI
import Derived.Shelf.Slices.SearchI
import Derived.Shelf.Slices.Cells
import Derived.Ground.SlgnProg
import Derived.Shelf.SlicesE.Clone
import Derived.Test.YtdbhelhoaciodaaProg
import Derived.Lib.RowBridge
namespace Go.Proofs.Ytdbhelhoaciodaa.X
open Go.RowKit Go.Proofs.YtdbhelhoaciodaaW.PrintWords Go.Proofs.YtdbhelhoaciodaaW.PrintLast Go.Proofs.YtdbhelhoaciodaaW.PrintMore
attribute [local go_sem] max2_int min2_int max_two min_two max_three min_three max_four min_four
set_option linter.unusedVariables false
set_option linter.unusedSimpArgs false
attribute [-simp] ByteArray.size_append ByteArray.size_extract
attribute [-go_sem] ByteArray.size_append'
/-! ### impl_areItems: function 51 -/
def impl_areItems.l0 : Nat → List (S83) → List (S83) → Int → Int → Option (Bool)
 | 0, _, _, _, _ => none
 | k + 1, x0, x5, x6, x7 => if x7 < x6 then (if 0 ≤ x7 then (if x7 < (x5.length : Int) then ((impl_isBoxNumber.f ((rd_T83 x5 x7).f0)).bind fun t103 => (if t103 = true then ((impl_isMaterial.f ((rd_T83 x5 x7).f1)).bind fun t104 => (if t104 = true then ((impl_within.f ((rd_T83 x5 x7).f2) 1 1000).bind fun t105 => (if t105 = true then (if x7 > 0 then (if 0 ≤ (wrap64 (x7 - 1)) then (if (wrap64 (x7 - 1)) < (x0.length : Int) then (if ((rd_T83 x5 x7).f0) ≤ ((rd_T83 x0 (wrap64 (x7 - 1))).f0) then (some false) else (impl_areItems.l0 k x0 x5 x6 (wrap64 (x7 + 1)))) else (none)) else (none)) else (impl_areItems.l0 k x0 x5 x6 (wrap64 (x7 + 1)))) else (some false))) else (some false))) else (some false))) else (none)) else (none)) else (some (decide ((x0.length : Int) ≤ 12)))
def impl_areItems.f (k : Nat) (l0 : List (S83)) : Option (Bool) := impl_areItems.l0 k l0 l0 (l0.length : Int) 0
set_option maxHeartbeats 8000000 in
set_option maxRecDepth 100000 in
theorem impl_areItems.calls (k : Nat) (A0 : Option Addr) (c0 : Nat) (l0 : List (S83)) (r : Bool) (w : World) (hr0 : Kd.C k83 w A0 l0.length l0) (hc0 : l0.length ≤ c0) (h : impl_areItems.f k l0 = some r) :
  Calls Try.prog 51 #[.slice A0 l0.length c0] w fun e w' => e = .returned (.bool r) ∧ Below w.heap.size w w' := by
 (have hu83 := Try.underlying83); (have HR0 := Aside0.mk hr0); (have HC0 := Aside0.mk hc0); clear hr0 hc0; (have HB := Aside0.mk (Below.refl w.heap.size w)); (unfold impl_areItems.f at h); (have H := h); clear h; (have H' := Aside0.mk H); clear H; (go_enter Try.func51, Try.ntmps51); (go_wp2); (repeat (go_quiet (fail); try go_wp2)); (go_loopg [7] k (fun kq v7 w' => ∃ (x7_1 : Int), v7 = .int .i64 x7_1 ∧ Aside0 (impl_areItems.l0 kq l0 l0 (l0.length : Int) x7_1 = some r) ∧ Aside0 (kq ≤ k) ∧ Aside0 (Below w.heap.size w w')))
 case atStart => exact Q1
 case round =>
  (clear H'); (obtain ⟨x7_1, rfl, HA, HK1, HB⟩ := hrel)
  cases gk with
  | zero => exact absurd HA.out (by simp [impl_areItems.l0])
  | succ k1 =>
   (have H := HA.out); clear HA; (simp only [impl_areItems.l0] at H); (by_cases c2 : x7_1 < (l0.length : Int))
   ·rw [if_pos c2] at H
    (have c2b0 := decide_eq_true c2); clear c2; (by_cases c3 : 0 ≤ x7_1)
    ·rw [if_pos c3] at H
     (have c3b0 := decide_eq_true c3); clear c3; (by_cases c4 : x7_1 < (l0.length : Int))
     ·rw [if_pos c4] at H
      (have c4b0 := decide_eq_true c4); clear c4; (replace H := obS H); (obtain ⟨t103, A5, H⟩ := H); (by_cases c6 : t103 = true)
      ·subst c6
       (rw [if_pos rfl] at H); (replace H := obS H); (obtain ⟨t104, A7, H⟩ := H); (by_cases c8 : t104 = true)
       ·subst c8
        (rw [if_pos rfl] at H); (replace H := obS H); (obtain ⟨t105, A9, H⟩ := H); (by_cases c10 : t105 = true)
        ·subst c10
         (rw [if_pos rfl] at H); (by_cases c11 : x7_1 > 0)
         ·rw [if_pos c11] at H
          (have c11b0 : decide (0 < x7_1) = true := decide_eq_true c11); clear c11; (obtain ⟨ji12, hji12⟩ : ∃ j_ : Int, (wrap64 (x7_1 - 1)) = j_ := ⟨_, rfl⟩); (replace H : (if 0 ≤ (ji12) then (if (ji12) < (l0.length : Int) then (if ((rd_T83 l0 x7_1).f0) ≤ ((rd_T83 l0 (ji12)).f0) then (some false) else (impl_areItems.l0 k1 l0 l0 (l0.length : Int) (wrap64 (x7_1 + 1)))) else (none)) else (none)) = some r := by first | (rw [hji12] at H; exact H) | (simp only [hji12] at H ⊢; exact H)); ((try rw [hji12] at A5)); ((try rw [hji12] at A7)); ((try rw [hji12] at A9)); (have hji12w : (IntKind.i64.wrap (x7_1 - 1)) = ji12 := (i64_w _).trans hji12); (by_cases c13 : 0 ≤ (ji12))
          ·rw [if_pos c13] at H
           (have c13b0 := decide_eq_true c13); clear c13; (by_cases c14 : (ji12) < (l0.length : Int))
           ·rw [if_pos c14] at H
            (have c14b0 := decide_eq_true c14); clear c14; (by_cases c15 : ((rd_T83 l0 x7_1).f0) ≤ ((rd_T83 l0 (ji12)).f0))
            ·rw [if_pos c15] at H
             (have c15b0 := decide_eq_true c15); clear c15; (obtain rfl := Option.some.inj H); (have p101 : 0 ≤ (x7_1 : Int) := odt); (have q101 : x7_1 < (l0.length : Int) := odt); (obtain ⟨ad101, e101, hx101_0, hx101_1, hx101_2⟩ := at_T83 HR0.out x7_1 p101 q101); (cases e101); (replace hx101_0 := hcI HB hx101_0); (replace hx101_1 := hcI HB hx101_1); (replace hx101_2 := hcI HB hx101_2); (replace p101 := eq_true p101); (replace q101 := eq_true q101)
             go_wp2_with (first | ((with_reducible refine gate_dst (N := 4) rfl ?_); refine box_event ?hg (N := 4) ?hd (cs := #[.int .i64 0, .int .i64 0, .int .i64 0]) (t := 83) ?hr ?_; (case hd => rfl); (case hg => rfl); (case hr => first | (go_simp; done) | (go_simp; rfl)); intro gb102 hg w16 hbox hb; have hB_ := zI hb HB; have n0_ := Aside0.mk (below_step hB_ hb); have n1_ := Aside0.mk (hbox); have n2_ := Aside0.mk (bx0 hg hB_); have n3_ := n2_; clear HB; have HB := n0_; have BK102 := n1_; have GW102 := n2_; have GE102 := n3_; clear n0_ n1_ n2_ n3_ hB_ hb hbox hg; have hcz17_0 := cz BK102.out 0; have hcz17_1 := cz BK102.out 1; have hcz17_2 := cz BK102.out 2; have hfz17_0 := blk_frozen BK102.out 0; have hfz17_1 := blk_frozen BK102.out 1; have hfz17_2 := blk_frozen BK102.out 2) | (go_at_call 103; (with_reducible refine (impl_isBoxNumber.calls ((rd_T83 l0 x7_1).f0) true _ A5.out).mono ?_); rintro e w' ⟨rfl, ⟨nd, rfl⟩⟩; (try first | exact Q2 | exact Q3)) | (go_at_call 104; (with_reducible refine (impl_isMaterial.calls ((rd_T83 l0 x7_1).f1) true _ A7.out).mono ?_); rintro e w' ⟨rfl, ⟨nd, rfl⟩⟩; (try first | exact Q2 | exact Q3)) | (go_at_call 88; (with_reducible refine (impl_within.calls ((rd_T83 l0 x7_1).f2) 1 1000 true _ A9.out).mono ?_); rintro e w' ⟨rfl, ⟨nd, rfl⟩⟩; (try first | exact Q2 | exact Q3); have p106 : 0 ≤ ((ji12) : Int) := odt; have q106 : (ji12) < (l0.length : Int) := odt; obtain ⟨ad106, e106, hx106_0, hx106_1, hx106_2⟩ := at_T83 HR0.out (ji12) p106 q106; obtain rfl : ad101 = ad106 := Q4; have hn106_0 : ad101.block ≠ gb102 := Nat.ne_of_lt (Nat.lt_of_lt_of_le Q5 GW102.out); have hn106_1 : ad101.block ≠ gb102 := Nat.ne_of_lt (Nat.lt_of_lt_of_le Q5 GW102.out); have hn106_2 : ad101.block ≠ gb102 := Nat.ne_of_lt (Nat.lt_of_lt_of_le Q5 GW102.out); replace hx106_0 := hcI HB hx106_0; replace hx106_1 := hcI HB hx106_1; replace hx106_2 := hcI HB hx106_2; replace hx106_0 := (cell_far (p := ⟨gb102, 0, none⟩) Q6 (.int .i64 ((rd_T83 l0 x7_1).f0))).trans hx106_0; replace hx106_1 := (cell_far (p := ⟨gb102, 0, none⟩) Q6 (.int .i64 ((rd_T83 l0 x7_1).f0))).trans hx106_1; replace hx106_2 := (cell_far (p := ⟨gb102, 0, none⟩) Q6 (.int .i64 ((rd_T83 l0 x7_1).f0))).trans hx106_2; replace hx106_0 := (cell_far (p := ⟨gb102, 1, none⟩) Q7 (.int .i64 ((rd_T83 l0 x7_1).f1))).trans hx106_0; replace hx106_1 := (cell_far (p := ⟨gb102, 1, none⟩) Q7 (.int .i64 ((rd_T83 l0 x7_1).f1))).trans hx106_1; replace hx106_2 := (cell_far (p := ⟨gb102, 1, none⟩) Q7 (.int .i64 ((rd_T83 l0 x7_1).f1))).trans hx106_2; replace hx106_0 := (cell_far (p := ⟨gb102, 2, none⟩) Q8 (.int .i64 ((rd_T83 l0 x7_1).f2))).trans hx106_0; replace hx106_1 := (cell_far (p := ⟨gb102, 2, none⟩) Q8 (.int .i64 ((rd_T83 l0 x7_1).f2))).trans hx106_1; replace hx106_2 := (cell_far (p := ⟨gb102, 2, none⟩) Q8 (.int .i64 ((rd_T83 l0 x7_1).f2))).trans hx106_2; (try have hy106_0 := fun (n_ : Nat) => (show (((((w16.drewN n_).setCell ⟨gb102, 0, none⟩ (.int .i64 ((rd_T83 l0 x7_1).f0))).setCell ⟨gb102, 1, none⟩ (.int .i64 ((rd_T83 l0 x7_1).f1))).setCell ⟨gb102, 2, none⟩ (.int .i64 ((rd_T83 l0 x7_1).f2)))).cell? _ = some _ from hx106_0)); (try have hy106_1 := fun (n_ : Nat) => (show (((((w16.drewN n_).setCell ⟨gb102, 0, none⟩ (.int .i64 ((rd_T83 l0 x7_1).f0))).setCell ⟨gb102, 1, none⟩ (.int .i64 ((rd_T83 l0 x7_1).f1))).setCell ⟨gb102, 2, none⟩ (.int .i64 ((rd_T83 l0 x7_1).f2)))).cell? _ = some _ from hx106_1)); (try have hy106_2 := fun (n_ : Nat) => (show (((((w16.drewN n_).setCell ⟨gb102, 0, none⟩ (.int .i64 ((rd_T83 l0 x7_1).f0))).setCell ⟨gb102, 1, none⟩ (.int .i64 ((rd_T83 l0 x7_1).f1))).setCell ⟨gb102, 2, none⟩ (.int .i64 ((rd_T83 l0 x7_1).f2)))).cell? _ = some _ from hx106_2)); clear hn106_0 hn106_1 hn106_2; replace p106 := eq_true p106; replace q106 := eq_true q106))
             repeat (go_quiet (first | ((with_reducible refine gate_dst (N := 4) rfl ?_); refine box_event ?hg (N := 4) ?hd (cs := #[.int .i64 0, .int .i64 0, .int .i64 0]) (t := 83) ?hr ?_; (case hd => rfl); (case hg => rfl); (case hr => first | (go_simp; done) | (go_simp; rfl)); intro gb102 hg w16 hbox hb; have hB_ := zI hb HB; have n0_ := Aside0.mk (below_step hB_ hb); have n1_ := Aside0.mk (hbox); have n2_ := Aside0.mk (bx0 hg hB_); have n3_ := n2_; clear HB; have HB := n0_; have BK102 := n1_; have GW102 := n2_; have GE102 := n3_; clear n0_ n1_ n2_ n3_ hB_ hb hbox hg; have hcz17_0 := cz BK102.out 0; have hcz17_1 := cz BK102.out 1; have hcz17_2 := cz BK102.out 2; have hfz17_0 := blk_frozen BK102.out 0; have hfz17_1 := blk_frozen BK102.out 1; have hfz17_2 := blk_frozen BK102.out 2) | (go_at_call 103; (with_reducible refine (impl_isBoxNumber.calls ((rd_T83 l0 x7_1).f0) true _ A5.out).mono ?_); rintro e w' ⟨rfl, ⟨nd, rfl⟩⟩; (try first | exact Q2 | exact Q3)) | (go_at_call 104; (with_reducible refine (impl_isMaterial.calls ((rd_T83 l0 x7_1).f1) true _ A7.out).mono ?_); rintro e w' ⟨rfl, ⟨nd, rfl⟩⟩; (try first | exact Q2 | exact Q3)) | (go_at_call 88; (with_reducible refine (impl_within.calls ((rd_T83 l0 x7_1).f2) 1 1000 true _ A9.out).mono ?_); rintro e w' ⟨rfl, ⟨nd, rfl⟩⟩; (try first | exact Q2 | exact Q3); have p106 : 0 ≤ ((ji12) : Int) := odt; have q106 : (ji12) < (l0.length : Int) := odt; obtain ⟨ad106, e106, hx106_0, hx106_1, hx106_2⟩ := at_T83 HR0.out (ji12) p106 q106; obtain rfl : ad101 = ad106 := Q4; have hn106_0 : ad101.block ≠ gb102 := Nat.ne_of_lt (Nat.lt_of_lt_of_le Q5 GW102.out); have hn106_1 : ad101.block ≠ gb102 := Nat.ne_of_lt (Nat.lt_of_lt_of_le Q5 GW102.out); have hn106_2 : ad101.block ≠ gb102 := Nat.ne_of_lt (Nat.lt_of_lt_of_le Q5 GW102.out); replace hx106_0 := hcI HB hx106_0; replace hx106_1 := hcI HB hx106_1; replace hx106_2 := hcI HB hx106_2; replace hx106_0 := (cell_far (p := ⟨gb102, 0, none⟩) Q6 (.int .i64 ((rd_T83 l0 x7_1).f0))).trans hx106_0; replace hx106_1 := (cell_far (p := ⟨gb102, 0, none⟩) Q6 (.int .i64 ((rd_T83 l0 x7_1).f0))).trans hx106_1; replace hx106_2 := (cell_far (p := ⟨gb102, 0, none⟩) Q6 (.int .i64 ((rd_T83 l0 x7_1).f0))).trans hx106_2; replace hx106_0 := (cell_far (p := ⟨gb102, 1, none⟩) Q7 (.int .i64 ((rd_T83 l0 x7_1).f1))).trans hx106_0; replace hx106_1 := (cell_far (p := ⟨gb102, 1, none⟩) Q7 (.int .i64 ((rd_T83 l0 x7_1).f1))).trans hx106_1; replace hx106_2 := (cell_far (p := ⟨gb102, 1, none⟩) Q7 (.int .i64 ((rd_T83 l0 x7_1).f1))).trans hx106_2; replace hx106_0 := (cell_far (p := ⟨gb102, 2, none⟩) Q8 (.int .i64 ((rd_T83 l0 x7_1).f2))).trans hx106_0; replace hx106_1 := (cell_far (p := ⟨gb102, 2, none⟩) Q8 (.int .i64 ((rd_T83 l0 x7_1).f2))).trans hx106_1; replace hx106_2 := (cell_far (p := ⟨gb102, 2, none⟩) Q8 (.int .i64 ((rd_T83 l0 x7_1).f2))).trans hx106_2; (try have hy106_0 := fun (n_ : Nat) => (show (((((w16.drewN n_).setCell ⟨gb102, 0, none⟩ (.int .i64 ((rd_T83 l0 x7_1).f0))).setCell ⟨gb102, 1, none⟩ (.int .i64 ((rd_T83 l0 x7_1).f1))).setCell ⟨gb102, 2, none⟩ (.int .i64 ((rd_T83 l0 x7_1).f2)))).cell? _ = some _ from hx106_0)); (try have hy106_1 := fun (n_ : Nat) => (show (((((w16.drewN n_).setCell ⟨gb102, 0, none⟩ (.int .i64 ((rd_T83 l0 x7_1).f0))).setCell ⟨gb102, 1, none⟩ (.int .i64 ((rd_T83 l0 x7_1).f1))).setCell ⟨gb102, 2, none⟩ (.int .i64 ((rd_T83 l0 x7_1).f2)))).cell? _ = some _ from hx106_1)); (try have hy106_2 := fun (n_ : Nat) => (show (((((w16.drewN n_).setCell ⟨gb102, 0, none⟩ (.int .i64 ((rd_T83 l0 x7_1).f0))).setCell ⟨gb102, 1, none⟩ (.int .i64 ((rd_T83 l0 x7_1).f1))).setCell ⟨gb102, 2, none⟩ (.int .i64 ((rd_T83 l0 x7_1).f2)))).cell? _ = some _ from hx106_2)); clear hn106_0 hn106_1 hn106_2; replace p106 := eq_true p106; replace q106 := eq_true q106)); try go_wp2_with (first | ((with_reducible refine gate_dst (N := 4) rfl ?_); refine box_event ?hg (N := 4) ?hd (cs := #[.int .i64 0, .int .i64 0, .int .i64 0]) (t := 83) ?hr ?_; (case hd => rfl); (case hg => rfl); (case hr => first | (go_simp; done) | (go_simp; rfl)); intro gb102 hg w16 hbox hb; have hB_ := zI hb HB; have n0_ := Aside0.mk (below_step hB_ hb); have n1_ := Aside0.mk (hbox); have n2_ := Aside0.mk (bx0 hg hB_); have n3_ := n2_; clear HB; have HB := n0_; have BK102 := n1_; have GW102 := n2_; have GE102 := n3_; clear n0_ n1_ n2_ n3_ hB_ hb hbox hg; have hcz17_0 := cz BK102.out 0; have hcz17_1 := cz BK102.out 1; have hcz17_2 := cz BK102.out 2; have hfz17_0 := blk_frozen BK102.out 0; have hfz17_1 := blk_frozen BK102.out 1; have hfz17_2 := blk_frozen BK102.out 2) | (go_at_call 103; (with_reducible refine (impl_isBoxNumber.calls ((rd_T83 l0 x7_1).f0) true _ A5.out).mono ?_); rintro e w' ⟨rfl, ⟨nd, rfl⟩⟩; (try first | exact Q2 | exact Q3)) | (go_at_call 104; (with_reducible refine (impl_isMaterial.calls ((rd_T83 l0 x7_1).f1) true _ A7.out).mono ?_); rintro e w' ⟨rfl, ⟨nd, rfl⟩⟩; (try first | exact Q2 | exact Q3)) | (go_at_call 88; (with_reducible refine (impl_within.calls ((rd_T83 l0 x7_1).f2) 1 1000 true _ A9.out).mono ?_); rintro e w' ⟨rfl, ⟨nd, rfl⟩⟩; (try first | exact Q2 | exact Q3); have p106 : 0 ≤ ((ji12) : Int) := odt; have q106 : (ji12) < (l0.length : Int) := odt; obtain ⟨ad106, e106, hx106_0, hx106_1, hx106_2⟩ := at_T83 HR0.out (ji12) p106 q106; obtain rfl : ad101 = ad106 := Q4; have hn106_0 : ad101.block ≠ gb102 := Nat.ne_of_lt (Nat.lt_of_lt_of_le Q5 GW102.out); have hn106_1 : ad101.block ≠ gb102 := Nat.ne_of_lt (Nat.lt_of_lt_of_le Q5 GW102.out); have hn106_2 : ad101.block ≠ gb102 := Nat.ne_of_lt (Nat.lt_of_lt_of_le Q5 GW102.out); replace hx106_0 := hcI HB hx106_0; replace hx106_1 := hcI HB hx106_1; replace hx106_2 := hcI HB hx106_2; replace hx106_0 := (cell_far (p := ⟨gb102, 0, none⟩) Q6 (.int .i64 ((rd_T83 l0 x7_1).f0))).trans hx106_0; replace hx106_1 := (cell_far (p := ⟨gb102, 0, none⟩) Q6 (.int .i64 ((rd_T83 l0 x7_1).f0))).trans hx106_1; replace hx106_2 := (cell_far (p := ⟨gb102, 0, none⟩) Q6 (.int .i64 ((rd_T83 l0 x7_1).f0))).trans hx106_2; replace hx106_0 := (cell_far (p := ⟨gb102, 1, none⟩) Q7 (.int .i64 ((rd_T83 l0 x7_1).f1))).trans hx106_0; replace hx106_1 := (cell_far (p := ⟨gb102, 1, none⟩) Q7 (.int .i64 ((rd_T83 l0 x7_1).f1))).trans hx106_1; replace hx106_2 := (cell_far (p := ⟨gb102, 1, none⟩) Q7 (.int .i64 ((rd_T83 l0 x7_1).f1))).trans hx106_2; replace hx106_0 := (cell_far (p := ⟨gb102, 2, none⟩) Q8 (.int .i64 ((rd_T83 l0 x7_1).f2))).trans hx106_0; replace hx106_1 := (cell_far (p := ⟨gb102, 2, none⟩) Q8 (.int .i64 ((rd_T83 l0 x7_1).f2))).trans hx106_1; replace hx106_2 := (cell_far (p := ⟨gb102, 2, none⟩) Q8 (.int .i64 ((rd_T83 l0 x7_1).f2))).trans hx106_2; (try have hy106_0 := fun (n_ : Nat) => (show (((((w16.drewN n_).setCell ⟨gb102, 0, none⟩ (.int .i64 ((rd_T83 l0 x7_1).f0))).setCell ⟨gb102, 1, none⟩ (.int .i64 ((rd_T83 l0 x7_1).f1))).setCell ⟨gb102, 2, none⟩ (.int .i64 ((rd_T83 l0 x7_1).f2)))).cell? _ = some _ from hx106_0)); (try have hy106_1 := fun (n_ : Nat) => (show (((((w16.drewN n_).setCell ⟨gb102, 0, none⟩ (.int .i64 ((rd_T83 l0 x7_1).f0))).setCell ⟨gb102, 1, none⟩ (.int .i64 ((rd_T83 l0 x7_1).f1))).setCell ⟨gb102, 2, none⟩ (.int .i64 ((rd_T83 l0 x7_1).f2)))).cell? _ = some _ from hx106_1)); (try have hy106_2 := fun (n_ : Nat) => (show (((((w16.drewN n_).setCell ⟨gb102, 0, none⟩ (.int .i64 ((rd_T83 l0 x7_1).f0))).setCell ⟨gb102, 1, none⟩ (.int .i64 ((rd_T83 l0 x7_1).f1))).setCell ⟨gb102, 2, none⟩ (.int .i64 ((rd_T83 l0 x7_1).f2)))).cell? _ = some _ from hx106_2)); clear hn106_0 hn106_1 hn106_2; replace p106 := eq_true p106; replace q106 := eq_true q106)))
             go_ret; (exact ⟨by first | rfl | (simp [errW_none, errW_some] <;> rfl) | (simp only [← hji12]; first | rfl | (simp [errW_none, errW_some] <;> rfl)) | (simp [*, errW_none, errW_some] <;> rfl), Q9⟩)
            ·rw [if_neg c15] at H
             (have c15b0 := decide_eq_false c15); clear c15; (have H' := Aside0.mk H); clear H; (have p101 : 0 ≤ (x7_1 : Int) := odt); (have q101 : x7_1 < (l0.length : Int) := odt); (obtain ⟨ad101, e101, hx101_0, hx101_1, hx101_2⟩ := at_T83 HR0.out x7_1 p101 q101); (cases e101); (replace hx101_0 := hcI HB hx101_0); (replace hx101_1 := hcI HB hx101_1); (replace hx101_2 := hcI HB hx101_2); (replace p101 := eq_true p101); (replace q101 := eq_true q101)
             go_wp2_with (first | ((with_reducible refine gate_dst (N := 4) rfl ?_); refine box_event ?hg (N := 4) ?hd (cs := #[.int .i64 0, .int .i64 0, .int .i64 0]) (t := 83) ?hr ?_; (case hd => rfl); (case hg => rfl); (case hr => first | (go_simp; done) | (go_simp; rfl)); intro gb102 hg w18 hbox hb; have hB_ := zI hb HB; have n0_ := Aside0.mk (below_step hB_ hb); have n1_ := Aside0.mk (hbox); have n2_ := Aside0.mk (bx0 hg hB_); have n3_ := n2_; clear HB; have HB := n0_; have BK102 := n1_; have GW102 := n2_; have GE102 := n3_; clear n0_ n1_ n2_ n3_ hB_ hb hbox hg; have hcz19_0 := cz BK102.out 0; have hcz19_1 := cz BK102.out 1; have hcz19_2 := cz BK102.out 2; have hfz19_0 := blk_frozen BK102.out 0; have hfz19_1 := blk_frozen BK102.out 1; have hfz19_2 := blk_frozen BK102.out 2) | (go_at_call 103; (with_reducible refine (impl_isBoxNumber.calls ((rd_T83 l0 x7_1).f0) true _ A5.out).mono ?_); rintro e w' ⟨rfl, ⟨nd, rfl⟩⟩; (try first | exact Q2 | exact Q3)) | (go_at_call 104; (with_reducible refine (impl_isMaterial.calls ((rd_T83 l0 x7_1).f1) true _ A7.out).mono ?_); rintro e w' ⟨rfl, ⟨nd, rfl⟩⟩; (try first | exact Q2 | exact Q3)) | (go_at_call 88; (with_reducible refine (impl_within.calls ((rd_T83 l0 x7_1).f2) 1 1000 true _ A9.out).mono ?_); rintro e w' ⟨rfl, ⟨nd, rfl⟩⟩; (try first | exact Q2 | exact Q3); have p106 : 0 ≤ ((ji12) : Int) := odt; have q106 : (ji12) < (l0.length : Int) := odt; obtain ⟨ad106, e106, hx106_0, hx106_1, hx106_2⟩ := at_T83 HR0.out (ji12) p106 q106; obtain rfl : ad101 = ad106 := Q4; have hn106_0 : ad101.block ≠ gb102 := Nat.ne_of_lt (Nat.lt_of_lt_of_le Q5 GW102.out); have hn106_1 : ad101.block ≠ gb102 := Nat.ne_of_lt (Nat.lt_of_lt_of_le Q5 GW102.out); have hn106_2 : ad101.block ≠ gb102 := Nat.ne_of_lt (Nat.lt_of_lt_of_le Q5 GW102.out); replace hx106_0 := hcI HB hx106_0; replace hx106_1 := hcI HB hx106_1; replace hx106_2 := hcI HB hx106_2; replace hx106_0 := (cell_far (p := ⟨gb102, 0, none⟩) Q6 (.int .i64 ((rd_T83 l0 x7_1).f0))).trans hx106_0; replace hx106_1 := (cell_far (p := ⟨gb102, 0, none⟩) Q6 (.int .i64 ((rd_T83 l0 x7_1).f0))).trans hx106_1; replace hx106_2 := (cell_far (p := ⟨gb102, 0, none⟩) Q6 (.int .i64 ((rd_T83 l0 x7_1).f0))).trans hx106_2; replace hx106_0 := (cell_far (p := ⟨gb102, 1, none⟩) Q7 (.int .i64 ((rd_T83 l0 x7_1).f1))).trans hx106_0; replace hx106_1 := (cell_far (p := ⟨gb102, 1, none⟩) Q7 (.int .i64 ((rd_T83 l0 x7_1).f1))).trans hx106_1; replace hx106_2 := (cell_far (p := ⟨gb102, 1, none⟩) Q7 (.int .i64 ((rd_T83 l0 x7_1).f1))).trans hx106_2; replace hx106_0 := (cell_far (p := ⟨gb102, 2, none⟩) Q8 (.int .i64 ((rd_T83 l0 x7_1).f2))).trans hx106_0; replace hx106_1 := (cell_far (p := ⟨gb102, 2, none⟩) Q8 (.int .i64 ((rd_T83 l0 x7_1).f2))).trans hx106_1; replace hx106_2 := (cell_far (p := ⟨gb102, 2, none⟩) Q8 (.int .i64 ((rd_T83 l0 x7_1).f2))).trans hx106_2; (try have hy106_0 := fun (n_ : Nat) => (show (((((w18.drewN n_).setCell ⟨gb102, 0, none⟩ (.int .i64 ((rd_T83 l0 x7_1).f0))).setCell ⟨gb102, 1, none⟩ (.int .i64 ((rd_T83 l0 x7_1).f1))).setCell ⟨gb102, 2, none⟩ (.int .i64 ((rd_T83 l0 x7_1).f2)))).cell? _ = some _ from hx106_0)); (try have hy106_1 := fun (n_ : Nat) => (show (((((w18.drewN n_).setCell ⟨gb102, 0, none⟩ (.int .i64 ((rd_T83 l0 x7_1).f0))).setCell ⟨gb102, 1, none⟩ (.int .i64 ((rd_T83 l0 x7_1).f1))).setCell ⟨gb102, 2, none⟩ (.int .i64 ((rd_T83 l0 x7_1).f2)))).cell? _ = some _ from hx106_1)); (try have hy106_2 := fun (n_ : Nat) => (show (((((w18.drewN n_).setCell ⟨gb102, 0, none⟩ (.int .i64 ((rd_T83 l0 x7_1).f0))).setCell ⟨gb102, 1, none⟩ (.int .i64 ((rd_T83 l0 x7_1).f1))).setCell ⟨gb102, 2, none⟩ (.int .i64 ((rd_T83 l0 x7_1).f2)))).cell? _ = some _ from hx106_2)); clear hn106_0 hn106_1 hn106_2; replace p106 := eq_true p106; replace q106 := eq_true q106))
             repeat (go_quiet (first | ((with_reducible refine gate_dst (N := 4) rfl ?_); refine box_event ?hg (N := 4) ?hd (cs := #[.int .i64 0, .int .i64 0, .int .i64 0]) (t := 83) ?hr ?_; (case hd => rfl); (case hg => rfl); (case hr => first | (go_simp; done) | (go_simp; rfl)); intro gb102 hg w18 hbox hb; have hB_ := zI hb HB; have n0_ := Aside0.mk (below_step hB_ hb); have n1_ := Aside0.mk (hbox); have n2_ := Aside0.mk (bx0 hg hB_); have n3_ := n2_; clear HB; have HB := n0_; have BK102 := n1_; have GW102 := n2_; have GE102 := n3_; clear n0_ n1_ n2_ n3_ hB_ hb hbox hg; have hcz19_0 := cz BK102.out 0; have hcz19_1 := cz BK102.out 1; have hcz19_2 := cz BK102.out 2; have hfz19_0 := blk_frozen BK102.out 0; have hfz19_1 := blk_frozen BK102.out 1; have hfz19_2 := blk_frozen BK102.out 2) | (go_at_call 103; (with_reducible refine (impl_isBoxNumber.calls ((rd_T83 l0 x7_1).f0) true _ A5.out).mono ?_); rintro e w' ⟨rfl, ⟨nd, rfl⟩⟩; (try first | exact Q2 | exact Q3)) | (go_at_call 104; (with_reducible refine (impl_isMaterial.calls ((rd_T83 l0 x7_1).f1) true _ A7.out).mono ?_); rintro e w' ⟨rfl, ⟨nd, rfl⟩⟩; (try first | exact Q2 | exact Q3)) | (go_at_call 88; (with_reducible refine (impl_within.calls ((rd_T83 l0 x7_1).f2) 1 1000 true _ A9.out).mono ?_); rintro e w' ⟨rfl, ⟨nd, rfl⟩⟩; (try first | exact Q2 | exact Q3); have p106 : 0 ≤ ((ji12) : Int) := odt; have q106 : (ji12) < (l0.length : Int) := odt; obtain ⟨ad106, e106, hx106_0, hx106_1, hx106_2⟩ := at_T83 HR0.out (ji12) p106 q106; obtain rfl : ad101 = ad106 := Q4; have hn106_0 : ad101.block ≠ gb102 := Nat.ne_of_lt (Nat.lt_of_lt_of_le Q5 GW102.out); have hn106_1 : ad101.block ≠ gb102 := Nat.ne_of_lt (Nat.lt_of_lt_of_le Q5 GW102.out); have hn106_2 : ad101.block ≠ gb102 := Nat.ne_of_lt (Nat.lt_of_lt_of_le Q5 GW102.out); replace hx106_0 := hcI HB hx106_0; replace hx106_1 := hcI HB hx106_1; replace hx106_2 := hcI HB hx106_2; replace hx106_0 := (cell_far (p := ⟨gb102, 0, none⟩) Q6 (.int .i64 ((rd_T83 l0 x7_1).f0))).trans hx106_0; replace hx106_1 := (cell_far (p := ⟨gb102, 0, none⟩) Q6 (.int .i64 ((rd_T83 l0 x7_1).f0))).trans hx106_1; replace hx106_2 := (cell_far (p := ⟨gb102, 0, none⟩) Q6 (.int .i64 ((rd_T83 l0 x7_1).f0))).trans hx106_2; replace hx106_0 := (cell_far (p := ⟨gb102, 1, none⟩) Q7 (.int .i64 ((rd_T83 l0 x7_1).f1))).trans hx106_0; replace hx106_1 := (cell_far (p := ⟨gb102, 1, none⟩) Q7 (.int .i64 ((rd_T83 l0 x7_1).f1))).trans hx106_1; replace hx106_2 := (cell_far (p := ⟨gb102, 1, none⟩) Q7 (.int .i64 ((rd_T83 l0 x7_1).f1))).trans hx106_2; replace hx106_0 := (cell_far (p := ⟨gb102, 2, none⟩) Q8 (.int .i64 ((rd_T83 l0 x7_1).f2))).trans hx106_0; replace hx106_1 := (cell_far (p := ⟨gb102, 2, none⟩) Q8 (.int .i64 ((rd_T83 l0 x7_1).f2))).trans hx106_1; replace hx106_2 := (cell_far (p := ⟨gb102, 2, none⟩) Q8 (.int .i64 ((rd_T83 l0 x7_1).f2))).trans hx106_2; (try have hy106_0 := fun (n_ : Nat) => (show (((((w18.drewN n_).setCell ⟨gb102, 0, none⟩ (.int .i64 ((rd_T83 l0 x7_1).f0))).setCell ⟨gb102, 1, none⟩ (.int .i64 ((rd_T83 l0 x7_1).f1))).setCell ⟨gb102, 2, none⟩ (.int .i64 ((rd_T83 l0 x7_1).f2)))).cell? _ = some _ from hx106_0)); (try have hy106_1 := fun (n_ : Nat) => (show (((((w18.drewN n_).setCell ⟨gb102, 0, none⟩ (.int .i64 ((rd_T83 l0 x7_1).f0))).setCell ⟨gb102, 1, none⟩ (.int .i64 ((rd_T83 l0 x7_1).f1))).setCell ⟨gb102, 2, none⟩ (.int .i64 ((rd_T83 l0 x7_1).f2)))).cell? _ = some _ from hx106_1)); (try have hy106_2 := fun (n_ : Nat) => (show (((((w18.drewN n_).setCell ⟨gb102, 0, none⟩ (.int .i64 ((rd_T83 l0 x7_1).f0))).setCell ⟨gb102, 1, none⟩ (.int .i64 ((rd_T83 l0 x7_1).f1))).setCell ⟨gb102, 2, none⟩ (.int .i64 ((rd_T83 l0 x7_1).f2)))).cell? _ = some _ from hx106_2)); clear hn106_0 hn106_1 hn106_2; replace p106 := eq_true p106; replace q106 := eq_true q106)); try go_wp2_with (first | ((with_reducible refine gate_dst (N := 4) rfl ?_); refine box_event ?hg (N := 4) ?hd (cs := #[.int .i64 0, .int .i64 0, .int .i64 0]) (t := 83) ?hr ?_; (case hd => rfl); (case hg => rfl); (case hr => first | (go_simp; done) | (go_simp; rfl)); intro gb102 hg w18 hbox hb; have hB_ := zI hb HB; have n0_ := Aside0.mk (below_step hB_ hb); have n1_ := Aside0.mk (hbox); have n2_ := Aside0.mk (bx0 hg hB_); have n3_ := n2_; clear HB; have HB := n0_; have BK102 := n1_; have GW102 := n2_; have GE102 := n3_; clear n0_ n1_ n2_ n3_ hB_ hb hbox hg; have hcz19_0 := cz BK102.out 0; have hcz19_1 := cz BK102.out 1; have hcz19_2 := cz BK102.out 2; have hfz19_0 := blk_frozen BK102.out 0; have hfz19_1 := blk_frozen BK102.out 1; have hfz19_2 := blk_frozen BK102.out 2) | (go_at_call 103; (with_reducible refine (impl_isBoxNumber.calls ((rd_T83 l0 x7_1).f0) true _ A5.out).mono ?_); rintro e w' ⟨rfl, ⟨nd, rfl⟩⟩; (try first | exact Q2 | exact Q3)) | (go_at_call 104; (with_reducible refine (impl_isMaterial.calls ((rd_T83 l0 x7_1).f1) true _ A7.out).mono ?_); rintro e w' ⟨rfl, ⟨nd, rfl⟩⟩; (try first | exact Q2 | exact Q3)) | (go_at_call 88; (with_reducible refine (impl_within.calls ((rd_T83 l0 x7_1).f2) 1 1000 true _ A9.out).mono ?_); rintro e w' ⟨rfl, ⟨nd, rfl⟩⟩; (try first | exact Q2 | exact Q3); have p106 : 0 ≤ ((ji12) : Int) := odt; have q106 : (ji12) < (l0.length : Int) := odt; obtain ⟨ad106, e106, hx106_0, hx106_1, hx106_2⟩ := at_T83 HR0.out (ji12) p106 q106; obtain rfl : ad101 = ad106 := Q4; have hn106_0 : ad101.block ≠ gb102 := Nat.ne_of_lt (Nat.lt_of_lt_of_le Q5 GW102.out); have hn106_1 : ad101.block ≠ gb102 := Nat.ne_of_lt (Nat.lt_of_lt_of_le Q5 GW102.out); have hn106_2 : ad101.block ≠ gb102 := Nat.ne_of_lt (Nat.lt_of_lt_of_le Q5 GW102.out); replace hx106_0 := hcI HB hx106_0; replace hx106_1 := hcI HB hx106_1; replace hx106_2 := hcI HB hx106_2; replace hx106_0 := (cell_far (p := ⟨gb102, 0, none⟩) Q6 (.int .i64 ((rd_T83 l0 x7_1).f0))).trans hx106_0; replace hx106_1 := (cell_far (p := ⟨gb102, 0, none⟩) Q6 (.int .i64 ((rd_T83 l0 x7_1).f0))).trans hx106_1; replace hx106_2 := (cell_far (p := ⟨gb102, 0, none⟩) Q6 (.int .i64 ((rd_T83 l0 x7_1).f0))).trans hx106_2; replace hx106_0 := (cell_far (p := ⟨gb102, 1, none⟩) Q7 (.int .i64 ((rd_T83 l0 x7_1).f1))).trans hx106_0; replace hx106_1 := (cell_far (p := ⟨gb102, 1, none⟩) Q7 (.int .i64 ((rd_T83 l0 x7_1).f1))).trans hx106_1; replace hx106_2 := (cell_far (p := ⟨gb102, 1, none⟩) Q7 (.int .i64 ((rd_T83 l0 x7_1).f1))).trans hx106_2; replace hx106_0 := (cell_far (p := ⟨gb102, 2, none⟩) Q8 (.int .i64 ((rd_T83 l0 x7_1).f2))).trans hx106_0; replace hx106_1 := (cell_far (p := ⟨gb102, 2, none⟩) Q8 (.int .i64 ((rd_T83 l0 x7_1).f2))).trans hx106_1; replace hx106_2 := (cell_far (p := ⟨gb102, 2, none⟩) Q8 (.int .i64 ((rd_T83 l0 x7_1).f2))).trans hx106_2; (try have hy106_0 := fun (n_ : Nat) => (show (((((w18.drewN n_).setCell ⟨gb102, 0, none⟩ (.int .i64 ((rd_T83 l0 x7_1).f0))).setCell ⟨gb102, 1, none⟩ (.int .i64 ((rd_T83 l0 x7_1).f1))).setCell ⟨gb102, 2, none⟩ (.int .i64 ((rd_T83 l0 x7_1).f2)))).cell? _ = some _ from hx106_0)); (try have hy106_1 := fun (n_ : Nat) => (show (((((w18.drewN n_).setCell ⟨gb102, 0, none⟩ (.int .i64 ((rd_T83 l0 x7_1).f0))).setCell ⟨gb102, 1, none⟩ (.int .i64 ((rd_T83 l0 x7_1).f1))).setCell ⟨gb102, 2, none⟩ (.int .i64 ((rd_T83 l0 x7_1).f2)))).cell? _ = some _ from hx106_1)); (try have hy106_2 := fun (n_ : Nat) => (show (((((w18.drewN n_).setCell ⟨gb102, 0, none⟩ (.int .i64 ((rd_T83 l0 x7_1).f0))).setCell ⟨gb102, 1, none⟩ (.int .i64 ((rd_T83 l0 x7_1).f1))).setCell ⟨gb102, 2, none⟩ (.int .i64 ((rd_T83 l0 x7_1).f2)))).cell? _ = some _ from hx106_2)); clear hn106_0 hn106_1 hn106_2; replace p106 := eq_true p106; replace q106 := eq_true q106)))
             go_roundg k1
             case measure => have := HK1.out; omega
             case rel => exact Q81
           ·rw [if_neg c14] at H
            exact Q11
          ·rw [if_neg c13] at H
           exact Q11
         ·rw [if_neg c11] at H
          (have c11b0 : decide (0 < x7_1) = false := decide_eq_false c11); clear c11; (have H' := Aside0.mk H); clear H; (have p101 : 0 ≤ (x7_1 : Int) := odt); (have q101 : x7_1 < (l0.length : Int) := odt); (obtain ⟨ad101, e101, hx101_0, hx101_1, hx101_2⟩ := at_T83 HR0.out x7_1 p101 q101); (cases e101); (replace hx101_0 := hcI HB hx101_0); (replace hx101_1 := hcI HB hx101_1); (replace hx101_2 := hcI HB hx101_2); (replace p101 := eq_true p101); (replace q101 := eq_true q101); (go_wp2_with (first | ((with_reducible refine gate_dst (N := 4) rfl ?_); refine box_event ?hg (N := 4) ?hd (cs := #[.int .i64 0, .int .i64 0, .int .i64 0]) (t := 83) ?hr ?_; (case hd => rfl); (case hg => rfl); (case hr => first | (go_simp; done) | (go_simp; rfl)); intro gb102 hg w20 hbox hb; have hB_ := zI hb HB; have n0_ := Aside0.mk (below_step hB_ hb); have n1_ := Aside0.mk (hbox); have n2_ := Aside0.mk (bx0 hg hB_); have n3_ := n2_; clear HB; have HB := n0_; have BK102 := n1_; have GW102 := n2_; have GE102 := n3_; clear n0_ n1_ n2_ n3_ hB_ hb hbox hg; have hcz21_0 := cz BK102.out 0; have hcz21_1 := cz BK102.out 1; have hcz21_2 := cz BK102.out 2; have hfz21_0 := blk_frozen BK102.out 0; have hfz21_1 := blk_frozen BK102.out 1; have hfz21_2 := blk_frozen BK102.out 2) | (go_at_call 103; (with_reducible refine (impl_isBoxNumber.calls ((rd_T83 l0 x7_1).f0) true _ A5.out).mono ?_); rintro e w' ⟨rfl, ⟨nd, rfl⟩⟩; (try first | exact Q2 | exact Q3)) | (go_at_call 104; (with_reducible refine (impl_isMaterial.calls ((rd_T83 l0 x7_1).f1) true _ A7.out).mono ?_); rintro e w' ⟨rfl, ⟨nd, rfl⟩⟩; (try first | exact Q2 | exact Q3)) | (go_at_call 88; (with_reducible refine (impl_within.calls ((rd_T83 l0 x7_1).f2) 1 1000 true _ A9.out).mono ?_); rintro e w' ⟨rfl, ⟨nd, rfl⟩⟩; (try first | exact Q2 | exact Q3))))
          (repeat (go_quiet (first | ((with_reducible refine gate_dst (N := 4) rfl ?_); refine box_event ?hg (N := 4) ?hd (cs := #[.int .i64 0, .int .i64 0, .int .i64 0]) (t := 83) ?hr ?_; (case hd => rfl); (case hg => rfl); (case hr => first | (go_simp; done) | (go_simp; rfl)); intro gb102 hg w20 hbox hb; have hB_ := zI hb HB; have n0_ := Aside0.mk (below_step hB_ hb); have n1_ := Aside0.mk (hbox); have n2_ := Aside0.mk (bx0 hg hB_); have n3_ := n2_; clear HB; have HB := n0_; have BK102 := n1_; have GW102 := n2_; have GE102 := n3_; clear n0_ n1_ n2_ n3_ hB_ hb hbox hg; have hcz21_0 := cz BK102.out 0; have hcz21_1 := cz BK102.out 1; have hcz21_2 := cz BK102.out 2; have hfz21_0 := blk_frozen BK102.out 0; have hfz21_1 := blk_frozen BK102.out 1; have hfz21_2 := blk_frozen BK102.out 2) | (go_at_call 103; (with_reducible refine (impl_isBoxNumber.calls ((rd_T83 l0 x7_1).f0) true _ A5.out).mono ?_); rintro e w' ⟨rfl, ⟨nd, rfl⟩⟩; (try first | exact Q2 | exact Q3)) | (go_at_call 104; (with_reducible refine (impl_isMaterial.calls ((rd_T83 l0 x7_1).f1) true _ A7.out).mono ?_); rintro e w' ⟨rfl, ⟨nd, rfl⟩⟩; (try first | exact Q2 | exact Q3)) | (go_at_call 88; (with_reducible refine (impl_within.calls ((rd_T83 l0 x7_1).f2) 1 1000 true _ A9.out).mono ?_); rintro e w' ⟨rfl, ⟨nd, rfl⟩⟩; (try first | exact Q2 | exact Q3))); try go_wp2_with (first | ((with_reducible refine gate_dst (N := 4) rfl ?_); refine box_event ?hg (N := 4) ?hd (cs := #[.int .i64 0, .int .i64 0, .int .i64 0]) (t := 83) ?hr ?_; (case hd => rfl); (case hg => rfl); (case hr => first | (go_simp; done) | (go_simp; rfl)); intro gb102 hg w20 hbox hb; have hB_ := zI hb HB; have n0_ := Aside0.mk (below_step hB_ hb); have n1_ := Aside0.mk (hbox); have n2_ := Aside0.mk (bx0 hg hB_); have n3_ := n2_; clear HB; have HB := n0_; have BK102 := n1_; have GW102 := n2_; have GE102 := n3_; clear n0_ n1_ n2_ n3_ hB_ hb hbox hg; have hcz21_0 := cz BK102.out 0; have hcz21_1 := cz BK102.out 1; have hcz21_2 := cz BK102.out 2; have hfz21_0 := blk_frozen BK102.out 0; have hfz21_1 := blk_frozen BK102.out 1; have hfz21_2 := blk_frozen BK102.out 2) | (go_at_call 103; (with_reducible refine (impl_isBoxNumber.calls ((rd_T83 l0 x7_1).f0) true _ A5.out).mono ?_); rintro e w' ⟨rfl, ⟨nd, rfl⟩⟩; (try first | exact Q2 | exact Q3)) | (go_at_call 104; (with_reducible refine (impl_isMaterial.calls ((rd_T83 l0 x7_1).f1) true _ A7.out).mono ?_); rintro e w' ⟨rfl, ⟨nd, rfl⟩⟩; (try first | exact Q2 | exact Q3)) | (go_at_call 88; (with_reducible refine (impl_within.calls ((rd_T83 l0 x7_1).f2) 1 1000 true _ A9.out).mono ?_); rintro e w' ⟨rfl, ⟨nd, rfl⟩⟩; (try first | exact Q2 | exact Q3))))); go_roundg k1
          case measure => have := HK1.out; omega
          case rel => exact Q81
        ·replace c10 := Bool.eq_false_iff.mpr c10
         subst c10; (rw [if_neg (show ¬ (false = true) by decide)] at H); (obtain rfl := Option.some.inj H); (have p101 : 0 ≤ (x7_1 : Int) := odt); (have q101 : x7_1 < (l0.length : Int) := odt); (obtain ⟨ad101, e101, hx101_0, hx101_1, hx101_2⟩ := at_T83 HR0.out x7_1 p101 q101); (cases e101); (replace hx101_0 := hcI HB hx101_0); (replace hx101_1 := hcI HB hx101_1); (replace hx101_2 := hcI HB hx101_2); (replace p101 := eq_true p101); (replace q101 := eq_true q101); (go_wp2_with (first | ((with_reducible refine gate_dst (N := 4) rfl ?_); refine box_event ?hg (N := 4) ?hd (cs := #[.int .i64 0, .int .i64 0, .int .i64 0]) (t := 83) ?hr ?_; (case hd => rfl); (case hg => rfl); (case hr => first | (go_simp; done) | (go_simp; rfl)); intro gb102 hg w22 hbox hb; have hB_ := zI hb HB; have n0_ := Aside0.mk (below_step hB_ hb); have n1_ := Aside0.mk (hbox); have n2_ := Aside0.mk (bx0 hg hB_); have n3_ := n2_; clear HB; have HB := n0_; have BK102 := n1_; have GW102 := n2_; have GE102 := n3_; clear n0_ n1_ n2_ n3_ hB_ hb hbox hg; have hcz23_0 := cz BK102.out 0; have hcz23_1 := cz BK102.out 1; have hcz23_2 := cz BK102.out 2; have hfz23_0 := blk_frozen BK102.out 0; have hfz23_1 := blk_frozen BK102.out 1; have hfz23_2 := blk_frozen BK102.out 2) | (go_at_call 103; (with_reducible refine (impl_isBoxNumber.calls ((rd_T83 l0 x7_1).f0) true _ A5.out).mono ?_); rintro e w' ⟨rfl, ⟨nd, rfl⟩⟩; (try first | exact Q2 | exact Q3)) | (go_at_call 104; (with_reducible refine (impl_isMaterial.calls ((rd_T83 l0 x7_1).f1) true _ A7.out).mono ?_); rintro e w' ⟨rfl, ⟨nd, rfl⟩⟩; (try first | exact Q2 | exact Q3)) | (go_at_call 88; (with_reducible refine (impl_within.calls ((rd_T83 l0 x7_1).f2) 1 1000 false _ A9.out).mono ?_); rintro e w' ⟨rfl, ⟨nd, rfl⟩⟩; (try first | exact Q2 | exact Q3))))
         (repeat (go_quiet (first | ((with_reducible refine gate_dst (N := 4) rfl ?_); refine box_event ?hg (N := 4) ?hd (cs := #[.int .i64 0, .int .i64 0, .int .i64 0]) (t := 83) ?hr ?_; (case hd => rfl); (case hg => rfl); (case hr => first | (go_simp; done) | (go_simp; rfl)); intro gb102 hg w22 hbox hb; have hB_ := zI hb HB; have n0_ := Aside0.mk (below_step hB_ hb); have n1_ := Aside0.mk (hbox); have n2_ := Aside0.mk (bx0 hg hB_); have n3_ := n2_; clear HB; have HB := n0_; have BK102 := n1_; have GW102 := n2_; have GE102 := n3_; clear n0_ n1_ n2_ n3_ hB_ hb hbox hg; have hcz23_0 := cz BK102.out 0; have hcz23_1 := cz BK102.out 1; have hcz23_2 := cz BK102.out 2; have hfz23_0 := blk_frozen BK102.out 0; have hfz23_1 := blk_frozen BK102.out 1; have hfz23_2 := blk_frozen BK102.out 2) | (go_at_call 103; (with_reducible refine (impl_isBoxNumber.calls ((rd_T83 l0 x7_1).f0) true _ A5.out).mono ?_); rintro e w' ⟨rfl, ⟨nd, rfl⟩⟩; (try first | exact Q2 | exact Q3)) | (go_at_call 104; (with_reducible refine (impl_isMaterial.calls ((rd_T83 l0 x7_1).f1) true _ A7.out).mono ?_); rintro e w' ⟨rfl, ⟨nd, rfl⟩⟩; (try first | exact Q2 | exact Q3)) | (go_at_call 88; (with_reducible refine (impl_within.calls ((rd_T83 l0 x7_1).f2) 1 1000 false _ A9.out).mono ?_); rintro e w' ⟨rfl, ⟨nd, rfl⟩⟩; (try first | exact Q2 | exact Q3))); try go_wp2_with (first | ((with_reducible refine gate_dst (N := 4) rfl ?_); refine box_event ?hg (N := 4) ?hd (cs := #[.int .i64 0, .int .i64 0, .int .i64 0]) (t := 83) ?hr ?_; (case hd => rfl); (case hg => rfl); (case hr => first | (go_simp; done) | (go_simp; rfl)); intro gb102 hg w22 hbox hb; have hB_ := zI hb HB; have n0_ := Aside0.mk (below_step hB_ hb); have n1_ := Aside0.mk (hbox); have n2_ := Aside0.mk (bx0 hg hB_); have n3_ := n2_; clear HB; have HB := n0_; have BK102 := n1_; have GW102 := n2_; have GE102 := n3_; clear n0_ n1_ n2_ n3_ hB_ hb hbox hg; have hcz23_0 := cz BK102.out 0; have hcz23_1 := cz BK102.out 1; have hcz23_2 := cz BK102.out 2; have hfz23_0 := blk_frozen BK102.out 0; have hfz23_1 := blk_frozen BK102.out 1; have hfz23_2 := blk_frozen BK102.out 2) | (go_at_call 103; (with_reducible refine (impl_isBoxNumber.calls ((rd_T83 l0 x7_1).f0) true _ A5.out).mono ?_); rintro e w' ⟨rfl, ⟨nd, rfl⟩⟩; (try first | exact Q2 | exact Q3)) | (go_at_call 104; (with_reducible refine (impl_isMaterial.calls ((rd_T83 l0 x7_1).f1) true _ A7.out).mono ?_); rintro e w' ⟨rfl, ⟨nd, rfl⟩⟩; (try first | exact Q2 | exact Q3)) | (go_at_call 88; (with_reducible refine (impl_within.calls ((rd_T83 l0 x7_1).f2) 1 1000 false _ A9.out).mono ?_); rintro e w' ⟨rfl, ⟨nd, rfl⟩⟩; (try first | exact Q2 | exact Q3))))); go_ret; (exact Q12)
       ·replace c8 := Bool.eq_false_iff.mpr c8
        subst c8; (rw [if_neg (show ¬ (false = true) by decide)] at H); (obtain rfl := Option.some.inj H); (have p101 : 0 ≤ (x7_1 : Int) := odt); (have q101 : x7_1 < (l0.length : Int) := odt); (obtain ⟨ad101, e101, hx101_0, hx101_1, hx101_2⟩ := at_T83 HR0.out x7_1 p101 q101); (cases e101); (replace hx101_0 := hcI HB hx101_0); (replace hx101_1 := hcI HB hx101_1); (replace hx101_2 := hcI HB hx101_2); (replace p101 := eq_true p101); (replace q101 := eq_true q101); (go_wp2_with (first | ((with_reducible refine gate_dst (N := 4) rfl ?_); refine box_event ?hg (N := 4) ?hd (cs := #[.int .i64 0, .int .i64 0, .int .i64 0]) (t := 83) ?hr ?_; (case hd => rfl); (case hg => rfl); (case hr => first | (go_simp; done) | (go_simp; rfl)); intro gb102 hg w24 hbox hb; have hB_ := zI hb HB; have n0_ := Aside0.mk (below_step hB_ hb); have n1_ := Aside0.mk (hbox); have n2_ := Aside0.mk (bx0 hg hB_); have n3_ := n2_; clear HB; have HB := n0_; have BK102 := n1_; have GW102 := n2_; have GE102 := n3_; clear n0_ n1_ n2_ n3_ hB_ hb hbox hg; have hcz25_0 := cz BK102.out 0; have hcz25_1 := cz BK102.out 1; have hcz25_2 := cz BK102.out 2; have hfz25_0 := blk_frozen BK102.out 0; have hfz25_1 := blk_frozen BK102.out 1; have hfz25_2 := blk_frozen BK102.out 2) | (go_at_call 103; (with_reducible refine (impl_isBoxNumber.calls ((rd_T83 l0 x7_1).f0) true _ A5.out).mono ?_); rintro e w' ⟨rfl, ⟨nd, rfl⟩⟩; (try first | exact Q2 | exact Q3)) | (go_at_call 104; (with_reducible refine (impl_isMaterial.calls ((rd_T83 l0 x7_1).f1) false _ A7.out).mono ?_); rintro e w' ⟨rfl, ⟨nd, rfl⟩⟩; (try first | exact Q2 | exact Q3)))); (repeat (go_quiet (first | ((with_reducible refine gate_dst (N := 4) rfl ?_); refine box_event ?hg (N := 4) ?hd (cs := #[.int .i64 0, .int .i64 0, .int .i64 0]) (t := 83) ?hr ?_; (case hd => rfl); (case hg => rfl); (case hr => first | (go_simp; done) | (go_simp; rfl)); intro gb102 hg w24 hbox hb; have hB_ := zI hb HB; have n0_ := Aside0.mk (below_step hB_ hb); have n1_ := Aside0.mk (hbox); have n2_ := Aside0.mk (bx0 hg hB_); have n3_ := n2_; clear HB; have HB := n0_; have BK102 := n1_; have GW102 := n2_; have GE102 := n3_; clear n0_ n1_ n2_ n3_ hB_ hb hbox hg; have hcz25_0 := cz BK102.out 0; have hcz25_1 := cz BK102.out 1; have hcz25_2 := cz BK102.out 2; have hfz25_0 := blk_frozen BK102.out 0; have hfz25_1 := blk_frozen BK102.out 1; have hfz25_2 := blk_frozen BK102.out 2) | (go_at_call 103; (with_reducible refine (impl_isBoxNumber.calls ((rd_T83 l0 x7_1).f0) true _ A5.out).mono ?_); rintro e w' ⟨rfl, ⟨nd, rfl⟩⟩; (try first | exact Q2 | exact Q3)) | (go_at_call 104; (with_reducible refine (impl_isMaterial.calls ((rd_T83 l0 x7_1).f1) false _ A7.out).mono ?_); rintro e w' ⟨rfl, ⟨nd, rfl⟩⟩; (try first | exact Q2 | exact Q3))); try go_wp2_with (first | ((with_reducible refine gate_dst (N := 4) rfl ?_); refine box_event ?hg (N := 4) ?hd (cs := #[.int .i64 0, .int .i64 0, .int .i64 0]) (t := 83) ?hr ?_; (case hd => rfl); (case hg => rfl); (case hr => first | (go_simp; done) | (go_simp; rfl)); intro gb102 hg w24 hbox hb; have hB_ := zI hb HB; have n0_ := Aside0.mk (below_step hB_ hb); have n1_ := Aside0.mk (hbox); have n2_ := Aside0.mk (bx0 hg hB_); have n3_ := n2_; clear HB; have HB := n0_; have BK102 := n1_; have GW102 := n2_; have GE102 := n3_; clear n0_ n1_ n2_ n3_ hB_ hb hbox hg; have hcz25_0 := cz BK102.out 0; have hcz25_1 := cz BK102.out 1; have hcz25_2 := cz BK102.out 2; have hfz25_0 := blk_frozen BK102.out 0; have hfz25_1 := blk_frozen BK102.out 1; have hfz25_2 := blk_frozen BK102.out 2) | (go_at_call 103; (with_reducible refine (impl_isBoxNumber.calls ((rd_T83 l0 x7_1).f0) true _ A5.out).mono ?_); rintro e w' ⟨rfl, ⟨nd, rfl⟩⟩; (try first | exact Q2 | exact Q3)) | (go_at_call 104; (with_reducible refine (impl_isMaterial.calls ((rd_T83 l0 x7_1).f1) false _ A7.out).mono ?_); rintro e w' ⟨rfl, ⟨nd, rfl⟩⟩; (try first | exact Q2 | exact Q3))))); go_ret; (exact Q12)
      ·replace c6 := Bool.eq_false_iff.mpr c6
       subst c6; (rw [if_neg (show ¬ (false = true) by decide)] at H); (obtain rfl := Option.some.inj H); (have p101 : 0 ≤ (x7_1 : Int) := odt); (have q101 : x7_1 < (l0.length : Int) := odt); (obtain ⟨ad101, e101, hx101_0, hx101_1, hx101_2⟩ := at_T83 HR0.out x7_1 p101 q101); (cases e101); (replace hx101_0 := hcI HB hx101_0); (replace hx101_1 := hcI HB hx101_1); (replace hx101_2 := hcI HB hx101_2); (replace p101 := eq_true p101); (replace q101 := eq_true q101); (go_wp2_with (first | ((with_reducible refine gate_dst (N := 4) rfl ?_); refine box_event ?hg (N := 4) ?hd (cs := #[.int .i64 0, .int .i64 0, .int .i64 0]) (t := 83) ?hr ?_; (case hd => rfl); (case hg => rfl); (case hr => first | (go_simp; done) | (go_simp; rfl)); intro gb102 hg w26 hbox hb; have hB_ := zI hb HB; have n0_ := Aside0.mk (below_step hB_ hb); have n1_ := Aside0.mk (hbox); have n2_ := Aside0.mk (bx0 hg hB_); have n3_ := n2_; clear HB; have HB := n0_; have BK102 := n1_; have GW102 := n2_; have GE102 := n3_; clear n0_ n1_ n2_ n3_ hB_ hb hbox hg; have hcz27_0 := cz BK102.out 0; have hcz27_1 := cz BK102.out 1; have hcz27_2 := cz BK102.out 2; have hfz27_0 := blk_frozen BK102.out 0; have hfz27_1 := blk_frozen BK102.out 1; have hfz27_2 := blk_frozen BK102.out 2) | (go_at_call 103; (with_reducible refine (impl_isBoxNumber.calls ((rd_T83 l0 x7_1).f0) false _ A5.out).mono ?_); rintro e w' ⟨rfl, ⟨nd, rfl⟩⟩; (try first | exact Q2 | exact Q3)))); (repeat (go_quiet (first | ((with_reducible refine gate_dst (N := 4) rfl ?_); refine box_event ?hg (N := 4) ?hd (cs := #[.int .i64 0, .int .i64 0, .int .i64 0]) (t := 83) ?hr ?_; (case hd => rfl); (case hg => rfl); (case hr => first | (go_simp; done) | (go_simp; rfl)); intro gb102 hg w26 hbox hb; have hB_ := zI hb HB; have n0_ := Aside0.mk (below_step hB_ hb); have n1_ := Aside0.mk (hbox); have n2_ := Aside0.mk (bx0 hg hB_); have n3_ := n2_; clear HB; have HB := n0_; have BK102 := n1_; have GW102 := n2_; have GE102 := n3_; clear n0_ n1_ n2_ n3_ hB_ hb hbox hg; have hcz27_0 := cz BK102.out 0; have hcz27_1 := cz BK102.out 1; have hcz27_2 := cz BK102.out 2; have hfz27_0 := blk_frozen BK102.out 0; have hfz27_1 := blk_frozen BK102.out 1; have hfz27_2 := blk_frozen BK102.out 2) | (go_at_call 103; (with_reducible refine (impl_isBoxNumber.calls ((rd_T83 l0 x7_1).f0) false _ A5.out).mono ?_); rintro e w' ⟨rfl, ⟨nd, rfl⟩⟩; (try first | exact Q2 | exact Q3))); try go_wp2_with (first | ((with_reducible refine gate_dst (N := 4) rfl ?_); refine box_event ?hg (N := 4) ?hd (cs := #[.int .i64 0, .int .i64 0, .int .i64 0]) (t := 83) ?hr ?_; (case hd => rfl); (case hg => rfl); (case hr => first | (go_simp; done) | (go_simp; rfl)); intro gb102 hg w26 hbox hb; have hB_ := zI hb HB; have n0_ := Aside0.mk (below_step hB_ hb); have n1_ := Aside0.mk (hbox); have n2_ := Aside0.mk (bx0 hg hB_); have n3_ := n2_; clear HB; have HB := n0_; have BK102 := n1_; have GW102 := n2_; have GE102 := n3_; clear n0_ n1_ n2_ n3_ hB_ hb hbox hg; have hcz27_0 := cz BK102.out 0; have hcz27_1 := cz BK102.out 1; have hcz27_2 := cz BK102.out 2; have hfz27_0 := blk_frozen BK102.out 0; have hfz27_1 := blk_frozen BK102.out 1; have hfz27_2 := blk_frozen BK102.out 2) | (go_at_call 103; (with_reducible refine (impl_isBoxNumber.calls ((rd_T83 l0 x7_1).f0) false _ A5.out).mono ?_); rintro e w' ⟨rfl, ⟨nd, rfl⟩⟩; (try first | exact Q2 | exact Q3))))); go_ret; (exact Q12)
     ·rw [if_neg c4] at H
      exact Q11
    ·rw [if_neg c3] at H
     exact Q11
   ·rw [if_neg c2] at H
    (have c2b0 := decide_eq_false c2); clear c2; (obtain rfl := Option.some.inj H); (go_wp2); (repeat (go_quiet (fail); try go_wp2)); go_ret; (exact Q13)
end Go.Proofs.Ytdbhelhoaciodaa.X
set_option linter.unusedVariables false
set_option linter.unusedSimpArgs false
namespace Go.Proofs.Ytdbhelhoaciodaa.E
open Go.RowKit Go.Proofs.YtdbhelhoaciodaaW.PrintWords
variable {α β S R : Type}
theorem ev_cast {g : Nat → Option α} {r r' : α} (h : Ev g r) (e : r = r') : Ev g r' := e ▸ h
theorem ev_pos {c : Prop} [Decidable c] (h : c) {f g : Nat → Option α} {r : α} (k : Ev f r) : Ev (fun k => if c then f k else g k) r := Ev.congr (fun _ => if_pos h) k
theorem ev_neg {c : Prop} [Decidable c] (h : ¬ c) {f g : Nat → Option α} {r : α} (k : Ev g r) : Ev (fun k => if c then f k else g k) r := Ev.congr (fun _ => if_neg h) k
theorem ev_ite {c : Prop} [Decidable c] {f g : Nat → Option α} {r : α} (h1 : c → Ev f r) (h2 : ¬ c → Ev g r) : Ev (fun k => if c then f k else g k) r := by
  by_cases h : c
  · exact ev_pos h (h1 h)
  · exact ev_neg h (h2 h)
theorem ev_now {r r' : α} (e : r = r') : Ev (fun _ => some r) r' := e ▸ Ev.now r
theorem ev_bind0 {o : Option α} {a : α} (h : o = some a) {f : Nat → α → Option β} {r : β} (k : Ev (fun n => f n a) r) : Ev (fun n => o.bind (f n)) r := by subst h; exact k
theorem ev_some {a : α} {f : Nat → α → Option β} {r : β} (k : Ev (fun n => f n a) r) : Ev (fun n => (some a).bind (f n)) r := k
theorem ev_get {g : Nat → Option α} {r : α} (h : Ev g r) : ∃ k, g k = some r := Ev.rounds h
theorem wrap_id {x : Int} (h0 : -9223372036854775808 ≤ x) (h1 : x ≤ 9223372036854775807) : wrap64 x = x := IntWalk.wrap64_in x ⟨h0, h1⟩
theorem wrap_succ {i n : Nat} (h : i < n) (hn : n ≤ 9223372036854775807) : wrap64 ((i : Int) + 1) = ((i + 1 : Nat) : Int) := by rw [wrap_id] <;> omega
theorem rd_nat (xs : List Int) (i : Nat) : rd xs (i : Int) = xs.getD i 0 := rfl
theorem drop_cons {xs : List α} {i : Nat} {x : α} {r : List α} (h : xs.drop i = x :: r) (d : α) : xs.getD i d = x ∧ i < xs.length ∧ xs.drop (i + 1) = r ∧ xs[i]? = some x := by
  have hi : i < xs.length := by
    rcases Nat.lt_or_ge i xs.length with h' | h'
    · exact h'
    · rw [List.drop_eq_nil_of_le h'] at h; cases h
  have h2 := List.drop_eq_getElem_cons hi
  rw [h] at h2
  injection h2 with h3 h4
  exact ⟨by rw [List.getD_eq_getElem?_getD, List.getElem?_eq_getElem hi, Option.getD_some, h3], hi, h4.symm, by rw [List.getElem?_eq_getElem hi, h3]⟩
theorem ev_scan {L : Nat → S → Int → Option R} {G : S → Nat → List α → R} (I : S → Nat → List α → Prop) (xs : List α)
    (hend : ∀ s, I s xs.length [] → Ev (fun k => L k s xs.length) (G s xs.length []))
    (hstep : ∀ s (i : Nat) x r, I s i (x :: r) → i < xs.length → xs.drop i = x :: r → (∀ d, xs.getD i d = x) →
      (∀ s', I s' (i + 1) r → Ev (fun k => L k s' ((i + 1 : Nat) : Int)) (G s' (i + 1) r)) → Ev (fun k => L k s i) (G s i (x :: r))) :
    ∀ (n i : Nat) s, n = xs.length - i → i ≤ xs.length → I s i (xs.drop i) → Ev (fun k => L k s i) (G s i (xs.drop i)) := by
  intro n
  induction n with
  | zero =>
    intro i s hn hi hI
    obtain rfl : i = xs.length := by omega
    rw [List.drop_length] at hI ⊢
    exact hend s hI
  | succ n ih =>
    intro i s hn hi hI
    have hlt : i < xs.length := by omega
    obtain ⟨x, r, hd⟩ : ∃ x r, xs.drop i = x :: r := ⟨_, _, List.drop_eq_getElem_cons hlt⟩
    have hc := fun d => drop_cons hd d
    rw [hd] at hI ⊢
    refine hstep s i x r hI hlt hd (fun d => (hc d).1) (fun s' hI' => ?_)
    have := ih (i + 1) s' (by omega) (by omega)
    rw [(hc x).2.2.1] at this
    exact this hI'
theorem ev_scan0 {L : Nat → S → Int → Option R} {G : S → Nat → List α → R} (I : S → Nat → List α → Prop) (xs : List α) (s : S) (h0 : I s 0 xs)
    (hend : ∀ s, I s xs.length [] → Ev (fun k => L k s xs.length) (G s xs.length []))
    (hstep : ∀ s (i : Nat) x r, I s i (x :: r) → i < xs.length → xs.drop i = x :: r → (∀ d, xs.getD i d = x) →
      (∀ s', I s' (i + 1) r → Ev (fun k => L k s' ((i + 1 : Nat) : Int)) (G s' (i + 1) r)) → Ev (fun k => L k s i) (G s i (x :: r))) :
    Ev (fun k => L k s 0) (G s 0 xs) := ev_scan I xs hend hstep xs.length 0 s (by omega) (by omega) h0
theorem ev_walk {L : Nat → Int → Option R} {G : Nat → List α → R} (xs : List α)
    (hend : Ev (fun k => L k xs.length) (G xs.length []))
    (hstep : ∀ (i : Nat) x r, i < xs.length → xs.drop i = x :: r → (∀ d, xs.getD i d = x) →
      Ev (fun k => L k ((i + 1 : Nat) : Int)) (G (i + 1) r) → Ev (fun k => L k i) (G i (x :: r))) :
    Ev (fun k => L k 0) (G 0 xs) :=
  ev_scan0 (L := fun k (_ : Unit) i => L k i) (G := fun _ i r => G i r) (fun _ _ _ => True) xs () trivial (fun _ _ => hend) (fun _ i x r _ h1 h2 h3 h4 => hstep i x r h1 h2 h3 (h4 () trivial))
theorem ev_fill {L : Nat → List β → Int → Option (List β)} (xs : List α) (conv : α → β) (z : β)
    (hend : ∀ out, Ev (fun k => L k out xs.length) out)
    (hstep : ∀ out (i : Nat) x y, i < xs.length → xs[i]? = some x → (∀ d, xs.getD i d = x) → out.length = xs.length → Ev (fun k => L k (out.set i (conv x)) ((i + 1 : Nat) : Int)) y → Ev (fun k => L k out i) y) :
    Ev (fun k => L k (List.replicate xs.length z) 0) (xs.map conv) := by
  have main : ∀ (n i : Nat) (out : List β), n = xs.length - i → i ≤ xs.length → out.length = xs.length → Ev (fun k => L k out i) (out.take i ++ (xs.drop i).map conv) := by
    intro n
    induction n with
    | zero =>
      intro i out hn hi hl
      obtain rfl : i = xs.length := by omega
      rw [List.drop_length, List.map_nil, List.append_nil, List.take_of_length_le (by omega)]
      exact hend out
    | succ n ih =>
      intro i out hn hi hl
      have hlt : i < xs.length := by omega
      have hx : xs[i]? = some xs[i] := List.getElem?_eq_getElem hlt
      have := ih (i + 1) (out.set i (conv xs[i])) (by omega) (by omega) (by rw [List.length_set]; exact hl)
      refine hstep out i xs[i] _ hlt hx (fun d => by rw [List.getD_eq_getElem?_getD, hx, Option.getD_some]) hl (ev_cast this ?_)
      rw [List.drop_eq_getElem_cons hlt, List.map_cons, List.take_succ_eq_append_getElem (by rw [List.length_set]; omega), List.getElem_set_self, List.append_assoc, List.singleton_append, List.take_set_of_le (Nat.le_refl i)]
  have h := main xs.length 0 (List.replicate xs.length z) (by omega) (by omega) (by rw [List.length_replicate])
  simpa using h
theorem ev_same {L : Nat → Int → Option Bool} (n : Nat) (hend : Ev (fun k => L k n) true)
    (hstep : ∀ i : Nat, i < n → Ev (fun k => L k ((i + 1 : Nat) : Int)) true → Ev (fun k => L k i) true) : Ev (fun k => L k 0) true := by
  have main : ∀ (m i : Nat), m = n - i → i ≤ n → Ev (fun k => L k i) true := by
    intro m
    induction m with
    | zero => intro i h1 h2; obtain rfl : i = n := by omega
              exact hend
    | succ m ih => intro i h1 h2; exact hstep i (by omega) (ih (i + 1) (by omega) (by omega))
  exact main n 0 (by omega) (by omega)
theorem ev_sz {L : Nat → Int → Int → Option Int} (xs : List α) (f : α → Nat)
    (hend : ∀ left : Int, Ev (fun k => L k left xs.length) left)
    (hstep : ∀ (left : Int) (i : Nat) x y, 0 ≤ left → left ≤ 4611686018427387904 → i < xs.length → x ∈ xs → (∀ d, xs.getD i d = x) →
      ((f x : Int) ≤ left → Ev (fun k => L k (left - (f x : Int)) ((i + 1 : Nat) : Int)) y) → (¬ (f x : Int) ≤ left → y = -1) → Ev (fun k => L k left i) y) :
    ∀ left : Int, 0 ≤ left → left ≤ 4611686018427387904 → Ev (fun k => L k left 0) (if ((xs.map f).sum : Int) ≤ left then left - ((xs.map f).sum : Int) else -1) := by
  have main : ∀ (n i : Nat) (left : Int), n = xs.length - i → i ≤ xs.length → 0 ≤ left → left ≤ 4611686018427387904 →
      Ev (fun k => L k left i) (if ((((xs.drop i).map f).sum : Nat) : Int) ≤ left then left - ((((xs.drop i).map f).sum : Nat) : Int) else -1) := by
    intro n
    induction n with
    | zero =>
      intro i left hn hi h0 h1
      obtain rfl : i = xs.length := by omega
      rw [List.drop_length, List.map_nil, List.sum_nil]
      exact ev_cast (hend left) (by rw [if_pos (by omega)]; omega)
    | succ n ih =>
      intro i left hn hi h0 h1
      have hlt : i < xs.length := by omega
      rw [List.drop_eq_getElem_cons hlt, List.map_cons, List.sum_cons]
      refine hstep left i xs[i] _ h0 h1 hlt (List.getElem_mem hlt) (fun d => by rw [List.getD_eq_getElem?_getD, List.getElem?_eq_getElem hlt, Option.getD_some]) (fun hf => ?_) (fun hf => ?_)
      · refine ev_cast (ih (i + 1) (left - (f xs[i] : Int)) (by omega) (by omega) (by omega) (by omega)) ?_
        by_cases hs : ((((xs.drop (i + 1)).map f).sum : Nat) : Int) ≤ left - (f xs[i] : Int)
        · rw [if_pos hs, if_pos (by omega)]; omega
        · rw [if_neg hs, if_neg (by omega)]
      · rw [if_neg (by omega)]
  intro left h0 h1
  exact main xs.length 0 left (by omega) (by omega) h0 h1
theorem le_sum {l : List α} {f : α → Nat} {x : α} (h : x ∈ l) : f x ≤ (l.map f).sum := by
  induction l with
  | nil => cases h
  | cons y r ih =>
    rw [List.map_cons, List.sum_cons]
    rcases List.mem_cons.1 h with rfl | h
    · omega
    · have := ih h
      omega
def markAll (mk : Int → α → α) (c : α → Nat) : Int → List α → List α
  | _, [] => []
  | q, x :: r => mk q x :: markAll mk c (q + (c x : Int)) r
theorem markAll_length (mk : Int → α → α) (c : α → Nat) : ∀ (l : List α) (q : Int), (markAll mk c q l).length = l.length
  | [], _ => rfl
  | x :: r, q => by simp [markAll, markAll_length mk c r]
theorem ev_mark {L : Nat → List α → Int → Int → Option (Int × List α)} (xs : List α) (mk : Int → α → α) (c : α → Nat)
    (hend : ∀ (out : List α) (q : Int), out.length = xs.length → Ev (fun k => L k out q xs.length) (q, out))
    (hstep : ∀ (out : List α) (q : Int) (i : Nat) x y, i < xs.length → out.length = xs.length → out[i]? = some x → x ∈ xs → (∀ d, out.getD i d = x) → 0 ≤ q → q + (c x : Int) ≤ 4611686018427387904 →
      Ev (fun k => L k (out.set i (mk q x)) (q + (c x : Int)) ((i + 1 : Nat) : Int)) y → Ev (fun k => L k out q i) y)
    (q : Int) (hq : 0 ≤ q) (hb : q + ((xs.map c).sum : Int) ≤ 4611686018427387904) :
    Ev (fun k => L k xs q 0) (q + ((xs.map c).sum : Int), markAll mk c q xs) := by
  have main : ∀ (n i : Nat) (out : List α) (q : Int), n = xs.length - i → i ≤ xs.length → out.length = xs.length → out.drop i = xs.drop i → 0 ≤ q → q + (((xs.drop i).map c).sum : Int) ≤ 4611686018427387904 →
      Ev (fun k => L k out q i) (q + (((xs.drop i).map c).sum : Int), out.take i ++ markAll mk c q (xs.drop i)) := by
    intro n
    induction n with
    | zero =>
      intro i out q hn hi hl hd h0 h1
      obtain rfl : i = xs.length := by omega
      rw [List.drop_length, List.map_nil, List.sum_nil, markAll, List.append_nil, List.take_of_length_le (by omega)]
      exact ev_cast (hend out q hl) (by simp)
    | succ n ih =>
      intro i out q hn hi hl hd h0 h1
      have hlt : i < xs.length := by omega
      have hlo : i < out.length := by omega
      have e1 := List.drop_eq_getElem_cons hlt
      have e2 := List.drop_eq_getElem_cons hlo
      rw [hd, e1] at e2
      injection e2 with e3 e4
      rw [e1, List.map_cons, List.sum_cons] at h1
      have hx : out[i]? = some xs[i] := by rw [List.getElem?_eq_getElem hlo, e3]
      refine hstep out q i xs[i] _ hlt hl hx (List.getElem_mem hlt) (fun d => by rw [List.getD_eq_getElem?_getD, hx, Option.getD_some]) h0 (by omega) ?_
      refine ev_cast (ih (i + 1) (out.set i (mk q xs[i])) (q + (c xs[i] : Int)) (by omega) (by omega) (by rw [List.length_set]; exact hl) ?_ (by omega) (by omega)) ?_
      · rw [List.drop_set_of_lt (by omega)]; exact e4.symm
      · rw [e1, List.map_cons, List.sum_cons, markAll, List.take_succ_eq_append_getElem (by rw [List.length_set]; omega), List.getElem_set_self, List.append_assoc, List.singleton_append, List.take_set_of_le (Nat.le_refl i)]
        congr 1
        omega
  have h := main xs.length 0 xs q (by omega) (by omega) rfl rfl hq hb
  simpa using h
theorem ev_held {H : Nat → Int → Int → Option Int} (xs ys : List α) (mk : Int → α → α) (c : α → Nat) (q0 : Int) (hys : ys = markAll mk c q0 xs)
    (hend : ∀ q : Int, Ev (fun k => H k q xs.length) q)
    (hstep : ∀ (q : Int) (i : Nat) x y, i < xs.length → x ∈ xs → ys[i]? = some (mk q x) → (∀ d, ys.getD i d = mk q x) → 0 ≤ q → q + (c x : Int) ≤ 4611686018427387904 → Ev (fun k => H k (q + (c x : Int)) ((i + 1 : Nat) : Int)) y → Ev (fun k => H k q i) y)
    (hq : 0 ≤ q0) (hb : q0 + ((xs.map c).sum : Int) ≤ 4611686018427387904) : Ev (fun k => H k q0 0) (q0 + ((xs.map c).sum : Int)) := by
  have main : ∀ (n i : Nat) (q : Int), n = xs.length - i → i ≤ xs.length → ys.drop i = markAll mk c q (xs.drop i) → 0 ≤ q → q + (((xs.drop i).map c).sum : Int) ≤ 4611686018427387904 →
      Ev (fun k => H k q i) (q + (((xs.drop i).map c).sum : Int)) := by
    intro n
    induction n with
    | zero =>
      intro i q hn hi hd h0 h1
      obtain rfl : i = xs.length := by omega
      rw [List.drop_length, List.map_nil, List.sum_nil]
      exact ev_cast (hend q) (by simp)
    | succ n ih =>
      intro i q hn hi hd h0 h1
      have hlt : i < xs.length := by omega
      have hly : ys.length = xs.length := by rw [hys, markAll_length]
      have hlo : i < ys.length := by omega
      have e1 := List.drop_eq_getElem_cons hlt
      have e2 := List.drop_eq_getElem_cons hlo
      rw [hd, e1, markAll] at e2
      injection e2 with e3 e4
      rw [e1, List.map_cons, List.sum_cons] at h1 ⊢
      have hx : ys[i]? = some (mk q xs[i]) := by rw [List.getElem?_eq_getElem hlo, e3]
      refine hstep q i xs[i] _ hlt (List.getElem_mem hlt) hx (fun d => by rw [List.getD_eq_getElem?_getD, hx, Option.getD_some]) h0 (by omega) ?_
      refine ev_cast (ih (i + 1) (q + (c xs[i] : Int)) (by omega) (by omega) e4.symm (by omega) (by omega)) ?_
      omega
  have h := main xs.length 0 q0 (by omega) (by omega) (by simpa using hys) hq hb
  simpa using h
def idxG (p : α → Bool) : Nat → List α → Int
  | _, [] => -1
  | i, x :: r => if p x = true then (i : Int) else idxG p (i + 1) r
theorem idxG_spec (p : α → Bool) : ∀ (l : List α) (i : Nat), (idxG p i l = -1 ∧ ∀ x ∈ l, p x = false) ∨
    ∃ j x, j < l.length ∧ idxG p i l = ((i + j : Nat) : Int) ∧ l[j]? = some x ∧ p x = true ∧ l.find? p = some x ∧ ∀ m y, m < j → l[m]? = some y → p y = false
  | [], i => .inl ⟨rfl, by simp⟩
  | x :: r, i => by
    by_cases h : p x = true
    · exact .inr ⟨0, x, by simp, by simp [idxG, h], rfl, h, by simp [h], fun m y hm => by omega⟩
    · rcases idxG_spec p r (i + 1) with ⟨h1, h2⟩ | ⟨j, y, h1, h2, h3, h4, h5, h6⟩
      · refine .inl ⟨by simp [idxG, h, h1], fun z hz => ?_⟩
        rcases List.mem_cons.1 hz with rfl | hz
        · simpa using h
        · exact h2 z hz
      · refine .inr ⟨j + 1, y, by simp only [List.length_cons]; omega, ?_, by simpa using h3, h4, by simp [h, h5], fun m z hm hz => ?_⟩
        · rw [idxG, if_neg h, h2]; congr 1; omega
        · cases m with
          | zero => simp at hz; subst hz; simpa using h
          | succ m => exact h6 m z (by omega) (by simpa using hz)
theorem idxG_lt (p : α → Bool) (l : List α) (i : Nat) : idxG p i l < 0 ↔ l.any p = false := by
  rcases idxG_spec p l i with ⟨h1, h2⟩ | ⟨j, x, h1, h2, h3, h4, h5, h6⟩
  · rw [h1]
    refine ⟨fun _ => ?_, fun _ => by omega⟩
    rw [List.any_eq_false]; intro x hx; simp [h2 x hx]
  · rw [h2]
    refine ⟨fun h => by omega, fun h => ?_⟩
    rw [List.any_eq_false] at h
    exact absurd h4 (h x (List.mem_of_getElem? h3))
theorem idxG_here {p : α → Bool} {l : List α} {k : Nat} {x : α} (hx : l[k]? = some x) (hp : p x = true) (h : ∀ m y, m < k → l[m]? = some y → p y = false) : idxG p 0 l = (k : Int) := by
  rcases idxG_spec p l 0 with ⟨h1, h2⟩ | ⟨j, y, h1, h2, h3, h4, h5, h6⟩
  · exact absurd hp (by rw [h2 x (List.mem_of_getElem? hx)]; simp)
  · rcases Nat.lt_trichotomy j k with hj | hj | hj
    · rw [h j y hj h3] at h4; cases h4
    · subst hj; rw [h2]; simp
    · rw [h6 k x hj hx] at hp; cases hp
theorem idxG_none {p : α → Bool} {l : List α} (h : ∀ m y, m < l.length → l[m]? = some y → p y = false) : idxG p 0 l = -1 := by
  rcases idxG_spec p l 0 with ⟨h1, h2⟩ | ⟨j, y, h1, h2, h3, h4, h5, h6⟩
  · exact h1
  · rw [h j y h1 h3] at h4; cases h4
theorem idxG_nonneg (p : α → Bool) (l : List α) (i : Nat) : decide (0 ≤ idxG p i l) = l.any p := by
  have h := idxG_lt p l i
  by_cases c : l.any p = true
  · rw [c, decide_eq_true_eq]
    have : ¬ idxG p i l < 0 := fun h' => by rw [h.1 h'] at c; cases c
    omega
  · have c' : l.any p = false := by simpa using c
    rw [c', decide_eq_false_iff_not]
    have := h.2 c'
    omega
theorem ev_all {L : Nat → S → Int → Option R} (n : Nat) (St : Nat → S) (C : Nat → Bool) (F Rn : R) (hend : (∀ j, j < n → C j = true) → Ev (fun k => L k (St n) n) Rn)
    (hs : ∀ i, i < n → (∀ j, j < i → C j = true) → C i = true → ∀ y, Ev (fun k => L k (St (i + 1)) ((i + 1 : Nat) : Int)) y → Ev (fun k => L k (St i) i) y)
    (hf : ∀ i, i < n → (∀ j, j < i → C j = true) → C i = false → Ev (fun k => L k (St i) i) F) : Ev (fun k => L k (St 0) 0) (if (List.range n).all C = true then Rn else F) := by
  have main : ∀ (m i : Nat), m = n - i → i ≤ n → (∀ j, j < i → C j = true) → Ev (fun k => L k (St i) i) (if (List.range n).all C = true then Rn else F) := by
    intro m
    induction m with
    | zero =>
      intro i hm hi hC
      obtain rfl : i = n := by omega
      rw [if_pos (by rw [List.all_eq_true]; intro x hx; exact hC x (List.mem_range.1 hx))]
      exact hend hC
    | succ m ih =>
      intro i hm hi hC
      have hlt : i < n := by omega
      cases hc : C i with
      | true =>
        refine hs i hlt hC hc _ (ih (i + 1) (by omega) (by omega) (fun j hj => ?_))
        by_cases e : j = i
        · rw [e]; exact hc
        · exact hC j (by omega)
      | false =>
        rw [if_neg (by rw [List.all_eq_true]; intro h; rw [h i (List.mem_range.2 hlt)] at hc; cases hc)]
        exact hf i hlt hC hc
  exact main n 0 (by omega) (by omega) (fun j hj => by omega)
theorem ev_all0 {L : Nat → Int → Option R} (n : Nat) (C : Nat → Bool) (F Rn : R) (hend : (∀ j, j < n → C j = true) → Ev (fun k => L k n) Rn)
    (hs : ∀ i, i < n → (∀ j, j < i → C j = true) → C i = true → ∀ y, Ev (fun k => L k ((i + 1 : Nat) : Int)) y → Ev (fun k => L k i) y)
    (hf : ∀ i, i < n → (∀ j, j < i → C j = true) → C i = false → Ev (fun k => L k i) F) : Ev (fun k => L k 0) (if (List.range n).all C = true then Rn else F) :=
  ev_all (L := fun k (_ : Unit) i => L k i) n (fun _ => ()) C F Rn hend hs hf
theorem getD_in {α : Type} {l : List α} {i : Nat} (h : i < l.length) (d : α) : l.getD i d = l[i] := by rw [List.getD_eq_getElem?_getD, List.getElem?_eq_getElem h, Option.getD_some]
theorem wrap_pred {i : Nat} (h : 0 < i) (hn : i ≤ 9223372036854775807) : wrap64 ((i : Int) - 1) = ((i - 1 : Nat) : Int) := by rw [wrap_id] <;> omega
end Go.Proofs.Ytdbhelhoaciodaa.E
set_option linter.unusedVariables false
namespace Go.Proofs.Ytdbhelhoaciodaa.X
open Go.RowKit Go.Proofs.YtdbhelhoaciodaaW.PrintWords Go.Proofs.YtdbhelhoaciodaaW.PrintLast Go.Proofs.YtdbhelhoaciodaaW.PrintMore Go.Proofs.Ytdbhelhoaciodaa.E
set_option maxHeartbeats 1000000 in
set_option maxRecDepth 100000 in
theorem idxFunc105 (A_ : Option Addr) (c_ : Nat) (l0 : List (S80)) (g : Nat) (lb : Array Value) (p : S80 → Bool) (w : World)
  (hr0 : Kd.C k80 w A_ l0.length l0) (eg : ∀ args w, (callFunc g args).run Try.prog w = .ok (.enter g args) w)
  (hp : ∀ (W : World) (x : S80) (A1 : Option Addr) (c1 : Nat), x ∈ l0 → Below w.heap.size w W → x.f1.length ≤ c1 → Kd.C (Kd.int .i64) W A1 x.f1.length x.f1 → Calls Try.prog g (#[.agg #[.int .i64 x.f0, .slice A1 x.f1.length c1]] ++ lb) W fun e w' => e = .returned (.bool (p x)) ∧ Below W.heap.size W w') :
  Calls Try.prog 105 #[.slice A_ l0.length c_, .func (.func g) #[] lb] w fun e w' => e = .returned (.int .i64 (idxG p 0 l0)) ∧ Below w.heap.size w w' := by
 have hu80 := Try.underlying80
 have HL := Aside0.mk hr0.2.1
 have HR0 := Aside0.mk hr0
 have HP := Aside0.mk hp
 clear hr0 hp
 go_enter Try.func105, Try.ntmps105
 go_wp2
 go_loopg [5, 8] l0.length (fun gg _ s8 wr => ∃ x8 : Int, s8 = .int .i64 x8 ∧ Aside0 (0 ≤ x8) ∧ Aside0 (x8 ≤ (l0.length : Int)) ∧ Aside0 ((l0.length : Int) - x8 ≤ (gg : Int)) ∧ Aside0 (Below w.heap.size w wr) ∧ Aside0 (∀ (m : Nat) y, (m : Int) < x8 → l0[m]? = some y → p y = false))
 case atStart => exact ⟨0, rfl, ⟨by omega⟩, ⟨by omega⟩, ⟨by omega⟩, ⟨Below.refl _ _⟩, ⟨fun m y hm => by omega⟩⟩
 case round =>
  obtain ⟨x8, rfl, H0, H1, HG, HB, HN⟩ := hrel
  by_cases c : x8 < (l0.length : Int)
  ·have p1 := H0.out
   have q1 := c
   have cb : decide (x8 < (l0.length : Int)) = true := decide_eq_true c
   obtain ⟨ad, A1, c1, e, hx0, hx1, hl1, hi1⟩ := at_T80 (Kd.C_below HR0.out HB.out) x8 p1 q1
   cases e
   replace p1 := eq_true p1
   replace q1 := eq_true q1
   have hel : l0[x8.toNat]? = some (rd_T80 l0 x8) := by
    have := H0.out
    unfold rd_T80
    rw [List.getD_eq_getElem?_getD, List.getElem?_eq_getElem (show x8.toNat < l0.length by omega), Option.getD_some]
   have hcall := HP.out wr (rd_T80 l0 x8) A1 c1 (List.mem_of_getElem? hel) HB.out hl1 hi1
   clear hl1 hi1
   have HE := Aside0.mk hel
   clear hel
   have hwr : wrap64 (x8 + 1) = x8 + 1 := wrap_id (by have := H0.out; omega) (by have := HL.out; omega)
   cases hq : p (rd_T80 l0 x8) with
   | true =>
    rw [hq] at hcall
    have HQ := Aside0.mk hq
    clear hq
    go_wp2_with (go_at_fn g; refine hcall.mono ?_; rintro e w' ⟨rfl, hb⟩)
    go_ret
    refine ⟨?_, ?_⟩
    ·rw [idxG_here HE.out HQ.out (fun m y hm => HN.out m y (by have := H0.out; omega))]
     have := H0.out
     rw [Int.toNat_of_nonneg (by omega)]
     rfl
    ·exact below_step HB.out hb
   | false =>
    rw [hq] at hcall
    have HQ := Aside0.mk hq
    clear hq
    go_wp2_with (go_at_fn g; refine hcall.mono ?_; rintro e w' ⟨rfl, hb⟩)
    go_roundg (l0.length - (x8.toNat + 1))
    case measure => have := HG.out; have := H0.out; omega
    case rel =>
     refine ⟨x8 + 1, by simp [*], ⟨by have := H0.out; omega⟩, ⟨by omega⟩, ⟨by have := H0.out; omega⟩, ⟨below_step HB.out hb⟩, ⟨fun m y hm hy => ?_⟩⟩
     by_cases e : (m : Int) = x8
     ·have : x8.toNat = m := by omega
      rw [← this, HE.out] at hy
      cases hy
      exact HQ.out
     ·exact HN.out m y (by omega) hy
  ·have cb : decide (x8 < (l0.length : Int)) = false := decide_eq_false c
   have e : x8 = (l0.length : Int) := by have := H1.out; omega
   have HE := Aside0.mk e
   clear e
   go_wp2
   go_ret
   refine ⟨?_, HB.out⟩
   rw [idxG_none (fun m y hm => HN.out m y (by rw [HE.out]; omega))]
   rfl
end Go.Proofs.Ytdbhelhoaciodaa.X
set_option linter.unusedVariables false
namespace Go.Proofs.Ytdbhelhoaciodaa.X
open Go.RowKit Go.Proofs.YtdbhelhoaciodaaW.PrintWords Go.Proofs.YtdbhelhoaciodaaW.PrintLast Go.Proofs.YtdbhelhoaciodaaW.PrintMore Go.Proofs.Ytdbhelhoaciodaa.E
set_option maxHeartbeats 1000000 in
set_option maxRecDepth 100000 in
theorem containsFunc52 (A_ : Option Addr) (c_ : Nat) (l0 : List (S80)) (g : Nat) (lb : Array Value) (p : S80 → Bool) (w : World)
  (hr0 : Kd.C k80 w A_ l0.length l0) (eg : ∀ args w, (callFunc g args).run Try.prog w = .ok (.enter g args) w)
  (hp : ∀ (W : World) (x : S80) (A1 : Option Addr) (c1 : Nat), x ∈ l0 → Below w.heap.size w W → x.f1.length ≤ c1 → Kd.C (Kd.int .i64) W A1 x.f1.length x.f1 → Calls Try.prog g (#[.agg #[.int .i64 x.f0, .slice A1 x.f1.length c1]] ++ lb) W fun e w' => e = .returned (.bool (p x)) ∧ Below W.heap.size W w') :
  Calls Try.prog 52 #[.slice A_ l0.length c_, .func (.func g) #[] lb] w fun e w' => e = .returned (.bool (l0.any p)) ∧ Below w.heap.size w w' := by
 have C := Aside0.mk (idxFunc105 A_ c_ l0 g lb p w hr0 eg hp)
 have hn := Aside0.mk (idxG_nonneg p l0 0)
 clear hr0 hp
 go_enter Try.func52, Try.ntmps52
 go_wp2_with (go_at_call 105; refine C.out.mono ?_; rintro e w' ⟨rfl, hb⟩)
 go_ret
 refine ⟨?_, hb⟩
 rw [← hn.out]
 rfl
end Go.Proofs.Ytdbhelhoaciodaa.X
namespace Go.Proofs.Ytdbhelhoaciodaa.X
open Go.RowKit Go.Proofs.YtdbhelhoaciodaaW.PrintWords Go.Proofs.YtdbhelhoaciodaaW.PrintLast Go.Proofs.YtdbhelhoaciodaaW.PrintMore Go.Proofs.Ytdbhelhoaciodaa.E
attribute [local go_sem] max2_int min2_int max_two min_two max_three min_three max_four min_four
set_option linter.unusedVariables false
set_option linter.unusedSimpArgs false
attribute [-simp] ByteArray.size_append ByteArray.size_extract
attribute [-go_sem] ByteArray.size_append'
/-! ### impl_ArchiveBox_52: function 52 -/
theorem impl_ArchiveBox_521 (x : S80) (A1 : Option Addr) (c1 : Nat) (w : World) :
  Calls Try.prog 53 #[.agg #[.int .i64 x.f0, .slice A1 x.f1.length c1]] w fun e w' => e = .returned (.bool (decide (12 < (x.f1.length : Int)))) ∧ Below w.heap.size w w' := by
 (have hu80 := Try.underlying80); (go_enter Try.func53, Try.ntmps53); (go_wp2); go_ret; (exact ⟨rfl, (Below.refl _ _).alloc (Nat.le_refl _) _⟩)
def impl_ArchiveBox_52.f (l0 : List S80) : Option Bool := some (l0.any (fun x : S80 => decide (12 < (x.f1.length : Int))))
set_option maxHeartbeats 400000 in
set_option maxRecDepth 100000 in
theorem impl_ArchiveBox_52.calls (A0 : Option Addr) (c0 : Nat) (l0 : List (S80)) (r : Bool) (w : World) (hr0 : Kd.C k80 w A0 l0.length l0) (hc0 : l0.length ≤ c0) (h : impl_ArchiveBox_52.f l0 = some r) :
  Calls Try.prog 52 #[.slice A0 l0.length c0, .func (.func 53) #[] #[]] w fun e w' => e = .returned (.bool r) ∧ Below w.heap.size w w' := by
 (have hr := Option.some.inj h); subst hr; (exact containsFunc52 A0 c0 l0 53 #[] (fun x : S80 => decide (12 < (x.f1.length : Int))) w hr0 (enters_of Try.func53 (by kernel_rfl) rfl) (fun W x A1 c1 _ _ _ _ => impl_ArchiveBox_521 x A1 c1 W))
end Go.Proofs.Ytdbhelhoaciodaa.X
namespace Go.Proofs.Ytdbhelhoaciodaa.X
open Go.RowKit Go.Proofs.YtdbhelhoaciodaaW.PrintWords Go.Proofs.YtdbhelhoaciodaaW.PrintLast Go.Proofs.YtdbhelhoaciodaaW.PrintMore
attribute [local go_sem] max2_int min2_int max_two min_two max_three min_three max_four min_four
set_option linter.unusedVariables false
set_option linter.unusedSimpArgs false
attribute [-simp] ByteArray.size_append ByteArray.size_extract
attribute [-go_sem] ByteArray.size_append'
/-! ### slices_Index_int_int: function 134 -/
def slices_Index_int_int.l0 : Nat → List Int → Int → Int → Int → Option (Int)
 | 0, _, _, _, _ => none
 | k + 1, x0, x1, x7, x8 => if x8 < x7 then (if 0 ≤ x8 then (if x8 < (x0.length : Int) then (if x1 = (rd x0 x8) then (some x8) else (slices_Index_int_int.l0 k x0 x1 x7 (wrap64 (x8 + 1)))) else (none)) else (none)) else (some (-1))
def slices_Index_int_int.f (k : Nat) (l0 : List Int) (a1 : Int) : Option (Int) := slices_Index_int_int.l0 k l0 a1 (l0.length : Int) 0
set_option maxHeartbeats 8000000 in
set_option maxRecDepth 100000 in
theorem slices_Index_int_int.calls (k : Nat) (A0 : Option Addr) (c0 : Nat) (l0 : List Int) (a1 : Int) (r : Int) (w : World) (hr0 : Kd.C (Kd.int .i64) w A0 l0.length l0) (hc0 : l0.length ≤ c0) (h : slices_Index_int_int.f k l0 a1 = some r) :
  Calls Try.prog 134 #[.slice A0 l0.length c0, .int .i64 a1] w fun e w' => e = .returned (.int .i64 r) ∧ Drawn0 w w' := by
 (have HR0 := Aside0.mk hr0); (have HC0 := Aside0.mk hc0); clear hr0 hc0; (unfold slices_Index_int_int.f at h); (have H := h); clear h; (have H' := Aside0.mk H); clear H; (go_enter Try.func134, Try.ntmps134); (go_wp2); (go_loopg [8] k (fun kq v8 w' => ∃ (x8_1 : Int), v8 = .int .i64 x8_1 ∧ Aside0 (slices_Index_int_int.l0 kq l0 a1 (l0.length : Int) x8_1 = some r) ∧ Aside0 (kq ≤ k) ∧ Drawn0 w w'))
 case atStart => exact Q14
 case round =>
  (clear H'); (try clear c1); (try clear p2); (obtain ⟨x8_1, rfl, HA, HK1, ⟨m1, rfl⟩⟩ := hrel)
  cases gk with
  | zero => exact absurd HA.out (by simp [slices_Index_int_int.l0])
  | succ k1 =>
   (have H := HA.out); clear HA; (simp only [slices_Index_int_int.l0] at H); (by_cases c3 : x8_1 < (l0.length : Int))
   ·rw [if_pos c3] at H
    (have c3b0 := decide_eq_true c3); clear c3; (by_cases c4 : 0 ≤ x8_1)
    ·rw [if_pos c4] at H
     (have c4b0 := decide_eq_true c4); clear c4; (by_cases c5 : x8_1 < (l0.length : Int))
     ·rw [if_pos c5] at H
      (have c5b0 := decide_eq_true c5); clear c5; (by_cases c6 : a1 = (rd l0 x8_1))
      ·rw [if_pos c6] at H
       (have c6b0 : (a1 == (rd l0 x8_1)) = true := beq_iff_eq.mpr c6); (have c6b1 : (a1 != (rd l0 x8_1)) = false := bne_eq_false_iff_eq.mpr c6); clear c6; (obtain rfl := Option.some.inj H); (have p101 : 0 ≤ (x8_1 : Int) := odt); (have q101 : x8_1 < (l0.length : Int) := odt); (obtain ⟨ad101, e101, hx101_0⟩ := Kd.at_int HR0.out x8_1 p101 q101); (cases e101); (replace p101 := eq_true p101); (replace q101 := eq_true q101); (go_wp2); go_ret; (exact Q0)
      ·rw [if_neg c6] at H
       (have c6b0 : (a1 == (rd l0 x8_1)) = false := beq_eq_false_iff_ne.mpr c6); (have c6b1 : (a1 != (rd l0 x8_1)) = true := bne_iff_ne.mpr c6); (have H' := Aside0.mk H); clear H; (have p101 : 0 ≤ (x8_1 : Int) := odt); (have q101 : x8_1 < (l0.length : Int) := odt); (obtain ⟨ad101, e101, hx101_0⟩ := Kd.at_int HR0.out x8_1 p101 q101); (cases e101); (replace p101 := eq_true p101); (replace q101 := eq_true q101); (go_wp2); go_roundg k1
       case measure => have := HK1.out; omega
       case rel => exact ⟨(wrap64 (x8_1 + 1)), Q16, H', ⟨Q20⟩, Q82⟩
     ·rw [if_neg c5] at H
      exact Q11
    ·rw [if_neg c4] at H
     exact Q11
   ·rw [if_neg c3] at H
    (have c3b0 := decide_eq_false c3); clear c3; (obtain rfl := Option.some.inj H); (go_wp2); go_ret; (exact Q0)
/-! ### slices_Contains_int_int: function 101 -/
def slices_Contains_int_int.f (k : Nat) (l0 : List Int) (a1 : Int) : Option (Bool) := (slices_Index_int_int.f k l0 a1).bind fun t101 => (some (decide (t101 ≥ 0)))
set_option maxHeartbeats 8000000 in
set_option maxRecDepth 100000 in
theorem slices_Contains_int_int.calls (k : Nat) (A0 : Option Addr) (c0 : Nat) (l0 : List Int) (a1 : Int) (r : Bool) (w : World) (hr0 : Kd.C (Kd.int .i64) w A0 l0.length l0) (hc0 : l0.length ≤ c0) (h : slices_Contains_int_int.f k l0 a1 = some r) :
  Calls Try.prog 101 #[.slice A0 l0.length c0, .int .i64 a1] w fun e w' => e = .returned (.bool r) ∧ Drawn0 w w' := by
 (have HR0 := Aside0.mk hr0); (have HC0 := Aside0.mk hc0); clear hr0 hc0; (unfold slices_Contains_int_int.f at h); (have H := h); clear h; (replace H := obS H); (obtain ⟨t101, A3, H⟩ := H); (obtain rfl := Option.some.inj H); (go_enter Try.func101, Try.ntmps101); (go_wp2_with (first | ((with_reducible refine gate_callee (f := 134) rfl ?_); refine gL (some 7) Try.func134 #[.slice A0 l0.length c0, .int .i64 a1] ?_; (with_reducible refine (slices_Index_int_int.calls k _ _ l0 a1 t101 _ ?side1 ?side2 A3.out).mono ?_); (case side1 => exact cI HR0.out); (case side2 => exact HC0.out); rintro e w' ⟨rfl, ⟨nd, rfl⟩⟩; refine ⟨_, rfl, ?_⟩))); go_ret; (exact Q0)
/-! ### impl_BoxOf: function 54 -/
def impl_BoxOf.l0 : Nat → Int → List (S80) → Int → Int → Option (Int × Bool)
 | 0, _, _, _, _ => none
 | k + 1, x1, x8, x9, x10 => if x10 < x9 then (if 0 ≤ x10 then (if x10 < (x8.length : Int) then ((slices_Contains_int_int.f k ((rd_T80 x8 x10).f1) x1).bind fun t103 => (if t103 = true then (some ((rd_T80 x8 x10).f0, true)) else (impl_BoxOf.l0 k x1 x8 x9 (wrap64 (x10 + 1))))) else (none)) else (none)) else (some (0, false))
def impl_BoxOf.f (k : Nat) (l0 : List (S80)) (a1 : Int) : Option (Int × Bool) := impl_BoxOf.l0 k a1 l0 (l0.length : Int) 0
set_option maxHeartbeats 8000000 in
set_option maxRecDepth 100000 in
theorem impl_BoxOf.calls (k : Nat) (A0 : Option Addr) (c0 : Nat) (l0 : List (S80)) (a1 : Int) (r1 : Int) (r2 : Bool) (w : World) (hr0 : Kd.C k80 w A0 l0.length l0) (hc0 : l0.length ≤ c0) (h : impl_BoxOf.f k l0 a1 = some (r1, r2)) :
  Calls Try.prog 54 #[.slice A0 l0.length c0, .int .i64 a1] w fun e w' => e = .returned (.tuple #[.int .i64 r1, .bool r2]) ∧ Below w.heap.size w w' := by
 (have hu80 := Try.underlying80); (have HR0 := Aside0.mk hr0); (have HC0 := Aside0.mk hc0); clear hr0 hc0; (have HB := Aside0.mk (Below.refl w.heap.size w)); (unfold impl_BoxOf.f at h); (have H := h); clear h; (have H' := Aside0.mk H); clear H; (go_enter Try.func54, Try.ntmps54); (go_wp2); (go_loopg [10] k (fun kq v10 w' => ∃ (x10_1 : Int), v10 = .int .i64 x10_1 ∧ Aside0 (impl_BoxOf.l0 kq a1 l0 (l0.length : Int) x10_1 = some (r1, r2)) ∧ Aside0 (kq ≤ k) ∧ Aside0 (Below w.heap.size w w')))
 case atStart => exact Q1
 case round =>
  (clear H'); (try clear p2); (obtain ⟨x10_1, rfl, HA, HK1, HB⟩ := hrel)
  cases gk with
  | zero => exact absurd HA.out (by simp [impl_BoxOf.l0])
  | succ k1 =>
   (have H := HA.out); clear HA; (simp only [impl_BoxOf.l0] at H); (by_cases c3 : x10_1 < (l0.length : Int))
   ·rw [if_pos c3] at H
    (have c3b0 := decide_eq_true c3); clear c3; (by_cases c4 : 0 ≤ x10_1)
    ·rw [if_pos c4] at H
     (have c4b0 := decide_eq_true c4); clear c4; (by_cases c5 : x10_1 < (l0.length : Int))
     ·rw [if_pos c5] at H
      (have c5b0 := decide_eq_true c5); clear c5; (replace H := obS H); (obtain ⟨t103, A6, H⟩ := H); (by_cases c7 : t103 = true)
      ·subst c7
       (rw [if_pos rfl] at H); (simp only [Option.some.injEq, Prod.mk.injEq] at H); (obtain ⟨rfl, rfl⟩ := H); (have p101 : 0 ≤ (x10_1 : Int) := of_decide_eq_true Q19); (have q101 : x10_1 < (l0.length : Int) := of_decide_eq_true Q19); (obtain ⟨ad101, A101_1, c101_1, e101, hx101_0, hx101_1, hl101_1, hi101_1⟩ := at_T80 HR0.out x10_1 p101 q101); (cases e101); (replace hx101_0 := (HB.out.cell (bltc w _ hx101_0)).trans hx101_0); (replace hx101_1 := (HB.out.cell (bltc w _ hx101_1)).trans hx101_1); (have HR101_1 := Aside0.mk hi101_1); (have HC101_1 := Aside0.mk hl101_1); clear hi101_1 hl101_1; (replace p101 := eq_true p101); (replace q101 := eq_true q101); (go_wp2_with (first | ((with_reducible refine gate_dst (N := 7) rfl ?_); refine box_event ?hg (N := 7) ?hd (cs := #[.int .i64 0, .slice none 0 0]) (t := 80) ?hr ?_; (case hd => rfl); (case hg => rfl); (case hr => first | (go_simp; done) | (go_simp; rfl)); intro gb102 hg w8 hbox hb; have hB_ := bz Q18 hb; have n0_ := Aside0.mk (below_step hB_ hb); have n1_ := Aside0.mk (hbox); have n2_ := Aside0.mk ((Q75 : w.heap.size ≤ gb102)); have n3_ := n2_; clear HB; have HB := n0_; have BK102 := n1_; have GW102 := n2_; have GE102 := n3_; clear n0_ n1_ n2_ n3_ hB_ hb hbox hg; have hcz9_0 := cz BK102.out 0; have hcz9_1 := cz BK102.out 1; have hfz9_0 := blk_frozen BK102.out 0; have hfz9_1 := blk_frozen BK102.out 1) | ((with_reducible refine gate_callee (f := 101) rfl ?_); refine gL (some 17) Try.func101 #[.slice A101_1 ((rd_T80 l0 x10_1).f1).length c101_1, .int .i64 a1] ?_; (with_reducible refine (slices_Contains_int_int.calls k1 _ _ ((rd_T80 l0 x10_1).f1) a1 true _ ?side1 ?side2 A6.out).mono ?_); (case side1 => exact Q83); (case side2 => exact Q58); rintro e w' ⟨rfl, ⟨nd, rfl⟩⟩; refine ⟨_, rfl, ?_⟩))); (go_ret2); (exact Q12)
      ·replace c7 := Bool.eq_false_iff.mpr c7
       subst c7; (rw [if_neg (show ¬ (false = true) by decide)] at H); (have H' := Aside0.mk H); clear H; (have p101 : 0 ≤ (x10_1 : Int) := of_decide_eq_true Q19); (have q101 : x10_1 < (l0.length : Int) := of_decide_eq_true Q19); (obtain ⟨ad101, A101_1, c101_1, e101, hx101_0, hx101_1, hl101_1, hi101_1⟩ := at_T80 HR0.out x10_1 p101 q101); (cases e101); (replace hx101_0 := (HB.out.cell (bltc w _ hx101_0)).trans hx101_0); (replace hx101_1 := (HB.out.cell (bltc w _ hx101_1)).trans hx101_1); (have HR101_1 := Aside0.mk hi101_1); (have HC101_1 := Aside0.mk hl101_1); clear hi101_1 hl101_1; (replace p101 := eq_true p101); (replace q101 := eq_true q101); (go_wp2_with (first | ((with_reducible refine gate_dst (N := 7) rfl ?_); refine box_event ?hg (N := 7) ?hd (cs := #[.int .i64 0, .slice none 0 0]) (t := 80) ?hr ?_; (case hd => rfl); (case hg => rfl); (case hr => first | (go_simp; done) | (go_simp; rfl)); intro gb102 hg w10 hbox hb; have hB_ := bz Q18 hb; have n0_ := Aside0.mk (below_step hB_ hb); have n1_ := Aside0.mk (hbox); have n2_ := Aside0.mk ((Q75 : w.heap.size ≤ gb102)); have n3_ := n2_; clear HB; have HB := n0_; have BK102 := n1_; have GW102 := n2_; have GE102 := n3_; clear n0_ n1_ n2_ n3_ hB_ hb hbox hg; have hcz11_0 := cz BK102.out 0; have hcz11_1 := cz BK102.out 1; have hfz11_0 := blk_frozen BK102.out 0; have hfz11_1 := blk_frozen BK102.out 1) | ((with_reducible refine gate_callee (f := 101) rfl ?_); refine gL (some 17) Try.func101 #[.slice A101_1 ((rd_T80 l0 x10_1).f1).length c101_1, .int .i64 a1] ?_; (with_reducible refine (slices_Contains_int_int.calls k1 _ _ ((rd_T80 l0 x10_1).f1) a1 false _ ?side1 ?side2 A6.out).mono ?_); (case side1 => exact Q83); (case side2 => exact Q58); rintro e w' ⟨rfl, ⟨nd, rfl⟩⟩; refine ⟨_, rfl, ?_⟩))); go_roundg k1
       case measure => have := HK1.out; omega
       case rel => exact ⟨(wrap64 (x10_1 + 1)), Q16, H', ⟨Q20⟩, ⟨Q9⟩⟩
     ·rw [if_neg c5] at H
      exact Q11
    ·rw [if_neg c4] at H
     exact Q11
   ·rw [if_neg c3] at H
    (have c3b0 := decide_eq_false c3); clear c3; (simp only [Option.some.injEq, Prod.mk.injEq] at H); (obtain ⟨rfl, rfl⟩ := H); (go_wp2); (go_ret2); (exact Q13)
end Go.Proofs.Ytdbhelhoaciodaa.X
set_option linter.unusedVariables false
namespace Go.Proofs.Ytdbhelhoaciodaa.X
open Go.RowKit Go.Proofs.YtdbhelhoaciodaaW.PrintWords Go.Proofs.YtdbhelhoaciodaaW.PrintLast Go.Proofs.YtdbhelhoaciodaaW.PrintMore Go.Proofs.Ytdbhelhoaciodaa.E
set_option maxHeartbeats 1000000 in
set_option maxRecDepth 100000 in
theorem idxFunc106 (A_ : Option Addr) (c_ : Nat) (l0 : List (S83)) (g : Nat) (lb : Array Value) (p : S83 → Bool) (w : World)
  (hr0 : Kd.C k83 w A_ l0.length l0) (eg : ∀ args w, (callFunc g args).run Try.prog w = .ok (.enter g args) w)
  (hp : ∀ (W : World) (x : S83), x ∈ l0 → Below w.heap.size w W → Calls Try.prog g (#[.agg #[.int .i64 x.f0, .int .i64 x.f1, .int .i64 x.f2]] ++ lb) W fun e w' => e = .returned (.bool (p x)) ∧ Below W.heap.size W w') :
  Calls Try.prog 106 #[.slice A_ l0.length c_, .func (.func g) #[] lb] w fun e w' => e = .returned (.int .i64 (idxG p 0 l0)) ∧ Below w.heap.size w w' := by
 have hu83 := Try.underlying83
 have HL := Aside0.mk hr0.2.1
 have HR0 := Aside0.mk hr0
 have HP := Aside0.mk hp
 clear hr0 hp
 go_enter Try.func106, Try.ntmps106
 go_wp2
 go_loopg [5, 8] l0.length (fun gg _ s8 wr => ∃ x8 : Int, s8 = .int .i64 x8 ∧ Aside0 (0 ≤ x8) ∧ Aside0 (x8 ≤ (l0.length : Int)) ∧ Aside0 ((l0.length : Int) - x8 ≤ (gg : Int)) ∧ Aside0 (Below w.heap.size w wr) ∧ Aside0 (∀ (m : Nat) y, (m : Int) < x8 → l0[m]? = some y → p y = false))
 case atStart => exact ⟨0, rfl, ⟨by omega⟩, ⟨by omega⟩, ⟨by omega⟩, ⟨Below.refl _ _⟩, ⟨fun m y hm => by omega⟩⟩
 case round =>
  obtain ⟨x8, rfl, H0, H1, HG, HB, HN⟩ := hrel
  by_cases c : x8 < (l0.length : Int)
  ·have p1 := H0.out
   have q1 := c
   have cb : decide (x8 < (l0.length : Int)) = true := decide_eq_true c
   obtain ⟨ad, e, hx0, hx1, hx2⟩ := at_T83 (Kd.C_below HR0.out HB.out) x8 p1 q1
   cases e
   replace p1 := eq_true p1
   replace q1 := eq_true q1
   have hel : l0[x8.toNat]? = some (rd_T83 l0 x8) := by
    have := H0.out
    unfold rd_T83
    rw [List.getD_eq_getElem?_getD, List.getElem?_eq_getElem (show x8.toNat < l0.length by omega), Option.getD_some]
   have hcall := HP.out wr (rd_T83 l0 x8) (List.mem_of_getElem? hel) HB.out
   have HE := Aside0.mk hel
   clear hel
   have hwr : wrap64 (x8 + 1) = x8 + 1 := wrap_id (by have := H0.out; omega) (by have := HL.out; omega)
   cases hq : p (rd_T83 l0 x8) with
   | true =>
    rw [hq] at hcall
    have HQ := Aside0.mk hq
    clear hq
    go_wp2_with (go_at_fn g; refine hcall.mono ?_; rintro e w' ⟨rfl, hb⟩)
    go_ret
    refine ⟨?_, ?_⟩
    ·rw [idxG_here HE.out HQ.out (fun m y hm => HN.out m y (by have := H0.out; omega))]
     have := H0.out
     rw [Int.toNat_of_nonneg (by omega)]
     rfl
    ·exact below_step HB.out hb
   | false =>
    rw [hq] at hcall
    have HQ := Aside0.mk hq
    clear hq
    go_wp2_with (go_at_fn g; refine hcall.mono ?_; rintro e w' ⟨rfl, hb⟩)
    go_roundg (l0.length - (x8.toNat + 1))
    case measure => have := HG.out; have := H0.out; omega
    case rel =>
     refine ⟨x8 + 1, by simp [*], ⟨by have := H0.out; omega⟩, ⟨by omega⟩, ⟨by have := H0.out; omega⟩, ⟨below_step HB.out hb⟩, ⟨fun m y hm hy => ?_⟩⟩
     by_cases e : (m : Int) = x8
     ·have : x8.toNat = m := by omega
      rw [← this, HE.out] at hy
      cases hy
      exact HQ.out
     ·exact HN.out m y (by omega) hy
  ·have cb : decide (x8 < (l0.length : Int)) = false := decide_eq_false c
   have e : x8 = (l0.length : Int) := by have := H1.out; omega
   have HE := Aside0.mk e
   clear e
   go_wp2
   go_ret
   refine ⟨?_, HB.out⟩
   rw [idxG_none (fun m y hm => HN.out m y (by rw [HE.out]; omega))]
   rfl
end Go.Proofs.Ytdbhelhoaciodaa.X
namespace Go.Proofs.Ytdbhelhoaciodaa.X
open Go.RowKit Go.Proofs.YtdbhelhoaciodaaW.PrintWords Go.Proofs.YtdbhelhoaciodaaW.PrintLast Go.Proofs.YtdbhelhoaciodaaW.PrintMore Go.Proofs.Ytdbhelhoaciodaa.E
attribute [local go_sem] max2_int min2_int max_two min_two max_three min_three max_four min_four
set_option linter.unusedVariables false
set_option linter.unusedSimpArgs false
attribute [-simp] ByteArray.size_append ByteArray.size_extract
attribute [-go_sem] ByteArray.size_append'
/-! ### impl_itemOf: function 55 -/
theorem itemOf1 (x : S83) (a : Int) (B : Nat) (w : World) (hc : w.cell? ⟨B, 0, none⟩ = some (.int .i64 a)) :
  Calls Try.prog 107 #[.agg #[.int .i64 x.f0, .int .i64 x.f1, .int .i64 x.f2], .pointer (some ⟨B, 0, none⟩)] w fun e w' => e = .returned (.bool (x.f0 == a)) ∧ Below w.heap.size w w' := by
 (have hu59 := Try.underlying83); (have hc' : ∀ o : Obj, (w.alloc o).cell? ⟨B, 0, none⟩ = some (.int .i64 a) := fun o => ((((Below.refl _ _).alloc (Nat.le_refl _) o).cell (p := ⟨B, 0, none⟩) (bltc w _ hc))).trans hc); (go_enter Try.func107, Try.ntmps107); (go_wp2); go_ret; (exact ⟨rfl, (Below.refl _ _).alloc (Nat.le_refl _) _⟩)
def impl_itemOf.f (l0 : List S83) (a1 : Int) : Option Int := some (idxG (fun x : S83 => x.f0 == a1) 0 l0)
set_option maxHeartbeats 400000 in
set_option maxRecDepth 100000 in
theorem impl_itemOf.calls (A0 : Option Addr) (c0 : Nat) (l0 : List (S83)) (a1 : Int) (r : Int) (w : World) (hr0 : Kd.C k83 w A0 l0.length l0) (hc0 : l0.length ≤ c0) (h : impl_itemOf.f l0 a1 = some r) :
  Calls Try.prog 55 #[.slice A0 l0.length c0, .int .i64 a1] w fun e w' => e = .returned (.int .i64 r) ∧ Below w.heap.size w w' := by
 (have hr := Option.some.inj h); (have HH := Aside0.mk hr); clear h hr
 have C := fun (W : World) (hb : Below w.heap.size w W) (hlt : w.heap.size < W.heap.size) (hcell : W.cell? ⟨w.heap.size, 0, none⟩ = some (.int .i64 a1)) =>
  idxFunc106 A0 c0 l0 107 #[.pointer (some ⟨w.heap.size, 0, none⟩)] (fun x : S83 => x.f0 == a1) W (Kd.C_below hr0 hb) (enters_of Try.func107 (by kernel_rfl) rfl) (fun W' x _ hb' => itemOf1 x a1 w.heap.size W' ((hb'.cell (p := ⟨w.heap.size, 0, none⟩) hlt).trans hcell))
 (have CC := Aside0.mk C); clear C hr0; (go_enter Try.func55, Try.ntmps55); (go_wp2_with (go_at_call 106; refine (CC.out _ ?s1 ?s2 ?s3).mono ?_; (case s1 => exact (Below.refl _ _).alloc (Nat.le_refl _) _); (case s2 => simp); (case s3 => simp); rintro e w' ⟨rfl, hb⟩)); go_ret; (refine ⟨?_, below_step ((Below.refl _ _).alloc (Nat.le_refl _) _) hb⟩); (rw [← HH.out]); rfl
end Go.Proofs.Ytdbhelhoaciodaa.X
namespace Go.Proofs.Ytdbhelhoaciodaa.X
open Go.RowKit Go.Proofs.YtdbhelhoaciodaaW.PrintWords Go.Proofs.YtdbhelhoaciodaaW.PrintLast Go.Proofs.YtdbhelhoaciodaaW.PrintMore
attribute [local go_sem] max2_int min2_int max_two min_two max_three min_three max_four min_four
set_option linter.unusedVariables false
set_option linter.unusedSimpArgs false
attribute [-simp] ByteArray.size_append ByteArray.size_extract
attribute [-go_sem] ByteArray.size_append'
/-! ### cmp_isNaN_int: function 116 -/
def cmp_isNaN_int.f (a0 : Int) : Option (Bool) := some (a0 != a0)
set_option maxHeartbeats 8000000 in
set_option maxRecDepth 100000 in
theorem cmp_isNaN_int.calls (a0 : Int) (r : Bool) (w : World) (h : cmp_isNaN_int.f a0 = some r) :
  Calls Try.prog 116 #[.int .i64 a0] w fun e w' => e = .returned (.bool r) ∧ Drawn0 w w' := by
 (unfold cmp_isNaN_int.f at h); (have H := h); clear h; (obtain rfl := Option.some.inj H); (go_enter Try.func116, Try.ntmps116); (go_wp2); go_ret; (exact Q0)
/-! ### cmp_Less_int: function 141 -/
def cmp_Less_int.f (a0 : Int) (a1 : Int) : Option (Bool) := (cmp_isNaN_int.f a0).bind fun t101 => (if t101 = true then ((cmp_isNaN_int.f a1).bind fun t102 => (if t102 = true then (some (decide (a0 < a1))) else (some true))) else (some (decide (a0 < a1))))
set_option maxHeartbeats 8000000 in
set_option maxRecDepth 100000 in
theorem cmp_Less_int.calls (a0 : Int) (a1 : Int) (r : Bool) (w : World) (h : cmp_Less_int.f a0 a1 = some r) :
  Calls Try.prog 141 #[.int .i64 a0, .int .i64 a1] w fun e w' => e = .returned (.bool r) ∧ Drawn0 w w' := by
 (unfold cmp_Less_int.f at h); (have H := h); clear h; (replace H := obS H); (obtain ⟨t101, A3, H⟩ := H); (by_cases c4 : t101 = true)
 ·subst c4
  (rw [if_pos rfl] at H); (replace H := obS H); (obtain ⟨t102, A5, H⟩ := H); (by_cases c6 : t102 = true); (· subst c6; (rw [if_pos rfl] at H); (obtain rfl := Option.some.inj H); (go_enter Try.func141, Try.ntmps141); (go_wp2_with (first | ((with_reducible refine gate_callee (f := 116) rfl ?_); refine gL (some 6) Try.func116 #[.int .i64 a0] ?_; (with_reducible refine (cmp_isNaN_int.calls a0 true _ A3.out).mono ?_); rintro e w' ⟨rfl, ⟨nd, rfl⟩⟩; refine ⟨_, rfl, ?_⟩) | (go_at_call 116; (with_reducible refine (cmp_isNaN_int.calls a1 true _ A5.out).mono ?_); rintro e w' ⟨rfl, ⟨nd, rfl⟩⟩))); go_ret; (exact Q0)); (· (replace c6 := Bool.eq_false_iff.mpr c6); subst c6; (rw [if_neg (show ¬ (false = true) by decide)] at H); (obtain rfl := Option.some.inj H); (go_enter Try.func141, Try.ntmps141); (go_wp2_with (first | ((with_reducible refine gate_callee (f := 116) rfl ?_); refine gL (some 6) Try.func116 #[.int .i64 a0] ?_; (with_reducible refine (cmp_isNaN_int.calls a0 true _ A3.out).mono ?_); rintro e w' ⟨rfl, ⟨nd, rfl⟩⟩; refine ⟨_, rfl, ?_⟩) | (go_at_call 116; (with_reducible refine (cmp_isNaN_int.calls a1 false _ A5.out).mono ?_); rintro e w' ⟨rfl, ⟨nd, rfl⟩⟩))); go_ret; (exact Q0))
 ·replace c4 := Bool.eq_false_iff.mpr c4
  subst c4; (rw [if_neg (show ¬ (false = true) by decide)] at H); (obtain rfl := Option.some.inj H); (go_enter Try.func141, Try.ntmps141); (go_wp2_with (first | ((with_reducible refine gate_callee (f := 116) rfl ?_); refine gL (some 6) Try.func116 #[.int .i64 a0] ?_; (with_reducible refine (cmp_isNaN_int.calls a0 false _ A3.out).mono ?_); rintro e w' ⟨rfl, ⟨nd, rfl⟩⟩; refine ⟨_, rfl, ?_⟩))); go_ret; (exact Q0)
/-! ### slices_insertionSortOrdered_int: function 135 -/
mutual
def slices_insertionSortOrdered_int.l0 : Nat → List Int → Int → Int → Int → Option (List Int)
 | 0, _, _, _, _ => none
 | k + 1, x0, x1, x2, x6 => if x6 < x2 then (slices_insertionSortOrdered_int.l1 k x0 x1 x2 x6 x6) else (some x0)
def slices_insertionSortOrdered_int.l1 : Nat → List Int → Int → Int → Int → Int → Option (List Int)
 | 0, _, _, _, _, _ => none
 | k + 1, x0, x1, x2, x6, x7 => if x7 > x1 then (if 0 ≤ x7 then (if x7 < (x0.length : Int) then (if 0 ≤ (wrap64 (x7 - 1)) then (if (wrap64 (x7 - 1)) < (x0.length : Int) then ((cmp_Less_int.f (rd x0 x7) (rd x0 (wrap64 (x7 - 1)))).bind fun t103 => (if t103 = true then (slices_insertionSortOrdered_int.l1 k ((x0.set (x7 : Int).toNat (rd x0 (wrap64 (x7 - 1)))).set ((wrap64 (x7 - 1)) : Int).toNat (rd x0 x7)) x1 x2 x6 (wrap64 (x7 - 1))) else (slices_insertionSortOrdered_int.l0 k x0 x1 x2 (wrap64 (x6 + 1))))) else (none)) else (none)) else (none)) else (none)) else (slices_insertionSortOrdered_int.l0 k x0 x1 x2 (wrap64 (x6 + 1)))
end
def slices_insertionSortOrdered_int.f (k : Nat) (l0 : List Int) (a1 : Int) (a2 : Int) : Option (List Int) := slices_insertionSortOrdered_int.l0 k l0 a1 a2 (wrap64 (a1 + 1))
def slices_insertionSortOrdered_int.T4 : Bool × List (List Nat × List Nat) := (true, [([], []), ([], []), ([0, 1], [0, 1]), ([2], [2]), ([3], [3]), ([3], [3]), ([4, 5, 3], [3, 4, 5]), ([6, 3], [3, 6]), ([3], [3]), ([3], [3]), ([9, 3], [3, 9]), ([8, 10, 3], [3, 8, 10]), ([11, 3], [3, 11]), ([7, 12, 3, 3], [3, 7, 12]), ([3, 13], [3, 13])])
def slices_insertionSortOrdered_int.B4 : List Nat := [0, 0, 3, 7, 15, 15, 63, 127, 15, 15, 527, 1807, 3855, 8191, 16383]
theorem slices_insertionSortOrdered_int.tab4 : rtab .any (opsOf Try.f135 4) = slices_insertionSortOrdered_int.T4 := by kernel_rfl
theorem slices_insertionSortOrdered_int.bits4 : waitsOk slices_insertionSortOrdered_int.T4.2 slices_insertionSortOrdered_int.B4 = true := by kernel_rfl
def slices_insertionSortOrdered_int.T6 : Bool × List (List Nat × List Nat) := (true, [([], []), ([], []), ([], []), ([], []), ([3], [3]), ([], []), ([], []), ([6], [6]), ([5, 7], [5, 7]), ([8], [8]), ([], []), ([], []), ([10, 11], [10, 11]), ([12], [12]), ([0, 1, 0, 1, 5, 6, 7, 8, 9, 13], [0, 1]), ([14, 9, 0, 1, 5, 6, 7, 8, 9, 13], [9, 14]), ([2, 4, 0, 1, 2, 3, 4, 5, 6, 7, 8, 9, 10, 11, 12, 13, 14, 15], [2, 4]), ([16, 13, 15, 0, 1, 2, 3, 4, 5, 6, 7, 8, 9, 10, 11, 12, 13, 14, 15], [13, 16])])
def slices_insertionSortOrdered_int.B6 : List Nat := [0, 0, 0, 0, 8, 0, 0, 64, 224, 480, 0, 0, 3072, 7168, 16355, 32739, 65535, 131071]
theorem slices_insertionSortOrdered_int.tab6 : rtab .any (opsOf Try.f135 6) = slices_insertionSortOrdered_int.T6 := by kernel_rfl
theorem slices_insertionSortOrdered_int.bits6 : waitsOk slices_insertionSortOrdered_int.T6.2 slices_insertionSortOrdered_int.B6 = true := by kernel_rfl
set_option maxHeartbeats 8000000 in
set_option maxRecDepth 100000 in
theorem slices_insertionSortOrdered_int.calls (k : Nat) (P0_ : Nat → Prop) (u9000_ : Value) (l0 : List Int) (a1 : Int) (a2 : Int) (r : List Int) (w0 w : World) (hB : Below w0.heap.size w0 w) (ho0 : Kd.R (Kd.int .i64) 3 w w0.heap.size P0_ u9000_ l0) (h : slices_insertionSortOrdered_int.f k l0 a1 a2 = some r) :
  Calls Try.prog 135 #[u9000_, .int .i64 a1, .int .i64 a2] w fun e w' => e = .returned (.tuple #[]) ∧ Kd.R (Kd.int .i64) 3 w' w0.heap.size (fun k_ => (P0_ k_ ∨ w.heap.size ≤ k_)) u9000_ r ∧ Below w0.heap.size w0 w' ∧ Kept w w' (fun k_ => P0_ k_) := by
 (have HO0 := Aside0.mk (show Kd.R (Kd.int .i64) 3 w w0.heap.size (fun k_ => (P0_ k_ ∨ w.heap.size ≤ k_)) u9000_ l0 from Kd.R_mono ho0 (fun k_ hk => (.inl hk)))); (have HK := Aside0.mk (Kept.refl w (fun k_ => P0_ k_))); (have HW0 := Aside0.mk hB.size); (have HB := Aside0.mk hB); clear hB; (unfold slices_insertionSortOrdered_int.f at h); (have H := h); clear h; (have H' := Aside0.mk H); clear H; (go_enter Try.func135, Try.ntmps135); (go_wp2); (go_loopg [6] k (fun kq v6 w' => ∃ (x0_1 : List Int) (x6_1 : Int), v6 = .int .i64 x6_1 ∧ Aside0 (slices_insertionSortOrdered_int.l0 kq x0_1 a1 a2 x6_1 = some r) ∧ Aside0 (kq ≤ k) ∧ Aside0 (Kd.R (Kd.int .i64) 3 w' w0.heap.size (fun k_ => (P0_ k_ ∨ w.heap.size ≤ k_)) u9000_ x0_1) ∧ Aside0 (Kept w w' (fun k_ => P0_ k_)) ∧ Aside0 (Below w0.heap.size w0 w')))
 case atStart => exact ⟨(l0), (wrap64 (a1 + 1)), Q16, H', ⟨Nat.le_refl _⟩, ⟨rI HO0⟩, ⟨Q17⟩, ⟨eI HB⟩⟩
 case round =>
  (clear H'); (try clear c1); (try clear p2); (obtain ⟨x0_1, x6_1, rfl, HA, HK1, HO_0, HK, HB⟩ := hrel)
  cases gk with
  | zero => exact absurd HA.out (by simp [slices_insertionSortOrdered_int.l0])
  | succ k1 =>
   (have H := HA.out); clear HA; (simp only [slices_insertionSortOrdered_int.l0] at H); (by_cases c4 : x6_1 < a2)
   ·rw [if_pos c4] at H
    (have c4b0 := decide_eq_true c4); clear c4; (have H' := Aside0.mk H); clear H; (go_wp2); (go_loopg [7] k1 (fun kq v7 w' => ∃ (x0_2 : List Int) (x7_2 : Int), v7 = .int .i64 x7_2 ∧ Aside0 (slices_insertionSortOrdered_int.l1 kq x0_2 a1 a2 x6_1 x7_2 = some r) ∧ Aside0 (kq ≤ k1) ∧ Aside0 (Kd.R (Kd.int .i64) 3 w' w0.heap.size (fun k_ => (P0_ k_ ∨ w.heap.size ≤ k_)) u9000_ x0_2) ∧ Aside0 (Kept w w' (fun k_ => P0_ k_)) ∧ Aside0 (Below w0.heap.size w0 w')))
    case atStart => exact ⟨(x0_1), (x6_1), Q16, H', ⟨Nat.le_refl _⟩, ⟨rI HO_0⟩, ⟨Q17⟩, ⟨eI HB⟩⟩
    case round =>
     (clear H'); (try clear c1); (try clear p2); (try clear c4); (try clear c4b0); (try clear p2); (obtain ⟨x0_2, x7_2, rfl, HA, HK2, HO_0, HK, HB⟩ := hrel)
     cases gk with
     | zero => exact absurd HA.out (by simp [slices_insertionSortOrdered_int.l1])
     | succ k2 =>
      (have H := HA.out); clear HA; (simp only [slices_insertionSortOrdered_int.l1] at H); (by_cases c5 : x7_2 > a1)
      ·rw [if_pos c5] at H
       (have c5b0 : decide (a1 < x7_2) = true := decide_eq_true c5); clear c5; (by_cases c6 : 0 ≤ x7_2)
       ·rw [if_pos c6] at H
        (have c6b0 := decide_eq_true c6); clear c6; (by_cases c7 : x7_2 < (x0_2.length : Int))
        ·rw [if_pos c7] at H
         (have c7b0 := decide_eq_true c7); clear c7; (obtain ⟨ji8, hji8⟩ : ∃ j_ : Int, (wrap64 (x7_2 - 1)) = j_ := ⟨_, rfl⟩); (replace H : (if 0 ≤ (ji8) then (if (ji8) < (x0_2.length : Int) then ((cmp_Less_int.f (rd x0_2 x7_2) (rd x0_2 (ji8))).bind fun t103 => (if t103 = true then (slices_insertionSortOrdered_int.l1 k2 ((x0_2.set (x7_2 : Int).toNat (rd x0_2 (ji8))).set ((ji8) : Int).toNat (rd x0_2 x7_2)) a1 a2 x6_1 ji8) else (slices_insertionSortOrdered_int.l0 k2 x0_2 a1 a2 (wrap64 (x6_1 + 1))))) else (none)) else (none)) = some r := by first | (rw [hji8] at H; exact H) | (simp only [hji8] at H ⊢; exact H)); (have hji8w : (IntKind.i64.wrap (x7_2 - 1)) = ji8 := (i64_w _).trans hji8); (by_cases c9 : 0 ≤ (ji8))
         ·rw [if_pos c9] at H
          (have c9b0 := decide_eq_true c9); clear c9; (by_cases c10 : (ji8) < (x0_2.length : Int))
          ·rw [if_pos c10] at H
           (have c10b0 := decide_eq_true c10); clear c10; (replace H := obS H); (obtain ⟨t103, A11, H⟩ := H); (by_cases c12 : t103 = true)
           ·subst c12
            (rw [if_pos rfl] at H); (obtain ⟨y106, hy106⟩ : ∃ y_ : List Int, y_ = (x0_2.set (x7_2 : Int).toNat (rd x0_2 (ji8))) := ⟨_, rfl⟩); (replace H : (slices_insertionSortOrdered_int.l1 k2 (y106.set ((ji8) : Int).toNat (rd x0_2 x7_2)) a1 a2 x6_1 ji8) = some r := Q24); (have Ny106 := Aside0.mk hy106); clear hy106; (obtain ⟨y107, hy107⟩ : ∃ y_ : List Int, y_ = (y106.set ((ji8) : Int).toNat (rd x0_2 x7_2)) := ⟨_, rfl⟩); (replace H : (slices_insertionSortOrdered_int.l1 k2 y107 a1 a2 x6_1 ji8) = some r := by first | (rw [hy107]; with_reducible exact H) | (have H2_ := (Option.bind_some _ _).symm.trans H; rw [hy107]; with_reducible exact H2_) | (have H2_ := (Option.bind_some _ _).symm.trans H; with_reducible exact H2_) | with_reducible exact H | (rw [hy107]; exact H) | exact H); (have Ny107 := Aside0.mk hy107); clear hy107; (have H' := Aside0.mk H); clear H; (try go_wp2); (have n0_ := Aside0.mk (Kd.R_drew HO_0.out)); (have n1_ := Aside0.mk (Kept.drew HK.out)); (have n2_ := Aside0.mk (below_drew1 HB.out)); clear HO_0 HK HB; (have HO_0 := n0_); (have HK := n1_); (have HB := n2_); clear n0_ n1_ n2_; (obtain ⟨Ao16, co16, eo16⟩ := Kd.R_slice HO_0.out); ((first | subst eo16 | (injection eo16 with f1_ f2_ f3_; have f4_ := f1_.symm; have f5_ := f3_.symm; clear f1_ f2_ f3_; subst f4_; subst f5_))); (have p101 : 0 ≤ (x7_2 : Int) := odt); (have q101 : x7_2 < (x0_2.length : Int) := odt); (obtain ⟨ad101, e101, hx101_0⟩ := Kd.at_int (Kd.R_reads' HO_0.out).2.2 x7_2 p101 q101); (cases e101); (replace p101 := eq_true p101); (replace q101 := eq_true q101); (have p102 : 0 ≤ ((ji8) : Int) := odt); (have q102 : (ji8) < (x0_2.length : Int) := odt); (obtain ⟨ad102, e102, hx102_0⟩ := Kd.at_int (Kd.R_reads' HO_0.out).2.2 (ji8) p102 q102); (obtain rfl : ad101 = ad102 := (by injection e102)); (replace p102 := eq_true p102); (replace q102 := eq_true q102); (refine start_ (n := 15) (S := fun w' => w'.cell? (ad101.add (x7_2).toNat) = some (.int .i64 (rd x0_2 x7_2)) ∧ w'.cell? (ad101.add ((ji8)).toNat) = some (.int .i64 (rd x0_2 (ji8)))) (ds := []) (cn 15 0) (by kernel_rfl) rfl (by kernel_rfl) ⟨hx101_0, hx102_0⟩ (fun hHeld => ?_); refine with_tabW slices_insertionSortOrdered_int.tab4 slices_insertionSortOrdered_int.bits4 (fun HT_ HW_ => ?_)); (generalize wr.drew = w15 at HO_0 HK HB hx101_0 hx102_0 hHeld ⊢); (refine pB 0 (cn 15 1) (some 16) HT_ (h := ?_)); (refine pB 1 (cn 15 2) (some 17) HT_ (h := ?_)); (refine pB 2 (cn 15 3) (some 18) HT_ (h := ?_)); (refine pB 3 (cn 15 4) (some 19) HT_ (h := ?_)); (refine pB 4 (cn 15 5) (some 20) HT_ (h := ?_)); (refine pB 5 (cn 15 6) (some 21) HT_ (h := ?_)); (refine pB 6 (cn 15 7) (some 22) HT_ (h := ?_)); (refine pB 8 (cb 15 383) (some 24) HT_ (h := ?_)); (refine pB 9 (cb 15 895) (some 25) HT_ (h := ?_)); (refine pA 10 (cb 15 1919) (some 26) HT_ (v := ?_) (a' := ?_) rfl rfl (by kernel_rfl) (fun _ _ _ h => h) (Or.inl ⟨by rfl, ?_⟩) ?_ ?_); rotate_left; (· intro w'; go_simp; with_reducible rfl); rotate_left
            (· (simp only [Act.put, aS1, aS2, aS3, i64_w, i32_w]); rfl); (refine pB 11 (cb 15 3967) (some 27) HT_ (h := ?_)); (refine tB 7 (cn 15 12) (some 23) HT_ HW_ hHeld (h := ?_)); (refine tB 12 (cn 15 13) (some 28) HT_ HW_ hHeld (h := ?_)); (refine oN 13 (some 29) (cn 15 14) HT_ (fun K hK => ?_)); (refine goes_ Try.func141 (by kernel_rfl) rfl #[.int .i64 (rd x0_2 x7_2), .int .i64 (rd x0_2 (ji8))] (by rfl) rfl rfl Q84 ?_); (with_reducible refine (cmp_Less_int.calls (rd x0_2 x7_2) (rd x0_2 (ji8)) true _ A11.out).mono ?_); (rintro e w' ⟨rfl, ⟨nd, rfl⟩⟩); (refine ⟨_, rfl, ?_⟩); (refine hK.out _ _ ⟨hHeld.1, hHeld.2⟩ (fun hHeld => ?_)); clear hK K; (refine nP (some 29) (h := ?_)); (refine pB 14 (cn 15 15) (some 30) HT_ (h := ?_)); (refine done_ (done_of HT_.out (by kernel_rfl)) ?_); (try go_wp2); ((try (rw [drewN_self w15]; generalize hq_ : World.drewN w15 _ = w15; have n0_ : Aside0 (Kd.R (Kd.int .i64) 3 w15 w0.heap.size (fun k_ => (P0_ k_ ∨ w.heap.size ≤ k_)) (.slice (some ad101) x0_2.length co16) x0_2) := ⟨by rw [← hq_]; exact (rI HO_0)⟩; have n1_ : Aside0 (Kept w w15 (fun k_ => P0_ k_)) := ⟨by rw [← hq_]; exact Q17⟩; have n2_ : Aside0 (Below w0.heap.size w0 w15) := ⟨by rw [← hq_]; exact (eI HB)⟩; clear HO_0 HK HB hq_; have HO_0 := n0_; have HK := n1_; have HB := n2_; clear n0_ n1_ n2_))); (have n0_ := Aside0.mk (Kd.R_drew HO_0.out)); (have n1_ := Aside0.mk (Kept.drew HK.out)); (have n2_ := Aside0.mk (below_drew1 HB.out)); clear HO_0 HK HB; (have HO_0 := n0_); (have HK := n1_); (have HB := n2_); clear n0_ n1_ n2_; (have p104 : 0 ≤ ((ji8) : Int) := odt); (have q104 : (ji8) < (x0_2.length : Int) := odt); (obtain ⟨ad104, e104, hx104_0⟩ := Kd.at_int (Kd.R_reads' HO_0.out).2.2 (ji8) p104 q104); (obtain rfl : ad101 = ad104 := Q85); (replace p104 := eq_true p104); (replace q104 := eq_true q104); (have p105 : 0 ≤ (x7_2 : Int) := odt); (have q105 : x7_2 < (x0_2.length : Int) := odt); (obtain ⟨ad105, e105, hx105_0⟩ := Kd.at_int (Kd.R_reads' HO_0.out).2.2 x7_2 p105 q105); (obtain rfl : ad101 = ad105 := (by injection e105)); (replace p105 := eq_true p105); (replace q105 := eq_true q105); (have p13 : 0 ≤ (x7_2 : Int) := odt); (have q13 : (x7_2 : Int) < ((x0_2.length : Int) : Int) := odt); (obtain ⟨go13, co13, eo13, gb13, gl13, cl13, HG13⟩ := Kd.R_form HO_0.out (by omega)); ((first | cases eo13 | (injection eo13 with ea_ en_ ec_; (first | subst ea_ | (injection ea_ with ea_; subst ea_)); subst ec_; clear en_))); (have GB13 := Aside0.mk gb13); (have GG13 := Aside0.mk HG13); clear gb13 gl13 HG13; (have HMgo13 := Aside0.mk (show (P0_ go13 ∨ w.heap.size ≤ go13) from (HO_0.out.1 _ rfl))); ((first | simp only [add_plain] at hx101_0 | skip)); ((first | simp only [add_plain] at hx102_0 | skip)); ((first | simp only [add_plain] at hx104_0 | skip)); ((first | simp only [add_plain] at hx105_0 | skip)); (obtain ⟨hx13_0, hf13_0⟩ := Kd.R_celln 0 HO_0.out (x7_2 : Int) p13 q13); (replace p13 := eq_true p13); (replace q13 := eq_true q13); (have HP18 := Kd.R_putn HO_0.out (x7_2 : Int) (rd x0_2 (ji8))); (rw [← Ny106.out] at HP18); (have HQ18 := Aside0.mk HP18); clear HP18; (have p14 : 0 ≤ ((ji8) : Int) := odt); (have q14 : ((ji8) : Int) < ((x0_2.length : Int) : Int) := odt); (obtain ⟨hx14_0, hf14_0⟩ := Kd.R_celln 0 HQ18.out ((ji8) : Int) p14 q14); (replace p14 := eq_true p14); (replace q14 := eq_true q14); (have HP19 := Kd.R_putn HQ18.out ((ji8) : Int) (rd x0_2 x7_2)); (rw [← Ny107.out] at HP19); (have HQ19 := Aside0.mk HP19); clear HP19
            (refine start_ (n := 18) (S := fun w' => w'.cell? ⟨go13, ((ji8)).toNat, none⟩ = some (.int .i64 (rd x0_2 (ji8))) ∧ w'.cell? ⟨go13, (x7_2).toNat, none⟩ = some (.int .i64 (rd x0_2 x7_2))) (ds := [15, 17]) (cn 18 0) (by kernel_rfl) rfl (by kernel_rfl) ⟨hx104_0, hx105_0⟩ (fun hHeld => ?_); refine with_tabW slices_insertionSortOrdered_int.tab6 slices_insertionSortOrdered_int.bits6 (fun HT_ HW_ => ?_)); (generalize w15.drew = w17 at HO_0 HK HB GG13 HQ18 HQ19 hf13_0 hf14_0 hx101_0 hx102_0 hx104_0 hx105_0 hx13_0 hx14_0 hHeld ⊢); (refine pB 0 (cn 18 1) (some 33) HT_ (h := ?_)); (refine pB 1 (cn 18 2) (some 34) HT_ (h := ?_)); (refine pB 2 (cn 18 3) (some 35) HT_ (h := ?_)); (refine pB 3 (cn 18 4) (some 36) HT_ (h := ?_)); (refine pB 4 (cn 18 5) (some 37) HT_ (h := ?_)); (refine pB 5 (cn 18 6) (some 38) HT_ (h := ?_)); (refine pB 6 (cn 18 7) (some 39) HT_ (h := ?_)); (refine pB 7 (cn 18 8) (some 40) HT_ (h := ?_)); (refine pB 8 (cn 18 9) (some 41) HT_ (h := ?_)); (refine pB 10 (cb 18 1535) (some 43) HT_ (h := ?_)); (refine pB 11 (cb 18 3583) (some 44) HT_ (h := ?_)); (refine pB 12 (cb 18 7679) (some 45) HT_ (h := ?_)); (refine tB 9 (cn 18 13) (some 42) HT_ HW_ hHeld (h := ?_)); (refine tB 13 (cn 18 14) (some 46) HT_ HW_ hHeld (h := ?_)); (refine pB 14 (cn 18 15) (some 47) HT_ (h := ?_)); (refine last_ (i := 15) (N := none) (cn 18 16) rfl rfl (one_of HT_.out (by kernel_rfl)) (by decide) (fun K hK => ?_)); (refine skip_ (w1 := ?_) (by rfl) rfl ?_ ?_); rotate_left; (· go_simp; rfl); (refine hK.out _ _ ?_); clear hK K; (refine pB 16 (cn 18 17) (some 48) HT_ (h := ?_)); (refine last_ (i := 17) (N := none) (cn 18 18) rfl rfl (one_of HT_.out (by kernel_rfl)) (by decide) (fun K hK => ?_))
            (refine skip_ (w1 := ?_) (by rfl) rfl ?_ ?_); rotate_left; (· go_simp; rfl); (refine hK.out _ _ ?_); clear hK K; (refine done_ (done_of HT_.out (by kernel_rfl)) ?_); (try go_wp2); go_roundg k2
            case measure => have := HK1.out; have := HK2.out; omega
            case rel => exact ⟨(y107), (ji8), (by first | rfl | (simp; done) | (simp only [← hji8] <;> (first | rfl | simp)) | (simp [*]; done)), H', ⟨Q86⟩, ⟨by (with_reducible repeat (first | apply rA | apply rN | apply rD)); exact HQ19.out⟩, ⟨by repeat (first | (with_reducible first | exact HK.out | apply Kept.alloc | apply Kept.drewN | apply Kept.drew | refine Kept.setCell ?_ HMgo13.out _ | refine Kept.setCell ?_ HMgo13.out _) | exact HK.out)⟩, ⟨by repeat (first | (with_reducible first | exact HB.out | apply bA | apply bN | apply bD | refine below_set ?_ GB13.out | refine below_set ?_ GB13.out) | exact HB.out)⟩⟩
           ·replace c12 := Bool.eq_false_iff.mpr c12
            subst c12; (rw [if_neg (show ¬ (false = true) by decide)] at H); (have H' := Aside0.mk H); clear H; (try go_wp2); (have n0_ := Aside0.mk (Kd.R_drew HO_0.out)); (have n1_ := Aside0.mk (Kept.drew HK.out)); (have n2_ := Aside0.mk (below_drew1 HB.out)); clear HO_0 HK HB; (have HO_0 := n0_); (have HK := n1_); (have HB := n2_); clear n0_ n1_ n2_; (obtain ⟨Ao21, co21, eo21⟩ := Kd.R_slice HO_0.out); ((first | subst eo21 | (injection eo21 with f1_ f2_ f3_; have f4_ := f1_.symm; have f5_ := f3_.symm; clear f1_ f2_ f3_; subst f4_; subst f5_))); (have p101 : 0 ≤ (x7_2 : Int) := odt); (have q101 : x7_2 < (x0_2.length : Int) := odt); (obtain ⟨ad101, e101, hx101_0⟩ := Kd.at_int (Kd.R_reads' HO_0.out).2.2 x7_2 p101 q101); (cases e101); (replace p101 := eq_true p101); (replace q101 := eq_true q101); (have p102 : 0 ≤ ((ji8) : Int) := odt); (have q102 : (ji8) < (x0_2.length : Int) := odt); (obtain ⟨ad102, e102, hx102_0⟩ := Kd.at_int (Kd.R_reads' HO_0.out).2.2 (ji8) p102 q102); (obtain rfl : ad101 = ad102 := (by injection e102)); (replace p102 := eq_true p102); (replace q102 := eq_true q102); (refine start_ (n := 15) (S := fun w' => w'.cell? (ad101.add (x7_2).toNat) = some (.int .i64 (rd x0_2 x7_2)) ∧ w'.cell? (ad101.add ((ji8)).toNat) = some (.int .i64 (rd x0_2 (ji8)))) (ds := []) (cn 15 0) (by kernel_rfl) rfl (by kernel_rfl) ⟨hx101_0, hx102_0⟩ (fun hHeld => ?_); refine with_tabW slices_insertionSortOrdered_int.tab4 slices_insertionSortOrdered_int.bits4 (fun HT_ HW_ => ?_)); (generalize wr.drew = w20 at HO_0 HK HB hx101_0 hx102_0 hHeld ⊢); (refine pB 0 (cn 15 1) (some 16) HT_ (h := ?_)); (refine pB 1 (cn 15 2) (some 17) HT_ (h := ?_)); (refine pB 2 (cn 15 3) (some 18) HT_ (h := ?_)); (refine pB 3 (cn 15 4) (some 19) HT_ (h := ?_)); (refine pB 4 (cn 15 5) (some 20) HT_ (h := ?_)); (refine pB 5 (cn 15 6) (some 21) HT_ (h := ?_)); (refine pB 6 (cn 15 7) (some 22) HT_ (h := ?_)); (refine pB 8 (cb 15 383) (some 24) HT_ (h := ?_)); (refine pB 9 (cb 15 895) (some 25) HT_ (h := ?_)); (refine pB 10 (cb 15 1919) (some 26) HT_ (h := ?_)); (refine pB 11 (cb 15 3967) (some 27) HT_ (h := ?_)); (refine tB 7 (cn 15 12) (some 23) HT_ HW_ hHeld (h := ?_)); (refine tB 12 (cn 15 13) (some 28) HT_ HW_ hHeld (h := ?_))
            (refine oN 13 (some 29) (cn 15 14) HT_ (fun K hK => ?_)); (refine goes_ Try.func141 (by kernel_rfl) rfl #[.int .i64 (rd x0_2 x7_2), .int .i64 (rd x0_2 (ji8))] (by rfl) rfl rfl Q84 ?_); (with_reducible refine (cmp_Less_int.calls (rd x0_2 x7_2) (rd x0_2 (ji8)) false _ A11.out).mono ?_); (rintro e w' ⟨rfl, ⟨nd, rfl⟩⟩); (refine ⟨_, rfl, ?_⟩); (refine hK.out _ _ ⟨hHeld.1, hHeld.2⟩ (fun hHeld => ?_)); clear hK K; (refine nP (some 29) (h := ?_)); (refine pB 14 (cn 15 15) (some 30) HT_ (h := ?_)); (refine done_ (done_of HT_.out (by kernel_rfl)) ?_); (try go_wp2); go_roundg k2
            case measure => have := HK1.out; have := HK2.out; omega
            case rel => exact Q87
          ·rw [if_neg c10] at H
           exact Q11
         ·rw [if_neg c9] at H
          exact Q11
        ·rw [if_neg c7] at H
         exact Q11
       ·rw [if_neg c6] at H
        exact Q11
      ·rw [if_neg c5] at H
       (have c5b0 : decide (a1 < x7_2) = false := decide_eq_false c5); clear c5; (have H' := Aside0.mk H); clear H; (try go_wp2); (have n0_ := Aside0.mk (Kd.R_drew HO_0.out)); (have n1_ := Aside0.mk (Kept.drew HK.out)); (have n2_ := Aside0.mk (below_drew1 HB.out)); clear HO_0 HK HB; (have HO_0 := n0_); (have HK := n1_); (have HB := n2_); clear n0_ n1_ n2_; (refine start_ (n := 15) (S := fun w' => True) (ds := []) (cn 15 0) (by kernel_rfl) rfl (by kernel_rfl) trivial (fun hHeld => ?_); refine with_tabW slices_insertionSortOrdered_int.tab4 slices_insertionSortOrdered_int.bits4 (fun HT_ HW_ => ?_)); (generalize wr.drew = w22 at HO_0 HK HB hHeld ⊢); (refine pB 0 (cn 15 1) (some 16) HT_ (h := ?_)); (refine pB 1 (cn 15 2) (some 17) HT_ (h := ?_)); (refine pB 2 (cn 15 3) (some 18) HT_ (h := ?_)); (refine pB 3 (cn 15 4) (some 19) HT_ (h := ?_)); (refine pU 4 (cn 15 5) (some 20) HT_ (h := ?_)); (refine pU 5 (cn 15 6) (some 21) HT_ (h := ?_)); (refine pU 6 (cn 15 7) (some 22) HT_ (h := ?_)); (refine pU 7 (cn 15 8) (some 23) HT_ (h := ?_)); (refine pU 8 (cn 15 9) (some 24) HT_ (h := ?_)); (refine pU 9 (cn 15 10) (some 25) HT_ (h := ?_)); (refine pU 10 (cn 15 11) (some 26) HT_ (h := ?_)); (refine pU 11 (cn 15 12) (some 27) HT_ (h := ?_)); (refine pU 12 (cn 15 13) (some 28) HT_ (h := ?_)); (refine pU 13 (cn 15 14) (some 29) HT_ (h := ?_)); (refine pB 14 (cn 15 15) (some 30) HT_ (h := ?_)); (refine done_ (done_of HT_.out (by kernel_rfl)) ?_); (try go_wp2); go_roundg k2
       case measure => have := HK1.out; have := HK2.out; omega
       case rel => exact Q87
   ·rw [if_neg c4] at H
    (have c4b0 := decide_eq_false c4); clear c4; (obtain rfl := Option.some.inj H); (go_wp2); (first | go_end0 | ((try simp only [Exit.inBlock, Exit.then]); refine bodyPost_ret (results_none rfl _ _ _) rfl ?_)); (exact Q88)
end Go.Proofs.Ytdbhelhoaciodaa.X
namespace Go.Proofs
open Go.Shelf
def Try.lays125_ren : Go.Shelf.Ren := ⟨fun | 125 => 109 | 128 => 144 | 129 => 145 | n => n, fun | 46 => 130 | 3 => 3 | 51 => 161 | 53 => 163 | 4 => 4 | 5 => 5 | 9 => 9 | n => n, fun | n => n⟩
theorem Try.lays125 : Go.Proofs.Lays.n125 Try.prog Try.lays125_ren := {
 mixed := by kernel_rfl
 f125 := Try.func109.trans (congrArg some (by kernel_rfl))
 f128 := Try.func144.trans (congrArg some (by kernel_rfl))
 f129 := Try.func145.trans (congrArg some (by kernel_rfl))
 t3 := Try.underlying3
 a3 := Try.isAgg3
 z3 := Try.sizeOf3
 v3 := Try.zeroValue3
 t4 := Try.underlying4
 a4 := Try.isAgg4
 z4 := Try.sizeOf4
 v4 := Try.zeroValue4
 t5 := Try.underlying5
 a5 := Try.isAgg5
 z5 := Try.sizeOf5
 v5 := Try.zeroValue5
 t9 := Try.underlying9
 a9 := Try.isAgg9
 z9 := Try.sizeOf9
 v9 := Try.zeroValue9
 t46 := Try.underlying130
 a46 := Try.isAgg130
 z46 := Try.sizeOf130
 v46 := Try.zeroValue130
 t51 := Try.underlying161
 a51 := Try.isAgg161
 z51 := Try.sizeOf161
 v51 := Try.zeroValue161
 t53 := Try.underlying163
 a53 := Try.isAgg163
 z53 := Try.sizeOf163
 v53 := Try.zeroValue163 }
theorem Try.bits_Len (x : Int) (w : World) (h0 : 0 ≤ x) (h1 : x ≤ 18446744073709551615) :
  Calls Try.prog 109 #[.int .u64 x] w fun e w' => e = .returned (.int .i64 (Lib.bitLen x.toNat)) ∧ w' = w := Any.bits_Len Try.lays125 x w h0 h1
def Try.lays189_ren : Go.Shelf.Ren := ⟨fun | 189 => 56 | 125 => 109 | 257 => 108 | 128 => 144 | 129 => 145 | 294 => 135 | 295 => 136 | 296 => 137 | 297 => 138 | 298 => 139 | 299 => 140 | 216 => 141 | 300 => 142 | 301 => 143 | 328 => 160 | 329 => 161 | 330 => 162 | 331 => 163 | 332 => 164 | 215 => 116 | 343 => 170 | n => n, fun | 28 => 26 | 3 => 3 | 46 => 130 | 0 => 0 | 51 => 161 | 53 => 163 | 4 => 4 | 183 => 156 | 182 => 155 | 131 => 89 | 5 => 5 | 9 => 9 | 218 => 172 | 222 => 176 | 228 => 182 | 229 => 183 | n => n, fun | n => n⟩
theorem Try.lays189 : Go.Proofs.Lays.n189 Try.prog Try.lays189_ren := {
 mixed := by kernel_rfl
 f125 := Try.func109.trans (congrArg some (by kernel_rfl))
 f128 := Try.func144.trans (congrArg some (by kernel_rfl))
 f129 := Try.func145.trans (congrArg some (by kernel_rfl))
 f189 := Try.func56.trans (congrArg some (by kernel_rfl))
 f215 := Try.func116.trans (congrArg some (by kernel_rfl))
 f216 := Try.func141.trans (congrArg some (by kernel_rfl))
 f257 := Try.func108.trans (congrArg some (by kernel_rfl))
 f294 := Try.func135.trans (congrArg some (by kernel_rfl))
 f295 := Try.func136.trans (congrArg some (by kernel_rfl))
 f296 := Try.func137.trans (congrArg some (by kernel_rfl))
 f297 := Try.func138.trans (congrArg some (by kernel_rfl))
 f298 := Try.func139.trans (congrArg some (by kernel_rfl))
 f299 := Try.func140.trans (congrArg some (by kernel_rfl))
 f300 := Try.func142.trans (congrArg some (by kernel_rfl))
 f301 := Try.func143.trans (congrArg some (by kernel_rfl))
 f328 := Try.func160.trans (congrArg some (by kernel_rfl))
 f329 := Try.func161.trans (congrArg some (by kernel_rfl))
 f330 := Try.func162.trans (congrArg some (by kernel_rfl))
 f331 := Try.func163.trans (congrArg some (by kernel_rfl))
 f332 := Try.func164.trans (congrArg some (by kernel_rfl))
 f343 := Try.func170.trans (congrArg some (by kernel_rfl))
 t0 := Try.underlying0
 a0 := Try.isAgg0
 z0 := Try.sizeOf0
 v0 := Try.zeroValue0
 t3 := Try.underlying3
 a3 := Try.isAgg3
 z3 := Try.sizeOf3
 v3 := Try.zeroValue3
 t4 := Try.underlying4
 a4 := Try.isAgg4
 z4 := Try.sizeOf4
 v4 := Try.zeroValue4
 t5 := Try.underlying5
 a5 := Try.isAgg5
 z5 := Try.sizeOf5
 v5 := Try.zeroValue5
 t9 := Try.underlying9
 a9 := Try.isAgg9
 z9 := Try.sizeOf9
 v9 := Try.zeroValue9
 t28 := Try.underlying26
 a28 := Try.isAgg26
 z28 := Try.sizeOf26
 v28 := Try.zeroValue26
 t46 := Try.underlying130
 a46 := Try.isAgg130
 z46 := Try.sizeOf130
 v46 := Try.zeroValue130
 t51 := Try.underlying161
 a51 := Try.isAgg161
 z51 := Try.sizeOf161
 v51 := Try.zeroValue161
 t53 := Try.underlying163
 a53 := Try.isAgg163
 z53 := Try.sizeOf163
 v53 := Try.zeroValue163
 t131 := Try.underlying89
 a131 := Try.isAgg89
 z131 := Try.sizeOf89
 v131 := Try.zeroValue89
 t182 := Try.underlying155
 a182 := Try.isAgg155
 z182 := Try.sizeOf155
 v182 := Try.zeroValue155
 t183 := Try.underlying156
 a183 := Try.isAgg156
 z183 := Try.sizeOf156
 v183 := Try.zeroValue156
 t218 := Try.underlying172
 a218 := Try.isAgg172
 z218 := Try.sizeOf172
 v218 := Try.zeroValue172
 t222 := Try.underlying176
 a222 := Try.isAgg176
 z222 := Try.sizeOf176
 v222 := Try.zeroValue176
 t228 := Try.underlying182
 a228 := Try.isAgg182
 z228 := Try.sizeOf182
 v228 := Try.zeroValue182
 t229 := Try.underlying183
 a229 := Try.isAgg183
 z229 := Try.sizeOf183
 v229 := Try.zeroValue183 }
open Go.Sort Go.RowKit in
theorem Try.slices_Sort_int (blk off cap : Nat) (zs : List Int) (w : World) (hH : Holds (Value.int .i64) w blk off zs.toArray) (hblk : blk < w.heap.size) (hsz : zs.length < 4611686018427387904) :
  Calls Try.prog 56 #[.slice (some ⟨blk, off, none⟩) zs.length cap] w fun e w' =>
   e = .returned (.tuple #[]) ∧ ∃ n os, w' = grow (putRow (Value.int .i64) (Sort.ahead w n) blk off (zs.mergeSort fun x y => decide (x ≤ y)).toArray) os := Any.slices_Sort_int Try.lays189 blk off cap zs w hH hblk hsz
def Try.laysNm220_ren : Go.Shelf.Ren := ⟨fun | 20 => 57 | n => n, fun | 22 => 26 | 3 => 3 | 4 => 4 | 0 => 0 | n => n, fun | n => n⟩
theorem Try.laysNm220 : Go.Proofs.Lays2.n20 Try.prog Try.laysNm220_ren := {
 mixed := by kernel_rfl
 f20 := Try.func57.trans (congrArg some (by kernel_rfl))
 t0 := Try.underlying0
 a0 := Try.isAgg0
 z0 := Try.sizeOf0
 v0 := Try.zeroValue0
 t3 := Try.underlying3
 a3 := Try.isAgg3
 z3 := Try.sizeOf3
 v3 := Try.zeroValue3
 t4 := Try.underlying4
 a4 := Try.isAgg4
 z4 := Try.sizeOf4
 v4 := Try.zeroValue4
 t22 := Try.underlying26
 a22 := Try.isAgg26
 z22 := Try.sizeOf26
 v22 := Try.zeroValue26
 i3 := by kernel_rfl }
open Go.RowKit Go.Lib Go.Sort in
theorem Try.slices_Compact_int (blk off cap : Nat) (zs : List Int) (w : World) (hH : Holds (Value.int .i64) w blk off zs.toArray) (hsz : zs.length ≤ 9223372036854775807) (hcap : zs.length ≤ cap) :
  Calls Try.prog 57 #[.slice (some ⟨blk, off, none⟩) zs.length cap] w fun e w' => e = .returned (.slice (some ⟨blk, off, none⟩) (Lib.compact zs).length cap) ∧ ∃ q, w' = putRow (Value.int .i64) (Sort.ahead w q) blk off (Lib.compact zs ++ List.replicate (zs.length - (Lib.compact zs).length) 0).toArray := Any.slices_Compact_int Try.laysNm220 blk off cap zs w hH hsz hcap
open Go.RowKit Go.Lib Go.Sort in
theorem Try.slices_Compact_int_empty (a : Option Addr) (cap : Nat) (w : World) :
  Calls Try.prog 57 #[.slice a 0 cap] w fun e w' => e = .returned (.slice a 0 cap) ∧ w' = w := Any.slices_Compact_int_empty Try.laysNm220 a cap w
end Go.Proofs
namespace Go.Proofs.Ytdbhelhoaciodaa.X
open Go.RowKit Go.Proofs.YtdbhelhoaciodaaW.PrintWords Go.Proofs.YtdbhelhoaciodaaW.PrintLast Go.Proofs.YtdbhelhoaciodaaW.PrintMore Go.Proofs.Ytdbhelhoaciodaa.E
attribute [local go_sem] max2_int min2_int max_two min_two max_three min_three max_four min_four
set_option linter.unusedVariables false
set_option linter.unusedSimpArgs false
attribute [-simp] ByteArray.size_append ByteArray.size_extract
attribute [-go_sem] ByteArray.size_append'
/-! ### slices_Sort_int_int: function 56 -/
set_option maxHeartbeats 1000000 in
set_option maxRecDepth 100000 in
theorem slices_Sort_int_int.pdq_nil (w : World) (lim : Int) : Calls Try.prog 108 #[.slice none 0 0, .int .i64 0, .int .i64 0, .int .i64 lim] w fun e w' => e = .returned (.tuple #[]) ∧ Below w.heap.size w w' := by
 (have HI := Aside0.mk (fun W (hb : Below w.heap.size w W) => (slices_insertionSortOrdered_int.calls 1 (fun _ => False) (.slice none 0 0) [] 0 0 [] W W (Below.refl _ _) (Kd.R_nil _ _ _ _ _) (by unfold slices_insertionSortOrdered_int.f; rw [slices_insertionSortOrdered_int.l0, if_neg (by decide +kernel)])))); (go_enter Try.func108, Try.ntmps108); (go_wp2); (go_loopg [1, 2] 1 (fun gg v1 v2 w' => v1 = .int .i64 0 ∧ v2 = .int .i64 0 ∧ Aside0 (Below w.heap.size w w')))
 case atStart => exact ⟨rfl, rfl, ⟨Below.refl _ _⟩⟩
 case round =>
  (obtain ⟨rfl, rfl, HB⟩ := hrel); (have c0 : decide (wrap64 (0 - 0) ≤ 12) = true := by decide +kernel); (have c1 : decide ((0 : Int) ≤ 12) = true := by decide); (go_wp2_with (go_at_call 135; refine (HI.out _ HB.out).mono ?_; rintro e w2 ⟨rfl, h1, h2, h3⟩)); ((first | go_end0 | ((try simp only [Exit.inBlock, Exit.then]); refine bodyPost_ret (results_none rfl _ _ _) rfl ?_))); (exact ⟨rfl, HB.out.trans (h2.mono HB.out.size)⟩)
def slices_Sort_int_int.f (l0 : List Int) : Option (List Int) := if l0.length < 4611686018427387904 then some (l0.mergeSort fun x y => decide (x ≤ y)) else none
set_option maxHeartbeats 1000000 in
set_option maxRecDepth 100000 in
theorem slices_Sort_int_int.calls (P0_ : Nat → Prop) (u9000_ : Value) (l0 : List Int) (r : List Int) (w0 w : World) (hB : Below w0.heap.size w0 w) (ho0 : Kd.R (Kd.int .i64) 3 w w0.heap.size P0_ u9000_ l0) (h : slices_Sort_int_int.f l0 = some r) :
  Calls Try.prog 56 #[u9000_] w fun e w' => e = .returned (.tuple #[]) ∧ Kd.R (Kd.int .i64) 3 w' w0.heap.size (fun k_ => (P0_ k_ ∨ w.heap.size ≤ k_)) u9000_ r ∧ Below w0.heap.size w0 w' ∧ Kept w w' (fun k_ => P0_ k_) := by
 (unfold slices_Sort_int_int.f at h); (by_cases hl : l0.length < 4611686018427387904)
 case neg => rw [if_neg hl] at h; exact absurd h (by simp)
 (rw [if_pos hl] at h); (obtain rfl := Option.some.inj h); clear h; (rcases R_int_at ho0 with ⟨rfl, rfl⟩ | ⟨g, cap, rfl, hlt, hcap, hH⟩); (· (have HN := Aside0.mk (slices_Sort_int_int.pdq_nil)); (have HB0 := Aside0.mk hB); clear ho0 hl hB; (go_enter Try.func56, Try.ntmps56); (go_wp2_with (first | (go_at_call 109; refine (Try.bits_Len 0 _ (by decide) (by decide)).mono ?_; rintro e w3 ⟨rfl, h3⟩; rw [h3]; clear h3) | (go_at_call 108; refine (HN.out _ _).mono ?_; rintro e w2 ⟨rfl, hb⟩))); ((first | go_end0 | ((try simp only [Exit.inBlock, Exit.then]); refine bodyPost_ret (results_none rfl _ _ _) rfl ?_))); (have hb2 : Below w.heap.size w w2 := hb); (exact ⟨rfl, by simpa using Kd.R_nil _ _ _ _ _, HB0.out.trans (hb2.mono HB0.out.size), Kept.of_below hb2 _⟩)); (· (refine (Try.slices_Sort_int g 0 cap l0 w hH hlt hl).mono ?_); (rintro e w' ⟨rfl, n, os, rfl⟩); (have hml : (l0.mergeSort fun x y => decide (x ≤ y)).length = l0.length := List.length_mergeSort _); (obtain ⟨h1, h2, h3⟩ := R_put (q := n) (os := os) (ys := l0.mergeSort fun x y => decide (x ≤ y)) hB ho0 rfl hml (Nat.le_refl _)); (rw [List.take_of_length_le (by omega)] at h1); (exact ⟨rfl, h1, h2, h3⟩))
/-! ### slices_Compact_int_int: function 57 -/
def slices_Compact_int_int.f (l0 : List Int) : Option (List Int) := if l0.length ≤ 9223372036854775807 then some (Lib.compact l0) else none
set_option maxHeartbeats 1000000 in
theorem slices_Compact_int_int.calls (P0_ : Nat → Prop) (u9000_ : Value) (l0 : List Int) (r : List Int) (w0 w : World) (hB : Below w0.heap.size w0 w) (ho0 : Kd.R (Kd.int .i64) 3 w w0.heap.size P0_ u9000_ l0) (h : slices_Compact_int_int.f l0 = some r) :
  Calls Try.prog 57 #[u9000_] w fun e w' => ∃ v0_ : Value, e = .returned (v0_) ∧ Kd.R (Kd.int .i64) 3 w' w0.heap.size (fun k_ => (P0_ k_ ∨ w.heap.size ≤ k_)) v0_ r ∧ Below w0.heap.size w0 w' ∧ Kept w w' (fun k_ => P0_ k_) := by
 (unfold slices_Compact_int_int.f at h); (by_cases hl : l0.length ≤ 9223372036854775807)
 case neg => rw [if_neg hl] at h; exact absurd h (by simp)
 (rw [if_pos hl] at h); (obtain rfl := Option.some.inj h); clear h; (rcases R_int_at ho0 with ⟨rfl, rfl⟩ | ⟨g, cap, rfl, hlt, hcap, hH⟩); (· (refine (Try.slices_Compact_int_empty none 0 w).mono ?_); (rintro e w' ⟨rfl, rfl⟩); (exact ⟨_, rfl, Kd.R_nil _ _ _ _ _, hB, Kept.refl _ _⟩)); (· (refine (Try.slices_Compact_int g 0 cap l0 w hH hl hcap).mono ?_); (rintro e w' ⟨rfl, n, rfl⟩); (have hc := Lib.compact_length_le l0); (obtain ⟨h1, h2, h3⟩ := R_put (q := n) (os := #[]) (ys := Lib.compact l0 ++ List.replicate (l0.length - (Lib.compact l0).length) 0) hB ho0 rfl (by rw [List.length_append, List.length_replicate]; omega) (k := (Lib.compact l0).length) hc); (rw [List.take_left] at h1); (have hg : ∀ W : World, Sort.grow W #[] = W := fun W => by simp [Sort.grow]); (rw [hg] at h1 h2 h3); (exact ⟨_, rfl, h1, h2, h3⟩))
end Go.Proofs.Ytdbhelhoaciodaa.X
namespace Go.Proofs.Ytdbhelhoaciodaa.X
open Go.RowKit Go.Proofs.YtdbhelhoaciodaaW.PrintWords Go.Proofs.YtdbhelhoaciodaaW.PrintLast Go.Proofs.YtdbhelhoaciodaaW.PrintMore
attribute [local go_sem] max2_int min2_int max_two min_two max_three min_three max_four min_four
set_option linter.unusedVariables false
set_option linter.unusedSimpArgs false
attribute [-simp] ByteArray.size_append ByteArray.size_extract
attribute [-go_sem] ByteArray.size_append'
/-! ### impl_MissingNumbers: function 13 -/
mutual
def impl_MissingNumbers.j0 : Nat → List (S83) → List (S80) → Bool → Option (List Int × List Int × Bool)
 | 0, _, _, _ => none
 | k + 1, x0, x1, x28 => if x28 = true then (some (([] : List Int), ([] : List Int), false)) else (impl_MissingNumbers.l0 k x0 x1 (([] : List Int)) (([] : List Int)) x0 (x0.length : Int) 0)
def impl_MissingNumbers.l0 : Nat → List (S83) → List (S80) → List Int → List Int → List (S83) → Int → Int → Option (List Int × List Int × Bool)
 | 0, _, _, _, _, _, _, _ => none
 | k + 1, x0, x1, x7, x8, x31, x32, x33 => if x33 < x32 then (if 0 ≤ x33 then (if x33 < (x31.length : Int) then ((impl_BoxOf.f k x1 ((rd_T83 x31 x33).f0)).bind fun bt111 => (if bt111.2 = true then (impl_MissingNumbers.l0 k x0 x1 x7 x8 x31 x32 (wrap64 (x33 + 1))) else (if x7.length < 17592186044416 then (impl_MissingNumbers.l0 k x0 x1 (x7 ++ [(rd_T83 x31 x33).f0]) x8 x31 x32 (wrap64 (x33 + 1))) else (none)))) else (none)) else (none)) else (impl_MissingNumbers.l1 k x0 x7 x8 x1 (x1.length : Int) 0)
def impl_MissingNumbers.l1 : Nat → List (S83) → List Int → List Int → List (S80) → Int → Int → Option (List Int × List Int × Bool)
 | 0, _, _, _, _, _, _ => none
 | k + 1, x0, x7, x8, x52, x53, x54 => if x54 < x53 then (if 0 ≤ x54 then (if x54 < (x52.length : Int) then (impl_MissingNumbers.l2 k x0 x7 x8 x52 x53 x54 ((rd_T80 x52 x54).f1) (((rd_T80 x52 x54).f1).length : Int) 0) else (none)) else (none)) else ((slices_Sort_int_int.f x8).bind fun t116 => ((slices_Compact_int_int.f t116).bind fun t117 => (some (x7, t117, true))))
def impl_MissingNumbers.l2 : Nat → List (S83) → List Int → List Int → List (S80) → Int → Int → List Int → Int → Int → Option (List Int × List Int × Bool)
 | 0, _, _, _, _, _, _, _, _, _ => none
 | k + 1, x0, x7, x8, x52, x53, x54, x59, x60, x61 => if x61 < x60 then (if 0 ≤ x61 then (if x61 < (x59.length : Int) then ((impl_itemOf.f x0 (rd x59 x61)).bind fun t123 => (if t123 < 0 then (if x8.length < 17592186044416 then (impl_MissingNumbers.l2 k x0 x7 (x8 ++ [rd x59 x61]) x52 x53 x54 x59 x60 (wrap64 (x61 + 1))) else (none)) else (impl_MissingNumbers.l2 k x0 x7 x8 x52 x53 x54 x59 x60 (wrap64 (x61 + 1))))) else (none)) else (none)) else (impl_MissingNumbers.l1 k x0 x7 x8 x52 x53 (wrap64 (x54 + 1)))
end
def impl_MissingNumbers.f (k : Nat) (l0 : List (S83)) (l1 : List (S80)) : Option (List Int × List Int × Bool) := (impl_areItems.f k l0).bind fun t101 => (if t101 = true then (if (l1.length : Int) > 12 then (impl_MissingNumbers.j0 k l0 l1 true) else ((impl_ArchiveBox_52.f l1).bind fun t102 => (impl_MissingNumbers.j0 k l0 l1 t102))) else (impl_MissingNumbers.j0 k l0 l1 true))
set_option maxHeartbeats 8000000 in
set_option maxRecDepth 100000 in
theorem impl_MissingNumbers.calls (k : Nat) (A0 : Option Addr) (c0 : Nat) (l0 : List (S83)) (A1 : Option Addr) (c1 : Nat) (l1 : List (S80)) (r1 : List Int) (r2 : List Int) (r3 : Bool) (w : World) (hr0 : Kd.C k83 w A0 l0.length l0) (hc0 : l0.length ≤ c0) (hr1 : Kd.C k80 w A1 l1.length l1) (hc1 : l1.length ≤ c1) (h : impl_MissingNumbers.f k l0 l1 = some (r1, r2, r3)) :
  Calls Try.prog 13 #[.slice A0 l0.length c0, .slice A1 l1.length c1] w fun e w' => ∃ v0_ v1_ : Value, e = .returned (.tuple #[v0_, v1_, .bool r3]) ∧ Kd.R (Kd.int .i64) 3 w' w.heap.size (fun k_ => some k_ ≠ (v1_ : Value).ownBlock) v0_ r1 ∧ Kd.R (Kd.int .i64) 3 w' w.heap.size (fun k_ => some k_ ≠ (v0_ : Value).ownBlock) v1_ r2 ∧ Below w.heap.size w w' := by
 (have hu83 := Try.underlying83); (have hu80 := Try.underlying80); (have HR0 := Aside0.mk hr0); (have HC0 := Aside0.mk hc0); clear hr0 hc0; (have HR1 := Aside0.mk hr1); (have HC1 := Aside0.mk hc1); clear hr1 hc1; (have HB := Aside0.mk (Below.refl w.heap.size w)); (unfold impl_MissingNumbers.f at h); (have H := h); clear h; (have HC3 := Aside0.mk H); clear H; (go_enter Try.func13, Try.ntmps13); (go_upto_region 1 with (fail)); (go_cut [28] (fun v28 wc => ∃ (kq : Nat) (x28_2 : Bool), v28 = .bool x28_2 ∧ Aside0 (impl_MissingNumbers.j0 kq l0 l1 x28_2 = some (r1, r2, r3)) ∧ Aside0 (kq ≤ k) ∧ Aside0 (Below w.heap.size w wc)))
 case first =>
  (have H := HC3.out); clear HC3; (replace H := obS H); (obtain ⟨t101, A4, H⟩ := H); (by_cases c5 : t101 = true)
  ·subst c5
   (rw [if_pos rfl] at H); (by_cases c6 : (l1.length : Int) > 12)
   ·rw [if_pos c6] at H
    (have c6b0 : decide (12 < (l1.length : Int)) = true := decide_eq_true c6); (have c6b1 : decide (12 < l1.length) = true := decide_eq_true (by omega)); clear c6; ((first | rw [c6b0] | (simp only [i64_w, i32_w]; rw [c6b0]) | skip)); (have H' := Aside0.mk H); clear H; (go_wp2_with (first | ((with_reducible refine gate_callee (f := 51) rfl ?_); refine gL (some 18) Try.func51 #[.slice A0 l0.length c0] ?_; (with_reducible refine (impl_areItems.calls k _ _ l0 true _ ?side1 ?side2 A4.out).mono ?_); (case side1 => exact Q60); (case side2 => exact HC0.out); rintro e w7 ⟨rfl, hb⟩; refine ⟨_, rfl, ?_⟩; have n0_ := Aside0.mk (sI hb HB); clear HB; have HB := n0_; clear n0_; (try clear hb); (try clear hb2); (try clear hk); (try clear hi)))); (go_meet)
    case rel => exact Q89
   ·rw [if_neg c6] at H
    (have c6b0 : decide (12 < (l1.length : Int)) = false := decide_eq_false c6); (have c6b1 : decide (12 < l1.length) = false := decide_eq_false (by omega)); clear c6; ((first | rw [c6b0] | (simp only [i64_w, i32_w]; rw [c6b0]) | skip)); (replace H := obS H); (obtain ⟨t102, A8, H⟩ := H); (have H' := Aside0.mk H); clear H; (go_wp2_with (first | ((with_reducible refine gate_callee (f := 51) rfl ?_); refine gL (some 18) Try.func51 #[.slice A0 l0.length c0] ?_; (with_reducible refine (impl_areItems.calls k _ _ l0 true _ ?side1 ?side2 A4.out).mono ?_); (case side1 => exact Q60); (case side2 => exact HC0.out); rintro e w9 ⟨rfl, hb⟩; refine ⟨_, rfl, ?_⟩; have n0_ := Aside0.mk (sI hb HB); clear HB; have HB := n0_; clear n0_; (try clear hb); (try clear hb2); (try clear hk); (try clear hi)) | (go_at_call 52; (with_reducible refine (impl_ArchiveBox_52.calls _ _ l1 t102 _ ?side1 ?side2 A8.out).mono ?_); (case side1 => exact Q67); (case side2 => exact HC1.out); rintro e w10 ⟨rfl, hb⟩; have n0_ := Aside0.mk (sI hb HB); clear HB; have HB := n0_; clear n0_; (try clear hb); (try clear hb2); (try clear hk); (try clear hi)))); (go_meet)
    case rel => exact ⟨_, (t102), Q16, H', ⟨Q61⟩, ⟨eI HB⟩⟩
  ·replace c5 := Bool.eq_false_iff.mpr c5
   subst c5; (rw [if_neg (show ¬ (false = true) by decide)] at H); (have H' := Aside0.mk H); clear H; (go_wp2_with (first | ((with_reducible refine gate_callee (f := 51) rfl ?_); refine gL (some 18) Try.func51 #[.slice A0 l0.length c0] ?_; (with_reducible refine (impl_areItems.calls k _ _ l0 false _ ?side1 ?side2 A4.out).mono ?_); (case side1 => exact Q60); (case side2 => exact HC0.out); rintro e w11 ⟨rfl, hb⟩; refine ⟨_, rfl, ?_⟩; have n0_ := Aside0.mk (sI hb HB); clear HB; have HB := n0_; clear n0_; (try clear hb); (try clear hb2); (try clear hk); (try clear hi)))); (go_meet)
   case rel => exact Q89
 case rest =>
  clear HC3; (try clear c1); (try clear p2); (try clear c5); (try clear c6); (try clear c6b0); (try clear c6b1); (obtain ⟨kq, x28_2, rfl, HA, HJ2, HB⟩ := hcut)
  cases kq with
  | zero => exact absurd HA.out (by simp [impl_MissingNumbers.j0])
  | succ kj2 =>
   (have H := HA.out); clear HA; (simp only [impl_MissingNumbers.j0] at H); (by_cases c12 : x28_2 = true); (· subst c12; (rw [if_pos rfl] at H); (simp only [Option.some.injEq, Prod.mk.injEq] at H); (obtain ⟨rfl, rfl, rfl⟩ := H); (go_wp2); (go_ret3); (exact ⟨_, _, Q22, Q90, Q90, eI HB⟩))
   ·replace c12 := Bool.eq_false_iff.mpr c12
    subst c12; (rw [if_neg (show ¬ (false = true) by decide)] at H); (obtain ⟨y103, hy103⟩ : ∃ y_ : List Int, y_ = (([] : List Int)) := ⟨_, rfl⟩); (replace H : (impl_MissingNumbers.l0 kj2 l0 l1 y103 (([] : List Int)) l0 (l0.length : Int) 0) = some (r1, r2, r3) := Q23); (have Ny103 := Aside0.mk hy103); clear hy103; (obtain ⟨y106, hy106⟩ : ∃ y_ : List Int, y_ = (([] : List Int)) := ⟨_, rfl⟩); (replace H : (impl_MissingNumbers.l0 kj2 l0 l1 y103 y106 l0 (l0.length : Int) 0) = some (r1, r2, r3) := Q24); (have Ny106 := Aside0.mk hy106); clear hy106; (have H' := Aside0.mk H); clear H; (go_wp2_with (first | ((with_reducible refine gate_dst (N := 29) rfl ?_); refine Kd.R_lit (Kd.int .i64) _ 3 ?hg (N := 29) ?hd (xs := ([] : List Int)) (inner := []) (ok := fun _ => True) (okp := fun _ => True) ?hr ?hp (fun _ hk => hk) trivial (Below.refl _ _) (Nat.le_refl _) (by simp) ?_; (case hd => rfl); (case hg => rfl); (case hr => first | (go_simp; done) | (go_simp; rfl)); (case hp => exact Q26); intro v104 w13 ho14 hb hg_ hnew_; clear hg_ hnew_; (first | rw [← Ny103.out] at ho14 | (simp only [Int.reduceToNat] at ho14; rw [← Ny103.out] at ho14)); have hB_ := zI hb HB; have n0_ := Aside0.mk (Kd.R_lower ho14 (below_size hB_)); have n1_ := Aside0.mk (below_step hB_ hb); clear HB; have HO105 := n0_; have HB := n1_; clear n0_ n1_ hB_ hb ho14) | ((with_reducible refine gate_dst (N := 30) rfl ?_); refine Kd.R_lit (Kd.int .i64) _ 3 ?hg (N := 30) ?hd (xs := ([] : List Int)) (inner := []) (ok := fun _ => True) (okp := fun _ => True) ?hr ?hp (fun _ hk => hk) trivial (Below.refl _ _) (Nat.le_refl _) (by simp) ?_; (case hd => rfl); (case hg => rfl); (case hr => first | (go_simp; done) | (go_simp; rfl)); (case hp => exact Q26); intro v107 w15 ho16 hb hg_ hnew_; clear hg_ hnew_; (first | rw [← Ny106.out] at ho16 | (simp only [Int.reduceToNat] at ho16; rw [← Ny106.out] at ho16)); have n0_ := Aside0.mk (Kd.R_elder' (rI HO105) (Kd.R_base ho16) hb); have hB_ := zI hb HB; have n1_ := Aside0.mk (Kd.R_lower (Kd.R_new' ho16 (Kd.R_lt (rI HO105))) (below_size hB_)); have n2_ := Aside0.mk (below_step hB_ hb); clear HO105 HB; have HO105 := n0_; have HO108 := n1_; have HB := n2_; clear n0_ n1_ n2_ hB_ hb ho16))); (go_loopg [7, 33] kj2 (fun kq v7 v33 w' => ∃ (x7_2 : List Int) (x33_2 : Int), v33 = .int .i64 x33_2 ∧ Aside0 (impl_MissingNumbers.l0 kq l0 l1 x7_2 y106 l0 (l0.length : Int) x33_2 = some (r1, r2, r3)) ∧ Aside0 (kq ≤ kj2) ∧ Aside0 (Kd.R (Kd.int .i64) 3 w' w.heap.size (fun k_ => some k_ ≠ (v107 : Value).ownBlock) v7 x7_2) ∧ Aside0 (Kd.R (Kd.int .i64) 3 w' w.heap.size (fun k_ => some k_ ≠ (v7 : Value).ownBlock) v107 y106) ∧ Aside0 (Below w.heap.size w w')))
    case atStart => exact ⟨(y103), (0), Q16, H', ⟨Nat.le_refl _⟩, ⟨by (with_reducible repeat (first | apply rA | apply rN | apply rD)); exact Kd.R_mono HO105.out (fun _ hk => hk.2)⟩, ⟨by (with_reducible repeat (first | apply rA | apply rN | apply rD)); exact Kd.R_mono HO108.out (fun _ hk => hk.2)⟩, ⟨eI HB⟩⟩
    case round =>
     (clear H'); (try clear c1); (try clear p2); (try clear c5); (try clear c6); (try clear c6b0); (try clear c6b1); (try clear c12); (try clear c13); (try clear p2); (obtain ⟨x7_2, x33_2, rfl, HA, HK2, HO_7, HO_8, HB⟩ := hrel)
     cases gk with
     | zero => exact absurd HA.out (by simp [impl_MissingNumbers.l0])
     | succ k2 =>
      (have H := HA.out); clear HA; (simp only [impl_MissingNumbers.l0] at H); (by_cases c17 : x33_2 < (l0.length : Int))
      ·rw [if_pos c17] at H
       (have c17b0 := decide_eq_true c17); clear c17; (by_cases c18 : 0 ≤ x33_2)
       ·rw [if_pos c18] at H
        (have c18b0 := decide_eq_true c18); clear c18; (by_cases c19 : x33_2 < (l0.length : Int))
        ·rw [if_pos c19] at H
         (have c19b0 := decide_eq_true c19); clear c19; (replace H := obS H); (obtain ⟨⟨t111, t112⟩, A20, H⟩ := H); (replace H : (if t112 = true then (impl_MissingNumbers.l0 k2 l0 l1 x7_2 y106 l0 (l0.length : Int) (wrap64 (x33_2 + 1))) else (if x7_2.length < 17592186044416 then (impl_MissingNumbers.l0 k2 l0 l1 (x7_2 ++ [(rd_T83 l0 x33_2).f0]) y106 l0 (l0.length : Int) (wrap64 (x33_2 + 1))) else (none))) = some (r1, r2, r3) := H); (by_cases c21 : t112 = true)
         ·subst c21
          (rw [if_pos rfl] at H); (have H' := Aside0.mk H); clear H; (have p109 : 0 ≤ (x33_2 : Int) := of_decide_eq_true Q19); (have q109 : x33_2 < (l0.length : Int) := of_decide_eq_true Q19); (obtain ⟨ad109, e109, hx109_0, hx109_1, hx109_2⟩ := at_T83 HR0.out x33_2 p109 q109); (cases e109); (replace hx109_0 := (HB.out.cell (bltc w _ hx109_0)).trans hx109_0); (replace hx109_1 := (HB.out.cell (bltc w _ hx109_1)).trans hx109_1); (replace hx109_2 := (HB.out.cell (bltc w _ hx109_2)).trans hx109_2); (replace p109 := eq_true p109); (replace q109 := eq_true q109); (go_wp2_with (first | ((with_reducible refine gate_dst (N := 10) rfl ?_); refine box_event ?hg (N := 10) ?hd (cs := #[.int .i64 0, .int .i64 0, .int .i64 0]) (t := 83) ?hr ?_; (case hd => rfl); (case hg => rfl); (case hr => first | (go_simp; done) | (go_simp; rfl)); intro gb110 hg w22 hbox hb; have n0_ := Aside0.mk (Kd.R_below (rI HO_7) hb); have n1_ := Aside0.mk (Kd.R_below (rI HO_8) hb); have hB_ := bz (eI HB) hb; have n2_ := Aside0.mk (below_step hB_ hb); have n3_ := Aside0.mk (hbox); have n4_ := Aside0.mk ((Q75 : w.heap.size ≤ gb110)); have n5_ := n4_; clear HO_7 HO_8 HB; have HO_7 := n0_; have HO_8 := n1_; have HB := n2_; have BK110 := n3_; have GW110 := n4_; have GE110 := n5_; clear n0_ n1_ n2_ n3_ n4_ n5_ hB_ hb hbox hg; have hcz23_0 := cz BK110.out 0; have hcz23_1 := cz BK110.out 1; have hcz23_2 := cz BK110.out 2; have hfz23_0 := blk_frozen BK110.out 0; have hfz23_1 := blk_frozen BK110.out 1; have hfz23_2 := blk_frozen BK110.out 2) | ((with_reducible refine gate_callee (f := 54) rfl ?_); refine gL (some 41) Try.func54 #[.slice A1 l1.length c1, .int .i64 ((rd_T83 l0 x33_2).f0)] ?_; (with_reducible refine (impl_BoxOf.calls k2 _ _ l1 ((rd_T83 l0 x33_2).f0) t111 true _ ?side1 ?side2 A20.out).mono ?_); (case side1 => exact Q91); (case side2 => exact HC1.out); rintro e w24 ⟨rfl, hb⟩; refine ⟨_, rfl, ?_⟩; have n0_ := Aside0.mk (Kd.R_below Q92 hb); have n1_ := Aside0.mk (Kd.R_below Q93 hb); have n2_ := Aside0.mk (blk_below (g := gb110) (o := .cells #[.int .i64 ((rd_T83 l0 x33_2).f0), .int .i64 ((rd_T83 l0 x33_2).f1), .int .i64 ((rd_T83 l0 x33_2).f2)] 83 (0, 0)) Q94 hb); have n3_ := Aside0.mk (below_step Q95 hb); clear HO_7 HO_8 BK110 HB; have HO_7 := n0_; have HO_8 := n1_; have BK110 := n2_; have HB := n3_; clear n0_ n1_ n2_ n3_; (try clear hb); (try clear hb2); (try clear hk); (try clear hi)))); go_roundg k2
          case measure => have := HJ2.out; have := HK2.out; omega
          case rel => exact ⟨(x7_2), (wrap64 (x33_2 + 1)), Q16, H', ⟨by have := HJ2.out; have := HK2.out; omega⟩, ⟨Q96⟩, ⟨rI HO_8⟩, ⟨Q95⟩⟩
         ·replace c21 := Bool.eq_false_iff.mpr c21
          subst c21; (rw [if_neg (show ¬ (false = true) by decide)] at H); (by_cases c25 : x7_2.length < 17592186044416)
          ·rw [if_pos c25] at H
           (have LMc25 := Aside0.mk c25); clear c25; (obtain ⟨y113, hy113⟩ : ∃ y_ : List Int, y_ = (x7_2 ++ [(rd_T83 l0 x33_2).f0]) := ⟨_, rfl⟩); (replace H : (impl_MissingNumbers.l0 k2 l0 l1 y113 y106 l0 (l0.length : Int) (wrap64 (x33_2 + 1))) = some (r1, r2, r3) := Q25); (have Ny113 := Aside0.mk hy113); clear hy113; (have H' := Aside0.mk H); clear H; (have p109 : 0 ≤ (x33_2 : Int) := of_decide_eq_true Q19); (have q109 : x33_2 < (l0.length : Int) := of_decide_eq_true Q19); (obtain ⟨ad109, e109, hx109_0, hx109_1, hx109_2⟩ := at_T83 HR0.out x33_2 p109 q109); (cases e109); (replace hx109_0 := (HB.out.cell (bltc w _ hx109_0)).trans hx109_0); (replace hx109_1 := (HB.out.cell (bltc w _ hx109_1)).trans hx109_1); (replace hx109_2 := (HB.out.cell (bltc w _ hx109_2)).trans hx109_2); (replace p109 := eq_true p109); (replace q109 := eq_true q109)
           go_wp2_with (first | ((with_reducible refine gate_dst (N := 10) rfl ?_); refine box_event ?hg (N := 10) ?hd (cs := #[.int .i64 0, .int .i64 0, .int .i64 0]) (t := 83) ?hr ?_; (case hd => rfl); (case hg => rfl); (case hr => first | (go_simp; done) | (go_simp; rfl)); intro gb110 hg w26 hbox hb; have n0_ := Aside0.mk (Kd.R_below Q96 hb); have n1_ := Aside0.mk (Kd.R_below (rI HO_8) hb); have hB_ := bz Q18 hb; have n2_ := Aside0.mk (below_step hB_ hb); have n3_ := Aside0.mk (hbox); have n4_ := Aside0.mk ((Q75 : w.heap.size ≤ gb110)); have n5_ := n4_; clear HO_7 HO_8 HB; have HO_7 := n0_; have HO_8 := n1_; have HB := n2_; have BK110 := n3_; have GW110 := n4_; have GE110 := n5_; clear n0_ n1_ n2_ n3_ n4_ n5_ hB_ hb hbox hg; have hcz27_0 := cz BK110.out 0; have hcz27_1 := cz BK110.out 1; have hcz27_2 := cz BK110.out 2; have hfz27_0 := blk_frozen BK110.out 0; have hfz27_1 := blk_frozen BK110.out 1; have hfz27_2 := blk_frozen BK110.out 2) | ((with_reducible refine gate_callee (f := 54) rfl ?_); refine gL (some 41) Try.func54 #[.slice A1 l1.length c1, .int .i64 ((rd_T83 l0 x33_2).f0)] ?_; (with_reducible refine (impl_BoxOf.calls k2 _ _ l1 ((rd_T83 l0 x33_2).f0) t111 false _ ?side1 ?side2 A20.out).mono ?_); (case side1 => exact Q91); (case side2 => exact HC1.out); rintro e w28 ⟨rfl, hb⟩; refine ⟨_, rfl, ?_⟩; have n0_ := Aside0.mk (Kd.R_below Q92 hb); have n1_ := Aside0.mk (Kd.R_below Q93 hb); have n2_ := Aside0.mk (blk_below (g := gb110) (o := .cells #[.int .i64 ((rd_T83 l0 x33_2).f0), .int .i64 ((rd_T83 l0 x33_2).f1), .int .i64 ((rd_T83 l0 x33_2).f2)] 83 (0, 0)) Q94 hb); have n3_ := Aside0.mk (below_step Q95 hb); clear HO_7 HO_8 BK110 HB; have HO_7 := n0_; have HO_8 := n1_; have BK110 := n2_; have HB := n3_; clear n0_ n1_ n2_ n3_; (try clear hb); (try clear hb2); (try clear hk); (try clear hi); have hcz29_0 := cz BK110.out 0; have hcz29_1 := cz BK110.out 1; have hcz29_2 := cz BK110.out 2; have hfz29_0 := blk_frozen BK110.out 0; have hfz29_1 := blk_frozen BK110.out 1; have hfz29_2 := blk_frozen BK110.out 2) | ((with_reducible refine gate_builtin (b := .append) (xs := #[.tmp 46, .tmp 49]) rfl ?_); at_builtin; refine Kd.R_append (Kd.int .i64) (w0 := w) w.heap.size rfl (.tmp 46) (.tmp 49) 26 3 (.int .i64 0) 8 rfl Try.underlying26 info3 rfl (by decide) (by omega) u7 x7_2 ((rd_T83 l0 x33_2).f0) [.int .i64 ((rd_T83 l0 x33_2).f0)] (fun k_ => some k_ ≠ (v107 : Value).ownBlock) (fun _ => False) rfl rfl ?aP (fun _ hk => hk.elim) ?aF ?aO ?aB ?aS ?aL ?_; (case aP => exact rfl); (case aB => exact Q95); (case aF => exact (fun k_ hk => Kd.fresh' (Kd.R_lt (rI HO_8)) k_ hk)); (case aO => exact (rI HO_7)); (case aS => exact (below_size (eI HB))); (case aL => have := LMc25.out; omega); intro v114 w30 ho hb hg hat; rw [← Ny113.out] at ho; have n0_ := Aside0.mk (Kd.R_after (ok := (fun _ => True)) Q68 hg hat); have n1_ := Aside0.mk (blk_grown (by (with_reducible repeat (first | refine kN ?_ _ | refine kD ?_ | refine kA ?_ _)); exact BK110.out) hg (Kd.R_ne HO_7.out BK110.out (by decide))); have n2_ := Aside0.mk (hb); have n3_ := Aside0.mk (ho); clear HO_8 BK110 HB HO_7; have HO_8 := n0_; have BK110 := n1_; have HB := n2_; have HO115 := n3_; clear n0_ n1_ n2_ n3_ ho hb hg hat))
           go_roundg k2
           case measure => have := HJ2.out; have := HK2.out; omega
           case rel => exact ⟨(y113), (wrap64 (x33_2 + 1)), Q16, H', ⟨by have := HJ2.out; have := HK2.out; omega⟩, ⟨rI HO115⟩, ⟨Q69⟩, ⟨eI HB⟩⟩
          ·rw [if_neg c25] at H
           exact Q11
        ·rw [if_neg c19] at H
         exact Q11
       ·rw [if_neg c18] at H
        exact Q11
      ·rw [if_neg c17] at H
       (have c17b0 := decide_eq_false c17); clear c17; (have H' := Aside0.mk H); clear H; (go_wp2); (go_loopg [8, 54] k2 (fun kq v8 v54 w' => ∃ (x8_3 : List Int) (x54_3 : Int), v54 = .int .i64 x54_3 ∧ Aside0 (impl_MissingNumbers.l1 kq l0 x7_2 x8_3 l1 (l1.length : Int) x54_3 = some (r1, r2, r3)) ∧ Aside0 (kq ≤ k2) ∧ Aside0 (Kd.R (Kd.int .i64) 3 w' w.heap.size (fun k_ => some k_ ≠ (v8 : Value).ownBlock) u7 x7_2) ∧ Aside0 (Kd.R (Kd.int .i64) 3 w' w.heap.size (fun k_ => some k_ ≠ (u7 : Value).ownBlock) v8 x8_3) ∧ Aside0 (Below w.heap.size w w')))
       case atStart => exact ⟨(y106), (0), Q16, H', ⟨Nat.le_refl _⟩, ⟨rI HO_7⟩, ⟨rI HO_8⟩, ⟨eI HB⟩⟩
       case round =>
        (clear H'); (try clear c1); (try clear p1); (try clear q1); (try clear hx1); (try clear c2); (try clear p2); (try clear c5); (try clear c6); (try clear c6b0); (try clear c6b1); (try clear p6); (try clear p10); (try clear q10); (try clear hx10); (try clear c12); (try clear c13); (try clear c17); (try clear c17b0); (try clear c18); (try clear c18b0); (try clear c19); (try clear c19b0); (try clear c21); (try clear c25); (try clear hcz23_0); (try clear hcz23_1); (try clear hcz23_2); (try clear hcz27_0); (try clear hcz27_1); (try clear hcz27_2); (try clear hcz29_0); (try clear hcz29_1); (try clear hcz29_2); (try clear hfz23_0); (try clear hfz23_1); (try clear hfz23_2); (try clear hfz27_0); (try clear hfz27_1); (try clear hfz27_2); (try clear hfz29_0); (try clear hfz29_1); (try clear hfz29_2); (try clear hx109_0); (try clear hx109_1); (try clear hx109_2); (try clear p109); (try clear p2); (try clear q109); (obtain ⟨x8_3, x54_3, rfl, HA, HK3, HO_7, HO_8, HB⟩ := hrel)
        cases gk with
        | zero => exact absurd HA.out (by simp [impl_MissingNumbers.l1])
        | succ k3 =>
         (have H := HA.out); clear HA; (simp only [impl_MissingNumbers.l1] at H); (by_cases c31 : x54_3 < (l1.length : Int))
         ·rw [if_pos c31] at H
          (have c31b0 := decide_eq_true c31); clear c31; (by_cases c32 : 0 ≤ x54_3)
          ·rw [if_pos c32] at H
           (have c32b0 := decide_eq_true c32); clear c32; (by_cases c33 : x54_3 < (l1.length : Int))
           ·rw [if_pos c33] at H
            (have c33b0 := decide_eq_true c33); clear c33; (have H' := Aside0.mk H); clear H; (have p120 : 0 ≤ (x54_3 : Int) := odt); (have q120 : x54_3 < (l1.length : Int) := odt); (obtain ⟨ad120, A120_1, c120_1, e120, hx120_0, hx120_1, hl120_1, hi120_1⟩ := at_T80 HR1.out x54_3 p120 q120); (cases e120); (replace hx120_0 := hcI HB hx120_0); (replace hx120_1 := hcI HB hx120_1); (have HR120_1 := Aside0.mk hi120_1); (have HC120_1 := Aside0.mk hl120_1); clear hi120_1 hl120_1; (replace p120 := eq_true p120); (replace q120 := eq_true q120); (go_wp2_with (first | ((with_reducible refine gate_dst (N := 14) rfl ?_); refine box_event ?hg (N := 14) ?hd (cs := #[.int .i64 0, .slice none 0 0]) (t := 80) ?hr ?_; (case hd => rfl); (case hg => rfl); (case hr => first | (go_simp; done) | (go_simp; rfl)); intro gb121 hg w34 hbox hb; have n0_ := Aside0.mk (rbI hb HO_7); have n1_ := Aside0.mk (rbI hb HO_8); have hB_ := zI hb HB; have n2_ := Aside0.mk (below_step hB_ hb); have n3_ := Aside0.mk (hbox); have n4_ := Aside0.mk (bx0 hg hB_); have n5_ := n4_; clear HO_7 HO_8 HB; have HO_7 := n0_; have HO_8 := n1_; have HB := n2_; have BK121 := n3_; have GW121 := n4_; have GE121 := n5_; clear n0_ n1_ n2_ n3_ n4_ n5_ hB_ hb hbox hg; have hcz35_0 := cz BK121.out 0; have hcz35_1 := cz BK121.out 1; have hfz35_0 := blk_frozen BK121.out 0; have hfz35_1 := blk_frozen BK121.out 1))); (go_loopg [8, 61] k3 (fun kq v8 v61 w' => ∃ (x8_4 : List Int) (x61_4 : Int), v61 = .int .i64 x61_4 ∧ Aside0 (impl_MissingNumbers.l2 kq l0 x7_2 x8_4 l1 (l1.length : Int) x54_3 ((rd_T80 l1 x54_3).f1) (((rd_T80 l1 x54_3).f1).length : Int) x61_4 = some (r1, r2, r3)) ∧ Aside0 (kq ≤ k3) ∧ Aside0 (Kd.R (Kd.int .i64) 3 w' w.heap.size (fun k_ => some k_ ≠ (v8 : Value).ownBlock) u7 x7_2) ∧ Aside0 (Kd.R (Kd.int .i64) 3 w' w.heap.size (fun k_ => some k_ ≠ (u7 : Value).ownBlock) v8 x8_4) ∧ Aside0 (w'.heap[gb121]? = some (.cells #[.int .i64 ((rd_T80 l1 x54_3).f0), (.slice A120_1 ((rd_T80 l1 x54_3).f1).length c120_1)] 80 (0, 0))) ∧ Aside0 (Below w.heap.size w w')))
            case atStart => exact ⟨(x8_3), (0), Q16, H', ⟨Nat.le_refl _⟩, ⟨by (with_reducible repeat (first | apply rA | apply rN | apply rD)); exact Kd.R_mono (Kd.R_far (p := ⟨gb121, 1, none⟩) (Kd.R_far (p := ⟨gb121, 0, none⟩) (Kd.R_types HO_7.out BK121.out (by decide)) (fun _ hk => hk.2) (.int .i64 ((rd_T80 l1 x54_3).f0))) (fun _ hk => hk.2) (.slice A120_1 ((rd_T80 l1 x54_3).f1).length c120_1)) (fun _ hk => hk.1)⟩, ⟨by (with_reducible repeat (first | apply rA | apply rN | apply rD)); exact Kd.R_mono (Kd.R_far (p := ⟨gb121, 1, none⟩) (Kd.R_far (p := ⟨gb121, 0, none⟩) (Kd.R_types HO_8.out BK121.out (by decide)) (fun _ hk => hk.2) (.int .i64 ((rd_T80 l1 x54_3).f0))) (fun _ hk => hk.2) (.slice A120_1 ((rd_T80 l1 x54_3).f1).length c120_1)) (fun _ hk => hk.1)⟩, ⟨by (with_reducible repeat (first | refine kN ?_ _ | refine kD ?_ | refine kA ?_ _)); refine blk_put (cs := #[.int .i64 ((rd_T80 l1 x54_3).f0), .slice none 0 0]) ?_ 1 _ rfl; (with_reducible repeat (first | refine kN ?_ _ | refine kD ?_ | refine kA ?_ _)); refine blk_put (cs := #[.int .i64 0, .slice none 0 0]) ?_ 0 _ rfl; (with_reducible repeat (first | refine kN ?_ _ | refine kD ?_ | refine kA ?_ _)); exact BK121.out⟩, ⟨by repeat (first | (with_reducible first | exact HB.out | apply bA | apply bN | apply bD | refine below_set ?_ GE121.out) | exact HB.out)⟩⟩
            case round =>
             (clear H'); (try clear c1); (try clear p1); (try clear q1); (try clear hx1); (try clear c2); (try clear p2); (try clear c3); (try clear c5); (try clear c6); (try clear c6b0); (try clear c6b1); (try clear p6); (try clear p10); (try clear q10); (try clear hx10); (try clear c12); (try clear p12); (try clear q12); (try clear hx12); (try clear c13); (try clear c17); (try clear c17b0); (try clear c18); (try clear c18b0); (try clear c19); (try clear c19b0); (try clear c21); (try clear c25); (try clear c31); (try clear c31b0); (try clear c32); (try clear c32b0); (try clear c33); (try clear c33b0); (try clear hcz23_0); (try clear hcz23_1); (try clear hcz23_2); (try clear hcz27_0); (try clear hcz27_1); (try clear hcz27_2); (try clear hcz29_0); (try clear hcz29_1); (try clear hcz29_2); (try clear hcz35_0); (try clear hcz35_1); (try clear hfz23_0); (try clear hfz23_1); (try clear hfz23_2); (try clear hfz27_0); (try clear hfz27_1); (try clear hfz27_2); (try clear hfz29_0); (try clear hfz29_1); (try clear hfz29_2); (try clear hfz35_0); (try clear hfz35_1); (try clear hx109_0); (try clear hx109_1); (try clear hx109_2); (try clear hx120_0); (try clear hx120_1); (try clear p1); (try clear p10); (try clear p109); (try clear p120); (try clear p2); (try clear p6); (try clear q1); (try clear q10); (try clear q109); (try clear q120); (obtain ⟨x8_4, x61_4, rfl, HA, HK4, HO_7, HO_8, BK121, HB⟩ := hrel)
             cases gk with
             | zero => exact absurd HA.out (by simp [impl_MissingNumbers.l2])
             | succ k4 =>
              (have H := HA.out); clear HA; (simp only [impl_MissingNumbers.l2] at H); (by_cases c36 : x61_4 < (((rd_T80 l1 x54_3).f1).length : Int))
              ·rw [if_pos c36] at H
               (have c36b0 := decide_eq_true c36); clear c36; (by_cases c37 : 0 ≤ x61_4)
               ·rw [if_pos c37] at H
                (have c37b0 := decide_eq_true c37); clear c37; (by_cases c38 : x61_4 < (((rd_T80 l1 x54_3).f1).length : Int))
                ·rw [if_pos c38] at H
                 (have c38b0 := decide_eq_true c38); clear c38; (replace H := obS H); (obtain ⟨t123, A39, H⟩ := H); (by_cases c40 : t123 < 0)
                 ·rw [if_pos c40] at H
                  (have c40b0 := decide_eq_true c40); clear c40; (by_cases c41 : x8_4.length < 17592186044416)
                  ·rw [if_pos c41] at H
                   (have LMc41 := Aside0.mk c41); clear c41; (obtain ⟨y124, hy124⟩ : ∃ y_ : List Int, y_ = (x8_4 ++ [rd ((rd_T80 l1 x54_3).f1) x61_4]) := ⟨_, rfl⟩); (replace H : (impl_MissingNumbers.l2 k4 l0 x7_2 y124 l1 (l1.length : Int) x54_3 ((rd_T80 l1 x54_3).f1) (((rd_T80 l1 x54_3).f1).length : Int) (wrap64 (x61_4 + 1))) = some (r1, r2, r3) := by first | (rw [hy124]; with_reducible exact H) | (have H2_ := (Option.bind_some _ _).symm.trans H; rw [hy124]; with_reducible exact H2_) | (have H2_ := (Option.bind_some _ _).symm.trans H; with_reducible exact H2_) | with_reducible exact H | (rw [hy124]; exact H) | exact H); (have Ny124 := Aside0.mk hy124); clear hy124; (have H' := Aside0.mk H); clear H; (have p122 : 0 ≤ (x61_4 : Int) := odt); (have q122 : x61_4 < (((rd_T80 l1 x54_3).f1).length : Int) := odt); (obtain ⟨ad122, e122, hx122_0⟩ := Kd.at_int HR120_1.out x61_4 p122 q122); (cases e122); (replace hx122_0 := hcI HB hx122_0); (replace p122 := eq_true p122); (replace q122 := eq_true q122); (go_wp2_with (first | ((with_reducible refine gate_callee (f := 55) rfl ?_); refine gL (some 67) Try.func55 #[.slice A0 l0.length c0, .int .i64 (rd ((rd_T80 l1 x54_3).f1) x61_4)] ?_; (with_reducible refine (impl_itemOf.calls _ _ l0 (rd ((rd_T80 l1 x54_3).f1) x61_4) t123 _ ?side1 ?side2 A39.out).mono ?_); (case side1 => exact Q60); (case side2 => exact HC0.out); rintro e w42 ⟨rfl, hb⟩; refine ⟨_, rfl, ?_⟩; have n0_ := Aside0.mk (rbI hb HO_7); have n1_ := Aside0.mk (rbI hb HO_8); have n2_ := Aside0.mk (kbI hb BK121); have n3_ := Aside0.mk (sI hb HB); clear HO_7 HO_8 BK121 HB; have HO_7 := n0_; have HO_8 := n1_; have BK121 := n2_; have HB := n3_; clear n0_ n1_ n2_ n3_; (try clear hb); (try clear hb2); (try clear hk); (try clear hi)) | ((with_reducible refine gate_builtin (b := .append) (xs := #[.tmp 69, .tmp 71]) rfl ?_); at_builtin; refine Kd.R_append (Kd.int .i64) (w0 := w) w.heap.size rfl (.tmp 69) (.tmp 71) 26 3 (.int .i64 0) 8 rfl Try.underlying26 info3 rfl (by decide) (by omega) u8 x8_4 (rd ((rd_T80 l1 x54_3).f1) x61_4) [.int .i64 (rd ((rd_T80 l1 x54_3).f1) x61_4)] (fun k_ => some k_ ≠ (u7 : Value).ownBlock) (fun _ => False) rfl rfl ?aP (fun _ hk => hk.elim) ?aF ?aO ?aB ?aS ?aL ?_; (case aP => exact rfl); (case aB => exact (eI HB)); (case aF => exact (fun k_ hk => Kd.fresh' (Kd.R_lt (rI HO_7)) k_ hk)); (case aO => exact (rI HO_8)); (case aS => exact (below_size (eI HB))); (case aL => have := LMc41.out; omega); intro v125 w43 ho hb hg hat; rw [← Ny124.out] at ho; have n0_ := Aside0.mk (Kd.R_after (ok := (fun _ => True)) (by (with_reducible repeat (first | apply rA | apply rN | apply rD)); exact Kd.R_mono HO_7.out (fun _ hk => ⟨trivial, hk⟩)) hg hat); have n1_ := Aside0.mk (blk_grown (kI BK121) hg (Kd.R_ne HO_8.out BK121.out (by decide))); have n2_ := Aside0.mk (hb); have n3_ := Aside0.mk (ho); clear HO_7 BK121 HB HO_8; have HO_7 := n0_; have BK121 := n1_; have HB := n2_; have HO126 := n3_; clear n0_ n1_ n2_ n3_ ho hb hg hat))); go_roundg k4
                   case measure => have := HJ2.out; have := HK2.out; have := HK3.out; have := HK4.out; omega
                   case rel => exact ⟨(y124), (wrap64 (x61_4 + 1)), Q16, H', ⟨Q97⟩, ⟨by (with_reducible repeat (first | apply rA | apply rN | apply rD)); exact Kd.R_mono HO_7.out (fun _ hk => hk.2)⟩, ⟨rI HO126⟩, ⟨kI BK121⟩, ⟨eI HB⟩⟩
                  ·rw [if_neg c41] at H
                   exact Q11
                 ·rw [if_neg c40] at H
                  (have c40b0 := decide_eq_false c40); clear c40; (have H' := Aside0.mk H); clear H; (have p122 : 0 ≤ (x61_4 : Int) := odt); (have q122 : x61_4 < (((rd_T80 l1 x54_3).f1).length : Int) := odt); (obtain ⟨ad122, e122, hx122_0⟩ := Kd.at_int HR120_1.out x61_4 p122 q122); (cases e122); (replace hx122_0 := hcI HB hx122_0); (replace p122 := eq_true p122); (replace q122 := eq_true q122); (go_wp2_with (first | ((with_reducible refine gate_callee (f := 55) rfl ?_); refine gL (some 67) Try.func55 #[.slice A0 l0.length c0, .int .i64 (rd ((rd_T80 l1 x54_3).f1) x61_4)] ?_; (with_reducible refine (impl_itemOf.calls _ _ l0 (rd ((rd_T80 l1 x54_3).f1) x61_4) t123 _ ?side1 ?side2 A39.out).mono ?_); (case side1 => exact Q60); (case side2 => exact HC0.out); rintro e w44 ⟨rfl, hb⟩; refine ⟨_, rfl, ?_⟩; have n0_ := Aside0.mk (rbI hb HO_7); have n1_ := Aside0.mk (rbI hb HO_8); have n2_ := Aside0.mk (kbI hb BK121); have n3_ := Aside0.mk (sI hb HB); clear HO_7 HO_8 BK121 HB; have HO_7 := n0_; have HO_8 := n1_; have BK121 := n2_; have HB := n3_; clear n0_ n1_ n2_ n3_; (try clear hb); (try clear hb2); (try clear hk); (try clear hi)))); go_roundg k4
                  case measure => have := HJ2.out; have := HK2.out; have := HK3.out; have := HK4.out; omega
                  case rel => exact ⟨(x8_4), (wrap64 (x61_4 + 1)), Q16, H', ⟨Q97⟩, ⟨rI HO_7⟩, ⟨rI HO_8⟩, ⟨kI BK121⟩, ⟨eI HB⟩⟩
                ·rw [if_neg c38] at H
                 exact Q11
               ·rw [if_neg c37] at H
                exact Q11
              ·rw [if_neg c36] at H
               (have c36b0 := decide_eq_false c36); clear c36; (have H' := Aside0.mk H); clear H; (go_wp2); go_roundg k4
               case measure => have := HJ2.out; have := HK2.out; have := HK3.out; have := HK4.out; omega
               case rel => exact ⟨(x8_4), (wrap64 (x54_3 + 1)), Q16, H', ⟨Q97⟩, ⟨rI HO_7⟩, ⟨rI HO_8⟩, ⟨eI HB⟩⟩
           ·rw [if_neg c33] at H
            exact Q11
          ·rw [if_neg c32] at H
           exact Q11
         ·rw [if_neg c31] at H
          (have c31b0 := decide_eq_false c31); clear c31; (replace H := obS H); (obtain ⟨t116, A45, H⟩ := H); (replace H := obS H); (obtain ⟨t117, A46, H⟩ := H); (simp only [Option.some.injEq, Prod.mk.injEq] at H); (obtain ⟨rfl, rfl, rfl⟩ := H); (obtain ⟨Ao47, co47, eo47⟩ := Kd.R_slice HO_8.out); subst eo47; (go_wp2_with (first | ((with_reducible refine gate_callee (f := 56) rfl ?_); refine gL (some 76) Try.func56 #[.slice Ao47 x8_3.length co47] ?_; (with_reducible refine (slices_Sort_int_int.calls (fun k_ => some k_ = (.slice Ao47 x8_3.length co47 : Value).ownBlock) (.slice Ao47 x8_3.length co47) x8_3 t116 w _ ?side1 ?side2 A45.out).mono ?_); (case side1 => repeat (first | (with_reducible first | exact HB.out | apply bA | apply bN | apply bD) | exact HB.out)); (case side2 => exact Kd.R_tight rfl HO_8.out); rintro e w48 ⟨rfl, hy0, hb, hkp⟩; refine ⟨_, rfl, ?_⟩; have n0_ := Aside0.mk (Kd.R_mono (ok' := fun k_ => some k_ ≠ (.slice Ao47 x8_3.length co47 : Value).ownBlock) (Kd.R_keptB (HO_7.out) hkp (fun k_ hk_ hs_ => (hk_) hs_)) (fun k_ hk_ => hk_.1)); have n1_ := Aside0.mk (Kd.R_reok rfl hy0 (fun k_ e_ => HO_8.out.1 k_ e_)); have n2_ := Aside0.mk (hb); clear HO_7 HO_8 HB; have HO_7 := n0_; have HO_8 := n1_; have HB := n2_; clear n0_ n1_ n2_; (try clear hb); (try clear hkp); (try clear hy0)) | ((with_reducible refine gate_callee (f := 57) rfl ?_); refine gL (some 79) Try.func57 #[.slice Ao47 x8_3.length co47] ?_; (with_reducible refine (slices_Compact_int_int.calls (fun k_ => some k_ = (.slice Ao47 x8_3.length co47 : Value).ownBlock) (.slice Ao47 x8_3.length co47) t116 t117 w _ ?side1 ?side2 A46.out).mono ?_); (case side1 => repeat (first | (with_reducible first | exact HB.out | apply bA | apply bN | apply bD) | exact HB.out)); (case side2 => exact Kd.R_tight rfl HO_8.out); rintro e w49 ⟨v118, rfl, ho0, hb, hkp⟩; refine ⟨_, rfl, ?_⟩; have n0_ := Aside0.mk (Kd.R_mono (ok' := fun k_ => some k_ ≠ (v118 : Value).ownBlock) (Kd.R_keptB (HO_7.out) hkp (fun k_ hk_ hs_ => (hk_) hs_)) (fun k_ hk_ => fun e_ => Or.elim (ho0.1 k_ e_.symm) (fun hs_ => hk_.2.1 hs_) (fun hn_ => Nat.not_le.2 hk_.2.2 hn_))); have n1_ := Aside0.mk (Kd.R_mono (ok' := fun k_ => some k_ ≠ (u7 : Value).ownBlock) ho0 (fun k_ hk_ => Or.elim hk_ (fun hs_ => fun e_ => (((HO_7.out).1 k_ e_.symm)) hs_) (fun hn_ => (Kd.fresh' (Kd.R_lt (rI HO_7)) k_ hn_)))); have n2_ := Aside0.mk (hb); clear HO_7 HB HO_8; have HO_7 := n0_; have HO119 := n1_; have HB := n2_; clear n0_ n1_ n2_; (try clear hb); (try clear hkp); (try clear ho0)))); (go_ret3); (exact ⟨_, _, Q22, rI HO_7, rI HO119, eI HB⟩)
/-! ### laws_eqIntS: function 14 -/
def laws_eqIntS.l0 : Nat → List Int → List Int → Int → Option (Bool)
 | 0, _, _, _ => none
 | k + 1, x0, x1, x5 => if x5 < (x0.length : Int) then (if 0 ≤ x5 then (if x5 < (x1.length : Int) then (if (rd x0 x5) = (rd x1 x5) then (laws_eqIntS.l0 k x0 x1 (wrap64 (x5 + 1))) else (some false)) else (none)) else (none)) else (some true)
def laws_eqIntS.f (k : Nat) (l0 : List Int) (l1 : List Int) : Option (Bool) := if (l0.length : Int) = (l1.length : Int) then (laws_eqIntS.l0 k l0 l1 0) else (some false)
set_option maxHeartbeats 8000000 in
set_option maxRecDepth 100000 in
theorem laws_eqIntS.calls (k : Nat) (A0 : Option Addr) (c0 : Nat) (l0 : List Int) (A1 : Option Addr) (c1 : Nat) (l1 : List Int) (r : Bool) (w : World) (hr0 : Kd.C (Kd.int .i64) w A0 l0.length l0) (hc0 : l0.length ≤ c0) (hr1 : Kd.C (Kd.int .i64) w A1 l1.length l1) (hc1 : l1.length ≤ c1) (h : laws_eqIntS.f k l0 l1 = some r) (ht_ : Aside0 (r = true)) :
  Calls Try.prog 14 #[.slice A0 l0.length c0, .slice A1 l1.length c1] w fun e w' => e = .returned (.bool r) ∧ Drawn0 w w' := by
 (have HR0 := Aside0.mk hr0); (have HC0 := Aside0.mk hc0); clear hr0 hc0; (have HR1 := Aside0.mk hr1); (have HC1 := Aside0.mk hc1); clear hr1 hc1; (unfold laws_eqIntS.f at h); (have H := h); clear h; (by_cases c3 : (l0.length : Int) = (l1.length : Int))
 ·rw [if_pos c3] at H
  (have c3b0 : ((l0.length : Int) == (l1.length : Int)) = true := beq_iff_eq.mpr c3); (have c3b1 : ((l0.length : Int) != (l1.length : Int)) = false := bne_eq_false_iff_eq.mpr c3); (have c3b2 : (l0.length == l1.length) = true := Q98); clear c3; (have H' := Aside0.mk H); clear H; (go_enter Try.func14, Try.ntmps14); (go_wp2); (repeat (go_quiet (fail); try go_wp2)); (go_loopg [5] k (fun kq v5 w' => ∃ (x5_1 : Int), v5 = .int .i64 x5_1 ∧ Aside0 (laws_eqIntS.l0 kq l0 l1 x5_1 = some r) ∧ Aside0 (kq ≤ k) ∧ Drawn0 w w'))
  case atStart => exact Q14
  case round =>
   (clear H'); (try clear c1); (try clear p2); (try clear c3); (try clear c3b0); (try clear c3b1); (try clear c3b2); (obtain ⟨x5_1, rfl, HA, HK1, ⟨m1, rfl⟩⟩ := hrel)
   cases gk with
   | zero => exact absurd HA.out (by simp [laws_eqIntS.l0])
   | succ k1 =>
    (have H := HA.out); clear HA; (simp only [laws_eqIntS.l0] at H); (by_cases c4 : x5_1 < (l0.length : Int))
    ·rw [if_pos c4] at H
     (have c4b0 := decide_eq_true c4); clear c4; (by_cases c5 : 0 ≤ x5_1)
     ·rw [if_pos c5] at H
      (have c5b0 := decide_eq_true c5); clear c5; (by_cases c6 : x5_1 < (l1.length : Int))
      ·rw [if_pos c6] at H
       (have c6b0 := decide_eq_true c6); clear c6; (by_cases c7 : (rd l0 x5_1) = (rd l1 x5_1))
       ·rw [if_pos c7] at H
        (have c7b0 : ((rd l0 x5_1) == (rd l1 x5_1)) = true := beq_iff_eq.mpr c7); (have c7b1 : ((rd l0 x5_1) != (rd l1 x5_1)) = false := bne_eq_false_iff_eq.mpr c7); clear c7; (have H' := Aside0.mk H); clear H; (have p101 : 0 ≤ (x5_1 : Int) := odt); (have q101 : x5_1 < (l0.length : Int) := odt); (obtain ⟨ad101, e101, hx101_0⟩ := Kd.at_int HR0.out x5_1 p101 q101); (cases e101); (replace p101 := eq_true p101); (replace q101 := eq_true q101); (have p102 : 0 ≤ (x5_1 : Int) := odt); (have q102 : x5_1 < (l1.length : Int) := odt); (obtain ⟨ad102, e102, hx102_0⟩ := Kd.at_int HR1.out x5_1 p102 q102); (cases e102); (replace p102 := eq_true p102); (replace q102 := eq_true q102); (go_wp2); (repeat (go_quiet (fail); try go_wp2)); go_roundg k1
        case measure => have := HK1.out; omega
        case rel => exact Q15
       ·rw [if_neg c7] at H
        (have c7b0 : ((rd l0 x5_1) == (rd l1 x5_1)) = false := beq_eq_false_iff_ne.mpr c7); (have c7b1 : ((rd l0 x5_1) != (rd l1 x5_1)) = true := bne_iff_ne.mpr c7); (obtain rfl := Option.some.inj H); (have p101 : 0 ≤ (x5_1 : Int) := odt); (have q101 : x5_1 < (l0.length : Int) := odt); (obtain ⟨ad101, e101, hx101_0⟩ := Kd.at_int HR0.out x5_1 p101 q101); (cases e101); (replace p101 := eq_true p101); (replace q101 := eq_true q101); (have p102 : 0 ≤ (x5_1 : Int) := odt); (have q102 : x5_1 < (l1.length : Int) := odt); (obtain ⟨ad102, e102, hx102_0⟩ := Kd.at_int HR1.out x5_1 p102 q102); (cases e102); (replace p102 := eq_true p102); (replace q102 := eq_true q102); (go_wp2); (repeat (go_quiet (fail); try go_wp2)); go_ret; (exact Q0)
      ·rw [if_neg c6] at H
       exact Q11
     ·rw [if_neg c5] at H
      exact Q11
    ·rw [if_neg c4] at H
     (have c4b0 := decide_eq_false c4); clear c4; (obtain rfl := Option.some.inj H); (go_wp2); (repeat (go_quiet (fail); try go_wp2)); go_ret; (exact Q0)
 ·rw [if_neg c3] at H
  (have c3b0 : ((l0.length : Int) == (l1.length : Int)) = false := beq_eq_false_iff_ne.mpr c3); (have c3b1 : ((l0.length : Int) != (l1.length : Int)) = true := bne_iff_ne.mpr c3); (have c3b2 : (l0.length == l1.length) = false := Q98); (obtain rfl := Option.some.inj H); (exact Q99)
/-! ### laws_eqItem: function 58 -/
def laws_eqItem.f (a0_0 : Int) (a0_1 : Int) (a0_2 : Int) (a1_0 : Int) (a1_1 : Int) (a1_2 : Int) : Option (Bool) := if a0_0 = a1_0 then (if a0_1 = a1_1 then (if a0_2 = a1_2 then (some true) else (some false)) else (some false)) else (some false)
set_option maxHeartbeats 8000000 in
set_option maxRecDepth 100000 in
theorem laws_eqItem.calls (a0_0 : Int) (a0_1 : Int) (a0_2 : Int) (a1_0 : Int) (a1_1 : Int) (a1_2 : Int) (r : Bool) (w : World) (h : laws_eqItem.f a0_0 a0_1 a0_2 a1_0 a1_1 a1_2 = some r) (ht_ : Aside0 (r = true)) :
  Calls Try.prog 58 #[.agg #[.int .i64 a0_0, .int .i64 a0_1, .int .i64 a0_2], .agg #[.int .i64 a1_0, .int .i64 a1_1, .int .i64 a1_2]] w fun e w' => e = .returned (.bool r) ∧ Below w.heap.size w w' := by
 (have hu83 := Try.underlying83); (have HB := Aside0.mk (Below.refl w.heap.size w)); (unfold laws_eqItem.f at h); (have H := h); clear h; (by_cases c3 : a0_0 = a1_0)
 ·rw [if_pos c3] at H
  (have c3b0 : (a0_0 == a1_0) = true := beq_iff_eq.mpr c3); (have c3b1 : (a0_0 != a1_0) = false := bne_eq_false_iff_eq.mpr c3); clear c3; (by_cases c4 : a0_1 = a1_1)
  ·rw [if_pos c4] at H
   (have c4b0 : (a0_1 == a1_1) = true := beq_iff_eq.mpr c4); (have c4b1 : (a0_1 != a1_1) = false := bne_eq_false_iff_eq.mpr c4); clear c4; (by_cases c5 : a0_2 = a1_2); (· (rw [if_pos c5] at H); (have c5b0 : (a0_2 == a1_2) = true := beq_iff_eq.mpr c5); (have c5b1 : (a0_2 != a1_2) = false := bne_eq_false_iff_eq.mpr c5); clear c5; (obtain rfl := Option.some.inj H); (go_enter Try.func58, Try.ntmps58); (go_wp2_with (first | ((with_reducible refine gate_dst (N := 2) rfl ?_); refine box_event ?hg (N := 2) ?hd (cs := #[.int .i64 a0_0, .int .i64 a0_1, .int .i64 a0_2]) (t := 83) ?hr ?_; (case hd => rfl); (case hg => rfl); (case hr => first | (go_simp; done) | (go_simp; rfl)); intro gb101 hg w6 hbox hb; have hB_ := zI hb HB; have n0_ := Aside0.mk (below_step hB_ hb); have n1_ := Aside0.mk (hbox); have n2_ := Aside0.mk (bx0 hg hB_); have n3_ := n2_; clear HB; have HB := n0_; have BK101 := n1_; have GW101 := n2_; have GE101 := n3_; clear n0_ n1_ n2_ n3_ hB_ hb hbox hg) | ((with_reducible refine gate_dst (N := 3) rfl ?_); refine box_event ?hg (N := 3) ?hd (cs := #[.int .i64 a1_0, .int .i64 a1_1, .int .i64 a1_2]) (t := 83) ?hr ?_; (case hd => rfl); (case hg => rfl); (case hr => first | (go_simp; done) | (go_simp; rfl)); intro gb102 hg w7 hbox hb; have n0_ := Aside0.mk (kbI hb BK101); have hB_ := zI hb HB; have n1_ := Aside0.mk (below_step hB_ hb); have n2_ := Aside0.mk (hbox); have n3_ := Aside0.mk (bx0 hg hB_); have n4_ := n3_; have n5_ := Aside0.mk ((Q70 : gb101 ≠ gb102)); have n6_ := Aside0.mk (Ne.symm n5_.out); clear BK101 HB; have BK101 := n0_; have HB := n1_; have BK102 := n2_; have GW102 := n3_; have GE102 := n4_; have NB101_102 := n5_; have NB102_101 := n6_; clear n0_ n1_ n2_ n3_ n4_ n5_ n6_ hB_ hb hbox hg; have hnb8 := NB101_102.out; have hnc8 := NB102_101.out; have hcz9_0 := cz BK101.out 0; have hcz9_1 := cz BK101.out 1; have hcz9_2 := cz BK101.out 2; have hfz9_0 := blk_frozen BK101.out 0; have hfz9_1 := blk_frozen BK101.out 1; have hfz9_2 := blk_frozen BK101.out 2; have hcz10_0 := cz BK102.out 0; have hcz10_1 := cz BK102.out 1; have hcz10_2 := cz BK102.out 2; have hfz10_0 := blk_frozen BK102.out 0; have hfz10_1 := blk_frozen BK102.out 1; have hfz10_2 := blk_frozen BK102.out 2))); go_ret; (exact Q13)); (· (rw [if_neg c5] at H); (have c5b0 : (a0_2 == a1_2) = false := beq_eq_false_iff_ne.mpr c5); (have c5b1 : (a0_2 != a1_2) = true := bne_iff_ne.mpr c5); (obtain rfl := Option.some.inj H); (exact Q99))
  ·rw [if_neg c4] at H
   (have c4b0 : (a0_1 == a1_1) = false := beq_eq_false_iff_ne.mpr c4); (have c4b1 : (a0_1 != a1_1) = true := bne_iff_ne.mpr c4); (obtain rfl := Option.some.inj H); (exact Q99)
 ·rw [if_neg c3] at H
  (have c3b0 : (a0_0 == a1_0) = false := beq_eq_false_iff_ne.mpr c3); (have c3b1 : (a0_0 != a1_0) = true := bne_iff_ne.mpr c3); (obtain rfl := Option.some.inj H); (exact Q99)
/-! ### laws_eqItemS: function 15 -/
def laws_eqItemS.l0 : Nat → List (S83) → List (S83) → Int → Option (Bool)
 | 0, _, _, _ => none
 | k + 1, x0, x1, x5 => if x5 < (x0.length : Int) then (if 0 ≤ x5 then (if x5 < (x1.length : Int) then ((laws_eqItem.f ((rd_T83 x0 x5).f0) ((rd_T83 x0 x5).f1) ((rd_T83 x0 x5).f2) ((rd_T83 x1 x5).f0) ((rd_T83 x1 x5).f1) ((rd_T83 x1 x5).f2)).bind fun t103 => (if t103 = true then (laws_eqItemS.l0 k x0 x1 (wrap64 (x5 + 1))) else (some false))) else (none)) else (none)) else (some true)
def laws_eqItemS.f (k : Nat) (l0 : List (S83)) (l1 : List (S83)) : Option (Bool) := if (l0.length : Int) = (l1.length : Int) then (laws_eqItemS.l0 k l0 l1 0) else (some false)
def laws_eqItemS.T6 : Bool × List (List Nat × List Nat) := (true, [([], []), ([], []), ([0, 1], [0, 1]), ([2], [2]), ([], []), ([], []), ([4, 5], [4, 5]), ([6], [6]), ([3, 7], [3, 7]), ([8], [8])])
def laws_eqItemS.B6 : List Nat := [0, 0, 3, 7, 0, 0, 48, 112, 255, 511]
theorem laws_eqItemS.tab6 : rtab .any (opsOf Try.f15 6) = laws_eqItemS.T6 := by kernel_rfl
theorem laws_eqItemS.bits6 : waitsOk laws_eqItemS.T6.2 laws_eqItemS.B6 = true := by kernel_rfl
set_option maxHeartbeats 8000000 in
set_option maxRecDepth 100000 in
theorem laws_eqItemS.calls (k : Nat) (A0 : Option Addr) (c0 : Nat) (l0 : List (S83)) (A1 : Option Addr) (c1 : Nat) (l1 : List (S83)) (r : Bool) (w : World) (hr0 : Kd.C k83 w A0 l0.length l0) (hc0 : l0.length ≤ c0) (hr1 : Kd.C k83 w A1 l1.length l1) (hc1 : l1.length ≤ c1) (h : laws_eqItemS.f k l0 l1 = some r) (ht_ : Aside0 (r = true)) :
  Calls Try.prog 15 #[.slice A0 l0.length c0, .slice A1 l1.length c1] w fun e w' => e = .returned (.bool r) ∧ Below w.heap.size w w' := by
 (have hu83 := Try.underlying83); (have HR0 := Aside0.mk hr0); (have HC0 := Aside0.mk hc0); clear hr0 hc0; (have HR1 := Aside0.mk hr1); (have HC1 := Aside0.mk hc1); clear hr1 hc1; (have HB := Aside0.mk (Below.refl w.heap.size w)); (unfold laws_eqItemS.f at h); (have H := h); clear h; (by_cases c3 : (l0.length : Int) = (l1.length : Int))
 ·rw [if_pos c3] at H
  (have c3b0 : ((l0.length : Int) == (l1.length : Int)) = true := beq_iff_eq.mpr c3); (have c3b1 : ((l0.length : Int) != (l1.length : Int)) = false := bne_eq_false_iff_eq.mpr c3); (have c3b2 : (l0.length == l1.length) = true := Q98); clear c3; (have H' := Aside0.mk H); clear H; (go_enter Try.func15, Try.ntmps15); (go_wp2); (go_loopg [5] k (fun kq v5 w' => ∃ (x5_1 : Int), v5 = .int .i64 x5_1 ∧ Aside0 (laws_eqItemS.l0 kq l0 l1 x5_1 = some r) ∧ Aside0 (kq ≤ k) ∧ Aside0 (Below w.heap.size w w')))
  case atStart => exact Q1
  case round =>
   (clear H'); (try clear c1); (try clear p2); (try clear c3); (try clear c3b0); (try clear c3b1); (try clear c3b2); (obtain ⟨x5_1, rfl, HA, HK1, HB⟩ := hrel)
   cases gk with
   | zero => exact absurd HA.out (by simp [laws_eqItemS.l0])
   | succ k1 =>
    (have H := HA.out); clear HA; (simp only [laws_eqItemS.l0] at H); (by_cases c4 : x5_1 < (l0.length : Int))
    ·rw [if_pos c4] at H
     (have c4b0 := decide_eq_true c4); clear c4; (by_cases c5 : 0 ≤ x5_1)
     ·rw [if_pos c5] at H
      (have c5b0 := decide_eq_true c5); clear c5; (by_cases c6 : x5_1 < (l1.length : Int))
      ·rw [if_pos c6] at H
       (have c6b0 := decide_eq_true c6); clear c6; (replace H := obS H); (obtain ⟨t103, A7, H⟩ := H); (by_cases c8 : t103 = true)
       ·subst c8
        (rw [if_pos rfl] at H); (have H' := Aside0.mk H); clear H; (try go_wp2); (have n0_ := Aside0.mk (below_drew1 HB.out)); clear HB; (have HB := n0_); clear n0_; (have p101 : 0 ≤ (x5_1 : Int) := odt); (have q101 : x5_1 < (l0.length : Int) := odt); (obtain ⟨ad101, e101, hx101_0, hx101_1, hx101_2⟩ := at_T83 HR0.out x5_1 p101 q101); (have hw101_2 := hx101_2); (have hw101_1 := hx101_1); (have hw101_0 := hx101_0); (cases e101); (replace hx101_0 := hcI HB hx101_0); (replace hx101_1 := hcI HB hx101_1); (replace hx101_2 := hcI HB hx101_2); (replace p101 := eq_true p101); (replace q101 := eq_true q101); (have p102 : 0 ≤ (x5_1 : Int) := odt); (have q102 : x5_1 < (l1.length : Int) := odt); (obtain ⟨ad102, e102, hx102_0, hx102_1, hx102_2⟩ := at_T83 HR1.out x5_1 p102 q102); (have hw102_2 := hx102_2); (have hw102_1 := hx102_1); (have hw102_0 := hx102_0); (cases e102); (replace hx102_0 := hcI HB hx102_0); (replace hx102_1 := hcI HB hx102_1); (replace hx102_2 := hcI HB hx102_2); (replace p102 := eq_true p102); (replace q102 := eq_true q102); (refine start_ (n := 10) (S := fun w' => w'.cell? (ad101.add ((x5_1).toNat * 3)) = some (.int .i64 ((rd_T83 l0 x5_1).f0)) ∧ w'.cell? ⟨(ad101.add ((x5_1).toNat * 3)).block, (ad101.add ((x5_1).toNat * 3)).off + 1, none⟩ = some (.int .i64 ((rd_T83 l0 x5_1).f1)) ∧ w'.cell? ⟨(ad101.add ((x5_1).toNat * 3)).block, (ad101.add ((x5_1).toNat * 3)).off + 2, none⟩ = some (.int .i64 ((rd_T83 l0 x5_1).f2)) ∧ w'.cell? (ad102.add ((x5_1).toNat * 3)) = some (.int .i64 ((rd_T83 l1 x5_1).f0)) ∧ w'.cell? ⟨(ad102.add ((x5_1).toNat * 3)).block, (ad102.add ((x5_1).toNat * 3)).off + 1, none⟩ = some (.int .i64 ((rd_T83 l1 x5_1).f1)) ∧ w'.cell? ⟨(ad102.add ((x5_1).toNat * 3)).block, (ad102.add ((x5_1).toNat * 3)).off + 2, none⟩ = some (.int .i64 ((rd_T83 l1 x5_1).f2))) (ds := []) (cn 10 0) (by kernel_rfl) rfl (by kernel_rfl) ⟨(hcI HB hw101_0), (hcI HB hw101_1), (hcI HB hw101_2), (hcI HB hw102_0), (hcI HB hw102_1), (hcI HB hw102_2)⟩ (fun hHeld => ?_); refine with_tabW laws_eqItemS.tab6 laws_eqItemS.bits6 (fun HT_ HW_ => ?_)); (generalize wr.drew = w9 at HB hx101_0 hx101_1 hx101_2 hx102_0 hx102_1 hx102_2 hHeld ⊢); (refine pB 0 (cn 10 1) (some 17) HT_ (h := ?_)); (refine pB 1 (cn 10 2) (some 18) HT_ (h := ?_)); (refine pB 2 (cn 10 3) (some 19) HT_ (h := ?_)); (refine pB 4 (cb 10 23) (some 21) HT_ (h := ?_)); (refine pB 5 (cb 10 55) (some 22) HT_ (h := ?_)); (refine pB 6 (cb 10 119) (some 23) HT_ (h := ?_)); (refine tB 3 (cn 10 7) (some 20) HT_ HW_ hHeld (h := ?_)); (refine tB 7 (cn 10 8) (some 24) HT_ HW_ hHeld (h := ?_)); (refine oN 8 (some 25) (cn 10 9) HT_ (fun K hK => ?_))
        (refine gG Try.func58 #[.agg #[.int .i64 ((rd_T83 l0 x5_1).f0), .int .i64 ((rd_T83 l0 x5_1).f1), .int .i64 ((rd_T83 l0 x5_1).f2)], .agg #[.int .i64 ((rd_T83 l1 x5_1).f0), .int .i64 ((rd_T83 l1 x5_1).f1), .int .i64 ((rd_T83 l1 x5_1).f2)]] ?_); (with_reducible refine (laws_eqItem.calls ((rd_T83 l0 x5_1).f0) ((rd_T83 l0 x5_1).f1) ((rd_T83 l0 x5_1).f2) ((rd_T83 l1 x5_1).f0) ((rd_T83 l1 x5_1).f1) ((rd_T83 l1 x5_1).f2) true _ A7.out ⟨rfl⟩).mono ?_); (rintro e w10 ⟨rfl, hb⟩); (refine ⟨_, rfl, ?_⟩); (have n0_ := Aside0.mk (sI hb HB)); clear HB; (have HB := n0_); clear n0_; ((try clear hb)); ((try clear hb2)); ((try clear hk)); ((try clear hi)); (refine hK.out _ _ ⟨(hcI HB hw101_0), (hcI HB hw101_1), (hcI HB hw101_2), (hcI HB hw102_0), (hcI HB hw102_1), (hcI HB hw102_2)⟩ (fun hHeld => ?_)); clear hK K; (refine nP (some 25) (h := ?_)); (refine pB 9 (cn 10 10) (some 26) HT_ (h := ?_)); (refine done_ (done_of HT_.out (by kernel_rfl)) ?_); (try go_wp2); go_roundg k1
        case measure => have := HK1.out; omega
        case rel => exact Q100
       ·replace c8 := Bool.eq_false_iff.mpr c8
        subst c8; (rw [if_neg (show ¬ (false = true) by decide)] at H); (obtain rfl := Option.some.inj H); (exact Q99)
      ·rw [if_neg c6] at H
       exact Q11
     ·rw [if_neg c5] at H
      exact Q11
    ·rw [if_neg c4] at H
     (have c4b0 := decide_eq_false c4); clear c4; (obtain rfl := Option.some.inj H); (go_wp2); go_ret; (exact Q13)
 ·rw [if_neg c3] at H
  (have c3b0 : ((l0.length : Int) == (l1.length : Int)) = false := beq_eq_false_iff_ne.mpr c3); (have c3b1 : ((l0.length : Int) != (l1.length : Int)) = true := bne_iff_ne.mpr c3); (have c3b2 : (l0.length == l1.length) = false := Q98); (obtain rfl := Option.some.inj H); (exact Q99)
/-! ### laws_eqArchiveBox: function 59 -/
def laws_eqArchiveBox.f (k : Nat) (a0_0 : Int) (l0_1 : List Int) (a1_0 : Int) (l1_1 : List Int) : Option (Bool) := if a0_0 = a1_0 then ((laws_eqIntS.f k l0_1 l1_1).bind fun t103 => (if t103 = true then (some true) else (some false))) else (some false)
set_option maxHeartbeats 8000000 in
set_option maxRecDepth 100000 in
theorem laws_eqArchiveBox.calls (k : Nat) (a0_0 : Int) (A0_1 : Option Addr) (c0_1 : Nat) (l0_1 : List Int) (a1_0 : Int) (A1_1 : Option Addr) (c1_1 : Nat) (l1_1 : List Int) (r : Bool) (w : World) (hr0_1 : Kd.C (Kd.int .i64) w A0_1 l0_1.length l0_1) (hc0_1 : l0_1.length ≤ c0_1) (hr1_1 : Kd.C (Kd.int .i64) w A1_1 l1_1.length l1_1) (hc1_1 : l1_1.length ≤ c1_1) (h : laws_eqArchiveBox.f k a0_0 l0_1 a1_0 l1_1 = some r) (ht_ : Aside0 (r = true)) :
  Calls Try.prog 59 #[.agg #[.int .i64 a0_0, .slice A0_1 l0_1.length c0_1], .agg #[.int .i64 a1_0, .slice A1_1 l1_1.length c1_1]] w fun e w' => e = .returned (.bool r) ∧ Below w.heap.size w w' := by
 (have hu80 := Try.underlying80); (have HR0_1 := Aside0.mk hr0_1); (have HC0_1 := Aside0.mk hc0_1); clear hr0_1 hc0_1; (have HR1_1 := Aside0.mk hr1_1); (have HC1_1 := Aside0.mk hc1_1); clear hr1_1 hc1_1; (have HB := Aside0.mk (Below.refl w.heap.size w)); (unfold laws_eqArchiveBox.f at h); (have H := h); clear h; (by_cases c3 : a0_0 = a1_0)
 ·rw [if_pos c3] at H
  (have c3b0 : (a0_0 == a1_0) = true := beq_iff_eq.mpr c3); (have c3b1 : (a0_0 != a1_0) = false := bne_eq_false_iff_eq.mpr c3); clear c3; (replace H := obS H); (obtain ⟨t103, A4, H⟩ := H); (by_cases c5 : t103 = true); (· subst c5; (rw [if_pos rfl] at H); (obtain rfl := Option.some.inj H); (go_enter Try.func59, Try.ntmps59); (go_wp2_with (first | ((with_reducible refine gate_dst (N := 2) rfl ?_); refine box_event ?hg (N := 2) ?hd (cs := #[.int .i64 a0_0, .slice A0_1 l0_1.length c0_1]) (t := 80) ?hr ?_; (case hd => rfl); (case hg => rfl); (case hr => first | (go_simp; done) | (go_simp; rfl)); intro gb101 hg w6 hbox hb; have hB_ := zI hb HB; have n0_ := Aside0.mk (below_step hB_ hb); have n1_ := Aside0.mk (hbox); have n2_ := Aside0.mk (bx0 hg hB_); have n3_ := n2_; clear HB; have HB := n0_; have BK101 := n1_; have GW101 := n2_; have GE101 := n3_; clear n0_ n1_ n2_ n3_ hB_ hb hbox hg) | ((with_reducible refine gate_dst (N := 3) rfl ?_); refine box_event ?hg (N := 3) ?hd (cs := #[.int .i64 a1_0, .slice A1_1 l1_1.length c1_1]) (t := 80) ?hr ?_; (case hd => rfl); (case hg => rfl); (case hr => first | (go_simp; done) | (go_simp; rfl)); intro gb102 hg w7 hbox hb; have n0_ := Aside0.mk (kbI hb BK101); have hB_ := zI hb HB; have n1_ := Aside0.mk (below_step hB_ hb); have n2_ := Aside0.mk (hbox); have n3_ := Aside0.mk (bx0 hg hB_); have n4_ := n3_; have n5_ := Aside0.mk ((Q70 : gb101 ≠ gb102)); have n6_ := Aside0.mk (Ne.symm n5_.out); clear BK101 HB; have BK101 := n0_; have HB := n1_; have BK102 := n2_; have GW102 := n3_; have GE102 := n4_; have NB101_102 := n5_; have NB102_101 := n6_; clear n0_ n1_ n2_ n3_ n4_ n5_ n6_ hB_ hb hbox hg; have hnb8 := NB101_102.out; have hnc8 := NB102_101.out; have hcz9_0 := cz BK101.out 0; have hcz9_1 := cz BK101.out 1; have hfz9_0 := blk_frozen BK101.out 0; have hfz9_1 := blk_frozen BK101.out 1; have hcz10_0 := cz BK102.out 0; have hcz10_1 := cz BK102.out 1; have hfz10_0 := blk_frozen BK102.out 0; have hfz10_1 := blk_frozen BK102.out 1) | ((with_reducible refine gate_callee (f := 14) rfl ?_); refine gL (some 14) Try.func14 #[.slice A0_1 l0_1.length c0_1, .slice A1_1 l1_1.length c1_1] ?_; (with_reducible refine (laws_eqIntS.calls k _ _ l0_1 _ _ l1_1 true _ ?side1 ?side2 ?side3 ?side4 A4.out ⟨rfl⟩).mono ?_); (case side1 => exact Q101); (case side2 => exact HC0_1.out); (case side3 => exact Kd.C_below HR1_1.out (eI HB)); (case side4 => exact HC1_1.out); rintro e w' ⟨rfl, ⟨nd, rfl⟩⟩; refine ⟨_, rfl, ?_⟩))); go_ret; (exact Q13)); (· (replace c5 := Bool.eq_false_iff.mpr c5); subst c5; (rw [if_neg (show ¬ (false = true) by decide)] at H); (obtain rfl := Option.some.inj H); (exact Q99))
 ·rw [if_neg c3] at H
  (have c3b0 : (a0_0 == a1_0) = false := beq_eq_false_iff_ne.mpr c3); (have c3b1 : (a0_0 != a1_0) = true := bne_iff_ne.mpr c3); (obtain rfl := Option.some.inj H); (exact Q99)
/-! ### laws_eqArchiveBoxS: function 16 -/
def laws_eqArchiveBoxS.l0 : Nat → List (S80) → List (S80) → Int → Option (Bool)
 | 0, _, _, _ => none
 | k + 1, x0, x1, x5 => if x5 < (x0.length : Int) then (if 0 ≤ x5 then (if x5 < (x1.length : Int) then ((laws_eqArchiveBox.f k ((rd_T80 x0 x5).f0) ((rd_T80 x0 x5).f1) ((rd_T80 x1 x5).f0) ((rd_T80 x1 x5).f1)).bind fun t103 => (if t103 = true then (laws_eqArchiveBoxS.l0 k x0 x1 (wrap64 (x5 + 1))) else (some false))) else (none)) else (none)) else (some true)
def laws_eqArchiveBoxS.f (k : Nat) (l0 : List (S80)) (l1 : List (S80)) : Option (Bool) := if (l0.length : Int) = (l1.length : Int) then (laws_eqArchiveBoxS.l0 k l0 l1 0) else (some false)
def laws_eqArchiveBoxS.T6 : Bool × List (List Nat × List Nat) := (true, [([], []), ([], []), ([0, 1], [0, 1]), ([2], [2]), ([], []), ([], []), ([4, 5], [4, 5]), ([6], [6]), ([3, 7], [3, 7]), ([8], [8])])
def laws_eqArchiveBoxS.B6 : List Nat := [0, 0, 3, 7, 0, 0, 48, 112, 255, 511]
theorem laws_eqArchiveBoxS.tab6 : rtab .any (opsOf Try.f16 6) = laws_eqArchiveBoxS.T6 := by kernel_rfl
theorem laws_eqArchiveBoxS.bits6 : waitsOk laws_eqArchiveBoxS.T6.2 laws_eqArchiveBoxS.B6 = true := by kernel_rfl
set_option maxHeartbeats 8000000 in
set_option maxRecDepth 100000 in
theorem laws_eqArchiveBoxS.calls (k : Nat) (A0 : Option Addr) (c0 : Nat) (l0 : List (S80)) (A1 : Option Addr) (c1 : Nat) (l1 : List (S80)) (r : Bool) (w : World) (hr0 : Kd.C k80 w A0 l0.length l0) (hc0 : l0.length ≤ c0) (hr1 : Kd.C k80 w A1 l1.length l1) (hc1 : l1.length ≤ c1) (h : laws_eqArchiveBoxS.f k l0 l1 = some r) (ht_ : Aside0 (r = true)) :
  Calls Try.prog 16 #[.slice A0 l0.length c0, .slice A1 l1.length c1] w fun e w' => e = .returned (.bool r) ∧ Below w.heap.size w w' := by
 (have hu80 := Try.underlying80); (have HR0 := Aside0.mk hr0); (have HC0 := Aside0.mk hc0); clear hr0 hc0; (have HR1 := Aside0.mk hr1); (have HC1 := Aside0.mk hc1); clear hr1 hc1; (have HB := Aside0.mk (Below.refl w.heap.size w)); (unfold laws_eqArchiveBoxS.f at h); (have H := h); clear h; (by_cases c3 : (l0.length : Int) = (l1.length : Int))
 ·rw [if_pos c3] at H
  (have c3b0 : ((l0.length : Int) == (l1.length : Int)) = true := beq_iff_eq.mpr c3); (have c3b1 : ((l0.length : Int) != (l1.length : Int)) = false := bne_eq_false_iff_eq.mpr c3); (have c3b2 : (l0.length == l1.length) = true := Q98); clear c3; (have H' := Aside0.mk H); clear H; (go_enter Try.func16, Try.ntmps16); (go_wp2); (go_loopg [5] k (fun kq v5 w' => ∃ (x5_1 : Int), v5 = .int .i64 x5_1 ∧ Aside0 (laws_eqArchiveBoxS.l0 kq l0 l1 x5_1 = some r) ∧ Aside0 (kq ≤ k) ∧ Aside0 (Below w.heap.size w w')))
  case atStart => exact Q1
  case round =>
   (clear H'); (try clear c1); (try clear p2); (try clear c3); (try clear c3b0); (try clear c3b1); (try clear c3b2); (obtain ⟨x5_1, rfl, HA, HK1, HB⟩ := hrel)
   cases gk with
   | zero => exact absurd HA.out (by simp [laws_eqArchiveBoxS.l0])
   | succ k1 =>
    (have H := HA.out); clear HA; (simp only [laws_eqArchiveBoxS.l0] at H); (by_cases c4 : x5_1 < (l0.length : Int))
    ·rw [if_pos c4] at H
     (have c4b0 := decide_eq_true c4); clear c4; (by_cases c5 : 0 ≤ x5_1)
     ·rw [if_pos c5] at H
      (have c5b0 := decide_eq_true c5); clear c5; (by_cases c6 : x5_1 < (l1.length : Int))
      ·rw [if_pos c6] at H
       (have c6b0 := decide_eq_true c6); clear c6; (replace H := obS H); (obtain ⟨t103, A7, H⟩ := H); (by_cases c8 : t103 = true)
       ·subst c8
        (rw [if_pos rfl] at H); (have H' := Aside0.mk H); clear H; (try go_wp2); (have n0_ := Aside0.mk (below_drew1 HB.out)); clear HB; (have HB := n0_); clear n0_; (have p101 : 0 ≤ (x5_1 : Int) := odt); (have q101 : x5_1 < (l0.length : Int) := odt); (obtain ⟨ad101, A101_1, c101_1, e101, hx101_0, hx101_1, hl101_1, hi101_1⟩ := at_T80 HR0.out x5_1 p101 q101); (have hw101_1 := hx101_1); (have hw101_0 := hx101_0); (cases e101); (replace hx101_0 := hcI HB hx101_0); (replace hx101_1 := hcI HB hx101_1); (have HR101_1 := Aside0.mk hi101_1); (have HC101_1 := Aside0.mk hl101_1); clear hi101_1 hl101_1; (replace p101 := eq_true p101); (replace q101 := eq_true q101); (have p102 : 0 ≤ (x5_1 : Int) := odt); (have q102 : x5_1 < (l1.length : Int) := odt); (obtain ⟨ad102, A102_1, c102_1, e102, hx102_0, hx102_1, hl102_1, hi102_1⟩ := at_T80 HR1.out x5_1 p102 q102); (have hw102_1 := hx102_1); (have hw102_0 := hx102_0); (cases e102); (replace hx102_0 := hcI HB hx102_0); (replace hx102_1 := hcI HB hx102_1); (have HR102_1 := Aside0.mk hi102_1); (have HC102_1 := Aside0.mk hl102_1); clear hi102_1 hl102_1; (replace p102 := eq_true p102); (replace q102 := eq_true q102); (refine start_ (n := 10) (S := fun w' => w'.cell? (ad101.add ((x5_1).toNat * 2)) = some (.int .i64 ((rd_T80 l0 x5_1).f0)) ∧ w'.cell? ⟨(ad101.add ((x5_1).toNat * 2)).block, (ad101.add ((x5_1).toNat * 2)).off + 1, none⟩ = some (.slice A101_1 ((rd_T80 l0 x5_1).f1).length c101_1) ∧ w'.cell? (ad102.add ((x5_1).toNat * 2)) = some (.int .i64 ((rd_T80 l1 x5_1).f0)) ∧ w'.cell? ⟨(ad102.add ((x5_1).toNat * 2)).block, (ad102.add ((x5_1).toNat * 2)).off + 1, none⟩ = some (.slice A102_1 ((rd_T80 l1 x5_1).f1).length c102_1)) (ds := []) (cn 10 0) (by kernel_rfl) rfl (by kernel_rfl) ⟨(hcI HB hw101_0), (hcI HB hw101_1), (hcI HB hw102_0), (hcI HB hw102_1)⟩ (fun hHeld => ?_); refine with_tabW laws_eqArchiveBoxS.tab6 laws_eqArchiveBoxS.bits6 (fun HT_ HW_ => ?_)); (generalize wr.drew = w9 at HB HR101_1 HR102_1 hx101_0 hx101_1 hx102_0 hx102_1 hHeld ⊢); (refine pB 0 (cn 10 1) (some 17) HT_ (h := ?_)); (refine pB 1 (cn 10 2) (some 18) HT_ (h := ?_)); (refine pB 2 (cn 10 3) (some 19) HT_ (h := ?_)); (refine pB 4 (cb 10 23) (some 21) HT_ (h := ?_)); (refine pB 5 (cb 10 55) (some 22) HT_ (h := ?_)); (refine pB 6 (cb 10 119) (some 23) HT_ (h := ?_)); (refine tB 3 (cn 10 7) (some 20) HT_ HW_ hHeld (h := ?_)); (refine tB 7 (cn 10 8) (some 24) HT_ HW_ hHeld (h := ?_)); (refine oN 8 (some 25) (cn 10 9) HT_ (fun K hK => ?_)); (refine gG Try.func59 #[.agg #[.int .i64 ((rd_T80 l0 x5_1).f0), .slice A101_1 ((rd_T80 l0 x5_1).f1).length c101_1], .agg #[.int .i64 ((rd_T80 l1 x5_1).f0), .slice A102_1 ((rd_T80 l1 x5_1).f1).length c102_1]] ?_); (with_reducible refine (laws_eqArchiveBox.calls k1 ((rd_T80 l0 x5_1).f0) _ _ ((rd_T80 l0 x5_1).f1) ((rd_T80 l1 x5_1).f0) _ _ ((rd_T80 l1 x5_1).f1) true _ ?side1 ?side2 ?side3 ?side4 A7.out ⟨rfl⟩).mono ?_)
        ((case side1 => exact Q102)); ((case side2 => exact Q58)); ((case side3 => exact Kd.C_below HR102_1.out (eI HB))); ((case side4 => exact HC102_1.out)); (rintro e w10 ⟨rfl, hb⟩); (refine ⟨_, rfl, ?_⟩); (have n0_ := Aside0.mk (sI hb HB)); clear HB; (have HB := n0_); clear n0_; ((try clear hb)); ((try clear hb2)); ((try clear hk)); ((try clear hi)); (refine hK.out _ _ ⟨(hcI HB hw101_0), (hcI HB hw101_1), (hcI HB hw102_0), (hcI HB hw102_1)⟩ (fun hHeld => ?_)); clear hK K; (refine nP (some 25) (h := ?_)); (refine pB 9 (cn 10 10) (some 26) HT_ (h := ?_)); (refine done_ (done_of HT_.out (by kernel_rfl)) ?_); (try go_wp2); go_roundg k1
        case measure => have := HK1.out; omega
        case rel => exact Q100
       ·replace c8 := Bool.eq_false_iff.mpr c8
        subst c8; (rw [if_neg (show ¬ (false = true) by decide)] at H); (obtain rfl := Option.some.inj H); (exact Q99)
      ·rw [if_neg c6] at H
       exact Q11
     ·rw [if_neg c5] at H
      exact Q11
    ·rw [if_neg c4] at H
     (have c4b0 := decide_eq_false c4); clear c4; (obtain rfl := Option.some.inj H); (go_wp2); go_ret; (exact Q13)
 ·rw [if_neg c3] at H
  (have c3b0 : ((l0.length : Int) == (l1.length : Int)) = false := beq_eq_false_iff_ne.mpr c3); (have c3b1 : ((l0.length : Int) != (l1.length : Int)) = true := bne_iff_ne.mpr c3); (have c3b2 : (l0.length == l1.length) = false := Q98); (obtain rfl := Option.some.inj H); (exact Q99)
/-! ### laws_markItemS: function 17 -/
def laws_markItemS.l0 : Nat → List (S83) → Int → Int → Option (Int × (List (S83)))
 | 0, _, _, _ => none
 | k + 1, x0, x1, x5 => if x5 < (x0.length : Int) then (if 0 ≤ x5 then ((some (x0.set (x5 : Int).toNat (⟨x1, (rd_T83 x0 x5).f1, (rd_T83 x0 x5).f2⟩ : S83) : List (S83))).bind fun y101 => ((some (y101.set (x5 : Int).toNat (⟨(rd_T83 y101 x5).f0, wrap64 (x1 + 1), (rd_T83 y101 x5).f2⟩ : S83) : List (S83))).bind fun y102 => (laws_markItemS.l0 k (y102.set (x5 : Int).toNat (⟨(rd_T83 y102 x5).f0, (rd_T83 y102 x5).f1, wrap64 ((wrap64 (x1 + 1)) + 1)⟩ : S83)) (wrap64 ((wrap64 ((wrap64 (x1 + 1)) + 1)) + 1)) (wrap64 (x5 + 1))))) else (none)) else (some (x1, x0))
def laws_markItemS.f (k : Nat) (l0 : List (S83)) (a1 : Int) : Option (Int × (List (S83))) := laws_markItemS.l0 k l0 a1 0
set_option maxHeartbeats 8000000 in
set_option maxRecDepth 100000 in
theorem laws_markItemS.calls (k : Nat) (P0_ : Nat → Prop) (u9000_ : Value) (l0 : List (S83)) (a1 : Int) (r1 : Int) (r2 : List (S83)) (w0 w : World) (hB : Below w0.heap.size w0 w) (ho0 : Kd.R k83 83 w w0.heap.size P0_ u9000_ l0) (h : laws_markItemS.f k l0 a1 = some (r1, r2)) :
  Calls Try.prog 17 #[u9000_, .int .i64 a1] w fun e w' => e = .returned (.int .i64 r1) ∧ Kd.R k83 83 w' w0.heap.size (fun k_ => (P0_ k_ ∨ w.heap.size ≤ k_)) u9000_ r2 ∧ Below w0.heap.size w0 w' ∧ Kept w w' (fun k_ => P0_ k_) := by
 (have HO0 := Aside0.mk (show Kd.R k83 83 w w0.heap.size (fun k_ => (P0_ k_ ∨ w.heap.size ≤ k_)) u9000_ l0 from Kd.R_mono ho0 (fun k_ hk => (.inl hk)))); (have HK := Aside0.mk (Kept.refl w (fun k_ => P0_ k_))); (have HW0 := Aside0.mk hB.size); (have HB := Aside0.mk hB); clear hB; (unfold laws_markItemS.f at h); (have H := h); clear h; (have H' := Aside0.mk H); clear H; (go_enter Try.func17, Try.ntmps17); (go_wp2); (go_loopg [1, 5] k (fun kq v1 v5 w' => ∃ (x0_1 : List (S83)) (x1_1 : Int) (x5_1 : Int), v1 = .int .i64 x1_1 ∧ v5 = .int .i64 x5_1 ∧ Aside0 (laws_markItemS.l0 kq x0_1 x1_1 x5_1 = some (r1, r2)) ∧ Aside0 (kq ≤ k) ∧ Aside0 (Kd.R k83 83 w' w0.heap.size (fun k_ => (P0_ k_ ∨ w.heap.size ≤ k_)) u9000_ x0_1) ∧ Aside0 (Kept w w' (fun k_ => P0_ k_)) ∧ Aside0 (Below w0.heap.size w0 w')))
 case atStart => exact Q103
 case round =>
  (clear H'); (try clear c1); (try clear p2); (obtain ⟨x0_1, x1_1, x5_1, rfl, rfl, HA, HK1, HO_0, HK, HB⟩ := hrel)
  cases gk with
  | zero => exact absurd HA.out (by simp [laws_markItemS.l0])
  | succ k1 =>
   (have H := HA.out); clear HA; (simp only [laws_markItemS.l0] at H); (by_cases c3 : x5_1 < (x0_1.length : Int))
   ·rw [if_pos c3] at H
    (have c3b0 := decide_eq_true c3); clear c3; (by_cases c4 : 0 ≤ x5_1)
    ·rw [if_pos c4] at H
     (have c4b0 := decide_eq_true c4); clear c4; (obtain ⟨y101, hy101⟩ : ∃ y_ : List (S83), y_ = (x0_1.set (x5_1 : Int).toNat (⟨x1_1, (rd_T83 x0_1 x5_1).f1, (rd_T83 x0_1 x5_1).f2⟩ : S83)) := ⟨_, rfl⟩); (replace H : ((some (y101.set (x5_1 : Int).toNat (⟨(rd_T83 y101 x5_1).f0, wrap64 (x1_1 + 1), (rd_T83 y101 x5_1).f2⟩ : S83) : List (S83))).bind fun y102 => (laws_markItemS.l0 k1 (y102.set (x5_1 : Int).toNat (⟨(rd_T83 y102 x5_1).f0, (rd_T83 y102 x5_1).f1, wrap64 ((wrap64 (x1_1 + 1)) + 1)⟩ : S83)) (wrap64 ((wrap64 ((wrap64 (x1_1 + 1)) + 1)) + 1)) (wrap64 (x5_1 + 1)))) = some (r1, r2) := Q59); (have Ny101 := Aside0.mk hy101); clear hy101; (obtain ⟨y102, hy102⟩ : ∃ y_ : List (S83), y_ = (y101.set (x5_1 : Int).toNat (⟨(rd_T83 y101 x5_1).f0, wrap64 (x1_1 + 1), (rd_T83 y101 x5_1).f2⟩ : S83)) := ⟨_, rfl⟩); (replace H : (laws_markItemS.l0 k1 (y102.set (x5_1 : Int).toNat (⟨(rd_T83 y102 x5_1).f0, (rd_T83 y102 x5_1).f1, wrap64 ((wrap64 (x1_1 + 1)) + 1)⟩ : S83)) (wrap64 ((wrap64 ((wrap64 (x1_1 + 1)) + 1)) + 1)) (wrap64 (x5_1 + 1))) = some (r1, r2) := by first | (rw [hy102]; with_reducible exact H) | (have H2_ := (Option.bind_some _ _).symm.trans H; rw [hy102]; with_reducible exact H2_) | (have H2_ := (Option.bind_some _ _).symm.trans H; with_reducible exact H2_) | with_reducible exact H | (rw [hy102]; exact H) | exact H); (have Ny102 := Aside0.mk hy102); clear hy102; (obtain ⟨y103, hy103⟩ : ∃ y_ : List (S83), y_ = (y102.set (x5_1 : Int).toNat (⟨(rd_T83 y102 x5_1).f0, (rd_T83 y102 x5_1).f1, wrap64 ((wrap64 (x1_1 + 1)) + 1)⟩ : S83)) := ⟨_, rfl⟩); (replace H : (laws_markItemS.l0 k1 y103 (wrap64 ((wrap64 ((wrap64 (x1_1 + 1)) + 1)) + 1)) (wrap64 (x5_1 + 1))) = some (r1, r2) := Q23); (have Ny103 := Aside0.mk hy103); clear hy103; (have H' := Aside0.mk H); clear H; (obtain ⟨Ao8, co8, eo8⟩ := Kd.R_slice HO_0.out); subst eo8; (have p5 : 0 ≤ (x5_1 : Int) := odt); (have q5 : (x5_1 : Int) < ((x0_1.length : Int) : Int) := odt); (obtain ⟨go5, co5, eo5, gb5, gl5, cl5, HG5⟩ := Kd.R_form HO_0.out (by omega)); ((first | cases eo5 | (injection eo5 with ea_ en_ ec_; (first | subst ea_ | (injection ea_ with ea_; subst ea_)); subst ec_; clear en_))); (have GB5 := Aside0.mk gb5); (have GG5 := Aside0.mk HG5); clear gb5 gl5 HG5; (have HMgo5 := Aside0.mk (show (P0_ go5 ∨ w.heap.size ≤ go5) from (HO_0.out.1 _ rfl))); (obtain ⟨ce5, hcl5, hM5, hcc5, hfr5⟩ := Kd.R_elem HO_0.out z83 (x5_1 : Int) p5 q5); (obtain rfl := k83_openM hM5); (have hx5_0 : wr.cell? ⟨go5, (x5_1 : Int).toNat * 3, none⟩ = some (.int .i64 ((rd_T83 x0_1 x5_1).f0)) := hcc5 0 _ rfl); (have hx5_1 : wr.cell? ⟨go5, (x5_1 : Int).toNat * 3 + 1, none⟩ = some (.int .i64 ((rd_T83 x0_1 x5_1).f1)) := hcc5 1 _ rfl); (have hx5_2 : wr.cell? ⟨go5, (x5_1 : Int).toNat * 3 + 2, none⟩ = some (.int .i64 ((rd_T83 x0_1 x5_1).f2)) := hcc5 2 _ rfl); (have hf5_0 : wr.frozen? ⟨go5, (x5_1 : Int).toNat * 3, none⟩ = false := hfr5 0); (have hf5_1 : wr.frozen? ⟨go5, (x5_1 : Int).toNat * 3 + 1, none⟩ = false := hfr5 1); (have hf5_2 : wr.frozen? ⟨go5, (x5_1 : Int).toNat * 3 + 2, none⟩ = false := hfr5 2); clear hcl5 hcc5 hfr5 hM5; (replace p5 := eq_true p5); (replace q5 := eq_true q5); (have HX9 := Aside0.mk (show Kd.R k83 83 wr w0.heap.size (fun k_ => (P0_ k_ ∨ w.heap.size ≤ k_)) (.slice (some ⟨go5, 0, none⟩) x0_1.length co8) x0_1 from (rI HO_0))); (obtain ⟨ce9, hcl9, hM9, hcc9, hfr9⟩ := Kd.R_elem HX9.out z83 (x5_1 : Int) odt Q104); (obtain rfl := k83_openM hM9); (have HP9 := Kd.R_seg HX9.out (x5_1 : Int) odt Q104 (seg := [.int .i64 x1_1]) (j := 0) hcl9 hcc9 (show 1 ≤ 3 from by decide) (x' := (⟨x1_1, (rd_T83 x0_1 x5_1).f1, (rd_T83 x0_1 x5_1).f2⟩ : S83)) (k83_mkM _ _ _ (⟨x1_1, (rd_T83 x0_1 x5_1).f1, (rd_T83 x0_1 x5_1).f2⟩ : S83) ) (fun _ hk => hk)); (have hx9_0 := hcc9 0 _ rfl); ((try simp only [show (k83).sz = 3 from rfl, Nat.mul_one, Nat.add_zero] at hx9_0)); (have hf9_0 := hfr9 0); ((try simp only [show (k83).sz = 3 from rfl, Nat.mul_one, Nat.add_zero] at hf9_0)); clear hcl9 hcc9 hfr9 hM9
     go_wp2_with (first | ((with_reducible refine gate_store (t := 3) (p := 16) rfl ?_); refine store_event (t := 3) (p := 16) (v := ?vo_w10) (w1 := (wr.setCell ⟨go5, (x5_1 : Int).toNat * 3, none⟩ (.int .i64 x1_1))) ?hg ?ho ?hn ?hr ?_; (case ho => rfl); (case hg => rfl); (case hn => rfl); (case hr => first | (go_simp; done) | (go_simp; rfl)); intro w10 hw; have hg : wr.grownBy w10 (some go5) := (by rw [hw]; exact HP9.2); have hp_ : Kd.R k83 83 w10 w0.heap.size (fun k_ => (P0_ k_ ∨ w.heap.size ≤ k_)) (.slice (some ⟨go5, 0, none⟩) x0_1.length co8) y101 := (by rw [hw, Ny101.out]; exact HP9.1); clear HP9; have n0_ := Aside0.mk (hp_); have n1_ := Aside0.mk ((Q105 : Below w0.heap.size w0 w10)); have n2_ := Aside0.mk (Kept.of_grown (S := (fun k_ => P0_ k_)) hg Q17 (fun k_ e_ => (HO_0.out.1 k_ e_))); clear HO_0 HB HK; have HO_0 := n0_; have HB := n1_; have HK := n2_; clear n0_ n1_ n2_ hg hw hp_; have p6 : 0 ≤ (x5_1 : Int) := odt; have q6 : (x5_1 : Int) < ((x0_1.length : Int) : Int) := odt; obtain ⟨ce6, hcl6, hM6, hcc6, hfr6⟩ := Kd.R_elem HO_0.out z83 (x5_1 : Int) p6 q6; obtain rfl := k83_openM hM6; have hx6_0 : w10.cell? ⟨go5, (x5_1 : Int).toNat * 3, none⟩ = some (.int .i64 ((rd_T83 y101 x5_1).f0)) := hcc6 0 _ rfl; have hx6_1 : w10.cell? ⟨go5, (x5_1 : Int).toNat * 3 + 1, none⟩ = some (.int .i64 ((rd_T83 y101 x5_1).f1)) := hcc6 1 _ rfl; have hx6_2 : w10.cell? ⟨go5, (x5_1 : Int).toNat * 3 + 2, none⟩ = some (.int .i64 ((rd_T83 y101 x5_1).f2)) := hcc6 2 _ rfl; have hf6_0 : w10.frozen? ⟨go5, (x5_1 : Int).toNat * 3, none⟩ = false := hfr6 0; have hf6_1 : w10.frozen? ⟨go5, (x5_1 : Int).toNat * 3 + 1, none⟩ = false := hfr6 1; have hf6_2 : w10.frozen? ⟨go5, (x5_1 : Int).toNat * 3 + 2, none⟩ = false := hfr6 2; clear hcl6 hcc6 hfr6 hM6; replace p6 := eq_true p6; replace q6 := eq_true q6; have HX11 := Aside0.mk (show Kd.R k83 83 w10 w0.heap.size (fun k_ => (P0_ k_ ∨ w.heap.size ≤ k_)) (.slice (some ⟨go5, 0, none⟩) x0_1.length co8) y101 from (rI HO_0)); obtain ⟨ce11, hcl11, hM11, hcc11, hfr11⟩ := Kd.R_elem HX11.out z83 (x5_1 : Int) odt Q104; obtain rfl := k83_openM hM11; have HP11 := Kd.R_seg HX11.out (x5_1 : Int) odt Q104 (seg := [.int .i64 (wrap64 (x1_1 + 1))]) (j := 1) hcl11 hcc11 (show 2 ≤ 3 from by decide) (x' := (⟨(rd_T83 y101 x5_1).f0, wrap64 (x1_1 + 1), (rd_T83 y101 x5_1).f2⟩ : S83)) (k83_mkM _ _ _ (⟨(rd_T83 y101 x5_1).f0, wrap64 (x1_1 + 1), (rd_T83 y101 x5_1).f2⟩ : S83) ) (fun _ hk => hk); have hx11_1 := hcc11 1 _ rfl; (try simp only [show (k83).sz = 3 from rfl, Nat.mul_one, Nat.add_zero] at hx11_1); have hf11_1 := hfr11 1; (try simp only [show (k83).sz = 3 from rfl, Nat.mul_one, Nat.add_zero] at hf11_1); clear hcl11 hcc11 hfr11 hM11) | ((with_reducible refine gate_store (t := 3) (p := 23) rfl ?_); refine store_event (t := 3) (p := 23) (v := ?vo_w12) (w1 := (w10.setCell ⟨go5, (x5_1 : Int).toNat * 3 + 1, none⟩ (.int .i64 (wrap64 (x1_1 + 1))))) ?hg ?ho ?hn ?hr ?_; (case ho => rfl); (case hg => rfl); (case hn => rfl); (case hr => first | (go_simp; done) | (go_simp; rfl)); intro w12 hw; have hg : w10.grownBy w12 (some go5) := (by rw [hw]; exact HP11.2); have hp_ : Kd.R k83 83 w12 w0.heap.size (fun k_ => (P0_ k_ ∨ w.heap.size ≤ k_)) (.slice (some ⟨go5, 0, none⟩) x0_1.length co8) y102 := (by rw [hw, Ny102.out]; exact HP11.1); clear HP11; have n0_ := Aside0.mk (hp_); have n1_ := Aside0.mk ((Q105 : Below w0.heap.size w0 w12)); have n2_ := Aside0.mk (Kept.of_grown (S := (fun k_ => P0_ k_)) hg Q17 (fun k_ e_ => (HO_0.out.1 k_ e_))); clear HO_0 HB HK; have HO_0 := n0_; have HB := n1_; have HK := n2_; clear n0_ n1_ n2_ hg hw hp_; have p7 : 0 ≤ (x5_1 : Int) := odt; have q7 : (x5_1 : Int) < ((x0_1.length : Int) : Int) := odt; obtain ⟨ce7, hcl7, hM7, hcc7, hfr7⟩ := Kd.R_elem HO_0.out z83 (x5_1 : Int) p7 q7; obtain rfl := k83_openM hM7; have hx7_0 : w12.cell? ⟨go5, (x5_1 : Int).toNat * 3, none⟩ = some (.int .i64 ((rd_T83 y102 x5_1).f0)) := hcc7 0 _ rfl; have hx7_1 : w12.cell? ⟨go5, (x5_1 : Int).toNat * 3 + 1, none⟩ = some (.int .i64 ((rd_T83 y102 x5_1).f1)) := hcc7 1 _ rfl; have hx7_2 : w12.cell? ⟨go5, (x5_1 : Int).toNat * 3 + 2, none⟩ = some (.int .i64 ((rd_T83 y102 x5_1).f2)) := hcc7 2 _ rfl; have hf7_0 : w12.frozen? ⟨go5, (x5_1 : Int).toNat * 3, none⟩ = false := hfr7 0; have hf7_1 : w12.frozen? ⟨go5, (x5_1 : Int).toNat * 3 + 1, none⟩ = false := hfr7 1; have hf7_2 : w12.frozen? ⟨go5, (x5_1 : Int).toNat * 3 + 2, none⟩ = false := hfr7 2; clear hcl7 hcc7 hfr7 hM7; replace p7 := eq_true p7; replace q7 := eq_true q7; have HX13 := Aside0.mk (show Kd.R k83 83 w12 w0.heap.size (fun k_ => (P0_ k_ ∨ w.heap.size ≤ k_)) (.slice (some ⟨go5, 0, none⟩) x0_1.length co8) y102 from (rI HO_0)); obtain ⟨ce13, hcl13, hM13, hcc13, hfr13⟩ := Kd.R_elem HX13.out z83 (x5_1 : Int) odt Q104; obtain rfl := k83_openM hM13; have HP13 := Kd.R_seg HX13.out (x5_1 : Int) odt Q104 (seg := [.int .i64 (wrap64 ((wrap64 (x1_1 + 1)) + 1))]) (j := 2) hcl13 hcc13 (show 3 ≤ 3 from by decide) (x' := (⟨(rd_T83 y102 x5_1).f0, (rd_T83 y102 x5_1).f1, wrap64 ((wrap64 (x1_1 + 1)) + 1)⟩ : S83)) (k83_mkM _ _ _ (⟨(rd_T83 y102 x5_1).f0, (rd_T83 y102 x5_1).f1, wrap64 ((wrap64 (x1_1 + 1)) + 1)⟩ : S83) ) (fun _ hk => hk); have hx13_2 := hcc13 2 _ rfl; (try simp only [show (k83).sz = 3 from rfl, Nat.mul_one, Nat.add_zero] at hx13_2); have hf13_2 := hfr13 2; (try simp only [show (k83).sz = 3 from rfl, Nat.mul_one, Nat.add_zero] at hf13_2); clear hcl13 hcc13 hfr13 hM13) | ((with_reducible refine gate_store (t := 3) (p := 30) rfl ?_); refine store_event (t := 3) (p := 30) (v := ?vo_w14) (w1 := (w12.setCell ⟨go5, (x5_1 : Int).toNat * 3 + 2, none⟩ (.int .i64 (wrap64 ((wrap64 (x1_1 + 1)) + 1))))) ?hg ?ho ?hn ?hr ?_; (case ho => rfl); (case hg => rfl); (case hn => rfl); (case hr => first | (go_simp; done) | (go_simp; rfl)); intro w14 hw; have hg : w12.grownBy w14 (some go5) := (by rw [hw]; exact HP13.2); have hp_ : Kd.R k83 83 w14 w0.heap.size (fun k_ => (P0_ k_ ∨ w.heap.size ≤ k_)) (.slice (some ⟨go5, 0, none⟩) x0_1.length co8) y103 := (by rw [hw, Ny103.out]; exact HP13.1); clear HP13; have n0_ := Aside0.mk (hp_); have n1_ := Aside0.mk ((Q105 : Below w0.heap.size w0 w14)); have n2_ := Aside0.mk (Kept.of_grown (S := (fun k_ => P0_ k_)) hg Q17 (fun k_ e_ => (HO_0.out.1 k_ e_))); clear HO_0 HB HK; have HO_0 := n0_; have HB := n1_; have HK := n2_; clear n0_ n1_ n2_ hg hw hp_))
     go_roundg k1
     case measure => have := HK1.out; omega
     case rel => exact ⟨(y103), (wrap64 ((wrap64 ((wrap64 (x1_1 + 1)) + 1)) + 1)), (wrap64 (x5_1 + 1)), Q16, Q16, H', ⟨Q20⟩, ⟨rI HO_0⟩, ⟨Q17⟩, ⟨eI HB⟩⟩
    ·rw [if_neg c4] at H
     exact Q11
   ·rw [if_neg c3] at H
    (have c3b0 := decide_eq_false c3); clear c3; (simp only [Option.some.injEq, Prod.mk.injEq] at H); (obtain ⟨rfl, rfl⟩ := H); (obtain ⟨Ao15, co15, eo15⟩ := Kd.R_slice HO_0.out); subst eo15; (go_wp2); go_ret; (exact Q88)
/-! ### laws_markIntS: function 19 -/
def laws_markIntS.l0 : Nat → List Int → Int → Int → Option (Int × List Int)
 | 0, _, _, _ => none
 | k + 1, x0, x1, x5 => if x5 < (x0.length : Int) then (if 0 ≤ x5 then (laws_markIntS.l0 k (x0.set (x5 : Int).toNat x1) (wrap64 (x1 + 1)) (wrap64 (x5 + 1))) else (none)) else (some (x1, x0))
def laws_markIntS.f (k : Nat) (l0 : List Int) (a1 : Int) : Option (Int × List Int) := laws_markIntS.l0 k l0 a1 0
set_option maxHeartbeats 8000000 in
set_option maxRecDepth 100000 in
theorem laws_markIntS.calls (k : Nat) (P0_ : Nat → Prop) (u9000_ : Value) (l0 : List Int) (a1 : Int) (r1 : Int) (r2 : List Int) (w0 w : World) (hB : Below w0.heap.size w0 w) (ho0 : Kd.R (Kd.int .i64) 3 w w0.heap.size P0_ u9000_ l0) (h : laws_markIntS.f k l0 a1 = some (r1, r2)) :
  Calls Try.prog 19 #[u9000_, .int .i64 a1] w fun e w' => e = .returned (.int .i64 r1) ∧ Kd.R (Kd.int .i64) 3 w' w0.heap.size (fun k_ => (P0_ k_ ∨ w.heap.size ≤ k_)) u9000_ r2 ∧ Below w0.heap.size w0 w' ∧ Kept w w' (fun k_ => P0_ k_) := by
 (have HO0 := Aside0.mk (show Kd.R (Kd.int .i64) 3 w w0.heap.size (fun k_ => (P0_ k_ ∨ w.heap.size ≤ k_)) u9000_ l0 from Kd.R_mono ho0 (fun k_ hk => (.inl hk)))); (have HK := Aside0.mk (Kept.refl w (fun k_ => P0_ k_))); (have HW0 := Aside0.mk hB.size); (have HB := Aside0.mk hB); clear hB; (unfold laws_markIntS.f at h); (have H := h); clear h; (have H' := Aside0.mk H); clear H; (go_enter Try.func19, Try.ntmps19); (go_wp2); (go_loopg [1, 5] k (fun kq v1 v5 w' => ∃ (x0_1 : List Int) (x1_1 : Int) (x5_1 : Int), v1 = .int .i64 x1_1 ∧ v5 = .int .i64 x5_1 ∧ Aside0 (laws_markIntS.l0 kq x0_1 x1_1 x5_1 = some (r1, r2)) ∧ Aside0 (kq ≤ k) ∧ Aside0 (Kd.R (Kd.int .i64) 3 w' w0.heap.size (fun k_ => (P0_ k_ ∨ w.heap.size ≤ k_)) u9000_ x0_1) ∧ Aside0 (Kept w w' (fun k_ => P0_ k_)) ∧ Aside0 (Below w0.heap.size w0 w')))
 case atStart => exact Q103
 case round =>
  (clear H'); (try clear c1); (try clear p2); (obtain ⟨x0_1, x1_1, x5_1, rfl, rfl, HA, HK1, HO_0, HK, HB⟩ := hrel)
  cases gk with
  | zero => exact absurd HA.out (by simp [laws_markIntS.l0])
  | succ k1 =>
   (have H := HA.out); clear HA; (simp only [laws_markIntS.l0] at H); (by_cases c3 : x5_1 < (x0_1.length : Int))
   ·rw [if_pos c3] at H
    (have c3b0 := decide_eq_true c3); clear c3; (by_cases c4 : 0 ≤ x5_1)
    ·rw [if_pos c4] at H
     (have c4b0 := decide_eq_true c4); clear c4; (obtain ⟨y101, hy101⟩ : ∃ y_ : List Int, y_ = (x0_1.set (x5_1 : Int).toNat x1_1) := ⟨_, rfl⟩); (replace H : (laws_markIntS.l0 k1 y101 (wrap64 (x1_1 + 1)) (wrap64 (x5_1 + 1))) = some (r1, r2) := Q59); (have Ny101 := Aside0.mk hy101); clear hy101; (have H' := Aside0.mk H); clear H; (obtain ⟨Ao6, co6, eo6⟩ := Kd.R_slice HO_0.out); subst eo6; (have p5 : 0 ≤ (x5_1 : Int) := odt); (have q5 : (x5_1 : Int) < ((x0_1.length : Int) : Int) := odt); (obtain ⟨go5, co5, eo5, gb5, gl5, cl5, HG5⟩ := Kd.R_form HO_0.out (by omega)); ((first | cases eo5 | (injection eo5 with ea_ en_ ec_; (first | subst ea_ | (injection ea_ with ea_; subst ea_)); subst ec_; clear en_))); (have GB5 := Aside0.mk gb5); (have GG5 := Aside0.mk HG5); clear gb5 gl5 HG5; (have HMgo5 := Aside0.mk (show (P0_ go5 ∨ w.heap.size ≤ go5) from (HO_0.out.1 _ rfl))); (obtain ⟨hx5_0, hf5_0⟩ := Kd.R_celln 0 HO_0.out (x5_1 : Int) p5 q5); (replace p5 := eq_true p5); (replace q5 := eq_true q5); (have HP7 := Kd.R_putg HO_0.out (x5_1 : Int) x1_1); (go_wp2_with (first | ((with_reducible refine gate_store (t := 3) (p := 15) rfl ?_); refine store_event (t := 3) (p := 15) (v := ?vo_w8) (w1 := (wr.setCell ⟨go5, (x5_1 : Int).toNat, none⟩ (.int .i64 x1_1))) ?hg ?ho ?hn ?hr ?_; (case ho => rfl); (case hg => rfl); (case hn => rfl); (case hr => first | (go_simp; done) | (go_simp; rfl)); intro w8 hw; have hg : wr.grownBy w8 (some go5) := (by rw [hw]; exact HP7.2); have hp_ : Kd.R (Kd.int .i64) 3 w8 w0.heap.size (fun k_ => (P0_ k_ ∨ w.heap.size ≤ k_)) (.slice (some ⟨go5, 0, none⟩) x0_1.length co6) y101 := (by rw [hw, Ny101.out]; exact HP7.1); clear HP7; have n0_ := Aside0.mk (hp_); have n1_ := Aside0.mk ((Q105 : Below w0.heap.size w0 w8)); have n2_ := Aside0.mk (Kept.of_grown (S := (fun k_ => P0_ k_)) hg Q17 (fun k_ e_ => (HO_0.out.1 k_ e_))); clear HO_0 HB HK; have HO_0 := n0_; have HB := n1_; have HK := n2_; clear n0_ n1_ n2_ hg hw hp_))); go_roundg k1
     case measure => have := HK1.out; omega
     case rel => exact ⟨(y101), (wrap64 (x1_1 + 1)), (wrap64 (x5_1 + 1)), Q16, Q16, H', ⟨Q20⟩, ⟨rI HO_0⟩, ⟨Q17⟩, ⟨eI HB⟩⟩
    ·rw [if_neg c4] at H
     exact Q11
   ·rw [if_neg c3] at H
    (have c3b0 := decide_eq_false c3); clear c3; (simp only [Option.some.injEq, Prod.mk.injEq] at H); (obtain ⟨rfl, rfl⟩ := H); (obtain ⟨Ao9, co9, eo9⟩ := Kd.R_slice HO_0.out); subst eo9; (go_wp2); go_ret; (exact Q88)
end Go.Proofs.Ytdbhelhoaciodaa.X
set_option linter.unusedVariables false
set_option linter.unusedSimpArgs false
namespace Go.Proofs.Ytdbhelhoaciodaa.X
open Go.RowKit Go.Proofs.YtdbhelhoaciodaaW.PrintWords
section
variable {α : Type} {d : Kd α} {e base n cap g m : Nat} {ok : Nat → Prop} {W : World} {xs : List α} {x x' z : α} {i : Int}
theorem S_at (h : Kd.S d e W base ok (.slice (some ⟨g, 0, none⟩) n cap) (xs.set i.toNat x)) (h0 : 0 ≤ i) (h1 : i < xs.length) (hs : d.sz = m) :
  ∃ (oki : Nat → Prop) (c : List Value), c.length = m ∧ d.M W base oki x c ∧ (∀ j u, c[j]? = some u → W.cell? ⟨g, i.toNat * m + j, none⟩ = some u) ∧ (∀ j, W.frozen? ⟨g, i.toNat * m + j, none⟩ = false) ∧ (∀ k, oki k → ok k ∧ k ≠ g) ∧ Kd.H d e W base ok (.slice (some ⟨g, 0, none⟩) n cap) (xs.set i.toNat x) i oki c := by
 subst hs
 have hn := (Kd.R_reads' (Kd.S_R h)).1
 rw [List.length_set] at hn
 obtain ⟨oki, c, a, b, c1, d1, e1, f1⟩ := Kd.S_elem h x i h0 (by omega)
 have hx : (xs.set i.toNat x).getD i.toNat x = x := by rw [List.getD_eq_getElem?_getD, List.getElem?_set_self (by omega)]; rfl
 rw [hx] at b
 exact ⟨oki, c, a, b, c1, d1, e1, f1⟩
theorem S_fld (h : Kd.S d e W base ok (.slice (some ⟨g, 0, none⟩) n cap) (xs.set i.toNat x)) (h0 : 0 ≤ i) (h1 : i < xs.length) (hs : d.sz = m) (j : Nat) (hj : j + 1 ≤ m) (x' : α) (u : Value)
  (hM : ∀ (oki : Nat → Prop) (c : List Value), d.M W base oki x c → d.M W base oki x' (c.take j ++ [u] ++ c.drop (j + 1))) :
  Kd.S d e (W.setCell ⟨g, i.toNat * m + j, none⟩ u) base ok (.slice (some ⟨g, 0, none⟩) n cap) (xs.set i.toNat x') ∧ W.grownBy (W.setCell ⟨g, i.toNat * m + j, none⟩ u) (some g) := by
 subst hs
 have hn := (Kd.R_reads' (Kd.S_R h)).1
 rw [List.length_set] at hn
 obtain ⟨oki, c, hcl, hMc, hcc, hfr, hoki, hH⟩ := S_at h h0 h1 rfl
 have h2 := Kd.S_seg0 hH h0 (by omega) (seg := [u]) (j := j) hj (hM oki c hMc) (fun _ hk => hk)
 rw [List.set_set] at h2
 exact h2
theorem S_in (h : Kd.S d e W base ok (.slice (some ⟨g, 0, none⟩) n cap) (xs.set i.toNat x)) (h0 : 0 ≤ i) (h1 : i < xs.length) (hs : d.sz = m) (hnew : ∀ k, W.heap.size ≤ k → ok k) :
  ∃ (oki : Nat → Prop) (c : List Value), c.length = m ∧ d.M W base oki x c ∧ (∀ j u, c[j]? = some u → W.cell? ⟨g, i.toNat * m + j, none⟩ = some u) ∧ (∀ k, oki k → ok k ∧ k ≠ g) ∧
   ∀ (w1 : World) (x' : α), Kept W w1 oki → d.M w1 base (fun k => oki k ∨ W.heap.size ≤ k) x' c → Kd.S d e w1 base ok (.slice (some ⟨g, 0, none⟩) n cap) (xs.set i.toNat x') := by
 obtain ⟨oki, c, hcl, hMc, hcc, hfr, hoki, hH⟩ := S_at h h0 h1 hs
 refine ⟨oki, c, hcl, hMc, hcc, hoki, fun w1 x' hk hM => ?_⟩
 have h2 := Kd.H_step (w1 := w1) (Kd.H_widen hH) (fun k ho hn hlt => hk.2 k hlt (fun hk2 => hn (.inl hk2)))
 have h3 := Kd.H_back h2 hM (fun k hk2 => hk2.elim .inl (fun hle => .inr ⟨hnew k hle, hle⟩))
 rw [List.set_set] at h3
 exact h3
theorem set_getD (xs : List α) (i : Nat) (z : α) (h : i < xs.length) : xs.set i (xs.getD i z) = xs := by
 rw [List.getD_eq_getElem?_getD, List.getElem?_eq_getElem h]
 exact List.set_getElem_self h
end
end Go.Proofs.Ytdbhelhoaciodaa.X
namespace Go.Proofs.Ytdbhelhoaciodaa.X
open Go.RowKit Go.Proofs.YtdbhelhoaciodaaW.PrintWords Go.Proofs.YtdbhelhoaciodaaW.PrintLast Go.Proofs.YtdbhelhoaciodaaW.PrintMore Go.Proofs.Ytdbhelhoaciodaa.E
attribute [local go_sem] max2_int min2_int max_two min_two max_three min_three max_four min_four
set_option linter.unusedVariables false
set_option linter.unusedSimpArgs false
attribute [-simp] ByteArray.size_append ByteArray.size_extract
attribute [-go_sem] ByteArray.size_append'
/-! ### laws_markArchiveBoxS: function 18 -/
def laws_markArchiveBoxS.l0 : Nat → List S80 → Int → Int → Option (Int × List S80)
 | 0, _, _, _ => none
 | k + 1, x0, x1, x5 => if x5 < (x0.length : Int) then (if 0 ≤ x5 then ((laws_markIntS.f k ((rd_T80 x0 x5).f1) (wrap64 (x1 + 1))).bind fun t1 => laws_markArchiveBoxS.l0 k (x0.set x5.toNat (⟨x1, t1.2⟩ : S80)) (t1.1) (wrap64 (x5 + 1))) else none) else some (x1, x0)
def laws_markArchiveBoxS.f (k : Nat) (l0 : List S80) (a1 : Int) : Option (Int × List S80) := laws_markArchiveBoxS.l0 k l0 a1 0
set_option maxHeartbeats 8000000 in
set_option maxRecDepth 100000 in
theorem laws_markArchiveBoxS.calls (k : Nat) (P0_ : Nat → Prop) (u9000_ : Value) (l0 : List (S80)) (a1 : Int) (r1 : Int) (r2 : List (S80)) (w0 w : World) (hB : Below w0.heap.size w0 w) (ho0 : Kd.S k80 80 w w0.heap.size P0_ u9000_ l0) (h : laws_markArchiveBoxS.f k l0 a1 = some (r1, r2)) :
  Calls Try.prog 18 #[u9000_, .int .i64 a1] w fun e w' => e = .returned (.int .i64 r1) ∧ Kd.S k80 80 w' w0.heap.size (fun k_ => (P0_ k_ ∨ w.heap.size ≤ k_)) u9000_ r2 ∧ Below w0.heap.size w0 w' ∧ Kept w w' (fun k_ => P0_ k_) := by
 (have HO := Aside0.mk (Kd.S_mono (ok' := (fun k_ => (P0_ k_ ∨ w.heap.size ≤ k_))) ho0 (fun k_ hk => .inl hk))); (have HK := Aside0.mk (Kept.refl w (fun k_ => P0_ k_))); (have HP0 := Aside0.mk ho0); (have HB := Aside0.mk hB); (have H := Aside0.mk h); clear h hB ho0; (obtain ⟨A_, c_, e_⟩ := Kd.R_slice (Kd.S_R HO.out)); subst e_; (have HN := Aside0.mk (rfl : l0.length = l0.length)); (go_enter Try.func18, Try.ntmps18); (go_wp2); (go_loopg [1, 5] k (fun kq v1 v5 w' => ∃ (x0 : List (S80)) (x1 x5 : Int), v1 = .int .i64 x1 ∧ v5 = .int .i64 x5 ∧ Aside0 (laws_markArchiveBoxS.l0 kq x0 x1 x5 = some (r1, r2)) ∧ Aside0 (kq ≤ k) ∧ Aside0 (x0.length = l0.length) ∧ Aside0 (Kd.S k80 80 w' w0.heap.size (fun k_ => (P0_ k_ ∨ w.heap.size ≤ k_)) (.slice A_ l0.length c_) x0) ∧ Aside0 (Kept w w' (fun k_ => P0_ k_)) ∧ Aside0 (Below w0.heap.size w0 w')))
 case atStart => exact ⟨l0, a1, 0, rfl, rfl, H, ⟨Nat.le_refl _⟩, ⟨rfl⟩, HO, HK, HB⟩
 case round =>
  obtain ⟨x0, x1, x5, rfl, rfl, HA, HK1, HN1, HO, HK, HB⟩ := hrel
  cases gk with
  | zero => exact absurd HA.out (by simp [laws_markArchiveBoxS.l0])
  | succ k1 =>
   (have H := HA.out); clear HA; (simp only [laws_markArchiveBoxS.l0] at H); (have hn := HN1.out); (by_cases c3 : x5 < (x0.length : Int))
   ·rw [if_pos c3] at H
    by_cases c5 : 0 ≤ x5
    ·rw [if_pos c5] at H
     (obtain ⟨⟨t1a, t1b⟩, A0, H⟩ := obS H); (have H' := Aside0.mk H); clear H
     have hA : ∃ g, A_ = some ⟨g, 0, none⟩ := by
      (obtain ⟨g, cap, e, _⟩ := Kd.R_form (Kd.S_R HO.out) (by omega)); (injection e with e _ _); (exact ⟨g, e⟩)
     (obtain ⟨g, rfl⟩ := hA); (have HG := Aside0.mk (show P0_ g from HP0.out.elim (fun f hf => hf.1 g (by simp [Value.ownBlock])))); (have HGW := Aside0.mk (Kd.S_base HO.out g (by simp [Value.ownBlock]))); (have hln : (l0.length : Int) = (x0.length : Int) := by omega); (have HI := Aside0.mk (show 0 ≤ x5 ∧ x5 < x0.length ∧ x5 < l0.length from ⟨c5, c3, by omega⟩)); (have HNW := Aside0.mk HK.out.1); (have HX := Aside0.mk (show Kd.S k80 80 wr w0.heap.size (fun k_ => (P0_ k_ ∨ w.heap.size ≤ k_)) (.slice (some ⟨g, 0, none⟩) l0.length c_) (x0.set x5.toNat (rd_T80 x0 x5)) from by unfold rd_T80; rw [set_getD _ _ _ (by omega)]; exact HO.out)); (have p1 : decide (x5 < (l0.length : Int)) = true := decide_eq_true (by omega)); (have p2 : (0 ≤ x5) = True := eq_true c5); (have p3 : (x5 < (l0.length : Int)) = True := eq_true (by omega)); clear c3 c5 hn hln HO; (go_wp2_with (first | ((with_reducible refine gate_store (t := 3) (p := 16) rfl ?_); have hx := S_at HX.out HI.out.1 HI.out.2.1 (show (k80).sz = 2 from rfl); obtain ⟨okj, cj, _, hMj, hcj, hfj, _⟩ := hx; obtain ⟨v4, ec, _⟩ := k80_openM hMj; subst ec; have hx1 := hcj 0 _ rfl; have hf1 := hfj 0; clear hMj hcj hfj; rw [Nat.add_zero] at hx1 hf1; refine store_event (t := 3) (p := 16) (v := ?vo16) (w1 := wr.setCell ⟨g, x5.toNat * 2, none⟩ (.int .i64 (x1))) ?hg ?ho ?hn ?hr ?_; (case ho => rfl); (case hg => rfl); (case hn => rfl); (case hr => first | (go_simp; done) | (go_simp; rfl)); intro w1_ hw; clear hx1 hf1; have HP := S_fld HX.out HI.out.1 HI.out.2.1 (show (k80).sz = 2 from rfl) 0 (by decide) (⟨x1, (rd_T80 x0 x5).f1⟩ : S80) (.int .i64 (x1)) (fun oki c hM => by obtain ⟨v4, rfl, hr⟩ := k80_openM hM; exact k80_mkM _ _ _ (⟨x1, (rd_T80 x0 x5).f1⟩ : S80) hr); have n0_ := Aside0.mk (show Kd.S k80 80 w1_ w0.heap.size (fun k_ => (P0_ k_ ∨ w.heap.size ≤ k_)) (.slice (some ⟨g, 0, none⟩) l0.length c_) (x0.set x5.toNat (⟨x1, (rd_T80 x0 x5).f1⟩ : S80)) from by rw [hw]; exact HP.1); have n1_ := Aside0.mk (show Kept w w1_ (fun k_ => P0_ k_) from by rw [hw]; exact Kept.of_grown HP.2 HK.out (fun k_ hk => by injection hk with hk; subst hk; exact Or.inl HG.out)); have n2_ := Aside0.mk (show Below w0.heap.size w0 w1_ from by rw [hw]; exact below_set HB.out HGW.out); clear HX HK HB hw HP; have HX := n0_; have HK := n1_; have HB := n2_; clear n0_ n1_ n2_) | ((with_reducible refine gate_dst (N := 23) rfl ?_); obtain ⟨oki, ce, hcl, hM, hcc, hoki, hback⟩ := S_in HX.out HI.out.1 HI.out.2.1 (show (k80).sz = 2 from rfl) (fun k_ hk => Or.inr (Nat.le_trans HK.out.1 hk)); obtain ⟨v4, ec, hr4⟩ := k80_openM hM; subst ec; obtain ⟨A4, c4, e4⟩ := Kd.R_slice hr4; subst e4; have hx4 := hcc 1 _ rfl; have HR4 := Aside0.mk hr4; have HBK := Aside0.mk (@hback); have HOK := Aside0.mk hoki; clear hcl hM hcc hback hoki hr4; refine Go.wpList_plain rfl fun K hK => ?_; go_simp; refine hK _ _ ?_) | ((with_reducible refine gate_callee (f := 19) rfl ?_); refine gL (some 25) Try.func19 #[.slice A4 ((rd_T80 x0 x5).f1).length c4, .int .i64 (wrap64 (x1 + 1))] ?_; (with_reducible refine (laws_markIntS.calls k1 oki _ _ (wrap64 (x1 + 1)) t1a t1b w0 _ HB.out HR4.out A0.out).mono ?_); rintro e w2_ ⟨rfl, hr5, hb, hk⟩; refine ⟨_, rfl, ?_⟩; have n0_ := Aside0.mk (HBK.out w2_ (⟨x1, t1b⟩ : S80) hk (k80_mkM _ _ _ (⟨x1, t1b⟩ : S80) hr5)); have n1_ := Aside0.mk (HK.out.then_ hk (fun k_ h_ => (HOK.out k_ h_).1)); have n2_ := Aside0.mk hb; clear HX HK HB HBK HOK HR4 hb hk hr5 hx4; have HX := n0_; have HK := n1_; have HB := n2_; clear n0_ n1_ n2_))); go_roundg k1
     case measure => have := HK1.out; omega
     case rel => exact ⟨_, _, _, rfl, rfl, H', ⟨Q20⟩, ⟨by rw [List.length_set]; exact HN1.out⟩, HX, HK, HB⟩
    ·rw [if_neg c5] at H
     exact Q11
   ·rw [if_neg c3] at H
    (simp only [Option.some.injEq, Prod.mk.injEq] at H); (obtain ⟨rfl, rfl⟩ := H); (have p1 : decide (x5 < (l0.length : Int)) = false := decide_eq_false (by omega)); clear c3 hn; (go_wp2); go_ret; (exact ⟨rfl, HO.out, HB.out, HK.out⟩)
end Go.Proofs.Ytdbhelhoaciodaa.X
namespace Go.Proofs.Ytdbhelhoaciodaa.X
open Go.RowKit Go.Proofs.YtdbhelhoaciodaaW.PrintWords Go.Proofs.YtdbhelhoaciodaaW.PrintLast Go.Proofs.YtdbhelhoaciodaaW.PrintMore
attribute [local go_sem] max2_int min2_int max_two min_two max_three min_three max_four min_four
set_option linter.unusedVariables false
set_option linter.unusedSimpArgs false
attribute [-simp] ByteArray.size_append ByteArray.size_extract
attribute [-go_sem] ByteArray.size_append'
/-! ### laws_heldIntS: function 20 -/
def laws_heldIntS.l0 : Nat → List Int → Int → Int → Option (Int)
 | 0, _, _, _ => none
 | k + 1, x0, x1, x5 => if x5 < (x0.length : Int) then (if 0 ≤ x5 then (if (rd x0 x5) = x1 then (laws_heldIntS.l0 k x0 (wrap64 (x1 + 1)) (wrap64 (x5 + 1))) else (some (-1))) else (none)) else (some x1)
def laws_heldIntS.f (k : Nat) (l0 : List Int) (a1 : Int) : Option (Int) := laws_heldIntS.l0 k l0 a1 0
set_option maxHeartbeats 8000000 in
set_option maxRecDepth 100000 in
theorem laws_heldIntS.calls (k : Nat) (A0 : Option Addr) (c0 : Nat) (l0 : List Int) (a1 : Int) (r : Int) (w : World) (hr0 : Kd.C (Kd.int .i64) w A0 l0.length l0) (hc0 : l0.length ≤ c0) (h : laws_heldIntS.f k l0 a1 = some r) :
  Calls Try.prog 20 #[.slice A0 l0.length c0, .int .i64 a1] w fun e w' => e = .returned (.int .i64 r) ∧ Drawn0 w w' := by
 (have HR0 := Aside0.mk hr0); (have HC0 := Aside0.mk hc0); clear hr0 hc0; (unfold laws_heldIntS.f at h); (have H := h); clear h; (have H' := Aside0.mk H); clear H; (go_enter Try.func20, Try.ntmps20); (go_wp2); (go_loopg [1, 5] k (fun kq v1 v5 w' => ∃ (x1_1 : Int) (x5_1 : Int), v1 = .int .i64 x1_1 ∧ v5 = .int .i64 x5_1 ∧ Aside0 (laws_heldIntS.l0 kq l0 x1_1 x5_1 = some r) ∧ Aside0 (kq ≤ k) ∧ Drawn0 w w'))
 case atStart => exact ⟨(a1), (0), Q16, Q16, H', ⟨Nat.le_refl _⟩, Q82⟩
 case round =>
  (clear H'); (try clear c2); (try clear p2); (obtain ⟨x1_1, x5_1, rfl, rfl, HA, HK1, ⟨m1, rfl⟩⟩ := hrel)
  cases gk with
  | zero => exact absurd HA.out (by simp [laws_heldIntS.l0])
  | succ k1 =>
   (have H := HA.out); clear HA; (simp only [laws_heldIntS.l0] at H); (by_cases c3 : x5_1 < (l0.length : Int))
   ·rw [if_pos c3] at H
    (have c3b0 := decide_eq_true c3); clear c3; (by_cases c4 : 0 ≤ x5_1)
    ·rw [if_pos c4] at H
     (have c4b0 := decide_eq_true c4); clear c4; (by_cases c5 : (rd l0 x5_1) = x1_1)
     ·rw [if_pos c5] at H
      (have c5b0 : ((rd l0 x5_1) == x1_1) = true := beq_iff_eq.mpr c5); (have c5b1 : ((rd l0 x5_1) != x1_1) = false := bne_eq_false_iff_eq.mpr c5); clear c5; (have H' := Aside0.mk H); clear H; (have p101 : 0 ≤ (x5_1 : Int) := odt); (have q101 : x5_1 < (l0.length : Int) := odt); (obtain ⟨ad101, e101, hx101_0⟩ := Kd.at_int HR0.out x5_1 p101 q101); (cases e101); (replace p101 := eq_true p101); (replace q101 := eq_true q101); (go_wp2); go_roundg k1
      case measure => have := HK1.out; omega
      case rel => exact ⟨(wrap64 (x1_1 + 1)), (wrap64 (x5_1 + 1)), Q16, Q16, H', ⟨Q20⟩, Q82⟩
     ·rw [if_neg c5] at H
      (have c5b0 : ((rd l0 x5_1) == x1_1) = false := beq_eq_false_iff_ne.mpr c5); (have c5b1 : ((rd l0 x5_1) != x1_1) = true := bne_iff_ne.mpr c5); (obtain rfl := Option.some.inj H); (have p101 : 0 ≤ (x5_1 : Int) := odt); (have q101 : x5_1 < (l0.length : Int) := odt); (obtain ⟨ad101, e101, hx101_0⟩ := Kd.at_int HR0.out x5_1 p101 q101); (cases e101); (replace p101 := eq_true p101); (replace q101 := eq_true q101); (go_wp2); go_ret; (exact Q0)
    ·rw [if_neg c4] at H
     exact Q11
   ·rw [if_neg c3] at H
    (have c3b0 := decide_eq_false c3); clear c3; (obtain rfl := Option.some.inj H); (go_wp2); go_ret; (exact Q0)
/-! ### laws_szItemS: function 8 -/
def laws_szItemS.f (l0 : List (S85)) (a1 : Int) : Option (Int) := if (wrap64 (a1 - (l0.length : Int))) < 0 then (some (-1)) else (some (wrap64 (a1 - (l0.length : Int))))
set_option maxHeartbeats 8000000 in
set_option maxRecDepth 100000 in
theorem laws_szItemS.calls (A0 : Option Addr) (c0 : Nat) (l0 : List (S85)) (a1 : Int) (r : Int) (w : World) (hr0 : Kd.C k85 w A0 l0.length l0) (hc0 : l0.length ≤ c0) (h : laws_szItemS.f l0 a1 = some r) :
  Calls Try.prog 8 #[.slice A0 l0.length c0, .int .i64 a1] w fun e w' => e = .returned (.int .i64 r) ∧ Drawn0 w w' := by
 (have HR0 := Aside0.mk hr0); (have HC0 := Aside0.mk hc0); clear hr0 hc0; (unfold laws_szItemS.f at h); (have H := h); clear h; (by_cases c3 : (wrap64 (a1 - (l0.length : Int))) < 0); (· (rw [if_pos c3] at H); (have c3b0 := decide_eq_true c3); clear c3; (obtain rfl := Option.some.inj H); (go_enter Try.func8, Try.ntmps8); (go_wp2); go_ret; (exact Q0)); (· (rw [if_neg c3] at H); (have c3b0 := decide_eq_false c3); clear c3; (obtain rfl := Option.some.inj H); (go_enter Try.func8, Try.ntmps8); (go_wp2); go_ret; (exact Q0))
/-! ### laws_szIntS: function 81 -/
def laws_szIntS.f (l0 : List Int) (a1 : Int) : Option (Int) := if (wrap64 (a1 - (l0.length : Int))) < 0 then (some (-1)) else (some (wrap64 (a1 - (l0.length : Int))))
set_option maxHeartbeats 8000000 in
set_option maxRecDepth 100000 in
theorem laws_szIntS.calls (A0 : Option Addr) (c0 : Nat) (l0 : List Int) (a1 : Int) (r : Int) (w : World) (hr0 : Kd.C (Kd.int .i64) w A0 l0.length l0) (hc0 : l0.length ≤ c0) (h : laws_szIntS.f l0 a1 = some r) :
  Calls Try.prog 81 #[.slice A0 l0.length c0, .int .i64 a1] w fun e w' => e = .returned (.int .i64 r) ∧ Drawn0 w w' := by
 (have HR0 := Aside0.mk hr0); (have HC0 := Aside0.mk hc0); clear hr0 hc0; (unfold laws_szIntS.f at h); (have H := h); clear h; (by_cases c3 : (wrap64 (a1 - (l0.length : Int))) < 0); (· (rw [if_pos c3] at H); (have c3b0 := decide_eq_true c3); clear c3; (obtain rfl := Option.some.inj H); (go_enter Try.func81, Try.ntmps81); (go_wp2); go_ret; (exact Q0)); (· (rw [if_neg c3] at H); (have c3b0 := decide_eq_false c3); clear c3; (obtain rfl := Option.some.inj H); (go_enter Try.func81, Try.ntmps81); (go_wp2); go_ret; (exact Q0))
/-! ### laws_szArchiveBox: function 44 -/
def laws_szArchiveBox.f (a0_0 : Int) (l0_1 : List Int) (a1 : Int) : Option (Int) := (laws_szIntS.f l0_1 a1).bind fun t102 => (if t102 < 0 then (some (-1)) else (some t102))
set_option maxHeartbeats 8000000 in
set_option maxRecDepth 100000 in
theorem laws_szArchiveBox.calls (a0_0 : Int) (A0_1 : Option Addr) (c0_1 : Nat) (l0_1 : List Int) (a1 : Int) (r : Int) (w : World) (hr0_1 : Kd.C (Kd.int .i64) w A0_1 l0_1.length l0_1) (hc0_1 : l0_1.length ≤ c0_1) (h : laws_szArchiveBox.f a0_0 l0_1 a1 = some r) :
  Calls Try.prog 44 #[.agg #[.int .i64 a0_0, .slice A0_1 l0_1.length c0_1], .int .i64 a1] w fun e w' => e = .returned (.int .i64 r) ∧ Below w.heap.size w w' := by
 (have hu78 := Try.underlying78); (have HR0_1 := Aside0.mk hr0_1); (have HC0_1 := Aside0.mk hc0_1); clear hr0_1 hc0_1; (have HB := Aside0.mk (Below.refl w.heap.size w)); (unfold laws_szArchiveBox.f at h); (have H := h); clear h; (replace H := obS H); (obtain ⟨t102, A3, H⟩ := H); (by_cases c4 : t102 < 0); (· (rw [if_pos c4] at H); (have c4b0 := decide_eq_true c4); clear c4; (obtain rfl := Option.some.inj H); (go_enter Try.func44, Try.ntmps44); (go_wp2_with (first | ((with_reducible refine gate_dst (N := 2) rfl ?_); refine box_event ?hg (N := 2) ?hd (cs := #[.int .i64 a0_0, .slice A0_1 l0_1.length c0_1]) (t := 78) ?hr ?_; (case hd => rfl); (case hg => rfl); (case hr => first | (go_simp; done) | (go_simp; rfl)); intro gb101 hg w5 hbox hb; have hB_ := zI hb HB; have n0_ := Aside0.mk (below_step hB_ hb); have n1_ := Aside0.mk (hbox); have n2_ := Aside0.mk (bx0 hg hB_); have n3_ := n2_; clear HB; have HB := n0_; have BK101 := n1_; have GW101 := n2_; have GE101 := n3_; clear n0_ n1_ n2_ n3_ hB_ hb hbox hg; have hcz6_0 := cz BK101.out 0; have hcz6_1 := cz BK101.out 1; have hfz6_0 := blk_frozen BK101.out 0; have hfz6_1 := blk_frozen BK101.out 1) | ((with_reducible refine gate_callee (f := 81) rfl ?_); refine gL (some 8) Try.func81 #[.slice A0_1 l0_1.length c0_1, .int .i64 a1] ?_; (with_reducible refine (laws_szIntS.calls _ _ l0_1 a1 t102 _ ?side1 ?side2 A3.out).mono ?_); (case side1 => exact Q101); (case side2 => exact HC0_1.out); rintro e w' ⟨rfl, ⟨nd, rfl⟩⟩; refine ⟨_, rfl, ?_⟩))); go_ret; (exact Q13)); (· (rw [if_neg c4] at H); (have c4b0 := decide_eq_false c4); clear c4; (obtain rfl := Option.some.inj H); (go_enter Try.func44, Try.ntmps44); (go_wp2_with (first | ((with_reducible refine gate_dst (N := 2) rfl ?_); refine box_event ?hg (N := 2) ?hd (cs := #[.int .i64 a0_0, .slice A0_1 l0_1.length c0_1]) (t := 78) ?hr ?_; (case hd => rfl); (case hg => rfl); (case hr => first | (go_simp; done) | (go_simp; rfl)); intro gb101 hg w7 hbox hb; have hB_ := zI hb HB; have n0_ := Aside0.mk (below_step hB_ hb); have n1_ := Aside0.mk (hbox); have n2_ := Aside0.mk (bx0 hg hB_); have n3_ := n2_; clear HB; have HB := n0_; have BK101 := n1_; have GW101 := n2_; have GE101 := n3_; clear n0_ n1_ n2_ n3_ hB_ hb hbox hg; have hcz8_0 := cz BK101.out 0; have hcz8_1 := cz BK101.out 1; have hfz8_0 := blk_frozen BK101.out 0; have hfz8_1 := blk_frozen BK101.out 1) | ((with_reducible refine gate_callee (f := 81) rfl ?_); refine gL (some 8) Try.func81 #[.slice A0_1 l0_1.length c0_1, .int .i64 a1] ?_; (with_reducible refine (laws_szIntS.calls _ _ l0_1 a1 t102 _ ?side1 ?side2 A3.out).mono ?_); (case side1 => exact Q101); (case side2 => exact HC0_1.out); rintro e w' ⟨rfl, ⟨nd, rfl⟩⟩; refine ⟨_, rfl, ?_⟩))); go_ret; (exact Q13))
/-! ### laws_szArchiveBoxS: function 9 -/
def laws_szArchiveBoxS.l0 : Nat → List (S78) → Int → Int → Option (Int)
 | 0, _, _, _ => none
 | k + 1, x0, x1, x5 => if x5 < (x0.length : Int) then (if 0 ≤ x5 then ((laws_szArchiveBox.f ((rd_T78 x0 x5).f0) ((rd_T78 x0 x5).f1) x1).bind fun t102 => (if t102 < 0 then (some (-1)) else (laws_szArchiveBoxS.l0 k x0 t102 (wrap64 (x5 + 1))))) else (none)) else (some x1)
def laws_szArchiveBoxS.f (k : Nat) (l0 : List (S78)) (a1 : Int) : Option (Int) := if (wrap64 (a1 - (l0.length : Int))) < 0 then (some (-1)) else (laws_szArchiveBoxS.l0 k l0 (wrap64 (a1 - (l0.length : Int))) 0)
set_option maxHeartbeats 8000000 in
set_option maxRecDepth 100000 in
theorem laws_szArchiveBoxS.calls (k : Nat) (A0 : Option Addr) (c0 : Nat) (l0 : List (S78)) (a1 : Int) (r : Int) (w : World) (hr0 : Kd.C k78 w A0 l0.length l0) (hc0 : l0.length ≤ c0) (h : laws_szArchiveBoxS.f k l0 a1 = some r) :
  Calls Try.prog 9 #[.slice A0 l0.length c0, .int .i64 a1] w fun e w' => e = .returned (.int .i64 r) ∧ Below w.heap.size w w' := by
 (have hu78 := Try.underlying78); (have HR0 := Aside0.mk hr0); (have HC0 := Aside0.mk hc0); clear hr0 hc0; (have HB := Aside0.mk (Below.refl w.heap.size w)); (unfold laws_szArchiveBoxS.f at h); (have H := h); clear h; (by_cases c3 : (wrap64 (a1 - (l0.length : Int))) < 0); (· (rw [if_pos c3] at H); (have c3b0 := decide_eq_true c3); clear c3; (obtain rfl := Option.some.inj H); (go_enter Try.func9, Try.ntmps9); (go_wp2); go_ret; (exact Q13))
 ·rw [if_neg c3] at H
  (have c3b0 := decide_eq_false c3); clear c3; (have H' := Aside0.mk H); clear H; (go_enter Try.func9, Try.ntmps9); (go_wp2); (go_loopg [1, 5] k (fun kq v1 v5 w' => ∃ (x1_1 : Int) (x5_1 : Int), v1 = .int .i64 x1_1 ∧ v5 = .int .i64 x5_1 ∧ Aside0 (laws_szArchiveBoxS.l0 kq l0 x1_1 x5_1 = some r) ∧ Aside0 (kq ≤ k) ∧ Aside0 (Below w.heap.size w w')))
  case atStart => exact ⟨(wrap64 (a1 - (l0.length : Int))), (0), Q16, Q16, H', ⟨Nat.le_refl _⟩, ⟨eI HB⟩⟩
  case round =>
   (clear H'); (try clear p2); (try clear c3); (try clear c3b0); (obtain ⟨x1_1, x5_1, rfl, rfl, HA, HK1, HB⟩ := hrel)
   cases gk with
   | zero => exact absurd HA.out (by simp [laws_szArchiveBoxS.l0])
   | succ k1 =>
    (have H := HA.out); clear HA; (simp only [laws_szArchiveBoxS.l0] at H); (by_cases c4 : x5_1 < (l0.length : Int))
    ·rw [if_pos c4] at H
     (have c4b0 := decide_eq_true c4); clear c4; (by_cases c5 : 0 ≤ x5_1)
     ·rw [if_pos c5] at H
      (have c5b0 := decide_eq_true c5); clear c5; (replace H := obS H); (obtain ⟨t102, A6, H⟩ := H); (by_cases c7 : t102 < 0)
      ·rw [if_pos c7] at H
       (have c7b0 := decide_eq_true c7); clear c7; (obtain rfl := Option.some.inj H); (have p101 : 0 ≤ (x5_1 : Int) := odt); (have q101 : x5_1 < (l0.length : Int) := odt); (obtain ⟨ad101, A101_1, c101_1, e101, hx101_0, hx101_1, hl101_1, hi101_1⟩ := at_T78 HR0.out x5_1 p101 q101); (cases e101); (replace hx101_0 := hcI HB hx101_0); (replace hx101_1 := hcI HB hx101_1); (have HR101_1 := Aside0.mk hi101_1); (have HC101_1 := Aside0.mk hl101_1); clear hi101_1 hl101_1; (replace p101 := eq_true p101); (replace q101 := eq_true q101); (go_wp2_with (first | ((with_reducible refine gate_callee (f := 44) rfl ?_); refine gL (some 23) Try.func44 #[.agg #[.int .i64 ((rd_T78 l0 x5_1).f0), .slice A101_1 ((rd_T78 l0 x5_1).f1).length c101_1], .int .i64 x1_1] ?_; (with_reducible refine (laws_szArchiveBox.calls ((rd_T78 l0 x5_1).f0) _ _ ((rd_T78 l0 x5_1).f1) x1_1 t102 _ ?side1 ?side2 A6.out).mono ?_); (case side1 => exact Q102); (case side2 => exact Q58); rintro e w8 ⟨rfl, hb⟩; refine ⟨_, rfl, ?_⟩; have n0_ := Aside0.mk (sI hb HB); clear HB; have HB := n0_; clear n0_; (try clear hb); (try clear hb2); (try clear hk); (try clear hi)))); go_ret; (exact Q13)
      ·rw [if_neg c7] at H
       (have c7b0 := decide_eq_false c7); clear c7; (have H' := Aside0.mk H); clear H; (have p101 : 0 ≤ (x5_1 : Int) := odt); (have q101 : x5_1 < (l0.length : Int) := odt); (obtain ⟨ad101, A101_1, c101_1, e101, hx101_0, hx101_1, hl101_1, hi101_1⟩ := at_T78 HR0.out x5_1 p101 q101); (cases e101); (replace hx101_0 := hcI HB hx101_0); (replace hx101_1 := hcI HB hx101_1); (have HR101_1 := Aside0.mk hi101_1); (have HC101_1 := Aside0.mk hl101_1); clear hi101_1 hl101_1; (replace p101 := eq_true p101); (replace q101 := eq_true q101); (go_wp2_with (first | ((with_reducible refine gate_callee (f := 44) rfl ?_); refine gL (some 23) Try.func44 #[.agg #[.int .i64 ((rd_T78 l0 x5_1).f0), .slice A101_1 ((rd_T78 l0 x5_1).f1).length c101_1], .int .i64 x1_1] ?_; (with_reducible refine (laws_szArchiveBox.calls ((rd_T78 l0 x5_1).f0) _ _ ((rd_T78 l0 x5_1).f1) x1_1 t102 _ ?side1 ?side2 A6.out).mono ?_); (case side1 => exact Q102); (case side2 => exact Q58); rintro e w9 ⟨rfl, hb⟩; refine ⟨_, rfl, ?_⟩; have n0_ := Aside0.mk (sI hb HB); clear HB; have HB := n0_; clear n0_; (try clear hb); (try clear hb2); (try clear hk); (try clear hi)))); go_roundg k1
       case measure => have := HK1.out; omega
       case rel => exact ⟨(t102), (wrap64 (x5_1 + 1)), Q16, Q16, H', ⟨Q20⟩, ⟨eI HB⟩⟩
     ·rw [if_neg c5] at H
      exact Q11
    ·rw [if_neg c4] at H
     (have c4b0 := decide_eq_false c4); clear c4; (obtain rfl := Option.some.inj H); (go_wp2); go_ret; (exact Q13)
end Go.Proofs.Ytdbhelhoaciodaa.X
