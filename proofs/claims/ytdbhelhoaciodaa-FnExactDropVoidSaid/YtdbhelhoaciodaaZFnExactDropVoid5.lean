/- For all records, reports and void lists the law FnExactDropVoid answers true: the program's DropVoid gives back what the reference's gives back. No condition beyond what a reading tells.
This file (part 5 of 6) holds what the proof needs: plain functions with rounds and contracts written by programs of this work over the translation, and the lemmas. -/
import Derived.Test.YtdbhelhoaciodaaZFnExactDropVoid2
import Derived.Test.YtdbhelhoaciodaaZFnExactDropVoid4
import Derived.Lib.OwnBridge
import Derived.Sort.Grow
import Derived.Shelf.Abstract
namespace Go.Proofs.Ytdbhelhoaciodaa.X
open Go.RowKit Go.Proofs.YtdbhelhoaciodaaW.PrintWords Go.Proofs.YtdbhelhoaciodaaW.PrintLast Go.Proofs.YtdbhelhoaciodaaW.PrintMore
attribute [local go_sem] max2_int min2_int max_two min_two max_three min_three max_four min_four   -- for this text's walks alone
set_option linter.unusedVariables false
set_option linter.unusedSimpArgs false
attribute [-simp] ByteArray.size_append ByteArray.size_extract
attribute [-go_sem] ByteArray.size_append'

/-! ### impl_IsValidRecord: function 123 -/
mutual
def impl_IsValidRecord.j0 : Nat → Bool → List (S140) → List (S144) → Option (Bool)
 | 0, _, _, _ => none
 | k + 1, x16, x102000, x102001 => if x16 = true then (some false) else (impl_IsValidRecord.l0 k x102000 (x102000.length : Int) 0 x102000 x102001)
def impl_IsValidRecord.l0 : Nat → List (S140) → Int → Int → List (S140) → List (S144) → Option (Bool)
 | 0, _, _, _, _, _ => none
 | k + 1, x18, x19, x20, x102000, x102001 => if x20 < x19 then (if 0 ≤ x20 then (if x20 < (x18.length : Int) then ((impl_isNumber.f ((rd_T140 x18 x20).f0)).bind fun t104 => (if t104 = true then ((impl_isKind.f ((rd_T140 x18 x20).f1)).bind fun t105 => (if t105 = true then (if x20 > 0 then (if 0 ≤ (wrap64 (x20 - 1)) then (if (wrap64 (x20 - 1)) < (x102000.length : Int) then (if ((rd_T140 x18 x20).f0) ≤ ((rd_T140 x102000 (wrap64 (x20 - 1))).f0) then (some false) else (impl_IsValidRecord.l0 k x18 x19 (wrap64 (x20 + 1)) x102000 x102001)) else (none)) else (none)) else (impl_IsValidRecord.l0 k x18 x19 (wrap64 (x20 + 1)) x102000 x102001)) else (some false))) else (some false))) else (none)) else (none)) else (impl_IsValidRecord.l1 k x102001 (x102001.length : Int) 0 x102000 x102001)
def impl_IsValidRecord.l1 : Nat → List (S144) → Int → Int → List (S140) → List (S144) → Option (Bool)
 | 0, _, _, _, _, _ => none
 | k + 1, x53, x54, x55, x102000, x102001 => if x55 < x54 then (if 0 ≤ x55 then (if x55 < (x53.length : Int) then (if ((rd_T144 x53 x55).f0) = ((rd_T144 x53 x55).f1) then (impl_IsValidRecord.j3 k x55 x53 x54 x55 true x102000 x102001 ((rd_T144 x53 x55).f0) ((rd_T144 x53 x55).f1)) else ((impl_indexOf.f x102000 x102001 ((rd_T144 x53 x55).f0)).bind fun t109 => (if t109 < 0 then (impl_IsValidRecord.j3 k x55 x53 x54 x55 true x102000 x102001 ((rd_T144 x53 x55).f0) ((rd_T144 x53 x55).f1)) else ((impl_indexOf.f x102000 x102001 ((rd_T144 x53 x55).f1)).bind fun t110 => (impl_IsValidRecord.j3 k x55 x53 x54 x55 (decide (t110 < 0)) x102000 x102001 ((rd_T144 x53 x55).f0) ((rd_T144 x53 x55).f1)))))) else (none)) else (none)) else (some true)
def impl_IsValidRecord.j3 : Nat → Int → List (S144) → Int → Int → Bool → List (S140) → List (S144) → Int → Int → Option (Bool)
 | 0, _, _, _, _, _, _, _, _, _ => none
 | k + 1, x5, x53, x54, x55, x78, x102000, x102001, x109000, x109001 => if x78 = true then (some false) else (if x5 > 0 then (if 0 ≤ (wrap64 (x5 - 1)) then (if (wrap64 (x5 - 1)) < (x102001.length : Int) then ((impl_compareRelations.f k ((rd_T144 x102001 (wrap64 (x5 - 1))).f0) ((rd_T144 x102001 (wrap64 (x5 - 1))).f1) x109000 x109001).bind fun t112 => (if t112 ≥ 0 then (some false) else (impl_IsValidRecord.l1 k x53 x54 (wrap64 (x55 + 1)) x102000 x102001))) else (none)) else (none)) else (impl_IsValidRecord.l1 k x53 x54 (wrap64 (x55 + 1)) x102000 x102001))
end
def impl_IsValidRecord.f (k : Nat) (l0_0 : List (S140)) (l0_1 : List (S144)) : Option (Bool) := if (l0_0.length : Int) > 10 then (impl_IsValidRecord.j0 k true l0_0 l0_1) else (impl_IsValidRecord.j0 k (decide ((l0_1.length : Int) > 24)) l0_0 l0_1)
def impl_IsValidRecord.T6 : Bool × List (List Nat × List Nat) := (true, [([], []), ([0], [0]), ([1], [1]), ([2], [2]), ([3, 2], [3]), ([4], [4]), ([5, 4], [4, 5]), ([6, 4, 4], [4, 6]), ([7, 4], [4, 7]), ([4, 8], [4, 8]), ([9, 7], [9]), ([10], [10]), ([11, 10], [10, 11]), ([12, 10, 10], [10, 12]), ([13], [13]), ([14, 13], [13, 14]), ([13], [13]), ([16, 13], [13, 16]), ([13], [13]), ([18, 13], [13, 18]), ([17, 19, 13], [13, 17, 19]), ([20, 13], [13, 20]), ([21, 13], [13, 21]), ([15, 22, 13], [13, 15, 22]), ([13, 23, 10], [10, 13, 23]), ([10, 24], [10, 24])])
def impl_IsValidRecord.B6 : List Nat := [0, 1, 3, 7, 15, 31, 63, 127, 255, 511, 1023, 2047, 4095, 8191, 16383, 32767, 16383, 81919, 16383, 278527, 999423, 2047999, 4145151, 8388607, 16777215, 33554431]
theorem impl_IsValidRecord.tab6 : rtab .any (opsOf Try.f123 6) = impl_IsValidRecord.T6 := by kernel_rfl
theorem impl_IsValidRecord.bits6 : waitsOk impl_IsValidRecord.T6.2 impl_IsValidRecord.B6 = true := by kernel_rfl
def impl_IsValidRecord.T14 : Bool × List (List Nat × List Nat) := (true, [([], []), ([0], [0]), ([1], [1]), ([2], [2]), ([3, 2], [2, 3]), ([2], [2]), ([5, 2], [2, 5]), ([4, 6, 2], [2, 4, 6]), ([7, 2], [2, 7]), ([2], [2]), ([8, 9, 2, 2], [2, 8, 9]), ([10, 2], [2, 10]), ([2, 11], [2, 11])])
def impl_IsValidRecord.B14 : List Nat := [0, 1, 3, 7, 15, 7, 39, 127, 255, 7, 1023, 2047, 4095]
theorem impl_IsValidRecord.tab14 : rtab .any (opsOf Try.f123 14) = impl_IsValidRecord.T14 := by kernel_rfl
theorem impl_IsValidRecord.bits14 : waitsOk impl_IsValidRecord.T14.2 impl_IsValidRecord.B14 = true := by kernel_rfl
set_option maxHeartbeats 8000000 in
set_option maxRecDepth 100000 in
theorem impl_IsValidRecord.calls (k : Nat) (A0_0 : Option Addr) (c0_0 : Nat) (l0_0 : List (S140)) (A0_1 : Option Addr) (c0_1 : Nat) (l0_1 : List (S144)) (r : Bool) (w : World) (hr0_0 : Kd.C k140 w A0_0 l0_0.length l0_0) (hc0_0 : l0_0.length ≤ c0_0) (hr0_1 : Kd.C k144 w A0_1 l0_1.length l0_1) (hc0_1 : l0_1.length ≤ c0_1) (h : impl_IsValidRecord.f k l0_0 l0_1 = some r) :
  Calls Try.prog 123 #[.agg #[.slice A0_0 l0_0.length c0_0, .slice A0_1 l0_1.length c0_1]] w fun e w' => e = .returned (.bool r) ∧ Below w.heap.size w w' := by
 (have hu61 := Try.underlying61); (have hu140 := Try.underlying140); (have hu144 := Try.underlying144); (have HR0_0 := Aside0.mk hr0_0); (have HC0_0 := Aside0.mk hc0_0); clear hr0_0 hc0_0; (have HR0_1 := Aside0.mk hr0_1); (have HC0_1 := Aside0.mk hc0_1); clear hr0_1 hc0_1; (have HB := Aside0.mk (Below.refl w.heap.size w)); (unfold impl_IsValidRecord.f at h); (have H := h); clear h; (have HC2 := Aside0.mk H); clear H; (go_enter Try.func123, Try.ntmps123); (go_upto_region 1 with (first | ((with_reducible refine gate_dst (N := 1) rfl ?_); refine box_event ?hg (N := 1) ?hd (cs := #[.slice A0_0 l0_0.length c0_0, .slice A0_1 l0_1.length c0_1]) (t := 61) ?hr ?_; (case hd => rfl); (case hg => rfl); (case hr => first | (go_simp; done) | (go_simp; rfl)); intro gb101 hg w3 hbox hb; have hB_ := zI hb HB; have n0_ := Aside0.mk (below_step hB_ hb); have n1_ := Aside0.mk (hbox); have n2_ := Aside0.mk (bx0 hg hB_); have n3_ := n2_; clear HB; have HB := n0_; have BK101 := n1_; have GW101 := n2_; have GE101 := n3_; clear n0_ n1_ n2_ n3_ hB_ hb hbox hg))); ((try simp only [Act.put, aS1, aS2, aS3])); (go_cut [16] (fun v16 wc => ∃ (kq : Nat) (x16_1 : Bool), v16 = .bool x16_1 ∧ Aside0 (impl_IsValidRecord.j0 kq x16_1 l0_0 l0_1 = some r) ∧ Aside0 (kq ≤ k) ∧ Aside0 (wc.heap[gb101]? = some (.cells #[(.slice A0_0 l0_0.length c0_0), (.slice A0_1 l0_1.length c0_1)] 61 (0, 0))) ∧ Aside0 (Below w.heap.size w wc)))
 case first =>
  (have H := HC2.out); clear HC2; (by_cases c4 : (l0_0.length : Int) > 10)
  ·rw [if_pos c4] at H
   (have c4b0 : decide (10 < (l0_0.length : Int)) = true := decide_eq_true c4); (have c4b1 : decide (10 < l0_0.length) = true := decide_eq_true (by omega)); clear c4; ((first | rw [c4b0] | (simp only [i64_w, i32_w]; rw [c4b0]) | skip)); (have H' := Aside0.mk H); clear H; (have hcz5_0 := cz BK101.out 0); (have hcz5_1 := cz BK101.out 1); (have hfz5_0 := blk_frozen BK101.out 0); (have hfz5_1 := blk_frozen BK101.out 1); (go_wp2); (go_meet)
   case rel => exact ⟨_, (true), (by first | rfl | (simp; done) | (simp [*]; done)), H', ⟨by first | omega | exact Nat.le_refl _⟩, ⟨kI BK101⟩, ⟨eI HB⟩⟩
  ·rw [if_neg c4] at H
   (have c4b0 : decide (10 < (l0_0.length : Int)) = false := decide_eq_false c4); (have c4b1 : decide (10 < l0_0.length) = false := decide_eq_false (by omega)); clear c4; ((first | rw [c4b0] | (simp only [i64_w, i32_w]; rw [c4b0]) | skip)); (have H' := Aside0.mk H); clear H; (have hcz6_0 := cz BK101.out 0); (have hcz6_1 := cz BK101.out 1); (have hfz6_0 := blk_frozen BK101.out 0); (have hfz6_1 := blk_frozen BK101.out 1); (go_wp2); (go_meet)
   case rel => exact ⟨_, (decide ((l0_1.length : Int) > 24)), (by first | rfl | (simp; done) | (simp [*]; done)), H', ⟨by first | omega | exact Nat.le_refl _⟩, ⟨kI BK101⟩, ⟨eI HB⟩⟩
 case rest =>
  clear HC2; (try clear c1); (try clear p2); (try clear c4); (try clear c4b0); (try clear c4b1); (try clear hcz5_0); (try clear hcz5_1); (try clear hcz6_0); (try clear hcz6_1); (try clear hfz5_0); (try clear hfz5_1); (try clear hfz6_0); (try clear hfz6_1); (obtain ⟨kq, x16_1, rfl, HA, HJ1, BK101, HB⟩ := hcut)
  cases kq with
  | zero => exact absurd HA.out (by simp [impl_IsValidRecord.j0])
  | succ kj1 =>
   (have H := HA.out); clear HA; (simp only [impl_IsValidRecord.j0] at H); (by_cases c7 : x16_1 = true); (· subst c7; (rw [if_pos rfl] at H); (obtain rfl := Option.some.inj H); (go_wp2); go_ret; (exact ⟨rfl, eI HB⟩))
   ·replace c7 := Bool.eq_false_iff.mpr c7
    subst c7; (rw [if_neg (show ¬ (false = true) by decide)] at H); (have H' := Aside0.mk H); clear H; (have hcz8_0 := cz BK101.out 0); (have hcz8_1 := cz BK101.out 1); (have hfz8_0 := blk_frozen BK101.out 0); (have hfz8_1 := blk_frozen BK101.out 1); (go_wp2); (go_loopg [20] kj1 (fun kq v20 w' => ∃ (x20_2 : Int), v20 = .int .i64 x20_2 ∧ Aside0 (impl_IsValidRecord.l0 kq l0_0 (l0_0.length : Int) x20_2 l0_0 l0_1 = some r) ∧ Aside0 (kq ≤ kj1) ∧ Aside0 (w'.heap[gb101]? = some (.cells #[(.slice A0_0 l0_0.length c0_0), (.slice A0_1 l0_1.length c0_1)] 61 (0, 0))) ∧ Aside0 (Below w.heap.size w w')))
    case atStart => exact ⟨(0), (by first | rfl | (simp; done) | (simp [*]; done)), H', ⟨Nat.le_refl _⟩, ⟨kI BK101⟩, ⟨eI HB⟩⟩
    case round =>
     (clear H'); (try clear c1); (try clear p2); (try clear c4); (try clear c4b0); (try clear c4b1); (try clear c7); (try clear hcz5_0); (try clear hcz5_1); (try clear hcz6_0); (try clear hcz6_1); (try clear hcz8_0); (try clear hcz8_1); (try clear hfz5_0); (try clear hfz5_1); (try clear hfz6_0); (try clear hfz6_1); (try clear hfz8_0); (try clear hfz8_1); (try clear p2); (obtain ⟨x20_2, rfl, HA, HK2, BK101, HB⟩ := hrel)
     cases gk with
     | zero => exact absurd HA.out (by simp [impl_IsValidRecord.l0])
     | succ k2 =>
      (have H := HA.out); clear HA; (simp only [impl_IsValidRecord.l0] at H); (by_cases c9 : x20_2 < (l0_0.length : Int))
      ·rw [if_pos c9] at H
       (have c9b0 := decide_eq_true c9); clear c9; (by_cases c10 : 0 ≤ x20_2)
       ·rw [if_pos c10] at H
        (have c10b0 := decide_eq_true c10); clear c10; (by_cases c11 : x20_2 < (l0_0.length : Int))
        ·rw [if_pos c11] at H
         (have c11b0 := decide_eq_true c11); clear c11; (replace H := obS H); (obtain ⟨t104, A12, H⟩ := H); (by_cases c13 : t104 = true)
         ·subst c13
          (rw [if_pos rfl] at H); (replace H := obS H); (obtain ⟨t105, A14, H⟩ := H); (by_cases c15 : t105 = true)
          ·subst c15
           (rw [if_pos rfl] at H); (by_cases c16 : x20_2 > 0)
           ·rw [if_pos c16] at H
            (have c16b0 : decide (0 < x20_2) = true := decide_eq_true c16); clear c16; (obtain ⟨ji17, hji17⟩ : ∃ j_ : Int, (wrap64 (x20_2 - 1)) = j_ := ⟨_, rfl⟩); (replace H : (if 0 ≤ (ji17) then (if (ji17) < (l0_0.length : Int) then (if ((rd_T140 l0_0 x20_2).f0) ≤ ((rd_T140 l0_0 (ji17)).f0) then (some false) else (impl_IsValidRecord.l0 k2 l0_0 (l0_0.length : Int) (wrap64 (x20_2 + 1)) l0_0 l0_1)) else (none)) else (none)) = some r := by first | (rw [hji17] at H; exact H) | (simp only [hji17] at H ⊢; exact H)); ((try rw [hji17] at A12)); ((try rw [hji17] at A14)); (have hji17w : (IntKind.i64.wrap (x20_2 - 1)) = ji17 := (i64_w _).trans hji17); (by_cases c18 : 0 ≤ (ji17))
            ·rw [if_pos c18] at H
             (have c18b0 := decide_eq_true c18); clear c18; (by_cases c19 : (ji17) < (l0_0.length : Int))
             ·rw [if_pos c19] at H
              (have c19b0 := decide_eq_true c19); clear c19; (by_cases c20 : ((rd_T140 l0_0 x20_2).f0) ≤ ((rd_T140 l0_0 (ji17)).f0))
              ·rw [if_pos c20] at H
               (have c20b0 := decide_eq_true c20); clear c20; (obtain rfl := Option.some.inj H); (have p102 : 0 ≤ (x20_2 : Int) := odt); (have q102 : x20_2 < (l0_0.length : Int) := odt); (obtain ⟨ad102, e102, hx102_0, hx102_1⟩ := at_T140 HR0_0.out x20_2 p102 q102); (cases e102); (replace hx102_0 := hcI HB hx102_0); (replace hx102_1 := hcI HB hx102_1); (replace p102 := eq_true p102); (replace q102 := eq_true q102); (try go_wp2_with (first | ((with_reducible refine gate_dst (N := 4) rfl ?_); refine box_event ?hg (N := 4) ?hd (cs := #[.int .i64 0, .int .i64 0]) (t := 140) ?hr ?_; (case hd => rfl); (case hg => rfl); (case hr => first | (go_simp; done) | (go_simp; rfl)); intro gb103 hg w21 hbox hb; have n0_ := Aside0.mk (kbI hb BK101); have hB_ := zI hb HB; have n1_ := Aside0.mk (below_step hB_ hb); have n2_ := Aside0.mk (hbox); have n3_ := Aside0.mk (bx0 hg hB_); have n4_ := n3_; have n5_ := Aside0.mk ((by rw [hg]; exact Nat.ne_of_lt (blk_lt (kI BK101)) : gb101 ≠ gb103)); have n6_ := Aside0.mk (Ne.symm n5_.out); clear BK101 HB; have BK101 := n0_; have HB := n1_; have BK103 := n2_; have GW103 := n3_; have GE103 := n4_; have NB101_103 := n5_; have NB103_101 := n6_; clear n0_ n1_ n2_ n3_ n4_ n5_ n6_ hB_ hb hbox hg; have hnb22 := NB103_101.out; have hnc22 := NB101_103.out; have hcz23_0 := cz BK103.out 0; have hcz23_1 := cz BK103.out 1; have hfz23_0 := blk_frozen BK103.out 0; have hfz23_1 := blk_frozen BK103.out 1))); (have n0_ : Aside0 (((w21.setCell ⟨gb103, 0, none⟩ (.int .i64 ((rd_T140 l0_0 x20_2).f0))).setCell ⟨gb103, 1, none⟩ (.int .i64 ((rd_T140 l0_0 x20_2).f1))).heap[gb101]? = some (.cells #[.slice (some ad102) l0_0.length c0_0, .slice A0_1 l0_1.length c0_1] 61 (0, 0))) := ⟨by (with_reducible repeat (first | refine kN ?_ _ | refine kD ?_ | refine kA ?_ _)); refine blk_far ?_ NB101_103.out _; (with_reducible repeat (first | refine kN ?_ _ | refine kD ?_ | refine kA ?_ _)); refine blk_far ?_ NB101_103.out _; (with_reducible repeat (first | refine kN ?_ _ | refine kD ?_ | refine kA ?_ _)); exact BK101.out⟩); (have n1_ : Aside0 (((w21.setCell ⟨gb103, 0, none⟩ (.int .i64 ((rd_T140 l0_0 x20_2).f0))).setCell ⟨gb103, 1, none⟩ (.int .i64 ((rd_T140 l0_0 x20_2).f1))).heap[gb103]? = some (.cells #[.int .i64 ((rd_T140 l0_0 x20_2).f0), .int .i64 ((rd_T140 l0_0 x20_2).f1)] 140 (0, 0))) := ⟨by (with_reducible repeat (first | refine kN ?_ _ | refine kD ?_ | refine kA ?_ _)); refine blk_put (cs := #[.int .i64 ((rd_T140 l0_0 x20_2).f0), .int .i64 0]) ?_ 1 _ rfl; (with_reducible repeat (first | refine kN ?_ _ | refine kD ?_ | refine kA ?_ _)); refine blk_put (cs := #[.int .i64 0, .int .i64 0]) ?_ 0 _ rfl; (with_reducible repeat (first | refine kN ?_ _ | refine kD ?_ | refine kA ?_ _)); exact BK103.out⟩); (have n2_ : Aside0 (Below w.heap.size w ((w21.setCell ⟨gb103, 0, none⟩ (.int .i64 ((rd_T140 l0_0 x20_2).f0))).setCell ⟨gb103, 1, none⟩ (.int .i64 ((rd_T140 l0_0 x20_2).f1)))) := ⟨by repeat (first | (with_reducible first | exact HB.out | apply bA | apply bN | apply bD | refine below_set ?_ GE101.out | refine below_set ?_ GE103.out) | exact HB.out)⟩); ((try clear BK101)); ((try clear BK103)); ((try clear HB)); (generalize ((w21.setCell ⟨gb103, 0, none⟩ (.int .i64 ((rd_T140 l0_0 x20_2).f0))).setCell ⟨gb103, 1, none⟩ (.int .i64 ((rd_T140 l0_0 x20_2).f1))) = w24 at n0_ n1_ n2_ ⊢); (have BK101 := n0_); (have BK103 := n1_); (have HB := n2_); clear n0_ n1_ n2_; (have n0_ := Aside0.mk (blk_drew BK101.out)); (have n1_ := Aside0.mk (blk_drew BK103.out)); (have n2_ := Aside0.mk (below_drew1 HB.out)); clear BK101 BK103 HB; (have BK101 := n0_); (have BK103 := n1_); (have HB := n2_); clear n0_ n1_ n2_; (have p106 : 0 ≤ ((ji17) : Int) := odt); (have q106 : (ji17) < (l0_0.length : Int) := odt); (obtain ⟨ad106, e106, hx106_0, hx106_1⟩ := at_T140 HR0_0.out (ji17) p106 q106); (have hw106_1 := hx106_1); (have hw106_0 := hx106_0); (obtain rfl : ad102 = ad106 := (by injection e106)); (replace hx106_0 := hcI HB hx106_0); (replace hx106_1 := hcI HB hx106_1); (replace p106 := eq_true p106); (replace q106 := eq_true q106)
               (refine start_ (n := 26) (S := fun w' => w'.cell? ⟨gb103, 0, none⟩ = some (.int .i64 ((rd_T140 l0_0 x20_2).f0)) ∧ w'.cell? ⟨gb103, 1, none⟩ = some (.int .i64 ((rd_T140 l0_0 x20_2).f1)) ∧ w'.cell? ⟨gb101, 0, none⟩ = some (.slice (some ad102) l0_0.length c0_0) ∧ w'.cell? ⟨gb101, 1, none⟩ = some (.slice A0_1 l0_1.length c0_1) ∧ w'.cell? (ad102.add (((ji17)).toNat * 2)) = some (.int .i64 ((rd_T140 l0_0 (ji17)).f0)) ∧ w'.cell? ⟨(ad102.add (((ji17)).toNat * 2)).block, (ad102.add (((ji17)).toNat * 2)).off + 1, none⟩ = some (.int .i64 ((rd_T140 l0_0 (ji17)).f1))) (ds := []) (cn 26 0) (by kernel_rfl) rfl (by kernel_rfl) ⟨(blk_cell BK103.out 0).trans rfl, (blk_cell BK103.out 1).trans rfl, (blk_cell BK101.out 0).trans rfl, (blk_cell BK101.out 1).trans rfl, ((HB.out.cell (bltc w _ hw106_0)).trans hw106_0), ((HB.out.cell (bltc w _ hw106_1)).trans hw106_1)⟩ (fun hHeld => ?_); refine with_tabW impl_IsValidRecord.tab6 impl_IsValidRecord.bits6 (fun HT_ HW_ => ?_)); (generalize w24.drew = w25 at BK101 BK103 HB hx106_0 hx106_1 hHeld ⊢); (refine pB 0 (cn 26 1) (some 25) HT_ (h := ?_)); (refine tB 1 (cn 26 2) (some 26) HT_ HW_ hHeld (h := ?_)); (refine one_ (i := 2) (N := some 27) (cn 26 3) rfl rfl (one_of HT_.out (by kernel_rfl)) (by decide) (fun K hK => ?_)); (refine goes_ Try.func153 (by kernel_rfl) rfl #[.int .i64 ((rd_T140 l0_0 x20_2).f0)] (by rfl) rfl rfl (by (try simp only [aM1, aM2, aM3]); first | done | rfl | (simp only [List.length_drop, List.length_take]; rfl)) ?_); (with_reducible refine (impl_isNumber.calls ((rd_T140 l0_0 x20_2).f0) true _ A12.out).mono ?_); (rintro e w' ⟨rfl, ⟨nd, rfl⟩⟩); (refine ⟨_, rfl, ?_⟩); (refine hK.out _ _ ⟨(blk_cell BK103.out 0).trans rfl, (blk_cell BK103.out 1).trans rfl, (blk_cell BK101.out 0).trans rfl, (blk_cell BK101.out 1).trans rfl, ((HB.out.cell (bltc w _ hw106_0)).trans hw106_0), ((HB.out.cell (bltc w _ hw106_1)).trans hw106_1)⟩ (fun hHeld => ?_)); clear hK K; (refine norm_ (a' := ?_) ?_ ?_); rotate_left; (· (show Act.put _ (some 27) _ = _); (simp only [Act.put, aS1, aS2, aS3, i64_w, i32_w]); rfl); (refine pB 3 (cn 26 4) (some 28) HT_ (h := ?_)); (refine pB 4 (cn 26 5) (some 29) HT_ (h := ?_)); (refine pB 5 (cn 26 6) (some 30) HT_ (h := ?_)); (refine tB 6 (cn 26 7) (some 31) HT_ HW_ hHeld (h := ?_)); (refine one_ (i := 7) (N := some 32) (cn 26 8) rfl rfl (one_of HT_.out (by kernel_rfl)) (by decide) (fun K hK => ?_)); (refine goes_ Try.func154 (by kernel_rfl) rfl #[.int .i64 ((rd_T140 l0_0 x20_2).f1)] (by rfl) rfl rfl (by (try simp only [aM1, aM2, aM3]); first | done | rfl | (simp only [List.length_drop, List.length_take]; rfl)) ?_); (with_reducible refine (impl_isKind.calls ((rd_T140 l0_0 x20_2).f1) true _ A14.out).mono ?_); (rintro e w' ⟨rfl, ⟨nd, rfl⟩⟩); (refine ⟨_, rfl, ?_⟩); (refine hK.out _ _ ⟨(blk_cell BK103.out 0).trans rfl, (blk_cell BK103.out 1).trans rfl, (blk_cell BK101.out 0).trans rfl, (blk_cell BK101.out 1).trans rfl, ((HB.out.cell (bltc w _ hw106_0)).trans hw106_0), ((HB.out.cell (bltc w _ hw106_1)).trans hw106_1)⟩ (fun hHeld => ?_)); clear hK K; (refine norm_ (a' := ?_) ?_ ?_); rotate_left; (· (show Act.put _ (some 32) _ = _); (simp only [Act.put, aS1, aS2, aS3, i64_w, i32_w]); rfl); (refine pB 8 (cn 26 9) (some 33) HT_ (h := ?_)); (refine pB 9 (cn 26 10) (some 34) HT_ (h := ?_)); (refine pA 10 (cn 26 11) (some 35) HT_ (v := ?_) (a' := ?_) rfl rfl (by kernel_rfl) (fun _ _ _ h => h) (Or.inl ⟨by rfl, ?_⟩) ?_ ?_); rotate_left; (· intro w'; go_simp; with_reducible rfl); rotate_left
               (· (simp only [Act.put, aS1, aS2, aS3, i64_w, i32_w]); rfl); (refine pB 11 (cn 26 12) (some 36) HT_ (h := ?_)); (refine pB 12 (cn 26 13) (some 37) HT_ (h := ?_)); (refine pB 13 (cn 26 14) (some 38) HT_ (h := ?_)); (refine pB 14 (cn 26 15) (some 39) HT_ (h := ?_)); (refine pB 16 (cb 26 98303) (some 41) HT_ (h := ?_)); (refine pB 18 (cb 26 360447) (some 43) HT_ (h := ?_)); (refine pB 19 (cb 26 884735) (some 44) HT_ (h := ?_)); (refine tB 15 (cb 26 917503) (some 40) HT_ HW_ hHeld (h := ?_)); (refine tB 17 (cn 26 20) (some 42) HT_ HW_ hHeld (h := ?_)); (refine pB 20 (cn 26 21) (some 45) HT_ (h := ?_)); (refine pB 21 (cn 26 22) (some 46) HT_ (h := ?_)); (refine tB 22 (cn 26 23) (some 47) HT_ HW_ hHeld (h := ?_)); (refine pB 23 (cn 26 24) (some 48) HT_ (h := ?_)); (refine pB 24 (cn 26 25) (some 49) HT_ (h := ?_)); (refine pB 25 (cn 26 26) (some 50) HT_ (h := ?_)); (refine done_ (done_of HT_.out (by kernel_rfl)) ?_); (try go_wp2); go_ret; (exact ⟨by first | rfl | (simp [errW_none, errW_some] <;> rfl) | (simp only [← hji17]; first | rfl | (simp [errW_none, errW_some] <;> rfl)) | (simp [*, errW_none, errW_some] <;> rfl), eI HB⟩)
              ·rw [if_neg c20] at H
               (have c20b0 := decide_eq_false c20); clear c20; (have H' := Aside0.mk H); clear H; (have p102 : 0 ≤ (x20_2 : Int) := odt); (have q102 : x20_2 < (l0_0.length : Int) := odt); (obtain ⟨ad102, e102, hx102_0, hx102_1⟩ := at_T140 HR0_0.out x20_2 p102 q102); (cases e102); (replace hx102_0 := hcI HB hx102_0); (replace hx102_1 := hcI HB hx102_1); (replace p102 := eq_true p102); (replace q102 := eq_true q102); (try go_wp2_with (first | ((with_reducible refine gate_dst (N := 4) rfl ?_); refine box_event ?hg (N := 4) ?hd (cs := #[.int .i64 0, .int .i64 0]) (t := 140) ?hr ?_; (case hd => rfl); (case hg => rfl); (case hr => first | (go_simp; done) | (go_simp; rfl)); intro gb103 hg w26 hbox hb; have n0_ := Aside0.mk (kbI hb BK101); have hB_ := zI hb HB; have n1_ := Aside0.mk (below_step hB_ hb); have n2_ := Aside0.mk (hbox); have n3_ := Aside0.mk (bx0 hg hB_); have n4_ := n3_; have n5_ := Aside0.mk ((by rw [hg]; exact Nat.ne_of_lt (blk_lt (kI BK101)) : gb101 ≠ gb103)); have n6_ := Aside0.mk (Ne.symm n5_.out); clear BK101 HB; have BK101 := n0_; have HB := n1_; have BK103 := n2_; have GW103 := n3_; have GE103 := n4_; have NB101_103 := n5_; have NB103_101 := n6_; clear n0_ n1_ n2_ n3_ n4_ n5_ n6_ hB_ hb hbox hg; have hnb27 := NB103_101.out; have hnc27 := NB101_103.out; have hcz28_0 := cz BK103.out 0; have hcz28_1 := cz BK103.out 1; have hfz28_0 := blk_frozen BK103.out 0; have hfz28_1 := blk_frozen BK103.out 1))); (have n0_ : Aside0 (((w26.setCell ⟨gb103, 0, none⟩ (.int .i64 ((rd_T140 l0_0 x20_2).f0))).setCell ⟨gb103, 1, none⟩ (.int .i64 ((rd_T140 l0_0 x20_2).f1))).heap[gb101]? = some (.cells #[.slice (some ad102) l0_0.length c0_0, .slice A0_1 l0_1.length c0_1] 61 (0, 0))) := ⟨by (with_reducible repeat (first | refine kN ?_ _ | refine kD ?_ | refine kA ?_ _)); refine blk_far ?_ NB101_103.out _; (with_reducible repeat (first | refine kN ?_ _ | refine kD ?_ | refine kA ?_ _)); refine blk_far ?_ NB101_103.out _; (with_reducible repeat (first | refine kN ?_ _ | refine kD ?_ | refine kA ?_ _)); exact BK101.out⟩); (have n1_ : Aside0 (((w26.setCell ⟨gb103, 0, none⟩ (.int .i64 ((rd_T140 l0_0 x20_2).f0))).setCell ⟨gb103, 1, none⟩ (.int .i64 ((rd_T140 l0_0 x20_2).f1))).heap[gb103]? = some (.cells #[.int .i64 ((rd_T140 l0_0 x20_2).f0), .int .i64 ((rd_T140 l0_0 x20_2).f1)] 140 (0, 0))) := ⟨by (with_reducible repeat (first | refine kN ?_ _ | refine kD ?_ | refine kA ?_ _)); refine blk_put (cs := #[.int .i64 ((rd_T140 l0_0 x20_2).f0), .int .i64 0]) ?_ 1 _ rfl; (with_reducible repeat (first | refine kN ?_ _ | refine kD ?_ | refine kA ?_ _)); refine blk_put (cs := #[.int .i64 0, .int .i64 0]) ?_ 0 _ rfl; (with_reducible repeat (first | refine kN ?_ _ | refine kD ?_ | refine kA ?_ _)); exact BK103.out⟩); (have n2_ : Aside0 (Below w.heap.size w ((w26.setCell ⟨gb103, 0, none⟩ (.int .i64 ((rd_T140 l0_0 x20_2).f0))).setCell ⟨gb103, 1, none⟩ (.int .i64 ((rd_T140 l0_0 x20_2).f1)))) := ⟨by repeat (first | (with_reducible first | exact HB.out | apply bA | apply bN | apply bD | refine below_set ?_ GE101.out | refine below_set ?_ GE103.out) | exact HB.out)⟩); ((try clear BK101)); ((try clear BK103)); ((try clear HB)); (generalize ((w26.setCell ⟨gb103, 0, none⟩ (.int .i64 ((rd_T140 l0_0 x20_2).f0))).setCell ⟨gb103, 1, none⟩ (.int .i64 ((rd_T140 l0_0 x20_2).f1))) = w29 at n0_ n1_ n2_ ⊢); (have BK101 := n0_); (have BK103 := n1_); (have HB := n2_); clear n0_ n1_ n2_; (have n0_ := Aside0.mk (blk_drew BK101.out)); (have n1_ := Aside0.mk (blk_drew BK103.out)); (have n2_ := Aside0.mk (below_drew1 HB.out)); clear BK101 BK103 HB; (have BK101 := n0_); (have BK103 := n1_); (have HB := n2_); clear n0_ n1_ n2_; (have p106 : 0 ≤ ((ji17) : Int) := odt); (have q106 : (ji17) < (l0_0.length : Int) := odt); (obtain ⟨ad106, e106, hx106_0, hx106_1⟩ := at_T140 HR0_0.out (ji17) p106 q106); (have hw106_1 := hx106_1); (have hw106_0 := hx106_0); (obtain rfl : ad102 = ad106 := (by injection e106)); (replace hx106_0 := hcI HB hx106_0); (replace hx106_1 := hcI HB hx106_1); (replace p106 := eq_true p106); (replace q106 := eq_true q106)
               (refine start_ (n := 26) (S := fun w' => w'.cell? ⟨gb103, 0, none⟩ = some (.int .i64 ((rd_T140 l0_0 x20_2).f0)) ∧ w'.cell? ⟨gb103, 1, none⟩ = some (.int .i64 ((rd_T140 l0_0 x20_2).f1)) ∧ w'.cell? ⟨gb101, 0, none⟩ = some (.slice (some ad102) l0_0.length c0_0) ∧ w'.cell? ⟨gb101, 1, none⟩ = some (.slice A0_1 l0_1.length c0_1) ∧ w'.cell? (ad102.add (((ji17)).toNat * 2)) = some (.int .i64 ((rd_T140 l0_0 (ji17)).f0)) ∧ w'.cell? ⟨(ad102.add (((ji17)).toNat * 2)).block, (ad102.add (((ji17)).toNat * 2)).off + 1, none⟩ = some (.int .i64 ((rd_T140 l0_0 (ji17)).f1))) (ds := []) (cn 26 0) (by kernel_rfl) rfl (by kernel_rfl) ⟨(blk_cell BK103.out 0).trans rfl, (blk_cell BK103.out 1).trans rfl, (blk_cell BK101.out 0).trans rfl, (blk_cell BK101.out 1).trans rfl, ((HB.out.cell (bltc w _ hw106_0)).trans hw106_0), ((HB.out.cell (bltc w _ hw106_1)).trans hw106_1)⟩ (fun hHeld => ?_); refine with_tabW impl_IsValidRecord.tab6 impl_IsValidRecord.bits6 (fun HT_ HW_ => ?_)); (generalize w29.drew = w30 at BK101 BK103 HB hx106_0 hx106_1 hHeld ⊢); (refine pB 0 (cn 26 1) (some 25) HT_ (h := ?_)); (refine tB 1 (cn 26 2) (some 26) HT_ HW_ hHeld (h := ?_)); (refine one_ (i := 2) (N := some 27) (cn 26 3) rfl rfl (one_of HT_.out (by kernel_rfl)) (by decide) (fun K hK => ?_)); (refine goes_ Try.func153 (by kernel_rfl) rfl #[.int .i64 ((rd_T140 l0_0 x20_2).f0)] (by rfl) rfl rfl (by (try simp only [aM1, aM2, aM3]); first | done | rfl | (simp only [List.length_drop, List.length_take]; rfl)) ?_); (with_reducible refine (impl_isNumber.calls ((rd_T140 l0_0 x20_2).f0) true _ A12.out).mono ?_); (rintro e w' ⟨rfl, ⟨nd, rfl⟩⟩); (refine ⟨_, rfl, ?_⟩); (refine hK.out _ _ ⟨(blk_cell BK103.out 0).trans rfl, (blk_cell BK103.out 1).trans rfl, (blk_cell BK101.out 0).trans rfl, (blk_cell BK101.out 1).trans rfl, ((HB.out.cell (bltc w _ hw106_0)).trans hw106_0), ((HB.out.cell (bltc w _ hw106_1)).trans hw106_1)⟩ (fun hHeld => ?_)); clear hK K; (refine norm_ (a' := ?_) ?_ ?_); rotate_left; (· (show Act.put _ (some 27) _ = _); (simp only [Act.put, aS1, aS2, aS3, i64_w, i32_w]); rfl); (refine pB 3 (cn 26 4) (some 28) HT_ (h := ?_)); (refine pB 4 (cn 26 5) (some 29) HT_ (h := ?_)); (refine pB 5 (cn 26 6) (some 30) HT_ (h := ?_)); (refine tB 6 (cn 26 7) (some 31) HT_ HW_ hHeld (h := ?_)); (refine one_ (i := 7) (N := some 32) (cn 26 8) rfl rfl (one_of HT_.out (by kernel_rfl)) (by decide) (fun K hK => ?_)); (refine goes_ Try.func154 (by kernel_rfl) rfl #[.int .i64 ((rd_T140 l0_0 x20_2).f1)] (by rfl) rfl rfl (by (try simp only [aM1, aM2, aM3]); first | done | rfl | (simp only [List.length_drop, List.length_take]; rfl)) ?_); (with_reducible refine (impl_isKind.calls ((rd_T140 l0_0 x20_2).f1) true _ A14.out).mono ?_); (rintro e w' ⟨rfl, ⟨nd, rfl⟩⟩); (refine ⟨_, rfl, ?_⟩); (refine hK.out _ _ ⟨(blk_cell BK103.out 0).trans rfl, (blk_cell BK103.out 1).trans rfl, (blk_cell BK101.out 0).trans rfl, (blk_cell BK101.out 1).trans rfl, ((HB.out.cell (bltc w _ hw106_0)).trans hw106_0), ((HB.out.cell (bltc w _ hw106_1)).trans hw106_1)⟩ (fun hHeld => ?_)); clear hK K; (refine norm_ (a' := ?_) ?_ ?_); rotate_left; (· (show Act.put _ (some 32) _ = _); (simp only [Act.put, aS1, aS2, aS3, i64_w, i32_w]); rfl); (refine pB 8 (cn 26 9) (some 33) HT_ (h := ?_)); (refine pB 9 (cn 26 10) (some 34) HT_ (h := ?_)); (refine pA 10 (cn 26 11) (some 35) HT_ (v := ?_) (a' := ?_) rfl rfl (by kernel_rfl) (fun _ _ _ h => h) (Or.inl ⟨by rfl, ?_⟩) ?_ ?_); rotate_left; (· intro w'; go_simp; with_reducible rfl); rotate_left
               (· (simp only [Act.put, aS1, aS2, aS3, i64_w, i32_w]); rfl); (refine pB 11 (cn 26 12) (some 36) HT_ (h := ?_)); (refine pB 12 (cn 26 13) (some 37) HT_ (h := ?_)); (refine pB 13 (cn 26 14) (some 38) HT_ (h := ?_)); (refine pB 14 (cn 26 15) (some 39) HT_ (h := ?_)); (refine pB 16 (cb 26 98303) (some 41) HT_ (h := ?_)); (refine pB 18 (cb 26 360447) (some 43) HT_ (h := ?_)); (refine pB 19 (cb 26 884735) (some 44) HT_ (h := ?_)); (refine tB 15 (cb 26 917503) (some 40) HT_ HW_ hHeld (h := ?_)); (refine tB 17 (cn 26 20) (some 42) HT_ HW_ hHeld (h := ?_)); (refine pB 20 (cn 26 21) (some 45) HT_ (h := ?_)); (refine pB 21 (cn 26 22) (some 46) HT_ (h := ?_)); (refine tB 22 (cn 26 23) (some 47) HT_ HW_ hHeld (h := ?_)); (refine pB 23 (cn 26 24) (some 48) HT_ (h := ?_)); (refine pB 24 (cn 26 25) (some 49) HT_ (h := ?_)); (refine pB 25 (cn 26 26) (some 50) HT_ (h := ?_)); (refine done_ (done_of HT_.out (by kernel_rfl)) ?_); (try go_wp2); go_roundg k2
               case measure => have := HJ1.out; have := HK2.out; omega
               case rel => exact ⟨(wrap64 (x20_2 + 1)), (by first | rfl | (simp; done) | (simp [*]; done)), H', ⟨by have := HJ1.out; have := HK2.out; omega⟩, ⟨kI BK101⟩, ⟨eI HB⟩⟩
             ·rw [if_neg c19] at H
              exact absurd H (by simp)
            ·rw [if_neg c18] at H
             exact absurd H (by simp)
           ·rw [if_neg c16] at H
            (have c16b0 : decide (0 < x20_2) = false := decide_eq_false c16); clear c16; (have H' := Aside0.mk H); clear H; (have p102 : 0 ≤ (x20_2 : Int) := odt); (have q102 : x20_2 < (l0_0.length : Int) := odt); (obtain ⟨ad102, e102, hx102_0, hx102_1⟩ := at_T140 HR0_0.out x20_2 p102 q102); (cases e102); (replace hx102_0 := hcI HB hx102_0); (replace hx102_1 := hcI HB hx102_1); (replace p102 := eq_true p102); (replace q102 := eq_true q102); (try go_wp2_with (first | ((with_reducible refine gate_dst (N := 4) rfl ?_); refine box_event ?hg (N := 4) ?hd (cs := #[.int .i64 0, .int .i64 0]) (t := 140) ?hr ?_; (case hd => rfl); (case hg => rfl); (case hr => first | (go_simp; done) | (go_simp; rfl)); intro gb103 hg w31 hbox hb; have n0_ := Aside0.mk (kbI hb BK101); have hB_ := zI hb HB; have n1_ := Aside0.mk (below_step hB_ hb); have n2_ := Aside0.mk (hbox); have n3_ := Aside0.mk (bx0 hg hB_); have n4_ := n3_; have n5_ := Aside0.mk ((by rw [hg]; exact Nat.ne_of_lt (blk_lt (kI BK101)) : gb101 ≠ gb103)); have n6_ := Aside0.mk (Ne.symm n5_.out); clear BK101 HB; have BK101 := n0_; have HB := n1_; have BK103 := n2_; have GW103 := n3_; have GE103 := n4_; have NB101_103 := n5_; have NB103_101 := n6_; clear n0_ n1_ n2_ n3_ n4_ n5_ n6_ hB_ hb hbox hg; have hnb32 := NB103_101.out; have hnc32 := NB101_103.out; have hcz33_0 := cz BK103.out 0; have hcz33_1 := cz BK103.out 1; have hfz33_0 := blk_frozen BK103.out 0; have hfz33_1 := blk_frozen BK103.out 1))); (have n0_ : Aside0 (((w31.setCell ⟨gb103, 0, none⟩ (.int .i64 ((rd_T140 l0_0 x20_2).f0))).setCell ⟨gb103, 1, none⟩ (.int .i64 ((rd_T140 l0_0 x20_2).f1))).heap[gb101]? = some (.cells #[.slice (some ad102) l0_0.length c0_0, .slice A0_1 l0_1.length c0_1] 61 (0, 0))) := ⟨by (with_reducible repeat (first | refine kN ?_ _ | refine kD ?_ | refine kA ?_ _)); refine blk_far ?_ NB101_103.out _; (with_reducible repeat (first | refine kN ?_ _ | refine kD ?_ | refine kA ?_ _)); refine blk_far ?_ NB101_103.out _; (with_reducible repeat (first | refine kN ?_ _ | refine kD ?_ | refine kA ?_ _)); exact BK101.out⟩); (have n1_ : Aside0 (((w31.setCell ⟨gb103, 0, none⟩ (.int .i64 ((rd_T140 l0_0 x20_2).f0))).setCell ⟨gb103, 1, none⟩ (.int .i64 ((rd_T140 l0_0 x20_2).f1))).heap[gb103]? = some (.cells #[.int .i64 ((rd_T140 l0_0 x20_2).f0), .int .i64 ((rd_T140 l0_0 x20_2).f1)] 140 (0, 0))) := ⟨by (with_reducible repeat (first | refine kN ?_ _ | refine kD ?_ | refine kA ?_ _)); refine blk_put (cs := #[.int .i64 ((rd_T140 l0_0 x20_2).f0), .int .i64 0]) ?_ 1 _ rfl; (with_reducible repeat (first | refine kN ?_ _ | refine kD ?_ | refine kA ?_ _)); refine blk_put (cs := #[.int .i64 0, .int .i64 0]) ?_ 0 _ rfl; (with_reducible repeat (first | refine kN ?_ _ | refine kD ?_ | refine kA ?_ _)); exact BK103.out⟩); (have n2_ : Aside0 (Below w.heap.size w ((w31.setCell ⟨gb103, 0, none⟩ (.int .i64 ((rd_T140 l0_0 x20_2).f0))).setCell ⟨gb103, 1, none⟩ (.int .i64 ((rd_T140 l0_0 x20_2).f1)))) := ⟨by repeat (first | (with_reducible first | exact HB.out | apply bA | apply bN | apply bD | refine below_set ?_ GE101.out | refine below_set ?_ GE103.out) | exact HB.out)⟩); ((try clear BK101)); ((try clear BK103)); ((try clear HB)); (generalize ((w31.setCell ⟨gb103, 0, none⟩ (.int .i64 ((rd_T140 l0_0 x20_2).f0))).setCell ⟨gb103, 1, none⟩ (.int .i64 ((rd_T140 l0_0 x20_2).f1))) = w34 at n0_ n1_ n2_ ⊢); (have BK101 := n0_); (have BK103 := n1_); (have HB := n2_); clear n0_ n1_ n2_; (have n0_ := Aside0.mk (blk_drew BK101.out)); (have n1_ := Aside0.mk (blk_drew BK103.out)); (have n2_ := Aside0.mk (below_drew1 HB.out)); clear BK101 BK103 HB; (have BK101 := n0_); (have BK103 := n1_); (have HB := n2_); clear n0_ n1_ n2_; (refine start_ (n := 26) (S := fun w' => w'.cell? ⟨gb103, 0, none⟩ = some (.int .i64 ((rd_T140 l0_0 x20_2).f0)) ∧ w'.cell? ⟨gb103, 1, none⟩ = some (.int .i64 ((rd_T140 l0_0 x20_2).f1))) (ds := []) (cn 26 0) (by kernel_rfl) rfl (by kernel_rfl) ⟨cz BK103.out 0, cz BK103.out 1⟩ (fun hHeld => ?_); refine with_tabW impl_IsValidRecord.tab6 impl_IsValidRecord.bits6 (fun HT_ HW_ => ?_)); (generalize w34.drew = w35 at BK101 BK103 HB hHeld ⊢); (refine pB 0 (cn 26 1) (some 25) HT_ (h := ?_)); (refine tB 1 (cn 26 2) (some 26) HT_ HW_ hHeld (h := ?_)); (refine oN 2 (some 27) (cn 26 3) HT_ (fun K hK => ?_))
            (refine gG Try.func153 #[.int .i64 ((rd_T140 l0_0 x20_2).f0)] ?_); (with_reducible refine (impl_isNumber.calls ((rd_T140 l0_0 x20_2).f0) true _ A12.out).mono ?_); (rintro e w' ⟨rfl, ⟨nd, rfl⟩⟩); (refine ⟨_, rfl, ?_⟩); (refine hK.out _ _ ⟨cz BK103.out 0, cz BK103.out 1⟩ (fun hHeld => ?_)); clear hK K; (refine nP (some 27) (h := ?_)); (refine pB 3 (cn 26 4) (some 28) HT_ (h := ?_)); (refine pB 4 (cn 26 5) (some 29) HT_ (h := ?_)); (refine pB 5 (cn 26 6) (some 30) HT_ (h := ?_)); (refine tB 6 (cn 26 7) (some 31) HT_ HW_ hHeld (h := ?_)); (refine oN 7 (some 32) (cn 26 8) HT_ (fun K hK => ?_)); (refine gG Try.func154 #[.int .i64 ((rd_T140 l0_0 x20_2).f1)] ?_); (with_reducible refine (impl_isKind.calls ((rd_T140 l0_0 x20_2).f1) true _ A14.out).mono ?_); (rintro e w' ⟨rfl, ⟨nd, rfl⟩⟩); (refine ⟨_, rfl, ?_⟩); (refine hK.out _ _ ⟨cz BK103.out 0, cz BK103.out 1⟩ (fun hHeld => ?_)); clear hK K; (refine nP (some 32) (h := ?_)); (refine pB 8 (cn 26 9) (some 33) HT_ (h := ?_)); (refine pB 9 (cn 26 10) (some 34) HT_ (h := ?_)); (refine pB 10 (cn 26 11) (some 35) HT_ (h := ?_)); (refine pB 11 (cn 26 12) (some 36) HT_ (h := ?_)); (refine pB 12 (cn 26 13) (some 37) HT_ (h := ?_)); (refine pB 13 (cn 26 14) (some 38) HT_ (h := ?_)); (refine pU 14 (cn 26 15) (some 39) HT_ (h := ?_)); (refine pU 15 (cn 26 16) (some 40) HT_ (h := ?_)); (refine pU 16 (cn 26 17) (some 41) HT_ (h := ?_)); (refine pU 17 (cn 26 18) (some 42) HT_ (h := ?_)); (refine pA 18 (cn 26 19) (some 43) HT_ (v := undef) (a' := ?_) rfl rfl (by kernel_rfl) (fun _ _ _ h => h) (Or.inr ⟨by rfl, rfl⟩) ?_ ?_); rotate_left
            (· (simp only [Act.put, aS1, aS2, aS3, i64_w, i32_w]); rfl); (refine pU 19 (cn 26 20) (some 44) HT_ (h := ?_)); (refine pU 20 (cn 26 21) (some 45) HT_ (h := ?_)); (refine pU 21 (cn 26 22) (some 46) HT_ (h := ?_)); (refine pU 22 (cn 26 23) (some 47) HT_ (h := ?_)); (refine pU 23 (cn 26 24) (some 48) HT_ (h := ?_)); (refine pB 24 (cn 26 25) (some 49) HT_ (h := ?_)); (refine pB 25 (cn 26 26) (some 50) HT_ (h := ?_)); (refine done_ (done_of HT_.out (by kernel_rfl)) ?_); (try go_wp2); go_roundg k2
            case measure => have := HJ1.out; have := HK2.out; omega
            case rel => exact ⟨(wrap64 (x20_2 + 1)), (by first | rfl | (simp; done) | (simp [*]; done)), H', ⟨by have := HJ1.out; have := HK2.out; omega⟩, ⟨kI BK101⟩, ⟨eI HB⟩⟩
          ·replace c15 := Bool.eq_false_iff.mpr c15
           subst c15; (rw [if_neg (show ¬ (false = true) by decide)] at H); (obtain rfl := Option.some.inj H); (have p102 : 0 ≤ (x20_2 : Int) := odt); (have q102 : x20_2 < (l0_0.length : Int) := odt); (obtain ⟨ad102, e102, hx102_0, hx102_1⟩ := at_T140 HR0_0.out x20_2 p102 q102); (cases e102); (replace hx102_0 := hcI HB hx102_0); (replace hx102_1 := hcI HB hx102_1); (replace p102 := eq_true p102); (replace q102 := eq_true q102); (try go_wp2_with (first | ((with_reducible refine gate_dst (N := 4) rfl ?_); refine box_event ?hg (N := 4) ?hd (cs := #[.int .i64 0, .int .i64 0]) (t := 140) ?hr ?_; (case hd => rfl); (case hg => rfl); (case hr => first | (go_simp; done) | (go_simp; rfl)); intro gb103 hg w36 hbox hb; have n0_ := Aside0.mk (kbI hb BK101); have hB_ := zI hb HB; have n1_ := Aside0.mk (below_step hB_ hb); have n2_ := Aside0.mk (hbox); have n3_ := Aside0.mk (bx0 hg hB_); have n4_ := n3_; have n5_ := Aside0.mk ((by rw [hg]; exact Nat.ne_of_lt (blk_lt (kI BK101)) : gb101 ≠ gb103)); have n6_ := Aside0.mk (Ne.symm n5_.out); clear BK101 HB; have BK101 := n0_; have HB := n1_; have BK103 := n2_; have GW103 := n3_; have GE103 := n4_; have NB101_103 := n5_; have NB103_101 := n6_; clear n0_ n1_ n2_ n3_ n4_ n5_ n6_ hB_ hb hbox hg; have hnb37 := NB103_101.out; have hnc37 := NB101_103.out; have hcz38_0 := cz BK103.out 0; have hcz38_1 := cz BK103.out 1; have hfz38_0 := blk_frozen BK103.out 0; have hfz38_1 := blk_frozen BK103.out 1))); (have n0_ : Aside0 (((w36.setCell ⟨gb103, 0, none⟩ (.int .i64 ((rd_T140 l0_0 x20_2).f0))).setCell ⟨gb103, 1, none⟩ (.int .i64 ((rd_T140 l0_0 x20_2).f1))).heap[gb101]? = some (.cells #[.slice (some ad102) l0_0.length c0_0, .slice A0_1 l0_1.length c0_1] 61 (0, 0))) := ⟨by (with_reducible repeat (first | refine kN ?_ _ | refine kD ?_ | refine kA ?_ _)); refine blk_far ?_ NB101_103.out _; (with_reducible repeat (first | refine kN ?_ _ | refine kD ?_ | refine kA ?_ _)); refine blk_far ?_ NB101_103.out _; (with_reducible repeat (first | refine kN ?_ _ | refine kD ?_ | refine kA ?_ _)); exact BK101.out⟩); (have n1_ : Aside0 (((w36.setCell ⟨gb103, 0, none⟩ (.int .i64 ((rd_T140 l0_0 x20_2).f0))).setCell ⟨gb103, 1, none⟩ (.int .i64 ((rd_T140 l0_0 x20_2).f1))).heap[gb103]? = some (.cells #[.int .i64 ((rd_T140 l0_0 x20_2).f0), .int .i64 ((rd_T140 l0_0 x20_2).f1)] 140 (0, 0))) := ⟨by (with_reducible repeat (first | refine kN ?_ _ | refine kD ?_ | refine kA ?_ _)); refine blk_put (cs := #[.int .i64 ((rd_T140 l0_0 x20_2).f0), .int .i64 0]) ?_ 1 _ rfl; (with_reducible repeat (first | refine kN ?_ _ | refine kD ?_ | refine kA ?_ _)); refine blk_put (cs := #[.int .i64 0, .int .i64 0]) ?_ 0 _ rfl; (with_reducible repeat (first | refine kN ?_ _ | refine kD ?_ | refine kA ?_ _)); exact BK103.out⟩); (have n2_ : Aside0 (Below w.heap.size w ((w36.setCell ⟨gb103, 0, none⟩ (.int .i64 ((rd_T140 l0_0 x20_2).f0))).setCell ⟨gb103, 1, none⟩ (.int .i64 ((rd_T140 l0_0 x20_2).f1)))) := ⟨by repeat (first | (with_reducible first | exact HB.out | apply bA | apply bN | apply bD | refine below_set ?_ GE101.out | refine below_set ?_ GE103.out) | exact HB.out)⟩); ((try clear BK101)); ((try clear BK103)); ((try clear HB)); (generalize ((w36.setCell ⟨gb103, 0, none⟩ (.int .i64 ((rd_T140 l0_0 x20_2).f0))).setCell ⟨gb103, 1, none⟩ (.int .i64 ((rd_T140 l0_0 x20_2).f1))) = w39 at n0_ n1_ n2_ ⊢); (have BK101 := n0_); (have BK103 := n1_); (have HB := n2_); clear n0_ n1_ n2_; (have n0_ := Aside0.mk (blk_drew BK101.out)); (have n1_ := Aside0.mk (blk_drew BK103.out)); (have n2_ := Aside0.mk (below_drew1 HB.out)); clear BK101 BK103 HB; (have BK101 := n0_); (have BK103 := n1_); (have HB := n2_); clear n0_ n1_ n2_; (refine start_ (n := 26) (S := fun w' => w'.cell? ⟨gb103, 0, none⟩ = some (.int .i64 ((rd_T140 l0_0 x20_2).f0)) ∧ w'.cell? ⟨gb103, 1, none⟩ = some (.int .i64 ((rd_T140 l0_0 x20_2).f1))) (ds := []) (cn 26 0) (by kernel_rfl) rfl (by kernel_rfl) ⟨cz BK103.out 0, cz BK103.out 1⟩ (fun hHeld => ?_); refine with_tabW impl_IsValidRecord.tab6 impl_IsValidRecord.bits6 (fun HT_ HW_ => ?_)); (generalize w39.drew = w40 at BK101 BK103 HB hHeld ⊢); (refine pB 0 (cn 26 1) (some 25) HT_ (h := ?_)); (refine tB 1 (cn 26 2) (some 26) HT_ HW_ hHeld (h := ?_)); (refine oN 2 (some 27) (cn 26 3) HT_ (fun K hK => ?_)); (refine gG Try.func153 #[.int .i64 ((rd_T140 l0_0 x20_2).f0)] ?_)
           (with_reducible refine (impl_isNumber.calls ((rd_T140 l0_0 x20_2).f0) true _ A12.out).mono ?_); (rintro e w' ⟨rfl, ⟨nd, rfl⟩⟩); (refine ⟨_, rfl, ?_⟩); (refine hK.out _ _ ⟨cz BK103.out 0, cz BK103.out 1⟩ (fun hHeld => ?_)); clear hK K; (refine nP (some 27) (h := ?_)); (refine pB 3 (cn 26 4) (some 28) HT_ (h := ?_)); (refine pB 4 (cn 26 5) (some 29) HT_ (h := ?_)); (refine pB 5 (cn 26 6) (some 30) HT_ (h := ?_)); (refine tB 6 (cn 26 7) (some 31) HT_ HW_ hHeld (h := ?_)); (refine oN 7 (some 32) (cn 26 8) HT_ (fun K hK => ?_)); (refine gG Try.func154 #[.int .i64 ((rd_T140 l0_0 x20_2).f1)] ?_); (with_reducible refine (impl_isKind.calls ((rd_T140 l0_0 x20_2).f1) false _ A14.out).mono ?_); (rintro e w' ⟨rfl, ⟨nd, rfl⟩⟩); (refine ⟨_, rfl, ?_⟩); (refine hK.out _ _ ⟨cz BK103.out 0, cz BK103.out 1⟩ (fun hHeld => ?_)); clear hK K; (refine nP (some 32) (h := ?_)); (refine pB 8 (cn 26 9) (some 33) HT_ (h := ?_)); (refine pB 9 (cn 26 10) (some 34) HT_ (h := ?_)); (refine pB 10 (cn 26 11) (some 35) HT_ (h := ?_)); (refine pU 11 (cn 26 12) (some 36) HT_ (h := ?_)); (refine pU 12 (cn 26 13) (some 37) HT_ (h := ?_)); (refine pU 13 (cn 26 14) (some 38) HT_ (h := ?_)); (refine pU 14 (cn 26 15) (some 39) HT_ (h := ?_)); (refine pU 15 (cn 26 16) (some 40) HT_ (h := ?_)); (refine pU 16 (cn 26 17) (some 41) HT_ (h := ?_)); (refine pU 17 (cn 26 18) (some 42) HT_ (h := ?_)); (refine pU 18 (cn 26 19) (some 43) HT_ (h := ?_)); (refine pU 19 (cn 26 20) (some 44) HT_ (h := ?_))
           (refine pU 20 (cn 26 21) (some 45) HT_ (h := ?_)); (refine pU 21 (cn 26 22) (some 46) HT_ (h := ?_)); (refine pU 22 (cn 26 23) (some 47) HT_ (h := ?_)); (refine pU 23 (cn 26 24) (some 48) HT_ (h := ?_)); (refine pU 24 (cn 26 25) (some 49) HT_ (h := ?_)); (refine pB 25 (cn 26 26) (some 50) HT_ (h := ?_)); (refine done_ (done_of HT_.out (by kernel_rfl)) ?_); (try go_wp2); go_ret; (exact ⟨rfl, eI HB⟩)
         ·replace c13 := Bool.eq_false_iff.mpr c13
          subst c13; (rw [if_neg (show ¬ (false = true) by decide)] at H); (obtain rfl := Option.some.inj H); (have p102 : 0 ≤ (x20_2 : Int) := odt); (have q102 : x20_2 < (l0_0.length : Int) := odt); (obtain ⟨ad102, e102, hx102_0, hx102_1⟩ := at_T140 HR0_0.out x20_2 p102 q102); (cases e102); (replace hx102_0 := hcI HB hx102_0); (replace hx102_1 := hcI HB hx102_1); (replace p102 := eq_true p102); (replace q102 := eq_true q102); (try go_wp2_with (first | ((with_reducible refine gate_dst (N := 4) rfl ?_); refine box_event ?hg (N := 4) ?hd (cs := #[.int .i64 0, .int .i64 0]) (t := 140) ?hr ?_; (case hd => rfl); (case hg => rfl); (case hr => first | (go_simp; done) | (go_simp; rfl)); intro gb103 hg w41 hbox hb; have n0_ := Aside0.mk (kbI hb BK101); have hB_ := zI hb HB; have n1_ := Aside0.mk (below_step hB_ hb); have n2_ := Aside0.mk (hbox); have n3_ := Aside0.mk (bx0 hg hB_); have n4_ := n3_; have n5_ := Aside0.mk ((by rw [hg]; exact Nat.ne_of_lt (blk_lt (kI BK101)) : gb101 ≠ gb103)); have n6_ := Aside0.mk (Ne.symm n5_.out); clear BK101 HB; have BK101 := n0_; have HB := n1_; have BK103 := n2_; have GW103 := n3_; have GE103 := n4_; have NB101_103 := n5_; have NB103_101 := n6_; clear n0_ n1_ n2_ n3_ n4_ n5_ n6_ hB_ hb hbox hg; have hnb42 := NB103_101.out; have hnc42 := NB101_103.out; have hcz43_0 := cz BK103.out 0; have hcz43_1 := cz BK103.out 1; have hfz43_0 := blk_frozen BK103.out 0; have hfz43_1 := blk_frozen BK103.out 1))); (have n0_ : Aside0 (((w41.setCell ⟨gb103, 0, none⟩ (.int .i64 ((rd_T140 l0_0 x20_2).f0))).setCell ⟨gb103, 1, none⟩ (.int .i64 ((rd_T140 l0_0 x20_2).f1))).heap[gb101]? = some (.cells #[.slice (some ad102) l0_0.length c0_0, .slice A0_1 l0_1.length c0_1] 61 (0, 0))) := ⟨by (with_reducible repeat (first | refine kN ?_ _ | refine kD ?_ | refine kA ?_ _)); refine blk_far ?_ NB101_103.out _; (with_reducible repeat (first | refine kN ?_ _ | refine kD ?_ | refine kA ?_ _)); refine blk_far ?_ NB101_103.out _; (with_reducible repeat (first | refine kN ?_ _ | refine kD ?_ | refine kA ?_ _)); exact BK101.out⟩); (have n1_ : Aside0 (((w41.setCell ⟨gb103, 0, none⟩ (.int .i64 ((rd_T140 l0_0 x20_2).f0))).setCell ⟨gb103, 1, none⟩ (.int .i64 ((rd_T140 l0_0 x20_2).f1))).heap[gb103]? = some (.cells #[.int .i64 ((rd_T140 l0_0 x20_2).f0), .int .i64 ((rd_T140 l0_0 x20_2).f1)] 140 (0, 0))) := ⟨by (with_reducible repeat (first | refine kN ?_ _ | refine kD ?_ | refine kA ?_ _)); refine blk_put (cs := #[.int .i64 ((rd_T140 l0_0 x20_2).f0), .int .i64 0]) ?_ 1 _ rfl; (with_reducible repeat (first | refine kN ?_ _ | refine kD ?_ | refine kA ?_ _)); refine blk_put (cs := #[.int .i64 0, .int .i64 0]) ?_ 0 _ rfl; (with_reducible repeat (first | refine kN ?_ _ | refine kD ?_ | refine kA ?_ _)); exact BK103.out⟩); (have n2_ : Aside0 (Below w.heap.size w ((w41.setCell ⟨gb103, 0, none⟩ (.int .i64 ((rd_T140 l0_0 x20_2).f0))).setCell ⟨gb103, 1, none⟩ (.int .i64 ((rd_T140 l0_0 x20_2).f1)))) := ⟨by repeat (first | (with_reducible first | exact HB.out | apply bA | apply bN | apply bD | refine below_set ?_ GE101.out | refine below_set ?_ GE103.out) | exact HB.out)⟩); ((try clear BK101)); ((try clear BK103)); ((try clear HB)); (generalize ((w41.setCell ⟨gb103, 0, none⟩ (.int .i64 ((rd_T140 l0_0 x20_2).f0))).setCell ⟨gb103, 1, none⟩ (.int .i64 ((rd_T140 l0_0 x20_2).f1))) = w44 at n0_ n1_ n2_ ⊢); (have BK101 := n0_); (have BK103 := n1_); (have HB := n2_); clear n0_ n1_ n2_; (have n0_ := Aside0.mk (blk_drew BK101.out)); (have n1_ := Aside0.mk (blk_drew BK103.out)); (have n2_ := Aside0.mk (below_drew1 HB.out)); clear BK101 BK103 HB; (have BK101 := n0_); (have BK103 := n1_); (have HB := n2_); clear n0_ n1_ n2_; (refine start_ (n := 26) (S := fun w' => w'.cell? ⟨gb103, 0, none⟩ = some (.int .i64 ((rd_T140 l0_0 x20_2).f0)) ∧ w'.cell? ⟨gb103, 1, none⟩ = some (.int .i64 ((rd_T140 l0_0 x20_2).f1))) (ds := []) (cn 26 0) (by kernel_rfl) rfl (by kernel_rfl) ⟨cz BK103.out 0, cz BK103.out 1⟩ (fun hHeld => ?_); refine with_tabW impl_IsValidRecord.tab6 impl_IsValidRecord.bits6 (fun HT_ HW_ => ?_)); (generalize w44.drew = w45 at BK101 BK103 HB hHeld ⊢); (refine pB 0 (cn 26 1) (some 25) HT_ (h := ?_)); (refine tB 1 (cn 26 2) (some 26) HT_ HW_ hHeld (h := ?_)); (refine oN 2 (some 27) (cn 26 3) HT_ (fun K hK => ?_)); (refine gG Try.func153 #[.int .i64 ((rd_T140 l0_0 x20_2).f0)] ?_)
          (with_reducible refine (impl_isNumber.calls ((rd_T140 l0_0 x20_2).f0) false _ A12.out).mono ?_); (rintro e w' ⟨rfl, ⟨nd, rfl⟩⟩); (refine ⟨_, rfl, ?_⟩); (refine hK.out _ _ ⟨cz BK103.out 0, cz BK103.out 1⟩ (fun hHeld => ?_)); clear hK K; (refine nP (some 27) (h := ?_)); (refine pB 3 (cn 26 4) (some 28) HT_ (h := ?_)); (refine pB 4 (cn 26 5) (some 29) HT_ (h := ?_)); (refine pU 5 (cn 26 6) (some 30) HT_ (h := ?_)); (refine pU 6 (cn 26 7) (some 31) HT_ (h := ?_)); (refine pU 7 (cn 26 8) (some 32) HT_ (h := ?_)); (refine pU 8 (cn 26 9) (some 33) HT_ (h := ?_)); (refine pB 9 (cn 26 10) (some 34) HT_ (h := ?_)); (refine pB 10 (cn 26 11) (some 35) HT_ (h := ?_)); (refine pU 11 (cn 26 12) (some 36) HT_ (h := ?_)); (refine pU 12 (cn 26 13) (some 37) HT_ (h := ?_)); (refine pU 13 (cn 26 14) (some 38) HT_ (h := ?_)); (refine pU 14 (cn 26 15) (some 39) HT_ (h := ?_)); (refine pU 15 (cn 26 16) (some 40) HT_ (h := ?_)); (refine pU 16 (cn 26 17) (some 41) HT_ (h := ?_)); (refine pU 17 (cn 26 18) (some 42) HT_ (h := ?_)); (refine pU 18 (cn 26 19) (some 43) HT_ (h := ?_)); (refine pU 19 (cn 26 20) (some 44) HT_ (h := ?_)); (refine pU 20 (cn 26 21) (some 45) HT_ (h := ?_)); (refine pU 21 (cn 26 22) (some 46) HT_ (h := ?_)); (refine pU 22 (cn 26 23) (some 47) HT_ (h := ?_))
          (refine pU 23 (cn 26 24) (some 48) HT_ (h := ?_)); (refine pU 24 (cn 26 25) (some 49) HT_ (h := ?_)); (refine pB 25 (cn 26 26) (some 50) HT_ (h := ?_)); (refine done_ (done_of HT_.out (by kernel_rfl)) ?_); (try go_wp2); go_ret; (exact ⟨rfl, eI HB⟩)
        ·rw [if_neg c11] at H
         exact absurd H (by simp)
       ·rw [if_neg c10] at H
        exact absurd H (by simp)
      ·rw [if_neg c9] at H
       (have c9b0 := decide_eq_false c9); clear c9; (have H' := Aside0.mk H); clear H; (have hcz46_0 := cz BK101.out 0); (have hcz46_1 := cz BK101.out 1); (have hfz46_0 := blk_frozen BK101.out 0); (have hfz46_1 := blk_frozen BK101.out 1); (go_wp2); (go_loopg [55] k2 (fun kq v55 w' => ∃ (x55_3 : Int), v55 = .int .i64 x55_3 ∧ Aside0 (impl_IsValidRecord.l1 kq l0_1 (l0_1.length : Int) x55_3 l0_0 l0_1 = some r) ∧ Aside0 (kq ≤ k2) ∧ Aside0 (w'.heap[gb101]? = some (.cells #[(.slice A0_0 l0_0.length c0_0), (.slice A0_1 l0_1.length c0_1)] 61 (0, 0))) ∧ Aside0 (Below w.heap.size w w')))
       case atStart => exact ⟨(0), (by first | rfl | (simp; done) | (simp [*]; done)), H', ⟨Nat.le_refl _⟩, ⟨kI BK101⟩, ⟨eI HB⟩⟩
       case round =>
        (clear H'); (try clear c1); (try clear p1); (try clear q1); (try clear hx1); (try clear p2); (try clear c3); (try clear c4); (try clear p6); (try clear c9); (try clear c9b0); (try clear c10); (try clear p10); (try clear q10); (try clear hx10); (try clear c11); (try clear c13); (try clear c15); (try clear c37); (try clear c42); (try clear hcz38_0); (try clear hcz38_1); (try clear hcz43_0); (try clear hcz43_1); (try clear hcz46_0); (try clear hcz46_1); (try clear hfz38_0); (try clear hfz38_1); (try clear hfz43_0); (try clear hfz43_1); (try clear hfz46_0); (try clear hfz46_1); (try clear hx102_0); (try clear hx102_1); (try clear p102); (try clear q102); (obtain ⟨x55_3, rfl, HA, HK3, BK101, HB⟩ := hrel)
        cases gk with
        | zero => exact absurd HA.out (by simp [impl_IsValidRecord.l1])
        | succ k3 =>
         (have H := HA.out); clear HA; (simp only [impl_IsValidRecord.l1] at H); (by_cases c47 : x55_3 < (l0_1.length : Int))
         ·rw [if_pos c47] at H
          (have c47b0 := decide_eq_true c47); clear c47; (by_cases c48 : 0 ≤ x55_3)
          ·rw [if_pos c48] at H
           (have c48b0 := decide_eq_true c48); clear c48; (by_cases c49 : x55_3 < (l0_1.length : Int))
           ·rw [if_pos c49] at H
            (have c49b0 := decide_eq_true c49); clear c49; (have HC50 := Aside0.mk H); clear H; (have p107 : 0 ≤ (x55_3 : Int) := odt); (have q107 : x55_3 < (l0_1.length : Int) := odt); (obtain ⟨ad107, e107, hx107_0, hx107_1⟩ := at_T144 HR0_1.out x55_3 p107 q107); (cases e107); (replace hx107_0 := hcI HB hx107_0); (replace hx107_1 := hcI HB hx107_1); (replace p107 := eq_true p107); (replace q107 := eq_true q107); (go_upto_region 12 with (first | ((with_reducible refine gate_dst (N := 6) rfl ?_); refine box_event ?hg (N := 6) ?hd (cs := #[.int .i64 0, .int .i64 0]) (t := 144) ?hr ?_; (case hd => rfl); (case hg => rfl); (case hr => first | (go_simp; done) | (go_simp; rfl)); intro gb108 hg w51 hbox hb; have n0_ := Aside0.mk (kbI hb BK101); have hB_ := zI hb HB; have n1_ := Aside0.mk (below_step hB_ hb); have n2_ := Aside0.mk (hbox); have n3_ := Aside0.mk (bx0 hg hB_); have n4_ := n3_; have n5_ := Aside0.mk ((by rw [hg]; exact Nat.ne_of_lt (blk_lt (kI BK101)) : gb101 ≠ gb108)); have n6_ := Aside0.mk (Ne.symm n5_.out); clear BK101 HB; have BK101 := n0_; have HB := n1_; have BK108 := n2_; have GW108 := n3_; have GE108 := n4_; have NB101_108 := n5_; have NB108_101 := n6_; clear n0_ n1_ n2_ n3_ n4_ n5_ n6_ hB_ hb hbox hg; have hnb52 := NB108_101.out; have hnc52 := NB101_108.out; have hcz53_0 := cz BK108.out 0; have hcz53_1 := cz BK108.out 1; have hfz53_0 := blk_frozen BK108.out 0; have hfz53_1 := blk_frozen BK108.out 1))); ((try simp only [Act.put, aS1, aS2, aS3])); (go_cut [78] (fun v78 wc => ∃ (kq : Nat) (x78_49 : Bool), v78 = .bool x78_49 ∧ Aside0 (impl_IsValidRecord.j3 kq x55_3 l0_1 (l0_1.length : Int) x55_3 x78_49 l0_0 l0_1 ((rd_T144 l0_1 x55_3).f0) ((rd_T144 l0_1 x55_3).f1) = some r) ∧ Aside0 (kq ≤ k3) ∧ Aside0 (wc.heap[gb101]? = some (.cells #[(.slice A0_0 l0_0.length c0_0), (.slice (some ad107) l0_1.length c0_1)] 61 (0, 0))) ∧ Aside0 (wc.heap[gb108]? = some (.cells #[.int .i64 ((rd_T144 l0_1 x55_3).f0), .int .i64 ((rd_T144 l0_1 x55_3).f1)] 144 (0, 0))) ∧ Aside0 (Below w.heap.size w wc)))
            case first =>
             (have H := HC50.out); clear HC50; (by_cases c54 : ((rd_T144 l0_1 x55_3).f0) = ((rd_T144 l0_1 x55_3).f1))
             ·rw [if_pos c54] at H
              (have c54b0 : (((rd_T144 l0_1 x55_3).f0) == ((rd_T144 l0_1 x55_3).f1)) = true := beq_iff_eq.mpr c54); (have c54b1 : (((rd_T144 l0_1 x55_3).f0) != ((rd_T144 l0_1 x55_3).f1)) = false := bne_eq_false_iff_eq.mpr c54); clear c54; ((first | rw [c54b0] | (simp only [i64_w, i32_w]; rw [c54b0]) | skip)); (have H' := Aside0.mk H); clear H; (have hnb55 := NB108_101.out); (have hnc55 := NB101_108.out); (have hcz56_0 := cz BK108.out 0); (have hcz56_1 := cz BK108.out 1); (have hfz56_0 := blk_frozen BK108.out 0); (have hfz56_1 := blk_frozen BK108.out 1); (go_wp2); (go_meet)
              case rel => exact ⟨_, (true), (by first | rfl | (simp; done) | (simp [*]; done)), H', ⟨by have := HJ1.out; have := HK2.out; have := HK3.out; first | omega | exact Nat.le_refl _⟩, ⟨by (with_reducible repeat (first | refine kN ?_ _ | refine kD ?_ | refine kA ?_ _)); refine blk_far ?_ NB101_108.out _; (with_reducible repeat (first | refine kN ?_ _ | refine kD ?_ | refine kA ?_ _)); refine blk_far ?_ NB101_108.out _; (with_reducible repeat (first | refine kN ?_ _ | refine kD ?_ | refine kA ?_ _)); exact BK101.out⟩, ⟨by (with_reducible repeat (first | refine kN ?_ _ | refine kD ?_ | refine kA ?_ _)); refine blk_put (cs := #[.int .i64 ((rd_T144 l0_1 x55_3).f0), .int .i64 0]) ?_ 1 _ rfl; (with_reducible repeat (first | refine kN ?_ _ | refine kD ?_ | refine kA ?_ _)); refine blk_put (cs := #[.int .i64 0, .int .i64 0]) ?_ 0 _ rfl; (with_reducible repeat (first | refine kN ?_ _ | refine kD ?_ | refine kA ?_ _)); exact BK108.out⟩, ⟨by repeat (first | (with_reducible first | exact HB.out | apply bA | apply bN | apply bD | refine below_set ?_ GE101.out | refine below_set ?_ GE108.out) | exact HB.out)⟩⟩
             ·rw [if_neg c54] at H
              (have c54b0 : (((rd_T144 l0_1 x55_3).f0) == ((rd_T144 l0_1 x55_3).f1)) = false := beq_eq_false_iff_ne.mpr c54); (have c54b1 : (((rd_T144 l0_1 x55_3).f0) != ((rd_T144 l0_1 x55_3).f1)) = true := bne_iff_ne.mpr c54); ((first | rw [c54b0] | (simp only [i64_w, i32_w]; rw [c54b0]) | skip)); (replace H := obS H); (obtain ⟨t109, A57, H⟩ := H); (by_cases c58 : t109 < 0)
              ·rw [if_pos c58] at H
               (have c58b0 := decide_eq_true c58); clear c58; (have H' := Aside0.mk H); clear H; (have hnb59 := NB108_101.out); (have hnc59 := NB101_108.out); (have hcz60_0 := cz BK108.out 0); (have hcz60_1 := cz BK108.out 1); (have hfz60_0 := blk_frozen BK108.out 0); (have hfz60_1 := blk_frozen BK108.out 1); (have hcz61_0 := cz BK101.out 0); (have hcz61_1 := cz BK101.out 1); (have hfz61_0 := blk_frozen BK101.out 0); (have hfz61_1 := blk_frozen BK101.out 1); (go_wp2_with (first | (go_at_call 152; (with_reducible refine (impl_indexOf.calls _ _ l0_0 _ _ l0_1 ((rd_T144 l0_1 x55_3).f0) t109 _ ?side1 ?side2 ?side3 ?side4 A57.out).mono ?_); (case side1 => exact Kd.C_below HR0_0.out (by repeat (first | (with_reducible first | exact HB.out | apply bA | apply bN | apply bD | refine below_set ?_ GE101.out | refine below_set ?_ GE108.out) | exact HB.out))); (case side2 => exact HC0_0.out); (case side3 => exact Kd.C_below HR0_1.out (by repeat (first | (with_reducible first | exact HB.out | apply bA | apply bN | apply bD | refine below_set ?_ GE101.out | refine below_set ?_ GE108.out) | exact HB.out))); (case side4 => exact HC0_1.out); rintro e w62 ⟨rfl, hb⟩; have n0_ := Aside0.mk (blk_below (g := gb101) (o := .cells #[.slice A0_0 l0_0.length c0_0, .slice (some ad107) l0_1.length c0_1] 61 (0, 0)) (by (with_reducible repeat (first | refine kN ?_ _ | refine kD ?_ | refine kA ?_ _)); refine blk_far ?_ NB101_108.out _; (with_reducible repeat (first | refine kN ?_ _ | refine kD ?_ | refine kA ?_ _)); refine blk_far ?_ NB101_108.out _; (with_reducible repeat (first | refine kN ?_ _ | refine kD ?_ | refine kA ?_ _)); exact BK101.out) hb); have n1_ := Aside0.mk (blk_below (g := gb108) (o := .cells #[.int .i64 ((rd_T144 l0_1 x55_3).f0), .int .i64 ((rd_T144 l0_1 x55_3).f1)] 144 (0, 0)) (by (with_reducible repeat (first | refine kN ?_ _ | refine kD ?_ | refine kA ?_ _)); refine blk_put (cs := #[.int .i64 ((rd_T144 l0_1 x55_3).f0), .int .i64 0]) ?_ 1 _ rfl; (with_reducible repeat (first | refine kN ?_ _ | refine kD ?_ | refine kA ?_ _)); refine blk_put (cs := #[.int .i64 0, .int .i64 0]) ?_ 0 _ rfl; (with_reducible repeat (first | refine kN ?_ _ | refine kD ?_ | refine kA ?_ _)); exact BK108.out) hb); have n2_ := Aside0.mk (below_step (by repeat (first | (with_reducible first | exact HB.out | apply bA | apply bN | apply bD | refine below_set ?_ GE101.out | refine below_set ?_ GE108.out) | exact HB.out)) hb); clear BK101 BK108 HB; have BK101 := n0_; have BK108 := n1_; have HB := n2_; clear n0_ n1_ n2_; (try clear hb); (try clear hb2); (try clear hk); (try clear hi)))); (go_meet)
               case rel => exact ⟨_, (true), (by first | rfl | (simp; done) | (simp [*]; done)), H', ⟨by have := HJ1.out; have := HK2.out; have := HK3.out; first | omega | exact Nat.le_refl _⟩, ⟨kI BK101⟩, ⟨kI BK108⟩, ⟨eI HB⟩⟩
              ·rw [if_neg c58] at H
               (have c58b0 := decide_eq_false c58); clear c58; (replace H := Option.bind_eq_some_iff.mp H); (obtain ⟨t110, A630, H⟩ := H); (have A63 := Aside0.mk A630); clear A630; (have H' := Aside0.mk H); clear H; (have hnb64 := NB108_101.out); (have hnc64 := NB101_108.out); (have hcz65_0 := cz BK108.out 0); (have hcz65_1 := cz BK108.out 1); (have hfz65_0 := blk_frozen BK108.out 0); (have hfz65_1 := blk_frozen BK108.out 1); (have hcz66_0 := cz BK101.out 0); (have hcz66_1 := cz BK101.out 1); (have hfz66_0 := blk_frozen BK101.out 0); (have hfz66_1 := blk_frozen BK101.out 1); (go_wp2_with (first | (go_at_call 152; (with_reducible refine (impl_indexOf.calls _ _ l0_0 _ _ l0_1 ((rd_T144 l0_1 x55_3).f0) t109 _ ?side1 ?side2 ?side3 ?side4 A57.out).mono ?_); (case side1 => exact Kd.C_below HR0_0.out (by repeat (first | (with_reducible first | exact HB.out | apply bA | apply bN | apply bD | refine below_set ?_ GE101.out | refine below_set ?_ GE108.out) | exact HB.out))); (case side2 => exact HC0_0.out); (case side3 => exact Kd.C_below HR0_1.out (by repeat (first | (with_reducible first | exact HB.out | apply bA | apply bN | apply bD | refine below_set ?_ GE101.out | refine below_set ?_ GE108.out) | exact HB.out))); (case side4 => exact HC0_1.out); rintro e w67 ⟨rfl, hb⟩; have n0_ := Aside0.mk (blk_below (g := gb101) (o := .cells #[.slice A0_0 l0_0.length c0_0, .slice (some ad107) l0_1.length c0_1] 61 (0, 0)) (by (with_reducible repeat (first | refine kN ?_ _ | refine kD ?_ | refine kA ?_ _)); refine blk_far ?_ NB101_108.out _; (with_reducible repeat (first | refine kN ?_ _ | refine kD ?_ | refine kA ?_ _)); refine blk_far ?_ NB101_108.out _; (with_reducible repeat (first | refine kN ?_ _ | refine kD ?_ | refine kA ?_ _)); exact BK101.out) hb); have n1_ := Aside0.mk (blk_below (g := gb108) (o := .cells #[.int .i64 ((rd_T144 l0_1 x55_3).f0), .int .i64 ((rd_T144 l0_1 x55_3).f1)] 144 (0, 0)) (by (with_reducible repeat (first | refine kN ?_ _ | refine kD ?_ | refine kA ?_ _)); refine blk_put (cs := #[.int .i64 ((rd_T144 l0_1 x55_3).f0), .int .i64 0]) ?_ 1 _ rfl; (with_reducible repeat (first | refine kN ?_ _ | refine kD ?_ | refine kA ?_ _)); refine blk_put (cs := #[.int .i64 0, .int .i64 0]) ?_ 0 _ rfl; (with_reducible repeat (first | refine kN ?_ _ | refine kD ?_ | refine kA ?_ _)); exact BK108.out) hb); have n2_ := Aside0.mk (below_step (by repeat (first | (with_reducible first | exact HB.out | apply bA | apply bN | apply bD | refine below_set ?_ GE101.out | refine below_set ?_ GE108.out) | exact HB.out)) hb); clear BK101 BK108 HB; have BK101 := n0_; have BK108 := n1_; have HB := n2_; clear n0_ n1_ n2_; (try clear hb); (try clear hb2); (try clear hk); (try clear hi); have hcz68_0 := cz BK101.out 0; have hcz68_1 := cz BK101.out 1; have hfz68_0 := blk_frozen BK101.out 0; have hfz68_1 := blk_frozen BK101.out 1; have hcz69_0 := cz BK108.out 0; have hcz69_1 := cz BK108.out 1; have hfz69_0 := blk_frozen BK108.out 0; have hfz69_1 := blk_frozen BK108.out 1) | (go_at_call 152; (with_reducible refine (impl_indexOf.calls _ _ l0_0 _ _ l0_1 ((rd_T144 l0_1 x55_3).f1) t110 _ ?side1 ?side2 ?side3 ?side4 A63.out).mono ?_); (case side1 => repeat (first | exact (Kd.C_below HR0_0.out HB.out) | (with_reducible first | refine cA ?_ _ | refine cN ?_ _ | refine cD ?_))); (case side2 => exact HC0_0.out); (case side3 => repeat (first | exact (Kd.C_below HR0_1.out HB.out) | (with_reducible first | refine cA ?_ _ | refine cN ?_ _ | refine cD ?_))); (case side4 => exact HC0_1.out); rintro e w70 ⟨rfl, hb⟩; have n0_ := Aside0.mk (blk_below (by (with_reducible repeat (first | refine kN ?_ _ | refine kD ?_ | refine kA ?_ _)); exact BK101.out) hb); have n1_ := Aside0.mk (blk_below (by (with_reducible repeat (first | refine kN ?_ _ | refine kD ?_ | refine kA ?_ _)); exact BK108.out) hb); have n2_ := Aside0.mk (below_step (by repeat (first | (with_reducible first | exact HB.out | apply bA | apply bN | apply bD | refine below_set ?_ GE101.out | refine below_set ?_ GE108.out) | exact HB.out)) hb); clear BK101 BK108 HB; have BK101 := n0_; have BK108 := n1_; have HB := n2_; clear n0_ n1_ n2_; (try clear hb); (try clear hb2); (try clear hk); (try clear hi)))); (go_meet)
               case rel => exact ⟨_, (decide (t110 < 0)), (by first | rfl | (simp; done) | (simp [*]; done)), H', ⟨by have := HJ1.out; have := HK2.out; have := HK3.out; first | omega | exact Nat.le_refl _⟩, ⟨kI BK101⟩, ⟨kI BK108⟩, ⟨eI HB⟩⟩
            case rest =>
             clear HC50; (try clear c1); (try clear p1); (try clear q1); (try clear hx1); (try clear p2); (try clear c3); (try clear c4); (try clear c5); (try clear c6); (try clear p6); (try clear c9); (try clear c9b0); (try clear c10); (try clear p10); (try clear q10); (try clear hx10); (try clear c11); (try clear c13); (try clear c15); (try clear c37); (try clear c42); (try clear c47); (try clear c47b0); (try clear c48); (try clear c48b0); (try clear c49); (try clear c49b0); (try clear c52); (try clear c54); (try clear c54b0); (try clear c54b1); (try clear c55); (try clear c58); (try clear c58b0); (try clear c59); (try clear c64); (try clear p64); (try clear hcz38_0); (try clear hcz38_1); (try clear hcz43_0); (try clear hcz43_1); (try clear hcz46_0); (try clear hcz46_1); (try clear hcz53_0); (try clear hcz53_1); (try clear hcz56_0); (try clear hcz56_1); (try clear hcz60_0); (try clear hcz60_1); (try clear hcz61_0); (try clear hcz61_1); (try clear hcz65_0); (try clear hcz65_1); (try clear hcz66_0); (try clear hcz66_1); (try clear hcz68_0); (try clear hcz68_1); (try clear hcz69_0); (try clear hcz69_1); (try clear hfz38_0); (try clear hfz38_1); (try clear hfz43_0); (try clear hfz43_1); (try clear hfz46_0); (try clear hfz46_1); (try clear hfz53_0); (try clear hfz53_1); (try clear hfz56_0); (try clear hfz56_1); (try clear hfz60_0); (try clear hfz60_1); (try clear hfz61_0); (try clear hfz61_1); (try clear hfz65_0); (try clear hfz65_1); (try clear hfz66_0); (try clear hfz66_1); (try clear hfz68_0); (try clear hfz68_1); (try clear hfz69_0); (try clear hfz69_1); (try clear hx102_0); (try clear hx102_1); (try clear hx107_0); (try clear hx107_1); (try clear p1); (try clear p10); (try clear p102); (try clear p107); (try clear p2); (try clear p6); (try clear q1); (try clear q10); (try clear q102); (try clear q107); (obtain ⟨kq, x78_49, rfl, HA, HJ49, BK101, BK108, HB⟩ := hcut)
             cases kq with
             | zero => exact absurd HA.out (by simp [impl_IsValidRecord.j3])
             | succ kj49 =>
              (have H := HA.out); clear HA; (simp only [impl_IsValidRecord.j3] at H); (by_cases c71 : x78_49 = true); (· subst c71; (rw [if_pos rfl] at H); (obtain rfl := Option.some.inj H); (go_wp2); go_ret; (exact ⟨rfl, eI HB⟩))
              ·replace c71 := Bool.eq_false_iff.mpr c71
               subst c71; (rw [if_neg (show ¬ (false = true) by decide)] at H); (by_cases c72 : x55_3 > 0)
               ·rw [if_pos c72] at H
                (have c72b0 : decide (0 < x55_3) = true := decide_eq_true c72); clear c72; (obtain ⟨ji73, hji73⟩ : ∃ j_ : Int, (wrap64 (x55_3 - 1)) = j_ := ⟨_, rfl⟩); (replace H : (if 0 ≤ (ji73) then (if (ji73) < (l0_1.length : Int) then ((impl_compareRelations.f kj49 ((rd_T144 l0_1 (ji73)).f0) ((rd_T144 l0_1 (ji73)).f1) ((rd_T144 l0_1 x55_3).f0) ((rd_T144 l0_1 x55_3).f1)).bind fun t112 => (if t112 ≥ 0 then (some false) else (impl_IsValidRecord.l1 kj49 l0_1 (l0_1.length : Int) (wrap64 (x55_3 + 1)) l0_0 l0_1))) else (none)) else (none)) = some r := by first | (rw [hji73] at H; exact H) | (simp only [hji73] at H ⊢; exact H)); (have hji73w : (IntKind.i64.wrap (x55_3 - 1)) = ji73 := (i64_w _).trans hji73); (by_cases c74 : 0 ≤ (ji73))
                ·rw [if_pos c74] at H
                 (have c74b0 := decide_eq_true c74); clear c74; (by_cases c75 : (ji73) < (l0_1.length : Int))
                 ·rw [if_pos c75] at H
                  (have c75b0 := decide_eq_true c75); clear c75; (replace H := obS H); (obtain ⟨t112, A76, H⟩ := H); (by_cases c77 : t112 ≥ 0)
                  ·rw [if_pos c77] at H
                   (have c77b0 : decide (0 ≤ t112) = true := decide_eq_true c77); clear c77; (obtain rfl := Option.some.inj H); (try go_wp2); (have n0_ := Aside0.mk (blk_drew BK101.out)); (have n1_ := Aside0.mk (blk_drew BK108.out)); (have n2_ := Aside0.mk (below_drew1 HB.out)); clear BK101 BK108 HB; (have BK101 := n0_); (have BK108 := n1_); (have HB := n2_); clear n0_ n1_ n2_; (have p111 : 0 ≤ ((ji73) : Int) := odt); (have q111 : (ji73) < (l0_1.length : Int) := odt); (obtain ⟨ad111, e111, hx111_0, hx111_1⟩ := at_T144 HR0_1.out (ji73) p111 q111); (have hw111_1 := hx111_1); (have hw111_0 := hx111_0); (obtain rfl : ad107 = ad111 := (by injection e111)); (replace hx111_0 := hcI HB hx111_0); (replace hx111_1 := hcI HB hx111_1); (replace p111 := eq_true p111); (replace q111 := eq_true q111); (refine start_ (n := 13) (S := fun w' => w'.cell? ⟨gb101, 0, none⟩ = some (.slice A0_0 l0_0.length c0_0) ∧ w'.cell? ⟨gb101, 1, none⟩ = some (.slice (some ad107) l0_1.length c0_1) ∧ w'.cell? ⟨gb108, 0, none⟩ = some (.int .i64 ((rd_T144 l0_1 x55_3).f0)) ∧ w'.cell? ⟨gb108, 1, none⟩ = some (.int .i64 ((rd_T144 l0_1 x55_3).f1)) ∧ w'.cell? (ad107.add (((ji73)).toNat * 2)) = some (.int .i64 ((rd_T144 l0_1 (ji73)).f0)) ∧ w'.cell? ⟨(ad107.add (((ji73)).toNat * 2)).block, (ad107.add (((ji73)).toNat * 2)).off + 1, none⟩ = some (.int .i64 ((rd_T144 l0_1 (ji73)).f1))) (ds := []) (cn 13 0) (by kernel_rfl) rfl (by kernel_rfl) ⟨cz BK101.out 0, cz BK101.out 1, cz BK108.out 0, cz BK108.out 1, (hcI HB hw111_0), (hcI HB hw111_1)⟩ (fun hHeld => ?_); refine with_tabW impl_IsValidRecord.tab14 impl_IsValidRecord.bits14 (fun HT_ HW_ => ?_)); (generalize wc.drew = w78 at BK101 BK108 HB hx111_0 hx111_1 hHeld ⊢); (refine pB 0 (cn 13 1) (some 79) HT_ (h := ?_)); (refine pB 1 (cn 13 2) (some 80) HT_ (h := ?_)); (refine pB 2 (cn 13 3) (some 81) HT_ (h := ?_)); (refine pB 3 (cn 13 4) (some 82) HT_ (h := ?_)); (refine pB 5 (cb 13 47) (some 84) HT_ (h := ?_)); (refine pB 6 (cb 13 111) (some 85) HT_ (h := ?_)); (refine tB 4 (cn 13 7) (some 83) HT_ HW_ hHeld (h := ?_)); (refine pB 7 (cn 13 8) (some 86) HT_ (h := ?_)); (refine tB 8 (cn 13 9) (some 87) HT_ HW_ hHeld (h := ?_)); (refine tB 9 (cn 13 10) (some 88) HT_ HW_ hHeld (h := ?_)); (refine oN 10 (some 89) (cn 13 11) HT_ (fun K hK => ?_)); (refine goes_ Try.func155 (by kernel_rfl) rfl #[.agg #[.int .i64 ((rd_T144 l0_1 (ji73)).f0), .int .i64 ((rd_T144 l0_1 (ji73)).f1)], .agg #[.int .i64 ((rd_T144 l0_1 x55_3).f0), .int .i64 ((rd_T144 l0_1 x55_3).f1)]] (by rfl) rfl rfl (by (try simp only [aM1, aM2, aM3]); first | done | (simp only [hji73]; rfl) | rfl | (simp only [List.length_drop, List.length_take]; rfl)) ?_)
                   (with_reducible refine (impl_compareRelations.calls kj49 ((rd_T144 l0_1 (ji73)).f0) ((rd_T144 l0_1 (ji73)).f1) ((rd_T144 l0_1 x55_3).f0) ((rd_T144 l0_1 x55_3).f1) t112 _ A76.out).mono ?_); (rintro e w79 ⟨rfl, hb⟩); (refine ⟨_, rfl, ?_⟩); (have n0_ := Aside0.mk (kbI hb BK101)); (have n1_ := Aside0.mk (kbI hb BK108)); (have n2_ := Aside0.mk (sI hb HB)); clear BK101 BK108 HB; (have BK101 := n0_); (have BK108 := n1_); (have HB := n2_); clear n0_ n1_ n2_; ((try clear hb)); ((try clear hb2)); ((try clear hk)); ((try clear hi)); (refine hK.out _ _ ⟨cz BK101.out 0, cz BK101.out 1, cz BK108.out 0, cz BK108.out 1, (hcI HB hw111_0), (hcI HB hw111_1)⟩ (fun hHeld => ?_)); clear hK K; (refine nP (some 89) (h := ?_)); (refine pB 11 (cn 13 12) (some 90) HT_ (h := ?_)); (refine pB 12 (cn 13 13) (some 91) HT_ (h := ?_)); (refine done_ (done_of HT_.out (by kernel_rfl)) ?_); (try go_wp2); go_ret; (exact ⟨by first | rfl | (simp [errW_none, errW_some] <;> rfl) | (simp only [← hji73]; first | rfl | (simp [errW_none, errW_some] <;> rfl)) | (simp [*, errW_none, errW_some] <;> rfl), eI HB⟩)
                  ·rw [if_neg c77] at H
                   (have c77b0 : decide (0 ≤ t112) = false := decide_eq_false c77); clear c77; (have H' := Aside0.mk H); clear H; (try go_wp2); (have n0_ := Aside0.mk (blk_drew BK101.out)); (have n1_ := Aside0.mk (blk_drew BK108.out)); (have n2_ := Aside0.mk (below_drew1 HB.out)); clear BK101 BK108 HB; (have BK101 := n0_); (have BK108 := n1_); (have HB := n2_); clear n0_ n1_ n2_; (have p111 : 0 ≤ ((ji73) : Int) := odt); (have q111 : (ji73) < (l0_1.length : Int) := odt); (obtain ⟨ad111, e111, hx111_0, hx111_1⟩ := at_T144 HR0_1.out (ji73) p111 q111); (have hw111_1 := hx111_1); (have hw111_0 := hx111_0); (obtain rfl : ad107 = ad111 := (by injection e111)); (replace hx111_0 := hcI HB hx111_0); (replace hx111_1 := hcI HB hx111_1); (replace p111 := eq_true p111); (replace q111 := eq_true q111); (refine start_ (n := 13) (S := fun w' => w'.cell? ⟨gb101, 0, none⟩ = some (.slice A0_0 l0_0.length c0_0) ∧ w'.cell? ⟨gb101, 1, none⟩ = some (.slice (some ad107) l0_1.length c0_1) ∧ w'.cell? ⟨gb108, 0, none⟩ = some (.int .i64 ((rd_T144 l0_1 x55_3).f0)) ∧ w'.cell? ⟨gb108, 1, none⟩ = some (.int .i64 ((rd_T144 l0_1 x55_3).f1)) ∧ w'.cell? (ad107.add (((ji73)).toNat * 2)) = some (.int .i64 ((rd_T144 l0_1 (ji73)).f0)) ∧ w'.cell? ⟨(ad107.add (((ji73)).toNat * 2)).block, (ad107.add (((ji73)).toNat * 2)).off + 1, none⟩ = some (.int .i64 ((rd_T144 l0_1 (ji73)).f1))) (ds := []) (cn 13 0) (by kernel_rfl) rfl (by kernel_rfl) ⟨cz BK101.out 0, cz BK101.out 1, cz BK108.out 0, cz BK108.out 1, (hcI HB hw111_0), (hcI HB hw111_1)⟩ (fun hHeld => ?_); refine with_tabW impl_IsValidRecord.tab14 impl_IsValidRecord.bits14 (fun HT_ HW_ => ?_)); (generalize wc.drew = w80 at BK101 BK108 HB hx111_0 hx111_1 hHeld ⊢); (refine pB 0 (cn 13 1) (some 79) HT_ (h := ?_)); (refine pB 1 (cn 13 2) (some 80) HT_ (h := ?_)); (refine pB 2 (cn 13 3) (some 81) HT_ (h := ?_)); (refine pB 3 (cn 13 4) (some 82) HT_ (h := ?_)); (refine pB 5 (cb 13 47) (some 84) HT_ (h := ?_)); (refine pB 6 (cb 13 111) (some 85) HT_ (h := ?_)); (refine tB 4 (cn 13 7) (some 83) HT_ HW_ hHeld (h := ?_)); (refine pB 7 (cn 13 8) (some 86) HT_ (h := ?_)); (refine tB 8 (cn 13 9) (some 87) HT_ HW_ hHeld (h := ?_)); (refine tB 9 (cn 13 10) (some 88) HT_ HW_ hHeld (h := ?_)); (refine oN 10 (some 89) (cn 13 11) HT_ (fun K hK => ?_)); (refine goes_ Try.func155 (by kernel_rfl) rfl #[.agg #[.int .i64 ((rd_T144 l0_1 (ji73)).f0), .int .i64 ((rd_T144 l0_1 (ji73)).f1)], .agg #[.int .i64 ((rd_T144 l0_1 x55_3).f0), .int .i64 ((rd_T144 l0_1 x55_3).f1)]] (by rfl) rfl rfl (by (try simp only [aM1, aM2, aM3]); first | done | (simp only [hji73]; rfl) | rfl | (simp only [List.length_drop, List.length_take]; rfl)) ?_)
                   (with_reducible refine (impl_compareRelations.calls kj49 ((rd_T144 l0_1 (ji73)).f0) ((rd_T144 l0_1 (ji73)).f1) ((rd_T144 l0_1 x55_3).f0) ((rd_T144 l0_1 x55_3).f1) t112 _ A76.out).mono ?_); (rintro e w81 ⟨rfl, hb⟩); (refine ⟨_, rfl, ?_⟩); (have n0_ := Aside0.mk (kbI hb BK101)); (have n1_ := Aside0.mk (kbI hb BK108)); (have n2_ := Aside0.mk (sI hb HB)); clear BK101 BK108 HB; (have BK101 := n0_); (have BK108 := n1_); (have HB := n2_); clear n0_ n1_ n2_; ((try clear hb)); ((try clear hb2)); ((try clear hk)); ((try clear hi)); (refine hK.out _ _ ⟨cz BK101.out 0, cz BK101.out 1, cz BK108.out 0, cz BK108.out 1, (hcI HB hw111_0), (hcI HB hw111_1)⟩ (fun hHeld => ?_)); clear hK K; (refine nP (some 89) (h := ?_)); (refine pB 11 (cn 13 12) (some 90) HT_ (h := ?_)); (refine pB 12 (cn 13 13) (some 91) HT_ (h := ?_)); (refine done_ (done_of HT_.out (by kernel_rfl)) ?_); (try go_wp2); go_roundg kj49
                   case measure => have := HJ1.out; have := HK2.out; have := HK3.out; have := HJ49.out; omega
                   case rel => exact ⟨(wrap64 (x55_3 + 1)), (by first | rfl | (simp; done) | (simp [*]; done)), H', ⟨by have := HJ1.out; have := HK2.out; have := HK3.out; have := HJ49.out; omega⟩, ⟨kI BK101⟩, ⟨eI HB⟩⟩
                 ·rw [if_neg c75] at H
                  exact absurd H (by simp)
                ·rw [if_neg c74] at H
                 exact absurd H (by simp)
               ·rw [if_neg c72] at H
                (have c72b0 : decide (0 < x55_3) = false := decide_eq_false c72); clear c72; (have H' := Aside0.mk H); clear H; (try go_wp2); (have n0_ := Aside0.mk (blk_drew BK101.out)); (have n1_ := Aside0.mk (blk_drew BK108.out)); (have n2_ := Aside0.mk (below_drew1 HB.out)); clear BK101 BK108 HB; (have BK101 := n0_); (have BK108 := n1_); (have HB := n2_); clear n0_ n1_ n2_; (refine start_ (n := 13) (S := fun w' => True) (ds := []) (cn 13 0) (by kernel_rfl) rfl (by kernel_rfl) trivial (fun hHeld => ?_); refine with_tabW impl_IsValidRecord.tab14 impl_IsValidRecord.bits14 (fun HT_ HW_ => ?_)); (generalize wc.drew = w82 at BK101 BK108 HB hHeld ⊢); (refine pB 0 (cn 13 1) (some 79) HT_ (h := ?_)); (refine pB 1 (cn 13 2) (some 80) HT_ (h := ?_)); (refine pB 2 (cn 13 3) (some 81) HT_ (h := ?_)); (refine pU 3 (cn 13 4) (some 82) HT_ (h := ?_)); (refine pU 4 (cn 13 5) (some 83) HT_ (h := ?_)); (refine pU 5 (cn 13 6) (some 84) HT_ (h := ?_)); (refine pU 6 (cn 13 7) (some 85) HT_ (h := ?_)); (refine pU 7 (cn 13 8) (some 86) HT_ (h := ?_)); (refine pU 8 (cn 13 9) (some 87) HT_ (h := ?_)); (refine pU 9 (cn 13 10) (some 88) HT_ (h := ?_)); (refine pU 10 (cn 13 11) (some 89) HT_ (h := ?_)); (refine pU 11 (cn 13 12) (some 90) HT_ (h := ?_)); (refine pB 12 (cn 13 13) (some 91) HT_ (h := ?_)); (refine done_ (done_of HT_.out (by kernel_rfl)) ?_); (try go_wp2); go_roundg kj49
                case measure => have := HJ1.out; have := HK2.out; have := HK3.out; have := HJ49.out; omega
                case rel => exact ⟨(wrap64 (x55_3 + 1)), (by first | rfl | (simp; done) | (simp [*]; done)), H', ⟨by have := HJ1.out; have := HK2.out; have := HK3.out; have := HJ49.out; omega⟩, ⟨kI BK101⟩, ⟨eI HB⟩⟩
           ·rw [if_neg c49] at H
            exact absurd H (by simp)
          ·rw [if_neg c48] at H
           exact absurd H (by simp)
         ·rw [if_neg c47] at H
          (have c47b0 := decide_eq_false c47); clear c47; (obtain rfl := Option.some.inj H); (go_wp2); go_ret; (exact ⟨rfl, eI HB⟩)
/-! ### impl_IsValidReport: function 87 -/
def impl_IsValidReport.l0 : Nat → List (S64) → Int → List (S64) → Int → Int → List (S140) → List (S144) → Option (Bool)
 | 0, _, _, _, _, _, _, _ => none
 | k + 1, x1, x5, x8, x9, x10, x102000, x102001 => if x10 < x9 then (if 0 ≤ x10 then (if x10 < (x8.length : Int) then ((impl_isPart.f k x102000 x102001 ((rd_T64 x8 x10).f0) ((rd_T64 x8 x10).f1) ((rd_T64 x8 x10).f2) x5).bind fun t105 => (if t105 = true then (if ((rd_T64 x8 x10).f0) = 1 then (if 0 < (((rd_T64 x8 x10).f2).length : Int) then (impl_IsValidReport.l0 k x1 (rd ((rd_T64 x8 x10).f2) 0) x8 x9 (wrap64 (x10 + 1)) x102000 x102001) else (none)) else (impl_IsValidReport.l0 k x1 x5 x8 x9 (wrap64 (x10 + 1)) x102000 x102001)) else (some false))) else (none)) else (none)) else ((impl_IsValidRecord.f k x102000 x102001).bind fun t102 => (if t102 = true then (some (decide ((x1.length : Int) ≤ 16))) else (some false)))
def impl_IsValidReport.f (k : Nat) (l0_0 : List (S140)) (l0_1 : List (S144)) (l1 : List (S64)) : Option (Bool) := impl_IsValidReport.l0 k l1 0 l1 (l1.length : Int) 0 l0_0 l0_1
set_option maxHeartbeats 8000000 in
set_option maxRecDepth 100000 in
theorem impl_IsValidReport.calls (k : Nat) (A0_0 : Option Addr) (c0_0 : Nat) (l0_0 : List (S140)) (A0_1 : Option Addr) (c0_1 : Nat) (l0_1 : List (S144)) (A1 : Option Addr) (c1 : Nat) (l1 : List (S64)) (r : Bool) (w : World) (hr0_0 : Kd.C k140 w A0_0 l0_0.length l0_0) (hc0_0 : l0_0.length ≤ c0_0) (hr0_1 : Kd.C k144 w A0_1 l0_1.length l0_1) (hc0_1 : l0_1.length ≤ c0_1) (hr1 : Kd.C k64 w A1 l1.length l1) (hc1 : l1.length ≤ c1) (h : impl_IsValidReport.f k l0_0 l0_1 l1 = some r) :
  Calls Try.prog 87 #[.agg #[.slice A0_0 l0_0.length c0_0, .slice A0_1 l0_1.length c0_1], .slice A1 l1.length c1] w fun e w' => e = .returned (.bool r) ∧ Below w.heap.size w w' := by
 (have hu61 := Try.underlying61); (have hu64 := Try.underlying64); (have HR0_0 := Aside0.mk hr0_0); (have HC0_0 := Aside0.mk hc0_0); clear hr0_0 hc0_0; (have HR0_1 := Aside0.mk hr0_1); (have HC0_1 := Aside0.mk hc0_1); clear hr0_1 hc0_1; (have HR1 := Aside0.mk hr1); (have HC1 := Aside0.mk hc1); clear hr1 hc1; (have HB := Aside0.mk (Below.refl w.heap.size w)); (unfold impl_IsValidReport.f at h); (have H := h); clear h; (have H' := Aside0.mk H); clear H; (go_enter Try.func87, Try.ntmps87); (go_wp2_with (first | ((with_reducible refine gate_dst (N := 2) rfl ?_); refine box_event ?hg (N := 2) ?hd (cs := #[.slice A0_0 l0_0.length c0_0, .slice A0_1 l0_1.length c0_1]) (t := 61) ?hr ?_; (case hd => rfl); (case hg => rfl); (case hr => first | (go_simp; done) | (go_simp; rfl)); intro gb101 hg w3 hbox hb; have hB_ := zI hb HB; have n0_ := Aside0.mk (below_step hB_ hb); have n1_ := Aside0.mk (hbox); have n2_ := Aside0.mk (bx0 hg hB_); have n3_ := n2_; clear HB; have HB := n0_; have BK101 := n1_; have GW101 := n2_; have GE101 := n3_; clear n0_ n1_ n2_ n3_ hB_ hb hbox hg))); (go_loopg [5, 10] k (fun kq v5 v10 w' => ∃ (x5_1 : Int) (x10_1 : Int), v5 = .int .i64 x5_1 ∧ v10 = .int .i64 x10_1 ∧ Aside0 (impl_IsValidReport.l0 kq l1 x5_1 l1 (l1.length : Int) x10_1 l0_0 l0_1 = some r) ∧ Aside0 (kq ≤ k) ∧ Aside0 (w'.heap[gb101]? = some (.cells #[(.slice A0_0 l0_0.length c0_0), (.slice A0_1 l0_1.length c0_1)] 61 (0, 0))) ∧ Aside0 (Below w.heap.size w w')))
 case atStart => exact ⟨(0), (0), (by first | rfl | (simp; done) | (simp [*]; done)), (by first | rfl | (simp; done) | (simp [*]; done)), H', ⟨Nat.le_refl _⟩, ⟨kI BK101⟩, ⟨eI HB⟩⟩
 case round =>
  (clear H'); (try clear c1); (try clear p2); (obtain ⟨x5_1, x10_1, rfl, rfl, HA, HK1, BK101, HB⟩ := hrel)
  cases gk with
  | zero => exact absurd HA.out (by simp [impl_IsValidReport.l0])
  | succ k1 =>
   (have H := HA.out); clear HA; (simp only [impl_IsValidReport.l0] at H); (by_cases c4 : x10_1 < (l1.length : Int))
   ·rw [if_pos c4] at H
    (have c4b0 := decide_eq_true c4); clear c4; (by_cases c5 : 0 ≤ x10_1)
    ·rw [if_pos c5] at H
     (have c5b0 := decide_eq_true c5); clear c5; (by_cases c6 : x10_1 < (l1.length : Int))
     ·rw [if_pos c6] at H
      (have c6b0 := decide_eq_true c6); clear c6; (replace H := obS H); (obtain ⟨t105, A7, H⟩ := H); (by_cases c8 : t105 = true)
      ·subst c8
       (rw [if_pos rfl] at H); (by_cases c9 : ((rd_T64 l1 x10_1).f0) = 1)
       ·rw [if_pos c9] at H
        (have c9b0 : (((rd_T64 l1 x10_1).f0) == 1) = true := beq_iff_eq.mpr c9); (have c9b1 : (((rd_T64 l1 x10_1).f0) != 1) = false := bne_eq_false_iff_eq.mpr c9); clear c9; (by_cases c10 : 0 < (((rd_T64 l1 x10_1).f2).length : Int))
        ·rw [if_pos c10] at H
         (have c10b0 := decide_eq_true c10); (have c10b1 : decide (0 < ((rd_T64 l1 x10_1).f2).length) = true := decide_eq_true (by omega)); clear c10; (have H' := Aside0.mk H); clear H; (have p103 : 0 ≤ (x10_1 : Int) := odt); (have q103 : x10_1 < (l1.length : Int) := odt); (obtain ⟨ad103, A103_2, c103_2, e103, hx103_0, hx103_1, hx103_2, hl103_2, hi103_2⟩ := at_T64 HR1.out x10_1 p103 q103); (cases e103); (replace hx103_0 := hcI HB hx103_0); (replace hx103_1 := hcI HB hx103_1); (replace hx103_2 := hcI HB hx103_2); (have HR103_2 := Aside0.mk hi103_2); (have HC103_2 := Aside0.mk hl103_2); clear hi103_2 hl103_2; (replace p103 := eq_true p103); (replace q103 := eq_true q103)
         (go_wp2_with (first | ((with_reducible refine gate_dst (N := 7) rfl ?_); refine box_event ?hg (N := 7) ?hd (cs := #[.int .i64 0, .string (⟨#[]⟩ : ByteArray), .slice none 0 0]) (t := 64) ?hr ?_; (case hd => rfl); (case hg => rfl); (case hr => first | (go_simp; done) | (go_simp; rfl)); intro gb104 hg w11 hbox hb; have n0_ := Aside0.mk (blk_below (by (with_reducible repeat (first | refine kN ?_ _ | refine kD ?_ | refine kA ?_ _)); exact BK101.out) hb); have hB_ := bz (by repeat (first | (with_reducible first | exact HB.out | apply bA | apply bN | apply bD | refine below_set ?_ GE101.out) | exact HB.out)) hb; have n1_ := Aside0.mk (below_step hB_ hb); have n2_ := Aside0.mk (hbox); have n3_ := Aside0.mk ((by rw [hg]; exact (below_size hB_) : w.heap.size ≤ gb104)); have n4_ := n3_; have n5_ := Aside0.mk ((by rw [hg]; exact Nat.ne_of_lt (blk_lt (by (with_reducible repeat (first | refine kN ?_ _ | refine kD ?_ | refine kA ?_ _)); exact BK101.out)) : gb101 ≠ gb104)); have n6_ := Aside0.mk (Ne.symm n5_.out); clear BK101 HB; have BK101 := n0_; have HB := n1_; have BK104 := n2_; have GW104 := n3_; have GE104 := n4_; have NB101_104 := n5_; have NB104_101 := n6_; clear n0_ n1_ n2_ n3_ n4_ n5_ n6_ hB_ hb hbox hg; have hnb12 := NB104_101.out; have hnc12 := NB101_104.out; have hcz13_0 := cz BK104.out 0; have hcz13_1 := cz BK104.out 1; have hcz13_2 := cz BK104.out 2; have hfz13_0 := blk_frozen BK104.out 0; have hfz13_1 := blk_frozen BK104.out 1; have hfz13_2 := blk_frozen BK104.out 2; have hcz14_0 := cz BK101.out 0; have hcz14_1 := cz BK101.out 1; have hfz14_0 := blk_frozen BK101.out 0; have hfz14_1 := blk_frozen BK101.out 1) | ((with_reducible refine gate_callee (f := 122) rfl ?_); refine gL (some 17) Try.func122 #[.agg #[.slice A0_0 l0_0.length c0_0, .slice A0_1 l0_1.length c0_1], .agg #[.int .i64 ((rd_T64 l1 x10_1).f0), .string ((rd_T64 l1 x10_1).f1), .slice A103_2 ((rd_T64 l1 x10_1).f2).length c103_2], .int .i64 x5_1] ?_; (with_reducible refine (impl_isPart.calls k1 _ _ l0_0 _ _ l0_1 ((rd_T64 l1 x10_1).f0) ((rd_T64 l1 x10_1).f1) _ _ ((rd_T64 l1 x10_1).f2) x5_1 true _ ?side1 ?side2 ?side3 ?side4 ?side5 ?side6 A7.out).mono ?_); (case side1 => exact Kd.C_below HR0_0.out (by repeat (first | (with_reducible first | exact HB.out | apply bA | apply bN | apply bD | refine below_set ?_ GE101.out | refine below_set ?_ GE104.out) | exact HB.out))); (case side2 => exact HC0_0.out); (case side3 => exact Kd.C_below HR0_1.out (by repeat (first | (with_reducible first | exact HB.out | apply bA | apply bN | apply bD | refine below_set ?_ GE101.out | refine below_set ?_ GE104.out) | exact HB.out))); (case side4 => exact HC0_1.out); (case side5 => exact Kd.C_below HR103_2.out (by repeat (first | (with_reducible first | exact HB.out | apply bA | apply bN | apply bD | refine below_set ?_ GE101.out | refine below_set ?_ GE104.out) | exact HB.out))); (case side6 => exact HC103_2.out); rintro e w15 ⟨rfl, hb⟩; refine ⟨_, rfl, ?_⟩; have n0_ := Aside0.mk (blk_below (g := gb101) (o := .cells #[.slice A0_0 l0_0.length c0_0, .slice A0_1 l0_1.length c0_1] 61 (0, 0)) (by (with_reducible repeat (first | refine kN ?_ _ | refine kD ?_ | refine kA ?_ _)); refine blk_far ?_ NB101_104.out _; (with_reducible repeat (first | refine kN ?_ _ | refine kD ?_ | refine kA ?_ _)); refine blk_far ?_ NB101_104.out _; (with_reducible repeat (first | refine kN ?_ _ | refine kD ?_ | refine kA ?_ _)); refine blk_far ?_ NB101_104.out _; (with_reducible repeat (first | refine kN ?_ _ | refine kD ?_ | refine kA ?_ _)); exact BK101.out) hb); have n1_ := Aside0.mk (blk_below (g := gb104) (o := .cells #[.int .i64 ((rd_T64 l1 x10_1).f0), .string ((rd_T64 l1 x10_1).f1), .slice A103_2 ((rd_T64 l1 x10_1).f2).length c103_2] 64 (0, 0)) (by (with_reducible repeat (first | refine kN ?_ _ | refine kD ?_ | refine kA ?_ _)); refine blk_put (cs := #[.int .i64 ((rd_T64 l1 x10_1).f0), .string ((rd_T64 l1 x10_1).f1), .slice none 0 0]) ?_ 2 _ rfl; (with_reducible repeat (first | refine kN ?_ _ | refine kD ?_ | refine kA ?_ _)); refine blk_put (cs := #[.int .i64 ((rd_T64 l1 x10_1).f0), .string (⟨#[]⟩ : ByteArray), .slice none 0 0]) ?_ 1 _ rfl; (with_reducible repeat (first | refine kN ?_ _ | refine kD ?_ | refine kA ?_ _)); refine blk_put (cs := #[.int .i64 0, .string (⟨#[]⟩ : ByteArray), .slice none 0 0]) ?_ 0 _ rfl; (with_reducible repeat (first | refine kN ?_ _ | refine kD ?_ | refine kA ?_ _)); exact BK104.out) hb); have n2_ := Aside0.mk (below_step (by repeat (first | (with_reducible first | exact HB.out | apply bA | apply bN | apply bD | refine below_set ?_ GE101.out | refine below_set ?_ GE104.out) | exact HB.out)) hb); clear BK101 BK104 HB; have BK101 := n0_; have BK104 := n1_; have HB := n2_; clear n0_ n1_ n2_; (try clear hb); (try clear hb2); (try clear hk); (try clear hi); have hcz16_0 := cz BK104.out 0; have hcz16_1 := cz BK104.out 1; have hcz16_2 := cz BK104.out 2; have hfz16_0 := blk_frozen BK104.out 0; have hfz16_1 := blk_frozen BK104.out 1; have hfz16_2 := blk_frozen BK104.out 2; have p106 : 0 ≤ (0 : Int) := (by omega); have q106 : 0 < (((rd_T64 l1 x10_1).f2).length : Int) := of_decide_eq_true (by first | (with_reducible assumption) | assumption); obtain ⟨ad106, e106, hx106_0⟩ := Kd.at_int HR103_2.out 0 p106 q106; cases e106; have qi106 : (0 < ((rd_T64 l1 x10_1).f2).length) = True := eq_true (by omega); (try rw [show ((0 : Int)).toNat = 0 from rfl] at hx106_0); (try rw [Addr.add_zero'] at hx106_0); replace hx106_0 := (HB.out.cell (bltc w _ hx106_0)).trans hx106_0; replace p106 := eq_true p106; replace q106 := eq_true q106))); go_roundg k1
         case measure => have := HK1.out; omega
         case rel => exact ⟨(rd ((rd_T64 l1 x10_1).f2) 0), (wrap64 (x10_1 + 1)), (by first | rfl | (simp; done) | (simp [*]; done)), (by first | rfl | (simp; done) | (simp [*]; done)), H', ⟨by have := HK1.out; omega⟩, ⟨kI BK101⟩, ⟨eI HB⟩⟩
        ·rw [if_neg c10] at H
         exact absurd H (by simp)
       ·rw [if_neg c9] at H
        (have c9b0 : (((rd_T64 l1 x10_1).f0) == 1) = false := beq_eq_false_iff_ne.mpr c9); (have c9b1 : (((rd_T64 l1 x10_1).f0) != 1) = true := bne_iff_ne.mpr c9); (have H' := Aside0.mk H); clear H; (have p103 : 0 ≤ (x10_1 : Int) := odt); (have q103 : x10_1 < (l1.length : Int) := odt); (obtain ⟨ad103, A103_2, c103_2, e103, hx103_0, hx103_1, hx103_2, hl103_2, hi103_2⟩ := at_T64 HR1.out x10_1 p103 q103); (cases e103); (replace hx103_0 := hcI HB hx103_0); (replace hx103_1 := hcI HB hx103_1); (replace hx103_2 := hcI HB hx103_2); (have HR103_2 := Aside0.mk hi103_2); (have HC103_2 := Aside0.mk hl103_2); clear hi103_2 hl103_2; (replace p103 := eq_true p103); (replace q103 := eq_true q103)
        (go_wp2_with (first | ((with_reducible refine gate_dst (N := 7) rfl ?_); refine box_event ?hg (N := 7) ?hd (cs := #[.int .i64 0, .string (⟨#[]⟩ : ByteArray), .slice none 0 0]) (t := 64) ?hr ?_; (case hd => rfl); (case hg => rfl); (case hr => first | (go_simp; done) | (go_simp; rfl)); intro gb104 hg w17 hbox hb; have n0_ := Aside0.mk (blk_below (by (with_reducible repeat (first | refine kN ?_ _ | refine kD ?_ | refine kA ?_ _)); exact BK101.out) hb); have hB_ := bz (by repeat (first | (with_reducible first | exact HB.out | apply bA | apply bN | apply bD | refine below_set ?_ GE101.out) | exact HB.out)) hb; have n1_ := Aside0.mk (below_step hB_ hb); have n2_ := Aside0.mk (hbox); have n3_ := Aside0.mk ((by rw [hg]; exact (below_size hB_) : w.heap.size ≤ gb104)); have n4_ := n3_; have n5_ := Aside0.mk ((by rw [hg]; exact Nat.ne_of_lt (blk_lt (by (with_reducible repeat (first | refine kN ?_ _ | refine kD ?_ | refine kA ?_ _)); exact BK101.out)) : gb101 ≠ gb104)); have n6_ := Aside0.mk (Ne.symm n5_.out); clear BK101 HB; have BK101 := n0_; have HB := n1_; have BK104 := n2_; have GW104 := n3_; have GE104 := n4_; have NB101_104 := n5_; have NB104_101 := n6_; clear n0_ n1_ n2_ n3_ n4_ n5_ n6_ hB_ hb hbox hg; have hnb18 := NB104_101.out; have hnc18 := NB101_104.out; have hcz19_0 := cz BK104.out 0; have hcz19_1 := cz BK104.out 1; have hcz19_2 := cz BK104.out 2; have hfz19_0 := blk_frozen BK104.out 0; have hfz19_1 := blk_frozen BK104.out 1; have hfz19_2 := blk_frozen BK104.out 2; have hcz20_0 := cz BK101.out 0; have hcz20_1 := cz BK101.out 1; have hfz20_0 := blk_frozen BK101.out 0; have hfz20_1 := blk_frozen BK101.out 1) | ((with_reducible refine gate_callee (f := 122) rfl ?_); refine gL (some 17) Try.func122 #[.agg #[.slice A0_0 l0_0.length c0_0, .slice A0_1 l0_1.length c0_1], .agg #[.int .i64 ((rd_T64 l1 x10_1).f0), .string ((rd_T64 l1 x10_1).f1), .slice A103_2 ((rd_T64 l1 x10_1).f2).length c103_2], .int .i64 x5_1] ?_; (with_reducible refine (impl_isPart.calls k1 _ _ l0_0 _ _ l0_1 ((rd_T64 l1 x10_1).f0) ((rd_T64 l1 x10_1).f1) _ _ ((rd_T64 l1 x10_1).f2) x5_1 true _ ?side1 ?side2 ?side3 ?side4 ?side5 ?side6 A7.out).mono ?_); (case side1 => exact Kd.C_below HR0_0.out (by repeat (first | (with_reducible first | exact HB.out | apply bA | apply bN | apply bD | refine below_set ?_ GE101.out | refine below_set ?_ GE104.out) | exact HB.out))); (case side2 => exact HC0_0.out); (case side3 => exact Kd.C_below HR0_1.out (by repeat (first | (with_reducible first | exact HB.out | apply bA | apply bN | apply bD | refine below_set ?_ GE101.out | refine below_set ?_ GE104.out) | exact HB.out))); (case side4 => exact HC0_1.out); (case side5 => exact Kd.C_below HR103_2.out (by repeat (first | (with_reducible first | exact HB.out | apply bA | apply bN | apply bD | refine below_set ?_ GE101.out | refine below_set ?_ GE104.out) | exact HB.out))); (case side6 => exact HC103_2.out); rintro e w21 ⟨rfl, hb⟩; refine ⟨_, rfl, ?_⟩; have n0_ := Aside0.mk (blk_below (g := gb101) (o := .cells #[.slice A0_0 l0_0.length c0_0, .slice A0_1 l0_1.length c0_1] 61 (0, 0)) (by (with_reducible repeat (first | refine kN ?_ _ | refine kD ?_ | refine kA ?_ _)); refine blk_far ?_ NB101_104.out _; (with_reducible repeat (first | refine kN ?_ _ | refine kD ?_ | refine kA ?_ _)); refine blk_far ?_ NB101_104.out _; (with_reducible repeat (first | refine kN ?_ _ | refine kD ?_ | refine kA ?_ _)); refine blk_far ?_ NB101_104.out _; (with_reducible repeat (first | refine kN ?_ _ | refine kD ?_ | refine kA ?_ _)); exact BK101.out) hb); have n1_ := Aside0.mk (blk_below (g := gb104) (o := .cells #[.int .i64 ((rd_T64 l1 x10_1).f0), .string ((rd_T64 l1 x10_1).f1), .slice A103_2 ((rd_T64 l1 x10_1).f2).length c103_2] 64 (0, 0)) (by (with_reducible repeat (first | refine kN ?_ _ | refine kD ?_ | refine kA ?_ _)); refine blk_put (cs := #[.int .i64 ((rd_T64 l1 x10_1).f0), .string ((rd_T64 l1 x10_1).f1), .slice none 0 0]) ?_ 2 _ rfl; (with_reducible repeat (first | refine kN ?_ _ | refine kD ?_ | refine kA ?_ _)); refine blk_put (cs := #[.int .i64 ((rd_T64 l1 x10_1).f0), .string (⟨#[]⟩ : ByteArray), .slice none 0 0]) ?_ 1 _ rfl; (with_reducible repeat (first | refine kN ?_ _ | refine kD ?_ | refine kA ?_ _)); refine blk_put (cs := #[.int .i64 0, .string (⟨#[]⟩ : ByteArray), .slice none 0 0]) ?_ 0 _ rfl; (with_reducible repeat (first | refine kN ?_ _ | refine kD ?_ | refine kA ?_ _)); exact BK104.out) hb); have n2_ := Aside0.mk (below_step (by repeat (first | (with_reducible first | exact HB.out | apply bA | apply bN | apply bD | refine below_set ?_ GE101.out | refine below_set ?_ GE104.out) | exact HB.out)) hb); clear BK101 BK104 HB; have BK101 := n0_; have BK104 := n1_; have HB := n2_; clear n0_ n1_ n2_; (try clear hb); (try clear hb2); (try clear hk); (try clear hi); have hcz22_0 := cz BK104.out 0; have hcz22_1 := cz BK104.out 1; have hcz22_2 := cz BK104.out 2; have hfz22_0 := blk_frozen BK104.out 0; have hfz22_1 := blk_frozen BK104.out 1; have hfz22_2 := blk_frozen BK104.out 2))); go_roundg k1
        case measure => have := HK1.out; omega
        case rel => exact ⟨(x5_1), (wrap64 (x10_1 + 1)), (by first | rfl | (simp; done) | (simp [*]; done)), (by first | rfl | (simp; done) | (simp [*]; done)), H', ⟨by have := HK1.out; omega⟩, ⟨kI BK101⟩, ⟨by repeat (first | (with_reducible first | exact HB.out | apply bA | apply bN | apply bD | refine below_set ?_ GE101.out | refine below_set ?_ GE104.out) | exact HB.out)⟩⟩
      ·replace c8 := Bool.eq_false_iff.mpr c8
       subst c8; (rw [if_neg (show ¬ (false = true) by decide)] at H); (obtain rfl := Option.some.inj H); (have p103 : 0 ≤ (x10_1 : Int) := odt); (have q103 : x10_1 < (l1.length : Int) := odt); (obtain ⟨ad103, A103_2, c103_2, e103, hx103_0, hx103_1, hx103_2, hl103_2, hi103_2⟩ := at_T64 HR1.out x10_1 p103 q103); (cases e103); (replace hx103_0 := hcI HB hx103_0); (replace hx103_1 := hcI HB hx103_1); (replace hx103_2 := hcI HB hx103_2); (have HR103_2 := Aside0.mk hi103_2); (have HC103_2 := Aside0.mk hl103_2); clear hi103_2 hl103_2; (replace p103 := eq_true p103); (replace q103 := eq_true q103)
       (go_wp2_with (first | ((with_reducible refine gate_dst (N := 7) rfl ?_); refine box_event ?hg (N := 7) ?hd (cs := #[.int .i64 0, .string (⟨#[]⟩ : ByteArray), .slice none 0 0]) (t := 64) ?hr ?_; (case hd => rfl); (case hg => rfl); (case hr => first | (go_simp; done) | (go_simp; rfl)); intro gb104 hg w23 hbox hb; have n0_ := Aside0.mk (blk_below (by (with_reducible repeat (first | refine kN ?_ _ | refine kD ?_ | refine kA ?_ _)); exact BK101.out) hb); have hB_ := bz (by repeat (first | (with_reducible first | exact HB.out | apply bA | apply bN | apply bD | refine below_set ?_ GE101.out) | exact HB.out)) hb; have n1_ := Aside0.mk (below_step hB_ hb); have n2_ := Aside0.mk (hbox); have n3_ := Aside0.mk ((by rw [hg]; exact (below_size hB_) : w.heap.size ≤ gb104)); have n4_ := n3_; have n5_ := Aside0.mk ((by rw [hg]; exact Nat.ne_of_lt (blk_lt (by (with_reducible repeat (first | refine kN ?_ _ | refine kD ?_ | refine kA ?_ _)); exact BK101.out)) : gb101 ≠ gb104)); have n6_ := Aside0.mk (Ne.symm n5_.out); clear BK101 HB; have BK101 := n0_; have HB := n1_; have BK104 := n2_; have GW104 := n3_; have GE104 := n4_; have NB101_104 := n5_; have NB104_101 := n6_; clear n0_ n1_ n2_ n3_ n4_ n5_ n6_ hB_ hb hbox hg; have hnb24 := NB104_101.out; have hnc24 := NB101_104.out; have hcz25_0 := cz BK104.out 0; have hcz25_1 := cz BK104.out 1; have hcz25_2 := cz BK104.out 2; have hfz25_0 := blk_frozen BK104.out 0; have hfz25_1 := blk_frozen BK104.out 1; have hfz25_2 := blk_frozen BK104.out 2; have hcz26_0 := cz BK101.out 0; have hcz26_1 := cz BK101.out 1; have hfz26_0 := blk_frozen BK101.out 0; have hfz26_1 := blk_frozen BK101.out 1) | ((with_reducible refine gate_callee (f := 122) rfl ?_); refine gL (some 17) Try.func122 #[.agg #[.slice A0_0 l0_0.length c0_0, .slice A0_1 l0_1.length c0_1], .agg #[.int .i64 ((rd_T64 l1 x10_1).f0), .string ((rd_T64 l1 x10_1).f1), .slice A103_2 ((rd_T64 l1 x10_1).f2).length c103_2], .int .i64 x5_1] ?_; (with_reducible refine (impl_isPart.calls k1 _ _ l0_0 _ _ l0_1 ((rd_T64 l1 x10_1).f0) ((rd_T64 l1 x10_1).f1) _ _ ((rd_T64 l1 x10_1).f2) x5_1 false _ ?side1 ?side2 ?side3 ?side4 ?side5 ?side6 A7.out).mono ?_); (case side1 => exact Kd.C_below HR0_0.out (by repeat (first | (with_reducible first | exact HB.out | apply bA | apply bN | apply bD | refine below_set ?_ GE101.out | refine below_set ?_ GE104.out) | exact HB.out))); (case side2 => exact HC0_0.out); (case side3 => exact Kd.C_below HR0_1.out (by repeat (first | (with_reducible first | exact HB.out | apply bA | apply bN | apply bD | refine below_set ?_ GE101.out | refine below_set ?_ GE104.out) | exact HB.out))); (case side4 => exact HC0_1.out); (case side5 => exact Kd.C_below HR103_2.out (by repeat (first | (with_reducible first | exact HB.out | apply bA | apply bN | apply bD | refine below_set ?_ GE101.out | refine below_set ?_ GE104.out) | exact HB.out))); (case side6 => exact HC103_2.out); rintro e w27 ⟨rfl, hb⟩; refine ⟨_, rfl, ?_⟩; have n0_ := Aside0.mk (blk_below (g := gb101) (o := .cells #[.slice A0_0 l0_0.length c0_0, .slice A0_1 l0_1.length c0_1] 61 (0, 0)) (by (with_reducible repeat (first | refine kN ?_ _ | refine kD ?_ | refine kA ?_ _)); refine blk_far ?_ NB101_104.out _; (with_reducible repeat (first | refine kN ?_ _ | refine kD ?_ | refine kA ?_ _)); refine blk_far ?_ NB101_104.out _; (with_reducible repeat (first | refine kN ?_ _ | refine kD ?_ | refine kA ?_ _)); refine blk_far ?_ NB101_104.out _; (with_reducible repeat (first | refine kN ?_ _ | refine kD ?_ | refine kA ?_ _)); exact BK101.out) hb); have n1_ := Aside0.mk (blk_below (g := gb104) (o := .cells #[.int .i64 ((rd_T64 l1 x10_1).f0), .string ((rd_T64 l1 x10_1).f1), .slice A103_2 ((rd_T64 l1 x10_1).f2).length c103_2] 64 (0, 0)) (by (with_reducible repeat (first | refine kN ?_ _ | refine kD ?_ | refine kA ?_ _)); refine blk_put (cs := #[.int .i64 ((rd_T64 l1 x10_1).f0), .string ((rd_T64 l1 x10_1).f1), .slice none 0 0]) ?_ 2 _ rfl; (with_reducible repeat (first | refine kN ?_ _ | refine kD ?_ | refine kA ?_ _)); refine blk_put (cs := #[.int .i64 ((rd_T64 l1 x10_1).f0), .string (⟨#[]⟩ : ByteArray), .slice none 0 0]) ?_ 1 _ rfl; (with_reducible repeat (first | refine kN ?_ _ | refine kD ?_ | refine kA ?_ _)); refine blk_put (cs := #[.int .i64 0, .string (⟨#[]⟩ : ByteArray), .slice none 0 0]) ?_ 0 _ rfl; (with_reducible repeat (first | refine kN ?_ _ | refine kD ?_ | refine kA ?_ _)); exact BK104.out) hb); have n2_ := Aside0.mk (below_step (by repeat (first | (with_reducible first | exact HB.out | apply bA | apply bN | apply bD | refine below_set ?_ GE101.out | refine below_set ?_ GE104.out) | exact HB.out)) hb); clear BK101 BK104 HB; have BK101 := n0_; have BK104 := n1_; have HB := n2_; clear n0_ n1_ n2_; (try clear hb); (try clear hb2); (try clear hk); (try clear hi)))); go_ret; (exact ⟨by first | rfl | (simp [errW_none, errW_some] <;> rfl) | (simp [*, errW_none, errW_some] <;> rfl), by repeat (first | (with_reducible first | exact HB.out | apply bA | apply bN | apply bD | refine below_set ?_ GE101.out | refine below_set ?_ GE104.out) | exact HB.out)⟩)
     ·rw [if_neg c6] at H
      exact absurd H (by simp)
    ·rw [if_neg c5] at H
     exact absurd H (by simp)
   ·rw [if_neg c4] at H
    (have c4b0 := decide_eq_false c4); clear c4; (replace H := obS H); (obtain ⟨t102, A28, H⟩ := H); (by_cases c29 : t102 = true); (· subst c29; (rw [if_pos rfl] at H); (obtain rfl := Option.some.inj H); (have hcz30_0 := cz BK101.out 0); (have hcz30_1 := cz BK101.out 1); (have hfz30_0 := blk_frozen BK101.out 0); (have hfz30_1 := blk_frozen BK101.out 1); (go_wp2_with (first | ((with_reducible refine gate_callee (f := 123) rfl ?_); refine gL (some 28) Try.func123 #[.agg #[.slice A0_0 l0_0.length c0_0, .slice A0_1 l0_1.length c0_1]] ?_; (with_reducible refine (impl_IsValidRecord.calls k1 _ _ l0_0 _ _ l0_1 true _ ?side1 ?side2 ?side3 ?side4 A28.out).mono ?_); (case side1 => exact Kd.C_below HR0_0.out (eI HB)); (case side2 => exact HC0_0.out); (case side3 => exact Kd.C_below HR0_1.out (eI HB)); (case side4 => exact HC0_1.out); rintro e w31 ⟨rfl, hb⟩; refine ⟨_, rfl, ?_⟩; have n0_ := Aside0.mk (kbI hb BK101); have n1_ := Aside0.mk (sI hb HB); clear BK101 HB; have BK101 := n0_; have HB := n1_; clear n0_ n1_; (try clear hb); (try clear hb2); (try clear hk); (try clear hi)))); go_ret; (exact ⟨rfl, eI HB⟩)); (· (replace c29 := Bool.eq_false_iff.mpr c29); subst c29; (rw [if_neg (show ¬ (false = true) by decide)] at H); (obtain rfl := Option.some.inj H); (have hcz32_0 := cz BK101.out 0); (have hcz32_1 := cz BK101.out 1); (have hfz32_0 := blk_frozen BK101.out 0); (have hfz32_1 := blk_frozen BK101.out 1); (go_wp2_with (first | ((with_reducible refine gate_callee (f := 123) rfl ?_); refine gL (some 28) Try.func123 #[.agg #[.slice A0_0 l0_0.length c0_0, .slice A0_1 l0_1.length c0_1]] ?_; (with_reducible refine (impl_IsValidRecord.calls k1 _ _ l0_0 _ _ l0_1 false _ ?side1 ?side2 ?side3 ?side4 A28.out).mono ?_); (case side1 => exact Kd.C_below HR0_0.out (eI HB)); (case side2 => exact HC0_0.out); (case side3 => exact Kd.C_below HR0_1.out (eI HB)); (case side4 => exact HC0_1.out); rintro e w33 ⟨rfl, hb⟩; refine ⟨_, rfl, ?_⟩; have n0_ := Aside0.mk (kbI hb BK101); have n1_ := Aside0.mk (sI hb HB); clear BK101 HB; have BK101 := n0_; have HB := n1_; clear n0_ n1_; (try clear hb); (try clear hb2); (try clear hk); (try clear hi)))); go_ret; (exact ⟨rfl, eI HB⟩))
/-! ### impl_isVoidList: function 99 -/
def impl_isVoidList.f (k : Nat) (l0_0 : List (S140)) (l0_1 : List (S144)) (l1 : List (S64)) (l2 : List Int) : Option (Bool) := (impl_IsValidReport.f k l0_0 l0_1 l1).bind fun t102 => (if t102 = true then ((impl_areContexts.f k l0_0 l0_1 l2).bind fun t103 => (some t103)) else (some false))
set_option maxHeartbeats 8000000 in
set_option maxRecDepth 100000 in
theorem impl_isVoidList.calls (k : Nat) (A0_0 : Option Addr) (c0_0 : Nat) (l0_0 : List (S140)) (A0_1 : Option Addr) (c0_1 : Nat) (l0_1 : List (S144)) (A1 : Option Addr) (c1 : Nat) (l1 : List (S64)) (A2 : Option Addr) (c2 : Nat) (l2 : List Int) (r : Bool) (w : World) (hr0_0 : Kd.C k140 w A0_0 l0_0.length l0_0) (hc0_0 : l0_0.length ≤ c0_0) (hr0_1 : Kd.C k144 w A0_1 l0_1.length l0_1) (hc0_1 : l0_1.length ≤ c0_1) (hr1 : Kd.C k64 w A1 l1.length l1) (hc1 : l1.length ≤ c1) (hr2 : Kd.C (Kd.int .i64) w A2 l2.length l2) (hc2 : l2.length ≤ c2) (h : impl_isVoidList.f k l0_0 l0_1 l1 l2 = some r) :
  Calls Try.prog 99 #[.agg #[.slice A0_0 l0_0.length c0_0, .slice A0_1 l0_1.length c0_1], .slice A1 l1.length c1, .slice A2 l2.length c2] w fun e w' => e = .returned (.bool r) ∧ Below w.heap.size w w' := by
 (have hu61 := Try.underlying61); (have HR0_0 := Aside0.mk hr0_0); (have HC0_0 := Aside0.mk hc0_0); clear hr0_0 hc0_0; (have HR0_1 := Aside0.mk hr0_1); (have HC0_1 := Aside0.mk hc0_1); clear hr0_1 hc0_1; (have HR1 := Aside0.mk hr1); (have HC1 := Aside0.mk hc1); clear hr1 hc1; (have HR2 := Aside0.mk hr2); (have HC2 := Aside0.mk hc2); clear hr2 hc2; (have HB := Aside0.mk (Below.refl w.heap.size w)); (unfold impl_isVoidList.f at h); (have H := h); clear h; (replace H := obS H); (obtain ⟨t102, A4, H⟩ := H); (by_cases c5 : t102 = true); (· subst c5; (rw [if_pos rfl] at H); (replace H := obS H); (obtain ⟨t103, A6, H⟩ := H); (obtain rfl := Option.some.inj H); (go_enter Try.func99, Try.ntmps99); (go_wp2_with (first | ((with_reducible refine gate_dst (N := 3) rfl ?_); refine box_event ?hg (N := 3) ?hd (cs := #[.slice A0_0 l0_0.length c0_0, .slice A0_1 l0_1.length c0_1]) (t := 61) ?hr ?_; (case hd => rfl); (case hg => rfl); (case hr => first | (go_simp; done) | (go_simp; rfl)); intro gb101 hg w7 hbox hb; have hB_ := zI hb HB; have n0_ := Aside0.mk (below_step hB_ hb); have n1_ := Aside0.mk (hbox); have n2_ := Aside0.mk (bx0 hg hB_); have n3_ := n2_; clear HB; have HB := n0_; have BK101 := n1_; have GW101 := n2_; have GE101 := n3_; clear n0_ n1_ n2_ n3_ hB_ hb hbox hg; have hcz8_0 := cz BK101.out 0; have hcz8_1 := cz BK101.out 1; have hfz8_0 := blk_frozen BK101.out 0; have hfz8_1 := blk_frozen BK101.out 1) | ((with_reducible refine gate_callee (f := 87) rfl ?_); refine gL (some 9) Try.func87 #[.agg #[.slice A0_0 l0_0.length c0_0, .slice A0_1 l0_1.length c0_1], .slice A1 l1.length c1] ?_; (with_reducible refine (impl_IsValidReport.calls k _ _ l0_0 _ _ l0_1 _ _ l1 true _ ?side1 ?side2 ?side3 ?side4 ?side5 ?side6 A4.out).mono ?_); (case side1 => exact Kd.C_below HR0_0.out (eI HB)); (case side2 => exact HC0_0.out); (case side3 => exact Kd.C_below HR0_1.out (eI HB)); (case side4 => exact HC0_1.out); (case side5 => exact Kd.C_below HR1.out (eI HB)); (case side6 => exact HC1.out); rintro e w9 ⟨rfl, hb⟩; refine ⟨_, rfl, ?_⟩; have n0_ := Aside0.mk (kbI hb BK101); have n1_ := Aside0.mk (sI hb HB); clear BK101 HB; have BK101 := n0_; have HB := n1_; clear n0_ n1_; (try clear hb); (try clear hb2); (try clear hk); (try clear hi); have hcz10_0 := cz BK101.out 0; have hcz10_1 := cz BK101.out 1; have hfz10_0 := blk_frozen BK101.out 0; have hfz10_1 := blk_frozen BK101.out 1) | (go_at_call 133; (with_reducible refine (impl_areContexts.calls k _ _ l0_0 _ _ l0_1 _ _ l2 t103 _ ?side1 ?side2 ?side3 ?side4 ?side5 ?side6 A6.out).mono ?_); (case side1 => exact Kd.C_below HR0_0.out (eI HB)); (case side2 => exact HC0_0.out); (case side3 => exact Kd.C_below HR0_1.out (eI HB)); (case side4 => exact HC0_1.out); (case side5 => exact Kd.C_below HR2.out (eI HB)); (case side6 => exact HC2.out); rintro e w11 ⟨rfl, hb⟩; have n0_ := Aside0.mk (kbI hb BK101); have n1_ := Aside0.mk (sI hb HB); clear BK101 HB; have BK101 := n0_; have HB := n1_; clear n0_ n1_; (try clear hb); (try clear hb2); (try clear hk); (try clear hi)))); go_ret; (exact ⟨rfl, eI HB⟩))
 ·replace c5 := Bool.eq_false_iff.mpr c5
  subst c5; (rw [if_neg (show ¬ (false = true) by decide)] at H); (obtain rfl := Option.some.inj H); (go_enter Try.func99, Try.ntmps99); (go_wp2_with (first | ((with_reducible refine gate_dst (N := 3) rfl ?_); refine box_event ?hg (N := 3) ?hd (cs := #[.slice A0_0 l0_0.length c0_0, .slice A0_1 l0_1.length c0_1]) (t := 61) ?hr ?_; (case hd => rfl); (case hg => rfl); (case hr => first | (go_simp; done) | (go_simp; rfl)); intro gb101 hg w12 hbox hb; have hB_ := zI hb HB; have n0_ := Aside0.mk (below_step hB_ hb); have n1_ := Aside0.mk (hbox); have n2_ := Aside0.mk (bx0 hg hB_); have n3_ := n2_; clear HB; have HB := n0_; have BK101 := n1_; have GW101 := n2_; have GE101 := n3_; clear n0_ n1_ n2_ n3_ hB_ hb hbox hg; have hcz13_0 := cz BK101.out 0; have hcz13_1 := cz BK101.out 1; have hfz13_0 := blk_frozen BK101.out 0; have hfz13_1 := blk_frozen BK101.out 1) | ((with_reducible refine gate_callee (f := 87) rfl ?_); refine gL (some 9) Try.func87 #[.agg #[.slice A0_0 l0_0.length c0_0, .slice A0_1 l0_1.length c0_1], .slice A1 l1.length c1] ?_; (with_reducible refine (impl_IsValidReport.calls k _ _ l0_0 _ _ l0_1 _ _ l1 false _ ?side1 ?side2 ?side3 ?side4 ?side5 ?side6 A4.out).mono ?_); (case side1 => exact Kd.C_below HR0_0.out (eI HB)); (case side2 => exact HC0_0.out); (case side3 => exact Kd.C_below HR0_1.out (eI HB)); (case side4 => exact HC0_1.out); (case side5 => exact Kd.C_below HR1.out (eI HB)); (case side6 => exact HC1.out); rintro e w14 ⟨rfl, hb⟩; refine ⟨_, rfl, ?_⟩; have n0_ := Aside0.mk (kbI hb BK101); have n1_ := Aside0.mk (sI hb HB); clear BK101 HB; have BK101 := n0_; have HB := n1_; clear n0_ n1_; (try clear hb); (try clear hb2); (try clear hk); (try clear hi)))); go_ret; (exact ⟨rfl, eI HB⟩)

end Go.Proofs.Ytdbhelhoaciodaa.X
set_option linter.unusedVariables false
namespace Go.Proofs.Ytdbhelhoaciodaa.X
open Go.RowKit Go.Sort Go.Proofs.YtdbhelhoaciodaaW.PrintWords Go.Proofs.YtdbhelhoaciodaaW.PrintLast Go.Proofs.YtdbhelhoaciodaaW.PrintMore
end Go.Proofs.Ytdbhelhoaciodaa.X
set_option linter.unusedVariables false
set_option linter.unusedSimpArgs false
namespace Go.Proofs.Ytdbhelhoaciodaa.X
open Go.RowKit Go.Proofs.YtdbhelhoaciodaaW.PrintWords Go.Proofs.YtdbhelhoaciodaaW.PrintLast Go.Proofs.YtdbhelhoaciodaaW.PrintMore
/-- The first record that has no row of its own gets one: its cells stand behind those that have. -/
theorem S_snoc_at {α : Type} (d : Kd α) {W W2 : World} {base e g n cap : Nat} {ok okp : Nat → Prop} {P : List α} {x : α} {cs : List Value} {cur cur2 : Array Value}
    (hS : Kd.S d e W base (fun k => ok k ∧ ¬ okp k) (.slice (some ⟨g, 0, none⟩) P.length cap) P) (hb : W.heap[g]? = some (.cells cur e (0, 0))) (hb2 : W2.heap[g]? = some (.cells cur2 e (0, 0)))
    (hm : ∀ k, k ≠ g → W2.heap[k]? = W.heap[k]?) (hsz : cur2.size = cur.size) (hlow : ∀ j, j < P.length * d.sz → cur2[j]? = cur[j]?)
    (hcs : ((cur2.toList.drop (P.length * d.sz)).take d.sz) = cs) (hcl : cs.length = d.sz) (hn : P.length + 1 ≤ cap) (hp : d.M W2 base okp x cs) (hokp : ∀ k, okp k → ok k ∧ k ≠ g) :
    Kd.S d e W2 base ok (.slice (some ⟨g, 0, none⟩) (P.length + 1) cap) (P ++ [x]) := by
  obtain ⟨f, hf, hR⟩ := Kd.S_tag hS P.length okp (fun _ hk h2 => h2.2 hk)
  obtain ⟨h0, inner, ho, hr⟩ := hR
  rw [List.length_zipIdx] at ho
  replace ho : W.ownsRow base e d.sz (.slice (some ⟨g, 0, none⟩) P.length cap) P.length inner := ho
  replace hr : Reps ((Kd.tag f d).M W base fun k => (ok k ∧ ¬ okp k) ∧ some k ≠ (Value.slice (some ⟨g, 0, none⟩) P.length cap).ownBlock) d.sz P.zipIdx inner := hr
  have hg0 : ok g := (h0 g rfl).1
  rcases ho.2 with ⟨e0, _⟩ | ⟨g', cap', c0, e0, hbase, hg, hnc, hm1, hs, ht⟩
  · cases e0
  injection e0 with e1 _ e3
  injection e1 with e1
  injection e1 with e1
  subst e1; subst e3
  have ec : c0 = cur := by
    rw [hb] at hg
    injection hg with hg
    injection hg with hg
    exact hg.symm
  subst ec
  have hlen : inner.length = P.length * d.sz := ho.1
  have hle : (P.length + 1) * d.sz ≤ cur2.size := by
    rw [hsz, hs]
    exact Nat.mul_le_mul_right _ hn
  have htk : cur2.toList.take (P.length * d.sz) = inner := by
    rw [← ht]
    apply List.ext_getElem?
    intro j
    rw [List.getElem?_take, List.getElem?_take]
    by_cases hj : j < P.length * d.sz
    · rw [if_pos hj, if_pos hj, Array.getElem?_toList, Array.getElem?_toList]
      exact hlow j hj
    · rw [if_neg hj, if_neg hj]
  have htk2 : cur2.toList.take ((P.length + 1) * d.sz) = inner ++ cs := by
    rw [Nat.add_mul, Nat.one_mul, List.take_add, htk, hcs]
  refine ⟨f, fun k hk => ?_, inner ++ cs, ?_, ?_⟩
  · have : g = k := by simpa [Value.ownBlock] using hk
    subst this
    exact hg0
  · rw [List.length_zipIdx, List.length_append, List.length_singleton]
    refine ⟨show (inner ++ cs).length = (P.length + 1) * d.sz by rw [List.length_append, hlen, hcl, Nat.add_mul, Nat.one_mul], .inr ⟨g, cap, cur2, rfl, hbase, hb2, hn, hm1, by rw [hsz]; exact hs, htk2⟩⟩
  · rw [Kd.zip_snoc]
    show Reps ((Kd.tag f d).M W2 base fun k => ok k ∧ some k ≠ (Value.slice (some ⟨g, 0, none⟩) (P.length + 1) cap).ownBlock) d.sz (P.zipIdx ++ [(x, P.length)]) (inner ++ cs)
    refine Reps.snoc (hr.imp_ (fun p c hp' => ?_)) ?_ hcl
    · refine d.M_mono (fun k hk => ?_) (d.M_move (fun k hk => hm k ?_) hp')
      · obtain ⟨⟨⟨h1, _⟩, h2⟩, h3⟩ := hk
        refine ⟨⟨h1, ?_⟩, h3⟩
        intro e4
        exact h2 (by simpa [Value.ownBlock] using e4)
      · obtain ⟨⟨_, h2⟩, _⟩ := hk
        intro e4
        exact h2 (by rw [e4]; rfl)
    · refine d.M_mono (fun k hk => ⟨⟨(hokp k hk).1, fun e4 => ?_⟩, hf k hk⟩) hp
      exact (hokp k hk).2 (by simpa [Value.ownBlock] using e4)
end Go.Proofs.Ytdbhelhoaciodaa.X
set_option linter.unusedVariables false
set_option linter.unusedSimpArgs false
namespace Go.Proofs.Ytdbhelhoaciodaa.X
open Go.RowKit Go.Proofs.YtdbhelhoaciodaaW.PrintWords Go.Proofs.YtdbhelhoaciodaaW.PrintLast Go.Proofs.YtdbhelhoaciodaaW.PrintMore
abbrev MPart := S64
structure PV (w W : World) (g n cap b : Nat) (boxes P : List MPart) : Prop where
  len : P.length = b
  row : Kd.S k64 64 W w.heap.size (fun _ => True) (.slice (some ⟨g, 0, none⟩) P.length cap) P
  cur : ∃ cur, W.heap[g]? = some (.cells cur 64 (0, 0)) ∧ cur.size = cap * 3 ∧ ∀ j x, b ≤ j → boxes[j]? = some x → ∃ A c, cur[j * 3]? = some (.int .i64 x.f0) ∧ cur[j * 3 + 1]? = some (.string x.f1) ∧ cur[j * 3 + 2]? = some (.slice A x.f2.length c) ∧ x.f2.length ≤ c ∧ Kd.C (Kd.int .i64) w A x.f2.length x.f2
  hb : Below w.heap.size w W
  ge : w.heap.size ≤ g
  nn : boxes.length = n
  nc : n ≤ cap
section
variable {w W W' : World} {g n cap b : Nat} {boxes P : List MPart}
theorem PV.lt (F : PV w W g n cap b boxes P) : g < W.heap.size := by
  obtain ⟨cur, h, _⟩ := F.cur
  exact blk_lt h
theorem PV.below (F : PV w W g n cap b boxes P) (h : Below W.heap.size W W') : PV w W' g n cap b boxes P where
  len := F.len
  row := Kd.S_below F.row h
  cur := by
    obtain ⟨cur, h1, h2⟩ := F.cur
    exact ⟨cur, (h.block g F.lt).trans h1, h2⟩
  hb := below_step F.hb h
  ge := F.ge
  nn := F.nn
  nc := F.nc
/-- The next box's cells. -/
theorem PV.at_ (F : PV w W g n cap b boxes P) (hlt : b < n) (z : MPart) : ∃ A c, W.cell? ⟨g, b * 3 + 2, none⟩ = some (.slice A (boxes.getD b z).f2.length c) ∧ W.frozen? ⟨g, b * 3 + 2, none⟩ = false ∧ (boxes.getD b z).f2.length ≤ c ∧ Kd.C (Kd.int .i64) W A (boxes.getD b z).f2.length (boxes.getD b z).f2 := by
  obtain ⟨cur, h1, h2, h3⟩ := F.cur
  have hbl : b < boxes.length := by rw [F.nn]; exact hlt
  obtain ⟨A, c, e1, e1', e2, e3, e4⟩ := h3 b boxes[b] (Nat.le_refl _) (List.getElem?_eq_getElem hbl)
  have hz : boxes.getD b z = boxes[b] := by rw [List.getD_eq_getElem?_getD, List.getElem?_eq_getElem hbl]; rfl
  rw [hz]
  exact ⟨A, c, (blk_cell h1 _).trans e2, blk_frozen h1 _, e3, Kd.C_below e4 F.hb⟩
/-- The next box has got its row. -/
theorem PV.put (F : PV w W g n cap b boxes P) (hlt : b < n) (z : MPart) (h : Below W.heap.size W W') {v : Value} {L : List Int} (hv : Kd.R (Kd.int .i64) 3 W' W.heap.size (fun _ => True) v L) : PV w (W'.setCell ⟨g, b * 3 + 2, none⟩ v) g n cap (b + 1) boxes (P ++ [⟨(boxes.getD b z).f0, (boxes.getD b z).f1, L⟩]) := by
  have hbl : b < boxes.length := by rw [F.nn]; exact hlt
  have hz : boxes.getD b z = boxes[b] := by rw [List.getD_eq_getElem?_getD, List.getElem?_eq_getElem hbl]; rfl
  have hg := F.lt
  obtain ⟨cur, h1, h2, h3⟩ := F.cur
  obtain ⟨A, c, e1, e1', e2, e3, e4⟩ := h3 b boxes[b] (Nat.le_refl _) (List.getElem?_eq_getElem hbl)
  have h1' : W'.heap[g]? = some (.cells cur 64 (0, 0)) := (h.block g hg).trans h1
  have hW2 : (W'.setCell ⟨g, b * 3 + 2, none⟩ v).heap[g]? = some (.cells (cur.setIfInBounds (b * 3 + 2) v) 64 (0, 0)) := blk_put h1' _ v rfl
  have hnc := F.nc
  have hsb : b * 3 + 2 < cur.size := by omega
  have hm : ∀ k, k ≠ g → (W'.setCell ⟨g, b * 3 + 2, none⟩ v).heap[k]? = W'.heap[k]? := fun k hk => Below.heap_setCell W' ⟨g, b * 3 + 2, none⟩ v k hk
  have hv2 : Kd.R (Kd.int .i64) 3 (W'.setCell ⟨g, b * 3 + 2, none⟩ v) w.heap.size (fun k => W.heap.size ≤ k) v L := by
    refine Kd.R_lower (Kd.R_mono (Kd.R_far (p := ⟨g, b * 3 + 2, none⟩) (Kd.R_mono (ok' := fun k => W.heap.size ≤ k) (Kd.R_bound hv) (fun k hk => hk.2.1)) (fun k hk e => ?_) v) (fun k hk => hk)) F.hb.size
    have e' : k = g := e
    omega
  have hset : ∀ j, j ≠ b * 3 + 2 → (cur.setIfInBounds (b * 3 + 2) v)[j]? = cur[j]? := fun j hj => by rw [Array.getElem?_setIfInBounds]; simp [Ne.symm hj]
  have hat : (cur.setIfInBounds (b * 3 + 2) v)[b * 3 + 2]? = some v := by rw [Array.getElem?_setIfInBounds]; simp [hsb]
  refine ⟨by rw [List.length_append, F.len, List.length_singleton], ?_, ?_, ?_, F.ge, F.nn, F.nc⟩
  · rw [List.length_append, List.length_singleton]
    refine S_snoc_at (W := W') (okp := fun k => W.heap.size ≤ k) (cur := cur) (cur2 := cur.setIfInBounds (b * 3 + 2) v) (cs := [.int .i64 (boxes.getD b z).f0, .string (boxes.getD b z).f1, v]) k64 (n := n) ?_ h1' hW2 hm (by rw [Array.size_setIfInBounds]) ?_ ?_ rfl (by rw [F.len]; omega) (k64_mkM _ _ _ (⟨(boxes.getD b z).f0, (boxes.getD b z).f1, L⟩ : MPart) hv2) (fun k hk => ⟨trivial, by omega⟩)
    · exact Kd.S_below (Kd.S_mono (Kd.S_bound F.row) (fun k hk => ⟨trivial, by have := hk.2.2.1; omega⟩)) h
    · intro j hj
      refine hset j ?_
      have hj' : j < P.length * 3 := hj
      rw [F.len] at hj'
      omega
    · rw [F.len, hz]
      show ((cur.setIfInBounds (b * 3 + 2) v).toList.drop (b * 3)).take 3 = _
      have q0 : (cur.setIfInBounds (b * 3 + 2) v).toList[b * 3]? = some (.int .i64 boxes[b].f0) := by rw [Array.getElem?_toList, hset _ (by omega)]; exact e1
      have q1 : (cur.setIfInBounds (b * 3 + 2) v).toList[b * 3 + 1]? = some (.string boxes[b].f1) := by rw [Array.getElem?_toList, hset _ (by omega)]; exact e1'
      have q2 : (cur.setIfInBounds (b * 3 + 2) v).toList[b * 3 + 1 + 1]? = some v := by rw [Array.getElem?_toList]; exact hat
      obtain ⟨l0, g0⟩ := List.getElem?_eq_some_iff.1 q0
      obtain ⟨l1, g1⟩ := List.getElem?_eq_some_iff.1 q1
      obtain ⟨l2, g2⟩ := List.getElem?_eq_some_iff.1 q2
      rw [List.drop_eq_getElem_cons l0, List.drop_eq_getElem_cons l1, List.drop_eq_getElem_cons l2, List.take_succ_cons, List.take_succ_cons, List.take_succ_cons, List.take_zero, g0, g1, g2]
  · refine ⟨_, hW2, by rw [Array.size_setIfInBounds]; exact h2, fun j x hj hx => ?_⟩
    obtain ⟨A2, c2, k1, k1', k2, k3, k4⟩ := h3 j x (by omega) hx
    exact ⟨A2, c2, by rw [hset _ (by omega)]; exact k1, by rw [hset _ (by omega)]; exact k1', by rw [hset _ (by omega)]; exact k2, k3, k4⟩
  · exact below_set (below_step F.hb h) F.ge
/-- The row as it is when all have theirs. -/
theorem PV.done (F : PV w W g n cap b boxes P) (hn : b = n) : Kd.S k64 64 W w.heap.size (fun _ => True) (.slice (some ⟨g, 0, none⟩) n cap) P := by
  have h := F.row
  rw [F.len, hn] at h
  exact h
end
open Classical in
theorem raw_rowsP {w : World} {A : Option Addr} {n : Nat} {xs : List MPart} (h : Kd.C k64 w A n xs) : ∃ rows : List (List Value), Kd.C (Kd.raw 3) w A n rows ∧ rows.length = xs.length ∧ ∀ (j : Nat) (x : MPart), xs[j]? = some x → ∃ c, rows[j]? = some c ∧ k64.K w x c := by
  obtain ⟨h1, h2, h3⟩ := h
  rcases Nat.eq_zero_or_pos n with h0 | h0
  · refine ⟨[], ⟨by simpa using h0.symm, h2, fun h => by omega⟩, by simp; omega, fun j x hx => ?_⟩
    have : xs = [] := List.length_eq_zero_iff.1 (by omega)
    subst this
    simp at hx
  obtain ⟨ad, e, hc⟩ := h3 h0
  have hc' : ∀ j : Nat, ∃ c : List Value, ∀ p, xs[j]? = some p → c.length = 3 ∧ k64.K w p c ∧ ∀ i u, c[i]? = some u → w.cell? (ad.add (j * 3 + i)) = some u := by
    intro j
    cases hx : xs[j]? with
    | none => exact ⟨[], fun p hp => by cases hp⟩
    | some p =>
      obtain ⟨c, q1, q2, q3⟩ := hc j p hx
      exact ⟨c, fun p' hp' => by injection hp' with e'; subst e'; exact ⟨q1, q2, q3⟩⟩
  refine ⟨(List.range xs.length).map (fun j => (hc' j).choose), ⟨by rw [List.length_map, List.length_range]; exact h1, h2, fun _ => ⟨ad, e, fun j p hj => ?_⟩⟩, by rw [List.length_map, List.length_range], fun j x hx => ?_⟩
  · rw [List.getElem?_map] at hj
    obtain ⟨j', hj', rfl⟩ := Option.map_eq_some_iff.1 hj
    obtain ⟨hlt, e2⟩ := List.getElem?_eq_some_iff.1 hj'
    rw [List.getElem_range] at e2
    subst e2
    rw [List.length_range] at hlt
    obtain ⟨q1, q2, q3⟩ := (hc' j).choose_spec xs[j] (List.getElem?_eq_getElem hlt)
    exact ⟨_, q1, ⟨rfl, q1, fun u hu => k64.K_one q2 u hu⟩, q3⟩
  · obtain ⟨hlt, e2⟩ := List.getElem?_eq_some_iff.1 hx
    refine ⟨(hc' j).choose, ?_, ((hc' j).choose_spec x hx).2.1⟩
    rw [List.getElem?_map, List.getElem?_range hlt]
    rfl
end Go.Proofs.Ytdbhelhoaciodaa.X
set_option linter.unusedVariables false
set_option linter.unusedSimpArgs false
namespace Go.Proofs.Ytdbhelhoaciodaa.X
open Go.RowKit Go.Proofs.YtdbhelhoaciodaaW.PrintWords Go.Proofs.YtdbhelhoaciodaaW.PrintLast Go.Proofs.YtdbhelhoaciodaaW.PrintMore
abbrev MBox := S80
structure MV (w W : World) (g n cap b : Nat) (boxes P : List MBox) : Prop where
  len : P.length = b
  row : Kd.S k80 80 W w.heap.size (fun _ => True) (.slice (some ⟨g, 0, none⟩) P.length cap) P
  cur : ∃ cur, W.heap[g]? = some (.cells cur 80 (0, 0)) ∧ cur.size = cap * 2 ∧ ∀ j x, b ≤ j → boxes[j]? = some x → ∃ A c, cur[j * 2]? = some (.int .i64 x.f0) ∧ cur[j * 2 + 1]? = some (.slice A x.f1.length c) ∧ x.f1.length ≤ c ∧ Kd.C (Kd.int .i64) w A x.f1.length x.f1
  hb : Below w.heap.size w W
  ge : w.heap.size ≤ g
  nn : boxes.length = n
  nc : n ≤ cap
section
variable {w W W' : World} {g n cap b : Nat} {boxes P : List MBox}
theorem MV.lt (F : MV w W g n cap b boxes P) : g < W.heap.size := by
  obtain ⟨cur, h, _⟩ := F.cur
  exact blk_lt h
theorem MV.below (F : MV w W g n cap b boxes P) (h : Below W.heap.size W W') : MV w W' g n cap b boxes P where
  len := F.len
  row := Kd.S_below F.row h
  cur := by
    obtain ⟨cur, h1, h2⟩ := F.cur
    exact ⟨cur, (h.block g F.lt).trans h1, h2⟩
  hb := below_step F.hb h
  ge := F.ge
  nn := F.nn
  nc := F.nc
/-- The next box's cells. -/
theorem MV.at_ (F : MV w W g n cap b boxes P) (hlt : b < n) (z : MBox) : ∃ A c, W.cell? ⟨g, b * 2, none⟩ = some (.int .i64 (boxes.getD b z).f0) ∧ W.cell? ⟨g, b * 2 + 1, none⟩ = some (.slice A (boxes.getD b z).f1.length c) ∧ W.frozen? ⟨g, b * 2 + 1, none⟩ = false ∧ (boxes.getD b z).f1.length ≤ c ∧ Kd.C (Kd.int .i64) W A (boxes.getD b z).f1.length (boxes.getD b z).f1 := by
  obtain ⟨cur, h1, h2, h3⟩ := F.cur
  have hbl : b < boxes.length := by rw [F.nn]; exact hlt
  obtain ⟨A, c, e1, e2, e3, e4⟩ := h3 b boxes[b] (Nat.le_refl _) (List.getElem?_eq_getElem hbl)
  have hz : boxes.getD b z = boxes[b] := by rw [List.getD_eq_getElem?_getD, List.getElem?_eq_getElem hbl]; rfl
  rw [hz]
  exact ⟨A, c, (blk_cell h1 _).trans e1, (blk_cell h1 _).trans e2, blk_frozen h1 _, e3, Kd.C_below e4 F.hb⟩
/-- The next box has got its row. -/
theorem MV.put (F : MV w W g n cap b boxes P) (hlt : b < n) (z : MBox) (h : Below W.heap.size W W') {v : Value} {L : List Int} (hv : Kd.R (Kd.int .i64) 3 W' W.heap.size (fun _ => True) v L) : MV w (W'.setCell ⟨g, b * 2 + 1, none⟩ v) g n cap (b + 1) boxes (P ++ [⟨(boxes.getD b z).f0, L⟩]) := by
  have hbl : b < boxes.length := by rw [F.nn]; exact hlt
  have hz : boxes.getD b z = boxes[b] := by rw [List.getD_eq_getElem?_getD, List.getElem?_eq_getElem hbl]; rfl
  have hg := F.lt
  obtain ⟨cur, h1, h2, h3⟩ := F.cur
  obtain ⟨A, c, e1, e2, e3, e4⟩ := h3 b boxes[b] (Nat.le_refl _) (List.getElem?_eq_getElem hbl)
  have h1' : W'.heap[g]? = some (.cells cur 80 (0, 0)) := (h.block g hg).trans h1
  have hW2 : (W'.setCell ⟨g, b * 2 + 1, none⟩ v).heap[g]? = some (.cells (cur.setIfInBounds (b * 2 + 1) v) 80 (0, 0)) := blk_put h1' _ v rfl
  have hnc := F.nc
  have hsb : b * 2 + 1 < cur.size := by omega
  have hm : ∀ k, k ≠ g → (W'.setCell ⟨g, b * 2 + 1, none⟩ v).heap[k]? = W'.heap[k]? := fun k hk => Below.heap_setCell W' ⟨g, b * 2 + 1, none⟩ v k hk
  have hv2 : Kd.R (Kd.int .i64) 3 (W'.setCell ⟨g, b * 2 + 1, none⟩ v) w.heap.size (fun k => W.heap.size ≤ k) v L := by
    refine Kd.R_lower (Kd.R_mono (Kd.R_far (p := ⟨g, b * 2 + 1, none⟩) (Kd.R_mono (ok' := fun k => W.heap.size ≤ k) (Kd.R_bound hv) (fun k hk => hk.2.1)) (fun k hk e => ?_) v) (fun k hk => hk)) F.hb.size
    have e' : k = g := e
    omega
  have hset : ∀ j, j ≠ b * 2 + 1 → (cur.setIfInBounds (b * 2 + 1) v)[j]? = cur[j]? := fun j hj => by rw [Array.getElem?_setIfInBounds]; simp [Ne.symm hj]
  have hat : (cur.setIfInBounds (b * 2 + 1) v)[b * 2 + 1]? = some v := by rw [Array.getElem?_setIfInBounds]; simp [hsb]
  refine ⟨by rw [List.length_append, F.len, List.length_singleton], ?_, ?_, ?_, F.ge, F.nn, F.nc⟩
  · rw [List.length_append, List.length_singleton]
    refine S_snoc_at (W := W') (okp := fun k => W.heap.size ≤ k) (cur := cur) (cur2 := cur.setIfInBounds (b * 2 + 1) v) (cs := [.int .i64 (boxes.getD b z).f0, v]) k80 (n := n) ?_ h1' hW2 hm (by rw [Array.size_setIfInBounds]) ?_ ?_ rfl (by rw [F.len]; omega) (k80_mkM _ _ _ (⟨(boxes.getD b z).f0, L⟩ : MBox) hv2) (fun k hk => ⟨trivial, by omega⟩)
    · exact Kd.S_below (Kd.S_mono (Kd.S_bound F.row) (fun k hk => ⟨trivial, by have := hk.2.2.1; omega⟩)) h
    · intro j hj
      refine hset j ?_
      have hj' : j < P.length * 2 := hj
      rw [F.len] at hj'
      omega
    · rw [F.len, hz]
      show ((cur.setIfInBounds (b * 2 + 1) v).toList.drop (b * 2)).take 2 = _
      have q0 : (cur.setIfInBounds (b * 2 + 1) v).toList[b * 2]? = some (.int .i64 boxes[b].f0) := by rw [Array.getElem?_toList, hset _ (by omega)]; exact e1
      have q1 : (cur.setIfInBounds (b * 2 + 1) v).toList[b * 2 + 1]? = some v := by rw [Array.getElem?_toList]; exact hat
      obtain ⟨l0, g0⟩ := List.getElem?_eq_some_iff.1 q0
      obtain ⟨l1, g1⟩ := List.getElem?_eq_some_iff.1 q1
      rw [List.drop_eq_getElem_cons l0, List.drop_eq_getElem_cons l1, List.take_succ_cons, List.take_succ_cons, List.take_zero, g0, g1]
  · refine ⟨_, hW2, by rw [Array.size_setIfInBounds]; exact h2, fun j x hj hx => ?_⟩
    obtain ⟨A2, c2, k1, k2, k3, k4⟩ := h3 j x (by omega) hx
    exact ⟨A2, c2, by rw [hset _ (by omega)]; exact k1, by rw [hset _ (by omega)]; exact k2, k3, k4⟩
  · exact below_set (below_step F.hb h) F.ge
/-- The row as it is when all have theirs. -/
theorem MV.done (F : MV w W g n cap b boxes P) (hn : b = n) : Kd.S k80 80 W w.heap.size (fun _ => True) (.slice (some ⟨g, 0, none⟩) n cap) P := by
  have h := F.row
  rw [F.len, hn] at h
  exact h
end
end Go.Proofs.Ytdbhelhoaciodaa.X
set_option linter.unusedVariables false
set_option linter.unusedSimpArgs false
namespace Go.Proofs.Ytdbhelhoaciodaa.X
open Go.RowKit Go.Proofs.YtdbhelhoaciodaaW.PrintWords Go.Proofs.YtdbhelhoaciodaaW.PrintLast Go.Proofs.YtdbhelhoaciodaaW.PrintMore
theorem cloneB_eqnil (t e : Nat) (ht : Try.prog.underlying t = some (.slice e)) (A : Option Addr) (n c : Nat) (w : World) : Sem.run Try.prog (binOp .eql t (.slice A n c) (.slice none 0 0)) w = .ok (.bool A.isNone) w := by
  have hr : Sem.run Try.prog (underlying t) w = .ok (.slice e) w := by simp [underlying, ht]
  cases A <;> (simp [binOp, Op.equal, Op.maxDepth]; unfold Op.equalIn; simp [hr])
set_option maxHeartbeats 1000000 in
set_option maxRecDepth 100000 in
theorem cloneI (A0 : Option Addr) (c0 : Nat) (l0 : List Int) (w : World) (hr0 : Kd.C (Kd.int .i64) w A0 l0.length l0) (hl : l0.length < 4398046511104) :
    Calls Try.prog 65 #[.slice A0 l0.length c0] w fun e w' => ∃ v0_ : Value, e = .returned v0_ ∧ Kd.R (Kd.int .i64) 3 w' w.heap.size (fun _ => True) v0_ l0 ∧ Below w.heap.size w w' := by
  have HL := Aside0.mk hl
  have hu27 := Try.underlying26
  clear hl
  cases A0 with
  | none =>
    have hn : l0 = [] := by
      rcases l0 with _ | ⟨x, l⟩
      · rfl
      · obtain ⟨ad, e, _⟩ := hr0.2.2 (Nat.succ_pos _)
        exact absurd e (by simp)
    subst hn
    clear hr0
    have he : Sem.run Try.prog (binOp .eql 26 (.slice none 0 c0) (.slice none 0 0)) w = .ok (.bool true) w := cloneB_eqnil _ _ hu27 none 0 c0 w
    go_enter Try.func65, Try.ntmps65
    go_wp2
    go_ret
    exact ⟨_, rfl, Kd.R_nil _ _ _ _ _, Below.refl _ _⟩
  | some ad =>
    have HR0 := Aside0.mk hr0
    have he : Sem.run Try.prog (binOp .eql 26 (.slice (some ad) l0.length c0) (.slice none 0 0)) w = .ok (.bool false) w := cloneB_eqnil _ _ hu27 (some ad) l0.length c0 w
    clear hr0
    go_enter Try.func65, Try.ntmps65
    go_wp2_with (first | ((with_reducible refine gate_dst (N := 5) rfl ?_); refine Kd.R_lit (Kd.int .i64) _ 3 ?hg (N := 5) ?hd (xs := ([] : List Int)) (inner := []) (ok := fun _ => True) (okp := fun _ => True) ?hr ?hp (fun _ hk => hk) trivial (Below.refl _ _) (Nat.le_refl _) (by simp) ?_; (case hd => rfl); (case hg => rfl); (case hr => first | (go_simp; done) | (go_simp; rfl)); (case hp => exact (Reps.none _ _)); intro v1 w1 ho hb hg_ hnew_; clear hg_ hnew_; have HO := Aside0.mk ho; have HB := Aside0.mk hb; clear ho hb) | ((with_reducible refine gate_builtin (b := .append) (xs := #[.tmp 5, .tmp 6]) rfl ?_); refine Kd.R_append_rows (Kd.int .i64) (w0 := w) w.heap.size rfl (.tmp 5) (.tmp 6) _ 3 (.int .i64 0) 8 rfl (by kernel_rfl) info3 rfl (by decide) (by omega) v1 ([] : List Int) l0 _ _ _ (fun _ => True) (fun _ => False) rfl rfl ?aO ?aR (fun _ _ h => h) (fun _ h => h.elim) ?aF ?aB ?aS ?aL ?_; (case aO => exact HO.out); (case aR => exact Kd.C_below HR0.out HB.out); (case aF => exact (fun _ _ => trivial)); (case aB => exact HB.out); (case aS => exact HB.out.size); (case aL => have := HL.out; simp only [List.length_nil]; omega); intro v2 w2 ho hb hg hat; clear hg hat; have HO2 := Aside0.mk ho; have HB2 := Aside0.mk hb; clear ho hb))
    go_ret
    exact ⟨_, rfl, HO2.out, HB2.out⟩
end Go.Proofs.Ytdbhelhoaciodaa.X
set_option linter.unusedVariables false
set_option linter.unusedSimpArgs false
namespace Go.Proofs.Ytdbhelhoaciodaa.X
open Go.RowKit Go.Proofs.YtdbhelhoaciodaaW.PrintWords Go.Proofs.YtdbhelhoaciodaaW.PrintLast Go.Proofs.YtdbhelhoaciodaaW.PrintMore
theorem PV_start {w W : World} {n : Nat} {boxes : List MPart} {rows : List (List Value)} {v : Value} (hw : Below w.heap.size w W) (hn : boxes.length = n) (hpos : 0 < n) (hrows : rows.length = n) (hrel : ∀ (j : Nat) (x : MPart), boxes[j]? = some x → ∃ c, rows[j]? = some c ∧ k64.K w x c) (h : Kd.R (Kd.raw 3) 64 W w.heap.size (fun _ => True) v rows) :
    ∃ g cap, v = .slice (some ⟨g, 0, none⟩) n cap ∧ PV w W g n cap 0 boxes [] := by
  obtain ⟨_, inner, ho, hr⟩ := h
  rw [hrows] at ho
  replace ho : W.ownsRow w.heap.size 64 3 v n inner := ho
  rcases ho.2 with ⟨_, h0⟩ | ⟨g, cap, cur, e0, hbase, hg, hnc, hm1, hs, ht⟩
  · omega
  have hat : ∀ (j : Nat) (c : List Value), rows[j]? = some c → ((inner.drop (j * 3)).take 3) = c ∧ c.length = 3 := by
    intro j c hj
    have := hr.2 j c hj
    exact ⟨this.1, by rw [← this.1]; exact this.2.1⟩
  refine ⟨g, cap, e0, rfl, ?_, ⟨cur, hg, hs, fun j x _ hx => ?_⟩, hw, hbase, hn, hnc⟩
  · refine ⟨fun _ => 0, fun _ _ => trivial, [], ⟨rfl, .inr ⟨g, cap, cur, rfl, hbase, hg, Nat.zero_le _, hm1, hs, by simp⟩⟩, Reps.none _ _⟩
  · obtain ⟨c, q1, q2⟩ := hrel j x hx
    obtain ⟨A1, c1, e1, e2, e3⟩ := k64_open q2
    obtain ⟨q3, q4⟩ := hat j c q1
    rw [e1] at q3
    have hj : j < n := by rw [← hn]; exact (List.getElem?_eq_some_iff.1 hx).1
    have p0 := congrArg (fun l : List Value => l[0]?) q3
    have p1 := congrArg (fun l : List Value => l[1]?) q3
    have p2 := congrArg (fun l : List Value => l[2]?) q3
    simp only [List.getElem?_take, List.getElem?_drop, List.getElem?_cons_zero, List.getElem?_cons_succ] at p0 p1 p2
    rw [if_pos (by omega)] at p0 p1 p2
    rw [← ht, List.getElem?_take, if_pos (by omega), Array.getElem?_toList] at p0 p1 p2
    exact ⟨A1, c1, p0, p1, p2, e2, e3⟩
set_option maxHeartbeats 1000000 in
set_option maxRecDepth 100000 in
theorem cloneP (A0 : Option Addr) (c0 : Nat) (boxes : List MPart) (w : World) (hr0 : Kd.C k64 w A0 boxes.length boxes) (hl : boxes.length < 1099511627776) (hpos : 0 < boxes.length) :
    Calls Try.prog 126 #[.slice A0 boxes.length c0] w fun e w' => ∃ g cap, e = .returned (.slice (some ⟨g, 0, none⟩) boxes.length cap) ∧ PV w w' g boxes.length cap 0 boxes [] := by
  obtain ⟨ad, rfl, _⟩ := hr0.2.2 hpos
  obtain ⟨rows, hC, hrl, hrel⟩ := raw_rowsP hr0
  have hrn : rows.length = boxes.length := hrl
  have HC := Aside0.mk hC
  have HL := Aside0.mk hl
  have HM := Aside0.mk (fun (W : World) (v : Value) (hw : Below w.heap.size w W) (h : Kd.R (Kd.raw 3) 64 W w.heap.size (fun _ => True) v rows) => PV_start hw rfl hpos hrn hrel h)
  have hu27 := Try.underlying55
  have he : Sem.run Try.prog (binOp .eql 55 (.slice (some ad) boxes.length c0) (.slice none 0 0)) w = .ok (.bool false) w := cloneB_eqnil _ _ hu27 (some ad) boxes.length c0 w
  clear hr0 hl hC hrel
  go_enter Try.func126, Try.ntmps126
  go_wp2_with (first | ((with_reducible refine gate_dst (N := 5) rfl ?_); refine Kd.R_lit (Kd.raw 3) _ 64 ?hg (N := 5) ?hd (xs := ([] : List (List Value))) (inner := []) (ok := fun _ => True) (okp := fun _ => True) ?hr ?hp (fun _ hk => hk) trivial (Below.refl _ _) (Nat.le_refl _) (by simp) ?_; (case hd => rfl); (case hg => rfl); (case hr => first | (go_simp; done) | (go_simp; rfl)); (case hp => exact (Reps.none _ _)); intro v1 w1 ho hb hg_ hnew_; clear hg_ hnew_; have HO := Aside0.mk ho; have HB := Aside0.mk hb; clear ho hb) | ((with_reducible refine gate_builtin (b := .append) (xs := #[.tmp 5, .tmp 6]) rfl ?_); refine Kd.R_append_rows (Kd.raw 3) (w0 := w) w.heap.size rfl (.tmp 5) (.tmp 6) _ 64 (.agg #[(.int .i64 0), (.string ⟨#[]⟩), (.slice none 0 0)]) 48 rfl (by kernel_rfl) info64 rfl (by decide) (by omega) v1 ([] : List (List Value)) rows _ _ _ (fun _ => True) (fun _ => False) rfl rfl ?aO ?aR (fun _ _ h => h) (fun _ h => h.elim) ?aF ?aB ?aS ?aL ?_; (case aR => exact Kd.C_below HC.out HB.out); (case aB => exact HB.out); (case aF => exact (fun _ _ => trivial)); (case aO => exact HO.out); (case aS => exact HB.out.size); (case aL => have := HL.out; simp; omega); intro v2 w2 ho hb hg_ hat_; have HO2 := Aside0.mk ho; have HB2 := Aside0.mk hb; clear ho hb hg_ hat_))
  go_ret
  have h := HO2.out
  rw [List.nil_append] at h
  obtain ⟨g, cap, e, M⟩ := HM.out _ _ HB2.out h
  exact ⟨g, cap, by rw [e]; rfl, M⟩
theorem S_raw_nil {W : World} {base : Nat} {v : Value} (h : Kd.R (Kd.raw 3) 64 W base (fun _ => True) v []) : Kd.S k64 64 W base (fun _ => True) v [] := by
  obtain ⟨_, inner, ho, hr⟩ := h
  have hl := hr.1
  have hi : inner = [] := List.length_eq_zero_iff.1 (by simpa using hl)
  subst hi
  exact ⟨fun _ => 0, fun _ _ => trivial, [], ho, Reps.none _ _⟩
set_option maxHeartbeats 1000000 in
set_option maxRecDepth 100000 in
theorem cloneP0 (A0 : Option Addr) (c0 : Nat) (w : World) :
    Calls Try.prog 126 #[.slice A0 0 c0] w fun e w' => ∃ A cap, e = .returned (.slice A 0 cap) ∧ Kd.S k64 64 w' w.heap.size (fun _ => True) (.slice A 0 cap) [] ∧ Below w.heap.size w w' := by
  have hu27 := Try.underlying55
  cases A0 with
  | none =>
    have he : Sem.run Try.prog (binOp .eql 55 (.slice none 0 c0) (.slice none 0 0)) w = .ok (.bool true) w := cloneB_eqnil _ _ hu27 none 0 c0 w
    go_enter Try.func126, Try.ntmps126
    go_wp2
    go_ret
    exact ⟨none, 0, rfl, Kd.S_nil _ _ _ _ _, Below.refl _ _⟩
  | some ad =>
    have he : Sem.run Try.prog (binOp .eql 55 (.slice (some ad) 0 c0) (.slice none 0 0)) w = .ok (.bool false) w := cloneB_eqnil _ _ hu27 (some ad) 0 c0 w
    have HC := Aside0.mk (show Kd.C (Kd.raw 3) w (some ad) 0 [] from ⟨rfl, by omega, fun h => by omega⟩)
    go_enter Try.func126, Try.ntmps126
    go_wp2_with (first | ((with_reducible refine gate_dst (N := 5) rfl ?_); refine Kd.R_lit (Kd.raw 3) _ 64 ?hg (N := 5) ?hd (xs := ([] : List (List Value))) (inner := []) (ok := fun _ => True) (okp := fun _ => True) ?hr ?hp (fun _ hk => hk) trivial (Below.refl _ _) (Nat.le_refl _) (by simp) ?_; (case hd => rfl); (case hg => rfl); (case hr => first | (go_simp; done) | (go_simp; rfl)); (case hp => exact (Reps.none _ _)); intro v1 w1 ho hb hg_ hnew_; clear hg_ hnew_; have HO := Aside0.mk ho; have HB := Aside0.mk hb; clear ho hb) | ((with_reducible refine gate_builtin (b := .append) (xs := #[.tmp 5, .tmp 6]) rfl ?_); refine Kd.R_append_rows (Kd.raw 3) (w0 := w) w.heap.size rfl (.tmp 5) (.tmp 6) _ 64 (.agg #[(.int .i64 0), (.string ⟨#[]⟩), (.slice none 0 0)]) 48 rfl (by kernel_rfl) info64 rfl (by decide) (by omega) v1 ([] : List (List Value)) [] _ _ _ (fun _ => True) (fun _ => False) rfl rfl ?aO ?aR (fun _ _ h => h) (fun _ h => h.elim) ?aF ?aB ?aS ?aL ?_; (case aR => exact Kd.C_below HC.out HB.out); (case aB => exact HB.out); (case aF => exact (fun _ _ => trivial)); (case aO => exact HO.out); (case aS => exact HB.out.size); (case aL => simp); intro v2 w2 ho hb hg_ hat_; obtain ⟨A2, cp2, rfl⟩ := Kd.R_slice ho; have HO2 := Aside0.mk ho; have HB2 := Aside0.mk hb; clear ho hb hg_ hat_))
    go_ret
    exact ⟨A2, cp2, rfl, S_raw_nil HO2.out, HB2.out⟩
def impl_copyParts.f (l0 : List (S64)) : Option (List (S64)) := if (decide (l0.length < 1099511627776) && l0.all (fun x => decide (x.f2.length < 4398046511104))) = true then some l0 else none
set_option maxHeartbeats 2000000 in
set_option maxRecDepth 100000 in
theorem impl_copyParts.calls (A0 : Option Addr) (c0 : Nat) (l0 : List (S64)) (r : List (S64)) (w : World) (hr0 : Kd.C k64 w A0 l0.length l0) (hc0 : l0.length ≤ c0) (h : impl_copyParts.f l0 = some r) :
    Calls Try.prog 90 #[.slice A0 l0.length c0] w fun e w' => ∃ v0_ : Value, e = .returned (v0_) ∧ Kd.S k64 64 w' w.heap.size (fun _ => True) v0_ r ∧ Below w.heap.size w w' := by
  unfold impl_copyParts.f at h
  cases hS : (decide (l0.length < 1099511627776) && l0.all (fun x => decide (x.f2.length < 4398046511104))) with
  | false => rw [hS, if_neg (by simp)] at h; exact absurd h (by simp)
  | true =>
  rw [hS, if_pos rfl] at h
  obtain rfl := Option.some.inj h
  clear h
  rw [Bool.and_eq_true, decide_eq_true_eq, List.all_eq_true] at hS
  have HS1 := Aside0.mk hS.1
  have HS2 := Aside0.mk (fun x hx => of_decide_eq_true (hS.2 x hx) : ∀ x ∈ l0, x.f2.length < 4398046511104)
  have HR0 := Aside0.mk hr0
  clear hS hr0
  rcases Nat.eq_zero_or_pos l0.length with h0 | h0
  · have e0 : l0 = [] := List.length_eq_zero_iff.1 h0
    subst e0
    clear h0
    go_enter Try.func90, Try.ntmps90
    go_wp2_with ((with_reducible refine gate_callee (f := 126) rfl ?_); refine gL (some 6) Try.func126 #[.slice A0 0 c0] ?_; refine (cloneP0 A0 c0 _).mono ?_; rintro e w5 ⟨A5, c5, rfl, hO, hb⟩; refine ⟨_, rfl, ?_⟩; have HO := Aside0.mk hO; have HB := Aside0.mk hb; clear hO hb)
    go_loopg [9] 1 (fun gg s9 wr => s9 = .int .i64 0 ∧ Aside0 (wr = w5))
    case atStart => exact ⟨rfl, ⟨rfl⟩⟩
    case round =>
      obtain ⟨rfl, HW⟩ := hrel
      have hw := HW.out
      subst hw
      go_wp2
      go_ret
      exact ⟨_, rfl, HO.out, HB.out⟩
  · have HPO := Aside0.mk h0
    clear h0
    go_enter Try.func90, Try.ntmps90
    go_wp2_with ((with_reducible refine gate_callee (f := 126) rfl ?_); refine gL (some 6) Try.func126 #[.slice A0 l0.length c0] ?_; refine (cloneP A0 c0 l0 _ ?k1 ?k2 ?k3).mono ?_; (case k1 => exact HR0.out); (case k2 => exact HS1.out); (case k3 => exact HPO.out); rintro e w5 ⟨g, cap, rfl, hM⟩; refine ⟨_, rfl, ?_⟩; have FM := Aside0.mk hM; clear hM)
    go_loopg [9] l0.length (fun gg s9 wr => ∃ (i : Int) (P : List MPart), s9 = .int .i64 i ∧ Aside0 (0 ≤ i ∧ i ≤ (l0.length : Int)) ∧ Aside0 ((l0.length : Int) - i ≤ (gg : Int)) ∧ Aside0 (P = l0.take i.toNat) ∧ Aside0 (PV w wr g l0.length cap i.toNat l0 P))
    case atStart => exact ⟨0, [], rfl, ⟨by omega⟩, ⟨by omega⟩, ⟨by simp⟩, FM⟩
    case round =>
      obtain ⟨i, P, rfl, Hi, Hg, HP, F⟩ := hrel
      by_cases c : i < (l0.length : Int)
      · have cb := decide_eq_true c
        have q0 : 0 ≤ i := Hi.out.1
        have hlt : i.toNat < l0.length := by omega
        obtain ⟨Ab, cbx, hx1, hfz, hle, hC⟩ := F.out.at_ hlt z64
        have hxm : l0.getD i.toNat z64 ∈ l0 := by rw [List.getD_eq_getElem?_getD, List.getElem?_eq_getElem hlt]; exact List.getElem_mem hlt
        have hsx := HS2.out _ hxm
        have hPn : l0.take (i.toNat + 1) = l0.take i.toNat ++ [⟨(l0.getD i.toNat z64).f0, (l0.getD i.toNat z64).f1, (l0.getD i.toNat z64).f2⟩] := by
          rw [List.take_succ_eq_append_getElem hlt]
          congr 2
          rw [List.getD_eq_getElem?_getD, List.getElem?_eq_getElem hlt]
          rfl
        have hput := fun (W' : World) (h : Below wr.heap.size wr W') (v : Value) (L : List Int) (hv : Kd.R (Kd.int .i64) 3 W' wr.heap.size (fun _ => True) v L) => F.out.put hlt z64 h hv
        obtain ⟨x, hxe⟩ : ∃ x, x = l0.getD i.toNat z64 := ⟨_, rfl⟩
        rw [← hxe] at hx1 hle hC hsx hPn
        simp only [← hxe] at hput
        have HPUT := Aside0.mk hput
        have HPN := Aside0.mk hPn
        have HSX := Aside0.mk hsx
        have HCX := Aside0.mk hC
        have HLT := Aside0.mk hlt
        have hwi : wrap64 (i + 1) = i + 1 := E.wrap_id (by omega) (by have := HS1.out; omega)
        have p101 := eq_true q0
        have q101 := eq_true c
        clear hput hPn hsx hC hle hlt hxe c q0 hxm
        go_wp2_with ((with_reducible refine gate_callee (f := 65) rfl ?_); refine gL (some 19) Try.func65 #[.slice Ab x.f2.length cbx] ?_; refine (cloneI Ab cbx x.f2 _ ?j1 ?j2).mono ?_; (case j1 => exact HCX.out); (case j2 => exact HSX.out); rintro e w11 ⟨v11, rfl, ho, hb⟩; refine ⟨_, rfl, ?_⟩; obtain ⟨Av, cv, rfl⟩ := Kd.R_slice ho; have HO11 := Aside0.mk ho; have HBr11 := Aside0.mk hb; obtain ⟨_, _, hy12, hyf12, _⟩ := (F.out.below HBr11.out).at_ HLT.out z64; clear ho hb)
        have HM := Aside0.mk (HPUT.out _ HBr11.out _ _ HO11.out)
        go_roundg ((l0.length : Int) - (i + 1)).toNat
        case measure => have := Hg.out; have := HLT.out; omega
        case rel =>
          have e1 : (i + 1).toNat = i.toNat + 1 := by have := Hi.out; omega
          refine ⟨i + 1, _, by simp [*], ⟨by have := HLT.out; have := Hi.out; omega⟩, ⟨by have := HLT.out; have := Hi.out; omega⟩, ⟨?_⟩, ⟨by rw [e1]; exact HM.out⟩⟩
          rw [e1, HPN.out, HP.out]
      · have cb := decide_eq_false c
        have he : i.toNat = l0.length := by have := Hi.out; omega
        have hPa : P = l0 := by rw [HP.out, he, List.take_length]
        have hD := F.out.done he
        rw [hPa] at hD
        have HD := Aside0.mk hD
        have HBW := Aside0.mk F.out.hb
        clear hD hPa c
        go_wp2
        go_ret
        exact ⟨_, rfl, HD.out, HBW.out⟩
end Go.Proofs.Ytdbhelhoaciodaa.X
set_option linter.unusedVariables false
namespace Go.Proofs.Ytdbhelhoaciodaa.X
open Go.RowKit Go.Proofs.YtdbhelhoaciodaaW.PrintWords Go.Proofs.YtdbhelhoaciodaaW.PrintLast Go.Proofs.YtdbhelhoaciodaaW.PrintMore Go.Proofs.Ytdbhelhoaciodaa.E
theorem zeroCells_mem (z : Array Value) (m : Nat) (v : Value) (h : v ∈ (Builtin.zeroCells z m).toList) : v ∈ z.toList := by
  unfold Builtin.zeroCells at h
  rw [Array.toList_map, List.mem_map] at h
  obtain ⟨i, hi, rfl⟩ := h
  have hi' : i < m * z.size := by simpa using hi
  have hp : 0 < z.size := by
    rcases Nat.eq_zero_or_pos z.size with h0 | h0
    · rw [h0, Nat.mul_zero] at hi'
      omega
    · exact h0
  have hlt : i % z.size < z.size := Nat.mod_lt _ hp
  rw [getElem!_pos z _ hlt]
  exact Array.getElem_mem_toList hlt
theorem R_at0 {α : Type} {d : Kd α} {W : World} {base e : Nat} {ok : Nat → Prop} {v : Value} {xs : List α} (HO : Kd.R d e W base ok v xs) (hn : 0 < xs.length) : ∃ g cap, v = .slice (some ⟨g, 0, none⟩) xs.length cap := by
  obtain ⟨_, inner, ⟨_, ho⟩, _⟩ := HO
  rcases ho with ⟨_, h0⟩ | ⟨g, cap, cur, hv, _⟩
  · omega
  · exact ⟨g, cap, hv⟩
end Go.Proofs.Ytdbhelhoaciodaa.X
set_option linter.unusedVariables false
namespace Go.Proofs.Ytdbhelhoaciodaa.X
open Go.RowKit Go.Proofs.YtdbhelhoaciodaaW.PrintWords Go.Proofs.YtdbhelhoaciodaaW.PrintLast Go.Proofs.YtdbhelhoaciodaaW.PrintMore Go.Proofs.Ytdbhelhoaciodaa.E
set_option maxHeartbeats 1000000 in
set_option maxRecDepth 100000 in
theorem idxFunc111 (A_ : Option Addr) (c_ : Nat) (l0 : List (Int)) (g : Nat) (lb : Array Value) (p : Int → Bool) (w : World)
    (hr0 : Kd.C (Kd.int .i64) w A_ l0.length l0) (eg : ∀ args w, (callFunc g args).run Try.prog w = .ok (.enter g args) w)
    (hp : ∀ (W : World) (x : Int), x ∈ l0 → Below w.heap.size w W → Calls Try.prog g (#[.int .i64 x] ++ lb) W fun e w' => e = .returned (.bool (p x)) ∧ Below W.heap.size W w') :
    Calls Try.prog 111 #[.slice A_ l0.length c_, .func (.func g) #[] lb] w fun e w' => e = .returned (.int .i64 (idxG p 0 l0)) ∧ Below w.heap.size w w' := by
  have HL := Aside0.mk hr0.2.1
  have HR0 := Aside0.mk hr0
  have HP := Aside0.mk hp
  clear hr0 hp
  go_enter Try.func111, Try.ntmps111
  go_wp2
  go_loopg [5, 8] l0.length (fun gg _ s8 wr => ∃ x8 : Int, s8 = .int .i64 x8 ∧ Aside0 (0 ≤ x8) ∧ Aside0 (x8 ≤ (l0.length : Int)) ∧ Aside0 ((l0.length : Int) - x8 ≤ (gg : Int)) ∧ Aside0 (Below w.heap.size w wr) ∧ Aside0 (∀ (m : Nat) y, (m : Int) < x8 → l0[m]? = some y → p y = false))
  case atStart => exact ⟨0, rfl, ⟨by omega⟩, ⟨by omega⟩, ⟨by omega⟩, ⟨Below.refl _ _⟩, ⟨fun m y hm => by omega⟩⟩
  case round =>
    obtain ⟨x8, rfl, H0, H1, HG, HB, HN⟩ := hrel
    by_cases c : x8 < (l0.length : Int)
    · have p1 := H0.out
      have q1 := c
      have cb : decide (x8 < (l0.length : Int)) = true := decide_eq_true c
      obtain ⟨ad, e, hx0⟩ := Kd.at_int (Kd.C_below HR0.out HB.out) x8 p1 q1
      cases e
      replace p1 := eq_true p1
      replace q1 := eq_true q1
      have hel : l0[x8.toNat]? = some (rd l0 x8) := by
        have := H0.out
        unfold rd
        rw [List.getD_eq_getElem?_getD, List.getElem?_eq_getElem (show x8.toNat < l0.length by omega), Option.getD_some]
      have hcall := HP.out wr (rd l0 x8) (List.mem_of_getElem? hel) HB.out
      have HE := Aside0.mk hel
      clear hel
      have hwr : wrap64 (x8 + 1) = x8 + 1 := wrap_id (by have := H0.out; omega) (by have := HL.out; omega)
      cases hq : p (rd l0 x8) with
      | true =>
        rw [hq] at hcall
        have HQ := Aside0.mk hq
        clear hq
        go_wp2_with (go_at_fn g; refine hcall.mono ?_; rintro e w' ⟨rfl, hb⟩)
        go_ret
        refine ⟨?_, ?_⟩
        · rw [idxG_here HE.out HQ.out (fun m y hm => HN.out m y (by have := H0.out; omega))]
          have := H0.out
          rw [Int.toNat_of_nonneg (by omega)]
          rfl
        · exact below_step HB.out hb
      | false =>
        rw [hq] at hcall
        have HQ := Aside0.mk hq
        clear hq
        go_wp2_with (go_at_fn g; refine hcall.mono ?_; rintro e w' ⟨rfl, hb⟩)
        go_roundg (l0.length - (x8.toNat + 1))
        case measure => have := HG.out; have := H0.out; omega
        case rel =>
          refine ⟨x8 + 1, by simp [*], ⟨by have := H0.out; omega⟩, ⟨by omega⟩, ⟨by have := H0.out; omega⟩, ⟨below_step HB.out hb⟩, ⟨fun m y hm hy => ?_⟩⟩
          by_cases e : (m : Int) = x8
          · have : x8.toNat = m := by omega
            rw [← this, HE.out] at hy
            cases hy
            exact HQ.out
          · exact HN.out m y (by omega) hy
    · have cb : decide (x8 < (l0.length : Int)) = false := decide_eq_false c
      have e : x8 = (l0.length : Int) := by have := H1.out; omega
      have HE := Aside0.mk e
      clear e
      go_wp2
      go_ret
      refine ⟨?_, HB.out⟩
      rw [idxG_none (fun m y hm => HN.out m y (by rw [HE.out]; omega))]
      rfl
end Go.Proofs.Ytdbhelhoaciodaa.X
set_option linter.unusedVariables false
namespace Go.Proofs.Ytdbhelhoaciodaa.X
open Go.RowKit Go.Proofs.YtdbhelhoaciodaaW.PrintWords Go.Proofs.YtdbhelhoaciodaaW.PrintLast Go.Proofs.YtdbhelhoaciodaaW.PrintMore Go.Proofs.Ytdbhelhoaciodaa.E
theorem filter_take_succ {α : Type} (p : α → Bool) (l : List α) (j : Nat) (x : α) (h : l[j]? = some x) : (l.take (j + 1)).filter p = (l.take j).filter p ++ (if p x = true then [x] else []) := by
  obtain ⟨hl, hx⟩ := List.getElem?_eq_some_iff.1 h
  rw [List.take_succ_eq_append_getElem hl, List.filter_append, hx]
  congr 1
  cases hp : p x <;> simp [hp]
theorem take_set_succ {α : Type} (l : List α) (i : Nat) (x : α) (h : i < l.length) : (l.set i x).take (i + 1) = l.take i ++ [x] := by
  rw [List.take_succ_eq_append_getElem (by rw [List.length_set]; exact h), List.getElem_set_self, List.take_set_of_le (Nat.le_refl i)]
end Go.Proofs.Ytdbhelhoaciodaa.X
set_option linter.unusedVariables false
namespace Go.Proofs.Ytdbhelhoaciodaa.X
open Go.RowKit Go.Proofs.YtdbhelhoaciodaaW.PrintWords Go.Proofs.YtdbhelhoaciodaaW.PrintLast Go.Proofs.YtdbhelhoaciodaaW.PrintMore Go.Proofs.Ytdbhelhoaciodaa.E
theorem R_clearK {P : Program} {α : Type} (d : Kd α) {W w0 : World} {base e t ty g n cap c i bytes : Nat} {ok : Nat → Prop} {xs : List α} (z : Value) (ht : P.underlying t = some (.slice e)) (hinfo : (P.info? e).map (fun i => (i.zero, i.size, i.bytes)) = some (some z, d.sz, bytes)) (hz : z.cells.size = d.sz) (h1 : z.cells.toList.all (fun q => q.oneCell') = true)
    (HO : Kd.R d e W base ok (.slice (some ⟨g, 0, none⟩) n cap) xs) (hi : i < n) (HB : Below base w0 W) :
    ∃ w1, (Builtin.clear_ #[t] ty #[.slice (some ⟨g, i * d.sz, none⟩) (n - i) c]).run P W = .ok (.tuple #[]) w1 ∧ Kd.R d e w1 base ok (.slice (some ⟨g, 0, none⟩) i cap) (xs.take i) ∧ Below base w0 w1 ∧ Kept W w1 (fun k => k = g) := by
  obtain ⟨i0, hi0, hzz⟩ := Option.map_eq_some_iff.1 hinfo
  simp only [Prod.mk.injEq] at hzz
  have hv : ∀ w, (zeroValue e).run P w = .ok z w := fun w => by simp [zeroValue, typeInfo, hi0, hzz.1]
  obtain ⟨hn, hnc, _⟩ := Kd.R_reads' HO
  obtain ⟨hok, inner, ⟨hl, ho⟩, hr⟩ := Kd.R_take HO (m := i) (by omega)
  obtain ⟨m, hm⟩ : ∃ m, n - i = m + 1 := ⟨n - i - 1, by omega⟩
  obtain ⟨vs, hvs⟩ : ∃ vs, vs = (Builtin.zeroCells z.cells (m + 1)).toList := ⟨_, rfl⟩
  have hlen : vs.length = (n - i) * d.sz := by rw [hvs, hm, ← hz]; simp [Builtin.zeroCells]
  have h1s : ∀ v ∈ vs, v.oneCell' = true := fun v hv' => List.all_eq_true.1 h1 v (zeroCells_mem _ _ _ (hvs ▸ hv'))
  rcases ho with ⟨hv', _⟩ | ⟨g', cap', cur, hv', hb, hh, hnc', hcm, hcs, hct⟩
  · cases hv'
  injection hv' with ha _ hc
  injection ha with ha
  injection ha with hg
  subst hg; subst hc
  have hfit : i * d.sz + vs.length ≤ cur.size := by
    rw [hlen, ← Nat.add_mul, hcs]
    exact Nat.mul_le_mul_right _ (by omega)
  obtain ⟨cur', h3, h4, h5⟩ := setCells_row vs (i * d.sz) W cur hh hfit
  obtain ⟨s1, s2, s3, s4⟩ := setCells_same g vs (i * d.sz) W
  have hli : (xs.take i).length = i := by rw [List.length_take]; omega
  refine ⟨W.setCells g (i * d.sz) vs, ?_, ⟨hok, inner, ⟨hl, .inr ⟨g, cap, cur', by rw [hli], hb, h3, hnc', hcm, h4.trans hcs, ?_⟩⟩, hr.imp_ (fun _ _ hp => d.M_move (fun k hk => setCells_far vs _ k (fun e => hk.2 (by rw [e]; rfl))) hp)⟩, HB.trans ⟨s1, s2, s3, by rw [s4]; exact Nat.le_refl _, fun k hk => setCells_far vs _ k (by omega)⟩, ⟨by rw [s4]; exact Nat.le_refl _, fun k _ hk => setCells_far vs _ k (fun e => hk e)⟩⟩
  · have hst := run_storeCells_cells (P := P) g (i * d.sz) vs 0 W (fun j hj => by rw [cell_of_row W g _ cur e (0, 0) hh]; simp; omega) (fun j _ => blk_frozen hh _) h1s
    simp only [Nat.add_zero] at hst
    rw [hvs] at hst ⊢
    simp [Builtin.clear_, run_underlying ht, hv, hm, hst]
  · rw [hli] at hct ⊢
    have hb2 : i * d.sz ≤ cur.toList.length := by rw [Array.length_toList]; omega
    rw [h5, List.append_assoc, List.take_append_of_le_length (by rw [List.length_take]; omega), List.take_take, Nat.min_self]
    exact hct
set_option maxHeartbeats 4000000 in
set_option maxRecDepth 100000 in
theorem deleteFuncK (v : Value) (l0 : List (Int)) (g : Nat) (lb : Array Value) (p : Int → Bool) (w w0 : World) (base : Nat) (hbs : base ≤ w.heap.size) (hl : l0.length < 4398046511104)
    (HO : Kd.R (Kd.int .i64) 3 w base (fun _ => True) v l0) (HB0 : Below base w0 w) (eg : ∀ args w, (callFunc g args).run Try.prog w = .ok (.enter g args) w)
    (hp : ∀ (W : World) (x : Int), x ∈ l0 → Below base w0 W → Calls Try.prog g (#[.int .i64 x] ++ lb) W fun e w' => e = .returned (.bool (p x)) ∧ Below W.heap.size W w') :
    Calls Try.prog 64 #[v, .func (.func g) #[] lb] w fun e w' => ∃ v1, e = .returned v1 ∧ Kd.R (Kd.int .i64) 3 w' base (fun _ => True) v1 (l0.filter (fun x => !p x)) ∧ Below base w0 w' ∧ Kept w w' (fun k => v.ownBlock = some k) ∧ v1.ownBlock = v.ownBlock := by
  have hust := Try.underlying26
  obtain ⟨A_, c_, rfl, hlc, hC⟩ := Kd.R_reads HO
  have hI := idxFunc111 A_ c_ l0 g lb p w hC eg (fun W x hx hb => hp W x hx (HB0.trans (hb.mono hbs)))
  rcases idxG_spec p l0 0 with ⟨h1, h2⟩ | ⟨j0, x0, h1, h2, h3, h4, h5, h6⟩
  · rw [h1] at hI
    have HI := Aside0.mk hI
    have HF := Aside0.mk (List.filter_eq_self.2 (fun x hx => by show (!p x) = true; rw [h2 x hx]; rfl : ∀ x ∈ l0, (fun x => !p x) x = true))
    have HR0 := Aside0.mk HO
    have HB := Aside0.mk HB0
    clear hI h1 h2 HO HB0 hp hC
    go_enter Try.func64, Try.ntmps64
    go_wp2_with (go_at_call 111; refine HI.out.mono ?_; rintro e w' ⟨rfl, hb⟩)
    go_ret
    exact ⟨_, rfl, by rw [HF.out]; exact Kd.R_below HR0.out hb, HB.out.trans (hb.mono hbs), Kept.of_below hb _, rfl⟩
  rw [h2, Nat.zero_add] at hI
  have hn0 : 0 < l0.length := by omega
  obtain ⟨gb, cp, hv⟩ := R_at0 HO hn0
  obtain ⟨rfl, rfl⟩ : A_ = some ⟨gb, 0, none⟩ ∧ c_ = cp := by injection hv with a b c; exact ⟨a, c⟩
  have HI := Aside0.mk hI
  have HR0 := Aside0.mk HO
  have HB := Aside0.mk HB0
  have HP := Aside0.mk hp
  have HH := Aside0.mk h6
  have H4 := Aside0.mk (And.intro h3 h4)
  clear hI h2 HO HB0 hp hC hv h6 h5 h3 h4 hlc
  have hne1 : ((j0 : Int) == -1) = false := beq_eq_false_iff_ne.2 (by omega)
  go_enter Try.func64, Try.ntmps64
  go_wp2_with (go_at_call 111; refine HI.out.mono ?_; rintro e w1 ⟨rfl, hb⟩)
  have HR1 := Aside0.mk (Kd.R_below HR0.out hb)
  have HB1 := Aside0.mk (HB.out.trans (hb.mono hbs))
  have HS1 := Aside0.mk (Nat.le_trans hbs hb.size)
  have HK1 := Aside0.mk (Kept.of_below hb (fun k => k = gb))
  clear hb HR0 HI HB
  have HADD := Aside0.mk (fun m => by unfold Addr.add; split <;> simp_all : ∀ m : Nat, (⟨gb, 0, none⟩ : Addr).add m = ⟨gb, m, none⟩)
  go_loopg [5, 6, 7] l0.length (fun gg s5 s6 _ wr => ∃ (i j : Int) (xs : List (Int)), s5 = .int .i64 i ∧ s6 = .int .i64 j ∧ Aside0 (0 ≤ i ∧ i < j) ∧ Aside0 (j ≤ (l0.length : Int)) ∧ Aside0 ((l0.length : Int) - j ≤ (gg : Int)) ∧ Aside0 (xs.length = l0.length) ∧ Aside0 (Kd.R (Kd.int .i64) 3 wr base (fun _ => True) (.slice (some ⟨gb, 0, none⟩) l0.length c_) xs) ∧ Aside0 (Below base w0 wr) ∧ Aside0 (base ≤ wr.heap.size) ∧ Aside0 (xs.take i.toNat = (l0.take j.toNat).filter (fun x => !p x)) ∧ Aside0 (xs.drop j.toNat = l0.drop j.toNat) ∧ Aside0 (Kept w wr (fun k => k = gb)))
  case atStart =>
    refine ⟨(j0 : Int), (j0 : Int) + 1, l0, rfl, by go_num, ⟨by omega⟩, ⟨by omega⟩, ⟨by omega⟩, ⟨rfl⟩, HR1, HB1, HS1, ⟨?_⟩, ⟨rfl⟩, HK1⟩
    rw [Int.toNat_natCast, show ((j0 : Int) + 1).toNat = j0 + 1 by omega, filter_take_succ _ _ _ _ H4.out.1, H4.out.2, if_neg (by simp), List.append_nil]
    refine (List.filter_eq_self.2 fun x hx => ?_).symm
    obtain ⟨m, hm, e⟩ := List.mem_iff_getElem.1 hx
    rw [List.length_take] at hm
    rw [List.getElem_take] at e
    show (!p x) = true
    rw [HH.out m x (by omega) (by rw [← e]; exact List.getElem?_eq_getElem _)]
    rfl
  case round =>
    obtain ⟨i, j, xs, rfl, rfl, Hij, Hj, Hg, Hxl, HR, HB, HS, HT, HD, HK⟩ := hrel
    by_cases c : j < (l0.length : Int)
    · have cb : decide (j < (l0.length : Int)) = true := decide_eq_true c
      have q0 : 0 ≤ j := by have := Hij.out; omega
      have q1 : 0 ≤ i := Hij.out.1
      have q2 : i < (l0.length : Int) := by have := Hij.out; omega
      have hxl := Hxl.out
      have hCx := (Kd.R_reads' HR.out).2.2
      rw [hxl] at hCx
      obtain ⟨ad, e, hx0⟩ := Kd.at_int hCx j q0 c
      cases e
      simp only [HADD.out] at hx0
      have hel : xs[j.toNat]? = some (rd xs j) := by
        unfold rd
        rw [List.getD_eq_getElem?_getD, List.getElem?_eq_getElem (show j.toNat < xs.length by omega), Option.getD_some]
      have hel0 : l0[j.toNat]? = some (rd xs j) := by
        have h7 := congrArg (fun l : List (Int) => l[0]?) HD.out
        simp only [List.getElem?_drop, Nat.add_zero] at h7
        rw [← h7]
        exact hel
      have HE := Aside0.mk hel0
      have HC := Aside0.mk (fun W (hb : Below base w0 W) => HP.out W (rd xs j) (List.mem_of_getElem? hel0) hb)
      clear hel hel0 hCx hxl
      have hwr : wrap64 (j + 1) = j + 1 := wrap_id (by omega) (by have := hl; omega)
      have hwi : wrap64 (i + 1) = i + 1 := wrap_id (by omega) (by have := hl; omega)
      cases hq : p (rd xs j) with
      | true =>
        have hc0 := HC.out
        simp only [hq] at hc0
        have HC1 := Aside0.mk hc0
        have HQ := Aside0.mk hq
        clear hq hc0 HC
        go_wp2_with (go_at_fn g; refine (HC1.out _ ?sb).mono ?_; (case sb => exact HB.out); (rintro e w3 ⟨rfl, hb⟩))
        have HB3 := Aside0.mk ((HB.out).trans (hb.mono (by exact HS.out)))
        have HS3 := Aside0.mk (Nat.le_trans (by exact HS.out : base ≤ _) hb.size)
        have HR3 := Aside0.mk (Kd.R_below (HR.out) hb)
        have HK3 := Aside0.mk (HK.out.below hb)
        clear hb
        go_roundg ((l0.length : Int) - (j + 1)).toNat
        case measure => have := Hg.out; have := Hij.out; omega
        case rel =>
          refine ⟨i, j + 1, xs, rfl, by simp [*], ⟨by omega, by have := Hij.out; omega⟩, ⟨by omega⟩, ⟨by omega⟩, Hxl, HR3, HB3, HS3, ⟨?_⟩, ⟨?_⟩, HK3⟩
          · rw [show (j + 1).toNat = j.toNat + 1 by omega, filter_take_succ _ _ _ _ HE.out, HQ.out, if_neg (by simp), List.append_nil]
            exact HT.out
          · rw [show (j + 1).toNat = j.toNat + 1 by omega, ← List.drop_drop, HD.out, List.drop_drop]
      | false =>
        have hc0 := HC.out
        simp only [hq] at hc0
        have HC1 := Aside0.mk hc0
        have HQ := Aside0.mk hq
        clear hq hc0 HC
        go_wp2_with (first | (go_at_fn g; refine (HC1.out _ ?sb).mono ?_; (case sb => exact HB.out); (rintro e w3 ⟨rfl, hb⟩); skip; have HB3 := Aside0.mk ((HB.out).trans (hb.mono (by exact HS.out))); have HS3 := Aside0.mk (Nat.le_trans (by exact HS.out : base ≤ _) hb.size); have HR3 := Aside0.mk (Kd.R_below (HR.out) hb); have HK3 := Aside0.mk (HK.out.below hb); clear hb) | ((with_reducible refine gate_store (t := 3) (p := 33) rfl ?_); (obtain ⟨ad, e, hy0⟩ := Kd.at_int (Hxl.out ▸ (Kd.R_reads' HR3.out).2.2) i q1 q2); cases e; simp only [HADD.out] at hy0; refine Kd.R_store (Kd.int .i64) (w0 := w0) base rfl rfl 3 (.tmp 33) (.tmp 32) rfl 3 i 0 xs (rd xs j) (.int .i64 (rd xs j)) [.int .i64 (rd xs j)] [.int .i64 (rd xs i)] (fun _ => True) (fun _ => False) rfl (by first | rfl | (show _ = i.toNat * 1 + 0; omega)) rfl rfl (by kernel_rfl) (by intro q hq; simp at hq; rcases hq with rfl | rfl <;> rfl) HR3.out q1 q2 rfl ?acc (Nat.le_refl _) (rfl) (fun _ h => h.elim) HB3.out ?_; (case acc => intro m u hm; (rcases m with _ | m); (cases hm; first | exact hy0 | (show World.cell? _ ⟨_, i.toNat * 1 + 0, none⟩ = _; rw [Nat.mul_one]; exact hy0)); cases hm); intro w4 hr4 hb4 hg4; have HR4 := Aside0.mk hr4; have HB4 := Aside0.mk hb4; have HS4 := Aside0.mk (Nat.le_trans HS3.out hg4.size); have HK4 := Aside0.mk (Kept.of_grown hg4 HK3.out (fun k e => .inl (by injection e with e; exact e.symm))); clear hr4 hb4 hg4 hy0 HR3 HB3 HS3))
        go_roundg ((l0.length : Int) - (j + 1)).toNat
        case measure => have := Hg.out; have := Hij.out; omega
        case rel =>
          have hln := Hxl.out
          have hij := Hij.out
          refine ⟨i + 1, j + 1, xs.set i.toNat (rd xs j), by simp [*], by simp [*], ⟨by omega, by omega⟩, ⟨by omega⟩, ⟨by omega⟩, ⟨by rw [List.length_set]; exact hln⟩, HR4, HB4, HS4, ⟨?_⟩, ⟨?_⟩, HK4⟩
          · rw [show (i + 1).toNat = i.toNat + 1 by omega, show (j + 1).toNat = j.toNat + 1 by omega, filter_take_succ _ _ _ _ HE.out, HQ.out, if_pos (by rfl), take_set_succ _ _ _ (by omega), HT.out]
          · rw [show (j + 1).toNat = j.toNat + 1 by omega, List.drop_set_of_lt (by omega), ← List.drop_drop, HD.out, List.drop_drop]
    · have cb : decide (j < (l0.length : Int)) = false := decide_eq_false c
      have e : j = (l0.length : Int) := by have := Hj.out; omega
      have HE := Aside0.mk e
      clear e
      have hbz := Nat.le_refl 0
      have hnc := (Kd.R_reads' HR.out).2.1
      have hij : i.toNat < l0.length := by have := Hij.out; have := HE.out; omega
      obtain ⟨w2, hcl, hR2, hB2, hK2⟩ := R_clearK (Kd.int .i64) (.int .i64 0) (ty := 0) (c := c_ - i.toNat) hust info3 rfl rfl HR.out hij HB.out
      replace hcl : (Builtin.clear_ #[26] 0 #[.slice (some ⟨gb, i.toNat, none⟩) (l0.length - i.toNat) (c_ - i.toNat)]).run Try.prog wr = .ok (.tuple #[]) w2 := by
        have h9 := hcl
        rw [show i.toNat * (Kd.int .i64).sz = i.toNat from Nat.mul_one _] at h9
        exact h9
      have HR2 := Aside0.mk hR2
      have HB2 := Aside0.mk hB2
      have HK2 := Aside0.mk ((HK.out.then_ hK2 (fun k h => .inl h)).mono (S' := fun k => (Value.slice (some ⟨gb, 0, none⟩) l0.length c_).ownBlock = some k) (fun k h => by rw [h]; rfl))
      clear hK2
      have hne2 : ¬ c_ = i.toNat := by omega
      have hi1 : i ≤ (l0.length : Int) := by omega
      have hi2 : i.toNat ≤ c_ := by omega
      have hi3 : i ≤ (c_ : Int) := by omega
      have q1 : 0 ≤ i := Hij.out.1
      clear hR2 hB2 hbz
      go_wp2
      go_ret
      refine ⟨_, rfl, ?_, HB2.out, HK2.out, rfl⟩
      have h8 := HT.out
      rw [HE.out, Int.toNat_natCast, List.take_length] at h8
      rw [← h8]
      exact HR2.out
end Go.Proofs.Ytdbhelhoaciodaa.X
set_option linter.unusedVariables false
set_option linter.unusedSimpArgs false
namespace Go.Proofs.Ytdbhelhoaciodaa.X
open Go.RowKit Go.Proofs.YtdbhelhoaciodaaW.PrintWords Go.Proofs.YtdbhelhoaciodaaW.PrintLast Go.Proofs.YtdbhelhoaciodaaW.PrintMore
structure DV (lo N0 : Nat) (W : World) (B g i : Nat) (f : Nat → Nat) (l1 : List MPart) (vo : Value) (outs : List MPart) : Prop where
  els : ∀ j (hj : j < l1.length), i ≤ j → ∃ v2, W.cell? ⟨g, j * 3, none⟩ = some (.int .i64 l1[j].f0) ∧ W.cell? ⟨g, j * 3 + 1, none⟩ = some (.string l1[j].f1) ∧ W.cell? ⟨g, j * 3 + 2, none⟩ = some v2 ∧ Kd.R (Kd.int .i64) 3 W lo (fun k => (f k = j ∧ k ≠ g) ∧ lo ≤ k ∧ k < N0) v2 l1[j].f2
  out : Kd.S k64 64 W B (fun k => (k < lo ∨ N0 ≤ k) ∨ (k ≠ g ∧ f k < i)) vo outs
  g5 : g < N0
  gb : lo ≤ g
  hs : N0 ≤ W.heap.size
section
variable {lo N0 : Nat} {W W' : World} {B g i : Nat} {f : Nat → Nat} {l1 : List MPart} {vo : Value} {outs : List MPart}
theorem DV.below (D : DV lo N0 W B g i f l1 vo outs) (h : Below W.heap.size W W') : DV lo N0 W' B g i f l1 vo outs where
  els := fun j hj hij => by
    obtain ⟨v2, a, b, c, d⟩ := D.els j hj hij
    exact ⟨v2, (h.cell (bltc W _ a)).trans a, (h.cell (bltc W _ b)).trans b, (h.cell (bltc W _ c)).trans c, Kd.R_below d h⟩
  out := Kd.S_below D.out h
  g5 := D.g5
  gb := D.gb
  hs := Nat.le_trans D.hs h.size
theorem DV.skip (D : DV lo N0 W B g i f l1 vo outs) : DV lo N0 W B g (i + 1) f l1 vo outs where
  els := fun j hj hij => D.els j hj (by omega)
  out := Kd.S_mono D.out (fun k hk => hk.elim .inl (fun h => .inr ⟨h.1, by omega⟩))
  g5 := D.g5
  gb := D.gb
  hs := D.hs
/-- What is written into the i-th inner row's block leaves the elder and the later ones alone. -/
theorem DV.took (D : DV lo N0 W B g i f l1 vo outs) {S : Nat → Prop} (hk : Kept W W' S) (hS : ∀ k, S k → (f k = i ∧ k ≠ g) ∧ lo ≤ k ∧ k < N0) : (∀ j (hj : j < l1.length), i + 1 ≤ j → ∃ v2, W'.cell? ⟨g, j * 3, none⟩ = some (.int .i64 l1[j].f0) ∧ W'.cell? ⟨g, j * 3 + 1, none⟩ = some (.string l1[j].f1) ∧ W'.cell? ⟨g, j * 3 + 2, none⟩ = some v2 ∧ Kd.R (Kd.int .i64) 3 W' lo (fun k => (f k = j ∧ k ≠ g) ∧ lo ≤ k ∧ k < N0) v2 l1[j].f2) ∧ Kd.S k64 64 W' B (fun k => (k < lo ∨ N0 ≤ k) ∨ (k ≠ g ∧ f k < i)) vo outs := by
  have hg : ¬ S g := fun h => (hS g h).1.2 rfl
  refine ⟨fun j hj hij => ?_, Kd.S_kept D.out hk (fun k h1 h2 => ?_)⟩
  · obtain ⟨v2, a, b, c, d⟩ := D.els j hj (by omega)
    refine ⟨v2, cell_kept a hk hg, cell_kept b hk hg, cell_kept c hk hg, Kd.R_kept d hk (fun k h1 h2 => ?_)⟩
    have := (hS k h2).1.1
    omega
  · have := hS k h2
    omega
/-- The i-th part, with the inner row that it has now, is appended. -/
theorem DV.push {W2 : World} {vo2 : Value} {p : MPart} (els : ∀ j (hj : j < l1.length), i + 1 ≤ j → ∃ v2, W.cell? ⟨g, j * 3, none⟩ = some (.int .i64 l1[j].f0) ∧ W.cell? ⟨g, j * 3 + 1, none⟩ = some (.string l1[j].f1) ∧ W.cell? ⟨g, j * 3 + 2, none⟩ = some v2 ∧ Kd.R (Kd.int .i64) 3 W lo (fun k => (f k = j ∧ k ≠ g) ∧ lo ≤ k ∧ k < N0) v2 l1[j].f2) (hout : Kd.S k64 64 W B (fun k => (k < lo ∨ N0 ≤ k) ∨ (k ≠ g ∧ f k < i)) vo outs) (g5 : g < N0) (gb : lo ≤ g) (hs : N0 ≤ W.heap.size)
    (h2 : Kd.S k64 64 W2 B (fun k => (k < lo ∨ N0 ≤ k) ∨ (k ≠ g ∧ f k < i + 1)) vo2 (outs ++ [p])) (hg : W.grownBy W2 vo.ownBlock) : DV lo N0 W2 B g (i + 1) f l1 vo2 (outs ++ [p]) where
  els := fun j hj hij => by
    obtain ⟨v2, a, b, c, d⟩ := els j hj hij
    have hv : ∀ k, vo.ownBlock = some k → (k < lo ∨ N0 ≤ k) ∨ (k ≠ g ∧ f k < i) := fun k hk => (Kd.S_R hout).1 k hk
    have hng : ∀ q, W.cell? ⟨g, q, none⟩ = W.cell? ⟨g, q, none⟩ := fun _ => rfl
    have hgg : some g ≠ vo.ownBlock := fun e => by have h := hv g e.symm; omega
    have hblk : W2.heap[g]? = W.heap[g]? := hg.block g (Nat.lt_of_lt_of_le g5 hs) hgg
    have hc : ∀ q, W2.cell? ⟨g, q, none⟩ = W.cell? ⟨g, q, none⟩ := fun q => by simp [World.cell?, hblk]
    refine ⟨v2, (hc _).trans a, (hc _).trans b, (hc _).trans c, Kd.R_step d (fun k hk hlt => hg.block k hlt (fun e => ?_))⟩
    have h := hv k e.symm
    omega
  out := h2
  g5 := g5
  gb := gb
  hs := Nat.le_trans hs hg.size
end
theorem DV_start {w W : World} {n cap g B : Nat} {l1 : List MPart} (h : Kd.S k64 64 W w.heap.size (fun _ => True) (.slice (some ⟨g, 0, none⟩) n cap) l1) (hn : l1.length = n) {vo : Value} (hb : Below w.heap.size w W) (ho : Kd.S k64 64 w B (fun _ => True) vo []) : ∃ f, DV w.heap.size W.heap.size W B g 0 f l1 vo [] := by
  have hlt := Kd.S_lt h g rfl
  have hbs := Kd.S_base h g rfl
  obtain ⟨f, hR⟩ := h
  refine ⟨f, fun j hj _ => ?_, Kd.S_mono (Kd.S_below (Kd.S_bound ho) hb) (fun k hk => .inl (.inl hk.2.2.1)), hlt, hbs, Nat.le_refl _⟩
  obtain ⟨c, hcl, hM, hcc, _⟩ := Kd.R_elem hR (l1[j], j) (j : Int) (by omega) (by omega)
  have hz : l1.zipIdx.getD (j : Int).toNat (l1[j], j) = (l1[j], j) := by
    rw [List.getD_eq_getElem?_getD, Int.toNat_natCast, List.getElem?_zipIdx, List.getElem?_eq_getElem hj]
    simp
  rw [hz] at hM
  obtain ⟨v2, e1, e2⟩ := k64_openM hM
  rw [e1] at hcc
  have hcc' : ∀ q u, ([.int .i64 l1[j].f0, .string l1[j].f1, v2] : List Value)[q]? = some u → W.cell? ⟨g, j * 3 + q, none⟩ = some u := hcc
  exact ⟨v2, hcc' 0 _ rfl, hcc' 1 _ rfl, hcc' 2 _ rfl, Kd.R_mono (Kd.R_bound e2) (fun k hk => ⟨⟨hk.1.2, hk.1.1.2⟩, hk.2.1, hk.2.2.1⟩)⟩
/-- The state inside a round: the i-th part lies in the box gb, its inner row is v. -/
structure DW (lo N0 : Nat) (W : World) (B g i : Nat) (f : Nat → Nat) (l1 : List MPart) (vo : Value) (outs : List MPart) (gb : Nat) (v : Value) (L : List Int) : Prop where
  els : ∀ j (hj : j < l1.length), i + 1 ≤ j → ∃ v2, W.cell? ⟨g, j * 3, none⟩ = some (.int .i64 l1[j].f0) ∧ W.cell? ⟨g, j * 3 + 1, none⟩ = some (.string l1[j].f1) ∧ W.cell? ⟨g, j * 3 + 2, none⟩ = some v2 ∧ Kd.R (Kd.int .i64) 3 W lo (fun k => (f k = j ∧ k ≠ g) ∧ lo ≤ k ∧ k < N0) v2 l1[j].f2
  cur : Kd.R (Kd.int .i64) 3 W lo (fun k => (f k = i ∧ k ≠ g) ∧ lo ≤ k ∧ k < N0) v L
  out : Kd.S k64 64 W B (fun k => ((k < lo ∨ N0 ≤ k) ∨ (k ≠ g ∧ f k < i)) ∧ k ≠ gb) vo outs
  g5 : g < N0
  gl : lo ≤ g
  hs : N0 ≤ W.heap.size
  hgb : N0 ≤ gb
section
variable {lo N0 : Nat} {W W' : World} {B g i gb : Nat} {f : Nat → Nat} {l1 : List MPart} {vo v v' : Value} {outs : List MPart} {L L' : List Int}
theorem DV.open_ (D : DV lo N0 W B g i f l1 vo outs) (hi : i < l1.length) : ∃ A c, W.cell? ⟨g, i * 3, none⟩ = some (.int .i64 l1[i].f0) ∧ W.cell? ⟨g, i * 3 + 1, none⟩ = some (.string l1[i].f1) ∧ W.cell? ⟨g, i * 3 + 2, none⟩ = some (.slice A l1[i].f2.length c) ∧ ∀ W', Below W.heap.size W W' → DW lo N0 W' B g i f l1 vo outs W.heap.size (.slice A l1[i].f2.length c) l1[i].f2 := by
  obtain ⟨v2, a, b, c, d⟩ := D.els i hi (Nat.le_refl _)
  obtain ⟨A, c2, rfl⟩ := Kd.R_slice d
  refine ⟨A, c2, a, b, c, fun W' hb => ?_⟩
  have D' := D.skip.below hb
  exact ⟨D'.els, Kd.R_below d hb, Kd.S_mono (Kd.S_below (Kd.S_bound D.out) hb) (fun k hk => ⟨hk.1, by have := hk.2.2.1; omega⟩), D'.g5, D'.gb, D'.hs, D.hs⟩
theorem DW.below (D : DW lo N0 W B g i f l1 vo outs gb v L) (h : Below W.heap.size W W') : DW lo N0 W' B g i f l1 vo outs gb v L where
  els := fun j hj hij => by
    obtain ⟨v2, a, b, c, d⟩ := D.els j hj hij
    exact ⟨v2, (h.cell (bltc W _ a)).trans a, (h.cell (bltc W _ b)).trans b, (h.cell (bltc W _ c)).trans c, Kd.R_below d h⟩
  cur := Kd.R_below D.cur h
  out := Kd.S_below D.out h
  g5 := D.g5
  gl := D.gl
  hs := Nat.le_trans D.hs h.size
  hgb := D.hgb
theorem DW.own (D : DW lo N0 W B g i f l1 vo outs gb v L) {k : Nat} (hk : v.ownBlock = some k) : (f k = i ∧ k ≠ g) ∧ lo ≤ k ∧ k < N0 := D.cur.1 k hk
theorem DW.took (D : DW lo N0 W B g i f l1 vo outs gb v L) (hk : Kept W W' (fun k => v.ownBlock = some k)) (ho : v'.ownBlock = v.ownBlock) (hr : Kd.R (Kd.int .i64) 3 W' lo (fun _ => True) v' L') : DW lo N0 W' B g i f l1 vo outs gb v' L' where
  els := fun j hj hij => by
    obtain ⟨v2, a, b, c, d⟩ := D.els j hj hij
    have hg : ¬ v.ownBlock = some g := fun h => (D.own h).1.2 rfl
    refine ⟨v2, cell_kept a hk hg, cell_kept b hk hg, cell_kept c hk hg, Kd.R_kept d hk (fun k h1 h2 => ?_)⟩
    have := (D.own h2).1.1
    omega
  cur := Kd.R_mono (Kd.R_tight rfl hr) (fun k h => D.own (by rw [← ho]; exact h.symm))
  out := Kd.S_kept D.out hk (fun k h1 h2 => by have := D.own h2; omega)
  g5 := D.g5
  gl := D.gl
  hs := Nat.le_trans D.hs hk.1
  hgb := D.hgb
theorem DW.set (D : DW lo N0 W B g i f l1 vo outs gb v L) (q : Nat) (u : Value) : DW lo N0 (W.setCell ⟨gb, q, none⟩ u) B g i f l1 vo outs gb v L where
  els := fun j hj hij => by
    obtain ⟨v2, a, b, c, d⟩ := D.els j hj hij
    have hk : Kept W (W.setCell ⟨gb, q, none⟩ u) (fun k => k = gb) := Kept.setCell (p := ⟨gb, q, none⟩) (Kept.refl W (fun k => k = gb)) (.inl rfl) u
    have hg : ¬ g = gb := by have := D.hgb; have := D.g5; omega
    refine ⟨v2, cell_kept a hk hg, cell_kept b hk hg, cell_kept c hk hg, Kd.R_kept d hk (fun k h1 h2 => by have := D.hgb; omega)⟩
  cur := Kd.R_far (p := ⟨gb, q, none⟩) D.cur (fun k hk => by have := D.hgb; show k ≠ gb; omega) u
  out := Kd.S_far (p := ⟨gb, q, none⟩) D.out (fun k hk => hk.2) u
  g5 := D.g5
  gl := D.gl
  hs := by simpa [World.setCell] using D.hs
  hgb := D.hgb
theorem DW.skip (D : DW lo N0 W B g i f l1 vo outs gb v L) : DV lo N0 W B g (i + 1) f l1 vo outs := ⟨D.els, Kd.S_mono D.out (fun k hk => by have := hk.1; omega), D.g5, D.gl, D.hs⟩
theorem DW.push {W2 : World} {vo2 : Value} {p : MPart} (D : DW lo N0 W B g i f l1 vo outs gb v L)
    (h2 : Kd.S k64 64 W2 B (fun k => (k < lo ∨ N0 ≤ k) ∨ (k ≠ g ∧ f k < i + 1)) vo2 (outs ++ [p])) (hg : W.grownBy W2 vo.ownBlock) : DV lo N0 W2 B g (i + 1) f l1 vo2 (outs ++ [p]) :=
  DV.push D.els (Kd.S_mono D.out (fun k hk => hk.1)) D.g5 D.gl D.hs h2 hg
end
end Go.Proofs.Ytdbhelhoaciodaa.X
set_option linter.unusedVariables false
namespace Go.Proofs.Ytdbhelhoaciodaa.X
open Go.RowKit Go.Proofs.YtdbhelhoaciodaaW.PrintWords Go.Proofs.YtdbhelhoaciodaaW.PrintLast Go.Proofs.YtdbhelhoaciodaaW.PrintMore Go.Proofs.Ytdbhelhoaciodaa.E
set_option maxHeartbeats 1000000 in
set_option maxRecDepth 100000 in
theorem containsFunc102 (A_ : Option Addr) (c_ : Nat) (l0 : List (Int)) (g : Nat) (lb : Array Value) (p : Int → Bool) (w : World)
    (hr0 : Kd.C (Kd.int .i64) w A_ l0.length l0) (eg : ∀ args w, (callFunc g args).run Try.prog w = .ok (.enter g args) w)
    (hp : ∀ (W : World) (x : Int), x ∈ l0 → Below w.heap.size w W → Calls Try.prog g (#[.int .i64 x] ++ lb) W fun e w' => e = .returned (.bool (p x)) ∧ Below W.heap.size W w') :
    Calls Try.prog 102 #[.slice A_ l0.length c_, .func (.func g) #[] lb] w fun e w' => e = .returned (.bool (l0.any p)) ∧ Below w.heap.size w w' := by
  have C := Aside0.mk (idxFunc111 A_ c_ l0 g lb p w hr0 eg hp)
  have hn := Aside0.mk (idxG_nonneg p l0 0)
  clear hr0 hp
  go_enter Try.func102, Try.ntmps102
  go_wp2_with (go_at_call 111; refine C.out.mono ?_; rintro e w' ⟨rfl, hb⟩)
  go_ret
  refine ⟨?_, hb⟩
  rw [← hn.out]
  rfl
end Go.Proofs.Ytdbhelhoaciodaa.X
namespace Go.Proofs.Ytdbhelhoaciodaa.X
open Go.RowKit Go.Proofs.YtdbhelhoaciodaaW.PrintWords Go.Proofs.YtdbhelhoaciodaaW.PrintLast Go.Proofs.YtdbhelhoaciodaaW.PrintMore Go.Proofs.Ytdbhelhoaciodaa.E
attribute [local go_sem] max2_int min2_int max_two min_two max_three min_three max_four min_four   -- for this text's walks alone
set_option linter.unusedVariables false
set_option linter.unusedSimpArgs false
attribute [-simp] ByteArray.size_append ByteArray.size_extract
attribute [-go_sem] ByteArray.size_append'

/-! ### impl_DropVoid: function 43 -/
set_option maxRecDepth 100000 in
theorem dvLit (x : Int) (A2 : Option Addr) (c2 : Nat) (l2 : List Int) (B : Nat) (w : World) (hc : w.cell? ⟨B, 0, none⟩ = some (.slice A2 l2.length c2)) (hr : Kd.C (Kd.int .i64) w A2 l2.length l2) (hcl : l2.length ≤ c2) (hl : l2.length ≤ 9223372036854775807) :
  Calls Try.prog 100 #[.int .i64 x, .pointer (some ⟨B, 0, none⟩)] w fun e w' => e = .returned (.bool (decide (x ∈ l2))) ∧ Below w.heap.size w w' := by
 (obtain ⟨kk, hkk⟩ := E.ev_get (slicesContainsInt_ev l2 x hl)); (have HKK := Aside0.mk hkk); (have HR := Aside0.mk hr); clear hkk hr; (go_enter Try.func100, Try.ntmps100); (go_wp2_with ((with_reducible refine gate_callee (f := 101) rfl ?_); refine gL (some 6) Try.func101 #[.slice A2 l2.length c2, .int .i64 x] ?_; refine (slices_Contains_int_int.calls kk _ _ l2 x _ _ HR.out hcl HKK.out).mono ?_; rintro e w' ⟨rfl, ⟨nd, rfl⟩⟩; refine ⟨_, rfl, ?_⟩)); go_ret; (exact ⟨rfl, bN (Below.refl _ _) _⟩)
def dvLeft (void : List Int) (x : MPart) : List Int := x.f2.filter (fun n => !(decide (n ∈ void)))
def dvKeep (void : List Int) (x : MPart) : List MPart := if x.f0 = 3 then (if (dvLeft void x).length = 0 then [] else [⟨x.f0, x.f1, dvLeft void x⟩]) else if x.f0 = 4 then (if x.f2.any (fun n => decide (n ∈ void)) = true then [] else [x]) else [x]
theorem dvKeep_len (void : List Int) (l : List MPart) : (l.flatMap (dvKeep void)).length ≤ l.length := by
 induction l with
 | nil => simp
 | cons x l ih =>
  (have h : (dvKeep void x).length ≤ 1 := by unfold dvKeep; split <;> (split <;> (try split) <;> simp)); (rw [List.flatMap_cons, List.length_append, List.length_cons]); (omega)
def impl_DropVoid.f (k : Nat) (l0_0 : List (S140)) (l0_1 : List (S144)) (l1 : List (S64)) (l2 : List Int) : Option ((List (S64)) × Bool) :=
 (impl_isVoidList.f k l0_0 l0_1 l1 l2).bind fun t => (if t = true then (if l2.length ≤ 9223372036854775807 then ((impl_copyParts.f l1).bind fun q => (some (q.flatMap (dvKeep l2), true))) else none) else (some ([], false)))
set_option maxHeartbeats 4000000 in
set_option maxRecDepth 100000 in
theorem impl_DropVoid.calls (k : Nat) (A0_0 : Option Addr) (c0_0 : Nat) (l0_0 : List (S140)) (A0_1 : Option Addr) (c0_1 : Nat) (l0_1 : List (S144)) (A1 : Option Addr) (c1 : Nat) (l1 : List (S64)) (A2 : Option Addr) (c2 : Nat) (l2 : List Int) (r1 : List (S64)) (r2 : Bool) (w : World) (hr0_0 : Kd.C k140 w A0_0 l0_0.length l0_0) (hc0_0 : l0_0.length ≤ c0_0) (hr0_1 : Kd.C k144 w A0_1 l0_1.length l0_1) (hc0_1 : l0_1.length ≤ c0_1) (hr1 : Kd.C k64 w A1 l1.length l1) (hc1 : l1.length ≤ c1) (hr2 : Kd.C (Kd.int .i64) w A2 l2.length l2) (hc2 : l2.length ≤ c2) (h : impl_DropVoid.f k l0_0 l0_1 l1 l2 = some (r1, r2)) :
  Calls Try.prog 43 #[.agg #[.slice A0_0 l0_0.length c0_0, .slice A0_1 l0_1.length c0_1], .slice A1 l1.length c1, .slice A2 l2.length c2] w fun e w' => ∃ v0_ : Value, e = .returned (.tuple #[v0_, .bool r2]) ∧ Kd.S k64 64 w' w.heap.size (fun _ => True) v0_ r1 ∧ Below w.heap.size w w' := by
 (have HR00 := Aside0.mk hr0_0); (have HC00 := Aside0.mk hc0_0); (have HR01 := Aside0.mk hr0_1); (have HC01 := Aside0.mk hc0_1); (have HR1 := Aside0.mk hr1); (have HC1 := Aside0.mk hc1); (have HR2 := Aside0.mk hr2); (have HC2 := Aside0.mk hc2); clear hr0_0 hc0_0 hr0_1 hc0_1 hr1 hc1 hr2 hc2; (unfold impl_DropVoid.f at h); (have H := h); clear h; (replace H := obS H; obtain ⟨t1, AV, H⟩ := H); (by_cases q1 : t1 = true)
 case neg =>
  (have q1' : t1 = false := by simpa using q1); (subst q1'); (rw [if_neg (by simp)] at H); (simp only [Option.some.injEq, Prod.mk.injEq] at H); (obtain ⟨rfl, rfl⟩ := H); (go_enter Try.func43, Try.ntmps43); (go_wp2_with (first | ((with_reducible refine gate_dst (N := 3) rfl ?_); refine box_event ?hg3 (N := 3) ?hd3 (cs := #[.slice A0_0 l0_0.length c0_0, .slice A0_1 l0_1.length c0_1]) (t := 61) ?hr3 ?_; (case hd3 => rfl); (case hg3 => rfl); (case hr3 => first | (go_simp; done) | (go_simp; rfl)); intro gb3 hg w3 hbox hb; have HB := Aside0.mk hb; have BK3 := Aside0.mk hbox; have hz3_0 := cz BK3.out 0; have hz3_1 := cz BK3.out 1; clear hb hbox hg) | ((with_reducible refine gate_dst (N := 5) rfl ?_); refine box_event ?hg5 (N := 5) ?hd5 (cs := #[.slice A2 l2.length c2]) (t := 26) ?hr5 ?_; (case hd5 => rfl); (case hg5 => rfl); (case hr5 => first | (go_simp; done) | (go_simp; rfl)); intro gb5 hg w5 hbox hb; have n1_ := Aside0.mk (below_step HB.out hb); have n2_ := Aside0.mk (blk_below BK3.out hb); have BK5 := Aside0.mk hbox; clear HB BK3; have HB := n1_; have BK3 := n2_; clear n1_ n2_; have hz5_0 := cz BK5.out 0; have hz5_1 := cz BK3.out 0; have hz5_2 := cz BK3.out 1; clear hb hbox hg) | ((with_reducible refine gate_callee (f := 99) rfl ?_); refine gL (some 15) Try.func99 #[.agg #[.slice A0_0 l0_0.length c0_0, .slice A0_1 l0_1.length c0_1], .slice A1 l1.length c1, .slice A2 l2.length c2] ?_; (with_reducible refine (impl_isVoidList.calls k _ _ l0_0 _ _ l0_1 _ _ l1 _ _ l2 false _ ?s1 ?s2 ?s3 ?s4 ?s5 ?s6 ?s7 ?s8 AV.out).mono ?_); (case s1 => exact Kd.C_below HR00.out HB.out); (case s2 => exact HC00.out); (case s3 => exact Kd.C_below HR01.out HB.out); (case s4 => exact HC01.out); (case s5 => exact Kd.C_below HR1.out HB.out); (case s6 => exact HC1.out); (case s7 => exact Kd.C_below HR2.out HB.out); (case s8 => exact HC2.out); rintro e w6 ⟨rfl, hb⟩; refine ⟨_, rfl, ?_⟩; have n1_ := Aside0.mk (below_step HB.out hb); have n2_ := Aside0.mk (blk_below BK5.out hb); clear HB BK5 hb; have HB := n1_; have BK5 := n2_; clear n1_ n2_))); (go_ret2); (exact ⟨_, rfl, Kd.S_nil _ _ _ _ _, HB.out⟩)
 subst q1; (rw [if_pos rfl] at H); (by_cases hl2 : l2.length ≤ 9223372036854775807)
 case neg => rw [if_neg hl2] at H; exact absurd H (by simp)
 (rw [if_pos hl2] at H); (have HL2 := Aside0.mk hl2); clear hl2; (replace H := obS H; obtain ⟨q, HSM, H⟩ := H)
 have hq : q = l1 ∧ (l1.length < 1099511627776 ∧ ∀ x ∈ l1, x.f2.length < 4398046511104) := by
  (have h9 := HSM.out); (unfold impl_copyParts.f at h9)
  cases hS : (decide (l1.length < 1099511627776) && l1.all (fun x => decide (x.f2.length < 4398046511104))) with
  | false => rw [hS, if_neg (by simp)] at h9; exact absurd h9 (by simp)
  | true =>
   (rw [hS, if_pos rfl] at h9); (rw [Bool.and_eq_true, decide_eq_true_eq, List.all_eq_true] at hS); (exact ⟨(Option.some.inj h9).symm, hS.1, fun x hx => of_decide_eq_true (hS.2 x hx)⟩)
 (obtain ⟨hql, hs1, hs2⟩ := hq); subst hql; (simp only [Option.some.injEq, Prod.mk.injEq] at H); (obtain ⟨rfl, rfl⟩ := H); (have HS1 := Aside0.mk hs1); (have HS2 := Aside0.mk hs2); clear hs1 hs2; (rcases Nat.eq_zero_or_pos q.length with h0 | h0)
 ·have e0 : q = [] := List.length_eq_zero_iff.1 h0
  subst e0; clear h0; (go_enter Try.func43, Try.ntmps43); (go_wp2_with (first | ((with_reducible refine gate_dst (N := 3) rfl ?_); refine box_event ?hg3 (N := 3) ?hd3 (cs := #[.slice A0_0 l0_0.length c0_0, .slice A0_1 l0_1.length c0_1]) (t := 61) ?hr3 ?_; (case hd3 => rfl); (case hg3 => rfl); (case hr3 => first | (go_simp; done) | (go_simp; rfl)); intro gb3 hg w3 hbox hb; have HB := Aside0.mk hb; have BK3 := Aside0.mk hbox; have hz3_0 := cz BK3.out 0; have hz3_1 := cz BK3.out 1; clear hb hbox hg) | ((with_reducible refine gate_dst (N := 5) rfl ?_); refine box_event ?hg5 (N := 5) ?hd5 (cs := #[.slice A2 l2.length c2]) (t := 26) ?hr5 ?_; (case hd5 => rfl); (case hg5 => rfl); (case hr5 => first | (go_simp; done) | (go_simp; rfl)); intro gb5 hg w5 hbox hb; have n1_ := Aside0.mk (below_step HB.out hb); have n2_ := Aside0.mk (blk_below BK3.out hb); have BK5 := Aside0.mk hbox; clear HB BK3; have HB := n1_; have BK3 := n2_; clear n1_ n2_; have hz5_0 := cz BK5.out 0; have hz5_1 := cz BK3.out 0; have hz5_2 := cz BK3.out 1; clear hb hbox hg) | ((with_reducible refine gate_callee (f := 99) rfl ?_); refine gL (some 15) Try.func99 #[.agg #[.slice A0_0 l0_0.length c0_0, .slice A0_1 l0_1.length c0_1], .slice A1 0 c1, .slice A2 l2.length c2] ?_; (refine (impl_isVoidList.calls k _ _ l0_0 _ _ l0_1 _ _ [] _ _ l2 true _ ?s1 ?s2 ?s3 ?s4 ?s5 ?s6 ?s7 ?s8 AV.out).mono ?_); (case s1 => exact Kd.C_below HR00.out HB.out); (case s2 => exact HC00.out); (case s3 => exact Kd.C_below HR01.out HB.out); (case s4 => exact HC01.out); (case s5 => exact Kd.C_below HR1.out HB.out); (case s6 => exact HC1.out); (case s7 => exact Kd.C_below HR2.out HB.out); (case s8 => exact HC2.out); rintro e w6 ⟨rfl, hb⟩; refine ⟨_, rfl, ?_⟩; have n1_ := Aside0.mk (below_step HB.out hb); have n2_ := Aside0.mk (blk_below BK5.out hb); clear HB BK5 hb; have HB := n1_; have BK5 := n2_; clear n1_ n2_) | ((with_reducible refine gate_dst (N := 18) rfl ?_); refine Kd.S_lit k64 _ 64 ?hgL (N := 18) ?hdL (xs := ([] : List MPart)) (inner := []) (ok := fun _ => True) (okp := fun _ => True) ?hrL ?hpL (fun _ hk => hk) trivial (Below.refl _ _) (Nat.le_refl _) (by simp) ?_; (case hdL => rfl); (case hgL => rfl); (case hrL => first | (go_simp; done) | (go_simp; rfl)); (case hpL => exact (Reps.none _ _)); intro v7 w7 ho hb hg_ hnew_; have HO7 := Aside0.mk (Kd.S_lower ho HB.out.size); have n1_ := Aside0.mk (below_step HB.out hb); have n2_ := Aside0.mk (blk_below BK5.out hb); clear HB BK5 hb ho hg_ hnew_; have HB := n1_; have BK5 := n2_; clear n1_ n2_) | ((with_reducible refine gate_callee (f := 90) rfl ?_); refine gL (some 20) Try.func90 #[.slice A1 0 c1] ?_; refine (impl_copyParts.calls A1 c1 [] [] _ ?p1 ?p2 ?p3).mono ?_; (case p1 => exact Kd.C_below HR1.out HB.out); (case p2 => exact HC1.out); (case p3 => exact HSM.out); rintro e w8 ⟨v8, rfl, ho, hb⟩; refine ⟨_, rfl, ?_⟩; obtain ⟨A8, c8, rfl⟩ := Kd.R_slice (Kd.S_R ho); have HO8 := Aside0.mk ho; have HB8 := Aside0.mk hb; clear ho hb))); (go_loopg [9, 22] 1 (fun gg s9 s22 wr => s9 = v7 ∧ s22 = .int .i64 0 ∧ Aside0 (wr = w8)))
  case atStart => exact ⟨rfl, rfl, ⟨rfl⟩⟩
  case round =>
   (obtain ⟨rfl, rfl, HW⟩ := hrel); (have hw := HW.out); subst hw; (go_wp2); (go_ret2); (exact ⟨_, rfl, Kd.S_below HO7.out HB8.out, below_step HB.out HB8.out⟩)
 ·have HPO := Aside0.mk h0
  clear h0; (go_enter Try.func43, Try.ntmps43); (go_wp2_with (first | ((with_reducible refine gate_dst (N := 3) rfl ?_); refine box_event ?hg3 (N := 3) ?hd3 (cs := #[.slice A0_0 l0_0.length c0_0, .slice A0_1 l0_1.length c0_1]) (t := 61) ?hr3 ?_; (case hd3 => rfl); (case hg3 => rfl); (case hr3 => first | (go_simp; done) | (go_simp; rfl)); intro gb3 hg w3 hbox hb; have HB := Aside0.mk hb; have BK3 := Aside0.mk hbox; have hz3_0 := cz BK3.out 0; have hz3_1 := cz BK3.out 1; clear hb hbox hg) | ((with_reducible refine gate_dst (N := 5) rfl ?_); refine box_event ?hg5 (N := 5) ?hd5 (cs := #[.slice A2 l2.length c2]) (t := 26) ?hr5 ?_; (case hd5 => rfl); (case hg5 => rfl); (case hr5 => first | (go_simp; done) | (go_simp; rfl)); intro gb5 hg w5 hbox hb; have n1_ := Aside0.mk (below_step HB.out hb); have n2_ := Aside0.mk (blk_below BK3.out hb); have BK5 := Aside0.mk hbox; clear HB BK3; have HB := n1_; have BK3 := n2_; clear n1_ n2_; have hz5_0 := cz BK5.out 0; have hz5_1 := cz BK3.out 0; have hz5_2 := cz BK3.out 1; clear hb hbox hg) | ((with_reducible refine gate_callee (f := 99) rfl ?_); refine gL (some 15) Try.func99 #[.agg #[.slice A0_0 l0_0.length c0_0, .slice A0_1 l0_1.length c0_1], .slice A1 q.length c1, .slice A2 l2.length c2] ?_; (with_reducible refine (impl_isVoidList.calls k _ _ l0_0 _ _ l0_1 _ _ q _ _ l2 true _ ?s1 ?s2 ?s3 ?s4 ?s5 ?s6 ?s7 ?s8 AV.out).mono ?_); (case s1 => exact Kd.C_below HR00.out HB.out); (case s2 => exact HC00.out); (case s3 => exact Kd.C_below HR01.out HB.out); (case s4 => exact HC01.out); (case s5 => exact Kd.C_below HR1.out HB.out); (case s6 => exact HC1.out); (case s7 => exact Kd.C_below HR2.out HB.out); (case s8 => exact HC2.out); rintro e w6 ⟨rfl, hb⟩; refine ⟨_, rfl, ?_⟩; have n1_ := Aside0.mk (below_step HB.out hb); have n2_ := Aside0.mk (blk_below BK5.out hb); clear HB BK5 hb; have HB := n1_; have BK5 := n2_; clear n1_ n2_) | ((with_reducible refine gate_dst (N := 18) rfl ?_); refine Kd.S_lit k64 _ 64 ?hgL (N := 18) ?hdL (xs := ([] : List MPart)) (inner := []) (ok := fun _ => True) (okp := fun _ => True) ?hrL ?hpL (fun _ hk => hk) trivial (Below.refl _ _) (Nat.le_refl _) (by simp) ?_; (case hdL => rfl); (case hgL => rfl); (case hrL => first | (go_simp; done) | (go_simp; rfl)); (case hpL => exact (Reps.none _ _)); intro v7 w7 ho hb hg_ hnew_; have HO7 := Aside0.mk (Kd.S_lower ho HB.out.size); have n1_ := Aside0.mk (below_step HB.out hb); have n2_ := Aside0.mk (blk_below BK5.out hb); clear HB BK5 hb ho hg_ hnew_; have HB := n1_; have BK5 := n2_; clear n1_ n2_) | ((with_reducible refine gate_callee (f := 90) rfl ?_); refine gL (some 20) Try.func90 #[.slice A1 q.length c1] ?_; refine (impl_copyParts.calls A1 c1 q q _ ?p1 ?p2 ?p3).mono ?_; (case p1 => exact Kd.C_below HR1.out HB.out); (case p2 => exact HC1.out); (case p3 => exact HSM.out); rintro e w8 ⟨v8, rfl, ho, hb⟩; refine ⟨_, rfl, ?_⟩; obtain ⟨g8, c8, rfl, _⟩ := Kd.S_form ho HPO.out; have HO8 := Aside0.mk ho; have HB8 := Aside0.mk hb; clear ho hb))); (obtain ⟨f, hD0⟩ := DV_start HO8.out rfl HB8.out HO7.out); (have FD0 := Aside0.mk hD0); (have HB0 := Aside0.mk (below_step HB.out HB8.out)); (have HBL := Aside0.mk HB.out.size); (have N50 := Aside0.mk (blk_below BK5.out HB8.out)); (have G5 := Aside0.mk (blk_lt BK5.out)); clear hD0 HB BK5 HO8 HO7; (go_loopg [9, 22] q.length (fun gg s9 s22 wr => ∃ (i : Int) (outs : List MPart), s22 = .int .i64 i ∧ Aside0 (0 ≤ i ∧ i ≤ (q.length : Int)) ∧ Aside0 ((q.length : Int) - i ≤ (gg : Int)) ∧ Aside0 (outs = (q.take i.toNat).flatMap (dvKeep l2)) ∧ Aside0 (DV w7.heap.size w8.heap.size wr w.heap.size g8 i.toNat f q s9 outs) ∧ Aside0 (Below w.heap.size w wr) ∧ Aside0 (wr.heap[gb5]? = some (.cells #[.slice A2 l2.length c2] 26 (0, 0)))))
  case atStart => exact ⟨0, [], rfl, ⟨by omega⟩, ⟨by omega⟩, ⟨by simp⟩, FD0, HB0, N50⟩
  case round =>
   (obtain ⟨i, outs, rfl, Hi, Hg, HP, F, HB, N5⟩ := hrel); (by_cases c : i < (q.length : Int))
   ·have cb := decide_eq_true c
    (have q0 : 0 ≤ i := Hi.out.1); (have hlt : i.toNat < q.length := by omega); (obtain ⟨Av, cv, hx0, hx1, hx2, hO⟩ := F.out.open_ hlt); (have hxm : q[i.toNat] ∈ q := List.getElem_mem hlt); (have hsx := HS2.out _ hxm)
    have hPn : (q.take (i.toNat + 1)).flatMap (dvKeep l2) = outs ++ dvKeep l2 q[i.toNat] := by
     (rw [List.take_succ_eq_append_getElem hlt, List.flatMap_append, HP.out]); (simp)
    have hol : outs.length ≤ i.toNat := by
     (rw [HP.out]); (exact Nat.le_trans (dvKeep_len l2 _) (by rw [List.length_take]; omega))
    (obtain ⟨x, hxe⟩ : ∃ x, x = q[i.toNat] := ⟨_, rfl⟩); (rw [← hxe] at hx0 hx1 hx2 hsx hPn); (simp only [← hxe] at hO); (have hi1 := HS1.out); (have HOL := Aside0.mk (show (outs.length + 1) * 48 ≤ 140737488355328 by omega)); (have HOP := Aside0.mk hO); (have HPN := Aside0.mk hPn); (have HSX := Aside0.mk hsx); (have HLT := Aside0.mk hlt); (have hwi : wrap64 (i + 1) = i + 1 := E.wrap_id (by omega) (by omega)); (have p101 := eq_true q0); (have q101 := eq_true c); clear hO hPn hsx hlt hxe c q0 hxm hol hi1 HP; (by_cases k3 : x.f0 = 3)
    ·have k3b : (x.f0 == 3) = true := beq_iff_eq.mpr k3
     (obtain ⟨Lf, hLf⟩ : ∃ y, y = dvLeft l2 x := ⟨_, rfl⟩); (have HLF := Aside0.mk hLf); (have HK3 := Aside0.mk k3); clear k3 hLf; (by_cases z : Lf.length = 0)
     ·have zb : ((Lf.length : Int) == 0) = true := beq_iff_eq.mpr (by omega)
      (have HZ := Aside0.mk z); clear z; (go_wp2_with (first | ((with_reducible refine gate_dst (N := 11) rfl ?_); refine box_event ?hg11 (N := 11) ?hd11 (cs := #[.int .i64 0, .string ⟨#[]⟩, .slice none 0 0]) (t := 64) ?hr11 ?_; (case hd11 => rfl); (case hg11 => rfl); (case hr11 => first | (go_simp; done) | (go_simp; rfl)); intro gb hg w9 hbox hb; have HB9 := Aside0.mk hb; have BK9 := Aside0.mk hbox; have GEQ := Aside0.mk hg; clear hb hbox hg) | ((with_reducible refine gate_store (t := 64) (p := 11) rfl ?_); refine put_event rfl rfl 64 (.tmp 11) _ rfl _ [.int .i64 x.f0, .string x.f1, .slice Av x.f2.length cv] rfl rfl rfl (by kernel_rfl) rfl BK9.out rfl ?_; intro w10 hp hk hbg; have BK10 := Aside0.mk hp; have hb10 := HB9.out.trans (hbg.mono (show wr.heap.size ≤ gb by rw [GEQ.out]; exact Nat.le_refl _)); have D10 := Aside0.mk (HOP.out _ hb10); rw [← GEQ.out] at D10; have N510 := Aside0.mk (blk_below N5.out hb10); have HB10 := Aside0.mk (below_step HB.out hb10); clear hp hk hbg hb10; have hz10_0 := cz BK10.out 0; have hz10_1 := cz BK10.out 1; have hz10_2 := cz BK10.out 2) | ((with_reducible refine gate_callee (f := 64) rfl ?_); refine gL (some 33) Try.func64 #[.slice Av x.f2.length cv, .func (.func 100) #[] #[.pointer (some ⟨gb5, 0, none⟩)]] ?_; refine (deleteFuncK (.slice Av x.f2.length cv) x.f2 100 #[.pointer (some ⟨gb5, 0, none⟩)] (fun n => decide (n ∈ l2)) w10 w10 w7.heap.size ?d1 ?d2 ?d3 ?d4 ?d5 ?d6).mono ?_; (case d1 => exact Nat.le_trans HB8.out.size D10.out.hs); (case d2 => exact HSX.out); (case d3 => exact Kd.R_mono D10.out.cur (fun _ _ => trivial)); (case d4 => exact Below.refl _ _); (case d5 => exact enters_of Try.func100 (by kernel_rfl) rfl); (case d6 => exact fun W y _ hbW => dvLit y A2 c2 l2 gb5 W (cz ((hbW.block gb5 G5.out).trans N510.out) 0) (Kd.C_below HR2.out (HB10.out.trans (hbW.mono HBL.out))) HC2.out HL2.out); rintro e w12 ⟨v12, rfl, ho, hb, hk, hown⟩; refine ⟨_, rfl, ?_⟩; (have ho' : Kd.R (Kd.int .i64) 3 w12 w7.heap.size (fun _ => True) v12 Lf := (by rw [HLF.out]; exact ho)); obtain ⟨Av2, cv2, rfl⟩ := Kd.R_slice ho'; have D12 := Aside0.mk (D10.out.took hk hown ho'); have BK12 := Aside0.mk (blk_kept BK10.out hk (fun h => by have := D10.out.own h; have := D10.out.hgb; omega)); have N512 := Aside0.mk ((hb.block gb5 G5.out).trans N510.out); have HB12 := Aside0.mk (HB10.out.trans (hb.mono HBL.out)); clear ho ho' hb hk hown; have hz12_0 := cz BK12.out 0; have hz12_1 := cz BK12.out 1; have hz12_2 := cz BK12.out 2; have hfz12_0 := blk_frozen BK12.out 0; have hfz12_1 := blk_frozen BK12.out 1; have hfz12_2 := blk_frozen BK12.out 2) | ((with_reducible refine gate_store (t := 26) (p := 34) rfl ?_); refine store_event (t := 26) (p := 34) (v := ?vo_w13) (w1 := (w12.setCell ⟨gb, 2, none⟩ (.slice Av2 Lf.length cv2))) ?hg ?ho ?hn ?hr ?_; (case ho => rfl); (case hg => rfl); (case hn => rfl); (case hr => first | (go_simp; done) | (go_simp; rfl)); intro w13 hw; (have BK13 : Aside0 (w13.heap[gb]? = some (.cells #[.int .i64 x.f0, .string x.f1, .slice Av2 Lf.length cv2] 64 (0, 0))) := ⟨(by rw [hw]; exact blk_put (cs := #[.int .i64 x.f0, .string x.f1, .slice Av x.f2.length cv]) BK12.out 2 _ rfl)⟩); (have D13 : Aside0 (DW w7.heap.size w8.heap.size w13 w.heap.size g8 i.toNat f q u9 outs gb (.slice Av2 Lf.length cv2) Lf) := ⟨(by rw [hw]; exact D12.out.set 2 _)⟩); (have N513 : Aside0 (w13.heap[gb5]? = some (.cells #[.slice A2 l2.length c2] 26 (0, 0))) := ⟨(by rw [hw]; exact blk_far N512.out (show gb5 ≠ gb by have := G5.out; have := D12.out.hgb; have := HB8.out.size; omega) _)⟩); (have HB13 : Aside0 (Below w.heap.size w w13) := ⟨(by rw [hw]; exact below_set HB12.out (show w.heap.size ≤ gb by have := D12.out.hgb; have := HB8.out.size; have := HBL.out; omega))⟩); clear hw; have hz13_0 := cz BK13.out 0; have hz13_1 := cz BK13.out 1; have hz13_2 := cz BK13.out 2))); (have HM := Aside0.mk D13.out.skip); (go_roundg ((q.length : Int) - (i + 1)).toNat)
      case measure => have := Hg.out; have := HLT.out; omega
      case rel =>
       (have e1 : (i + 1).toNat = i.toNat + 1 := by have := Hi.out; omega); (refine ⟨i + 1, _, by simp [*], ⟨by have := HLT.out; have := Hi.out; omega⟩, ⟨by have := HLT.out; have := Hi.out; omega⟩, ⟨?_⟩, ⟨by rw [e1]; exact HM.out⟩, HB13, N513⟩); (rw [e1, HPN.out]); (unfold dvKeep); (rw [if_pos HK3.out, ← HLF.out, if_pos HZ.out, List.append_nil])
     ·have zb : ((Lf.length : Int) == 0) = false := beq_eq_false_iff_ne.mpr (by omega)
      (have HZ := Aside0.mk z); clear z; (go_wp2_with (first | ((with_reducible refine gate_dst (N := 11) rfl ?_); refine box_event ?hg11 (N := 11) ?hd11 (cs := #[.int .i64 0, .string ⟨#[]⟩, .slice none 0 0]) (t := 64) ?hr11 ?_; (case hd11 => rfl); (case hg11 => rfl); (case hr11 => first | (go_simp; done) | (go_simp; rfl)); intro gb hg w9 hbox hb; have HB9 := Aside0.mk hb; have BK9 := Aside0.mk hbox; have GEQ := Aside0.mk hg; clear hb hbox hg) | ((with_reducible refine gate_store (t := 64) (p := 11) rfl ?_); refine put_event rfl rfl 64 (.tmp 11) _ rfl _ [.int .i64 x.f0, .string x.f1, .slice Av x.f2.length cv] rfl rfl rfl (by kernel_rfl) rfl BK9.out rfl ?_; intro w10 hp hk hbg; have BK10 := Aside0.mk hp; have hb10 := HB9.out.trans (hbg.mono (show wr.heap.size ≤ gb by rw [GEQ.out]; exact Nat.le_refl _)); have D10 := Aside0.mk (HOP.out _ hb10); rw [← GEQ.out] at D10; have N510 := Aside0.mk (blk_below N5.out hb10); have HB10 := Aside0.mk (below_step HB.out hb10); clear hp hk hbg hb10; have hz10_0 := cz BK10.out 0; have hz10_1 := cz BK10.out 1; have hz10_2 := cz BK10.out 2) | ((with_reducible refine gate_callee (f := 64) rfl ?_); refine gL (some 33) Try.func64 #[.slice Av x.f2.length cv, .func (.func 100) #[] #[.pointer (some ⟨gb5, 0, none⟩)]] ?_; refine (deleteFuncK (.slice Av x.f2.length cv) x.f2 100 #[.pointer (some ⟨gb5, 0, none⟩)] (fun n => decide (n ∈ l2)) w10 w10 w7.heap.size ?d1 ?d2 ?d3 ?d4 ?d5 ?d6).mono ?_; (case d1 => exact Nat.le_trans HB8.out.size D10.out.hs); (case d2 => exact HSX.out); (case d3 => exact Kd.R_mono D10.out.cur (fun _ _ => trivial)); (case d4 => exact Below.refl _ _); (case d5 => exact enters_of Try.func100 (by kernel_rfl) rfl); (case d6 => exact fun W y _ hbW => dvLit y A2 c2 l2 gb5 W (cz ((hbW.block gb5 G5.out).trans N510.out) 0) (Kd.C_below HR2.out (HB10.out.trans (hbW.mono HBL.out))) HC2.out HL2.out); rintro e w12 ⟨v12, rfl, ho, hb, hk, hown⟩; refine ⟨_, rfl, ?_⟩; (have ho' : Kd.R (Kd.int .i64) 3 w12 w7.heap.size (fun _ => True) v12 Lf := (by rw [HLF.out]; exact ho)); obtain ⟨Av2, cv2, rfl⟩ := Kd.R_slice ho'; have D12 := Aside0.mk (D10.out.took hk hown ho'); have BK12 := Aside0.mk (blk_kept BK10.out hk (fun h => by have := D10.out.own h; have := D10.out.hgb; omega)); have N512 := Aside0.mk ((hb.block gb5 G5.out).trans N510.out); have HB12 := Aside0.mk (HB10.out.trans (hb.mono HBL.out)); clear ho ho' hb hk hown; have hz12_0 := cz BK12.out 0; have hz12_1 := cz BK12.out 1; have hz12_2 := cz BK12.out 2; have hfz12_0 := blk_frozen BK12.out 0; have hfz12_1 := blk_frozen BK12.out 1; have hfz12_2 := blk_frozen BK12.out 2) | ((with_reducible refine gate_store (t := 26) (p := 34) rfl ?_); refine store_event (t := 26) (p := 34) (v := ?vo_w13) (w1 := (w12.setCell ⟨gb, 2, none⟩ (.slice Av2 Lf.length cv2))) ?hg ?ho ?hn ?hr ?_; (case ho => rfl); (case hg => rfl); (case hn => rfl); (case hr => first | (go_simp; done) | (go_simp; rfl)); intro w13 hw; (have BK13 : Aside0 (w13.heap[gb]? = some (.cells #[.int .i64 x.f0, .string x.f1, .slice Av2 Lf.length cv2] 64 (0, 0))) := ⟨(by rw [hw]; exact blk_put (cs := #[.int .i64 x.f0, .string x.f1, .slice Av x.f2.length cv]) BK12.out 2 _ rfl)⟩); (have D13 : Aside0 (DW w7.heap.size w8.heap.size w13 w.heap.size g8 i.toNat f q u9 outs gb (.slice Av2 Lf.length cv2) Lf) := ⟨(by rw [hw]; exact D12.out.set 2 _)⟩); (have N513 : Aside0 (w13.heap[gb5]? = some (.cells #[.slice A2 l2.length c2] 26 (0, 0))) := ⟨(by rw [hw]; exact blk_far N512.out (show gb5 ≠ gb by have := G5.out; have := D12.out.hgb; have := HB8.out.size; omega) _)⟩); (have HB13 : Aside0 (Below w.heap.size w w13) := ⟨(by rw [hw]; exact below_set HB12.out (show w.heap.size ≤ gb by have := D12.out.hgb; have := HB8.out.size; have := HBL.out; omega))⟩); clear hw; have hz13_0 := cz BK13.out 0; have hz13_1 := cz BK13.out 1; have hz13_2 := cz BK13.out 2) | ((with_reducible refine gate_builtin (b := .append) (xs := #[.tmp 45, .tmp 47]) rfl ?_); at_builtin; refine Kd.S_append k64 (w0 := w) w.heap.size rfl (.tmp 45) (.tmp 47) 55 64 (.agg #[(.int .i64 0), (.string ⟨#[]⟩), (.slice none 0 0)]) 48 rfl Try.underlying55 info64 rfl (by decide) (by omega) u9 outs (⟨x.f0, x.f1, Lf⟩ : MPart) [.int .i64 x.f0, .string x.f1, .slice Av2 Lf.length cv2] (fun k_ => (k_ < w7.heap.size ∨ w8.heap.size ≤ k_) ∨ (k_ ≠ g8 ∧ f k_ < i.toNat + 1)) (fun k_ => (f k_ = i.toNat ∧ k_ ≠ g8) ∧ w7.heap.size ≤ k_ ∧ k_ < w8.heap.size) rfl rfl ?aP ?aK ?aF ?aO ?aB ?aS ?aL ?_; (case aP => exact k64_mkM _ _ _ (⟨x.f0, x.f1, Lf⟩ : MPart) (Kd.R_lower D13.out.cur HBL.out)); (case aK => exact fun k hk => ⟨by omega, fun h => by have := (Kd.S_R D13.out.out).1 k h.symm; omega⟩); (case aF => exact fun k hk => by have := D13.out.hs; omega); (case aO => exact Kd.S_mono D13.out.out (fun k hk => ⟨by have := hk.1; omega, fun h => by have := hk.1; omega⟩)); (case aB => exact HB13.out); (case aS => exact HB13.out.size); (case aL => exact HOL.out); intro v15 w15 ho hb hg_ hat_; have HM := Aside0.mk (D13.out.push ho hg_); have N515 := Aside0.mk ((hg_.block gb5 (blk_lt N513.out) (Kd.S_ne D13.out.out N513.out (by decide))).trans N513.out); have HB15 := Aside0.mk hb; clear ho hb hg_ hat_))); (go_roundg ((q.length : Int) - (i + 1)).toNat)
      case measure => have := Hg.out; have := HLT.out; omega
      case rel =>
       (have e1 : (i + 1).toNat = i.toNat + 1 := by have := Hi.out; omega); (refine ⟨i + 1, _, by simp [*], ⟨by have := HLT.out; have := Hi.out; omega⟩, ⟨by have := HLT.out; have := Hi.out; omega⟩, ⟨?_⟩, ⟨by rw [e1]; exact HM.out⟩, HB15, N515⟩); (rw [e1, HPN.out]); (unfold dvKeep); (rw [if_pos HK3.out, ← HLF.out, if_neg HZ.out])
    ·have k3b : (x.f0 == 3) = false := beq_eq_false_iff_ne.mpr k3
     (have HK3 := Aside0.mk k3); clear k3; (by_cases k4 : x.f0 = 4)
     ·have k4b : (x.f0 == 4) = true := beq_iff_eq.mpr k4
      (have HK4 := Aside0.mk k4); clear k4
      cases ha : x.f2.any (fun n => decide (n ∈ l2)) with
      | true =>
       (have HA := Aside0.mk ha); clear ha; (go_wp2_with (first | ((with_reducible refine gate_dst (N := 11) rfl ?_); refine box_event ?hg11 (N := 11) ?hd11 (cs := #[.int .i64 0, .string ⟨#[]⟩, .slice none 0 0]) (t := 64) ?hr11 ?_; (case hd11 => rfl); (case hg11 => rfl); (case hr11 => first | (go_simp; done) | (go_simp; rfl)); intro gb hg w9 hbox hb; have HB9 := Aside0.mk hb; have BK9 := Aside0.mk hbox; have GEQ := Aside0.mk hg; clear hb hbox hg) | ((with_reducible refine gate_store (t := 64) (p := 11) rfl ?_); refine put_event rfl rfl 64 (.tmp 11) _ rfl _ [.int .i64 x.f0, .string x.f1, .slice Av x.f2.length cv] rfl rfl rfl (by kernel_rfl) rfl BK9.out rfl ?_; intro w10 hp hk hbg; have BK10 := Aside0.mk hp; have hb10 := HB9.out.trans (hbg.mono (show wr.heap.size ≤ gb by rw [GEQ.out]; exact Nat.le_refl _)); have D10 := Aside0.mk (HOP.out _ hb10); rw [← GEQ.out] at D10; have N510 := Aside0.mk (blk_below N5.out hb10); have HB10 := Aside0.mk (below_step HB.out hb10); clear hp hk hbg hb10; have hz10_0 := cz BK10.out 0; have hz10_1 := cz BK10.out 1; have hz10_2 := cz BK10.out 2) | ((with_reducible refine gate_callee (f := 102) rfl ?_); refine gL (some 44) Try.func102 #[.slice Av x.f2.length cv, .func (.func 100) #[] #[.pointer (some ⟨gb5, 0, none⟩)]] ?_; refine (containsFunc102 Av cv x.f2 100 #[.pointer (some ⟨gb5, 0, none⟩)] (fun n => decide (n ∈ l2)) w10 ?u1 ?u2 ?u3).mono ?_; (case u1 => exact (Kd.R_reads' D10.out.cur).2.2); (case u2 => exact enters_of Try.func100 (by kernel_rfl) rfl); (case u3 => exact fun W y _ hbW => dvLit y A2 c2 l2 gb5 W (cz (blk_below N510.out hbW) 0) (Kd.C_below HR2.out (below_step HB10.out hbW)) HC2.out HL2.out); rintro e w14 ⟨rfl, hb⟩; refine ⟨_, rfl, ?_⟩; (first | rw [HA.out] | skip); have D14 := Aside0.mk (D10.out.below hb); have BK14 := Aside0.mk (blk_below BK10.out hb); have N514 := Aside0.mk (blk_below N510.out hb); have HB14 := Aside0.mk (below_step HB10.out hb); clear hb; have hz14_0 := cz BK14.out 0; have hz14_1 := cz BK14.out 1; have hz14_2 := cz BK14.out 2))); (have HM := Aside0.mk D14.out.skip); (go_roundg ((q.length : Int) - (i + 1)).toNat)
       case measure => have := Hg.out; have := HLT.out; omega
       case rel =>
        (have e1 : (i + 1).toNat = i.toNat + 1 := by have := Hi.out; omega); (refine ⟨i + 1, _, by simp [*], ⟨by have := HLT.out; have := Hi.out; omega⟩, ⟨by have := HLT.out; have := Hi.out; omega⟩, ⟨?_⟩, ⟨by rw [e1]; exact HM.out⟩, HB14, N514⟩); (rw [e1, HPN.out]); (unfold dvKeep)
        rw [if_neg HK3.out, if_pos HK4.out, if_pos HA.out, List.append_nil]
      | false =>
       (have HA := Aside0.mk ha); clear ha; (go_wp2_with (first | ((with_reducible refine gate_dst (N := 11) rfl ?_); refine box_event ?hg11 (N := 11) ?hd11 (cs := #[.int .i64 0, .string ⟨#[]⟩, .slice none 0 0]) (t := 64) ?hr11 ?_; (case hd11 => rfl); (case hg11 => rfl); (case hr11 => first | (go_simp; done) | (go_simp; rfl)); intro gb hg w9 hbox hb; have HB9 := Aside0.mk hb; have BK9 := Aside0.mk hbox; have GEQ := Aside0.mk hg; clear hb hbox hg) | ((with_reducible refine gate_store (t := 64) (p := 11) rfl ?_); refine put_event rfl rfl 64 (.tmp 11) _ rfl _ [.int .i64 x.f0, .string x.f1, .slice Av x.f2.length cv] rfl rfl rfl (by kernel_rfl) rfl BK9.out rfl ?_; intro w10 hp hk hbg; have BK10 := Aside0.mk hp; have hb10 := HB9.out.trans (hbg.mono (show wr.heap.size ≤ gb by rw [GEQ.out]; exact Nat.le_refl _)); have D10 := Aside0.mk (HOP.out _ hb10); rw [← GEQ.out] at D10; have N510 := Aside0.mk (blk_below N5.out hb10); have HB10 := Aside0.mk (below_step HB.out hb10); clear hp hk hbg hb10; have hz10_0 := cz BK10.out 0; have hz10_1 := cz BK10.out 1; have hz10_2 := cz BK10.out 2) | ((with_reducible refine gate_callee (f := 102) rfl ?_); refine gL (some 44) Try.func102 #[.slice Av x.f2.length cv, .func (.func 100) #[] #[.pointer (some ⟨gb5, 0, none⟩)]] ?_; refine (containsFunc102 Av cv x.f2 100 #[.pointer (some ⟨gb5, 0, none⟩)] (fun n => decide (n ∈ l2)) w10 ?u1 ?u2 ?u3).mono ?_; (case u1 => exact (Kd.R_reads' D10.out.cur).2.2); (case u2 => exact enters_of Try.func100 (by kernel_rfl) rfl); (case u3 => exact fun W y _ hbW => dvLit y A2 c2 l2 gb5 W (cz (blk_below N510.out hbW) 0) (Kd.C_below HR2.out (below_step HB10.out hbW)) HC2.out HL2.out); rintro e w14 ⟨rfl, hb⟩; refine ⟨_, rfl, ?_⟩; (first | rw [HA.out] | skip); have D14 := Aside0.mk (D10.out.below hb); have BK14 := Aside0.mk (blk_below BK10.out hb); have N514 := Aside0.mk (blk_below N510.out hb); have HB14 := Aside0.mk (below_step HB10.out hb); clear hb; have hz14_0 := cz BK14.out 0; have hz14_1 := cz BK14.out 1; have hz14_2 := cz BK14.out 2) | ((with_reducible refine gate_builtin (b := .append) (xs := #[.tmp 45, .tmp 47]) rfl ?_); at_builtin; refine Kd.S_append k64 (w0 := w) w.heap.size rfl (.tmp 45) (.tmp 47) 55 64 (.agg #[(.int .i64 0), (.string ⟨#[]⟩), (.slice none 0 0)]) 48 rfl Try.underlying55 info64 rfl (by decide) (by omega) u9 outs x [.int .i64 x.f0, .string x.f1, .slice Av x.f2.length cv] (fun k_ => (k_ < w7.heap.size ∨ w8.heap.size ≤ k_) ∨ (k_ ≠ g8 ∧ f k_ < i.toNat + 1)) (fun k_ => (f k_ = i.toNat ∧ k_ ≠ g8) ∧ w7.heap.size ≤ k_ ∧ k_ < w8.heap.size) rfl rfl ?aP ?aK ?aF ?aO ?aB ?aS ?aL ?_; (case aP => exact k64_mkM _ _ _ x (Kd.R_lower D14.out.cur HBL.out)); (case aK => exact fun k hk => ⟨by omega, fun h => by have := (Kd.S_R D14.out.out).1 k h.symm; omega⟩); (case aF => exact fun k hk => by have := D14.out.hs; omega); (case aO => exact Kd.S_mono D14.out.out (fun k hk => ⟨by have := hk.1; omega, fun h => by have := hk.1; omega⟩)); (case aB => exact HB14.out); (case aS => exact HB14.out.size); (case aL => exact HOL.out); intro v15 w15 ho hb hg_ hat_; have HM := Aside0.mk (D14.out.push ho hg_); have N515 := Aside0.mk ((hg_.block gb5 (blk_lt N514.out) (Kd.S_ne D14.out.out N514.out (by decide))).trans N514.out); have HB15 := Aside0.mk hb; clear ho hb hg_ hat_))); (go_roundg ((q.length : Int) - (i + 1)).toNat)
       case measure => have := Hg.out; have := HLT.out; omega
       case rel =>
        (have e1 : (i + 1).toNat = i.toNat + 1 := by have := Hi.out; omega); (refine ⟨i + 1, _, by simp [*], ⟨by have := HLT.out; have := Hi.out; omega⟩, ⟨by have := HLT.out; have := Hi.out; omega⟩, ⟨?_⟩, ⟨by rw [e1]; exact HM.out⟩, HB15, N515⟩); (rw [e1, HPN.out]); (unfold dvKeep); (rw [if_neg HK3.out, if_pos HK4.out, if_neg (by rw [HA.out]; simp)])
     ·have k4b : (x.f0 == 4) = false := beq_eq_false_iff_ne.mpr k4
      (have HK4 := Aside0.mk k4); clear k4; (go_wp2_with (first | ((with_reducible refine gate_dst (N := 11) rfl ?_); refine box_event ?hg11 (N := 11) ?hd11 (cs := #[.int .i64 0, .string ⟨#[]⟩, .slice none 0 0]) (t := 64) ?hr11 ?_; (case hd11 => rfl); (case hg11 => rfl); (case hr11 => first | (go_simp; done) | (go_simp; rfl)); intro gb hg w9 hbox hb; have HB9 := Aside0.mk hb; have BK9 := Aside0.mk hbox; have GEQ := Aside0.mk hg; clear hb hbox hg) | ((with_reducible refine gate_store (t := 64) (p := 11) rfl ?_); refine put_event rfl rfl 64 (.tmp 11) _ rfl _ [.int .i64 x.f0, .string x.f1, .slice Av x.f2.length cv] rfl rfl rfl (by kernel_rfl) rfl BK9.out rfl ?_; intro w10 hp hk hbg; have BK10 := Aside0.mk hp; have hb10 := HB9.out.trans (hbg.mono (show wr.heap.size ≤ gb by rw [GEQ.out]; exact Nat.le_refl _)); have D10 := Aside0.mk (HOP.out _ hb10); rw [← GEQ.out] at D10; have N510 := Aside0.mk (blk_below N5.out hb10); have HB10 := Aside0.mk (below_step HB.out hb10); clear hp hk hbg hb10; have hz10_0 := cz BK10.out 0; have hz10_1 := cz BK10.out 1; have hz10_2 := cz BK10.out 2) | ((with_reducible refine gate_builtin (b := .append) (xs := #[.tmp 45, .tmp 47]) rfl ?_); at_builtin; refine Kd.S_append k64 (w0 := w) w.heap.size rfl (.tmp 45) (.tmp 47) 55 64 (.agg #[(.int .i64 0), (.string ⟨#[]⟩), (.slice none 0 0)]) 48 rfl Try.underlying55 info64 rfl (by decide) (by omega) u9 outs x [.int .i64 x.f0, .string x.f1, .slice Av x.f2.length cv] (fun k_ => (k_ < w7.heap.size ∨ w8.heap.size ≤ k_) ∨ (k_ ≠ g8 ∧ f k_ < i.toNat + 1)) (fun k_ => (f k_ = i.toNat ∧ k_ ≠ g8) ∧ w7.heap.size ≤ k_ ∧ k_ < w8.heap.size) rfl rfl ?aP ?aK ?aF ?aO ?aB ?aS ?aL ?_; (case aP => exact k64_mkM _ _ _ x (Kd.R_lower D10.out.cur HBL.out)); (case aK => exact fun k hk => ⟨by omega, fun h => by have := (Kd.S_R D10.out.out).1 k h.symm; omega⟩); (case aF => exact fun k hk => by have := D10.out.hs; omega); (case aO => exact Kd.S_mono D10.out.out (fun k hk => ⟨by have := hk.1; omega, fun h => by have := hk.1; omega⟩)); (case aB => exact HB10.out); (case aS => exact HB10.out.size); (case aL => exact HOL.out); intro v15 w15 ho hb hg_ hat_; have HM := Aside0.mk (D10.out.push ho hg_); have N515 := Aside0.mk ((hg_.block gb5 (blk_lt N510.out) (Kd.S_ne D10.out.out N510.out (by decide))).trans N510.out); have HB15 := Aside0.mk hb; clear ho hb hg_ hat_))); (go_roundg ((q.length : Int) - (i + 1)).toNat)
      case measure => have := Hg.out; have := HLT.out; omega
      case rel =>
       (have e1 : (i + 1).toNat = i.toNat + 1 := by have := Hi.out; omega); (refine ⟨i + 1, _, by simp [*], ⟨by have := HLT.out; have := Hi.out; omega⟩, ⟨by have := HLT.out; have := Hi.out; omega⟩, ⟨?_⟩, ⟨by rw [e1]; exact HM.out⟩, HB15, N515⟩); (rw [e1, HPN.out]); (unfold dvKeep); (rw [if_neg HK3.out, if_neg HK4.out])
   ·have cb := decide_eq_false c
    (have he : i.toNat = q.length := by have := Hi.out; omega); (have hPa : outs = q.flatMap (dvKeep l2) := by rw [HP.out, he, List.take_length]); (have hD := Kd.S_mono (ok' := fun _ => True) F.out.out (fun _ _ => trivial)); (rw [hPa] at hD); (have HD := Aside0.mk hD); clear hD hPa c he; (go_wp2); (go_ret2); (exact ⟨_, rfl, HD.out, HB.out⟩)

end Go.Proofs.Ytdbhelhoaciodaa.X
