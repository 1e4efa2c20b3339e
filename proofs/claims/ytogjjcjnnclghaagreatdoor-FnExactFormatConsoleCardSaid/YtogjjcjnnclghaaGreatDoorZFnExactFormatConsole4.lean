/- For every console the law FnExactFormatConsole answers true. No condition beyond what a reading tells.
This file (part 4 of 7) holds what the proof needs: plain functions with rounds and contracts written by programs of this work over the translation, and the lemmas. -/
import Derived.Test.YtogjjcjnnclghaaGreatDoorZFnExactFormatConsole2
import Derived.Test.YtogjjcjnnclghaaGreatDoorZFnExactFormatConsole3
import Derived.Shelf.Small.Strs
import Derived.Shelf.Strconv.Itoa0
import Derived.Shelf.Strconv.Itoa1
import Derived.Shelf.LaysM
import Derived.Shelf.Strconv.Itoa2
import Derived.Shelf.Strconv.Itoa3
import Derived.Shelf.Strings.Search1
import Derived.Shelf.Strings.Search2
import Derived.Shelf.Strings.Search3
import Derived.Shelf.Strings.Cut
import Derived.Shelf.Strings.Shaped
import Derived.Shelf.Strings.Prefix
import Derived.Test.YtogjjcjnnclghaaGreatDoorProg
import Derived.Lib.AppendIntMem
namespace Go.Proofs.YtogjjcjnnclghaaGreatDoor.X
open Go.RowKit Go.Proofs.YtogjjcjnnclghaaGreatDoorW.PrintWords Go.Proofs.YtogjjcjnnclghaaGreatDoorW.PrintLast Go.Proofs.YtogjjcjnnclghaaGreatDoorW.PrintMore
attribute [local go_sem] max2_int min2_int max_two min_two max_three min_three max_four min_four   -- for this text's walks alone
set_option linter.unusedVariables false
set_option linter.unusedSimpArgs false
attribute [-simp] ByteArray.size_append ByteArray.size_extract
attribute [-go_sem] ByteArray.size_append'

/-! ### impl_IsValidRecord: function 19 -/
mutual
def impl_IsValidRecord.j0 : Nat → Bool → List (S79) → List (S82) → Option (Bool)
 | 0, _, _, _ => none
 | k + 1, x16, x102000, x102001 => if x16 = true then (some false) else (impl_IsValidRecord.l0 k x102000 (x102000.length : Int) 0 x102000 x102001)
def impl_IsValidRecord.l0 : Nat → List (S79) → Int → Int → List (S79) → List (S82) → Option (Bool)
 | 0, _, _, _, _, _ => none
 | k + 1, x18, x19, x20, x102000, x102001 => if x20 < x19 then (if 0 ≤ x20 then (if x20 < (x18.length : Int) then ((impl_isNumber.f ((rd_T79 x18 x20).f0)).bind fun t104 => (if t104 = true then ((impl_isKind.f ((rd_T79 x18 x20).f1)).bind fun t105 => (if t105 = true then (if x20 > 0 then (if 0 ≤ (wrap64 (x20 - 1)) then (if (wrap64 (x20 - 1)) < (x102000.length : Int) then (if ((rd_T79 x18 x20).f0) ≤ ((rd_T79 x102000 (wrap64 (x20 - 1))).f0) then (some false) else (impl_IsValidRecord.l0 k x18 x19 (wrap64 (x20 + 1)) x102000 x102001)) else (none)) else (none)) else (impl_IsValidRecord.l0 k x18 x19 (wrap64 (x20 + 1)) x102000 x102001)) else (some false))) else (some false))) else (none)) else (none)) else (impl_IsValidRecord.l1 k x102001 (x102001.length : Int) 0 x102000 x102001)
def impl_IsValidRecord.l1 : Nat → List (S82) → Int → Int → List (S79) → List (S82) → Option (Bool)
 | 0, _, _, _, _, _ => none
 | k + 1, x53, x54, x55, x102000, x102001 => if x55 < x54 then (if 0 ≤ x55 then (if x55 < (x53.length : Int) then (if ((rd_T82 x53 x55).f0) = ((rd_T82 x53 x55).f1) then (impl_IsValidRecord.j3 k x55 x53 x54 x55 true x102000 x102001 ((rd_T82 x53 x55).f0) ((rd_T82 x53 x55).f1)) else ((impl_indexOf.f x102000 x102001 ((rd_T82 x53 x55).f0)).bind fun t109 => (if t109 < 0 then (impl_IsValidRecord.j3 k x55 x53 x54 x55 true x102000 x102001 ((rd_T82 x53 x55).f0) ((rd_T82 x53 x55).f1)) else ((impl_indexOf.f x102000 x102001 ((rd_T82 x53 x55).f1)).bind fun t110 => (impl_IsValidRecord.j3 k x55 x53 x54 x55 (decide (t110 < 0)) x102000 x102001 ((rd_T82 x53 x55).f0) ((rd_T82 x53 x55).f1)))))) else (none)) else (none)) else (some true)
def impl_IsValidRecord.j3 : Nat → Int → List (S82) → Int → Int → Bool → List (S79) → List (S82) → Int → Int → Option (Bool)
 | 0, _, _, _, _, _, _, _, _, _ => none
 | k + 1, x5, x53, x54, x55, x78, x102000, x102001, x109000, x109001 => if x78 = true then (some false) else (if x5 > 0 then (if 0 ≤ (wrap64 (x5 - 1)) then (if (wrap64 (x5 - 1)) < (x102001.length : Int) then ((impl_compareRelations.f k ((rd_T82 x102001 (wrap64 (x5 - 1))).f0) ((rd_T82 x102001 (wrap64 (x5 - 1))).f1) x109000 x109001).bind fun t112 => (if t112 ≥ 0 then (some false) else (impl_IsValidRecord.l1 k x53 x54 (wrap64 (x55 + 1)) x102000 x102001))) else (none)) else (none)) else (impl_IsValidRecord.l1 k x53 x54 (wrap64 (x55 + 1)) x102000 x102001))
end
def impl_IsValidRecord.f (k : Nat) (l0_0 : List (S79)) (l0_1 : List (S82)) : Option (Bool) := if (l0_0.length : Int) > 10 then (impl_IsValidRecord.j0 k true l0_0 l0_1) else (impl_IsValidRecord.j0 k (decide ((l0_1.length : Int) > 24)) l0_0 l0_1)
def impl_IsValidRecord.T6 : Bool × List (List Nat × List Nat) := (true, [([], []), ([0], [0]), ([1], [1]), ([2], [2]), ([3, 2], [3]), ([4], [4]), ([5, 4], [4, 5]), ([6, 4, 4], [4, 6]), ([7, 4], [4, 7]), ([4, 8], [4, 8]), ([9, 7], [9]), ([10], [10]), ([11, 10], [10, 11]), ([12, 10, 10], [10, 12]), ([13], [13]), ([14, 13], [13, 14]), ([13], [13]), ([16, 13], [13, 16]), ([13], [13]), ([18, 13], [13, 18]), ([17, 19, 13], [13, 17, 19]), ([20, 13], [13, 20]), ([21, 13], [13, 21]), ([15, 22, 13], [13, 15, 22]), ([13, 23, 10], [10, 13, 23]), ([10, 24], [10, 24])])
def impl_IsValidRecord.B6 : List Nat := [0, 1, 3, 7, 15, 31, 63, 127, 255, 511, 1023, 2047, 4095, 8191, 16383, 32767, 16383, 81919, 16383, 278527, 999423, 2047999, 4145151, 8388607, 16777215, 33554431]
theorem impl_IsValidRecord.tab6 : rtab .any (opsOf Tryz.f19 6) = impl_IsValidRecord.T6 := by kernel_rfl
theorem impl_IsValidRecord.bits6 : waitsOk impl_IsValidRecord.T6.2 impl_IsValidRecord.B6 = true := by kernel_rfl
def impl_IsValidRecord.T14 : Bool × List (List Nat × List Nat) := (true, [([], []), ([0], [0]), ([1], [1]), ([2], [2]), ([3, 2], [2, 3]), ([2], [2]), ([5, 2], [2, 5]), ([4, 6, 2], [2, 4, 6]), ([7, 2], [2, 7]), ([2], [2]), ([8, 9, 2, 2], [2, 8, 9]), ([10, 2], [2, 10]), ([2, 11], [2, 11])])
def impl_IsValidRecord.B14 : List Nat := [0, 1, 3, 7, 15, 7, 39, 127, 255, 7, 1023, 2047, 4095]
theorem impl_IsValidRecord.tab14 : rtab .any (opsOf Tryz.f19 14) = impl_IsValidRecord.T14 := by kernel_rfl
theorem impl_IsValidRecord.bits14 : waitsOk impl_IsValidRecord.T14.2 impl_IsValidRecord.B14 = true := by kernel_rfl
set_option maxHeartbeats 8000000 in
set_option maxRecDepth 100000 in
theorem impl_IsValidRecord.calls (k : Nat) (A0_0 : Option Addr) (c0_0 : Nat) (l0_0 : List (S79)) (A0_1 : Option Addr) (c0_1 : Nat) (l0_1 : List (S82)) (r : Bool) (w : World) (hr0_0 : Kd.C k79 w A0_0 l0_0.length l0_0) (hc0_0 : l0_0.length ≤ c0_0) (hr0_1 : Kd.C k82 w A0_1 l0_1.length l0_1) (hc0_1 : l0_1.length ≤ c0_1) (h : impl_IsValidRecord.f k l0_0 l0_1 = some r) :
  Calls Tryz.prog 19 #[.agg #[.slice A0_0 l0_0.length c0_0, .slice A0_1 l0_1.length c0_1]] w fun e w' => e = .returned (.bool r) ∧ Below w.heap.size w w' := by
 (have hu36 := Tryz.underlying36); (have hu79 := Tryz.underlying79); (have hu82 := Tryz.underlying82); (have HR0_0 := Aside0.mk hr0_0); (have HC0_0 := Aside0.mk hc0_0); clear hr0_0 hc0_0; (have HR0_1 := Aside0.mk hr0_1); (have HC0_1 := Aside0.mk hc0_1); clear hr0_1 hc0_1; (have HB := Aside0.mk (Below.refl w.heap.size w)); (unfold impl_IsValidRecord.f at h); (have H := h); clear h; (have HC2 := Aside0.mk H); clear H; (go_enter Tryz.func19, Tryz.ntmps19); (go_upto_region 1 with (first | ((with_reducible refine gate_dst (N := 1) rfl ?_); refine box_event ?hg (N := 1) ?hd (cs := #[.slice A0_0 l0_0.length c0_0, .slice A0_1 l0_1.length c0_1]) (t := 36) ?hr ?_; (case hd => rfl); (case hg => rfl); (case hr => first | (go_simp; done) | (go_simp; rfl)); intro gb101 hg w3 hbox hb; have hB_ := zI hb HB; have n0_ := Aside0.mk (below_step hB_ hb); have n1_ := Aside0.mk (hbox); have n2_ := Aside0.mk (bx0 hg hB_); have n3_ := n2_; clear HB; have HB := n0_; have BK101 := n1_; have GW101 := n2_; have GE101 := n3_; clear n0_ n1_ n2_ n3_ hB_ hb hbox hg))); ((try simp only [Act.put, aS1, aS2, aS3])); (go_cut [16] (fun v16 wc => ∃ (kq : Nat) (x16_1 : Bool), v16 = .bool x16_1 ∧ Aside0 (impl_IsValidRecord.j0 kq x16_1 l0_0 l0_1 = some r) ∧ Aside0 (kq ≤ k) ∧ Aside0 (wc.heap[gb101]? = some (.cells #[(.slice A0_0 l0_0.length c0_0), (.slice A0_1 l0_1.length c0_1)] 36 (0, 0))) ∧ Aside0 (Below w.heap.size w wc)))
 case first =>
  (have H := HC2.out); clear HC2; (by_cases c4 : (l0_0.length : Int) > 10)
  ·rw [if_pos c4] at H
   (have c4b0 : decide (10 < (l0_0.length : Int)) = true := decide_eq_true c4); (have c4b1 : decide (10 < l0_0.length) = true := decide_eq_true (by omega)); clear c4; ((first | rw [c4b0] | (simp only [i64_w, i32_w]; rw [c4b0]) | skip)); (have H' := Aside0.mk H); clear H; (have hcz5_0 := cz BK101.out 0); (have hcz5_1 := cz BK101.out 1); (have hfz5_0 := blk_frozen BK101.out 0); (have hfz5_1 := blk_frozen BK101.out 1); (go_wp2); (go_meet)
   case rel => exact ⟨_, (true), (by first | rfl | (simp; done) | (simp [*]; done)), H', ⟨by first | omega | exact Nat.le_refl _⟩, ⟨kI BK101⟩, ⟨eI HB⟩⟩
  ·rw [if_neg c4] at H
   (have c4b0 : decide (10 < (l0_0.length : Int)) = false := decide_eq_false c4); (have c4b1 : decide (10 < l0_0.length) = false := decide_eq_false (by omega)); clear c4; ((first | rw [c4b0] | (simp only [i64_w, i32_w]; rw [c4b0]) | skip)); (have H' := Aside0.mk H); clear H; (have hcz6_0 := cz BK101.out 0); (have hcz6_1 := cz BK101.out 1); (have hfz6_0 := blk_frozen BK101.out 0); (have hfz6_1 := blk_frozen BK101.out 1); (go_wp2); (go_meet)
   case rel => exact ⟨_, (decide ((l0_1.length : Int) > 24)), (by first | rfl | (simp; done) | (simp [*]; done)), H', ⟨by first | omega | exact Nat.le_refl _⟩, ⟨kI BK101⟩, ⟨eI HB⟩⟩
 case rest =>
  clear HC2; (try clear c1); (try clear p2); (try clear c4); (try clear c4b0); (try clear c4b1); (try clear hcz5_0); (try clear hcz5_1); (try clear hcz6_0); (try clear hcz6_1); (try clear hfz5_0); (try clear hfz5_1); (try clear hfz6_0); (try clear hfz6_1); (obtain ⟨kq, x16_1, rfl, HA, HJ1, BK101, HB⟩ := hcut)
  cases kq with
  | zero => exact absurd HA.out (by simp [impl_IsValidRecord.j0])
  | succ kj1 =>
   (have H := HA.out); clear HA; (simp only [impl_IsValidRecord.j0] at H); (by_cases c7 : x16_1 = true); (· subst c7; (rw [if_pos rfl] at H); (obtain rfl := Option.some.inj H); (go_wp2); go_ret; (exact ⟨rfl, eI HB⟩))
   ·replace c7 := Bool.eq_false_iff.mpr c7
    subst c7; (rw [if_neg (show ¬ (false = true) by decide)] at H); (have H' := Aside0.mk H); clear H; (have hcz8_0 := cz BK101.out 0); (have hcz8_1 := cz BK101.out 1); (have hfz8_0 := blk_frozen BK101.out 0); (have hfz8_1 := blk_frozen BK101.out 1); (go_wp2); (go_loopg [20] kj1 (fun kq v20 w' => ∃ (x20_2 : Int), v20 = .int .i64 x20_2 ∧ Aside0 (impl_IsValidRecord.l0 kq l0_0 (l0_0.length : Int) x20_2 l0_0 l0_1 = some r) ∧ Aside0 (kq ≤ kj1) ∧ Aside0 (w'.heap[gb101]? = some (.cells #[(.slice A0_0 l0_0.length c0_0), (.slice A0_1 l0_1.length c0_1)] 36 (0, 0))) ∧ Aside0 (Below w.heap.size w w')))
    case atStart => exact ⟨(0), (by first | rfl | (simp; done) | (simp [*]; done)), H', ⟨Nat.le_refl _⟩, ⟨kI BK101⟩, ⟨eI HB⟩⟩
    case round =>
     (clear H'); (try clear c1); (try clear p2); (try clear c4); (try clear c4b0); (try clear c4b1); (try clear c7); (try clear hcz5_0); (try clear hcz5_1); (try clear hcz6_0); (try clear hcz6_1); (try clear hcz8_0); (try clear hcz8_1); (try clear hfz5_0); (try clear hfz5_1); (try clear hfz6_0); (try clear hfz6_1); (try clear hfz8_0); (try clear hfz8_1); (try clear p2); (obtain ⟨x20_2, rfl, HA, HK2, BK101, HB⟩ := hrel)
     cases gk with
     | zero => exact absurd HA.out (by simp [impl_IsValidRecord.l0])
     | succ k2 =>
      (have H := HA.out); clear HA; (simp only [impl_IsValidRecord.l0] at H); (by_cases c9 : x20_2 < (l0_0.length : Int))
      ·rw [if_pos c9] at H
       (have c9b0 := decide_eq_true c9); clear c9; (by_cases c10 : 0 ≤ x20_2)
       ·rw [if_pos c10] at H
        (have c10b0 := decide_eq_true c10); clear c10; (by_cases c11 : x20_2 < (l0_0.length : Int))
        ·rw [if_pos c11] at H
         (have c11b0 := decide_eq_true c11); clear c11; (obtain ⟨t104, A12, H⟩ := obS H); (by_cases c13 : t104 = true)
         ·subst c13
          (rw [if_pos rfl] at H); (obtain ⟨t105, A14, H⟩ := obS H); (by_cases c15 : t105 = true)
          ·subst c15
           (rw [if_pos rfl] at H); (by_cases c16 : x20_2 > 0)
           ·rw [if_pos c16] at H
            (have c16b0 : decide (0 < x20_2) = true := decide_eq_true c16); clear c16; (obtain ⟨ji17, hji17⟩ : ∃ j_ : Int, (wrap64 (x20_2 - 1)) = j_ := ⟨_, rfl⟩); (replace H : (if 0 ≤ (ji17) then (if (ji17) < (l0_0.length : Int) then (if ((rd_T79 l0_0 x20_2).f0) ≤ ((rd_T79 l0_0 (ji17)).f0) then (some false) else (impl_IsValidRecord.l0 k2 l0_0 (l0_0.length : Int) (wrap64 (x20_2 + 1)) l0_0 l0_1)) else (none)) else (none)) = some r := by first | (rw [hji17] at H; exact H) | (simp only [hji17] at H ⊢; exact H)); ((try rw [hji17] at A12)); ((try rw [hji17] at A14)); (have hji17w : (IntKind.i64.wrap (x20_2 - 1)) = ji17 := (i64_w _).trans hji17); (by_cases c18 : 0 ≤ (ji17))
            ·rw [if_pos c18] at H
             (have c18b0 := decide_eq_true c18); clear c18; (by_cases c19 : (ji17) < (l0_0.length : Int))
             ·rw [if_pos c19] at H
              (have c19b0 := decide_eq_true c19); clear c19; (by_cases c20 : ((rd_T79 l0_0 x20_2).f0) ≤ ((rd_T79 l0_0 (ji17)).f0))
              ·rw [if_pos c20] at H
               (have c20b0 := decide_eq_true c20); clear c20; (obtain rfl := Option.some.inj H); (have p102 : 0 ≤ (x20_2 : Int) := odt); (have q102 : x20_2 < (l0_0.length : Int) := odt); (obtain ⟨ad102, e102, hx102_0, hx102_1⟩ := at_T79 HR0_0.out x20_2 p102 q102); (cases e102); (replace hx102_0 := hcI HB hx102_0); (replace hx102_1 := hcI HB hx102_1); (replace p102 := eq_true p102); (replace q102 := eq_true q102); (try go_wp2_with (first | ((with_reducible refine gate_dst (N := 4) rfl ?_); refine box_event ?hg (N := 4) ?hd (cs := #[.int .i64 0, .int .i64 0]) (t := 79) ?hr ?_; (case hd => rfl); (case hg => rfl); (case hr => first | (go_simp; done) | (go_simp; rfl)); intro gb103 hg w21 hbox hb; have n0_ := Aside0.mk (kbI hb BK101); have hB_ := zI hb HB; have n1_ := Aside0.mk (below_step hB_ hb); have n2_ := Aside0.mk (hbox); have n3_ := Aside0.mk (bx0 hg hB_); have n4_ := n3_; have n5_ := Aside0.mk ((by rw [hg]; exact Nat.ne_of_lt (blk_lt (kI BK101)) : gb101 ≠ gb103)); have n6_ := Aside0.mk (Ne.symm n5_.out); clear BK101 HB; have BK101 := n0_; have HB := n1_; have BK103 := n2_; have GW103 := n3_; have GE103 := n4_; have NB101_103 := n5_; have NB103_101 := n6_; clear n0_ n1_ n2_ n3_ n4_ n5_ n6_ hB_ hb hbox hg; have hnb22 := NB103_101.out; have hnc22 := NB101_103.out; have hcz23_0 := cz BK103.out 0; have hcz23_1 := cz BK103.out 1; have hfz23_0 := blk_frozen BK103.out 0; have hfz23_1 := blk_frozen BK103.out 1))); (have n0_ : Aside0 (((w21.setCell ⟨gb103, 0, none⟩ (.int .i64 ((rd_T79 l0_0 x20_2).f0))).setCell ⟨gb103, 1, none⟩ (.int .i64 ((rd_T79 l0_0 x20_2).f1))).heap[gb101]? = some (.cells #[.slice (some ad102) l0_0.length c0_0, .slice A0_1 l0_1.length c0_1] 36 (0, 0))) := ⟨by (with_reducible repeat (first | refine kN ?_ _ | refine kD ?_ | refine kA ?_ _)); refine blk_far ?_ NB101_103.out _; (with_reducible repeat (first | refine kN ?_ _ | refine kD ?_ | refine kA ?_ _)); refine blk_far ?_ NB101_103.out _; (with_reducible repeat (first | refine kN ?_ _ | refine kD ?_ | refine kA ?_ _)); exact BK101.out⟩); (have n1_ : Aside0 (((w21.setCell ⟨gb103, 0, none⟩ (.int .i64 ((rd_T79 l0_0 x20_2).f0))).setCell ⟨gb103, 1, none⟩ (.int .i64 ((rd_T79 l0_0 x20_2).f1))).heap[gb103]? = some (.cells #[.int .i64 ((rd_T79 l0_0 x20_2).f0), .int .i64 ((rd_T79 l0_0 x20_2).f1)] 79 (0, 0))) := ⟨by (with_reducible repeat (first | refine kN ?_ _ | refine kD ?_ | refine kA ?_ _)); refine blk_put (cs := #[.int .i64 ((rd_T79 l0_0 x20_2).f0), .int .i64 0]) ?_ 1 _ rfl; (with_reducible repeat (first | refine kN ?_ _ | refine kD ?_ | refine kA ?_ _)); refine blk_put (cs := #[.int .i64 0, .int .i64 0]) ?_ 0 _ rfl; (with_reducible repeat (first | refine kN ?_ _ | refine kD ?_ | refine kA ?_ _)); exact BK103.out⟩); (have n2_ : Aside0 (Below w.heap.size w ((w21.setCell ⟨gb103, 0, none⟩ (.int .i64 ((rd_T79 l0_0 x20_2).f0))).setCell ⟨gb103, 1, none⟩ (.int .i64 ((rd_T79 l0_0 x20_2).f1)))) := ⟨by repeat (first | (with_reducible first | exact HB.out | apply bA | apply bN | apply bD | refine below_set ?_ GE101.out | refine below_set ?_ GE103.out) | exact HB.out)⟩); ((try clear BK101)); ((try clear BK103)); ((try clear HB)); (generalize ((w21.setCell ⟨gb103, 0, none⟩ (.int .i64 ((rd_T79 l0_0 x20_2).f0))).setCell ⟨gb103, 1, none⟩ (.int .i64 ((rd_T79 l0_0 x20_2).f1))) = w24 at n0_ n1_ n2_ ⊢); (have BK101 := n0_); (have BK103 := n1_); (have HB := n2_); clear n0_ n1_ n2_; (have n0_ := Aside0.mk (blk_drew BK101.out)); (have n1_ := Aside0.mk (blk_drew BK103.out)); (have n2_ := Aside0.mk (below_drew1 HB.out)); clear BK101 BK103 HB; (have BK101 := n0_); (have BK103 := n1_); (have HB := n2_); clear n0_ n1_ n2_; (have p106 : 0 ≤ ((ji17) : Int) := odt); (have q106 : (ji17) < (l0_0.length : Int) := odt); (obtain ⟨ad106, e106, hx106_0, hx106_1⟩ := at_T79 HR0_0.out (ji17) p106 q106); (have hw106_1 := hx106_1); (have hw106_0 := hx106_0); (obtain rfl : ad102 = ad106 := (by injection e106)); (replace hx106_0 := hcI HB hx106_0); (replace hx106_1 := hcI HB hx106_1); (replace p106 := eq_true p106); (replace q106 := eq_true q106)
               (refine start_ (n := 26) (S := fun w' => w'.cell? ⟨gb103, 0, none⟩ = some (.int .i64 ((rd_T79 l0_0 x20_2).f0)) ∧ w'.cell? ⟨gb103, 1, none⟩ = some (.int .i64 ((rd_T79 l0_0 x20_2).f1)) ∧ w'.cell? ⟨gb101, 0, none⟩ = some (.slice (some ad102) l0_0.length c0_0) ∧ w'.cell? ⟨gb101, 1, none⟩ = some (.slice A0_1 l0_1.length c0_1) ∧ w'.cell? (ad102.add (((ji17)).toNat * 2)) = some (.int .i64 ((rd_T79 l0_0 (ji17)).f0)) ∧ w'.cell? ⟨(ad102.add (((ji17)).toNat * 2)).block, (ad102.add (((ji17)).toNat * 2)).off + 1, none⟩ = some (.int .i64 ((rd_T79 l0_0 (ji17)).f1))) (ds := []) (cn 26 0) (by kernel_rfl) rfl (by kernel_rfl) ⟨(blk_cell BK103.out 0).trans rfl, (blk_cell BK103.out 1).trans rfl, (blk_cell BK101.out 0).trans rfl, (blk_cell BK101.out 1).trans rfl, ((HB.out.cell (bltc w _ hw106_0)).trans hw106_0), ((HB.out.cell (bltc w _ hw106_1)).trans hw106_1)⟩ (fun hHeld => ?_); refine with_tabW impl_IsValidRecord.tab6 impl_IsValidRecord.bits6 (fun HT_ HW_ => ?_)); (generalize w24.drew = w25 at BK101 BK103 HB hx106_0 hx106_1 hHeld ⊢); (refine pB 0 (cn 26 1) (some 25) HT_ (h := ?_)); (refine tB 1 (cn 26 2) (some 26) HT_ HW_ hHeld (h := ?_)); (refine one_ (i := 2) (N := some 27) (cn 26 3) rfl rfl (one_of HT_.out (by kernel_rfl)) (by decide) (fun K hK => ?_)); (refine goes_ Tryz.func39 (by kernel_rfl) rfl #[.int .i64 ((rd_T79 l0_0 x20_2).f0)] (by rfl) rfl rfl (by (try simp only [aM1, aM2, aM3]); first | done | rfl | (simp only [List.length_drop, List.length_take]; rfl)) ?_); (with_reducible refine (impl_isNumber.calls ((rd_T79 l0_0 x20_2).f0) true _ A12.out).mono ?_); (rintro e w' ⟨rfl, ⟨nd, rfl⟩⟩); (refine ⟨_, rfl, ?_⟩); (refine hK.out _ _ ⟨(blk_cell BK103.out 0).trans rfl, (blk_cell BK103.out 1).trans rfl, (blk_cell BK101.out 0).trans rfl, (blk_cell BK101.out 1).trans rfl, ((HB.out.cell (bltc w _ hw106_0)).trans hw106_0), ((HB.out.cell (bltc w _ hw106_1)).trans hw106_1)⟩ (fun hHeld => ?_)); clear hK K; (refine norm_ (a' := ?_) ?_ ?_); rotate_left; (· (show Act.put _ (some 27) _ = _); (simp only [Act.put, aS1, aS2, aS3, i64_w, i32_w]); rfl); (refine pB 3 (cn 26 4) (some 28) HT_ (h := ?_)); (refine pB 4 (cn 26 5) (some 29) HT_ (h := ?_)); (refine pB 5 (cn 26 6) (some 30) HT_ (h := ?_)); (refine tB 6 (cn 26 7) (some 31) HT_ HW_ hHeld (h := ?_)); (refine one_ (i := 7) (N := some 32) (cn 26 8) rfl rfl (one_of HT_.out (by kernel_rfl)) (by decide) (fun K hK => ?_)); (refine goes_ Tryz.func40 (by kernel_rfl) rfl #[.int .i64 ((rd_T79 l0_0 x20_2).f1)] (by rfl) rfl rfl (by (try simp only [aM1, aM2, aM3]); first | done | rfl | (simp only [List.length_drop, List.length_take]; rfl)) ?_); (with_reducible refine (impl_isKind.calls ((rd_T79 l0_0 x20_2).f1) true _ A14.out).mono ?_); (rintro e w' ⟨rfl, ⟨nd, rfl⟩⟩); (refine ⟨_, rfl, ?_⟩); (refine hK.out _ _ ⟨(blk_cell BK103.out 0).trans rfl, (blk_cell BK103.out 1).trans rfl, (blk_cell BK101.out 0).trans rfl, (blk_cell BK101.out 1).trans rfl, ((HB.out.cell (bltc w _ hw106_0)).trans hw106_0), ((HB.out.cell (bltc w _ hw106_1)).trans hw106_1)⟩ (fun hHeld => ?_)); clear hK K; (refine norm_ (a' := ?_) ?_ ?_); rotate_left; (· (show Act.put _ (some 32) _ = _); (simp only [Act.put, aS1, aS2, aS3, i64_w, i32_w]); rfl); (refine pB 8 (cn 26 9) (some 33) HT_ (h := ?_)); (refine pB 9 (cn 26 10) (some 34) HT_ (h := ?_)); (refine pA 10 (cn 26 11) (some 35) HT_ (v := ?_) (a' := ?_) rfl rfl (by kernel_rfl) (fun _ _ _ h => h) (Or.inl ⟨by rfl, ?_⟩) ?_ ?_); rotate_left; (· intro w'; go_simp; with_reducible rfl); rotate_left
               (· (simp only [Act.put, aS1, aS2, aS3, i64_w, i32_w]); rfl); (refine pB 11 (cn 26 12) (some 36) HT_ (h := ?_)); (refine pB 12 (cn 26 13) (some 37) HT_ (h := ?_)); (refine pB 13 (cn 26 14) (some 38) HT_ (h := ?_)); (refine pB 14 (cn 26 15) (some 39) HT_ (h := ?_)); (refine pB 16 (cb 26 98303) (some 41) HT_ (h := ?_)); (refine pB 18 (cb 26 360447) (some 43) HT_ (h := ?_)); (refine pB 19 (cb 26 884735) (some 44) HT_ (h := ?_)); (refine tB 15 (cb 26 917503) (some 40) HT_ HW_ hHeld (h := ?_)); (refine tB 17 (cn 26 20) (some 42) HT_ HW_ hHeld (h := ?_)); (refine pB 20 (cn 26 21) (some 45) HT_ (h := ?_)); (refine pB 21 (cn 26 22) (some 46) HT_ (h := ?_)); (refine tB 22 (cn 26 23) (some 47) HT_ HW_ hHeld (h := ?_)); (refine pB 23 (cn 26 24) (some 48) HT_ (h := ?_)); (refine pB 24 (cn 26 25) (some 49) HT_ (h := ?_)); (refine pB 25 (cn 26 26) (some 50) HT_ (h := ?_)); (refine done_ (done_of HT_.out (by kernel_rfl)) ?_); (try go_wp2); go_ret; (exact ⟨by first | rfl | (simp [errW_none, errW_some] <;> rfl) | (simp only [← hji17]; first | rfl | (simp [errW_none, errW_some] <;> rfl)) | (simp [*, errW_none, errW_some] <;> rfl), eI HB⟩)
              ·rw [if_neg c20] at H
               (have c20b0 := decide_eq_false c20); clear c20; (have H' := Aside0.mk H); clear H; (have p102 : 0 ≤ (x20_2 : Int) := odt); (have q102 : x20_2 < (l0_0.length : Int) := odt); (obtain ⟨ad102, e102, hx102_0, hx102_1⟩ := at_T79 HR0_0.out x20_2 p102 q102); (cases e102); (replace hx102_0 := hcI HB hx102_0); (replace hx102_1 := hcI HB hx102_1); (replace p102 := eq_true p102); (replace q102 := eq_true q102); (try go_wp2_with (first | ((with_reducible refine gate_dst (N := 4) rfl ?_); refine box_event ?hg (N := 4) ?hd (cs := #[.int .i64 0, .int .i64 0]) (t := 79) ?hr ?_; (case hd => rfl); (case hg => rfl); (case hr => first | (go_simp; done) | (go_simp; rfl)); intro gb103 hg w26 hbox hb; have n0_ := Aside0.mk (kbI hb BK101); have hB_ := zI hb HB; have n1_ := Aside0.mk (below_step hB_ hb); have n2_ := Aside0.mk (hbox); have n3_ := Aside0.mk (bx0 hg hB_); have n4_ := n3_; have n5_ := Aside0.mk ((by rw [hg]; exact Nat.ne_of_lt (blk_lt (kI BK101)) : gb101 ≠ gb103)); have n6_ := Aside0.mk (Ne.symm n5_.out); clear BK101 HB; have BK101 := n0_; have HB := n1_; have BK103 := n2_; have GW103 := n3_; have GE103 := n4_; have NB101_103 := n5_; have NB103_101 := n6_; clear n0_ n1_ n2_ n3_ n4_ n5_ n6_ hB_ hb hbox hg; have hnb27 := NB103_101.out; have hnc27 := NB101_103.out; have hcz28_0 := cz BK103.out 0; have hcz28_1 := cz BK103.out 1; have hfz28_0 := blk_frozen BK103.out 0; have hfz28_1 := blk_frozen BK103.out 1))); (have n0_ : Aside0 (((w26.setCell ⟨gb103, 0, none⟩ (.int .i64 ((rd_T79 l0_0 x20_2).f0))).setCell ⟨gb103, 1, none⟩ (.int .i64 ((rd_T79 l0_0 x20_2).f1))).heap[gb101]? = some (.cells #[.slice (some ad102) l0_0.length c0_0, .slice A0_1 l0_1.length c0_1] 36 (0, 0))) := ⟨by (with_reducible repeat (first | refine kN ?_ _ | refine kD ?_ | refine kA ?_ _)); refine blk_far ?_ NB101_103.out _; (with_reducible repeat (first | refine kN ?_ _ | refine kD ?_ | refine kA ?_ _)); refine blk_far ?_ NB101_103.out _; (with_reducible repeat (first | refine kN ?_ _ | refine kD ?_ | refine kA ?_ _)); exact BK101.out⟩); (have n1_ : Aside0 (((w26.setCell ⟨gb103, 0, none⟩ (.int .i64 ((rd_T79 l0_0 x20_2).f0))).setCell ⟨gb103, 1, none⟩ (.int .i64 ((rd_T79 l0_0 x20_2).f1))).heap[gb103]? = some (.cells #[.int .i64 ((rd_T79 l0_0 x20_2).f0), .int .i64 ((rd_T79 l0_0 x20_2).f1)] 79 (0, 0))) := ⟨by (with_reducible repeat (first | refine kN ?_ _ | refine kD ?_ | refine kA ?_ _)); refine blk_put (cs := #[.int .i64 ((rd_T79 l0_0 x20_2).f0), .int .i64 0]) ?_ 1 _ rfl; (with_reducible repeat (first | refine kN ?_ _ | refine kD ?_ | refine kA ?_ _)); refine blk_put (cs := #[.int .i64 0, .int .i64 0]) ?_ 0 _ rfl; (with_reducible repeat (first | refine kN ?_ _ | refine kD ?_ | refine kA ?_ _)); exact BK103.out⟩); (have n2_ : Aside0 (Below w.heap.size w ((w26.setCell ⟨gb103, 0, none⟩ (.int .i64 ((rd_T79 l0_0 x20_2).f0))).setCell ⟨gb103, 1, none⟩ (.int .i64 ((rd_T79 l0_0 x20_2).f1)))) := ⟨by repeat (first | (with_reducible first | exact HB.out | apply bA | apply bN | apply bD | refine below_set ?_ GE101.out | refine below_set ?_ GE103.out) | exact HB.out)⟩); ((try clear BK101)); ((try clear BK103)); ((try clear HB)); (generalize ((w26.setCell ⟨gb103, 0, none⟩ (.int .i64 ((rd_T79 l0_0 x20_2).f0))).setCell ⟨gb103, 1, none⟩ (.int .i64 ((rd_T79 l0_0 x20_2).f1))) = w29 at n0_ n1_ n2_ ⊢); (have BK101 := n0_); (have BK103 := n1_); (have HB := n2_); clear n0_ n1_ n2_; (have n0_ := Aside0.mk (blk_drew BK101.out)); (have n1_ := Aside0.mk (blk_drew BK103.out)); (have n2_ := Aside0.mk (below_drew1 HB.out)); clear BK101 BK103 HB; (have BK101 := n0_); (have BK103 := n1_); (have HB := n2_); clear n0_ n1_ n2_; (have p106 : 0 ≤ ((ji17) : Int) := odt); (have q106 : (ji17) < (l0_0.length : Int) := odt); (obtain ⟨ad106, e106, hx106_0, hx106_1⟩ := at_T79 HR0_0.out (ji17) p106 q106); (have hw106_1 := hx106_1); (have hw106_0 := hx106_0); (obtain rfl : ad102 = ad106 := (by injection e106)); (replace hx106_0 := hcI HB hx106_0); (replace hx106_1 := hcI HB hx106_1); (replace p106 := eq_true p106); (replace q106 := eq_true q106)
               (refine start_ (n := 26) (S := fun w' => w'.cell? ⟨gb103, 0, none⟩ = some (.int .i64 ((rd_T79 l0_0 x20_2).f0)) ∧ w'.cell? ⟨gb103, 1, none⟩ = some (.int .i64 ((rd_T79 l0_0 x20_2).f1)) ∧ w'.cell? ⟨gb101, 0, none⟩ = some (.slice (some ad102) l0_0.length c0_0) ∧ w'.cell? ⟨gb101, 1, none⟩ = some (.slice A0_1 l0_1.length c0_1) ∧ w'.cell? (ad102.add (((ji17)).toNat * 2)) = some (.int .i64 ((rd_T79 l0_0 (ji17)).f0)) ∧ w'.cell? ⟨(ad102.add (((ji17)).toNat * 2)).block, (ad102.add (((ji17)).toNat * 2)).off + 1, none⟩ = some (.int .i64 ((rd_T79 l0_0 (ji17)).f1))) (ds := []) (cn 26 0) (by kernel_rfl) rfl (by kernel_rfl) ⟨(blk_cell BK103.out 0).trans rfl, (blk_cell BK103.out 1).trans rfl, (blk_cell BK101.out 0).trans rfl, (blk_cell BK101.out 1).trans rfl, ((HB.out.cell (bltc w _ hw106_0)).trans hw106_0), ((HB.out.cell (bltc w _ hw106_1)).trans hw106_1)⟩ (fun hHeld => ?_); refine with_tabW impl_IsValidRecord.tab6 impl_IsValidRecord.bits6 (fun HT_ HW_ => ?_)); (generalize w29.drew = w30 at BK101 BK103 HB hx106_0 hx106_1 hHeld ⊢); (refine pB 0 (cn 26 1) (some 25) HT_ (h := ?_)); (refine tB 1 (cn 26 2) (some 26) HT_ HW_ hHeld (h := ?_)); (refine one_ (i := 2) (N := some 27) (cn 26 3) rfl rfl (one_of HT_.out (by kernel_rfl)) (by decide) (fun K hK => ?_)); (refine goes_ Tryz.func39 (by kernel_rfl) rfl #[.int .i64 ((rd_T79 l0_0 x20_2).f0)] (by rfl) rfl rfl (by (try simp only [aM1, aM2, aM3]); first | done | rfl | (simp only [List.length_drop, List.length_take]; rfl)) ?_); (with_reducible refine (impl_isNumber.calls ((rd_T79 l0_0 x20_2).f0) true _ A12.out).mono ?_); (rintro e w' ⟨rfl, ⟨nd, rfl⟩⟩); (refine ⟨_, rfl, ?_⟩); (refine hK.out _ _ ⟨(blk_cell BK103.out 0).trans rfl, (blk_cell BK103.out 1).trans rfl, (blk_cell BK101.out 0).trans rfl, (blk_cell BK101.out 1).trans rfl, ((HB.out.cell (bltc w _ hw106_0)).trans hw106_0), ((HB.out.cell (bltc w _ hw106_1)).trans hw106_1)⟩ (fun hHeld => ?_)); clear hK K; (refine norm_ (a' := ?_) ?_ ?_); rotate_left; (· (show Act.put _ (some 27) _ = _); (simp only [Act.put, aS1, aS2, aS3, i64_w, i32_w]); rfl); (refine pB 3 (cn 26 4) (some 28) HT_ (h := ?_)); (refine pB 4 (cn 26 5) (some 29) HT_ (h := ?_)); (refine pB 5 (cn 26 6) (some 30) HT_ (h := ?_)); (refine tB 6 (cn 26 7) (some 31) HT_ HW_ hHeld (h := ?_)); (refine one_ (i := 7) (N := some 32) (cn 26 8) rfl rfl (one_of HT_.out (by kernel_rfl)) (by decide) (fun K hK => ?_)); (refine goes_ Tryz.func40 (by kernel_rfl) rfl #[.int .i64 ((rd_T79 l0_0 x20_2).f1)] (by rfl) rfl rfl (by (try simp only [aM1, aM2, aM3]); first | done | rfl | (simp only [List.length_drop, List.length_take]; rfl)) ?_); (with_reducible refine (impl_isKind.calls ((rd_T79 l0_0 x20_2).f1) true _ A14.out).mono ?_); (rintro e w' ⟨rfl, ⟨nd, rfl⟩⟩); (refine ⟨_, rfl, ?_⟩); (refine hK.out _ _ ⟨(blk_cell BK103.out 0).trans rfl, (blk_cell BK103.out 1).trans rfl, (blk_cell BK101.out 0).trans rfl, (blk_cell BK101.out 1).trans rfl, ((HB.out.cell (bltc w _ hw106_0)).trans hw106_0), ((HB.out.cell (bltc w _ hw106_1)).trans hw106_1)⟩ (fun hHeld => ?_)); clear hK K; (refine norm_ (a' := ?_) ?_ ?_); rotate_left; (· (show Act.put _ (some 32) _ = _); (simp only [Act.put, aS1, aS2, aS3, i64_w, i32_w]); rfl); (refine pB 8 (cn 26 9) (some 33) HT_ (h := ?_)); (refine pB 9 (cn 26 10) (some 34) HT_ (h := ?_)); (refine pA 10 (cn 26 11) (some 35) HT_ (v := ?_) (a' := ?_) rfl rfl (by kernel_rfl) (fun _ _ _ h => h) (Or.inl ⟨by rfl, ?_⟩) ?_ ?_); rotate_left; (· intro w'; go_simp; with_reducible rfl); rotate_left
               (· (simp only [Act.put, aS1, aS2, aS3, i64_w, i32_w]); rfl); (refine pB 11 (cn 26 12) (some 36) HT_ (h := ?_)); (refine pB 12 (cn 26 13) (some 37) HT_ (h := ?_)); (refine pB 13 (cn 26 14) (some 38) HT_ (h := ?_)); (refine pB 14 (cn 26 15) (some 39) HT_ (h := ?_)); (refine pB 16 (cb 26 98303) (some 41) HT_ (h := ?_)); (refine pB 18 (cb 26 360447) (some 43) HT_ (h := ?_)); (refine pB 19 (cb 26 884735) (some 44) HT_ (h := ?_)); (refine tB 15 (cb 26 917503) (some 40) HT_ HW_ hHeld (h := ?_)); (refine tB 17 (cn 26 20) (some 42) HT_ HW_ hHeld (h := ?_)); (refine pB 20 (cn 26 21) (some 45) HT_ (h := ?_)); (refine pB 21 (cn 26 22) (some 46) HT_ (h := ?_)); (refine tB 22 (cn 26 23) (some 47) HT_ HW_ hHeld (h := ?_)); (refine pB 23 (cn 26 24) (some 48) HT_ (h := ?_)); (refine pB 24 (cn 26 25) (some 49) HT_ (h := ?_)); (refine pB 25 (cn 26 26) (some 50) HT_ (h := ?_)); (refine done_ (done_of HT_.out (by kernel_rfl)) ?_); (try go_wp2); go_roundg k2
               case measure => have := HJ1.out; have := HK2.out; omega
               case rel => exact ⟨(wrap64 (x20_2 + 1)), (by first | rfl | (simp; done) | (simp [*]; done)), H', ⟨by have := HJ1.out; have := HK2.out; omega⟩, ⟨kI BK101⟩, ⟨eI HB⟩⟩
             ·rw [if_neg c19] at H
              exact absurd H (by simp)
            ·rw [if_neg c18] at H
             exact absurd H (by simp)
           ·rw [if_neg c16] at H
            (have c16b0 : decide (0 < x20_2) = false := decide_eq_false c16); clear c16; (have H' := Aside0.mk H); clear H; (have p102 : 0 ≤ (x20_2 : Int) := odt); (have q102 : x20_2 < (l0_0.length : Int) := odt); (obtain ⟨ad102, e102, hx102_0, hx102_1⟩ := at_T79 HR0_0.out x20_2 p102 q102); (cases e102); (replace hx102_0 := hcI HB hx102_0); (replace hx102_1 := hcI HB hx102_1); (replace p102 := eq_true p102); (replace q102 := eq_true q102); (try go_wp2_with (first | ((with_reducible refine gate_dst (N := 4) rfl ?_); refine box_event ?hg (N := 4) ?hd (cs := #[.int .i64 0, .int .i64 0]) (t := 79) ?hr ?_; (case hd => rfl); (case hg => rfl); (case hr => first | (go_simp; done) | (go_simp; rfl)); intro gb103 hg w31 hbox hb; have n0_ := Aside0.mk (kbI hb BK101); have hB_ := zI hb HB; have n1_ := Aside0.mk (below_step hB_ hb); have n2_ := Aside0.mk (hbox); have n3_ := Aside0.mk (bx0 hg hB_); have n4_ := n3_; have n5_ := Aside0.mk ((by rw [hg]; exact Nat.ne_of_lt (blk_lt (kI BK101)) : gb101 ≠ gb103)); have n6_ := Aside0.mk (Ne.symm n5_.out); clear BK101 HB; have BK101 := n0_; have HB := n1_; have BK103 := n2_; have GW103 := n3_; have GE103 := n4_; have NB101_103 := n5_; have NB103_101 := n6_; clear n0_ n1_ n2_ n3_ n4_ n5_ n6_ hB_ hb hbox hg; have hnb32 := NB103_101.out; have hnc32 := NB101_103.out; have hcz33_0 := cz BK103.out 0; have hcz33_1 := cz BK103.out 1; have hfz33_0 := blk_frozen BK103.out 0; have hfz33_1 := blk_frozen BK103.out 1))); (have n0_ : Aside0 (((w31.setCell ⟨gb103, 0, none⟩ (.int .i64 ((rd_T79 l0_0 x20_2).f0))).setCell ⟨gb103, 1, none⟩ (.int .i64 ((rd_T79 l0_0 x20_2).f1))).heap[gb101]? = some (.cells #[.slice (some ad102) l0_0.length c0_0, .slice A0_1 l0_1.length c0_1] 36 (0, 0))) := ⟨by (with_reducible repeat (first | refine kN ?_ _ | refine kD ?_ | refine kA ?_ _)); refine blk_far ?_ NB101_103.out _; (with_reducible repeat (first | refine kN ?_ _ | refine kD ?_ | refine kA ?_ _)); refine blk_far ?_ NB101_103.out _; (with_reducible repeat (first | refine kN ?_ _ | refine kD ?_ | refine kA ?_ _)); exact BK101.out⟩); (have n1_ : Aside0 (((w31.setCell ⟨gb103, 0, none⟩ (.int .i64 ((rd_T79 l0_0 x20_2).f0))).setCell ⟨gb103, 1, none⟩ (.int .i64 ((rd_T79 l0_0 x20_2).f1))).heap[gb103]? = some (.cells #[.int .i64 ((rd_T79 l0_0 x20_2).f0), .int .i64 ((rd_T79 l0_0 x20_2).f1)] 79 (0, 0))) := ⟨by (with_reducible repeat (first | refine kN ?_ _ | refine kD ?_ | refine kA ?_ _)); refine blk_put (cs := #[.int .i64 ((rd_T79 l0_0 x20_2).f0), .int .i64 0]) ?_ 1 _ rfl; (with_reducible repeat (first | refine kN ?_ _ | refine kD ?_ | refine kA ?_ _)); refine blk_put (cs := #[.int .i64 0, .int .i64 0]) ?_ 0 _ rfl; (with_reducible repeat (first | refine kN ?_ _ | refine kD ?_ | refine kA ?_ _)); exact BK103.out⟩); (have n2_ : Aside0 (Below w.heap.size w ((w31.setCell ⟨gb103, 0, none⟩ (.int .i64 ((rd_T79 l0_0 x20_2).f0))).setCell ⟨gb103, 1, none⟩ (.int .i64 ((rd_T79 l0_0 x20_2).f1)))) := ⟨by repeat (first | (with_reducible first | exact HB.out | apply bA | apply bN | apply bD | refine below_set ?_ GE101.out | refine below_set ?_ GE103.out) | exact HB.out)⟩); ((try clear BK101)); ((try clear BK103)); ((try clear HB)); (generalize ((w31.setCell ⟨gb103, 0, none⟩ (.int .i64 ((rd_T79 l0_0 x20_2).f0))).setCell ⟨gb103, 1, none⟩ (.int .i64 ((rd_T79 l0_0 x20_2).f1))) = w34 at n0_ n1_ n2_ ⊢); (have BK101 := n0_); (have BK103 := n1_); (have HB := n2_); clear n0_ n1_ n2_; (have n0_ := Aside0.mk (blk_drew BK101.out)); (have n1_ := Aside0.mk (blk_drew BK103.out)); (have n2_ := Aside0.mk (below_drew1 HB.out)); clear BK101 BK103 HB; (have BK101 := n0_); (have BK103 := n1_); (have HB := n2_); clear n0_ n1_ n2_; (refine start_ (n := 26) (S := fun w' => w'.cell? ⟨gb103, 0, none⟩ = some (.int .i64 ((rd_T79 l0_0 x20_2).f0)) ∧ w'.cell? ⟨gb103, 1, none⟩ = some (.int .i64 ((rd_T79 l0_0 x20_2).f1))) (ds := []) (cn 26 0) (by kernel_rfl) rfl (by kernel_rfl) ⟨cz BK103.out 0, cz BK103.out 1⟩ (fun hHeld => ?_); refine with_tabW impl_IsValidRecord.tab6 impl_IsValidRecord.bits6 (fun HT_ HW_ => ?_)); (generalize w34.drew = w35 at BK101 BK103 HB hHeld ⊢); (refine pB 0 (cn 26 1) (some 25) HT_ (h := ?_)); (refine tB 1 (cn 26 2) (some 26) HT_ HW_ hHeld (h := ?_)); (refine oN 2 (some 27) (cn 26 3) HT_ (fun K hK => ?_)); (refine gG Tryz.func39 #[.int .i64 ((rd_T79 l0_0 x20_2).f0)] ?_)
            (with_reducible refine (impl_isNumber.calls ((rd_T79 l0_0 x20_2).f0) true _ A12.out).mono ?_); (rintro e w' ⟨rfl, ⟨nd, rfl⟩⟩); (refine ⟨_, rfl, ?_⟩); (refine hK.out _ _ ⟨cz BK103.out 0, cz BK103.out 1⟩ (fun hHeld => ?_)); clear hK K; (refine nP (some 27) (h := ?_)); (refine pB 3 (cn 26 4) (some 28) HT_ (h := ?_)); (refine pB 4 (cn 26 5) (some 29) HT_ (h := ?_)); (refine pB 5 (cn 26 6) (some 30) HT_ (h := ?_)); (refine tB 6 (cn 26 7) (some 31) HT_ HW_ hHeld (h := ?_)); (refine oN 7 (some 32) (cn 26 8) HT_ (fun K hK => ?_)); (refine gG Tryz.func40 #[.int .i64 ((rd_T79 l0_0 x20_2).f1)] ?_); (with_reducible refine (impl_isKind.calls ((rd_T79 l0_0 x20_2).f1) true _ A14.out).mono ?_); (rintro e w' ⟨rfl, ⟨nd, rfl⟩⟩); (refine ⟨_, rfl, ?_⟩); (refine hK.out _ _ ⟨cz BK103.out 0, cz BK103.out 1⟩ (fun hHeld => ?_)); clear hK K; (refine nP (some 32) (h := ?_)); (refine pB 8 (cn 26 9) (some 33) HT_ (h := ?_)); (refine pB 9 (cn 26 10) (some 34) HT_ (h := ?_)); (refine pB 10 (cn 26 11) (some 35) HT_ (h := ?_)); (refine pB 11 (cn 26 12) (some 36) HT_ (h := ?_)); (refine pB 12 (cn 26 13) (some 37) HT_ (h := ?_)); (refine pB 13 (cn 26 14) (some 38) HT_ (h := ?_)); (refine pU 14 (cn 26 15) (some 39) HT_ (h := ?_)); (refine pU 15 (cn 26 16) (some 40) HT_ (h := ?_)); (refine pU 16 (cn 26 17) (some 41) HT_ (h := ?_)); (refine pU 17 (cn 26 18) (some 42) HT_ (h := ?_)); (refine pU 18 (cn 26 19) (some 43) HT_ (h := ?_)); (refine pA 19 (cn 26 20) (some 44) HT_ (v := undef) (a' := ?_) rfl rfl (by kernel_rfl) (fun _ _ _ h => h) (Or.inr ⟨by rfl, rfl⟩) ?_ ?_); rotate_left
            (· (simp only [Act.put, aS1, aS2, aS3, i64_w, i32_w]); rfl); (refine pU 20 (cn 26 21) (some 45) HT_ (h := ?_)); (refine pU 21 (cn 26 22) (some 46) HT_ (h := ?_)); (refine pU 22 (cn 26 23) (some 47) HT_ (h := ?_)); (refine pU 23 (cn 26 24) (some 48) HT_ (h := ?_)); (refine pB 24 (cn 26 25) (some 49) HT_ (h := ?_)); (refine pB 25 (cn 26 26) (some 50) HT_ (h := ?_)); (refine done_ (done_of HT_.out (by kernel_rfl)) ?_); (try go_wp2); go_roundg k2
            case measure => have := HJ1.out; have := HK2.out; omega
            case rel => exact ⟨(wrap64 (x20_2 + 1)), (by first | rfl | (simp; done) | (simp [*]; done)), H', ⟨by have := HJ1.out; have := HK2.out; omega⟩, ⟨kI BK101⟩, ⟨eI HB⟩⟩
          ·replace c15 := Bool.eq_false_iff.mpr c15
           subst c15; (rw [if_neg (show ¬ (false = true) by decide)] at H); (obtain rfl := Option.some.inj H); (have p102 : 0 ≤ (x20_2 : Int) := odt); (have q102 : x20_2 < (l0_0.length : Int) := odt); (obtain ⟨ad102, e102, hx102_0, hx102_1⟩ := at_T79 HR0_0.out x20_2 p102 q102); (cases e102); (replace hx102_0 := hcI HB hx102_0); (replace hx102_1 := hcI HB hx102_1); (replace p102 := eq_true p102); (replace q102 := eq_true q102); (try go_wp2_with (first | ((with_reducible refine gate_dst (N := 4) rfl ?_); refine box_event ?hg (N := 4) ?hd (cs := #[.int .i64 0, .int .i64 0]) (t := 79) ?hr ?_; (case hd => rfl); (case hg => rfl); (case hr => first | (go_simp; done) | (go_simp; rfl)); intro gb103 hg w36 hbox hb; have n0_ := Aside0.mk (kbI hb BK101); have hB_ := zI hb HB; have n1_ := Aside0.mk (below_step hB_ hb); have n2_ := Aside0.mk (hbox); have n3_ := Aside0.mk (bx0 hg hB_); have n4_ := n3_; have n5_ := Aside0.mk ((by rw [hg]; exact Nat.ne_of_lt (blk_lt (kI BK101)) : gb101 ≠ gb103)); have n6_ := Aside0.mk (Ne.symm n5_.out); clear BK101 HB; have BK101 := n0_; have HB := n1_; have BK103 := n2_; have GW103 := n3_; have GE103 := n4_; have NB101_103 := n5_; have NB103_101 := n6_; clear n0_ n1_ n2_ n3_ n4_ n5_ n6_ hB_ hb hbox hg; have hnb37 := NB103_101.out; have hnc37 := NB101_103.out; have hcz38_0 := cz BK103.out 0; have hcz38_1 := cz BK103.out 1; have hfz38_0 := blk_frozen BK103.out 0; have hfz38_1 := blk_frozen BK103.out 1))); (have n0_ : Aside0 (((w36.setCell ⟨gb103, 0, none⟩ (.int .i64 ((rd_T79 l0_0 x20_2).f0))).setCell ⟨gb103, 1, none⟩ (.int .i64 ((rd_T79 l0_0 x20_2).f1))).heap[gb101]? = some (.cells #[.slice (some ad102) l0_0.length c0_0, .slice A0_1 l0_1.length c0_1] 36 (0, 0))) := ⟨by (with_reducible repeat (first | refine kN ?_ _ | refine kD ?_ | refine kA ?_ _)); refine blk_far ?_ NB101_103.out _; (with_reducible repeat (first | refine kN ?_ _ | refine kD ?_ | refine kA ?_ _)); refine blk_far ?_ NB101_103.out _; (with_reducible repeat (first | refine kN ?_ _ | refine kD ?_ | refine kA ?_ _)); exact BK101.out⟩); (have n1_ : Aside0 (((w36.setCell ⟨gb103, 0, none⟩ (.int .i64 ((rd_T79 l0_0 x20_2).f0))).setCell ⟨gb103, 1, none⟩ (.int .i64 ((rd_T79 l0_0 x20_2).f1))).heap[gb103]? = some (.cells #[.int .i64 ((rd_T79 l0_0 x20_2).f0), .int .i64 ((rd_T79 l0_0 x20_2).f1)] 79 (0, 0))) := ⟨by (with_reducible repeat (first | refine kN ?_ _ | refine kD ?_ | refine kA ?_ _)); refine blk_put (cs := #[.int .i64 ((rd_T79 l0_0 x20_2).f0), .int .i64 0]) ?_ 1 _ rfl; (with_reducible repeat (first | refine kN ?_ _ | refine kD ?_ | refine kA ?_ _)); refine blk_put (cs := #[.int .i64 0, .int .i64 0]) ?_ 0 _ rfl; (with_reducible repeat (first | refine kN ?_ _ | refine kD ?_ | refine kA ?_ _)); exact BK103.out⟩); (have n2_ : Aside0 (Below w.heap.size w ((w36.setCell ⟨gb103, 0, none⟩ (.int .i64 ((rd_T79 l0_0 x20_2).f0))).setCell ⟨gb103, 1, none⟩ (.int .i64 ((rd_T79 l0_0 x20_2).f1)))) := ⟨by repeat (first | (with_reducible first | exact HB.out | apply bA | apply bN | apply bD | refine below_set ?_ GE101.out | refine below_set ?_ GE103.out) | exact HB.out)⟩); ((try clear BK101)); ((try clear BK103)); ((try clear HB)); (generalize ((w36.setCell ⟨gb103, 0, none⟩ (.int .i64 ((rd_T79 l0_0 x20_2).f0))).setCell ⟨gb103, 1, none⟩ (.int .i64 ((rd_T79 l0_0 x20_2).f1))) = w39 at n0_ n1_ n2_ ⊢); (have BK101 := n0_); (have BK103 := n1_); (have HB := n2_); clear n0_ n1_ n2_; (have n0_ := Aside0.mk (blk_drew BK101.out)); (have n1_ := Aside0.mk (blk_drew BK103.out)); (have n2_ := Aside0.mk (below_drew1 HB.out)); clear BK101 BK103 HB; (have BK101 := n0_); (have BK103 := n1_); (have HB := n2_); clear n0_ n1_ n2_; (refine start_ (n := 26) (S := fun w' => w'.cell? ⟨gb103, 0, none⟩ = some (.int .i64 ((rd_T79 l0_0 x20_2).f0)) ∧ w'.cell? ⟨gb103, 1, none⟩ = some (.int .i64 ((rd_T79 l0_0 x20_2).f1))) (ds := []) (cn 26 0) (by kernel_rfl) rfl (by kernel_rfl) ⟨cz BK103.out 0, cz BK103.out 1⟩ (fun hHeld => ?_); refine with_tabW impl_IsValidRecord.tab6 impl_IsValidRecord.bits6 (fun HT_ HW_ => ?_)); (generalize w39.drew = w40 at BK101 BK103 HB hHeld ⊢); (refine pB 0 (cn 26 1) (some 25) HT_ (h := ?_)); (refine tB 1 (cn 26 2) (some 26) HT_ HW_ hHeld (h := ?_)); (refine oN 2 (some 27) (cn 26 3) HT_ (fun K hK => ?_)); (refine gG Tryz.func39 #[.int .i64 ((rd_T79 l0_0 x20_2).f0)] ?_)
           (with_reducible refine (impl_isNumber.calls ((rd_T79 l0_0 x20_2).f0) true _ A12.out).mono ?_); (rintro e w' ⟨rfl, ⟨nd, rfl⟩⟩); (refine ⟨_, rfl, ?_⟩); (refine hK.out _ _ ⟨cz BK103.out 0, cz BK103.out 1⟩ (fun hHeld => ?_)); clear hK K; (refine nP (some 27) (h := ?_)); (refine pB 3 (cn 26 4) (some 28) HT_ (h := ?_)); (refine pB 4 (cn 26 5) (some 29) HT_ (h := ?_)); (refine pB 5 (cn 26 6) (some 30) HT_ (h := ?_)); (refine tB 6 (cn 26 7) (some 31) HT_ HW_ hHeld (h := ?_)); (refine oN 7 (some 32) (cn 26 8) HT_ (fun K hK => ?_)); (refine gG Tryz.func40 #[.int .i64 ((rd_T79 l0_0 x20_2).f1)] ?_); (with_reducible refine (impl_isKind.calls ((rd_T79 l0_0 x20_2).f1) false _ A14.out).mono ?_); (rintro e w' ⟨rfl, ⟨nd, rfl⟩⟩); (refine ⟨_, rfl, ?_⟩); (refine hK.out _ _ ⟨cz BK103.out 0, cz BK103.out 1⟩ (fun hHeld => ?_)); clear hK K; (refine nP (some 32) (h := ?_)); (refine pB 8 (cn 26 9) (some 33) HT_ (h := ?_)); (refine pB 9 (cn 26 10) (some 34) HT_ (h := ?_)); (refine pB 10 (cn 26 11) (some 35) HT_ (h := ?_)); (refine pU 11 (cn 26 12) (some 36) HT_ (h := ?_)); (refine pU 12 (cn 26 13) (some 37) HT_ (h := ?_)); (refine pU 13 (cn 26 14) (some 38) HT_ (h := ?_)); (refine pU 14 (cn 26 15) (some 39) HT_ (h := ?_)); (refine pU 15 (cn 26 16) (some 40) HT_ (h := ?_)); (refine pU 16 (cn 26 17) (some 41) HT_ (h := ?_)); (refine pU 17 (cn 26 18) (some 42) HT_ (h := ?_)); (refine pU 18 (cn 26 19) (some 43) HT_ (h := ?_)); (refine pU 19 (cn 26 20) (some 44) HT_ (h := ?_))
           (refine pU 20 (cn 26 21) (some 45) HT_ (h := ?_)); (refine pU 21 (cn 26 22) (some 46) HT_ (h := ?_)); (refine pU 22 (cn 26 23) (some 47) HT_ (h := ?_)); (refine pU 23 (cn 26 24) (some 48) HT_ (h := ?_)); (refine pU 24 (cn 26 25) (some 49) HT_ (h := ?_)); (refine pB 25 (cn 26 26) (some 50) HT_ (h := ?_)); (refine done_ (done_of HT_.out (by kernel_rfl)) ?_); (try go_wp2); go_ret; (exact ⟨rfl, eI HB⟩)
         ·replace c13 := Bool.eq_false_iff.mpr c13
          subst c13; (rw [if_neg (show ¬ (false = true) by decide)] at H); (obtain rfl := Option.some.inj H); (have p102 : 0 ≤ (x20_2 : Int) := odt); (have q102 : x20_2 < (l0_0.length : Int) := odt); (obtain ⟨ad102, e102, hx102_0, hx102_1⟩ := at_T79 HR0_0.out x20_2 p102 q102); (cases e102); (replace hx102_0 := hcI HB hx102_0); (replace hx102_1 := hcI HB hx102_1); (replace p102 := eq_true p102); (replace q102 := eq_true q102); (try go_wp2_with (first | ((with_reducible refine gate_dst (N := 4) rfl ?_); refine box_event ?hg (N := 4) ?hd (cs := #[.int .i64 0, .int .i64 0]) (t := 79) ?hr ?_; (case hd => rfl); (case hg => rfl); (case hr => first | (go_simp; done) | (go_simp; rfl)); intro gb103 hg w41 hbox hb; have n0_ := Aside0.mk (kbI hb BK101); have hB_ := zI hb HB; have n1_ := Aside0.mk (below_step hB_ hb); have n2_ := Aside0.mk (hbox); have n3_ := Aside0.mk (bx0 hg hB_); have n4_ := n3_; have n5_ := Aside0.mk ((by rw [hg]; exact Nat.ne_of_lt (blk_lt (kI BK101)) : gb101 ≠ gb103)); have n6_ := Aside0.mk (Ne.symm n5_.out); clear BK101 HB; have BK101 := n0_; have HB := n1_; have BK103 := n2_; have GW103 := n3_; have GE103 := n4_; have NB101_103 := n5_; have NB103_101 := n6_; clear n0_ n1_ n2_ n3_ n4_ n5_ n6_ hB_ hb hbox hg; have hnb42 := NB103_101.out; have hnc42 := NB101_103.out; have hcz43_0 := cz BK103.out 0; have hcz43_1 := cz BK103.out 1; have hfz43_0 := blk_frozen BK103.out 0; have hfz43_1 := blk_frozen BK103.out 1))); (have n0_ : Aside0 (((w41.setCell ⟨gb103, 0, none⟩ (.int .i64 ((rd_T79 l0_0 x20_2).f0))).setCell ⟨gb103, 1, none⟩ (.int .i64 ((rd_T79 l0_0 x20_2).f1))).heap[gb101]? = some (.cells #[.slice (some ad102) l0_0.length c0_0, .slice A0_1 l0_1.length c0_1] 36 (0, 0))) := ⟨by (with_reducible repeat (first | refine kN ?_ _ | refine kD ?_ | refine kA ?_ _)); refine blk_far ?_ NB101_103.out _; (with_reducible repeat (first | refine kN ?_ _ | refine kD ?_ | refine kA ?_ _)); refine blk_far ?_ NB101_103.out _; (with_reducible repeat (first | refine kN ?_ _ | refine kD ?_ | refine kA ?_ _)); exact BK101.out⟩); (have n1_ : Aside0 (((w41.setCell ⟨gb103, 0, none⟩ (.int .i64 ((rd_T79 l0_0 x20_2).f0))).setCell ⟨gb103, 1, none⟩ (.int .i64 ((rd_T79 l0_0 x20_2).f1))).heap[gb103]? = some (.cells #[.int .i64 ((rd_T79 l0_0 x20_2).f0), .int .i64 ((rd_T79 l0_0 x20_2).f1)] 79 (0, 0))) := ⟨by (with_reducible repeat (first | refine kN ?_ _ | refine kD ?_ | refine kA ?_ _)); refine blk_put (cs := #[.int .i64 ((rd_T79 l0_0 x20_2).f0), .int .i64 0]) ?_ 1 _ rfl; (with_reducible repeat (first | refine kN ?_ _ | refine kD ?_ | refine kA ?_ _)); refine blk_put (cs := #[.int .i64 0, .int .i64 0]) ?_ 0 _ rfl; (with_reducible repeat (first | refine kN ?_ _ | refine kD ?_ | refine kA ?_ _)); exact BK103.out⟩); (have n2_ : Aside0 (Below w.heap.size w ((w41.setCell ⟨gb103, 0, none⟩ (.int .i64 ((rd_T79 l0_0 x20_2).f0))).setCell ⟨gb103, 1, none⟩ (.int .i64 ((rd_T79 l0_0 x20_2).f1)))) := ⟨by repeat (first | (with_reducible first | exact HB.out | apply bA | apply bN | apply bD | refine below_set ?_ GE101.out | refine below_set ?_ GE103.out) | exact HB.out)⟩); ((try clear BK101)); ((try clear BK103)); ((try clear HB)); (generalize ((w41.setCell ⟨gb103, 0, none⟩ (.int .i64 ((rd_T79 l0_0 x20_2).f0))).setCell ⟨gb103, 1, none⟩ (.int .i64 ((rd_T79 l0_0 x20_2).f1))) = w44 at n0_ n1_ n2_ ⊢); (have BK101 := n0_); (have BK103 := n1_); (have HB := n2_); clear n0_ n1_ n2_; (have n0_ := Aside0.mk (blk_drew BK101.out)); (have n1_ := Aside0.mk (blk_drew BK103.out)); (have n2_ := Aside0.mk (below_drew1 HB.out)); clear BK101 BK103 HB; (have BK101 := n0_); (have BK103 := n1_); (have HB := n2_); clear n0_ n1_ n2_; (refine start_ (n := 26) (S := fun w' => w'.cell? ⟨gb103, 0, none⟩ = some (.int .i64 ((rd_T79 l0_0 x20_2).f0)) ∧ w'.cell? ⟨gb103, 1, none⟩ = some (.int .i64 ((rd_T79 l0_0 x20_2).f1))) (ds := []) (cn 26 0) (by kernel_rfl) rfl (by kernel_rfl) ⟨cz BK103.out 0, cz BK103.out 1⟩ (fun hHeld => ?_); refine with_tabW impl_IsValidRecord.tab6 impl_IsValidRecord.bits6 (fun HT_ HW_ => ?_)); (generalize w44.drew = w45 at BK101 BK103 HB hHeld ⊢); (refine pB 0 (cn 26 1) (some 25) HT_ (h := ?_)); (refine tB 1 (cn 26 2) (some 26) HT_ HW_ hHeld (h := ?_)); (refine oN 2 (some 27) (cn 26 3) HT_ (fun K hK => ?_)); (refine gG Tryz.func39 #[.int .i64 ((rd_T79 l0_0 x20_2).f0)] ?_)
          (with_reducible refine (impl_isNumber.calls ((rd_T79 l0_0 x20_2).f0) false _ A12.out).mono ?_); (rintro e w' ⟨rfl, ⟨nd, rfl⟩⟩); (refine ⟨_, rfl, ?_⟩); (refine hK.out _ _ ⟨cz BK103.out 0, cz BK103.out 1⟩ (fun hHeld => ?_)); clear hK K; (refine nP (some 27) (h := ?_)); (refine pB 3 (cn 26 4) (some 28) HT_ (h := ?_)); (refine pB 4 (cn 26 5) (some 29) HT_ (h := ?_)); (refine pU 5 (cn 26 6) (some 30) HT_ (h := ?_)); (refine pU 6 (cn 26 7) (some 31) HT_ (h := ?_)); (refine pU 7 (cn 26 8) (some 32) HT_ (h := ?_)); (refine pU 8 (cn 26 9) (some 33) HT_ (h := ?_)); (refine pB 9 (cn 26 10) (some 34) HT_ (h := ?_)); (refine pB 10 (cn 26 11) (some 35) HT_ (h := ?_)); (refine pU 11 (cn 26 12) (some 36) HT_ (h := ?_)); (refine pU 12 (cn 26 13) (some 37) HT_ (h := ?_)); (refine pU 13 (cn 26 14) (some 38) HT_ (h := ?_)); (refine pU 14 (cn 26 15) (some 39) HT_ (h := ?_)); (refine pU 15 (cn 26 16) (some 40) HT_ (h := ?_)); (refine pU 16 (cn 26 17) (some 41) HT_ (h := ?_)); (refine pU 17 (cn 26 18) (some 42) HT_ (h := ?_)); (refine pU 18 (cn 26 19) (some 43) HT_ (h := ?_)); (refine pU 19 (cn 26 20) (some 44) HT_ (h := ?_)); (refine pU 20 (cn 26 21) (some 45) HT_ (h := ?_)); (refine pU 21 (cn 26 22) (some 46) HT_ (h := ?_)); (refine pU 22 (cn 26 23) (some 47) HT_ (h := ?_))
          (refine pU 23 (cn 26 24) (some 48) HT_ (h := ?_)); (refine pU 24 (cn 26 25) (some 49) HT_ (h := ?_)); (refine pB 25 (cn 26 26) (some 50) HT_ (h := ?_)); (refine done_ (done_of HT_.out (by kernel_rfl)) ?_); (try go_wp2); go_ret; (exact ⟨rfl, eI HB⟩)
        ·rw [if_neg c11] at H
         exact absurd H (by simp)
       ·rw [if_neg c10] at H
        exact absurd H (by simp)
      ·rw [if_neg c9] at H
       (have c9b0 := decide_eq_false c9); clear c9; (have H' := Aside0.mk H); clear H; (have hcz46_0 := cz BK101.out 0); (have hcz46_1 := cz BK101.out 1); (have hfz46_0 := blk_frozen BK101.out 0); (have hfz46_1 := blk_frozen BK101.out 1); (go_wp2); (go_loopg [55] k2 (fun kq v55 w' => ∃ (x55_3 : Int), v55 = .int .i64 x55_3 ∧ Aside0 (impl_IsValidRecord.l1 kq l0_1 (l0_1.length : Int) x55_3 l0_0 l0_1 = some r) ∧ Aside0 (kq ≤ k2) ∧ Aside0 (w'.heap[gb101]? = some (.cells #[(.slice A0_0 l0_0.length c0_0), (.slice A0_1 l0_1.length c0_1)] 36 (0, 0))) ∧ Aside0 (Below w.heap.size w w')))
       case atStart => exact ⟨(0), (by first | rfl | (simp; done) | (simp [*]; done)), H', ⟨Nat.le_refl _⟩, ⟨kI BK101⟩, ⟨eI HB⟩⟩
       case round =>
        (clear H'); (try clear c1); (try clear p1); (try clear q1); (try clear hx1); (try clear p2); (try clear c3); (try clear c4); (try clear p6); (try clear c9); (try clear c9b0); (try clear c10); (try clear p10); (try clear q10); (try clear hx10); (try clear c11); (try clear c13); (try clear c15); (try clear c37); (try clear c39); (try clear c40); (try clear c42); (try clear hcz38_0); (try clear hcz38_1); (try clear hcz43_0); (try clear hcz43_1); (try clear hcz46_0); (try clear hcz46_1); (try clear hfz38_0); (try clear hfz38_1); (try clear hfz43_0); (try clear hfz43_1); (try clear hfz46_0); (try clear hfz46_1); (try clear hx102_0); (try clear hx102_1); (try clear p102); (try clear q102); (obtain ⟨x55_3, rfl, HA, HK3, BK101, HB⟩ := hrel)
        cases gk with
        | zero => exact absurd HA.out (by simp [impl_IsValidRecord.l1])
        | succ k3 =>
         (have H := HA.out); clear HA; (simp only [impl_IsValidRecord.l1] at H); (by_cases c47 : x55_3 < (l0_1.length : Int))
         ·rw [if_pos c47] at H
          (have c47b0 := decide_eq_true c47); clear c47; (by_cases c48 : 0 ≤ x55_3)
          ·rw [if_pos c48] at H
           (have c48b0 := decide_eq_true c48); clear c48; (by_cases c49 : x55_3 < (l0_1.length : Int))
           ·rw [if_pos c49] at H
            (have c49b0 := decide_eq_true c49); clear c49; (have HC50 := Aside0.mk H); clear H; (have p107 : 0 ≤ (x55_3 : Int) := odt); (have q107 : x55_3 < (l0_1.length : Int) := odt); (obtain ⟨ad107, e107, hx107_0, hx107_1⟩ := at_T82 HR0_1.out x55_3 p107 q107); (cases e107); (replace hx107_0 := hcI HB hx107_0); (replace hx107_1 := hcI HB hx107_1); (replace p107 := eq_true p107); (replace q107 := eq_true q107); (go_upto_region 12 with (first | ((with_reducible refine gate_dst (N := 6) rfl ?_); refine box_event ?hg (N := 6) ?hd (cs := #[.int .i64 0, .int .i64 0]) (t := 82) ?hr ?_; (case hd => rfl); (case hg => rfl); (case hr => first | (go_simp; done) | (go_simp; rfl)); intro gb108 hg w51 hbox hb; have n0_ := Aside0.mk (kbI hb BK101); have hB_ := zI hb HB; have n1_ := Aside0.mk (below_step hB_ hb); have n2_ := Aside0.mk (hbox); have n3_ := Aside0.mk (bx0 hg hB_); have n4_ := n3_; have n5_ := Aside0.mk ((by rw [hg]; exact Nat.ne_of_lt (blk_lt (kI BK101)) : gb101 ≠ gb108)); have n6_ := Aside0.mk (Ne.symm n5_.out); clear BK101 HB; have BK101 := n0_; have HB := n1_; have BK108 := n2_; have GW108 := n3_; have GE108 := n4_; have NB101_108 := n5_; have NB108_101 := n6_; clear n0_ n1_ n2_ n3_ n4_ n5_ n6_ hB_ hb hbox hg; have hnb52 := NB108_101.out; have hnc52 := NB101_108.out; have hcz53_0 := cz BK108.out 0; have hcz53_1 := cz BK108.out 1; have hfz53_0 := blk_frozen BK108.out 0; have hfz53_1 := blk_frozen BK108.out 1))); ((try simp only [Act.put, aS1, aS2, aS3])); (go_cut [78] (fun v78 wc => ∃ (kq : Nat) (x78_49 : Bool), v78 = .bool x78_49 ∧ Aside0 (impl_IsValidRecord.j3 kq x55_3 l0_1 (l0_1.length : Int) x55_3 x78_49 l0_0 l0_1 ((rd_T82 l0_1 x55_3).f0) ((rd_T82 l0_1 x55_3).f1) = some r) ∧ Aside0 (kq ≤ k3) ∧ Aside0 (wc.heap[gb101]? = some (.cells #[(.slice A0_0 l0_0.length c0_0), (.slice (some ad107) l0_1.length c0_1)] 36 (0, 0))) ∧ Aside0 (wc.heap[gb108]? = some (.cells #[.int .i64 ((rd_T82 l0_1 x55_3).f0), .int .i64 ((rd_T82 l0_1 x55_3).f1)] 82 (0, 0))) ∧ Aside0 (Below w.heap.size w wc)))
            case first =>
             (have H := HC50.out); clear HC50; (by_cases c54 : ((rd_T82 l0_1 x55_3).f0) = ((rd_T82 l0_1 x55_3).f1))
             ·rw [if_pos c54] at H
              (have c54b0 : (((rd_T82 l0_1 x55_3).f0) == ((rd_T82 l0_1 x55_3).f1)) = true := beq_iff_eq.mpr c54); (have c54b1 : (((rd_T82 l0_1 x55_3).f0) != ((rd_T82 l0_1 x55_3).f1)) = false := bne_eq_false_iff_eq.mpr c54); clear c54; ((first | rw [c54b0] | (simp only [i64_w, i32_w]; rw [c54b0]) | skip)); (have H' := Aside0.mk H); clear H; (have hnb55 := NB108_101.out); (have hnc55 := NB101_108.out); (have hcz56_0 := cz BK108.out 0); (have hcz56_1 := cz BK108.out 1); (have hfz56_0 := blk_frozen BK108.out 0); (have hfz56_1 := blk_frozen BK108.out 1); (go_wp2); (go_meet)
              case rel => exact ⟨_, (true), (by first | rfl | (simp; done) | (simp [*]; done)), H', ⟨by have := HJ1.out; have := HK2.out; have := HK3.out; first | omega | exact Nat.le_refl _⟩, ⟨by (with_reducible repeat (first | refine kN ?_ _ | refine kD ?_ | refine kA ?_ _)); refine blk_far ?_ NB101_108.out _; (with_reducible repeat (first | refine kN ?_ _ | refine kD ?_ | refine kA ?_ _)); refine blk_far ?_ NB101_108.out _; (with_reducible repeat (first | refine kN ?_ _ | refine kD ?_ | refine kA ?_ _)); exact BK101.out⟩, ⟨by (with_reducible repeat (first | refine kN ?_ _ | refine kD ?_ | refine kA ?_ _)); refine blk_put (cs := #[.int .i64 ((rd_T82 l0_1 x55_3).f0), .int .i64 0]) ?_ 1 _ rfl; (with_reducible repeat (first | refine kN ?_ _ | refine kD ?_ | refine kA ?_ _)); refine blk_put (cs := #[.int .i64 0, .int .i64 0]) ?_ 0 _ rfl; (with_reducible repeat (first | refine kN ?_ _ | refine kD ?_ | refine kA ?_ _)); exact BK108.out⟩, ⟨by repeat (first | (with_reducible first | exact HB.out | apply bA | apply bN | apply bD | refine below_set ?_ GE101.out | refine below_set ?_ GE108.out) | exact HB.out)⟩⟩
             ·rw [if_neg c54] at H
              (have c54b0 : (((rd_T82 l0_1 x55_3).f0) == ((rd_T82 l0_1 x55_3).f1)) = false := beq_eq_false_iff_ne.mpr c54); (have c54b1 : (((rd_T82 l0_1 x55_3).f0) != ((rd_T82 l0_1 x55_3).f1)) = true := bne_iff_ne.mpr c54); ((first | rw [c54b0] | (simp only [i64_w, i32_w]; rw [c54b0]) | skip)); (obtain ⟨t109, A57, H⟩ := obS H); (by_cases c58 : t109 < 0)
              ·rw [if_pos c58] at H
               (have c58b0 := decide_eq_true c58); clear c58; (have H' := Aside0.mk H); clear H; (have hnb59 := NB108_101.out); (have hnc59 := NB101_108.out); (have hcz60_0 := cz BK108.out 0); (have hcz60_1 := cz BK108.out 1); (have hfz60_0 := blk_frozen BK108.out 0); (have hfz60_1 := blk_frozen BK108.out 1); (have hcz61_0 := cz BK101.out 0); (have hcz61_1 := cz BK101.out 1); (have hfz61_0 := blk_frozen BK101.out 0); (have hfz61_1 := blk_frozen BK101.out 1); (go_wp2_with (first | (go_at_call 21; (with_reducible refine (impl_indexOf.calls _ _ l0_0 _ _ l0_1 ((rd_T82 l0_1 x55_3).f0) t109 _ ?side1 ?side2 ?side3 ?side4 A57.out).mono ?_); (case side1 => exact Kd.C_below HR0_0.out (by repeat (first | (with_reducible first | exact HB.out | apply bA | apply bN | apply bD | refine below_set ?_ GE101.out | refine below_set ?_ GE108.out) | exact HB.out))); (case side2 => exact HC0_0.out); (case side3 => exact Kd.C_below HR0_1.out (by repeat (first | (with_reducible first | exact HB.out | apply bA | apply bN | apply bD | refine below_set ?_ GE101.out | refine below_set ?_ GE108.out) | exact HB.out))); (case side4 => exact HC0_1.out); rintro e w62 ⟨rfl, hb⟩; have n0_ := Aside0.mk (blk_below (g := gb101) (o := .cells #[.slice A0_0 l0_0.length c0_0, .slice (some ad107) l0_1.length c0_1] 36 (0, 0)) (by (with_reducible repeat (first | refine kN ?_ _ | refine kD ?_ | refine kA ?_ _)); refine blk_far ?_ NB101_108.out _; (with_reducible repeat (first | refine kN ?_ _ | refine kD ?_ | refine kA ?_ _)); refine blk_far ?_ NB101_108.out _; (with_reducible repeat (first | refine kN ?_ _ | refine kD ?_ | refine kA ?_ _)); exact BK101.out) hb); have n1_ := Aside0.mk (blk_below (g := gb108) (o := .cells #[.int .i64 ((rd_T82 l0_1 x55_3).f0), .int .i64 ((rd_T82 l0_1 x55_3).f1)] 82 (0, 0)) (by (with_reducible repeat (first | refine kN ?_ _ | refine kD ?_ | refine kA ?_ _)); refine blk_put (cs := #[.int .i64 ((rd_T82 l0_1 x55_3).f0), .int .i64 0]) ?_ 1 _ rfl; (with_reducible repeat (first | refine kN ?_ _ | refine kD ?_ | refine kA ?_ _)); refine blk_put (cs := #[.int .i64 0, .int .i64 0]) ?_ 0 _ rfl; (with_reducible repeat (first | refine kN ?_ _ | refine kD ?_ | refine kA ?_ _)); exact BK108.out) hb); have n2_ := Aside0.mk (below_step (by repeat (first | (with_reducible first | exact HB.out | apply bA | apply bN | apply bD | refine below_set ?_ GE101.out | refine below_set ?_ GE108.out) | exact HB.out)) hb); clear BK101 BK108 HB; have BK101 := n0_; have BK108 := n1_; have HB := n2_; clear n0_ n1_ n2_; (try clear hb); (try clear hb2); (try clear hk); (try clear hi)))); (go_meet)
               case rel => exact ⟨_, (true), (by first | rfl | (simp; done) | (simp [*]; done)), H', ⟨by have := HJ1.out; have := HK2.out; have := HK3.out; first | omega | exact Nat.le_refl _⟩, ⟨kI BK101⟩, ⟨kI BK108⟩, ⟨eI HB⟩⟩
              ·rw [if_neg c58] at H
               (have c58b0 := decide_eq_false c58); clear c58; (replace H := Option.bind_eq_some_iff.mp H); (obtain ⟨t110, A630, H⟩ := H); (have A63 := Aside0.mk A630); clear A630; (have H' := Aside0.mk H); clear H; (have hnb64 := NB108_101.out); (have hnc64 := NB101_108.out); (have hcz65_0 := cz BK108.out 0); (have hcz65_1 := cz BK108.out 1); (have hfz65_0 := blk_frozen BK108.out 0); (have hfz65_1 := blk_frozen BK108.out 1); (have hcz66_0 := cz BK101.out 0); (have hcz66_1 := cz BK101.out 1); (have hfz66_0 := blk_frozen BK101.out 0); (have hfz66_1 := blk_frozen BK101.out 1); (go_wp2_with (first | (go_at_call 21; (with_reducible refine (impl_indexOf.calls _ _ l0_0 _ _ l0_1 ((rd_T82 l0_1 x55_3).f0) t109 _ ?side1 ?side2 ?side3 ?side4 A57.out).mono ?_); (case side1 => exact Kd.C_below HR0_0.out (by repeat (first | (with_reducible first | exact HB.out | apply bA | apply bN | apply bD | refine below_set ?_ GE101.out | refine below_set ?_ GE108.out) | exact HB.out))); (case side2 => exact HC0_0.out); (case side3 => exact Kd.C_below HR0_1.out (by repeat (first | (with_reducible first | exact HB.out | apply bA | apply bN | apply bD | refine below_set ?_ GE101.out | refine below_set ?_ GE108.out) | exact HB.out))); (case side4 => exact HC0_1.out); rintro e w67 ⟨rfl, hb⟩; have n0_ := Aside0.mk (blk_below (g := gb101) (o := .cells #[.slice A0_0 l0_0.length c0_0, .slice (some ad107) l0_1.length c0_1] 36 (0, 0)) (by (with_reducible repeat (first | refine kN ?_ _ | refine kD ?_ | refine kA ?_ _)); refine blk_far ?_ NB101_108.out _; (with_reducible repeat (first | refine kN ?_ _ | refine kD ?_ | refine kA ?_ _)); refine blk_far ?_ NB101_108.out _; (with_reducible repeat (first | refine kN ?_ _ | refine kD ?_ | refine kA ?_ _)); exact BK101.out) hb); have n1_ := Aside0.mk (blk_below (g := gb108) (o := .cells #[.int .i64 ((rd_T82 l0_1 x55_3).f0), .int .i64 ((rd_T82 l0_1 x55_3).f1)] 82 (0, 0)) (by (with_reducible repeat (first | refine kN ?_ _ | refine kD ?_ | refine kA ?_ _)); refine blk_put (cs := #[.int .i64 ((rd_T82 l0_1 x55_3).f0), .int .i64 0]) ?_ 1 _ rfl; (with_reducible repeat (first | refine kN ?_ _ | refine kD ?_ | refine kA ?_ _)); refine blk_put (cs := #[.int .i64 0, .int .i64 0]) ?_ 0 _ rfl; (with_reducible repeat (first | refine kN ?_ _ | refine kD ?_ | refine kA ?_ _)); exact BK108.out) hb); have n2_ := Aside0.mk (below_step (by repeat (first | (with_reducible first | exact HB.out | apply bA | apply bN | apply bD | refine below_set ?_ GE101.out | refine below_set ?_ GE108.out) | exact HB.out)) hb); clear BK101 BK108 HB; have BK101 := n0_; have BK108 := n1_; have HB := n2_; clear n0_ n1_ n2_; (try clear hb); (try clear hb2); (try clear hk); (try clear hi); have hcz68_0 := cz BK101.out 0; have hcz68_1 := cz BK101.out 1; have hfz68_0 := blk_frozen BK101.out 0; have hfz68_1 := blk_frozen BK101.out 1; have hcz69_0 := cz BK108.out 0; have hcz69_1 := cz BK108.out 1; have hfz69_0 := blk_frozen BK108.out 0; have hfz69_1 := blk_frozen BK108.out 1) | (go_at_call 21; (with_reducible refine (impl_indexOf.calls _ _ l0_0 _ _ l0_1 ((rd_T82 l0_1 x55_3).f1) t110 _ ?side1 ?side2 ?side3 ?side4 A63.out).mono ?_); (case side1 => repeat (first | exact (Kd.C_below HR0_0.out HB.out) | (with_reducible first | refine cA ?_ _ | refine cN ?_ _ | refine cD ?_))); (case side2 => exact HC0_0.out); (case side3 => repeat (first | exact (Kd.C_below HR0_1.out HB.out) | (with_reducible first | refine cA ?_ _ | refine cN ?_ _ | refine cD ?_))); (case side4 => exact HC0_1.out); rintro e w70 ⟨rfl, hb⟩; have n0_ := Aside0.mk (blk_below (by (with_reducible repeat (first | refine kN ?_ _ | refine kD ?_ | refine kA ?_ _)); exact BK101.out) hb); have n1_ := Aside0.mk (blk_below (by (with_reducible repeat (first | refine kN ?_ _ | refine kD ?_ | refine kA ?_ _)); exact BK108.out) hb); have n2_ := Aside0.mk (below_step (by repeat (first | (with_reducible first | exact HB.out | apply bA | apply bN | apply bD | refine below_set ?_ GE101.out | refine below_set ?_ GE108.out) | exact HB.out)) hb); clear BK101 BK108 HB; have BK101 := n0_; have BK108 := n1_; have HB := n2_; clear n0_ n1_ n2_; (try clear hb); (try clear hb2); (try clear hk); (try clear hi)))); (go_meet)
               case rel => exact ⟨_, (decide (t110 < 0)), (by first | rfl | (simp; done) | (simp [*]; done)), H', ⟨by have := HJ1.out; have := HK2.out; have := HK3.out; first | omega | exact Nat.le_refl _⟩, ⟨kI BK101⟩, ⟨kI BK108⟩, ⟨eI HB⟩⟩
            case rest =>
             clear HC50; (try clear c1); (try clear p1); (try clear q1); (try clear hx1); (try clear p2); (try clear c3); (try clear c4); (try clear c5); (try clear c6); (try clear p6); (try clear c9); (try clear c9b0); (try clear c10); (try clear p10); (try clear q10); (try clear hx10); (try clear c11); (try clear c13); (try clear c15); (try clear c37); (try clear c39); (try clear c40); (try clear c42); (try clear c47); (try clear c47b0); (try clear c48); (try clear c48b0); (try clear c49); (try clear c49b0); (try clear c52); (try clear c54); (try clear c54b0); (try clear c54b1); (try clear c55); (try clear c58); (try clear c58b0); (try clear c59); (try clear c64); (try clear p64); (try clear hcz38_0); (try clear hcz38_1); (try clear hcz43_0); (try clear hcz43_1); (try clear hcz46_0); (try clear hcz46_1); (try clear hcz53_0); (try clear hcz53_1); (try clear hcz56_0); (try clear hcz56_1); (try clear hcz60_0); (try clear hcz60_1); (try clear hcz61_0); (try clear hcz61_1); (try clear hcz65_0); (try clear hcz65_1); (try clear hcz66_0); (try clear hcz66_1); (try clear hcz68_0); (try clear hcz68_1); (try clear hcz69_0); (try clear hcz69_1); (try clear hfz38_0); (try clear hfz38_1); (try clear hfz43_0); (try clear hfz43_1); (try clear hfz46_0); (try clear hfz46_1); (try clear hfz53_0); (try clear hfz53_1); (try clear hfz56_0); (try clear hfz56_1); (try clear hfz60_0); (try clear hfz60_1); (try clear hfz61_0); (try clear hfz61_1); (try clear hfz65_0); (try clear hfz65_1); (try clear hfz66_0); (try clear hfz66_1); (try clear hfz68_0); (try clear hfz68_1); (try clear hfz69_0); (try clear hfz69_1); (try clear hx102_0); (try clear hx102_1); (try clear hx107_0); (try clear hx107_1); (try clear p1); (try clear p10); (try clear p102); (try clear p107); (try clear p2); (try clear p6); (try clear q1); (try clear q10); (try clear q102); (try clear q107); (obtain ⟨kq, x78_49, rfl, HA, HJ49, BK101, BK108, HB⟩ := hcut)
             cases kq with
             | zero => exact absurd HA.out (by simp [impl_IsValidRecord.j3])
             | succ kj49 =>
              (have H := HA.out); clear HA; (simp only [impl_IsValidRecord.j3] at H); (by_cases c71 : x78_49 = true); (· subst c71; (rw [if_pos rfl] at H); (obtain rfl := Option.some.inj H); (go_wp2); go_ret; (exact ⟨rfl, eI HB⟩))
              ·replace c71 := Bool.eq_false_iff.mpr c71
               subst c71; (rw [if_neg (show ¬ (false = true) by decide)] at H); (by_cases c72 : x55_3 > 0)
               ·rw [if_pos c72] at H
                (have c72b0 : decide (0 < x55_3) = true := decide_eq_true c72); clear c72; (obtain ⟨ji73, hji73⟩ : ∃ j_ : Int, (wrap64 (x55_3 - 1)) = j_ := ⟨_, rfl⟩); (replace H : (if 0 ≤ (ji73) then (if (ji73) < (l0_1.length : Int) then ((impl_compareRelations.f kj49 ((rd_T82 l0_1 (ji73)).f0) ((rd_T82 l0_1 (ji73)).f1) ((rd_T82 l0_1 x55_3).f0) ((rd_T82 l0_1 x55_3).f1)).bind fun t112 => (if t112 ≥ 0 then (some false) else (impl_IsValidRecord.l1 kj49 l0_1 (l0_1.length : Int) (wrap64 (x55_3 + 1)) l0_0 l0_1))) else (none)) else (none)) = some r := by first | (rw [hji73] at H; exact H) | (simp only [hji73] at H ⊢; exact H)); (have hji73w : (IntKind.i64.wrap (x55_3 - 1)) = ji73 := (i64_w _).trans hji73); (by_cases c74 : 0 ≤ (ji73))
                ·rw [if_pos c74] at H
                 (have c74b0 := decide_eq_true c74); clear c74; (by_cases c75 : (ji73) < (l0_1.length : Int))
                 ·rw [if_pos c75] at H
                  (have c75b0 := decide_eq_true c75); clear c75; (obtain ⟨t112, A76, H⟩ := obS H); (by_cases c77 : t112 ≥ 0)
                  ·rw [if_pos c77] at H
                   (have c77b0 : decide (0 ≤ t112) = true := decide_eq_true c77); clear c77; (obtain rfl := Option.some.inj H); (try go_wp2); (have n0_ := Aside0.mk (blk_drew BK101.out)); (have n1_ := Aside0.mk (blk_drew BK108.out)); (have n2_ := Aside0.mk (below_drew1 HB.out)); clear BK101 BK108 HB; (have BK101 := n0_); (have BK108 := n1_); (have HB := n2_); clear n0_ n1_ n2_; (have p111 : 0 ≤ ((ji73) : Int) := odt); (have q111 : (ji73) < (l0_1.length : Int) := odt); (obtain ⟨ad111, e111, hx111_0, hx111_1⟩ := at_T82 HR0_1.out (ji73) p111 q111); (have hw111_1 := hx111_1); (have hw111_0 := hx111_0); (obtain rfl : ad107 = ad111 := (by injection e111)); (replace hx111_0 := hcI HB hx111_0); (replace hx111_1 := hcI HB hx111_1); (replace p111 := eq_true p111); (replace q111 := eq_true q111); (refine start_ (n := 13) (S := fun w' => w'.cell? ⟨gb101, 0, none⟩ = some (.slice A0_0 l0_0.length c0_0) ∧ w'.cell? ⟨gb101, 1, none⟩ = some (.slice (some ad107) l0_1.length c0_1) ∧ w'.cell? ⟨gb108, 0, none⟩ = some (.int .i64 ((rd_T82 l0_1 x55_3).f0)) ∧ w'.cell? ⟨gb108, 1, none⟩ = some (.int .i64 ((rd_T82 l0_1 x55_3).f1)) ∧ w'.cell? (ad107.add (((ji73)).toNat * 2)) = some (.int .i64 ((rd_T82 l0_1 (ji73)).f0)) ∧ w'.cell? ⟨(ad107.add (((ji73)).toNat * 2)).block, (ad107.add (((ji73)).toNat * 2)).off + 1, none⟩ = some (.int .i64 ((rd_T82 l0_1 (ji73)).f1))) (ds := []) (cn 13 0) (by kernel_rfl) rfl (by kernel_rfl) ⟨cz BK101.out 0, cz BK101.out 1, cz BK108.out 0, cz BK108.out 1, (hcI HB hw111_0), (hcI HB hw111_1)⟩ (fun hHeld => ?_); refine with_tabW impl_IsValidRecord.tab14 impl_IsValidRecord.bits14 (fun HT_ HW_ => ?_)); (generalize wc.drew = w78 at BK101 BK108 HB hx111_0 hx111_1 hHeld ⊢); (refine pB 0 (cn 13 1) (some 79) HT_ (h := ?_)); (refine pB 1 (cn 13 2) (some 80) HT_ (h := ?_)); (refine pB 2 (cn 13 3) (some 81) HT_ (h := ?_)); (refine pB 3 (cn 13 4) (some 82) HT_ (h := ?_)); (refine pB 5 (cb 13 47) (some 84) HT_ (h := ?_)); (refine pB 6 (cb 13 111) (some 85) HT_ (h := ?_)); (refine tB 4 (cn 13 7) (some 83) HT_ HW_ hHeld (h := ?_)); (refine pB 7 (cn 13 8) (some 86) HT_ (h := ?_)); (refine tB 8 (cn 13 9) (some 87) HT_ HW_ hHeld (h := ?_)); (refine tB 9 (cn 13 10) (some 88) HT_ HW_ hHeld (h := ?_)); (refine oN 10 (some 89) (cn 13 11) HT_ (fun K hK => ?_)); (refine goes_ Tryz.func41 (by kernel_rfl) rfl #[.agg #[.int .i64 ((rd_T82 l0_1 (ji73)).f0), .int .i64 ((rd_T82 l0_1 (ji73)).f1)], .agg #[.int .i64 ((rd_T82 l0_1 x55_3).f0), .int .i64 ((rd_T82 l0_1 x55_3).f1)]] (by rfl) rfl rfl (by (try simp only [aM1, aM2, aM3]); first | done | (simp only [hji73]; rfl) | rfl | (simp only [List.length_drop, List.length_take]; rfl)) ?_)
                   (with_reducible refine (impl_compareRelations.calls kj49 ((rd_T82 l0_1 (ji73)).f0) ((rd_T82 l0_1 (ji73)).f1) ((rd_T82 l0_1 x55_3).f0) ((rd_T82 l0_1 x55_3).f1) t112 _ A76.out).mono ?_); (rintro e w79 ⟨rfl, hb⟩); (refine ⟨_, rfl, ?_⟩); (have n0_ := Aside0.mk (kbI hb BK101)); (have n1_ := Aside0.mk (kbI hb BK108)); (have n2_ := Aside0.mk (sI hb HB)); clear BK101 BK108 HB; (have BK101 := n0_); (have BK108 := n1_); (have HB := n2_); clear n0_ n1_ n2_; ((try clear hb)); ((try clear hb2)); ((try clear hk)); ((try clear hi)); (refine hK.out _ _ ⟨cz BK101.out 0, cz BK101.out 1, cz BK108.out 0, cz BK108.out 1, (hcI HB hw111_0), (hcI HB hw111_1)⟩ (fun hHeld => ?_)); clear hK K; (refine nP (some 89) (h := ?_)); (refine pB 11 (cn 13 12) (some 90) HT_ (h := ?_)); (refine pB 12 (cn 13 13) (some 91) HT_ (h := ?_)); (refine done_ (done_of HT_.out (by kernel_rfl)) ?_); (try go_wp2); go_ret; (exact ⟨by first | rfl | (simp [errW_none, errW_some] <;> rfl) | (simp only [← hji73]; first | rfl | (simp [errW_none, errW_some] <;> rfl)) | (simp [*, errW_none, errW_some] <;> rfl), eI HB⟩)
                  ·rw [if_neg c77] at H
                   (have c77b0 : decide (0 ≤ t112) = false := decide_eq_false c77); clear c77; (have H' := Aside0.mk H); clear H; (try go_wp2); (have n0_ := Aside0.mk (blk_drew BK101.out)); (have n1_ := Aside0.mk (blk_drew BK108.out)); (have n2_ := Aside0.mk (below_drew1 HB.out)); clear BK101 BK108 HB; (have BK101 := n0_); (have BK108 := n1_); (have HB := n2_); clear n0_ n1_ n2_; (have p111 : 0 ≤ ((ji73) : Int) := odt); (have q111 : (ji73) < (l0_1.length : Int) := odt); (obtain ⟨ad111, e111, hx111_0, hx111_1⟩ := at_T82 HR0_1.out (ji73) p111 q111); (have hw111_1 := hx111_1); (have hw111_0 := hx111_0); (obtain rfl : ad107 = ad111 := (by injection e111)); (replace hx111_0 := hcI HB hx111_0); (replace hx111_1 := hcI HB hx111_1); (replace p111 := eq_true p111); (replace q111 := eq_true q111); (refine start_ (n := 13) (S := fun w' => w'.cell? ⟨gb101, 0, none⟩ = some (.slice A0_0 l0_0.length c0_0) ∧ w'.cell? ⟨gb101, 1, none⟩ = some (.slice (some ad107) l0_1.length c0_1) ∧ w'.cell? ⟨gb108, 0, none⟩ = some (.int .i64 ((rd_T82 l0_1 x55_3).f0)) ∧ w'.cell? ⟨gb108, 1, none⟩ = some (.int .i64 ((rd_T82 l0_1 x55_3).f1)) ∧ w'.cell? (ad107.add (((ji73)).toNat * 2)) = some (.int .i64 ((rd_T82 l0_1 (ji73)).f0)) ∧ w'.cell? ⟨(ad107.add (((ji73)).toNat * 2)).block, (ad107.add (((ji73)).toNat * 2)).off + 1, none⟩ = some (.int .i64 ((rd_T82 l0_1 (ji73)).f1))) (ds := []) (cn 13 0) (by kernel_rfl) rfl (by kernel_rfl) ⟨cz BK101.out 0, cz BK101.out 1, cz BK108.out 0, cz BK108.out 1, (hcI HB hw111_0), (hcI HB hw111_1)⟩ (fun hHeld => ?_); refine with_tabW impl_IsValidRecord.tab14 impl_IsValidRecord.bits14 (fun HT_ HW_ => ?_)); (generalize wc.drew = w80 at BK101 BK108 HB hx111_0 hx111_1 hHeld ⊢); (refine pB 0 (cn 13 1) (some 79) HT_ (h := ?_)); (refine pB 1 (cn 13 2) (some 80) HT_ (h := ?_)); (refine pB 2 (cn 13 3) (some 81) HT_ (h := ?_)); (refine pB 3 (cn 13 4) (some 82) HT_ (h := ?_)); (refine pB 5 (cb 13 47) (some 84) HT_ (h := ?_)); (refine pB 6 (cb 13 111) (some 85) HT_ (h := ?_)); (refine tB 4 (cn 13 7) (some 83) HT_ HW_ hHeld (h := ?_)); (refine pB 7 (cn 13 8) (some 86) HT_ (h := ?_)); (refine tB 8 (cn 13 9) (some 87) HT_ HW_ hHeld (h := ?_)); (refine tB 9 (cn 13 10) (some 88) HT_ HW_ hHeld (h := ?_)); (refine oN 10 (some 89) (cn 13 11) HT_ (fun K hK => ?_)); (refine goes_ Tryz.func41 (by kernel_rfl) rfl #[.agg #[.int .i64 ((rd_T82 l0_1 (ji73)).f0), .int .i64 ((rd_T82 l0_1 (ji73)).f1)], .agg #[.int .i64 ((rd_T82 l0_1 x55_3).f0), .int .i64 ((rd_T82 l0_1 x55_3).f1)]] (by rfl) rfl rfl (by (try simp only [aM1, aM2, aM3]); first | done | (simp only [hji73]; rfl) | rfl | (simp only [List.length_drop, List.length_take]; rfl)) ?_)
                   (with_reducible refine (impl_compareRelations.calls kj49 ((rd_T82 l0_1 (ji73)).f0) ((rd_T82 l0_1 (ji73)).f1) ((rd_T82 l0_1 x55_3).f0) ((rd_T82 l0_1 x55_3).f1) t112 _ A76.out).mono ?_); (rintro e w81 ⟨rfl, hb⟩); (refine ⟨_, rfl, ?_⟩); (have n0_ := Aside0.mk (kbI hb BK101)); (have n1_ := Aside0.mk (kbI hb BK108)); (have n2_ := Aside0.mk (sI hb HB)); clear BK101 BK108 HB; (have BK101 := n0_); (have BK108 := n1_); (have HB := n2_); clear n0_ n1_ n2_; ((try clear hb)); ((try clear hb2)); ((try clear hk)); ((try clear hi)); (refine hK.out _ _ ⟨cz BK101.out 0, cz BK101.out 1, cz BK108.out 0, cz BK108.out 1, (hcI HB hw111_0), (hcI HB hw111_1)⟩ (fun hHeld => ?_)); clear hK K; (refine nP (some 89) (h := ?_)); (refine pB 11 (cn 13 12) (some 90) HT_ (h := ?_)); (refine pB 12 (cn 13 13) (some 91) HT_ (h := ?_)); (refine done_ (done_of HT_.out (by kernel_rfl)) ?_); (try go_wp2); go_roundg kj49
                   case measure => have := HJ1.out; have := HK2.out; have := HK3.out; have := HJ49.out; omega
                   case rel => exact ⟨(wrap64 (x55_3 + 1)), (by first | rfl | (simp; done) | (simp [*]; done)), H', ⟨by have := HJ1.out; have := HK2.out; have := HK3.out; have := HJ49.out; omega⟩, ⟨kI BK101⟩, ⟨eI HB⟩⟩
                 ·rw [if_neg c75] at H
                  exact absurd H (by simp)
                ·rw [if_neg c74] at H
                 exact absurd H (by simp)
               ·rw [if_neg c72] at H
                (have c72b0 : decide (0 < x55_3) = false := decide_eq_false c72); clear c72; (have H' := Aside0.mk H); clear H; (try go_wp2); (have n0_ := Aside0.mk (blk_drew BK101.out)); (have n1_ := Aside0.mk (blk_drew BK108.out)); (have n2_ := Aside0.mk (below_drew1 HB.out)); clear BK101 BK108 HB; (have BK101 := n0_); (have BK108 := n1_); (have HB := n2_); clear n0_ n1_ n2_; (refine start_ (n := 13) (S := fun w' => True) (ds := []) (cn 13 0) (by kernel_rfl) rfl (by kernel_rfl) trivial (fun hHeld => ?_); refine with_tabW impl_IsValidRecord.tab14 impl_IsValidRecord.bits14 (fun HT_ HW_ => ?_)); (generalize wc.drew = w82 at BK101 BK108 HB hHeld ⊢); (refine pB 0 (cn 13 1) (some 79) HT_ (h := ?_)); (refine pB 1 (cn 13 2) (some 80) HT_ (h := ?_)); (refine pB 2 (cn 13 3) (some 81) HT_ (h := ?_)); (refine pU 3 (cn 13 4) (some 82) HT_ (h := ?_)); (refine pU 4 (cn 13 5) (some 83) HT_ (h := ?_)); (refine pU 5 (cn 13 6) (some 84) HT_ (h := ?_)); (refine pU 6 (cn 13 7) (some 85) HT_ (h := ?_)); (refine pU 7 (cn 13 8) (some 86) HT_ (h := ?_)); (refine pU 8 (cn 13 9) (some 87) HT_ (h := ?_)); (refine pU 9 (cn 13 10) (some 88) HT_ (h := ?_)); (refine pU 10 (cn 13 11) (some 89) HT_ (h := ?_)); (refine pU 11 (cn 13 12) (some 90) HT_ (h := ?_)); (refine pB 12 (cn 13 13) (some 91) HT_ (h := ?_)); (refine done_ (done_of HT_.out (by kernel_rfl)) ?_); (try go_wp2); go_roundg kj49
                case measure => have := HJ1.out; have := HK2.out; have := HK3.out; have := HJ49.out; omega
                case rel => exact ⟨(wrap64 (x55_3 + 1)), (by first | rfl | (simp; done) | (simp [*]; done)), H', ⟨by have := HJ1.out; have := HK2.out; have := HK3.out; have := HJ49.out; omega⟩, ⟨kI BK101⟩, ⟨eI HB⟩⟩
           ·rw [if_neg c49] at H
            exact absurd H (by simp)
          ·rw [if_neg c48] at H
           exact absurd H (by simp)
         ·rw [if_neg c47] at H
          (have c47b0 := decide_eq_false c47); clear c47; (obtain rfl := Option.some.inj H); (go_wp2); go_ret; (exact ⟨rfl, eI HB⟩)
/-! ### impl_withNewlines: function 29 -/
def impl_withNewlines.l0 : Nat → ByteArray → List ByteArray → Int → Int → Option (ByteArray)
 | 0, _, _, _, _ => none
 | k + 1, x3, x6, x7, x8 => if x8 < x7 then (if 0 ≤ x8 then (if x8 < (x6.length : Int) then (if (rdOf ByteArray.empty x6 x8).size + 1 ≤ 9223372036854775807 then (if x3.size + ((rdOf ByteArray.empty x6 x8) ++ (⟨#[10]⟩ : ByteArray)).size ≤ 9223372036854775807 then (impl_withNewlines.l0 k (x3 ++ ((rdOf ByteArray.empty x6 x8) ++ (⟨#[10]⟩ : ByteArray))) x6 x7 (wrap64 (x8 + 1))) else (none)) else (none)) else (none)) else (none)) else (some x3)
def impl_withNewlines.f (k : Nat) (l0 : List ByteArray) : Option (ByteArray) := impl_withNewlines.l0 k (⟨#[]⟩ : ByteArray) l0 (l0.length : Int) 0
set_option maxHeartbeats 8000000 in
set_option maxRecDepth 100000 in
theorem impl_withNewlines.calls (k : Nat) (A0 : Option Addr) (c0 : Nat) (l0 : List ByteArray) (r : ByteArray) (w : World) (hr0 : Kd.C Kd.string w A0 l0.length l0) (hc0 : l0.length ≤ c0) (h : impl_withNewlines.f k l0 = some r) :
  Calls Tryz.prog 29 #[.slice A0 l0.length c0] w fun e w' => e = .returned (.string r) ∧ Drawn0 w w' := by
 (have HR0 := Aside0.mk hr0); (have HC0 := Aside0.mk hc0); clear hr0 hc0; (unfold impl_withNewlines.f at h); (have H := h); clear h; (have H' := Aside0.mk H); clear H; (go_enter Tryz.func29, Tryz.ntmps29); (go_wp2); (go_loopg [3, 8] k (fun kq v3 v8 w' => ∃ (x3_1 : ByteArray) (x8_1 : Int), v3 = .string x3_1 ∧ v8 = .int .i64 x8_1 ∧ Aside0 (impl_withNewlines.l0 kq x3_1 l0 (l0.length : Int) x8_1 = some r) ∧ Aside0 (kq ≤ k) ∧ Drawn0 w w'))
 case atStart => exact ⟨((⟨#[]⟩ : ByteArray)), (0), (by first | rfl | (simp; done) | (simp [*]; done)), (by first | rfl | (simp; done) | (simp [*]; done)), H', ⟨Nat.le_refl _⟩, by repeat (first | exact Drawn0.refl _ | apply Drawn0.step)⟩
 case round =>
  (clear H'); (obtain ⟨x3_1, x8_1, rfl, rfl, HA, HK1, ⟨m1, rfl⟩⟩ := hrel)
  cases gk with
  | zero => exact absurd HA.out (by simp [impl_withNewlines.l0])
  | succ k1 =>
   (have H := HA.out); clear HA; (simp only [impl_withNewlines.l0] at H); (by_cases c2 : x8_1 < (l0.length : Int))
   ·rw [if_pos c2] at H
    (have c2b0 := decide_eq_true c2); clear c2; (by_cases c3 : 0 ≤ x8_1)
    ·rw [if_pos c3] at H
     (have c3b0 := decide_eq_true c3); clear c3; (by_cases c4 : x8_1 < (l0.length : Int))
     ·rw [if_pos c4] at H
      (have c4b0 := decide_eq_true c4); clear c4; (by_cases c5 : (rdOf ByteArray.empty l0 x8_1).size + 1 ≤ 9223372036854775807)
      ·rw [if_pos c5] at H
       (have c5b0 := eq_true c5); (have c5b1 := decide_eq_true c5); (try have c5b2 : (9223372036854775807 < (rdOf ByteArray.empty l0 x8_1).size + 1) = False := eq_false (Nat.not_lt.2 c5)); (by_cases c6 : x3_1.size + ((rdOf ByteArray.empty l0 x8_1) ++ (⟨#[10]⟩ : ByteArray)).size ≤ 9223372036854775807)
       ·rw [if_pos c6] at H
        (have c6b0 := eq_true c6); (have c6b1 := decide_eq_true c6); (try have c6n0 := c6b0); (try (push_cast [Int.toNat_natCast, ByteArray.size_append, show (⟨#[10]⟩ : ByteArray).size = 1 from rfl] at c6n0)); (try have c6n1 := c6b1); (try (push_cast [Int.toNat_natCast, ByteArray.size_append, show (⟨#[10]⟩ : ByteArray).size = 1 from rfl] at c6n1)); (try have c6b2 : (9223372036854775807 < x3_1.size + ((rdOf ByteArray.empty l0 x8_1) ++ (⟨#[10]⟩ : ByteArray)).size) = False := eq_false (Nat.not_lt.2 c6)); (try have c6b3 := c6b2); (try simp only [ByteArray.size_append, show (⟨#[10]⟩ : ByteArray).size = 1 from rfl] at c6b3); (have H' := Aside0.mk H); clear H; (have p101 : 0 ≤ (x8_1 : Int) := odt); (have q101 : x8_1 < (l0.length : Int) := odt); (obtain ⟨ad101, e101, hx101_0⟩ := Kd.at_string HR0.out x8_1 p101 q101); (cases e101); (replace p101 := eq_true p101); (replace q101 := eq_true q101); (go_wp2); go_roundg k1
        case measure => have := HK1.out; omega
        case rel => exact ⟨(x3_1 ++ ((rdOf ByteArray.empty l0 x8_1) ++ (⟨#[10]⟩ : ByteArray))), (wrap64 (x8_1 + 1)), (by first | rfl | (simp; done) | (simp [*]; done)), (by first | rfl | (simp; done) | (simp [*]; done)), H', ⟨by have := HK1.out; omega⟩, by repeat (first | exact Drawn0.refl _ | apply Drawn0.step)⟩
       ·rw [if_neg c6] at H
        exact absurd H (by simp)
      ·rw [if_neg c5] at H
       exact absurd H (by simp)
     ·rw [if_neg c4] at H
      exact absurd H (by simp)
    ·rw [if_neg c3] at H
     exact absurd H (by simp)
   ·rw [if_neg c2] at H
    (have c2b0 := decide_eq_false c2); clear c2; (obtain rfl := Option.some.inj H); (go_wp2); go_ret; (exact ⟨by first | rfl | (simp; done) | (simp [*]; done), by repeat (first | exact Drawn0.refl _ | apply Drawn0.step)⟩)

end Go.Proofs.YtogjjcjnnclghaaGreatDoor.X
namespace Go.Proofs
open Go.Shelf
def Tryz.lays137_ren : Go.Shelf.Ren := ⟨fun | 137 => 79 | 217 => 86 | 266 => 100 | n => n, fun | 9 => 9 | 5 => 5 | 3 => 3 | n => n, fun | n => n⟩
theorem Tryz.lays137 : Go.Proofs.Lays.n137 Tryz.prog Tryz.lays137_ren := {
  mixed := by kernel_rfl
  f137 := Tryz.func79.trans (congrArg some (by kernel_rfl))
  f217 := Tryz.func86.trans (congrArg some (by kernel_rfl))
  f266 := Tryz.func100.trans (congrArg some (by kernel_rfl))
  t3 := Tryz.underlying3
  a3 := Tryz.isAgg3
  z3 := Tryz.sizeOf3
  v3 := Tryz.zeroValue3
  t5 := Tryz.underlying5
  a5 := Tryz.isAgg5
  z5 := Tryz.sizeOf5
  v5 := Tryz.zeroValue5
  t9 := Tryz.underlying9
  a9 := Tryz.isAgg9
  z9 := Tryz.sizeOf9
  v9 := Tryz.zeroValue9 }
open Go.RowKit in
/-- strings.IndexByte: "IndexByte returns the index of the first instance of c in s, or -1 if c is not present in s.": IT RETURNS 'Lib.indexByte s c'; the world is as it was. (LAID: no walk: one application.) -/
theorem Tryz.strings_IndexByte (s : ByteArray) (c : Int) (w : World) :
    Calls Tryz.prog 79 #[.string s, .int .u8 c] w fun e w' => e = .returned (.int .i64 (Lib.indexByte s.data.toList c.toNat.toUInt8)) ∧ w' = w := Any.strings_IndexByte Tryz.lays137 s c w
def Tryz.laysM171_ren : Go.Shelf.Ren := ⟨fun | 171 => 52 | 243 => 71 | 246 => 81 | 283 => 91 | 284 => 92 | 285 => 93 | 286 => 94 | 129 => 106 | 317 => 105 | 318 => 107 | 319 => 108 | 320 => 109 | 337 => 117 | 338 => 118 | n => n, fun | 3 => 3 | 9 => 9 | 2 => 2 | 4 => 4 | 171 => 126 | 0 => 0 | 53 => 127 | 37 => 130 | 5 => 5 | 173 => 131 | 212 => 140 | 51 => 141 | 20 => 20 | 213 => 142 | 46 => 143 | 232 => 150 | 233 => 151 | n => n, fun | 17 => 0 | 18 => 2 | 19 => 3 | n => n⟩
theorem Tryz.laysM171 : Go.Proofs.LaysM.n171 Tryz.prog Tryz.laysM171_ren := {
  mixed := by kernel_rfl
  f129 := Tryz.func106.trans (congrArg some (by kernel_rfl))
  f171 := Tryz.func52.trans (congrArg some (by kernel_rfl))
  f243 := Tryz.func71.trans (congrArg some (by kernel_rfl))
  f246 := Tryz.func81.trans (congrArg some (by kernel_rfl))
  f283 := Tryz.func91.trans (congrArg some (by kernel_rfl))
  f284 := Tryz.func92.trans (congrArg some (by kernel_rfl))
  f285 := Tryz.func93.trans (congrArg some (by kernel_rfl))
  f286 := Tryz.func94.trans (congrArg some (by kernel_rfl))
  f317 := Tryz.func105.trans (congrArg some (by kernel_rfl))
  f318 := Tryz.func107.trans (congrArg some (by kernel_rfl))
  f319 := Tryz.func108.trans (congrArg some (by kernel_rfl))
  f320 := Tryz.func109.trans (congrArg some (by kernel_rfl))
  f337 := Tryz.func117.trans (congrArg some (by kernel_rfl))
  f338 := Tryz.func118.trans (congrArg some (by kernel_rfl))
  t0 := Tryz.underlying0
  a0 := Tryz.isAgg0
  z0 := Tryz.sizeOf0
  v0 := Tryz.zeroValue0
  t2 := Tryz.underlying2
  a2 := Tryz.isAgg2
  z2 := Tryz.sizeOf2
  v2 := Tryz.zeroValue2
  t3 := Tryz.underlying3
  a3 := Tryz.isAgg3
  z3 := Tryz.sizeOf3
  v3 := Tryz.zeroValue3
  t4 := Tryz.underlying4
  a4 := Tryz.isAgg4
  z4 := Tryz.sizeOf4
  v4 := Tryz.zeroValue4
  t5 := Tryz.underlying5
  a5 := Tryz.isAgg5
  z5 := Tryz.sizeOf5
  v5 := Tryz.zeroValue5
  t9 := Tryz.underlying9
  a9 := Tryz.isAgg9
  z9 := Tryz.sizeOf9
  v9 := Tryz.zeroValue9
  t20 := Tryz.underlying20
  a20 := Tryz.isAgg20
  z20 := Tryz.sizeOf20
  v20 := Tryz.zeroValue20
  t37 := Tryz.underlying130
  a37 := Tryz.isAgg130
  z37 := Tryz.sizeOf130
  v37 := Tryz.zeroValue130
  t46 := Tryz.underlying143
  a46 := Tryz.isAgg143
  z46 := Tryz.sizeOf143
  v46 := Tryz.zeroValue143
  t51 := Tryz.underlying141
  a51 := Tryz.isAgg141
  z51 := Tryz.sizeOf141
  v51 := Tryz.zeroValue141
  t53 := Tryz.underlying127
  a53 := Tryz.isAgg127
  z53 := Tryz.sizeOf127
  v53 := Tryz.zeroValue127
  t171 := Tryz.underlying126
  a171 := Tryz.isAgg126
  z171 := Tryz.sizeOf126
  v171 := Tryz.zeroValue126
  t173 := Tryz.underlying131
  a173 := Tryz.isAgg131
  z173 := Tryz.sizeOf131
  v173 := Tryz.zeroValue131
  t212 := Tryz.underlying140
  a212 := Tryz.isAgg140
  z212 := Tryz.sizeOf140
  v212 := Tryz.zeroValue140
  t213 := Tryz.underlying142
  a213 := Tryz.isAgg142
  z213 := Tryz.sizeOf142
  t232 := Tryz.underlying150
  a232 := Tryz.isAgg150
  z232 := Tryz.sizeOf150
  v232 := Tryz.zeroValue150
  t233 := Tryz.underlying151
  a233 := Tryz.isAgg151
  z233 := Tryz.sizeOf151
  v233 := Tryz.zeroValue151
  g17 := by kernel_rfl
  g18 := by kernel_rfl
  g19 := by kernel_rfl
  i0 := by kernel_rfl
  i2 := by kernel_rfl
  i3 := by kernel_rfl
  i4 := by kernel_rfl
  i5 := by kernel_rfl
  i9 := by kernel_rfl
  i20 := by kernel_rfl
  i37 := by kernel_rfl
  i46 := by kernel_rfl
  i51 := by kernel_rfl
  i53 := by kernel_rfl
  i171 := by kernel_rfl
  i173 := by kernel_rfl
  i212 := by kernel_rfl
  i232 := by kernel_rfl
  i233 := by kernel_rfl
  m17 := by kernel_rfl
  m18 := by kernel_rfl
  m19 := by kernel_rfl }
open Go.RowKit Go.Sort Go.Lib in
/-- strconv.Itoa: "Itoa is equivalent to FormatInt(int64(i), 10).": i's DECIMAL NUMERAL ('Lib.itoa': a '-' where i is negative, then the digits), FOR EVERY int. The world behind the call: the world before it, new blocks behind the heap (the library's 'var a [24]byte'), draws. (LAID: no walk: one application.) -/
theorem Tryz.strconv_Itoa (n : Int) (h0 : -9223372036854775808 ≤ n) (h1 : n ≤ 9223372036854775807) (w : World) (htab : Lib.TabIs Tryz.prog w "internal/strconv.uint64pow10" .u64 Lib.pow10Tab) :
    Calls Tryz.prog 52 #[.int .i64 n] w fun e w' => e = .returned (.string ⟨(Lib.itoa n).toArray⟩) ∧ ∃ k os, w' = grow (w.drewN k) os := Any.strconv_Itoa Tryz.laysM171 n h0 h1 w htab
def Tryz.lays219_ren : Go.Shelf.Ren := ⟨fun | 219 => 114 | 217 => 86 | 225 => 120 | 224 => 121 | 267 => 122 | 266 => 100 | 314 => 123 | n => n, fun | 9 => 9 | 3 => 3 | 4 => 4 | 5 => 5 | 46 => 143 | 146 => 152 | 51 => 141 | n => n, fun | 1 => 1 | n => n⟩
theorem Tryz.lays219 : Go.Proofs.Lays.n219 Tryz.prog Tryz.lays219_ren := {
  mixed := by kernel_rfl
  f217 := Tryz.func86.trans (congrArg some (by kernel_rfl))
  f219 := Tryz.func114.trans (congrArg some (by kernel_rfl))
  f224 := Tryz.func121.trans (congrArg some (by kernel_rfl))
  f225 := Tryz.func120.trans (congrArg some (by kernel_rfl))
  f266 := Tryz.func100.trans (congrArg some (by kernel_rfl))
  f267 := Tryz.func122.trans (congrArg some (by kernel_rfl))
  f314 := Tryz.func123.trans (congrArg some (by kernel_rfl))
  t3 := Tryz.underlying3
  a3 := Tryz.isAgg3
  z3 := Tryz.sizeOf3
  v3 := Tryz.zeroValue3
  t4 := Tryz.underlying4
  a4 := Tryz.isAgg4
  z4 := Tryz.sizeOf4
  v4 := Tryz.zeroValue4
  t5 := Tryz.underlying5
  a5 := Tryz.isAgg5
  z5 := Tryz.sizeOf5
  v5 := Tryz.zeroValue5
  t9 := Tryz.underlying9
  a9 := Tryz.isAgg9
  z9 := Tryz.sizeOf9
  v9 := Tryz.zeroValue9
  t46 := Tryz.underlying143
  a46 := Tryz.isAgg143
  z46 := Tryz.sizeOf143
  v46 := Tryz.zeroValue143
  t51 := Tryz.underlying141
  a51 := Tryz.isAgg141
  z51 := Tryz.sizeOf141
  v51 := Tryz.zeroValue141
  t146 := Tryz.underlying152
  a146 := Tryz.isAgg152
  z146 := Tryz.sizeOf152
  v146 := Tryz.zeroValue152
  g1 := by kernel_rfl }
open Go.RowKit Go.Lib in
/-- internal/stringslite.Index (what strings.Index calls) AT A substr OF ONE BYTE c: IT RETURNS 'Lib.indexByte s c'; the world is as it was. (LAID: no walk: one application.) -/
theorem Tryz.stringslite_Index_one (s : ByteArray) (c : UInt8) (w : World) :
    Calls Tryz.prog 114 #[.string s, .string ⟨#[c]⟩] w fun e w' => e = .returned (.int .i64 (Lib.indexByte s.data.toList c)) ∧ w' = w := Any.stringslite_Index_one Tryz.lays219 s c w
open Go.RowKit Go.Lib in
/-- internal/stringslite.Index (what strings.Index calls) AT A substr OF WHATEVER LENGTH: IT RETURNS 'Lib.index s substr'; the world is as it was. 'm': what internal/bytealg.MaxLen holds: whatever. (LAID: no walk: one application.) -/
theorem Tryz.stringslite_Index (s sub : ByteArray) (m : Int) (w : World) (hs : s.size < 4294967281) (hm : w.cell? ⟨1, 0, none⟩ = some (.int .i64 m)) :
    Calls Tryz.prog 114 #[.string s, .string sub] w fun e w' => e = .returned (.int .i64 (Lib.index s.data.toList sub.data.toList)) ∧ w' = w := Any.stringslite_Index Tryz.lays219 s sub m w hs hm
def Tryz.lays144_ren : Go.Shelf.Ren := ⟨fun | 144 => 111 | 143 => 119 | 219 => 114 | 217 => 86 | 225 => 120 | 224 => 121 | 267 => 122 | 266 => 100 | 314 => 123 | n => n, fun | 9 => 9 | 4 => 4 | 3 => 3 | 5 => 5 | 46 => 143 | 146 => 152 | 51 => 141 | n => n, fun | 1 => 1 | n => n⟩
theorem Tryz.lays144 : Go.Proofs.Lays.n144 Tryz.prog Tryz.lays144_ren := {
  mixed := by kernel_rfl
  f143 := Tryz.func119.trans (congrArg some (by kernel_rfl))
  f144 := Tryz.func111.trans (congrArg some (by kernel_rfl))
  f217 := Tryz.func86.trans (congrArg some (by kernel_rfl))
  f219 := Tryz.func114.trans (congrArg some (by kernel_rfl))
  f224 := Tryz.func121.trans (congrArg some (by kernel_rfl))
  f225 := Tryz.func120.trans (congrArg some (by kernel_rfl))
  f266 := Tryz.func100.trans (congrArg some (by kernel_rfl))
  f267 := Tryz.func122.trans (congrArg some (by kernel_rfl))
  f314 := Tryz.func123.trans (congrArg some (by kernel_rfl))
  t3 := Tryz.underlying3
  a3 := Tryz.isAgg3
  z3 := Tryz.sizeOf3
  v3 := Tryz.zeroValue3
  t4 := Tryz.underlying4
  a4 := Tryz.isAgg4
  z4 := Tryz.sizeOf4
  v4 := Tryz.zeroValue4
  t5 := Tryz.underlying5
  a5 := Tryz.isAgg5
  z5 := Tryz.sizeOf5
  v5 := Tryz.zeroValue5
  t9 := Tryz.underlying9
  a9 := Tryz.isAgg9
  z9 := Tryz.sizeOf9
  v9 := Tryz.zeroValue9
  t46 := Tryz.underlying143
  a46 := Tryz.isAgg143
  z46 := Tryz.sizeOf143
  v46 := Tryz.zeroValue143
  t51 := Tryz.underlying141
  a51 := Tryz.isAgg141
  z51 := Tryz.sizeOf141
  v51 := Tryz.zeroValue141
  t146 := Tryz.underlying152
  a146 := Tryz.isAgg152
  z146 := Tryz.sizeOf152
  v146 := Tryz.zeroValue152
  g1 := by kernel_rfl }
open Go.RowKit Go.Lib in
/-- strings.Contains: "Contains reports whether substr is within s.": AT A substr OF ONE BYTE c: IT RETURNS 'decide (0 ≤ Lib.indexByte s c)'; the world is as it was. (LAID: no walk: one application.) -/
theorem Tryz.strings_Contains_one (s : ByteArray) (c : UInt8) (w : World) :
    Calls Tryz.prog 111 #[.string s, .string ⟨#[c]⟩] w fun e w' => e = .returned (.bool (decide (0 ≤ Lib.indexByte s.data.toList c))) ∧ w' = w := Any.strings_Contains_one Tryz.lays144 s c w
open Go.RowKit Go.Lib in
/-- strings.Contains: "Contains reports whether substr is within s.": IT RETURNS 'Lib.contains s substr'; the world is as it was. (LAID: no walk: one application.) -/
theorem Tryz.strings_Contains (s sub : ByteArray) (m : Int) (w : World) (hs : s.size < 4294967281) (hm : w.cell? ⟨1, 0, none⟩ = some (.int .i64 m)) :
    Calls Tryz.prog 111 #[.string s, .string sub] w fun e w' => e = .returned (.bool (Lib.contains s.data.toList sub.data.toList)) ∧ w' = w := Any.strings_Contains Tryz.lays144 s sub m w hs hm
def Tryz.lays220_ren : Go.Shelf.Ren := ⟨fun | 220 => 103 | 219 => 114 | 217 => 86 | 225 => 120 | 224 => 121 | 267 => 122 | 266 => 100 | 314 => 123 | n => n, fun | 9 => 9 | 4 => 4 | 3 => 3 | 5 => 5 | 46 => 143 | 146 => 152 | 51 => 141 | n => n, fun | 1 => 1 | n => n⟩
theorem Tryz.lays220 : Go.Proofs.Lays.n220 Tryz.prog Tryz.lays220_ren := {
  mixed := by kernel_rfl
  f217 := Tryz.func86.trans (congrArg some (by kernel_rfl))
  f219 := Tryz.func114.trans (congrArg some (by kernel_rfl))
  f220 := Tryz.func103.trans (congrArg some (by kernel_rfl))
  f224 := Tryz.func121.trans (congrArg some (by kernel_rfl))
  f225 := Tryz.func120.trans (congrArg some (by kernel_rfl))
  f266 := Tryz.func100.trans (congrArg some (by kernel_rfl))
  f267 := Tryz.func122.trans (congrArg some (by kernel_rfl))
  f314 := Tryz.func123.trans (congrArg some (by kernel_rfl))
  t3 := Tryz.underlying3
  a3 := Tryz.isAgg3
  z3 := Tryz.sizeOf3
  v3 := Tryz.zeroValue3
  t4 := Tryz.underlying4
  a4 := Tryz.isAgg4
  z4 := Tryz.sizeOf4
  v4 := Tryz.zeroValue4
  t5 := Tryz.underlying5
  a5 := Tryz.isAgg5
  z5 := Tryz.sizeOf5
  v5 := Tryz.zeroValue5
  t9 := Tryz.underlying9
  a9 := Tryz.isAgg9
  z9 := Tryz.sizeOf9
  v9 := Tryz.zeroValue9
  t46 := Tryz.underlying143
  a46 := Tryz.isAgg143
  z46 := Tryz.sizeOf143
  v46 := Tryz.zeroValue143
  t51 := Tryz.underlying141
  a51 := Tryz.isAgg141
  z51 := Tryz.sizeOf141
  v51 := Tryz.zeroValue141
  t146 := Tryz.underlying152
  a146 := Tryz.isAgg152
  z146 := Tryz.sizeOf152
  v146 := Tryz.zeroValue152
  g1 := by kernel_rfl }
open Go.RowKit Go.Lib in
/-- internal/stringslite.Cut (what strings.Cut calls): IT RETURNS 'Lib.cut s sep'; the world is as it was but for the count of draws. (LAID: no walk: one application.) -/
theorem Tryz.stringslite_Cut (s sep : ByteArray) (m : Int) (w : World) (hs : s.size < 4294967281) (hm : w.cell? ⟨1, 0, none⟩ = some (.int .i64 m)) :
    Calls Tryz.prog 103 #[.string s, .string sep] w fun e w' => e = .returned (.tuple #[.string ⟨(Lib.cut s.data.toList sep.data.toList).1.toArray⟩, .string ⟨(Lib.cut s.data.toList sep.data.toList).2.1.toArray⟩, .bool (Lib.cut s.data.toList sep.data.toList).2.2]) ∧ ∃ n, w' = w.drewN n := Any.stringslite_Cut Tryz.lays220 s sep m w hs hm
def Tryz.lays145_ren : Go.Shelf.Ren := ⟨fun | 145 => 89 | 220 => 103 | 219 => 114 | 217 => 86 | 225 => 120 | 224 => 121 | 267 => 122 | 266 => 100 | 314 => 123 | n => n, fun | 9 => 9 | 4 => 4 | 59 => 123 | 3 => 3 | 5 => 5 | 46 => 143 | 146 => 152 | 51 => 141 | n => n, fun | 1 => 1 | n => n⟩
theorem Tryz.lays145 : Go.Proofs.Lays.n145 Tryz.prog Tryz.lays145_ren := {
  mixed := by kernel_rfl
  f145 := Tryz.func89.trans (congrArg some (by kernel_rfl))
  f217 := Tryz.func86.trans (congrArg some (by kernel_rfl))
  f219 := Tryz.func114.trans (congrArg some (by kernel_rfl))
  f220 := Tryz.func103.trans (congrArg some (by kernel_rfl))
  f224 := Tryz.func121.trans (congrArg some (by kernel_rfl))
  f225 := Tryz.func120.trans (congrArg some (by kernel_rfl))
  f266 := Tryz.func100.trans (congrArg some (by kernel_rfl))
  f267 := Tryz.func122.trans (congrArg some (by kernel_rfl))
  f314 := Tryz.func123.trans (congrArg some (by kernel_rfl))
  t3 := Tryz.underlying3
  a3 := Tryz.isAgg3
  z3 := Tryz.sizeOf3
  v3 := Tryz.zeroValue3
  t4 := Tryz.underlying4
  a4 := Tryz.isAgg4
  z4 := Tryz.sizeOf4
  v4 := Tryz.zeroValue4
  t5 := Tryz.underlying5
  a5 := Tryz.isAgg5
  z5 := Tryz.sizeOf5
  v5 := Tryz.zeroValue5
  t9 := Tryz.underlying9
  a9 := Tryz.isAgg9
  z9 := Tryz.sizeOf9
  v9 := Tryz.zeroValue9
  t46 := Tryz.underlying143
  a46 := Tryz.isAgg143
  z46 := Tryz.sizeOf143
  v46 := Tryz.zeroValue143
  t51 := Tryz.underlying141
  a51 := Tryz.isAgg141
  z51 := Tryz.sizeOf141
  v51 := Tryz.zeroValue141
  t59 := Tryz.underlying123
  a59 := Tryz.isAgg123
  z59 := Tryz.sizeOf123
  v59 := Tryz.zeroValue123
  t146 := Tryz.underlying152
  a146 := Tryz.isAgg152
  z146 := Tryz.sizeOf152
  v146 := Tryz.zeroValue152
  g1 := by kernel_rfl }
open Go.RowKit Go.Lib in
/-- strings.Cut: "Cut slices s around the first instance of sep, returning the text before and after sep. The found result reports whether sep appears in s. If sep does not appear in s, cut returns s, "", false.": IT RETURNS 'Lib.cut s sep'; the world is as it was but for the count of draws. (LAID: no walk: one application.) -/
theorem Tryz.strings_Cut (s sep : ByteArray) (m : Int) (w : World) (hs : s.size < 4294967281) (hm : w.cell? ⟨1, 0, none⟩ = some (.int .i64 m)) :
    Calls Tryz.prog 89 #[.string s, .string sep] w fun e w' => e = .returned (.tuple #[.string ⟨(Lib.cut s.data.toList sep.data.toList).1.toArray⟩, .string ⟨(Lib.cut s.data.toList sep.data.toList).2.1.toArray⟩, .bool (Lib.cut s.data.toList sep.data.toList).2.2]) ∧ ∃ n, w' = w.drewN n := Any.strings_Cut Tryz.lays145 s sep m w hs hm
def Tryz.lays207_ren : Go.Shelf.Ren := ⟨fun | 207 => 113 | n => n, fun | 9 => 9 | 4 => 4 | 3 => 3 | n => n, fun | n => n⟩
theorem Tryz.lays207 : Go.Proofs.Lays.n207 Tryz.prog Tryz.lays207_ren := {
  mixed := by kernel_rfl
  f207 := Tryz.func113.trans (congrArg some (by kernel_rfl))
  t3 := Tryz.underlying3
  a3 := Tryz.isAgg3
  z3 := Tryz.sizeOf3
  v3 := Tryz.zeroValue3
  t4 := Tryz.underlying4
  a4 := Tryz.isAgg4
  z4 := Tryz.sizeOf4
  v4 := Tryz.zeroValue4
  t9 := Tryz.underlying9
  a9 := Tryz.isAgg9
  z9 := Tryz.sizeOf9
  v9 := Tryz.zeroValue9 }
open Go.RowKit Go.Lib in
/-- internal/stringslite.HasSuffix (what strings.HasSuffix calls). (LAID: no walk: one application.) -/
theorem Tryz.stringslite_HasSuffix (s p : ByteArray) (w : World) (hs : s.size ≤ 9223372036854775807) :
    Calls Tryz.prog 113 #[.string s, .string p] w fun e w' => e = .returned (.bool (Lib.hasSuffix s.data.toList p.data.toList)) ∧ w' = w := Any.stringslite_HasSuffix Tryz.lays207 s p w hs
def Tryz.lays209_ren : Go.Shelf.Ren := ⟨fun | 209 => 102 | 207 => 113 | n => n, fun | 9 => 9 | 4 => 4 | 3 => 3 | n => n, fun | n => n⟩
theorem Tryz.lays209 : Go.Proofs.Lays.n209 Tryz.prog Tryz.lays209_ren := {
  mixed := by kernel_rfl
  f207 := Tryz.func113.trans (congrArg some (by kernel_rfl))
  f209 := Tryz.func102.trans (congrArg some (by kernel_rfl))
  t3 := Tryz.underlying3
  a3 := Tryz.isAgg3
  z3 := Tryz.sizeOf3
  v3 := Tryz.zeroValue3
  t4 := Tryz.underlying4
  a4 := Tryz.isAgg4
  z4 := Tryz.sizeOf4
  v4 := Tryz.zeroValue4
  t9 := Tryz.underlying9
  a9 := Tryz.isAgg9
  z9 := Tryz.sizeOf9
  v9 := Tryz.zeroValue9 }
open Go.RowKit Go.Lib in
/-- internal/stringslite.TrimSuffix (what strings.TrimSuffix calls). (LAID: no walk: one application.) -/
theorem Tryz.stringslite_TrimSuffix (s p : ByteArray) (w : World) (hs : s.size ≤ 9223372036854775807) :
    Calls Tryz.prog 102 #[.string s, .string p] w fun e w' => e = .returned (.string ⟨(Lib.trimSuffix s.data.toList p.data.toList).toArray⟩) ∧ w' = w := Any.stringslite_TrimSuffix Tryz.lays209 s p w hs
def Tryz.lays102_ren : Go.Shelf.Ren := ⟨fun | 102 => 88 | 209 => 102 | 207 => 113 | n => n, fun | 9 => 9 | 4 => 4 | 3 => 3 | n => n, fun | n => n⟩
theorem Tryz.lays102 : Go.Proofs.Lays.n102 Tryz.prog Tryz.lays102_ren := {
  mixed := by kernel_rfl
  f102 := Tryz.func88.trans (congrArg some (by kernel_rfl))
  f207 := Tryz.func113.trans (congrArg some (by kernel_rfl))
  f209 := Tryz.func102.trans (congrArg some (by kernel_rfl))
  t3 := Tryz.underlying3
  a3 := Tryz.isAgg3
  z3 := Tryz.sizeOf3
  v3 := Tryz.zeroValue3
  t4 := Tryz.underlying4
  a4 := Tryz.isAgg4
  z4 := Tryz.sizeOf4
  v4 := Tryz.zeroValue4
  t9 := Tryz.underlying9
  a9 := Tryz.isAgg9
  z9 := Tryz.sizeOf9
  v9 := Tryz.zeroValue9 }
open Go.RowKit Go.Lib in
/-- strings.TrimSuffix: "TrimSuffix returns s without the provided trailing suffix string. If s doesn't end with suffix, s is returned unchanged.": IT RETURNS 'Lib.trimSuffix s suffix'; the world is as it was. (LAID: no walk: one application.) -/
theorem Tryz.strings_TrimSuffix (s p : ByteArray) (w : World) (hs : s.size ≤ 9223372036854775807) :
    Calls Tryz.prog 88 #[.string s, .string p] w fun e w' => e = .returned (.string ⟨(Lib.trimSuffix s.data.toList p.data.toList).toArray⟩) ∧ w' = w := Any.strings_TrimSuffix Tryz.lays102 s p w hs
end Go.Proofs
namespace Go.Proofs.YtogjjcjnnclghaaGreatDoor.X
open Go.RowKit Go.Proofs.YtogjjcjnnclghaaGreatDoorW.PrintWords Go.Proofs.YtogjjcjnnclghaaGreatDoorW.PrintLast Go.Proofs.YtogjjcjnnclghaaGreatDoorW.PrintMore Go.Proofs.YtogjjcjnnclghaaGreatDoor.E
attribute [local go_sem] max2_int min2_int max_two min_two max_three min_three max_four min_four   -- for this text's walks alone
set_option linter.unusedVariables false
set_option linter.unusedSimpArgs false
attribute [-simp] ByteArray.size_append ByteArray.size_extract
attribute [-go_sem] ByteArray.size_append'

/-! ### strconv_Itoa: function 52 -/
def strconv_Itoa.f (a0 : Int) : Option ByteArray := if -9223372036854775808 ≤ a0 ∧ a0 ≤ 9223372036854775807 then some ⟨(Lib.itoa a0).toArray⟩ else none
theorem strconv_Itoa.calls (a0 : Int) (r : ByteArray) (w : World) (hG : GT w) (h : strconv_Itoa.f a0 = some r) :
  Calls Tryz.prog 52 #[.int .i64 a0] w fun e w' => e = .returned (.string r) ∧ Below w.heap.size w w' := by
 (unfold strconv_Itoa.f at h); (split at h); (· (rename_i hc); (cases h); (refine (Tryz.strconv_Itoa a0 hc.1 hc.2 w hG).mono ?_); (rintro e w' ⟨rfl, k, os, rfl⟩); (exact ⟨rfl, Lib.below_grow _ _ (Nat.le_refl _) _ _⟩)); (· (cases h))

end Go.Proofs.YtogjjcjnnclghaaGreatDoor.X
namespace Go.Proofs.YtogjjcjnnclghaaGreatDoor.X
open Go.RowKit Go.Proofs.YtogjjcjnnclghaaGreatDoorW.PrintWords Go.Proofs.YtogjjcjnnclghaaGreatDoorW.PrintLast Go.Proofs.YtogjjcjnnclghaaGreatDoorW.PrintMore
attribute [local go_sem] max2_int min2_int max_two min_two max_three min_three max_four min_four   -- for this text's walks alone
set_option linter.unusedVariables false
set_option linter.unusedSimpArgs false
attribute [-simp] ByteArray.size_append ByteArray.size_extract
attribute [-go_sem] ByteArray.size_append'

/-! ### impl_kindWords: function 72 -/
def impl_kindWords.f  : Option (List ByteArray) := some (([(⟨#[]⟩ : ByteArray), (⟨#[100, 101, 112, 111, 115, 105, 116]⟩ : ByteArray), (⟨#[99, 117, 116]⟩ : ByteArray), (⟨#[115, 116, 114, 117, 99, 116, 117, 114, 101]⟩ : ByteArray), (⟨#[110, 97, 116, 117, 114, 97, 108]⟩ : ByteArray)] : List ByteArray))
set_option maxHeartbeats 8000000 in
set_option maxRecDepth 100000 in
theorem impl_kindWords.calls  (r : List ByteArray) (w : World) (h : impl_kindWords.f  = some r) :
  Calls Tryz.prog 72 #[] w fun e w' => ∃ v0_ : Value, e = .returned (v0_) ∧ Kd.R Kd.string 9 w' w.heap.size (fun _ => True) v0_ r ∧ Below w.heap.size w w' := by
 (have HB := Aside0.mk (Below.refl w.heap.size w)); (unfold impl_kindWords.f at h); (have H := h); clear h; (obtain ⟨y101, hy101⟩ : ∃ y_ : List ByteArray, y_ = (([(⟨#[]⟩ : ByteArray), (⟨#[100, 101, 112, 111, 115, 105, 116]⟩ : ByteArray), (⟨#[99, 117, 116]⟩ : ByteArray), (⟨#[115, 116, 114, 117, 99, 116, 117, 114, 101]⟩ : ByteArray), (⟨#[110, 97, 116, 117, 114, 97, 108]⟩ : ByteArray)] : List ByteArray)) := ⟨_, rfl⟩); (replace H : (some y101) = some r := by first | (rw [hy101]; with_reducible exact H) | (have H2_ := (Option.bind_some _ _).symm.trans H; rw [hy101]; with_reducible exact H2_) | (have H2_ := (Option.bind_some _ _).symm.trans H; with_reducible exact H2_) | with_reducible exact H | (rw [hy101]; exact H) | exact H); (have Ny101 := Aside0.mk hy101); clear hy101; (obtain rfl := Option.some.inj H); (go_enter Tryz.func72, Tryz.ntmps72); (go_wp2_with (first | ((with_reducible refine gate_dst (N := 1) rfl ?_); refine Kd.R_lit Kd.string _ 9 ?hg (N := 1) ?hd (xs := ([(⟨#[]⟩ : ByteArray), (⟨#[100, 101, 112, 111, 115, 105, 116]⟩ : ByteArray), (⟨#[99, 117, 116]⟩ : ByteArray), (⟨#[115, 116, 114, 117, 99, 116, 117, 114, 101]⟩ : ByteArray), (⟨#[110, 97, 116, 117, 114, 97, 108]⟩ : ByteArray)] : List ByteArray)) (inner := [.string (⟨#[]⟩ : ByteArray), .string (⟨#[100, 101, 112, 111, 115, 105, 116]⟩ : ByteArray), .string (⟨#[99, 117, 116]⟩ : ByteArray), .string (⟨#[115, 116, 114, 117, 99, 116, 117, 114, 101]⟩ : ByteArray), .string (⟨#[110, 97, 116, 117, 114, 97, 108]⟩ : ByteArray)]) (ok := fun _ => True) (okp := fun _ => True) ?hr ?hp (fun _ hk => hk) trivial (Below.refl _ _) (Nat.le_refl _) (by simp) ?_; (case hd => rfl); (case hg => rfl); (case hr => first | (go_simp; done) | (go_simp; rfl)); (case hp => exact (Reps.one (show Kd.M Kd.string _ _ _ (⟨#[]⟩ : ByteArray) [.string (⟨#[]⟩ : ByteArray)] from rfl) (Reps.one (show Kd.M Kd.string _ _ _ (⟨#[100, 101, 112, 111, 115, 105, 116]⟩ : ByteArray) [.string (⟨#[100, 101, 112, 111, 115, 105, 116]⟩ : ByteArray)] from rfl) (Reps.one (show Kd.M Kd.string _ _ _ (⟨#[99, 117, 116]⟩ : ByteArray) [.string (⟨#[99, 117, 116]⟩ : ByteArray)] from rfl) (Reps.one (show Kd.M Kd.string _ _ _ (⟨#[115, 116, 114, 117, 99, 116, 117, 114, 101]⟩ : ByteArray) [.string (⟨#[115, 116, 114, 117, 99, 116, 117, 114, 101]⟩ : ByteArray)] from rfl) (Reps.one (show Kd.M Kd.string _ _ _ (⟨#[110, 97, 116, 117, 114, 97, 108]⟩ : ByteArray) [.string (⟨#[110, 97, 116, 117, 114, 97, 108]⟩ : ByteArray)] from rfl) (Reps.none _ _))))))); intro v102 w1 ho2 hb hg_ hnew_; clear hg_ hnew_; (first | rw [← Ny101.out] at ho2 | (simp only [Int.reduceToNat] at ho2; rw [← Ny101.out] at ho2)); have hB_ := zI hb HB; have n0_ := Aside0.mk (Kd.R_lower ho2 (below_size hB_)); have n1_ := Aside0.mk (below_step hB_ hb); clear HB; have HO103 := n0_; have HB := n1_; clear n0_ n1_ hB_ hb ho2))); go_ret; (exact ⟨_, by first | rfl | (simp [errW_none, errW_some] <;> rfl) | (simp [*, errW_none, errW_some] <;> rfl), rI HO103, eI HB⟩)
/-! ### impl_kindText: function 53 -/
def impl_kindText.f (a0 : Int) : Option (ByteArray) := if a0 = 4 then (some (⟨#[110, 97, 116, 117, 114, 97, 108]⟩ : ByteArray)) else ((impl_kindWords.f).bind fun t101 => (if 0 ≤ a0 then (if a0 < (t101.length : Int) then (if 2 + (rdOf ByteArray.empty t101 a0).size ≤ 9223372036854775807 then (some ((⟨#[97, 32]⟩ : ByteArray) ++ (rdOf ByteArray.empty t101 a0))) else (none)) else (none)) else (none)))
set_option maxHeartbeats 8000000 in
set_option maxRecDepth 100000 in
theorem impl_kindText.calls (a0 : Int) (r : ByteArray) (w : World) (h : impl_kindText.f a0 = some r) :
  Calls Tryz.prog 53 #[.int .i64 a0] w fun e w' => e = .returned (.string r) ∧ Below w.heap.size w w' := by
 (have HB := Aside0.mk (Below.refl w.heap.size w)); (unfold impl_kindText.f at h); (have H := h); clear h; (by_cases c2 : a0 = 4); (· (rw [if_pos c2] at H); (have c2b0 : (a0 == 4) = true := beq_iff_eq.mpr c2); (have c2b1 : (a0 != 4) = false := bne_eq_false_iff_eq.mpr c2); clear c2; (obtain rfl := Option.some.inj H); (go_enter Tryz.func53, Tryz.ntmps53); (go_wp2); go_ret; (exact ⟨rfl, eI HB⟩))
 ·rw [if_neg c2] at H
  (have c2b0 : (a0 == 4) = false := beq_eq_false_iff_ne.mpr c2); (have c2b1 : (a0 != 4) = true := bne_iff_ne.mpr c2); (obtain ⟨t101, A3, H⟩ := obS H); (by_cases c4 : 0 ≤ a0)
  ·rw [if_pos c4] at H
   (have c4b0 := decide_eq_true c4); clear c4; (by_cases c5 : a0 < (t101.length : Int))
   ·rw [if_pos c5] at H
    (have c5b0 := decide_eq_true c5); clear c5; (by_cases c6 : 2 + (rdOf ByteArray.empty t101 a0).size ≤ 9223372036854775807); (· (rw [if_pos c6] at H); (have c6b0 := eq_true c6); (have c6b1 := decide_eq_true c6); (try have c6b2 : (9223372036854775807 < 2 + (rdOf ByteArray.empty t101 a0).size) = False := eq_false (Nat.not_lt.2 c6)); (obtain rfl := Option.some.inj H); (go_enter Tryz.func53, Tryz.ntmps53); (go_wp2_with (first | ((with_reducible refine gate_callee (f := 72) rfl ?_); refine gL (some 5) Tryz.func72 #[] ?_; (with_reducible refine (impl_kindWords.calls  t101 _ A3.out).mono ?_); rintro e w7 ⟨v102, rfl, ho0, hb⟩; refine ⟨_, rfl, ?_⟩; have n0_ := Aside0.mk (Kd.R_lower ho0 (below_size (eI HB))); have n1_ := Aside0.mk (sI hb HB); clear HB; have HO103 := n0_; have HB := n1_; clear n0_ n1_; (try clear hb); (try clear hb2); (try clear hk); (try clear hi); (try clear ho0); obtain ⟨Ao8, co8, eo8⟩ := Kd.R_slice HO103.out; subst eo8; have p104 : 0 ≤ (a0 : Int) := odt; have q104 : a0 < (t101.length : Int) := odt; obtain ⟨ad104, e104, hx104_0⟩ := Kd.at_string (Kd.R_reads' HO103.out).2.2 a0 p104 q104; cases e104; replace p104 := eq_true p104; replace q104 := eq_true q104))); go_ret; (exact ⟨rfl, eI HB⟩)); (· (rw [if_neg c6] at H); (exact absurd H (by simp)))
   ·rw [if_neg c5] at H
    exact absurd H (by simp)
  ·rw [if_neg c4] at H
   exact absurd H (by simp)
/-! ### impl_RecordToEnglish: function 28 -/
mutual
def impl_RecordToEnglish.l0 : Nat → List ByteArray → List (S79) → Int → Int → List (S79) → List (S82) → Option (ByteArray × Bool)
 | 0, _, _, _, _, _, _ => none
 | k + 1, x4, x14, x15, x16, x102000, x102001 => if x16 < x15 then (if 0 ≤ x16 then (if x16 < (x14.length : Int) then ((strconv_Itoa.f ((rd_T79 x14 x16).f0)).bind fun t108 => (if 8 + t108.size ≤ 9223372036854775807 then (if ((⟨#[67, 111, 110, 116, 101, 120, 116, 32]⟩ : ByteArray) ++ t108).size + 4 ≤ 9223372036854775807 then ((impl_kindText.f ((rd_T79 x14 x16).f1)).bind fun t109 => (if (((⟨#[67, 111, 110, 116, 101, 120, 116, 32]⟩ : ByteArray) ++ t108) ++ (⟨#[32, 105, 115, 32]⟩ : ByteArray)).size + t109.size ≤ 9223372036854775807 then (if ((((⟨#[67, 111, 110, 116, 101, 120, 116, 32]⟩ : ByteArray) ++ t108) ++ (⟨#[32, 105, 115, 32]⟩ : ByteArray)) ++ t109).size + 1 ≤ 9223372036854775807 then (if x4.length < 8796093022208 then (impl_RecordToEnglish.l0 k (x4 ++ [((((⟨#[67, 111, 110, 116, 101, 120, 116, 32]⟩ : ByteArray) ++ t108) ++ (⟨#[32, 105, 115, 32]⟩ : ByteArray)) ++ t109) ++ (⟨#[46]⟩ : ByteArray)]) x14 x15 (wrap64 (x16 + 1)) x102000 x102001) else (none)) else (none)) else (none))) else (none)) else (none))) else (none)) else (none)) else (impl_RecordToEnglish.l1 k x4 x102001 (x102001.length : Int) 0)
def impl_RecordToEnglish.l1 : Nat → List ByteArray → List (S82) → Int → Int → Option (ByteArray × Bool)
 | 0, _, _, _, _ => none
 | k + 1, x4, x35, x36, x37 => if x37 < x36 then (if 0 ≤ x37 then (if x37 < (x35.length : Int) then ((strconv_Itoa.f ((rd_T82 x35 x37).f0)).bind fun t115 => (if 8 + t115.size ≤ 9223372036854775807 then (if ((⟨#[67, 111, 110, 116, 101, 120, 116, 32]⟩ : ByteArray) ++ t115).size + 20 ≤ 9223372036854775807 then ((strconv_Itoa.f ((rd_T82 x35 x37).f1)).bind fun t116 => (if (((⟨#[67, 111, 110, 116, 101, 120, 116, 32]⟩ : ByteArray) ++ t115) ++ (⟨#[32, 108, 105, 101, 115, 32, 97, 98, 111, 118, 101, 32, 99, 111, 110, 116, 101, 120, 116, 32]⟩ : ByteArray)).size + t116.size ≤ 9223372036854775807 then (if ((((⟨#[67, 111, 110, 116, 101, 120, 116, 32]⟩ : ByteArray) ++ t115) ++ (⟨#[32, 108, 105, 101, 115, 32, 97, 98, 111, 118, 101, 32, 99, 111, 110, 116, 101, 120, 116, 32]⟩ : ByteArray)) ++ t116).size + 1 ≤ 9223372036854775807 then (if x4.length < 8796093022208 then (impl_RecordToEnglish.l1 k (x4 ++ [((((⟨#[67, 111, 110, 116, 101, 120, 116, 32]⟩ : ByteArray) ++ t115) ++ (⟨#[32, 108, 105, 101, 115, 32, 97, 98, 111, 118, 101, 32, 99, 111, 110, 116, 101, 120, 116, 32]⟩ : ByteArray)) ++ t116) ++ (⟨#[46]⟩ : ByteArray)]) x35 x36 (wrap64 (x37 + 1))) else (none)) else (none)) else (none))) else (none)) else (none))) else (none)) else (none)) else ((impl_withNewlines.f k x4).bind fun t120 => (some (t120, true)))
end
def impl_RecordToEnglish.f (k : Nat) (l0_0 : List (S79)) (l0_1 : List (S82)) : Option (ByteArray × Bool) := (impl_IsValidRecord.f k l0_0 l0_1).bind fun t102 => (if t102 = true then (impl_RecordToEnglish.l0 k (([] : List ByteArray)) l0_0 (l0_0.length : Int) 0 l0_0 l0_1) else (some ((⟨#[]⟩ : ByteArray), false)))
def impl_RecordToEnglish.T7 : Bool × List (List Nat × List Nat) := (true, [([], []), ([], []), ([1], [1]), ([2], [2]), ([3], [3]), ([4], [4]), ([], []), ([6], [6]), ([7, 3], [7]), ([5, 8], [5, 8]), ([9], [9]), ([10], [10]), ([0, 11, 8], [0, 11]), ([12, 12, 0, 1, 2, 3, 4, 5, 6, 7, 8, 9, 10, 11, 12], [0, 12])])
def impl_RecordToEnglish.B7 : List Nat := [0, 0, 2, 6, 14, 30, 0, 64, 206, 510, 1022, 2046, 4095, 8191]
theorem impl_RecordToEnglish.tab7 : rtab .any (opsOf Tryz.f28 7) = impl_RecordToEnglish.T7 := by kernel_rfl
theorem impl_RecordToEnglish.bits7 : waitsOk impl_RecordToEnglish.T7.2 impl_RecordToEnglish.B7 = true := by kernel_rfl
def impl_RecordToEnglish.T12 : Bool × List (List Nat × List Nat) := (true, [([], []), ([], []), ([1], [1]), ([2], [2]), ([3], [3]), ([4], [4]), ([], []), ([6], [6]), ([7, 3], [7]), ([5, 8], [5, 8]), ([9], [9]), ([10], [10]), ([0, 11, 8], [0, 11]), ([12, 12, 0, 1, 2, 3, 4, 5, 6, 7, 8, 9, 10, 11, 12], [0, 12])])
def impl_RecordToEnglish.B12 : List Nat := [0, 0, 2, 6, 14, 30, 0, 64, 206, 510, 1022, 2046, 4095, 8191]
theorem impl_RecordToEnglish.tab12 : rtab .any (opsOf Tryz.f28 12) = impl_RecordToEnglish.T12 := by kernel_rfl
theorem impl_RecordToEnglish.bits12 : waitsOk impl_RecordToEnglish.T12.2 impl_RecordToEnglish.B12 = true := by kernel_rfl
set_option maxHeartbeats 8000000 in
set_option maxRecDepth 100000 in
theorem impl_RecordToEnglish.calls (k : Nat) (A0_0 : Option Addr) (c0_0 : Nat) (l0_0 : List (S79)) (A0_1 : Option Addr) (c0_1 : Nat) (l0_1 : List (S82)) (r1 : ByteArray) (r2 : Bool) (w : World) (hr0_0 : Kd.C k79 w A0_0 l0_0.length l0_0) (hc0_0 : l0_0.length ≤ c0_0) (hr0_1 : Kd.C k82 w A0_1 l0_1.length l0_1) (hc0_1 : l0_1.length ≤ c0_1) (hG : GT w) (h : impl_RecordToEnglish.f k l0_0 l0_1 = some (r1, r2)) :
  Calls Tryz.prog 28 #[.agg #[.slice A0_0 l0_0.length c0_0, .slice A0_1 l0_1.length c0_1]] w fun e w' => e = .returned (.tuple #[.string r1, .bool r2]) ∧ Below w.heap.size w w' := by
 (have hu36 := Tryz.underlying36); (have hu79 := Tryz.underlying79); (have hu82 := Tryz.underlying82); (have HR0_0 := Aside0.mk hr0_0); (have HC0_0 := Aside0.mk hc0_0); clear hr0_0 hc0_0; (have HR0_1 := Aside0.mk hr0_1); (have HC0_1 := Aside0.mk hc0_1); clear hr0_1 hc0_1; (have HG := Aside0.mk hG); clear hG; (have HB := Aside0.mk (Below.refl w.heap.size w)); (unfold impl_RecordToEnglish.f at h); (have H := h); clear h; (obtain ⟨t102, A2, H⟩ := obS H); (by_cases c3 : t102 = true)
 ·subst c3
  (rw [if_pos rfl] at H); (obtain ⟨y103, hy103⟩ : ∃ y_ : List ByteArray, y_ = (([] : List ByteArray)) := ⟨_, rfl⟩); (replace H : (impl_RecordToEnglish.l0 k y103 l0_0 (l0_0.length : Int) 0 l0_0 l0_1) = some (r1, r2) := by first | (rw [hy103]; with_reducible exact H) | (have H2_ := (Option.bind_some _ _).symm.trans H; rw [hy103]; with_reducible exact H2_) | (have H2_ := (Option.bind_some _ _).symm.trans H; with_reducible exact H2_) | with_reducible exact H | (rw [hy103]; exact H) | exact H); (have Ny103 := Aside0.mk hy103); clear hy103; (have H' := Aside0.mk H); clear H; (go_enter Tryz.func28, Tryz.ntmps28); (go_wp2_with (first | ((with_reducible refine gate_dst (N := 1) rfl ?_); refine box_event ?hg (N := 1) ?hd (cs := #[.slice A0_0 l0_0.length c0_0, .slice A0_1 l0_1.length c0_1]) (t := 36) ?hr ?_; (case hd => rfl); (case hg => rfl); (case hr => first | (go_simp; done) | (go_simp; rfl)); intro gb101 hg w4 hbox hb; have hB_ := zI hb HB; have n0_ := Aside0.mk (below_step hB_ hb); have n1_ := Aside0.mk (hbox); have n2_ := Aside0.mk (bx0 hg hB_); have n3_ := n2_; clear HB; have HB := n0_; have BK101 := n1_; have GW101 := n2_; have GE101 := n3_; clear n0_ n1_ n2_ n3_ hB_ hb hbox hg; have hcz5_0 := cz BK101.out 0; have hcz5_1 := cz BK101.out 1; have hfz5_0 := blk_frozen BK101.out 0; have hfz5_1 := blk_frozen BK101.out 1) | ((with_reducible refine gate_callee (f := 19) rfl ?_); refine gL (some 10) Tryz.func19 #[.agg #[.slice A0_0 l0_0.length c0_0, .slice A0_1 l0_1.length c0_1]] ?_; (with_reducible refine (impl_IsValidRecord.calls k _ _ l0_0 _ _ l0_1 true _ ?side1 ?side2 ?side3 ?side4 A2.out).mono ?_); (case side1 => exact Kd.C_below HR0_0.out (eI HB)); (case side2 => exact HC0_0.out); (case side3 => exact Kd.C_below HR0_1.out (eI HB)); (case side4 => exact HC0_1.out); rintro e w6 ⟨rfl, hb⟩; refine ⟨_, rfl, ?_⟩; have n0_ := Aside0.mk (kbI hb BK101); have n1_ := Aside0.mk (sI hb HB); clear BK101 HB; have BK101 := n0_; have HB := n1_; clear n0_ n1_; (try clear hb); (try clear hb2); (try clear hk); (try clear hi)) | ((with_reducible refine gate_dst (N := 12) rfl ?_); refine Kd.R_lit Kd.string _ 9 ?hg (N := 12) ?hd (xs := ([] : List ByteArray)) (inner := []) (ok := fun _ => True) (okp := fun _ => True) ?hr ?hp (fun _ hk => hk) trivial (Below.refl _ _) (Nat.le_refl _) (by simp) ?_; (case hd => rfl); (case hg => rfl); (case hr => first | (go_simp; done) | (go_simp; rfl)); (case hp => exact (Reps.none _ _)); intro v104 w7 ho8 hb hg_ hnew_; clear hg_ hnew_; (first | rw [← Ny103.out] at ho8 | (simp only [Int.reduceToNat] at ho8; rw [← Ny103.out] at ho8)); have hB_ := zI hb HB; have n0_ := Aside0.mk (Kd.R_lower ho8 (below_size hB_)); have n1_ := Aside0.mk (kbI hb BK101); have n2_ := Aside0.mk (below_step hB_ hb); clear BK101 HB; have HO105 := n0_; have BK101 := n1_; have HB := n2_; clear n0_ n1_ n2_ hB_ hb ho8; have hcz9_0 := cz BK101.out 0; have hcz9_1 := cz BK101.out 1; have hfz9_0 := blk_frozen BK101.out 0; have hfz9_1 := blk_frozen BK101.out 1))); (go_loopg [4, 16] k (fun kq v4 v16 w' => ∃ (x4_1 : List ByteArray) (x16_1 : Int), v16 = .int .i64 x16_1 ∧ Aside0 (impl_RecordToEnglish.l0 kq x4_1 l0_0 (l0_0.length : Int) x16_1 l0_0 l0_1 = some (r1, r2)) ∧ Aside0 (kq ≤ k) ∧ Aside0 (Kd.R Kd.string 9 w' w.heap.size (fun _ => True) v4 x4_1) ∧ Aside0 (w'.heap[gb101]? = some (.cells #[(.slice A0_0 l0_0.length c0_0), (.slice A0_1 l0_1.length c0_1)] 36 (0, 0))) ∧ Aside0 (Below w.heap.size w w')))
  case atStart => exact ⟨(y103), (0), (by first | rfl | (simp; done) | (simp [*]; done)), H', ⟨Nat.le_refl _⟩, ⟨rI HO105⟩, ⟨kI BK101⟩, ⟨eI HB⟩⟩
  case round =>
   (clear H'); (try clear c1); (try clear c2); (try clear p2); (try clear c3); (try clear hcz5_0); (try clear hcz5_1); (try clear hcz9_0); (try clear hcz9_1); (try clear hfz5_0); (try clear hfz5_1); (try clear hfz9_0); (try clear hfz9_1); (obtain ⟨x4_1, x16_1, rfl, HA, HK1, HO_4, BK101, HB⟩ := hrel)
   cases gk with
   | zero => exact absurd HA.out (by simp [impl_RecordToEnglish.l0])
   | succ k1 =>
    (have H := HA.out); clear HA; (simp only [impl_RecordToEnglish.l0] at H); (by_cases c10 : x16_1 < (l0_0.length : Int))
    ·rw [if_pos c10] at H
     (have c10b0 := decide_eq_true c10); clear c10; (by_cases c11 : 0 ≤ x16_1)
     ·rw [if_pos c11] at H
      (have c11b0 := decide_eq_true c11); clear c11; (by_cases c12 : x16_1 < (l0_0.length : Int))
      ·rw [if_pos c12] at H
       (have c12b0 := decide_eq_true c12); clear c12; (obtain ⟨t108, A13, H⟩ := obS H); (by_cases c14 : 8 + t108.size ≤ 9223372036854775807)
       ·rw [if_pos c14] at H
        (have c14b0 := eq_true c14); (have c14b1 := decide_eq_true c14); (try have c14b2 : (9223372036854775807 < 8 + t108.size) = False := eq_false (Nat.not_lt.2 c14)); (by_cases c15 : ((⟨#[67, 111, 110, 116, 101, 120, 116, 32]⟩ : ByteArray) ++ t108).size + 4 ≤ 9223372036854775807)
        ·rw [if_pos c15] at H
         (have c15b0 := eq_true c15); (have c15b1 := decide_eq_true c15); (try have c15n0 := c15b0); (try (push_cast [Int.toNat_natCast, ByteArray.size_append, show (⟨#[67, 111, 110, 116, 101, 120, 116, 32]⟩ : ByteArray).size = 8 from rfl] at c15n0)); (try have c15n1 := c15b1); (try (push_cast [Int.toNat_natCast, ByteArray.size_append, show (⟨#[67, 111, 110, 116, 101, 120, 116, 32]⟩ : ByteArray).size = 8 from rfl] at c15n1)); (try have c15b2 : (9223372036854775807 < ((⟨#[67, 111, 110, 116, 101, 120, 116, 32]⟩ : ByteArray) ++ t108).size + 4) = False := eq_false (Nat.not_lt.2 c15)); (try have c15b3 := c15b2); (try simp only [ByteArray.size_append, show (⟨#[67, 111, 110, 116, 101, 120, 116, 32]⟩ : ByteArray).size = 8 from rfl] at c15b3); (obtain ⟨t109, A16, H⟩ := obS H); (by_cases c17 : (((⟨#[67, 111, 110, 116, 101, 120, 116, 32]⟩ : ByteArray) ++ t108) ++ (⟨#[32, 105, 115, 32]⟩ : ByteArray)).size + t109.size ≤ 9223372036854775807)
         ·rw [if_pos c17] at H
          (have c17b0 := eq_true c17); (have c17b1 := decide_eq_true c17); (try have c17n0 := c17b0); (try (push_cast [Int.toNat_natCast, ByteArray.size_append, show (⟨#[32, 105, 115, 32]⟩ : ByteArray).size = 4 from rfl, show (⟨#[67, 111, 110, 116, 101, 120, 116, 32]⟩ : ByteArray).size = 8 from rfl] at c17n0)); (try have c17n1 := c17b1); (try (push_cast [Int.toNat_natCast, ByteArray.size_append, show (⟨#[32, 105, 115, 32]⟩ : ByteArray).size = 4 from rfl, show (⟨#[67, 111, 110, 116, 101, 120, 116, 32]⟩ : ByteArray).size = 8 from rfl] at c17n1)); (try have c17b2 : (9223372036854775807 < (((⟨#[67, 111, 110, 116, 101, 120, 116, 32]⟩ : ByteArray) ++ t108) ++ (⟨#[32, 105, 115, 32]⟩ : ByteArray)).size + t109.size) = False := eq_false (Nat.not_lt.2 c17)); (try have c17b3 := c17b2); (try simp only [ByteArray.size_append, show (⟨#[32, 105, 115, 32]⟩ : ByteArray).size = 4 from rfl, show (⟨#[67, 111, 110, 116, 101, 120, 116, 32]⟩ : ByteArray).size = 8 from rfl] at c17b3); (by_cases c18 : ((((⟨#[67, 111, 110, 116, 101, 120, 116, 32]⟩ : ByteArray) ++ t108) ++ (⟨#[32, 105, 115, 32]⟩ : ByteArray)) ++ t109).size + 1 ≤ 9223372036854775807)
          ·rw [if_pos c18] at H
           (have c18b0 := eq_true c18); (have c18b1 := decide_eq_true c18); (try have c18n0 := c18b0); (try (push_cast [Int.toNat_natCast, ByteArray.size_append, show (⟨#[32, 105, 115, 32]⟩ : ByteArray).size = 4 from rfl, show (⟨#[67, 111, 110, 116, 101, 120, 116, 32]⟩ : ByteArray).size = 8 from rfl] at c18n0)); (try have c18n1 := c18b1); (try (push_cast [Int.toNat_natCast, ByteArray.size_append, show (⟨#[32, 105, 115, 32]⟩ : ByteArray).size = 4 from rfl, show (⟨#[67, 111, 110, 116, 101, 120, 116, 32]⟩ : ByteArray).size = 8 from rfl] at c18n1)); (try have c18b2 : (9223372036854775807 < ((((⟨#[67, 111, 110, 116, 101, 120, 116, 32]⟩ : ByteArray) ++ t108) ++ (⟨#[32, 105, 115, 32]⟩ : ByteArray)) ++ t109).size + 1) = False := eq_false (Nat.not_lt.2 c18)); (try have c18b3 := c18b2); (try simp only [ByteArray.size_append, show (⟨#[32, 105, 115, 32]⟩ : ByteArray).size = 4 from rfl, show (⟨#[67, 111, 110, 116, 101, 120, 116, 32]⟩ : ByteArray).size = 8 from rfl] at c18b3); (by_cases c19 : x4_1.length < 8796093022208)
           ·rw [if_pos c19] at H
            (have LMc19 := Aside0.mk c19); clear c19; (obtain ⟨y110, hy110⟩ : ∃ y_ : List ByteArray, y_ = (x4_1 ++ [((((⟨#[67, 111, 110, 116, 101, 120, 116, 32]⟩ : ByteArray) ++ t108) ++ (⟨#[32, 105, 115, 32]⟩ : ByteArray)) ++ t109) ++ (⟨#[46]⟩ : ByteArray)]) := ⟨_, rfl⟩); (replace H : (impl_RecordToEnglish.l0 k1 y110 l0_0 (l0_0.length : Int) (wrap64 (x16_1 + 1)) l0_0 l0_1) = some (r1, r2) := by first | (rw [hy110]; with_reducible exact H) | (have H2_ := (Option.bind_some _ _).symm.trans H; rw [hy110]; with_reducible exact H2_) | (have H2_ := (Option.bind_some _ _).symm.trans H; with_reducible exact H2_) | with_reducible exact H | (rw [hy110]; exact H) | exact H); (have Ny110 := Aside0.mk hy110); clear hy110; (have H' := Aside0.mk H); clear H; (have p106 : 0 ≤ (x16_1 : Int) := odt); (have q106 : x16_1 < (l0_0.length : Int) := odt); (obtain ⟨ad106, e106, hx106_0, hx106_1⟩ := at_T79 HR0_0.out x16_1 p106 q106); (cases e106); (replace hx106_0 := hcI HB hx106_0); (replace hx106_1 := hcI HB hx106_1); (replace p106 := eq_true p106); (replace q106 := eq_true q106); (try go_wp2_with (first | ((with_reducible refine gate_dst (N := 6) rfl ?_); refine box_event ?hg (N := 6) ?hd (cs := #[.int .i64 0, .int .i64 0]) (t := 79) ?hr ?_; (case hd => rfl); (case hg => rfl); (case hr => first | (go_simp; done) | (go_simp; rfl)); intro gb107 hg w20 hbox hb; have n0_ := Aside0.mk (rbI hb HO_4); have n1_ := Aside0.mk (kbI hb BK101); have hB_ := zI hb HB; have n2_ := Aside0.mk (below_step hB_ hb); have n3_ := Aside0.mk (hbox); have n4_ := Aside0.mk (bx0 hg hB_); have n5_ := n4_; have n6_ := Aside0.mk ((by rw [hg]; exact Nat.ne_of_lt (blk_lt (kI BK101)) : gb101 ≠ gb107)); have n7_ := Aside0.mk (Ne.symm n6_.out); clear HO_4 BK101 HB; have HO_4 := n0_; have BK101 := n1_; have HB := n2_; have BK107 := n3_; have GW107 := n4_; have GE107 := n5_; have NB101_107 := n6_; have NB107_101 := n7_; clear n0_ n1_ n2_ n3_ n4_ n5_ n6_ n7_ hB_ hb hbox hg; have hnb21 := NB107_101.out; have hnc21 := NB101_107.out; have hcz22_0 := cz BK107.out 0; have hcz22_1 := cz BK107.out 1; have hfz22_0 := blk_frozen BK107.out 0; have hfz22_1 := blk_frozen BK107.out 1))); (have n0_ : Aside0 (Kd.R Kd.string 9 ((w20.setCell ⟨gb107, 0, none⟩ (.int .i64 ((rd_T79 l0_0 x16_1).f0))).setCell ⟨gb107, 1, none⟩ (.int .i64 ((rd_T79 l0_0 x16_1).f1))) w.heap.size (fun _ => True) u4 x4_1) := ⟨by (with_reducible repeat (first | apply rA | apply rN | apply rD)); exact Kd.R_mono (Kd.R_far (p := ⟨gb107, 1, none⟩) (Kd.R_far (p := ⟨gb107, 0, none⟩) (Kd.R_types HO_4.out BK107.out (by decide)) (fun _ hk => hk.2) (.int .i64 ((rd_T79 l0_0 x16_1).f0))) (fun _ hk => hk.2) (.int .i64 ((rd_T79 l0_0 x16_1).f1))) (fun _ hk => trivial)⟩); (have n1_ : Aside0 (((w20.setCell ⟨gb107, 0, none⟩ (.int .i64 ((rd_T79 l0_0 x16_1).f0))).setCell ⟨gb107, 1, none⟩ (.int .i64 ((rd_T79 l0_0 x16_1).f1))).heap[gb101]? = some (.cells #[.slice (some ad106) l0_0.length c0_0, .slice A0_1 l0_1.length c0_1] 36 (0, 0))) := ⟨by (with_reducible repeat (first | refine kN ?_ _ | refine kD ?_ | refine kA ?_ _)); refine blk_far ?_ NB101_107.out _; (with_reducible repeat (first | refine kN ?_ _ | refine kD ?_ | refine kA ?_ _)); refine blk_far ?_ NB101_107.out _; (with_reducible repeat (first | refine kN ?_ _ | refine kD ?_ | refine kA ?_ _)); exact BK101.out⟩); (have n2_ : Aside0 (((w20.setCell ⟨gb107, 0, none⟩ (.int .i64 ((rd_T79 l0_0 x16_1).f0))).setCell ⟨gb107, 1, none⟩ (.int .i64 ((rd_T79 l0_0 x16_1).f1))).heap[gb107]? = some (.cells #[.int .i64 ((rd_T79 l0_0 x16_1).f0), .int .i64 ((rd_T79 l0_0 x16_1).f1)] 79 (0, 0))) := ⟨by (with_reducible repeat (first | refine kN ?_ _ | refine kD ?_ | refine kA ?_ _)); refine blk_put (cs := #[.int .i64 ((rd_T79 l0_0 x16_1).f0), .int .i64 0]) ?_ 1 _ rfl; (with_reducible repeat (first | refine kN ?_ _ | refine kD ?_ | refine kA ?_ _)); refine blk_put (cs := #[.int .i64 0, .int .i64 0]) ?_ 0 _ rfl; (with_reducible repeat (first | refine kN ?_ _ | refine kD ?_ | refine kA ?_ _)); exact BK107.out⟩); (have n3_ : Aside0 (Below w.heap.size w ((w20.setCell ⟨gb107, 0, none⟩ (.int .i64 ((rd_T79 l0_0 x16_1).f0))).setCell ⟨gb107, 1, none⟩ (.int .i64 ((rd_T79 l0_0 x16_1).f1)))) := ⟨by repeat (first | (with_reducible first | exact HB.out | apply bA | apply bN | apply bD | refine below_set ?_ GE101.out | refine below_set ?_ GE107.out) | exact HB.out)⟩); ((try clear HO_4)); ((try clear BK101)); ((try clear BK107)); ((try clear HB)); (generalize ((w20.setCell ⟨gb107, 0, none⟩ (.int .i64 ((rd_T79 l0_0 x16_1).f0))).setCell ⟨gb107, 1, none⟩ (.int .i64 ((rd_T79 l0_0 x16_1).f1))) = w23 at n0_ n1_ n2_ n3_ ⊢); (have HO_4 := n0_); (have BK101 := n1_); (have BK107 := n2_); (have HB := n3_); clear n0_ n1_ n2_ n3_; (have n0_ := Aside0.mk (Kd.R_drew HO_4.out)); (have n1_ := Aside0.mk (blk_drew BK101.out)); (have n2_ := Aside0.mk (blk_drew BK107.out)); (have n3_ := Aside0.mk (below_drew1 HB.out)); clear HO_4 BK101 BK107 HB; (have HO_4 := n0_); (have BK101 := n1_); (have BK107 := n2_); (have HB := n3_)
            clear n0_ n1_ n2_ n3_; (refine start_ (n := 14) (S := fun w' => w'.cell? ⟨gb107, 0, none⟩ = some (.int .i64 ((rd_T79 l0_0 x16_1).f0)) ∧ w'.cell? ⟨gb107, 1, none⟩ = some (.int .i64 ((rd_T79 l0_0 x16_1).f1))) (ds := []) (cn 14 0) (by kernel_rfl) rfl (by kernel_rfl) ⟨cz BK107.out 0, cz BK107.out 1⟩ (fun hHeld => ?_); refine with_tabW impl_RecordToEnglish.tab7 impl_RecordToEnglish.bits7 (fun HT_ HW_ => ?_)); (generalize w23.drew = w24 at HO_4 BK101 BK107 HB hHeld ⊢); (refine pB 0 (cn 14 1) (some 20) HT_ (h := ?_)); (refine pB 1 (cn 14 2) (some 21) HT_ (h := ?_)); (refine pB 6 (cb 14 67) (some 26) HT_ (h := ?_)); (refine tB 2 (cb 14 71) (some 22) HT_ HW_ hHeld (h := ?_)); (refine tB 7 (cb 14 199) (some 27) HT_ HW_ hHeld (h := ?_)); (refine oN 3 (some 23) (cb 14 207) HT_ (fun K hK => ?_)); (refine gG Tryz.func52 #[.int .i64 ((rd_T79 l0_0 x16_1).f0)] ?_); (with_reducible refine (strconv_Itoa.calls ((rd_T79 l0_0 x16_1).f0) t108 _ ?side1 A13.out).mono ?_); ((case side1 => first | exact GT.below HG.out (eI HB) | (repeat (first | exact HG.out | (with_reducible first | apply GT.drewN | apply GT.drew | apply GT.alloc))))); (rintro e w25 ⟨rfl, hb⟩); (refine ⟨_, rfl, ?_⟩); (have n0_ := Aside0.mk (rbI hb HO_4)); (have n1_ := Aside0.mk (kbI hb BK101)); (have n2_ := Aside0.mk (kbI hb BK107)); (have n3_ := Aside0.mk (sI hb HB)); clear HO_4 BK101 BK107 HB; (have HO_4 := n0_); (have BK101 := n1_); (have BK107 := n2_); (have HB := n3_); clear n0_ n1_ n2_ n3_; ((try clear hb)); ((try clear hb2)); ((try clear hk)); ((try clear hi)); (refine hK.out _ _ ⟨cz BK107.out 0, cz BK107.out 1⟩ (fun hHeld => ?_)); clear hK K; (refine nP (some 23) (h := ?_)); (refine pB 4 (cb 14 223) (some 24) HT_ (h := ?_)); (refine pB 5 (cn 14 8) (some 25) HT_ (h := ?_)); (refine oN 8 (some 28) (cn 14 9) HT_ (fun K hK => ?_)); (refine gG Tryz.func53 #[.int .i64 ((rd_T79 l0_0 x16_1).f1)] ?_); (with_reducible refine (impl_kindText.calls ((rd_T79 l0_0 x16_1).f1) t109 _ A16.out).mono ?_); (rintro e w26 ⟨rfl, hb⟩); (refine ⟨_, rfl, ?_⟩); (have n0_ := Aside0.mk (rbI hb HO_4)); (have n1_ := Aside0.mk (kbI hb BK101)); (have n2_ := Aside0.mk (kbI hb BK107))
            (have n3_ := Aside0.mk (sI hb HB)); clear HO_4 BK101 BK107 HB; (have HO_4 := n0_); (have BK101 := n1_); (have BK107 := n2_); (have HB := n3_); clear n0_ n1_ n2_ n3_; ((try clear hb)); ((try clear hb2)); ((try clear hk)); ((try clear hi)); (refine hK.out _ _ ⟨cz BK107.out 0, cz BK107.out 1⟩ (fun hHeld => ?_)); clear hK K; (refine nP (some 28) (h := ?_)); (refine pB 9 (cn 14 10) (some 29) HT_ (h := ?_)); (refine pB 10 (cn 14 11) (some 30) HT_ (h := ?_)); (refine oN 11 (some 31) (cn 14 12) HT_ (fun K hK => ?_)); (refine value_ (w1 := ?_) (v := ?_) (by rfl) rfl ?_ ?_); (rotate_left 2)
            ·go_simp
             (constructor); (· rfl); (· rfl)
            (refine hK.out _ _ ⟨(blk_cell (blk_alloc BK107.out _) 0).trans rfl, (blk_cell (blk_alloc BK107.out _) 1).trans rfl⟩ (fun hHeld => ?_)); clear hK K; (refine nP (some 31) (h := ?_)); (refine oN 12 (some 32) (cn 14 13) HT_ (fun K hK => ?_)); (refine Kd.R_append_step Kd.string (w0 := w) w.heap.size (by rfl) (.tmp 20) (.tmp 31) 67 9 (.string ⟨#[]⟩) 16 rfl Tryz.underlying67 info9 rfl (by decide) (by omega) u4 x4_1 (((((⟨#[67, 111, 110, 116, 101, 120, 116, 32]⟩ : ByteArray) ++ t108) ++ (⟨#[32, 105, 115, 32]⟩ : ByteArray)) ++ t109) ++ (⟨#[46]⟩ : ByteArray)) [.string (((((⟨#[67, 111, 110, 116, 101, 120, 116, 32]⟩ : ByteArray) ++ t108) ++ (⟨#[32, 105, 115, 32]⟩ : ByteArray)) ++ t109) ++ (⟨#[46]⟩ : ByteArray))] (fun _ => True) (fun _ => False) rfl rfl ?aP (fun _ hk => hk.elim) ?aF ?aO ?aB ?aS ?aL ?_); ((case aP => exact rfl)); ((case aB => exact (eI HB))); ((case aF => exact (fun _ _ => trivial))); ((case aO => exact (rI HO_4))); ((case aS => exact (below_size (eI HB)))); ((case aL => have := LMc19.out; omega)); intro v111 w27 ho hb hg hat; (rw [← Ny110.out] at ho); (have n0_ := Aside0.mk (blk_grown (kI BK101) hg (Kd.R_ne HO_4.out BK101.out (by decide)))); (have n1_ := Aside0.mk (blk_grown (kI BK107) hg (Kd.R_ne HO_4.out BK107.out (by decide)))); (have n2_ := Aside0.mk (hb)); (have n3_ := Aside0.mk (ho)); clear BK101 BK107 HB HO_4; (have BK101 := n0_); (have BK107 := n1_); (have HB := n2_); (have HO112 := n3_); clear n0_ n1_ n2_ n3_ ho hb hg hat; (refine hK.out _ _ ⟨cz BK107.out 0, cz BK107.out 1⟩ (fun hHeld => ?_)); clear hK K; (refine nP (some 32) (h := ?_)); (refine pB 13 (cn 14 14) (some 4) HT_ (h := ?_)); (refine done_ (done_of HT_.out (by kernel_rfl)) ?_); (try go_wp2); go_roundg k1
            case measure => have := HK1.out; omega
            case rel => exact ⟨(y110), (wrap64 (x16_1 + 1)), (by first | rfl | (simp; done) | (simp [*]; done)), H', ⟨by have := HK1.out; omega⟩, ⟨rI HO112⟩, ⟨kI BK101⟩, ⟨eI HB⟩⟩
           ·rw [if_neg c19] at H
            exact absurd H (by simp)
          ·rw [if_neg c18] at H
           exact absurd H (by simp)
         ·rw [if_neg c17] at H
          exact absurd H (by simp)
        ·rw [if_neg c15] at H
         exact absurd H (by simp)
       ·rw [if_neg c14] at H
        exact absurd H (by simp)
      ·rw [if_neg c12] at H
       exact absurd H (by simp)
     ·rw [if_neg c11] at H
      exact absurd H (by simp)
    ·rw [if_neg c10] at H
     (have c10b0 := decide_eq_false c10); clear c10; (have H' := Aside0.mk H); clear H; (have hcz28_0 := cz BK101.out 0); (have hcz28_1 := cz BK101.out 1); (have hfz28_0 := blk_frozen BK101.out 0); (have hfz28_1 := blk_frozen BK101.out 1); (go_wp2); (go_loopg [4, 37] k1 (fun kq v4 v37 w' => ∃ (x4_2 : List ByteArray) (x37_2 : Int), v37 = .int .i64 x37_2 ∧ Aside0 (impl_RecordToEnglish.l1 kq x4_2 l0_1 (l0_1.length : Int) x37_2 = some (r1, r2)) ∧ Aside0 (kq ≤ k1) ∧ Aside0 (Kd.R Kd.string 9 w' w.heap.size (fun _ => True) v4 x4_2) ∧ Aside0 (w'.heap[gb101]? = some (.cells #[(.slice A0_0 l0_0.length c0_0), (.slice A0_1 l0_1.length c0_1)] 36 (0, 0))) ∧ Aside0 (Below w.heap.size w w')))
     case atStart => exact ⟨(x4_1), (0), (by first | rfl | (simp; done) | (simp [*]; done)), H', ⟨Nat.le_refl _⟩, ⟨rI HO_4⟩, ⟨kI BK101⟩, ⟨eI HB⟩⟩
     case round =>
      (clear H'); (try clear c1); (try clear p1); (try clear q1); (try clear hx1); (try clear c2); (try clear p2); (try clear c3); (try clear c5); (try clear p6); (try clear c10); (try clear c10b0); (try clear p10); (try clear q10); (try clear hx10); (try clear c11); (try clear c11b0); (try clear c12); (try clear c12b0); (try clear c14); (try clear c14b0); (try clear c14b1); (try clear c14b2); (try clear c15); (try clear c15b0); (try clear c15b1); (try clear c15b2); (try clear c17); (try clear c17b0); (try clear c17b1); (try clear c17b2); (try clear c18); (try clear c18b0); (try clear c18b1); (try clear c18b2); (try clear c19); (try clear c21); (try clear c28); (try clear hcz22_0); (try clear hcz22_1); (try clear hcz28_0); (try clear hcz28_1); (try clear hcz5_0); (try clear hcz5_1); (try clear hcz9_0); (try clear hcz9_1); (try clear hfz22_0); (try clear hfz22_1); (try clear hfz28_0); (try clear hfz28_1); (try clear hfz5_0); (try clear hfz5_1); (try clear hfz9_0); (try clear hfz9_1); (try clear hx106_0); (try clear hx106_1); (try clear p106); (try clear p2); (try clear q106); (obtain ⟨x4_2, x37_2, rfl, HA, HK2, HO_4, BK101, HB⟩ := hrel)
      cases gk with
      | zero => exact absurd HA.out (by simp [impl_RecordToEnglish.l1])
      | succ k2 =>
       (have H := HA.out); clear HA; (simp only [impl_RecordToEnglish.l1] at H); (by_cases c29 : x37_2 < (l0_1.length : Int))
       ·rw [if_pos c29] at H
        (have c29b0 := decide_eq_true c29); clear c29; (by_cases c30 : 0 ≤ x37_2)
        ·rw [if_pos c30] at H
         (have c30b0 := decide_eq_true c30); clear c30; (by_cases c31 : x37_2 < (l0_1.length : Int))
         ·rw [if_pos c31] at H
          (have c31b0 := decide_eq_true c31); clear c31; (obtain ⟨t115, A32, H⟩ := obS H); (by_cases c33 : 8 + t115.size ≤ 9223372036854775807)
          ·rw [if_pos c33] at H
           (have c33b0 := eq_true c33); (have c33b1 := decide_eq_true c33); (try have c33b2 : (9223372036854775807 < 8 + t115.size) = False := eq_false (Nat.not_lt.2 c33)); (by_cases c34 : ((⟨#[67, 111, 110, 116, 101, 120, 116, 32]⟩ : ByteArray) ++ t115).size + 20 ≤ 9223372036854775807)
           ·rw [if_pos c34] at H
            (have c34b0 := eq_true c34); (have c34b1 := decide_eq_true c34); (try have c34n0 := c34b0); (try (push_cast [Int.toNat_natCast, ByteArray.size_append, show (⟨#[67, 111, 110, 116, 101, 120, 116, 32]⟩ : ByteArray).size = 8 from rfl] at c34n0)); (try have c34n1 := c34b1); (try (push_cast [Int.toNat_natCast, ByteArray.size_append, show (⟨#[67, 111, 110, 116, 101, 120, 116, 32]⟩ : ByteArray).size = 8 from rfl] at c34n1)); (try have c34b2 : (9223372036854775807 < ((⟨#[67, 111, 110, 116, 101, 120, 116, 32]⟩ : ByteArray) ++ t115).size + 20) = False := eq_false (Nat.not_lt.2 c34)); (try have c34b3 := c34b2); (try simp only [ByteArray.size_append, show (⟨#[67, 111, 110, 116, 101, 120, 116, 32]⟩ : ByteArray).size = 8 from rfl] at c34b3); (obtain ⟨t116, A35, H⟩ := obS H); (by_cases c36 : (((⟨#[67, 111, 110, 116, 101, 120, 116, 32]⟩ : ByteArray) ++ t115) ++ (⟨#[32, 108, 105, 101, 115, 32, 97, 98, 111, 118, 101, 32, 99, 111, 110, 116, 101, 120, 116, 32]⟩ : ByteArray)).size + t116.size ≤ 9223372036854775807)
            ·rw [if_pos c36] at H
             (have c36b0 := eq_true c36); (have c36b1 := decide_eq_true c36); (try have c36n0 := c36b0); (try (push_cast [Int.toNat_natCast, ByteArray.size_append, show (⟨#[32, 108, 105, 101, 115, 32, 97, 98, 111, 118, 101, 32, 99, 111, 110, 116, 101, 120, 116, 32]⟩ : ByteArray).size = 20 from rfl, show (⟨#[67, 111, 110, 116, 101, 120, 116, 32]⟩ : ByteArray).size = 8 from rfl] at c36n0)); (try have c36n1 := c36b1); (try (push_cast [Int.toNat_natCast, ByteArray.size_append, show (⟨#[32, 108, 105, 101, 115, 32, 97, 98, 111, 118, 101, 32, 99, 111, 110, 116, 101, 120, 116, 32]⟩ : ByteArray).size = 20 from rfl, show (⟨#[67, 111, 110, 116, 101, 120, 116, 32]⟩ : ByteArray).size = 8 from rfl] at c36n1)); (try have c36b2 : (9223372036854775807 < (((⟨#[67, 111, 110, 116, 101, 120, 116, 32]⟩ : ByteArray) ++ t115) ++ (⟨#[32, 108, 105, 101, 115, 32, 97, 98, 111, 118, 101, 32, 99, 111, 110, 116, 101, 120, 116, 32]⟩ : ByteArray)).size + t116.size) = False := eq_false (Nat.not_lt.2 c36)); (try have c36b3 := c36b2); (try simp only [ByteArray.size_append, show (⟨#[32, 108, 105, 101, 115, 32, 97, 98, 111, 118, 101, 32, 99, 111, 110, 116, 101, 120, 116, 32]⟩ : ByteArray).size = 20 from rfl, show (⟨#[67, 111, 110, 116, 101, 120, 116, 32]⟩ : ByteArray).size = 8 from rfl] at c36b3); (by_cases c37 : ((((⟨#[67, 111, 110, 116, 101, 120, 116, 32]⟩ : ByteArray) ++ t115) ++ (⟨#[32, 108, 105, 101, 115, 32, 97, 98, 111, 118, 101, 32, 99, 111, 110, 116, 101, 120, 116, 32]⟩ : ByteArray)) ++ t116).size + 1 ≤ 9223372036854775807)
             ·rw [if_pos c37] at H
              (have c37b0 := eq_true c37); (have c37b1 := decide_eq_true c37); (try have c37n0 := c37b0); (try (push_cast [Int.toNat_natCast, ByteArray.size_append, show (⟨#[32, 108, 105, 101, 115, 32, 97, 98, 111, 118, 101, 32, 99, 111, 110, 116, 101, 120, 116, 32]⟩ : ByteArray).size = 20 from rfl, show (⟨#[67, 111, 110, 116, 101, 120, 116, 32]⟩ : ByteArray).size = 8 from rfl] at c37n0)); (try have c37n1 := c37b1); (try (push_cast [Int.toNat_natCast, ByteArray.size_append, show (⟨#[32, 108, 105, 101, 115, 32, 97, 98, 111, 118, 101, 32, 99, 111, 110, 116, 101, 120, 116, 32]⟩ : ByteArray).size = 20 from rfl, show (⟨#[67, 111, 110, 116, 101, 120, 116, 32]⟩ : ByteArray).size = 8 from rfl] at c37n1)); (try have c37b2 : (9223372036854775807 < ((((⟨#[67, 111, 110, 116, 101, 120, 116, 32]⟩ : ByteArray) ++ t115) ++ (⟨#[32, 108, 105, 101, 115, 32, 97, 98, 111, 118, 101, 32, 99, 111, 110, 116, 101, 120, 116, 32]⟩ : ByteArray)) ++ t116).size + 1) = False := eq_false (Nat.not_lt.2 c37)); (try have c37b3 := c37b2); (try simp only [ByteArray.size_append, show (⟨#[32, 108, 105, 101, 115, 32, 97, 98, 111, 118, 101, 32, 99, 111, 110, 116, 101, 120, 116, 32]⟩ : ByteArray).size = 20 from rfl, show (⟨#[67, 111, 110, 116, 101, 120, 116, 32]⟩ : ByteArray).size = 8 from rfl] at c37b3); (by_cases c38 : x4_2.length < 8796093022208)
              ·rw [if_pos c38] at H
               (have LMc38 := Aside0.mk c38); clear c38; (obtain ⟨y117, hy117⟩ : ∃ y_ : List ByteArray, y_ = (x4_2 ++ [((((⟨#[67, 111, 110, 116, 101, 120, 116, 32]⟩ : ByteArray) ++ t115) ++ (⟨#[32, 108, 105, 101, 115, 32, 97, 98, 111, 118, 101, 32, 99, 111, 110, 116, 101, 120, 116, 32]⟩ : ByteArray)) ++ t116) ++ (⟨#[46]⟩ : ByteArray)]) := ⟨_, rfl⟩); (replace H : (impl_RecordToEnglish.l1 k2 y117 l0_1 (l0_1.length : Int) (wrap64 (x37_2 + 1))) = some (r1, r2) := by first | (rw [hy117]; with_reducible exact H) | (have H2_ := (Option.bind_some _ _).symm.trans H; rw [hy117]; with_reducible exact H2_) | (have H2_ := (Option.bind_some _ _).symm.trans H; with_reducible exact H2_) | with_reducible exact H | (rw [hy117]; exact H) | exact H); (have Ny117 := Aside0.mk hy117); clear hy117; (have H' := Aside0.mk H); clear H; (have p113 : 0 ≤ (x37_2 : Int) := odt); (have q113 : x37_2 < (l0_1.length : Int) := odt); (obtain ⟨ad113, e113, hx113_0, hx113_1⟩ := at_T82 HR0_1.out x37_2 p113 q113); (cases e113); (replace hx113_0 := hcI HB hx113_0); (replace hx113_1 := hcI HB hx113_1); (replace p113 := eq_true p113); (replace q113 := eq_true q113); (try go_wp2_with (first | ((with_reducible refine gate_dst (N := 8) rfl ?_); refine box_event ?hg (N := 8) ?hd (cs := #[.int .i64 0, .int .i64 0]) (t := 82) ?hr ?_; (case hd => rfl); (case hg => rfl); (case hr => first | (go_simp; done) | (go_simp; rfl)); intro gb114 hg w39 hbox hb; have n0_ := Aside0.mk (rbI hb HO_4); have n1_ := Aside0.mk (kbI hb BK101); have hB_ := zI hb HB; have n2_ := Aside0.mk (below_step hB_ hb); have n3_ := Aside0.mk (hbox); have n4_ := Aside0.mk (bx0 hg hB_); have n5_ := n4_; have n6_ := Aside0.mk ((by rw [hg]; exact Nat.ne_of_lt (blk_lt (kI BK101)) : gb101 ≠ gb114)); have n7_ := Aside0.mk (Ne.symm n6_.out); clear HO_4 BK101 HB; have HO_4 := n0_; have BK101 := n1_; have HB := n2_; have BK114 := n3_; have GW114 := n4_; have GE114 := n5_; have NB101_114 := n6_; have NB114_101 := n7_; clear n0_ n1_ n2_ n3_ n4_ n5_ n6_ n7_ hB_ hb hbox hg; have hnb40 := NB114_101.out; have hnc40 := NB101_114.out; have hcz41_0 := cz BK114.out 0; have hcz41_1 := cz BK114.out 1; have hfz41_0 := blk_frozen BK114.out 0; have hfz41_1 := blk_frozen BK114.out 1))); (have n0_ : Aside0 (Kd.R Kd.string 9 ((w39.setCell ⟨gb114, 0, none⟩ (.int .i64 ((rd_T82 l0_1 x37_2).f0))).setCell ⟨gb114, 1, none⟩ (.int .i64 ((rd_T82 l0_1 x37_2).f1))) w.heap.size (fun _ => True) u4 x4_2) := ⟨by (with_reducible repeat (first | apply rA | apply rN | apply rD)); exact Kd.R_mono (Kd.R_far (p := ⟨gb114, 1, none⟩) (Kd.R_far (p := ⟨gb114, 0, none⟩) (Kd.R_types HO_4.out BK114.out (by decide)) (fun _ hk => hk.2) (.int .i64 ((rd_T82 l0_1 x37_2).f0))) (fun _ hk => hk.2) (.int .i64 ((rd_T82 l0_1 x37_2).f1))) (fun _ hk => trivial)⟩); (have n1_ : Aside0 (((w39.setCell ⟨gb114, 0, none⟩ (.int .i64 ((rd_T82 l0_1 x37_2).f0))).setCell ⟨gb114, 1, none⟩ (.int .i64 ((rd_T82 l0_1 x37_2).f1))).heap[gb101]? = some (.cells #[.slice A0_0 l0_0.length c0_0, .slice (some ad113) l0_1.length c0_1] 36 (0, 0))) := ⟨by (with_reducible repeat (first | refine kN ?_ _ | refine kD ?_ | refine kA ?_ _)); refine blk_far ?_ NB101_114.out _; (with_reducible repeat (first | refine kN ?_ _ | refine kD ?_ | refine kA ?_ _)); refine blk_far ?_ NB101_114.out _; (with_reducible repeat (first | refine kN ?_ _ | refine kD ?_ | refine kA ?_ _)); exact BK101.out⟩); (have n2_ : Aside0 (((w39.setCell ⟨gb114, 0, none⟩ (.int .i64 ((rd_T82 l0_1 x37_2).f0))).setCell ⟨gb114, 1, none⟩ (.int .i64 ((rd_T82 l0_1 x37_2).f1))).heap[gb114]? = some (.cells #[.int .i64 ((rd_T82 l0_1 x37_2).f0), .int .i64 ((rd_T82 l0_1 x37_2).f1)] 82 (0, 0))) := ⟨by (with_reducible repeat (first | refine kN ?_ _ | refine kD ?_ | refine kA ?_ _)); refine blk_put (cs := #[.int .i64 ((rd_T82 l0_1 x37_2).f0), .int .i64 0]) ?_ 1 _ rfl; (with_reducible repeat (first | refine kN ?_ _ | refine kD ?_ | refine kA ?_ _)); refine blk_put (cs := #[.int .i64 0, .int .i64 0]) ?_ 0 _ rfl; (with_reducible repeat (first | refine kN ?_ _ | refine kD ?_ | refine kA ?_ _)); exact BK114.out⟩); (have n3_ : Aside0 (Below w.heap.size w ((w39.setCell ⟨gb114, 0, none⟩ (.int .i64 ((rd_T82 l0_1 x37_2).f0))).setCell ⟨gb114, 1, none⟩ (.int .i64 ((rd_T82 l0_1 x37_2).f1)))) := ⟨by repeat (first | (with_reducible first | exact HB.out | apply bA | apply bN | apply bD | refine below_set ?_ GE101.out | refine below_set ?_ GE114.out) | exact HB.out)⟩); ((try clear HO_4)); ((try clear BK101)); ((try clear BK114)); ((try clear HB)); (generalize ((w39.setCell ⟨gb114, 0, none⟩ (.int .i64 ((rd_T82 l0_1 x37_2).f0))).setCell ⟨gb114, 1, none⟩ (.int .i64 ((rd_T82 l0_1 x37_2).f1))) = w42 at n0_ n1_ n2_ n3_ ⊢); (have HO_4 := n0_); (have BK101 := n1_); (have BK114 := n2_); (have HB := n3_); clear n0_ n1_ n2_ n3_; (have n0_ := Aside0.mk (Kd.R_drew HO_4.out)); (have n1_ := Aside0.mk (blk_drew BK101.out)); (have n2_ := Aside0.mk (blk_drew BK114.out)); (have n3_ := Aside0.mk (below_drew1 HB.out)); clear HO_4 BK101 BK114 HB; (have HO_4 := n0_)
               (have BK101 := n1_); (have BK114 := n2_); (have HB := n3_); clear n0_ n1_ n2_ n3_; (refine start_ (n := 14) (S := fun w' => w'.cell? ⟨gb114, 0, none⟩ = some (.int .i64 ((rd_T82 l0_1 x37_2).f0)) ∧ w'.cell? ⟨gb114, 1, none⟩ = some (.int .i64 ((rd_T82 l0_1 x37_2).f1))) (ds := []) (cn 14 0) (by kernel_rfl) rfl (by kernel_rfl) ⟨cz BK114.out 0, cz BK114.out 1⟩ (fun hHeld => ?_); refine with_tabW impl_RecordToEnglish.tab12 impl_RecordToEnglish.bits12 (fun HT_ HW_ => ?_)); (generalize w42.drew = w43 at HO_4 BK101 BK114 HB hHeld ⊢); (refine pB 0 (cn 14 1) (some 41) HT_ (h := ?_)); (refine pB 1 (cn 14 2) (some 42) HT_ (h := ?_)); (refine pB 6 (cb 14 67) (some 47) HT_ (h := ?_)); (refine tB 2 (cb 14 71) (some 43) HT_ HW_ hHeld (h := ?_)); (refine tB 7 (cb 14 199) (some 48) HT_ HW_ hHeld (h := ?_)); (refine oN 3 (some 44) (cb 14 207) HT_ (fun K hK => ?_)); (refine gG Tryz.func52 #[.int .i64 ((rd_T82 l0_1 x37_2).f0)] ?_); (with_reducible refine (strconv_Itoa.calls ((rd_T82 l0_1 x37_2).f0) t115 _ ?side1 A32.out).mono ?_); ((case side1 => first | exact GT.below HG.out (eI HB) | (repeat (first | exact HG.out | (with_reducible first | apply GT.drewN | apply GT.drew | apply GT.alloc))))); (rintro e w44 ⟨rfl, hb⟩); (refine ⟨_, rfl, ?_⟩); (have n0_ := Aside0.mk (rbI hb HO_4)); (have n1_ := Aside0.mk (kbI hb BK101)); (have n2_ := Aside0.mk (kbI hb BK114)); (have n3_ := Aside0.mk (sI hb HB)); clear HO_4 BK101 BK114 HB; (have HO_4 := n0_); (have BK101 := n1_); (have BK114 := n2_); (have HB := n3_); clear n0_ n1_ n2_ n3_; ((try clear hb)); ((try clear hb2)); ((try clear hk)); ((try clear hi)); (refine hK.out _ _ ⟨cz BK114.out 0, cz BK114.out 1⟩ (fun hHeld => ?_)); clear hK K; (refine nP (some 44) (h := ?_)); (refine pB 4 (cb 14 223) (some 45) HT_ (h := ?_)); (refine pB 5 (cn 14 8) (some 46) HT_ (h := ?_)); (refine oN 8 (some 49) (cn 14 9) HT_ (fun K hK => ?_)); (refine gG Tryz.func52 #[.int .i64 ((rd_T82 l0_1 x37_2).f1)] ?_); (with_reducible refine (strconv_Itoa.calls ((rd_T82 l0_1 x37_2).f1) t116 _ ?side1 A35.out).mono ?_); ((case side1 => first | exact GT.below HG.out (eI HB) | (repeat (first | exact HG.out | (with_reducible first | apply GT.drewN | apply GT.drew | apply GT.alloc))))); (rintro e w45 ⟨rfl, hb⟩); (refine ⟨_, rfl, ?_⟩); (have n0_ := Aside0.mk (rbI hb HO_4))
               (have n1_ := Aside0.mk (kbI hb BK101)); (have n2_ := Aside0.mk (kbI hb BK114)); (have n3_ := Aside0.mk (sI hb HB)); clear HO_4 BK101 BK114 HB; (have HO_4 := n0_); (have BK101 := n1_); (have BK114 := n2_); (have HB := n3_); clear n0_ n1_ n2_ n3_; ((try clear hb)); ((try clear hb2)); ((try clear hk)); ((try clear hi)); (refine hK.out _ _ ⟨cz BK114.out 0, cz BK114.out 1⟩ (fun hHeld => ?_)); clear hK K; (refine nP (some 49) (h := ?_)); (refine pB 9 (cn 14 10) (some 50) HT_ (h := ?_)); (refine pB 10 (cn 14 11) (some 51) HT_ (h := ?_)); (refine oN 11 (some 52) (cn 14 12) HT_ (fun K hK => ?_)); (refine value_ (w1 := ?_) (v := ?_) (by rfl) rfl ?_ ?_); (rotate_left 2)
               ·go_simp
                (constructor); (· rfl); (· rfl)
               (refine hK.out _ _ ⟨(blk_cell (blk_alloc BK114.out _) 0).trans rfl, (blk_cell (blk_alloc BK114.out _) 1).trans rfl⟩ (fun hHeld => ?_)); clear hK K; (refine nP (some 52) (h := ?_)); (refine oN 12 (some 53) (cn 14 13) HT_ (fun K hK => ?_)); (refine Kd.R_append_step Kd.string (w0 := w) w.heap.size (by rfl) (.tmp 41) (.tmp 52) 67 9 (.string ⟨#[]⟩) 16 rfl Tryz.underlying67 info9 rfl (by decide) (by omega) u4 x4_2 (((((⟨#[67, 111, 110, 116, 101, 120, 116, 32]⟩ : ByteArray) ++ t115) ++ (⟨#[32, 108, 105, 101, 115, 32, 97, 98, 111, 118, 101, 32, 99, 111, 110, 116, 101, 120, 116, 32]⟩ : ByteArray)) ++ t116) ++ (⟨#[46]⟩ : ByteArray)) [.string (((((⟨#[67, 111, 110, 116, 101, 120, 116, 32]⟩ : ByteArray) ++ t115) ++ (⟨#[32, 108, 105, 101, 115, 32, 97, 98, 111, 118, 101, 32, 99, 111, 110, 116, 101, 120, 116, 32]⟩ : ByteArray)) ++ t116) ++ (⟨#[46]⟩ : ByteArray))] (fun _ => True) (fun _ => False) rfl rfl ?aP (fun _ hk => hk.elim) ?aF ?aO ?aB ?aS ?aL ?_); ((case aP => exact rfl)); ((case aB => exact (eI HB))); ((case aF => exact (fun _ _ => trivial))); ((case aO => exact (rI HO_4))); ((case aS => exact (below_size (eI HB)))); ((case aL => have := LMc38.out; omega)); intro v118 w46 ho hb hg hat; (rw [← Ny117.out] at ho); (have n0_ := Aside0.mk (blk_grown (kI BK101) hg (Kd.R_ne HO_4.out BK101.out (by decide)))); (have n1_ := Aside0.mk (blk_grown (kI BK114) hg (Kd.R_ne HO_4.out BK114.out (by decide)))); (have n2_ := Aside0.mk (hb)); (have n3_ := Aside0.mk (ho)); clear BK101 BK114 HB HO_4; (have BK101 := n0_); (have BK114 := n1_); (have HB := n2_); (have HO119 := n3_); clear n0_ n1_ n2_ n3_ ho hb hg hat; (refine hK.out _ _ ⟨cz BK114.out 0, cz BK114.out 1⟩ (fun hHeld => ?_)); clear hK K; (refine nP (some 53) (h := ?_)); (refine pB 13 (cn 14 14) (some 4) HT_ (h := ?_)); (refine done_ (done_of HT_.out (by kernel_rfl)) ?_); (try go_wp2); go_roundg k2
               case measure => have := HK1.out; have := HK2.out; omega
               case rel => exact ⟨(y117), (wrap64 (x37_2 + 1)), (by first | rfl | (simp; done) | (simp [*]; done)), H', ⟨by have := HK1.out; have := HK2.out; omega⟩, ⟨rI HO119⟩, ⟨kI BK101⟩, ⟨eI HB⟩⟩
              ·rw [if_neg c38] at H
               exact absurd H (by simp)
             ·rw [if_neg c37] at H
              exact absurd H (by simp)
            ·rw [if_neg c36] at H
             exact absurd H (by simp)
           ·rw [if_neg c34] at H
            exact absurd H (by simp)
          ·rw [if_neg c33] at H
           exact absurd H (by simp)
         ·rw [if_neg c31] at H
          exact absurd H (by simp)
        ·rw [if_neg c30] at H
         exact absurd H (by simp)
       ·rw [if_neg c29] at H
        (have c29b0 := decide_eq_false c29); clear c29; (obtain ⟨t120, A47, H⟩ := obS H); (simp only [Option.some.injEq, Prod.mk.injEq] at H); (obtain ⟨rfl, rfl⟩ := H); (obtain ⟨Ao48, co48, eo48⟩ := Kd.R_slice HO_4.out); subst eo48; (go_wp2_with (first | ((with_reducible refine gate_callee (f := 29) rfl ?_); refine gL (some 56) Tryz.func29 #[.slice Ao48 x4_2.length co48] ?_; (with_reducible refine (impl_withNewlines.calls k2 _ _ x4_2 t120 _ ?side1 ?side2 A47.out).mono ?_); (case side1 => repeat (first | exact (Kd.R_reads' HO_4.out).2.2 | (with_reducible first | refine cA ?_ _ | refine cN ?_ _ | refine cD ?_))); (case side2 => exact (Kd.R_reads' HO_4.out).2.1); rintro e w' ⟨rfl, ⟨nd, rfl⟩⟩; refine ⟨_, rfl, ?_⟩))); (go_ret2); (exact ⟨rfl, eI HB⟩)
 ·replace c3 := Bool.eq_false_iff.mpr c3
  subst c3; (rw [if_neg (show ¬ (false = true) by decide)] at H); (simp only [Option.some.injEq, Prod.mk.injEq] at H); (obtain ⟨rfl, rfl⟩ := H); (go_enter Tryz.func28, Tryz.ntmps28); (go_wp2_with (first | ((with_reducible refine gate_dst (N := 1) rfl ?_); refine box_event ?hg (N := 1) ?hd (cs := #[.slice A0_0 l0_0.length c0_0, .slice A0_1 l0_1.length c0_1]) (t := 36) ?hr ?_; (case hd => rfl); (case hg => rfl); (case hr => first | (go_simp; done) | (go_simp; rfl)); intro gb101 hg w49 hbox hb; have hB_ := zI hb HB; have n0_ := Aside0.mk (below_step hB_ hb); have n1_ := Aside0.mk (hbox); have n2_ := Aside0.mk (bx0 hg hB_); have n3_ := n2_; clear HB; have HB := n0_; have BK101 := n1_; have GW101 := n2_; have GE101 := n3_; clear n0_ n1_ n2_ n3_ hB_ hb hbox hg; have hcz50_0 := cz BK101.out 0; have hcz50_1 := cz BK101.out 1; have hfz50_0 := blk_frozen BK101.out 0; have hfz50_1 := blk_frozen BK101.out 1) | ((with_reducible refine gate_callee (f := 19) rfl ?_); refine gL (some 10) Tryz.func19 #[.agg #[.slice A0_0 l0_0.length c0_0, .slice A0_1 l0_1.length c0_1]] ?_; (with_reducible refine (impl_IsValidRecord.calls k _ _ l0_0 _ _ l0_1 false _ ?side1 ?side2 ?side3 ?side4 A2.out).mono ?_); (case side1 => exact Kd.C_below HR0_0.out (eI HB)); (case side2 => exact HC0_0.out); (case side3 => exact Kd.C_below HR0_1.out (eI HB)); (case side4 => exact HC0_1.out); rintro e w51 ⟨rfl, hb⟩; refine ⟨_, rfl, ?_⟩; have n0_ := Aside0.mk (kbI hb BK101); have n1_ := Aside0.mk (sI hb HB); clear BK101 HB; have BK101 := n0_; have HB := n1_; clear n0_ n1_; (try clear hb); (try clear hb2); (try clear hk); (try clear hi)))); (go_ret2); (exact ⟨rfl, eI HB⟩)
/-! ### impl_yearText: function 73 -/
def impl_yearText.f (a0 : Int) : Option (ByteArray) := if a0 > 0 then ((strconv_Itoa.f a0).bind fun t101 => (if 3 + t101.size ≤ 9223372036854775807 then (some ((⟨#[65, 68, 32]⟩ : ByteArray) ++ t101)) else (none))) else ((strconv_Itoa.f (wrap64 (1 - a0))).bind fun t102 => (if t102.size + 3 ≤ 9223372036854775807 then (some (t102 ++ (⟨#[32, 66, 67]⟩ : ByteArray))) else (none)))
set_option maxHeartbeats 8000000 in
set_option maxRecDepth 100000 in
theorem impl_yearText.calls (a0 : Int) (r : ByteArray) (w : World) (hG : GT w) (h : impl_yearText.f a0 = some r) :
  Calls Tryz.prog 73 #[.int .i64 a0] w fun e w' => e = .returned (.string r) ∧ Below w.heap.size w w' := by
 (have HG := Aside0.mk hG); clear hG; (have HB := Aside0.mk (Below.refl w.heap.size w)); (unfold impl_yearText.f at h); (have H := h); clear h; (by_cases c2 : a0 > 0)
 ·rw [if_pos c2] at H
  (have c2b0 : decide (0 < a0) = true := decide_eq_true c2); clear c2; (obtain ⟨t101, A3, H⟩ := obS H); (by_cases c4 : 3 + t101.size ≤ 9223372036854775807); (· (rw [if_pos c4] at H); (have c4b0 := eq_true c4); (have c4b1 := decide_eq_true c4); (try have c4b2 : (9223372036854775807 < 3 + t101.size) = False := eq_false (Nat.not_lt.2 c4)); (obtain rfl := Option.some.inj H); (go_enter Tryz.func73, Tryz.ntmps73); (go_wp2_with (first | ((with_reducible refine gate_callee (f := 52) rfl ?_); refine gL (some 6) Tryz.func52 #[.int .i64 a0] ?_; (with_reducible refine (strconv_Itoa.calls a0 t101 _ ?side1 A3.out).mono ?_); (case side1 => first | exact GT.below HG.out (eI HB) | (repeat (first | exact HG.out | (with_reducible first | apply GT.drewN | apply GT.drew | apply GT.alloc)))); rintro e w5 ⟨rfl, hb⟩; refine ⟨_, rfl, ?_⟩; have n0_ := Aside0.mk (sI hb HB); clear HB; have HB := n0_; clear n0_; (try clear hb); (try clear hb2); (try clear hk); (try clear hi)))); go_ret; (exact ⟨rfl, eI HB⟩)); (· (rw [if_neg c4] at H); (exact absurd H (by simp)))
 ·rw [if_neg c2] at H
  (have c2b0 : decide (0 < a0) = false := decide_eq_false c2); clear c2; (obtain ⟨t102, A6, H⟩ := obS H); (by_cases c7 : t102.size + 3 ≤ 9223372036854775807); (· (rw [if_pos c7] at H); (have c7b0 := eq_true c7); (have c7b1 := decide_eq_true c7); (try have c7b2 : (9223372036854775807 < t102.size + 3) = False := eq_false (Nat.not_lt.2 c7)); (obtain rfl := Option.some.inj H); (go_enter Tryz.func73, Tryz.ntmps73); (go_wp2_with (first | ((with_reducible refine gate_callee (f := 52) rfl ?_); refine gL (some 10) Tryz.func52 #[.int .i64 (wrap64 (1 - a0))] ?_; (with_reducible refine (strconv_Itoa.calls (wrap64 (1 - a0)) t102 _ ?side1 A6.out).mono ?_); (case side1 => first | exact GT.below HG.out (eI HB) | (repeat (first | exact HG.out | (with_reducible first | apply GT.drewN | apply GT.drew | apply GT.alloc)))); rintro e w8 ⟨rfl, hb⟩; refine ⟨_, rfl, ?_⟩; have n0_ := Aside0.mk (sI hb HB); clear HB; have HB := n0_; clear n0_; (try clear hb); (try clear hb2); (try clear hk); (try clear hi)))); go_ret; (exact ⟨rfl, eI HB⟩)); (· (rw [if_neg c7] at H); (exact absurd H (by simp)))
/-! ### impl_intervalText: function 54 -/
def impl_intervalText.f (a0_0 : Int) (a0_1 : Int) : Option (ByteArray) := if a0_0 = a0_1 then ((impl_yearText.f a0_0).bind fun t102 => (if 3 + t102.size ≤ 9223372036854775807 then (some ((⟨#[105, 110, 32]⟩ : ByteArray) ++ t102)) else (none))) else ((impl_yearText.f a0_0).bind fun t103 => (if 8 + t103.size ≤ 9223372036854775807 then (if ((⟨#[98, 101, 116, 119, 101, 101, 110, 32]⟩ : ByteArray) ++ t103).size + 5 ≤ 9223372036854775807 then ((impl_yearText.f a0_1).bind fun t104 => (if (((⟨#[98, 101, 116, 119, 101, 101, 110, 32]⟩ : ByteArray) ++ t103) ++ (⟨#[32, 97, 110, 100, 32]⟩ : ByteArray)).size + t104.size ≤ 9223372036854775807 then (some ((((⟨#[98, 101, 116, 119, 101, 101, 110, 32]⟩ : ByteArray) ++ t103) ++ (⟨#[32, 97, 110, 100, 32]⟩ : ByteArray)) ++ t104)) else (none))) else (none)) else (none)))
def impl_intervalText.T3 : Bool × List (List Nat × List Nat) := (true, [([], []), ([0], [0]), ([1], [1]), ([2], [2]), ([3], [3]), ([], []), ([5], [5]), ([6, 2], [6]), ([4, 7], [4, 7]), ([8, 7, 0, 1, 2, 3, 4, 5, 6, 7, 8], [8])])
def impl_intervalText.B3 : List Nat := [0, 1, 3, 7, 15, 0, 32, 103, 255, 511]
theorem impl_intervalText.tab3 : rtab .any (opsOf Tryz.f54 3) = impl_intervalText.T3 := by kernel_rfl
theorem impl_intervalText.bits3 : waitsOk impl_intervalText.T3.2 impl_intervalText.B3 = true := by kernel_rfl
set_option maxHeartbeats 8000000 in
set_option maxRecDepth 100000 in
theorem impl_intervalText.calls (a0_0 : Int) (a0_1 : Int) (r : ByteArray) (w : World) (hG : GT w) (h : impl_intervalText.f a0_0 a0_1 = some r) :
  Calls Tryz.prog 54 #[.agg #[.int .i64 a0_0, .int .i64 a0_1]] w fun e w' => e = .returned (.string r) ∧ Below w.heap.size w w' := by
 (have hu55 := Tryz.underlying55); (have HG := Aside0.mk hG); clear hG; (have HB := Aside0.mk (Below.refl w.heap.size w)); (unfold impl_intervalText.f at h); (have H := h); clear h; (by_cases c2 : a0_0 = a0_1)
 ·rw [if_pos c2] at H
  (have c2b0 : (a0_0 == a0_1) = true := beq_iff_eq.mpr c2); (have c2b1 : (a0_0 != a0_1) = false := bne_eq_false_iff_eq.mpr c2); clear c2; (obtain ⟨t102, A3, H⟩ := obS H); (by_cases c4 : 3 + t102.size ≤ 9223372036854775807); (· (rw [if_pos c4] at H); (have c4b0 := eq_true c4); (have c4b1 := decide_eq_true c4); (try have c4b2 : (9223372036854775807 < 3 + t102.size) = False := eq_false (Nat.not_lt.2 c4)); (obtain rfl := Option.some.inj H); (go_enter Tryz.func54, Tryz.ntmps54); (go_wp2_with (first | ((with_reducible refine gate_dst (N := 1) rfl ?_); refine box_event ?hg (N := 1) ?hd (cs := #[.int .i64 a0_0, .int .i64 a0_1]) (t := 55) ?hr ?_; (case hd => rfl); (case hg => rfl); (case hr => first | (go_simp; done) | (go_simp; rfl)); intro gb101 hg w5 hbox hb; have hB_ := zI hb HB; have n0_ := Aside0.mk (below_step hB_ hb); have n1_ := Aside0.mk (hbox); have n2_ := Aside0.mk (bx0 hg hB_); have n3_ := n2_; clear HB; have HB := n0_; have BK101 := n1_; have GW101 := n2_; have GE101 := n3_; clear n0_ n1_ n2_ n3_ hB_ hb hbox hg; have hcz6_0 := cz BK101.out 0; have hcz6_1 := cz BK101.out 1; have hfz6_0 := blk_frozen BK101.out 0; have hfz6_1 := blk_frozen BK101.out 1) | ((with_reducible refine gate_callee (f := 73) rfl ?_); refine gL (some 10) Tryz.func73 #[.int .i64 a0_0] ?_; (with_reducible refine (impl_yearText.calls a0_0 t102 _ ?side1 A3.out).mono ?_); (case side1 => first | exact GT.below HG.out (eI HB) | (repeat (first | exact HG.out | (with_reducible first | apply GT.drewN | apply GT.drew | apply GT.alloc)))); rintro e w7 ⟨rfl, hb⟩; refine ⟨_, rfl, ?_⟩; have n0_ := Aside0.mk (kbI hb BK101); have n1_ := Aside0.mk (sI hb HB); clear BK101 HB; have BK101 := n0_; have HB := n1_; clear n0_ n1_; (try clear hb); (try clear hb2); (try clear hk); (try clear hi)))); go_ret; (exact ⟨rfl, eI HB⟩)); (· (rw [if_neg c4] at H); (exact absurd H (by simp)))
 ·rw [if_neg c2] at H
  (have c2b0 : (a0_0 == a0_1) = false := beq_eq_false_iff_ne.mpr c2); (have c2b1 : (a0_0 != a0_1) = true := bne_iff_ne.mpr c2); (obtain ⟨t103, A8, H⟩ := obS H); (by_cases c9 : 8 + t103.size ≤ 9223372036854775807)
  ·rw [if_pos c9] at H
   (have c9b0 := eq_true c9); (have c9b1 := decide_eq_true c9); (try have c9b2 : (9223372036854775807 < 8 + t103.size) = False := eq_false (Nat.not_lt.2 c9)); (by_cases c10 : ((⟨#[98, 101, 116, 119, 101, 101, 110, 32]⟩ : ByteArray) ++ t103).size + 5 ≤ 9223372036854775807)
   ·rw [if_pos c10] at H
    (have c10b0 := eq_true c10); (have c10b1 := decide_eq_true c10); (try have c10n0 := c10b0); (try (push_cast [Int.toNat_natCast, ByteArray.size_append, show (⟨#[98, 101, 116, 119, 101, 101, 110, 32]⟩ : ByteArray).size = 8 from rfl] at c10n0)); (try have c10n1 := c10b1); (try (push_cast [Int.toNat_natCast, ByteArray.size_append, show (⟨#[98, 101, 116, 119, 101, 101, 110, 32]⟩ : ByteArray).size = 8 from rfl] at c10n1)); (try have c10b2 : (9223372036854775807 < ((⟨#[98, 101, 116, 119, 101, 101, 110, 32]⟩ : ByteArray) ++ t103).size + 5) = False := eq_false (Nat.not_lt.2 c10)); (try have c10b3 := c10b2); (try simp only [ByteArray.size_append, show (⟨#[98, 101, 116, 119, 101, 101, 110, 32]⟩ : ByteArray).size = 8 from rfl] at c10b3); (obtain ⟨t104, A11, H⟩ := obS H); (by_cases c12 : (((⟨#[98, 101, 116, 119, 101, 101, 110, 32]⟩ : ByteArray) ++ t103) ++ (⟨#[32, 97, 110, 100, 32]⟩ : ByteArray)).size + t104.size ≤ 9223372036854775807)
    ·rw [if_pos c12] at H
     (have c12b0 := eq_true c12); (have c12b1 := decide_eq_true c12); (try have c12n0 := c12b0); (try (push_cast [Int.toNat_natCast, ByteArray.size_append, show (⟨#[32, 97, 110, 100, 32]⟩ : ByteArray).size = 5 from rfl, show (⟨#[98, 101, 116, 119, 101, 101, 110, 32]⟩ : ByteArray).size = 8 from rfl] at c12n0)); (try have c12n1 := c12b1); (try (push_cast [Int.toNat_natCast, ByteArray.size_append, show (⟨#[32, 97, 110, 100, 32]⟩ : ByteArray).size = 5 from rfl, show (⟨#[98, 101, 116, 119, 101, 101, 110, 32]⟩ : ByteArray).size = 8 from rfl] at c12n1)); (try have c12b2 : (9223372036854775807 < (((⟨#[98, 101, 116, 119, 101, 101, 110, 32]⟩ : ByteArray) ++ t103) ++ (⟨#[32, 97, 110, 100, 32]⟩ : ByteArray)).size + t104.size) = False := eq_false (Nat.not_lt.2 c12)); (try have c12b3 := c12b2); (try simp only [ByteArray.size_append, show (⟨#[32, 97, 110, 100, 32]⟩ : ByteArray).size = 5 from rfl, show (⟨#[98, 101, 116, 119, 101, 101, 110, 32]⟩ : ByteArray).size = 8 from rfl] at c12b3); (obtain rfl := Option.some.inj H); (go_enter Tryz.func54, Tryz.ntmps54); (try go_wp2_with (first | ((with_reducible refine gate_dst (N := 1) rfl ?_); refine box_event ?hg (N := 1) ?hd (cs := #[.int .i64 a0_0, .int .i64 a0_1]) (t := 55) ?hr ?_; (case hd => rfl); (case hg => rfl); (case hr => first | (go_simp; done) | (go_simp; rfl)); intro gb101 hg w13 hbox hb; have hB_ := zI hb HB; have n0_ := Aside0.mk (below_step hB_ hb); have n1_ := Aside0.mk (hbox); have n2_ := Aside0.mk (bx0 hg hB_); have n3_ := n2_; clear HB; have HB := n0_; have BK101 := n1_; have GW101 := n2_; have GE101 := n3_; clear n0_ n1_ n2_ n3_ hB_ hb hbox hg; have hcz14_0 := cz BK101.out 0; have hcz14_1 := cz BK101.out 1; have hfz14_0 := blk_frozen BK101.out 0; have hfz14_1 := blk_frozen BK101.out 1))); (have n0_ := Aside0.mk (blk_drew BK101.out)); (have n1_ := Aside0.mk (below_drew1 HB.out)); clear BK101 HB; (have BK101 := n0_); (have HB := n1_); clear n0_ n1_; (refine start_ (n := 10) (S := fun w' => w'.cell? ⟨gb101, 0, none⟩ = some (.int .i64 a0_0) ∧ w'.cell? ⟨gb101, 1, none⟩ = some (.int .i64 a0_1)) (ds := []) (cn 10 0) (by kernel_rfl) rfl (by kernel_rfl) ⟨cz BK101.out 0, cz BK101.out 1⟩ (fun hHeld => ?_); refine with_tabW impl_intervalText.tab3 impl_intervalText.bits3 (fun HT_ HW_ => ?_)); (generalize w13.drew = w15 at BK101 HB hHeld ⊢); (refine pB 0 (cn 10 1) (some 12) HT_ (h := ?_)); (refine pB 5 (cb 10 33) (some 17) HT_ (h := ?_)); (refine tB 1 (cb 10 35) (some 13) HT_ HW_ hHeld (h := ?_)); (refine tB 6 (cb 10 99) (some 18) HT_ HW_ hHeld (h := ?_)); (refine oN 2 (some 14) (cb 10 103) HT_ (fun K hK => ?_)); (refine gG Tryz.func73 #[.int .i64 a0_0] ?_); (with_reducible refine (impl_yearText.calls a0_0 t103 _ ?side1 A8.out).mono ?_); ((case side1 => first | exact GT.below HG.out (eI HB) | (repeat (first | exact HG.out | (with_reducible first | apply GT.drewN | apply GT.drew | apply GT.alloc))))); (rintro e w16 ⟨rfl, hb⟩); (refine ⟨_, rfl, ?_⟩); (have n0_ := Aside0.mk (kbI hb BK101)); (have n1_ := Aside0.mk (sI hb HB)); clear BK101 HB; (have BK101 := n0_); (have HB := n1_); clear n0_ n1_; ((try clear hb)); ((try clear hb2)); ((try clear hk)); ((try clear hi)); (refine hK.out _ _ ⟨cz BK101.out 0, cz BK101.out 1⟩ (fun hHeld => ?_)); clear hK K; (refine nP (some 14) (h := ?_)); (refine pB 3 (cb 10 111) (some 15) HT_ (h := ?_))
     (refine pB 4 (cn 10 7) (some 16) HT_ (h := ?_)); (refine oN 7 (some 19) (cn 10 8) HT_ (fun K hK => ?_)); (refine gG Tryz.func73 #[.int .i64 a0_1] ?_); (with_reducible refine (impl_yearText.calls a0_1 t104 _ ?side1 A11.out).mono ?_); ((case side1 => first | exact GT.below HG.out (eI HB) | (repeat (first | exact HG.out | (with_reducible first | apply GT.drewN | apply GT.drew | apply GT.alloc))))); (rintro e w17 ⟨rfl, hb⟩); (refine ⟨_, rfl, ?_⟩); (have n0_ := Aside0.mk (kbI hb BK101)); (have n1_ := Aside0.mk (sI hb HB)); clear BK101 HB; (have BK101 := n0_); (have HB := n1_); clear n0_ n1_; ((try clear hb)); ((try clear hb2)); ((try clear hk)); ((try clear hi)); (refine hK.out _ _ ⟨cz BK101.out 0, cz BK101.out 1⟩ (fun hHeld => ?_)); clear hK K; (refine nP (some 19) (h := ?_)); (refine pB 8 (cn 10 9) (some 20) HT_ (h := ?_)); (refine pB 9 (cn 10 10) (some 2) HT_ (h := ?_)); (refine done_ (done_of HT_.out (by kernel_rfl)) ?_); (try go_wp2); go_ret; (exact ⟨rfl, eI HB⟩)
    ·rw [if_neg c12] at H
     exact absurd H (by simp)
   ·rw [if_neg c10] at H
    exact absurd H (by simp)
  ·rw [if_neg c9] at H
   exact absurd H (by simp)
/-! ### impl_evidenceLines: function 30 -/
def impl_evidenceLines.l0 : Nat → List ByteArray → List (S57) → Int → Int → Option (List ByteArray)
 | 0, _, _, _, _ => none
 | k + 1, x3, x7, x8, x9 => if x9 < x8 then (if 0 ≤ x9 then (if x9 < (x7.length : Int) then ((strconv_Itoa.f ((rd_T57 x7 x9).f0)).bind fun t106 => (if 8 + t106.size ≤ 9223372036854775807 then (if ((⟨#[67, 111, 110, 116, 101, 120, 116, 32]⟩ : ByteArray) ++ t106).size + 12 ≤ 9223372036854775807 then ((impl_intervalText.f ((rd_T57 x7 x9).f1.f0) ((rd_T57 x7 x9).f1.f1)).bind fun t107 => (if (((⟨#[67, 111, 110, 116, 101, 120, 116, 32]⟩ : ByteArray) ++ t106) ++ (⟨#[32, 119, 97, 115, 32, 102, 111, 114, 109, 101, 100, 32]⟩ : ByteArray)).size + t107.size ≤ 9223372036854775807 then (if ((((⟨#[67, 111, 110, 116, 101, 120, 116, 32]⟩ : ByteArray) ++ t106) ++ (⟨#[32, 119, 97, 115, 32, 102, 111, 114, 109, 101, 100, 32]⟩ : ByteArray)) ++ t107).size + 1 ≤ 9223372036854775807 then (if x3.length < 8796093022208 then (impl_evidenceLines.l0 k (x3 ++ [((((⟨#[67, 111, 110, 116, 101, 120, 116, 32]⟩ : ByteArray) ++ t106) ++ (⟨#[32, 119, 97, 115, 32, 102, 111, 114, 109, 101, 100, 32]⟩ : ByteArray)) ++ t107) ++ (⟨#[46]⟩ : ByteArray)]) x7 x8 (wrap64 (x9 + 1))) else (none)) else (none)) else (none))) else (none)) else (none))) else (none)) else (none)) else (some x3)
def impl_evidenceLines.f (k : Nat) (l0 : List (S57)) : Option (List ByteArray) := impl_evidenceLines.l0 k (([] : List ByteArray)) l0 (l0.length : Int) 0
def impl_evidenceLines.T5 : Bool × List (List Nat × List Nat) := (true, [([], []), ([], []), ([1], [1]), ([2], [2]), ([3], [3]), ([4], [4]), ([], []), ([6], [6]), ([7, 3], [7]), ([5, 8], [5, 8]), ([9], [9]), ([10], [10]), ([0, 11, 8], [0, 11]), ([12, 12, 0, 1, 2, 3, 4, 5, 6, 7, 8, 9, 10, 11, 12], [0, 12])])
def impl_evidenceLines.B5 : List Nat := [0, 0, 2, 6, 14, 30, 0, 64, 206, 510, 1022, 2046, 4095, 8191]
theorem impl_evidenceLines.tab5 : rtab .any (opsOf Tryz.f30 5) = impl_evidenceLines.T5 := by kernel_rfl
theorem impl_evidenceLines.bits5 : waitsOk impl_evidenceLines.T5.2 impl_evidenceLines.B5 = true := by kernel_rfl
set_option maxHeartbeats 8000000 in
set_option maxRecDepth 100000 in
theorem impl_evidenceLines.calls (k : Nat) (A0 : Option Addr) (c0 : Nat) (l0 : List (S57)) (r : List ByteArray) (w : World) (hr0 : Kd.C k57 w A0 l0.length l0) (hc0 : l0.length ≤ c0) (hG : GT w) (h : impl_evidenceLines.f k l0 = some r) :
  Calls Tryz.prog 30 #[.slice A0 l0.length c0] w fun e w' => ∃ v0_ : Value, e = .returned (v0_) ∧ Kd.R Kd.string 9 w' w.heap.size (fun _ => True) v0_ r ∧ Below w.heap.size w w' := by
 (have hu57 := Tryz.underlying57); (have hu55 := Tryz.underlying55); (have HR0 := Aside0.mk hr0); (have HC0 := Aside0.mk hc0); clear hr0 hc0; (have HG := Aside0.mk hG); clear hG; (have HB := Aside0.mk (Below.refl w.heap.size w)); (unfold impl_evidenceLines.f at h); (have H := h); clear h; (obtain ⟨y101, hy101⟩ : ∃ y_ : List ByteArray, y_ = (([] : List ByteArray)) := ⟨_, rfl⟩); (replace H : (impl_evidenceLines.l0 k y101 l0 (l0.length : Int) 0) = some r := by first | (rw [hy101]; with_reducible exact H) | (have H2_ := (Option.bind_some _ _).symm.trans H; rw [hy101]; with_reducible exact H2_) | (have H2_ := (Option.bind_some _ _).symm.trans H; with_reducible exact H2_) | with_reducible exact H | (rw [hy101]; exact H) | exact H); (have Ny101 := Aside0.mk hy101); clear hy101; (have H' := Aside0.mk H); clear H; (go_enter Tryz.func30, Tryz.ntmps30); (go_wp2_with (first | ((with_reducible refine gate_dst (N := 6) rfl ?_); refine Kd.R_lit Kd.string _ 9 ?hg (N := 6) ?hd (xs := ([] : List ByteArray)) (inner := []) (ok := fun _ => True) (okp := fun _ => True) ?hr ?hp (fun _ hk => hk) trivial (Below.refl _ _) (Nat.le_refl _) (by simp) ?_; (case hd => rfl); (case hg => rfl); (case hr => first | (go_simp; done) | (go_simp; rfl)); (case hp => exact (Reps.none _ _)); intro v102 w2 ho3 hb hg_ hnew_; clear hg_ hnew_; (first | rw [← Ny101.out] at ho3 | (simp only [Int.reduceToNat] at ho3; rw [← Ny101.out] at ho3)); have hB_ := zI hb HB; have n0_ := Aside0.mk (Kd.R_lower ho3 (below_size hB_)); have n1_ := Aside0.mk (below_step hB_ hb); clear HB; have HO103 := n0_; have HB := n1_; clear n0_ n1_ hB_ hb ho3))); (go_loopg [3, 9] k (fun kq v3 v9 w' => ∃ (x3_1 : List ByteArray) (x9_1 : Int), v9 = .int .i64 x9_1 ∧ Aside0 (impl_evidenceLines.l0 kq x3_1 l0 (l0.length : Int) x9_1 = some r) ∧ Aside0 (kq ≤ k) ∧ Aside0 (Kd.R Kd.string 9 w' w.heap.size (fun _ => True) v3 x3_1) ∧ Aside0 (Below w.heap.size w w')))
 case atStart => exact ⟨(y101), (0), (by first | rfl | (simp; done) | (simp [*]; done)), H', ⟨Nat.le_refl _⟩, ⟨rI HO103⟩, ⟨eI HB⟩⟩
 case round =>
  (clear H'); (try clear p2); (try clear c3); (obtain ⟨x3_1, x9_1, rfl, HA, HK1, HO_3, HB⟩ := hrel)
  cases gk with
  | zero => exact absurd HA.out (by simp [impl_evidenceLines.l0])
  | succ k1 =>
   (have H := HA.out); clear HA; (simp only [impl_evidenceLines.l0] at H); (by_cases c4 : x9_1 < (l0.length : Int))
   ·rw [if_pos c4] at H
    (have c4b0 := decide_eq_true c4); clear c4; (by_cases c5 : 0 ≤ x9_1)
    ·rw [if_pos c5] at H
     (have c5b0 := decide_eq_true c5); clear c5; (by_cases c6 : x9_1 < (l0.length : Int))
     ·rw [if_pos c6] at H
      (have c6b0 := decide_eq_true c6); clear c6; (obtain ⟨t106, A7, H⟩ := obS H); (by_cases c8 : 8 + t106.size ≤ 9223372036854775807)
      ·rw [if_pos c8] at H
       (have c8b0 := eq_true c8); (have c8b1 := decide_eq_true c8); (try have c8b2 : (9223372036854775807 < 8 + t106.size) = False := eq_false (Nat.not_lt.2 c8)); (by_cases c9 : ((⟨#[67, 111, 110, 116, 101, 120, 116, 32]⟩ : ByteArray) ++ t106).size + 12 ≤ 9223372036854775807)
       ·rw [if_pos c9] at H
        (have c9b0 := eq_true c9); (have c9b1 := decide_eq_true c9); (try have c9n0 := c9b0); (try (push_cast [Int.toNat_natCast, ByteArray.size_append, show (⟨#[67, 111, 110, 116, 101, 120, 116, 32]⟩ : ByteArray).size = 8 from rfl] at c9n0)); (try have c9n1 := c9b1); (try (push_cast [Int.toNat_natCast, ByteArray.size_append, show (⟨#[67, 111, 110, 116, 101, 120, 116, 32]⟩ : ByteArray).size = 8 from rfl] at c9n1)); (try have c9b2 : (9223372036854775807 < ((⟨#[67, 111, 110, 116, 101, 120, 116, 32]⟩ : ByteArray) ++ t106).size + 12) = False := eq_false (Nat.not_lt.2 c9)); (try have c9b3 := c9b2); (try simp only [ByteArray.size_append, show (⟨#[67, 111, 110, 116, 101, 120, 116, 32]⟩ : ByteArray).size = 8 from rfl] at c9b3); (obtain ⟨t107, A10, H⟩ := obS H); (by_cases c11 : (((⟨#[67, 111, 110, 116, 101, 120, 116, 32]⟩ : ByteArray) ++ t106) ++ (⟨#[32, 119, 97, 115, 32, 102, 111, 114, 109, 101, 100, 32]⟩ : ByteArray)).size + t107.size ≤ 9223372036854775807)
        ·rw [if_pos c11] at H
         (have c11b0 := eq_true c11); (have c11b1 := decide_eq_true c11); (try have c11n0 := c11b0); (try (push_cast [Int.toNat_natCast, ByteArray.size_append, show (⟨#[32, 119, 97, 115, 32, 102, 111, 114, 109, 101, 100, 32]⟩ : ByteArray).size = 12 from rfl, show (⟨#[67, 111, 110, 116, 101, 120, 116, 32]⟩ : ByteArray).size = 8 from rfl] at c11n0)); (try have c11n1 := c11b1); (try (push_cast [Int.toNat_natCast, ByteArray.size_append, show (⟨#[32, 119, 97, 115, 32, 102, 111, 114, 109, 101, 100, 32]⟩ : ByteArray).size = 12 from rfl, show (⟨#[67, 111, 110, 116, 101, 120, 116, 32]⟩ : ByteArray).size = 8 from rfl] at c11n1)); (try have c11b2 : (9223372036854775807 < (((⟨#[67, 111, 110, 116, 101, 120, 116, 32]⟩ : ByteArray) ++ t106) ++ (⟨#[32, 119, 97, 115, 32, 102, 111, 114, 109, 101, 100, 32]⟩ : ByteArray)).size + t107.size) = False := eq_false (Nat.not_lt.2 c11)); (try have c11b3 := c11b2); (try simp only [ByteArray.size_append, show (⟨#[32, 119, 97, 115, 32, 102, 111, 114, 109, 101, 100, 32]⟩ : ByteArray).size = 12 from rfl, show (⟨#[67, 111, 110, 116, 101, 120, 116, 32]⟩ : ByteArray).size = 8 from rfl] at c11b3); (by_cases c12 : ((((⟨#[67, 111, 110, 116, 101, 120, 116, 32]⟩ : ByteArray) ++ t106) ++ (⟨#[32, 119, 97, 115, 32, 102, 111, 114, 109, 101, 100, 32]⟩ : ByteArray)) ++ t107).size + 1 ≤ 9223372036854775807)
         ·rw [if_pos c12] at H
          (have c12b0 := eq_true c12); (have c12b1 := decide_eq_true c12); (try have c12n0 := c12b0); (try (push_cast [Int.toNat_natCast, ByteArray.size_append, show (⟨#[32, 119, 97, 115, 32, 102, 111, 114, 109, 101, 100, 32]⟩ : ByteArray).size = 12 from rfl, show (⟨#[67, 111, 110, 116, 101, 120, 116, 32]⟩ : ByteArray).size = 8 from rfl] at c12n0)); (try have c12n1 := c12b1); (try (push_cast [Int.toNat_natCast, ByteArray.size_append, show (⟨#[32, 119, 97, 115, 32, 102, 111, 114, 109, 101, 100, 32]⟩ : ByteArray).size = 12 from rfl, show (⟨#[67, 111, 110, 116, 101, 120, 116, 32]⟩ : ByteArray).size = 8 from rfl] at c12n1)); (try have c12b2 : (9223372036854775807 < ((((⟨#[67, 111, 110, 116, 101, 120, 116, 32]⟩ : ByteArray) ++ t106) ++ (⟨#[32, 119, 97, 115, 32, 102, 111, 114, 109, 101, 100, 32]⟩ : ByteArray)) ++ t107).size + 1) = False := eq_false (Nat.not_lt.2 c12)); (try have c12b3 := c12b2); (try simp only [ByteArray.size_append, show (⟨#[32, 119, 97, 115, 32, 102, 111, 114, 109, 101, 100, 32]⟩ : ByteArray).size = 12 from rfl, show (⟨#[67, 111, 110, 116, 101, 120, 116, 32]⟩ : ByteArray).size = 8 from rfl] at c12b3); (by_cases c13 : x3_1.length < 8796093022208)
          ·rw [if_pos c13] at H
           (have LMc13 := Aside0.mk c13); clear c13; (obtain ⟨y108, hy108⟩ : ∃ y_ : List ByteArray, y_ = (x3_1 ++ [((((⟨#[67, 111, 110, 116, 101, 120, 116, 32]⟩ : ByteArray) ++ t106) ++ (⟨#[32, 119, 97, 115, 32, 102, 111, 114, 109, 101, 100, 32]⟩ : ByteArray)) ++ t107) ++ (⟨#[46]⟩ : ByteArray)]) := ⟨_, rfl⟩); (replace H : (impl_evidenceLines.l0 k1 y108 l0 (l0.length : Int) (wrap64 (x9_1 + 1))) = some r := by first | (rw [hy108]; with_reducible exact H) | (have H2_ := (Option.bind_some _ _).symm.trans H; rw [hy108]; with_reducible exact H2_) | (have H2_ := (Option.bind_some _ _).symm.trans H; with_reducible exact H2_) | with_reducible exact H | (rw [hy108]; exact H) | exact H); (have Ny108 := Aside0.mk hy108); clear hy108; (have H' := Aside0.mk H); clear H; (have p104 : 0 ≤ (x9_1 : Int) := odt); (have q104 : x9_1 < (l0.length : Int) := odt); (obtain ⟨ad104, e104, hx104_0, hx104_1, hx104_2⟩ := at_T57 HR0.out x9_1 p104 q104); (cases e104); (replace hx104_0 := hcI HB hx104_0); (replace hx104_1 := hcI HB hx104_1); (replace hx104_2 := hcI HB hx104_2); (replace p104 := eq_true p104); (replace q104 := eq_true q104); (try go_wp2_with (first | ((with_reducible refine gate_dst (N := 5) rfl ?_); refine box_event ?hg (N := 5) ?hd (cs := #[.int .i64 0, .int .i64 0, .int .i64 0]) (t := 57) ?hr ?_; (case hd => rfl); (case hg => rfl); (case hr => first | (go_simp; done) | (go_simp; rfl)); intro gb105 hg w14 hbox hb; have n0_ := Aside0.mk (rbI hb HO_3); have hB_ := zI hb HB; have n1_ := Aside0.mk (below_step hB_ hb); have n2_ := Aside0.mk (hbox); have n3_ := Aside0.mk (bx0 hg hB_); have n4_ := n3_; clear HO_3 HB; have HO_3 := n0_; have HB := n1_; have BK105 := n2_; have GW105 := n3_; have GE105 := n4_; clear n0_ n1_ n2_ n3_ n4_ hB_ hb hbox hg; have hcz15_0 := cz BK105.out 0; have hcz15_1 := cz BK105.out 1; have hcz15_2 := cz BK105.out 2; have hfz15_0 := blk_frozen BK105.out 0; have hfz15_1 := blk_frozen BK105.out 1; have hfz15_2 := blk_frozen BK105.out 2))); (have n0_ : Aside0 (Kd.R Kd.string 9 (((w14.setCell ⟨gb105, 0, none⟩ (.int .i64 ((rd_T57 l0 x9_1).f0))).setCell ⟨gb105, 1, none⟩ (.int .i64 ((rd_T57 l0 x9_1).f1.f0))).setCell ⟨gb105, 2, none⟩ (.int .i64 ((rd_T57 l0 x9_1).f1.f1))) w.heap.size (fun _ => True) u3 x3_1) := ⟨by (with_reducible repeat (first | apply rA | apply rN | apply rD)); exact Kd.R_mono (Kd.R_far (p := ⟨gb105, 2, none⟩) (Kd.R_far (p := ⟨gb105, 1, none⟩) (Kd.R_far (p := ⟨gb105, 0, none⟩) (Kd.R_types HO_3.out BK105.out (by decide)) (fun _ hk => hk.2) (.int .i64 ((rd_T57 l0 x9_1).f0))) (fun _ hk => hk.2) (.int .i64 ((rd_T57 l0 x9_1).f1.f0))) (fun _ hk => hk.2) (.int .i64 ((rd_T57 l0 x9_1).f1.f1))) (fun _ hk => trivial)⟩); (have n1_ : Aside0 ((((w14.setCell ⟨gb105, 0, none⟩ (.int .i64 ((rd_T57 l0 x9_1).f0))).setCell ⟨gb105, 1, none⟩ (.int .i64 ((rd_T57 l0 x9_1).f1.f0))).setCell ⟨gb105, 2, none⟩ (.int .i64 ((rd_T57 l0 x9_1).f1.f1))).heap[gb105]? = some (.cells #[.int .i64 ((rd_T57 l0 x9_1).f0), .int .i64 ((rd_T57 l0 x9_1).f1.f0), .int .i64 ((rd_T57 l0 x9_1).f1.f1)] 57 (0, 0))) := ⟨by (with_reducible repeat (first | refine kN ?_ _ | refine kD ?_ | refine kA ?_ _)); refine blk_put (cs := #[.int .i64 ((rd_T57 l0 x9_1).f0), .int .i64 ((rd_T57 l0 x9_1).f1.f0), .int .i64 0]) ?_ 2 _ rfl; (with_reducible repeat (first | refine kN ?_ _ | refine kD ?_ | refine kA ?_ _)); refine blk_put (cs := #[.int .i64 ((rd_T57 l0 x9_1).f0), .int .i64 0, .int .i64 0]) ?_ 1 _ rfl; (with_reducible repeat (first | refine kN ?_ _ | refine kD ?_ | refine kA ?_ _)); refine blk_put (cs := #[.int .i64 0, .int .i64 0, .int .i64 0]) ?_ 0 _ rfl; (with_reducible repeat (first | refine kN ?_ _ | refine kD ?_ | refine kA ?_ _)); exact BK105.out⟩); (have n2_ : Aside0 (Below w.heap.size w (((w14.setCell ⟨gb105, 0, none⟩ (.int .i64 ((rd_T57 l0 x9_1).f0))).setCell ⟨gb105, 1, none⟩ (.int .i64 ((rd_T57 l0 x9_1).f1.f0))).setCell ⟨gb105, 2, none⟩ (.int .i64 ((rd_T57 l0 x9_1).f1.f1)))) := ⟨by repeat (first | (with_reducible first | exact HB.out | apply bA | apply bN | apply bD | refine below_set ?_ GE105.out) | exact HB.out)⟩); ((try clear HO_3)); ((try clear BK105)); ((try clear HB)); (generalize (((w14.setCell ⟨gb105, 0, none⟩ (.int .i64 ((rd_T57 l0 x9_1).f0))).setCell ⟨gb105, 1, none⟩ (.int .i64 ((rd_T57 l0 x9_1).f1.f0))).setCell ⟨gb105, 2, none⟩ (.int .i64 ((rd_T57 l0 x9_1).f1.f1))) = w16 at n0_ n1_ n2_ ⊢); (have HO_3 := n0_); (have BK105 := n1_); (have HB := n2_); clear n0_ n1_ n2_; (have n0_ := Aside0.mk (Kd.R_drew HO_3.out)); (have n1_ := Aside0.mk (blk_drew BK105.out)); (have n2_ := Aside0.mk (below_drew1 HB.out)); clear HO_3 BK105 HB; (have HO_3 := n0_); (have BK105 := n1_); (have HB := n2_); clear n0_ n1_ n2_; (refine start_ (n := 14) (S := fun w' => w'.cell? ⟨gb105, 0, none⟩ = some (.int .i64 ((rd_T57 l0 x9_1).f0)) ∧ w'.cell? ⟨gb105, 1, none⟩ = some (.int .i64 ((rd_T57 l0 x9_1).f1.f0)) ∧ w'.cell? ⟨gb105, 2, none⟩ = some (.int .i64 ((rd_T57 l0 x9_1).f1.f1))) (ds := []) (cn 14 0) (by kernel_rfl) rfl (by kernel_rfl) ⟨cz BK105.out 0, cz BK105.out 1, cz BK105.out 2⟩ (fun hHeld => ?_); refine with_tabW impl_evidenceLines.tab5 impl_evidenceLines.bits5 (fun HT_ HW_ => ?_)); (generalize w16.drew = w17 at HO_3 BK105 HB hHeld ⊢)
           (refine pB 0 (cn 14 1) (some 13) HT_ (h := ?_)); (refine pB 1 (cn 14 2) (some 14) HT_ (h := ?_)); (refine pB 6 (cb 14 67) (some 19) HT_ (h := ?_)); (refine tB 2 (cb 14 71) (some 15) HT_ HW_ hHeld (h := ?_)); (refine tB 7 (cb 14 199) (some 20) HT_ HW_ hHeld (h := ?_)); (refine oN 3 (some 16) (cb 14 207) HT_ (fun K hK => ?_)); (refine gG Tryz.func52 #[.int .i64 ((rd_T57 l0 x9_1).f0)] ?_); (with_reducible refine (strconv_Itoa.calls ((rd_T57 l0 x9_1).f0) t106 _ ?side1 A7.out).mono ?_); ((case side1 => first | exact GT.below HG.out (eI HB) | (repeat (first | exact HG.out | (with_reducible first | apply GT.drewN | apply GT.drew | apply GT.alloc))))); (rintro e w18 ⟨rfl, hb⟩); (refine ⟨_, rfl, ?_⟩); (have n0_ := Aside0.mk (rbI hb HO_3)); (have n1_ := Aside0.mk (kbI hb BK105)); (have n2_ := Aside0.mk (sI hb HB)); clear HO_3 BK105 HB; (have HO_3 := n0_); (have BK105 := n1_); (have HB := n2_); clear n0_ n1_ n2_; ((try clear hb)); ((try clear hb2)); ((try clear hk)); ((try clear hi)); (refine hK.out _ _ ⟨cz BK105.out 0, cz BK105.out 1, cz BK105.out 2⟩ (fun hHeld => ?_)); clear hK K; (refine nP (some 16) (h := ?_)); (refine pB 4 (cb 14 223) (some 17) HT_ (h := ?_)); (refine pB 5 (cn 14 8) (some 18) HT_ (h := ?_)); (refine oN 8 (some 21) (cn 14 9) HT_ (fun K hK => ?_)); (refine gG Tryz.func54 #[.agg #[.int .i64 ((rd_T57 l0 x9_1).f1.f0), .int .i64 ((rd_T57 l0 x9_1).f1.f1)]] ?_); (with_reducible refine (impl_intervalText.calls ((rd_T57 l0 x9_1).f1.f0) ((rd_T57 l0 x9_1).f1.f1) t107 _ ?side1 A10.out).mono ?_); ((case side1 => first | exact GT.below HG.out (eI HB) | (repeat (first | exact HG.out | (with_reducible first | apply GT.drewN | apply GT.drew | apply GT.alloc))))); (rintro e w19 ⟨rfl, hb⟩); (refine ⟨_, rfl, ?_⟩); (have n0_ := Aside0.mk (rbI hb HO_3)); (have n1_ := Aside0.mk (kbI hb BK105)); (have n2_ := Aside0.mk (sI hb HB)); clear HO_3 BK105 HB; (have HO_3 := n0_); (have BK105 := n1_); (have HB := n2_); clear n0_ n1_ n2_; ((try clear hb)); ((try clear hb2)); ((try clear hk)); ((try clear hi)); (refine hK.out _ _ ⟨cz BK105.out 0, cz BK105.out 1, cz BK105.out 2⟩ (fun hHeld => ?_)); clear hK K; (refine norm_ (a' := ?_) ?_ ?_); rotate_left
           (· (show Act.put _ (some 21) _ = _); (simp only [Act.put, aS1, aS2, aS3, i64_w, i32_w]); rfl); (refine pB 9 (cn 14 10) (some 22) HT_ (h := ?_)); (refine pB 10 (cn 14 11) (some 23) HT_ (h := ?_)); (refine oN 11 (some 24) (cn 14 12) HT_ (fun K hK => ?_)); (refine value_ (w1 := ?_) (v := ?_) (by rfl) rfl ?_ ?_); (rotate_left 2)
           ·go_simp
            (constructor); (· rfl); (· rfl)
           (refine hK.out _ _ ⟨(blk_cell (blk_alloc BK105.out _) 0).trans rfl, (blk_cell (blk_alloc BK105.out _) 1).trans rfl, (blk_cell (blk_alloc BK105.out _) 2).trans rfl⟩ (fun hHeld => ?_)); clear hK K; (refine nP (some 24) (h := ?_)); (refine oN 12 (some 25) (cn 14 13) HT_ (fun K hK => ?_)); (refine Kd.R_append_step Kd.string (w0 := w) w.heap.size (by rfl) (.tmp 13) (.tmp 24) 67 9 (.string ⟨#[]⟩) 16 rfl Tryz.underlying67 info9 rfl (by decide) (by omega) u3 x3_1 (((((⟨#[67, 111, 110, 116, 101, 120, 116, 32]⟩ : ByteArray) ++ t106) ++ (⟨#[32, 119, 97, 115, 32, 102, 111, 114, 109, 101, 100, 32]⟩ : ByteArray)) ++ t107) ++ (⟨#[46]⟩ : ByteArray)) [.string (((((⟨#[67, 111, 110, 116, 101, 120, 116, 32]⟩ : ByteArray) ++ t106) ++ (⟨#[32, 119, 97, 115, 32, 102, 111, 114, 109, 101, 100, 32]⟩ : ByteArray)) ++ t107) ++ (⟨#[46]⟩ : ByteArray))] (fun _ => True) (fun _ => False) rfl rfl ?aP (fun _ hk => hk.elim) ?aF ?aO ?aB ?aS ?aL ?_); ((case aP => exact rfl)); ((case aB => exact (eI HB))); ((case aF => exact (fun _ _ => trivial))); ((case aO => exact (rI HO_3))); ((case aS => exact (below_size (eI HB)))); ((case aL => have := LMc13.out; omega)); intro v109 w20 ho hb hg hat; (rw [← Ny108.out] at ho); (have n0_ := Aside0.mk (blk_grown (kI BK105) hg (Kd.R_ne HO_3.out BK105.out (by decide)))); (have n1_ := Aside0.mk (hb)); (have n2_ := Aside0.mk (ho)); clear BK105 HB HO_3; (have BK105 := n0_); (have HB := n1_); (have HO110 := n2_); clear n0_ n1_ n2_ ho hb hg hat; (refine hK.out _ _ ⟨cz BK105.out 0, cz BK105.out 1, cz BK105.out 2⟩ (fun hHeld => ?_)); clear hK K; (refine nP (some 25) (h := ?_)); (refine pB 13 (cn 14 14) (some 3) HT_ (h := ?_)); (refine done_ (done_of HT_.out (by kernel_rfl)) ?_); (try go_wp2); go_roundg k1
           case measure => have := HK1.out; omega
           case rel => exact ⟨(y108), (wrap64 (x9_1 + 1)), (by first | rfl | (simp; done) | (simp [*]; done)), H', ⟨by have := HK1.out; omega⟩, ⟨rI HO110⟩, ⟨eI HB⟩⟩
          ·rw [if_neg c13] at H
           exact absurd H (by simp)
         ·rw [if_neg c12] at H
          exact absurd H (by simp)
        ·rw [if_neg c11] at H
         exact absurd H (by simp)
       ·rw [if_neg c9] at H
        exact absurd H (by simp)
      ·rw [if_neg c8] at H
       exact absurd H (by simp)
     ·rw [if_neg c6] at H
      exact absurd H (by simp)
    ·rw [if_neg c5] at H
     exact absurd H (by simp)
   ·rw [if_neg c4] at H
    (have c4b0 := decide_eq_false c4); clear c4; (obtain rfl := Option.some.inj H); (go_wp2); go_ret; (exact ⟨_, by first | rfl | (simp [errW_none, errW_some] <;> rfl) | (simp [*, errW_none, errW_some] <;> rfl), rI HO_3, eI HB⟩)

end Go.Proofs.YtogjjcjnnclghaaGreatDoor.X
namespace Go.Proofs.YtogjjcjnnclghaaGreatDoor.X
open Go.RowKit Go.Proofs.YtogjjcjnnclghaaGreatDoorW.PrintWords Go.Proofs.YtogjjcjnnclghaaGreatDoorW.PrintLast Go.Proofs.YtogjjcjnnclghaaGreatDoorW.PrintMore Go.Proofs.YtogjjcjnnclghaaGreatDoor.E
attribute [local go_sem] max2_int min2_int max_two min_two max_three min_three max_four min_four   -- for this text's walks alone
set_option linter.unusedVariables false
set_option linter.unusedSimpArgs false
attribute [-simp] ByteArray.size_append ByteArray.size_extract
attribute [-go_sem] ByteArray.size_append'

/-! ### strings_IndexByte: function 79 -/
/-- Where a byte stands in a string. -/
def strings_IndexByte.f (a0 : ByteArray) (a1 : Int) : Option (Int) := some (Lib.indexByte a0.data.toList a1.toNat.toUInt8)
theorem strings_IndexByte.calls (a0 : ByteArray) (a1 : Int) (r : Int) (w : World) (h : strings_IndexByte.f a0 a1 = some r) :
  Calls Tryz.prog 79 #[.string a0, .int .u8 a1] w fun e w' => e = .returned (.int .i64 r) ∧ Drawn0 w w' := by
 (cases h); (refine (Tryz.strings_IndexByte a0 a1 w).mono ?_); (rintro e w' ⟨rfl, rfl⟩); (exact ⟨rfl, Drawn0.refl _⟩)
/-! ### strings_Contains: function 111 -/
/-- Does a string hold a byte? (A substring of one byte alone is asked.) -/
def strings_Contains.f (a0 : ByteArray) (a1 : ByteArray) : Option (Bool) := match a1.data.toList with
 | [c] => some (decide (0 ≤ Lib.indexByte a0.data.toList c))
 | _ => none
theorem strings_Contains.calls (a0 : ByteArray) (a1 : ByteArray) (r : Bool) (w : World) (h : strings_Contains.f a0 a1 = some r) :
  Calls Tryz.prog 111 #[.string a0, .string a1] w fun e w' => e = .returned (.bool r) ∧ Drawn0 w w' := by
 obtain ⟨c, rfl⟩ : ∃ c, a1 = ⟨#[c]⟩ := by
  (unfold strings_Contains.f at h); (split at h); (· (rename_i c hc); (refine ⟨c, ?_⟩); (have : a1.data = #[c] := by rw [← Array.toArray_toList (xs := a1.data), hc]); (cases a1; simp_all)); (· (cases h))
 have hr : decide (0 ≤ Lib.indexByte a0.data.toList c) = r := by
  (unfold strings_Contains.f at h); (simpa using h)
 (refine (Tryz.strings_Contains_one a0 c w).mono ?_); (rintro e w' ⟨rfl, rfl⟩); (exact ⟨by rw [hr], Drawn0.refl _⟩)

end Go.Proofs.YtogjjcjnnclghaaGreatDoor.X
namespace Go.Proofs.YtogjjcjnnclghaaGreatDoor.X
open Go.RowKit Go.Proofs.YtogjjcjnnclghaaGreatDoorW.PrintWords Go.Proofs.YtogjjcjnnclghaaGreatDoorW.PrintLast Go.Proofs.YtogjjcjnnclghaaGreatDoorW.PrintMore
attribute [local go_sem] max2_int min2_int max_two min_two max_three min_three max_four min_four   -- for this text's walks alone
set_option linter.unusedVariables false
set_option linter.unusedSimpArgs false
attribute [-simp] ByteArray.size_append ByteArray.size_extract
attribute [-go_sem] ByteArray.size_append'

/-! ### impl_checksum: function 112 -/
def impl_checksum.l0 : Nat → ByteArray → Int → Int → Int → Option (Int)
 | 0, _, _, _, _ => none
 | k + 1, x0, x3, x6, x7 => if x7 < x6 then (if 0 ≤ x7 then (if x7 < (x0.size : Int) then (impl_checksum.l0 k x0 (Int.tmod (wrap64 ((wrap64 ((wrap64 (41 * x3)) + (wrap64 (bt x0 x7)))) + 1)) 999979) x6 (wrap64 (x7 + 1))) else (none)) else (none)) else (some x3)
def impl_checksum.f (k : Nat) (a0 : ByteArray) : Option (Int) := impl_checksum.l0 k a0 7 (a0.size : Int) 0
set_option maxHeartbeats 8000000 in
set_option maxRecDepth 100000 in
theorem impl_checksum.calls (k : Nat) (a0 : ByteArray) (r : Int) (w : World) (h : impl_checksum.f k a0 = some r) :
  Calls Tryz.prog 112 #[.string a0] w fun e w' => e = .returned (.int .i64 r) ∧ Drawn0 w w' := by
 (unfold impl_checksum.f at h); (have H := h); clear h; (have H' := Aside0.mk H); clear H; (go_enter Tryz.func112, Tryz.ntmps112); (go_wp2); (go_loopg [3, 7] k (fun kq v3 v7 w' => ∃ (x3_1 : Int) (x7_1 : Int), v3 = .int .i64 x3_1 ∧ v7 = .int .i64 x7_1 ∧ Aside0 (impl_checksum.l0 kq a0 x3_1 (a0.size : Int) x7_1 = some r) ∧ Aside0 (kq ≤ k) ∧ Drawn0 w w'))
 case atStart => exact ⟨(7), (0), (by first | rfl | (simp; done) | (simp [*]; done)), (by first | rfl | (simp; done) | (simp [*]; done)), H', ⟨Nat.le_refl _⟩, by repeat (first | exact Drawn0.refl _ | apply Drawn0.step)⟩
 case round =>
  (clear H'); (try clear c1); (obtain ⟨x3_1, x7_1, rfl, rfl, HA, HK1, ⟨m1, rfl⟩⟩ := hrel)
  cases gk with
  | zero => exact absurd HA.out (by simp [impl_checksum.l0])
  | succ k1 =>
   (have H := HA.out); clear HA; (simp only [impl_checksum.l0] at H); (by_cases c2 : x7_1 < (a0.size : Int))
   ·rw [if_pos c2] at H
    (have c2b0 := decide_eq_true c2); clear c2; (by_cases c3 : 0 ≤ x7_1)
    ·rw [if_pos c3] at H
     (have c3b0 := decide_eq_true c3); clear c3; (by_cases c4 : x7_1 < (a0.size : Int))
     ·rw [if_pos c4] at H
      (have c4b0 := decide_eq_true c4); clear c4; (have H' := Aside0.mk H); clear H; (have p5 : 0 ≤ (x7_1 : Int) := odt); (have q5 : x7_1 < (a0.size : Int) := odt); (have hx5 := bt_at a0 x7_1); (replace p5 := eq_true p5); (replace q5 := eq_true q5); (go_wp2); go_roundg k1
      case measure => have := HK1.out; omega
      case rel => exact ⟨(Int.tmod (wrap64 ((wrap64 ((wrap64 (41 * x3_1)) + (wrap64 (bt a0 x7_1)))) + 1)) 999979), (wrap64 (x7_1 + 1)), (by first | rfl | (simp; done) | (simp [*]; done)), (by first | rfl | (simp; done) | (simp [*]; done)), H', ⟨by have := HK1.out; omega⟩, by repeat (first | exact Drawn0.refl _ | apply Drawn0.step)⟩
     ·rw [if_neg c4] at H
      exact absurd H (by simp)
    ·rw [if_neg c3] at H
     exact absurd H (by simp)
   ·rw [if_neg c2] at H
    (have c2b0 := decide_eq_false c2); clear c2; (obtain rfl := Option.some.inj H); (go_wp2); go_ret; (exact ⟨by first | rfl | (simp; done) | (simp [*]; done), by repeat (first | exact Drawn0.refl _ | apply Drawn0.step)⟩)
/-! ### impl_AppendChecksum: function 101 -/
def impl_AppendChecksum.j0 : Nat → ByteArray → Bool → Option (ByteArray × Bool)
 | 0, _, _ => none
 | k + 1, x0, x11 => if x11 = true then (some ((⟨#[]⟩ : ByteArray), false)) else (if x0.size + 1 ≤ 9223372036854775807 then ((impl_checksum.f k x0).bind fun t102 => ((strconv_Itoa.f t102).bind fun t103 => (if (x0 ++ (⟨#[35]⟩ : ByteArray)).size + t103.size ≤ 9223372036854775807 then (if (((x0 ++ (⟨#[35]⟩ : ByteArray)) ++ t103).size : Int) > 4000 then (some ((⟨#[]⟩ : ByteArray), false)) else (some ((x0 ++ (⟨#[35]⟩ : ByteArray)) ++ t103, true))) else (none)))) else (none))
def impl_AppendChecksum.f (k : Nat) (a0 : ByteArray) : Option (ByteArray × Bool) := if (a0.size : Int) > 4000 then (impl_AppendChecksum.j0 k a0 true) else ((strings_Contains.f a0 (⟨#[35]⟩ : ByteArray)).bind fun t101 => (impl_AppendChecksum.j0 k a0 t101))
set_option maxHeartbeats 8000000 in
set_option maxRecDepth 100000 in
theorem impl_AppendChecksum.calls (k : Nat) (a0 : ByteArray) (r1 : ByteArray) (r2 : Bool) (w : World) (hG : GT w) (h : impl_AppendChecksum.f k a0 = some (r1, r2)) :
  Calls Tryz.prog 101 #[.string a0] w fun e w' => e = .returned (.tuple #[.string r1, .bool r2]) ∧ Below w.heap.size w w' := by
 (have HG := Aside0.mk hG); clear hG; (have HB := Aside0.mk (Below.refl w.heap.size w)); (unfold impl_AppendChecksum.f at h); (have H := h); clear h; (have HC2 := Aside0.mk H); clear H; (go_enter Tryz.func101, Tryz.ntmps101); (go_upto_region 1 with (fail)); (go_cut [11] (fun v11 wc => ∃ (kq : Nat) (x11_1 : Bool), v11 = .bool x11_1 ∧ Aside0 (impl_AppendChecksum.j0 kq a0 x11_1 = some (r1, r2)) ∧ Aside0 (kq ≤ k) ∧ Aside0 (Below w.heap.size w wc)))
 case first =>
  (have H := HC2.out); clear HC2; (by_cases c3 : (a0.size : Int) > 4000)
  ·rw [if_pos c3] at H
   (have c3b0 : decide (4000 < (a0.size : Int)) = true := decide_eq_true c3); (have c3b1 : decide (4000 < a0.size) = true := decide_eq_true (by omega)); clear c3; ((first | rw [c3b0] | (simp only [i64_w, i32_w]; rw [c3b0]) | skip)); (have H' := Aside0.mk H); clear H; (go_wp2); (go_meet)
   case rel => exact ⟨_, (true), (by first | rfl | (simp; done) | (simp [*]; done)), H', ⟨by first | omega | exact Nat.le_refl _⟩, ⟨eI HB⟩⟩
  ·rw [if_neg c3] at H
   (have c3b0 : decide (4000 < (a0.size : Int)) = false := decide_eq_false c3); (have c3b1 : decide (4000 < a0.size) = false := decide_eq_false (by omega)); clear c3; ((first | rw [c3b0] | (simp only [i64_w, i32_w]; rw [c3b0]) | skip)); (obtain ⟨t101, A4, H⟩ := obS H); (have H' := Aside0.mk H); clear H; (go_wp2_with (first | (go_at_call 111; (with_reducible refine (strings_Contains.calls a0 (⟨#[35]⟩ : ByteArray) t101 _ A4.out).mono ?_); rintro e w' ⟨rfl, ⟨nd, rfl⟩⟩))); (go_meet)
   case rel => exact ⟨_, (t101), (by first | rfl | (simp; done) | (simp [*]; done)), H', ⟨by first | omega | exact Nat.le_refl _⟩, ⟨eI HB⟩⟩
 case rest =>
  clear HC2; (try clear c1); (try clear p2); (try clear c3); (try clear c3b0); (try clear c3b1); (obtain ⟨kq, x11_1, rfl, HA, HJ1, HB⟩ := hcut)
  cases kq with
  | zero => exact absurd HA.out (by simp [impl_AppendChecksum.j0])
  | succ kj1 =>
   (have H := HA.out); clear HA; (simp only [impl_AppendChecksum.j0] at H); (by_cases c5 : x11_1 = true); (· subst c5; (rw [if_pos rfl] at H); (simp only [Option.some.injEq, Prod.mk.injEq] at H); (obtain ⟨rfl, rfl⟩ := H); (go_wp2); (go_ret2); (exact ⟨rfl, eI HB⟩))
   ·replace c5 := Bool.eq_false_iff.mpr c5
    subst c5; (rw [if_neg (show ¬ (false = true) by decide)] at H); (by_cases c6 : a0.size + 1 ≤ 9223372036854775807)
    ·rw [if_pos c6] at H
     (have c6b0 := eq_true c6); (have c6b1 := decide_eq_true c6); (try have c6b2 : (9223372036854775807 < a0.size + 1) = False := eq_false (Nat.not_lt.2 c6)); (obtain ⟨t102, A7, H⟩ := obS H); (obtain ⟨t103, A8, H⟩ := obS H); (by_cases c9 : (a0 ++ (⟨#[35]⟩ : ByteArray)).size + t103.size ≤ 9223372036854775807)
     ·rw [if_pos c9] at H
      (have c9b0 := eq_true c9); (have c9b1 := decide_eq_true c9); (try have c9n0 := c9b0); (try (push_cast [Int.toNat_natCast, ByteArray.size_append, show (⟨#[35]⟩ : ByteArray).size = 1 from rfl] at c9n0)); (try have c9n1 := c9b1); (try (push_cast [Int.toNat_natCast, ByteArray.size_append, show (⟨#[35]⟩ : ByteArray).size = 1 from rfl] at c9n1)); (try have c9b2 : (9223372036854775807 < (a0 ++ (⟨#[35]⟩ : ByteArray)).size + t103.size) = False := eq_false (Nat.not_lt.2 c9)); (try have c9b3 := c9b2); (try simp only [ByteArray.size_append, show (⟨#[35]⟩ : ByteArray).size = 1 from rfl] at c9b3); (by_cases c10 : (((a0 ++ (⟨#[35]⟩ : ByteArray)) ++ t103).size : Int) > 4000)
      ·rw [if_pos c10] at H
       (have c10b0 : decide (4000 < (((a0 ++ (⟨#[35]⟩ : ByteArray)) ++ t103).size : Int)) = true := decide_eq_true c10); (have c10b1 : decide (4000 < ((a0 ++ (⟨#[35]⟩ : ByteArray)) ++ t103).size) = true := decide_eq_true (by omega)); (try have c10n0 := c10b0); (try (push_cast [Int.toNat_natCast, ByteArray.size_append, show (⟨#[35]⟩ : ByteArray).size = 1 from rfl] at c10n0)); (try have c10n1 := c10b1); (try (push_cast [Int.toNat_natCast, ByteArray.size_append, show (⟨#[35]⟩ : ByteArray).size = 1 from rfl] at c10n1)); clear c10; (simp only [Option.some.injEq, Prod.mk.injEq] at H); (obtain ⟨rfl, rfl⟩ := H); (go_wp2_with (first | ((with_reducible refine gate_callee (f := 112) rfl ?_); refine gL (some 15) Tryz.func112 #[.string a0] ?_; (with_reducible refine (impl_checksum.calls kj1 a0 t102 _ A7.out).mono ?_); rintro e w' ⟨rfl, ⟨nd, rfl⟩⟩; refine ⟨_, rfl, ?_⟩) | ((with_reducible refine gate_callee (f := 52) rfl ?_); refine gL (some 16) Tryz.func52 #[.int .i64 t102] ?_; (with_reducible refine (strconv_Itoa.calls t102 t103 _ ?side1 A8.out).mono ?_); (case side1 => first | exact GT.below HG.out (eI HB) | (repeat (first | exact HG.out | (with_reducible first | apply GT.drewN | apply GT.drew | apply GT.alloc)))); rintro e w11 ⟨rfl, hb⟩; refine ⟨_, rfl, ?_⟩; have n0_ := Aside0.mk (sI hb HB); clear HB; have HB := n0_; clear n0_; (try clear hb); (try clear hb2); (try clear hk); (try clear hi)))); (go_ret2); (exact ⟨rfl, eI HB⟩)
      ·rw [if_neg c10] at H
       (have c10b0 : decide (4000 < (((a0 ++ (⟨#[35]⟩ : ByteArray)) ++ t103).size : Int)) = false := decide_eq_false c10); (have c10b1 : decide (4000 < ((a0 ++ (⟨#[35]⟩ : ByteArray)) ++ t103).size) = false := decide_eq_false (by omega)); (try have c10n0 := c10b0); (try (push_cast [Int.toNat_natCast, ByteArray.size_append, show (⟨#[35]⟩ : ByteArray).size = 1 from rfl] at c10n0)); (try have c10n1 := c10b1); (try (push_cast [Int.toNat_natCast, ByteArray.size_append, show (⟨#[35]⟩ : ByteArray).size = 1 from rfl] at c10n1)); clear c10; (simp only [Option.some.injEq, Prod.mk.injEq] at H); (obtain ⟨rfl, rfl⟩ := H); (go_wp2_with (first | ((with_reducible refine gate_callee (f := 112) rfl ?_); refine gL (some 15) Tryz.func112 #[.string a0] ?_; (with_reducible refine (impl_checksum.calls kj1 a0 t102 _ A7.out).mono ?_); rintro e w' ⟨rfl, ⟨nd, rfl⟩⟩; refine ⟨_, rfl, ?_⟩) | ((with_reducible refine gate_callee (f := 52) rfl ?_); refine gL (some 16) Tryz.func52 #[.int .i64 t102] ?_; (with_reducible refine (strconv_Itoa.calls t102 t103 _ ?side1 A8.out).mono ?_); (case side1 => first | exact GT.below HG.out (eI HB) | (repeat (first | exact HG.out | (with_reducible first | apply GT.drewN | apply GT.drew | apply GT.alloc)))); rintro e w12 ⟨rfl, hb⟩; refine ⟨_, rfl, ?_⟩; have n0_ := Aside0.mk (sI hb HB); clear HB; have HB := n0_; clear n0_; (try clear hb); (try clear hb2); (try clear hk); (try clear hi)))); (go_ret2); (exact ⟨rfl, eI HB⟩)
     ·rw [if_neg c9] at H
      exact absurd H (by simp)
    ·rw [if_neg c6] at H
     exact absurd H (by simp)
/-! ### impl_VerifyChecksum: function 87 -/
def impl_VerifyChecksum.f (k : Nat) (a0 : ByteArray) : Option (ByteArray × Bool) := (strings_IndexByte.f a0 35).bind fun t101 => (if t101 < 0 then (some ((⟨#[]⟩ : ByteArray), false)) else (if 0 ≤ t101 then (if t101 ≤ (a0.size : Int) then ((impl_AppendChecksum.f k (a0.extract 0 (t101 : Int).toNat)).bind fun bt102 => (if bt102.2 = true then (if bt102.1.toList = a0.toList then (some (a0.extract 0 (t101 : Int).toNat, true)) else (some ((⟨#[]⟩ : ByteArray), false))) else (some ((⟨#[]⟩ : ByteArray), false)))) else (none)) else (none)))
set_option maxHeartbeats 8000000 in
set_option maxRecDepth 100000 in
theorem impl_VerifyChecksum.calls (k : Nat) (a0 : ByteArray) (r1 : ByteArray) (r2 : Bool) (w : World) (hG : GT w) (h : impl_VerifyChecksum.f k a0 = some (r1, r2)) :
  Calls Tryz.prog 87 #[.string a0] w fun e w' => e = .returned (.tuple #[.string r1, .bool r2]) ∧ Below w.heap.size w w' := by
 (have HG := Aside0.mk hG); clear hG; (have HB := Aside0.mk (Below.refl w.heap.size w)); (unfold impl_VerifyChecksum.f at h); (have H := h); clear h; (obtain ⟨t101, A2, H⟩ := obS H); (by_cases c3 : t101 < 0); (· (rw [if_pos c3] at H); (have c3b0 := decide_eq_true c3); clear c3; (simp only [Option.some.injEq, Prod.mk.injEq] at H); (obtain ⟨rfl, rfl⟩ := H); (go_enter Tryz.func87, Tryz.ntmps87); (go_wp2_with (first | ((with_reducible refine gate_callee (f := 79) rfl ?_); refine gL (some 8) Tryz.func79 #[.string a0, .int .u8 35] ?_; (with_reducible refine (strings_IndexByte.calls a0 35 t101 _ A2.out).mono ?_); rintro e w' ⟨rfl, ⟨nd, rfl⟩⟩; refine ⟨_, rfl, ?_⟩))); (go_ret2); (exact ⟨rfl, eI HB⟩))
 ·rw [if_neg c3] at H
  (have c3b0 := decide_eq_false c3); clear c3; (by_cases c4 : 0 ≤ t101)
  ·rw [if_pos c4] at H
   (have c4b0 := eq_true c4); (have c4b1 := decide_eq_true c4); clear c4; (by_cases c5 : t101 ≤ (a0.size : Int))
   ·rw [if_pos c5] at H
    (have c5b0 := eq_true c5); (have c5b1 := decide_eq_true c5); clear c5; (obtain ⟨⟨t102, t103⟩, A6, H⟩ := obS H); (replace H : (if t103 = true then (if t102.toList = a0.toList then (some (a0.extract 0 (t101 : Int).toNat, true)) else (some ((⟨#[]⟩ : ByteArray), false))) else (some ((⟨#[]⟩ : ByteArray), false))) = some (r1, r2) := H); (by_cases c7 : t103 = true)
    ·subst c7
     (rw [if_pos rfl] at H); (by_cases c8 : t102.toList = a0.toList); (· (rw [if_pos c8] at H); (have c8b0 : (t102.toList == a0.toList) = true := beq_iff_eq.mpr c8); (have c8b1 : (t102.toList != a0.toList) = false := bne_eq_false_iff_eq.mpr c8); clear c8; (have c9b0 := eq_true (odt : 0 ≤ t101)); (have c10b0 := eq_true (odt : t101 ≤ (a0.size : Int))); (simp only [Option.some.injEq, Prod.mk.injEq] at H); (obtain ⟨rfl, rfl⟩ := H); (go_enter Tryz.func87, Tryz.ntmps87); (go_wp2_with (first | ((with_reducible refine gate_callee (f := 79) rfl ?_); refine gL (some 8) Tryz.func79 #[.string a0, .int .u8 35] ?_; (with_reducible refine (strings_IndexByte.calls a0 35 t101 _ A2.out).mono ?_); rintro e w' ⟨rfl, ⟨nd, rfl⟩⟩; refine ⟨_, rfl, ?_⟩) | ((with_reducible refine gate_callee (f := 101) rfl ?_); refine gL (some 15) Tryz.func101 #[.string (a0.extract 0 (t101 : Int).toNat)] ?_; (with_reducible refine (impl_AppendChecksum.calls k (a0.extract 0 (t101 : Int).toNat) t102 true _ ?side1 A6.out).mono ?_); (case side1 => first | exact GT.below HG.out (eI HB) | (repeat (first | exact HG.out | (with_reducible first | apply GT.drewN | apply GT.drew | apply GT.alloc)))); rintro e w11 ⟨rfl, hb⟩; refine ⟨_, rfl, ?_⟩; have n0_ := Aside0.mk (sI hb HB); clear HB; have HB := n0_; clear n0_; (try clear hb); (try clear hb2); (try clear hk); (try clear hi)))); (go_ret2); (exact ⟨rfl, eI HB⟩)); (· (rw [if_neg c8] at H); (have c8b0 : (t102.toList == a0.toList) = false := beq_eq_false_iff_ne.mpr c8); (have c8b1 : (t102.toList != a0.toList) = true := bne_iff_ne.mpr c8); (simp only [Option.some.injEq, Prod.mk.injEq] at H); (obtain ⟨rfl, rfl⟩ := H); (go_enter Tryz.func87, Tryz.ntmps87); (go_wp2_with (first | ((with_reducible refine gate_callee (f := 79) rfl ?_); refine gL (some 8) Tryz.func79 #[.string a0, .int .u8 35] ?_; (with_reducible refine (strings_IndexByte.calls a0 35 t101 _ A2.out).mono ?_); rintro e w' ⟨rfl, ⟨nd, rfl⟩⟩; refine ⟨_, rfl, ?_⟩) | ((with_reducible refine gate_callee (f := 101) rfl ?_); refine gL (some 15) Tryz.func101 #[.string (a0.extract 0 (t101 : Int).toNat)] ?_; (with_reducible refine (impl_AppendChecksum.calls k (a0.extract 0 (t101 : Int).toNat) t102 true _ ?side1 A6.out).mono ?_); (case side1 => first | exact GT.below HG.out (eI HB) | (repeat (first | exact HG.out | (with_reducible first | apply GT.drewN | apply GT.drew | apply GT.alloc)))); rintro e w12 ⟨rfl, hb⟩; refine ⟨_, rfl, ?_⟩; have n0_ := Aside0.mk (sI hb HB); clear HB; have HB := n0_; clear n0_; (try clear hb); (try clear hb2); (try clear hk); (try clear hi)))); (go_ret2); (exact ⟨rfl, eI HB⟩))
    ·replace c7 := Bool.eq_false_iff.mpr c7
     subst c7; (rw [if_neg (show ¬ (false = true) by decide)] at H); (simp only [Option.some.injEq, Prod.mk.injEq] at H); (obtain ⟨rfl, rfl⟩ := H); (go_enter Tryz.func87, Tryz.ntmps87); (go_wp2_with (first | ((with_reducible refine gate_callee (f := 79) rfl ?_); refine gL (some 8) Tryz.func79 #[.string a0, .int .u8 35] ?_; (with_reducible refine (strings_IndexByte.calls a0 35 t101 _ A2.out).mono ?_); rintro e w' ⟨rfl, ⟨nd, rfl⟩⟩; refine ⟨_, rfl, ?_⟩) | ((with_reducible refine gate_callee (f := 101) rfl ?_); refine gL (some 15) Tryz.func101 #[.string (a0.extract 0 (t101 : Int).toNat)] ?_; (with_reducible refine (impl_AppendChecksum.calls k (a0.extract 0 (t101 : Int).toNat) t102 false _ ?side1 A6.out).mono ?_); (case side1 => first | exact GT.below HG.out (eI HB) | (repeat (first | exact HG.out | (with_reducible first | apply GT.drewN | apply GT.drew | apply GT.alloc)))); rintro e w13 ⟨rfl, hb⟩; refine ⟨_, rfl, ?_⟩; have n0_ := Aside0.mk (sI hb HB); clear HB; have HB := n0_; clear n0_; (try clear hb); (try clear hb2); (try clear hk); (try clear hi)))); (go_ret2); (exact ⟨rfl, eI HB⟩)
   ·rw [if_neg c5] at H
    exact absurd H (by simp)
  ·rw [if_neg c4] at H
   exact absurd H (by simp)
/-! ### stringslite_HasSuffix: function 113 -/
def stringslite_HasSuffix.f (a0 : ByteArray) (a1 : ByteArray) : Option (Bool) := if (a0.size : Int) ≥ (a1.size : Int) then (if 0 ≤ (wrap64 ((a0.size : Int) - (a1.size : Int))) then (if (wrap64 ((a0.size : Int) - (a1.size : Int))) ≤ (a0.size : Int) then (some ((a0.extract ((wrap64 ((a0.size : Int) - (a1.size : Int))) : Int).toNat a0.size).toList == a1.toList)) else (none)) else (none)) else (some false)
set_option maxHeartbeats 8000000 in
set_option maxRecDepth 100000 in
theorem stringslite_HasSuffix.calls (a0 : ByteArray) (a1 : ByteArray) (r : Bool) (w : World) (h : stringslite_HasSuffix.f a0 a1 = some r) :
  Calls Tryz.prog 113 #[.string a0, .string a1] w fun e w' => e = .returned (.bool r) ∧ Drawn0 w w' := by
 (unfold stringslite_HasSuffix.f at h); (have H := h); clear h; (by_cases c3 : (a0.size : Int) ≥ (a1.size : Int))
 ·rw [if_pos c3] at H
  (have c3b0 : decide ((a1.size : Int) ≤ (a0.size : Int)) = true := decide_eq_true c3); (have c3b1 : decide (a1.size ≤ a0.size) = true := decide_eq_true (Int.ofNat_le.mp c3)); clear c3; (obtain ⟨ji4, hji4⟩ : ∃ j_ : Int, (wrap64 ((a0.size : Int) - (a1.size : Int))) = j_ := ⟨_, rfl⟩); (replace H : (if 0 ≤ (ji4) then (if (ji4) ≤ (a0.size : Int) then (some ((a0.extract ((ji4) : Int).toNat a0.size).toList == a1.toList)) else (none)) else (none)) = some r := by first | (rw [hji4] at H; exact H) | (simp only [hji4] at H ⊢; exact H)); (have hji4w : (IntKind.i64.wrap ((a0.size : Int) - (a1.size : Int))) = ji4 := (i64_w _).trans hji4); (by_cases c5 : 0 ≤ (ji4))
  ·rw [if_pos c5] at H
   (have c5b0 := eq_true c5); (have c5b1 := decide_eq_true c5); clear c5; (by_cases c6 : (ji4) ≤ (a0.size : Int)); (· (rw [if_pos c6] at H); (have c6b0 := eq_true c6); (have c6b1 := decide_eq_true c6); clear c6; (obtain rfl := Option.some.inj H); (go_enter Tryz.func113, Tryz.ntmps113); (go_wp2); go_ret; (exact ⟨by first | rfl | (simp; done) | (simp only [← hji4] <;> (first | rfl | simp)) | (simp [*]; done), by repeat (first | exact Drawn0.refl _ | apply Drawn0.step)⟩)); (· (rw [if_neg c6] at H); (exact absurd H (by simp)))
  ·rw [if_neg c5] at H
   exact absurd H (by simp)
 ·rw [if_neg c3] at H
  (have c3b0 : decide ((a1.size : Int) ≤ (a0.size : Int)) = false := decide_eq_false c3); (have c3b1 : decide (a1.size ≤ a0.size) = false := decide_eq_false (fun h => c3 (Int.ofNat_le.mpr h))); clear c3; (obtain rfl := Option.some.inj H); (go_enter Tryz.func113, Tryz.ntmps113); (go_wp2); go_ret; (exact ⟨by first | rfl | (simp; done) | (simp [*]; done), by repeat (first | exact Drawn0.refl _ | apply Drawn0.step)⟩)
/-! ### stringslite_TrimSuffix: function 102 -/
def stringslite_TrimSuffix.f (a0 : ByteArray) (a1 : ByteArray) : Option (ByteArray) := (stringslite_HasSuffix.f a0 a1).bind fun t101 => (if t101 = true then (if 0 ≤ (wrap64 ((a0.size : Int) - (a1.size : Int))) then (if (wrap64 ((a0.size : Int) - (a1.size : Int))) ≤ (a0.size : Int) then (some (a0.extract 0 ((wrap64 ((a0.size : Int) - (a1.size : Int))) : Int).toNat)) else (none)) else (none)) else (some a0))
set_option maxHeartbeats 8000000 in
set_option maxRecDepth 100000 in
theorem stringslite_TrimSuffix.calls (a0 : ByteArray) (a1 : ByteArray) (r : ByteArray) (w : World) (h : stringslite_TrimSuffix.f a0 a1 = some r) :
  Calls Tryz.prog 102 #[.string a0, .string a1] w fun e w' => e = .returned (.string r) ∧ Drawn0 w w' := by
 (unfold stringslite_TrimSuffix.f at h); (have H := h); clear h; (obtain ⟨t101, A3, H⟩ := obS H); (by_cases c4 : t101 = true)
 ·subst c4
  (rw [if_pos rfl] at H); (obtain ⟨ji5, hji5⟩ : ∃ j_ : Int, (wrap64 ((a0.size : Int) - (a1.size : Int))) = j_ := ⟨_, rfl⟩); (replace H : (if 0 ≤ (ji5) then (if (ji5) ≤ (a0.size : Int) then (some (a0.extract 0 ((ji5) : Int).toNat)) else (none)) else (none)) = some r := by first | (rw [hji5] at H; exact H) | (simp only [hji5] at H ⊢; exact H)); ((try rw [hji5] at A3)); (have hji5w : (IntKind.i64.wrap ((a0.size : Int) - (a1.size : Int))) = ji5 := (i64_w _).trans hji5); (by_cases c6 : 0 ≤ (ji5))
  ·rw [if_pos c6] at H
   (have c6b0 := eq_true c6); (have c6b1 := decide_eq_true c6); clear c6; (by_cases c7 : (ji5) ≤ (a0.size : Int)); (· (rw [if_pos c7] at H); (have c7b0 := eq_true c7); (have c7b1 := decide_eq_true c7); clear c7; (obtain rfl := Option.some.inj H); (go_enter Tryz.func102, Tryz.ntmps102); (go_wp2_with (first | ((with_reducible refine gate_callee (f := 113) rfl ?_); refine gL (some 7) Tryz.func113 #[.string a0, .string a1] ?_; (with_reducible refine (stringslite_HasSuffix.calls a0 a1 true _ A3.out).mono ?_); rintro e w' ⟨rfl, ⟨nd, rfl⟩⟩; refine ⟨_, rfl, ?_⟩))); go_ret; (exact ⟨by first | rfl | (simp; done) | (simp only [← hji5] <;> (first | rfl | simp)) | (simp [*]; done), by repeat (first | exact Drawn0.refl _ | apply Drawn0.step)⟩)); (· (rw [if_neg c7] at H); (exact absurd H (by simp)))
  ·rw [if_neg c6] at H
   exact absurd H (by simp)
 ·replace c4 := Bool.eq_false_iff.mpr c4
  subst c4; (rw [if_neg (show ¬ (false = true) by decide)] at H); (obtain rfl := Option.some.inj H); (go_enter Tryz.func102, Tryz.ntmps102); (go_wp2_with (first | ((with_reducible refine gate_callee (f := 113) rfl ?_); refine gL (some 7) Tryz.func113 #[.string a0, .string a1] ?_; (with_reducible refine (stringslite_HasSuffix.calls a0 a1 false _ A3.out).mono ?_); rintro e w' ⟨rfl, ⟨nd, rfl⟩⟩; refine ⟨_, rfl, ?_⟩))); go_ret; (exact ⟨by first | rfl | (simp; done) | (simp [*]; done), by repeat (first | exact Drawn0.refl _ | apply Drawn0.step)⟩)
/-! ### strings_TrimSuffix: function 88 -/
def strings_TrimSuffix.f (a0 : ByteArray) (a1 : ByteArray) : Option (ByteArray) := (stringslite_TrimSuffix.f a0 a1).bind fun t101 => (some t101)
set_option maxHeartbeats 8000000 in
set_option maxRecDepth 100000 in
theorem strings_TrimSuffix.calls (a0 : ByteArray) (a1 : ByteArray) (r : ByteArray) (w : World) (h : strings_TrimSuffix.f a0 a1 = some r) :
  Calls Tryz.prog 88 #[.string a0, .string a1] w fun e w' => e = .returned (.string r) ∧ Drawn0 w w' := by
 (unfold strings_TrimSuffix.f at h); (have H := h); clear h; (obtain ⟨t101, A3, H⟩ := obS H); (obtain rfl := Option.some.inj H); (go_enter Tryz.func88, Tryz.ntmps88); (go_wp2_with (first | ((with_reducible refine gate_callee (f := 102) rfl ?_); refine gL (some 7) Tryz.func102 #[.string a0, .string a1] ?_; (with_reducible refine (stringslite_TrimSuffix.calls a0 a1 t101 _ A3.out).mono ?_); rintro e w' ⟨rfl, ⟨nd, rfl⟩⟩; refine ⟨_, rfl, ?_⟩))); go_ret; (exact ⟨by first | rfl | (simp; done) | (simp [*]; done), by repeat (first | exact Drawn0.refl _ | apply Drawn0.step)⟩)

end Go.Proofs.YtogjjcjnnclghaaGreatDoor.X
namespace Go.Proofs.YtogjjcjnnclghaaGreatDoor.X
open Go.RowKit Go.Proofs.YtogjjcjnnclghaaGreatDoorW.PrintWords Go.Proofs.YtogjjcjnnclghaaGreatDoorW.PrintLast Go.Proofs.YtogjjcjnnclghaaGreatDoorW.PrintMore Go.Proofs.YtogjjcjnnclghaaGreatDoor.E
attribute [local go_sem] max2_int min2_int max_two min_two max_three min_three max_four min_four   -- for this text's walks alone
set_option linter.unusedVariables false
set_option linter.unusedSimpArgs false
attribute [-simp] ByteArray.size_append ByteArray.size_extract
attribute [-go_sem] ByteArray.size_append'

/-! ### stringslite_Index: function 114 -/
/-- Where a byte stands in a string. (A substring of one byte alone is asked.) -/
def stringslite_Index.f (a0 : ByteArray) (a1 : ByteArray) : Option (Int) := match a1.data.toList with
 | [c] => some (Lib.indexByte a0.data.toList c)
 | _ => none
theorem stringslite_Index.calls (a0 : ByteArray) (a1 : ByteArray) (r : Int) (w : World) (h : stringslite_Index.f a0 a1 = some r) :
  Calls Tryz.prog 114 #[.string a0, .string a1] w fun e w' => e = .returned (.int .i64 r) ∧ Drawn0 w w' := by
 obtain ⟨c, rfl⟩ : ∃ c, a1 = ⟨#[c]⟩ := by
  (unfold stringslite_Index.f at h); (split at h); (· (rename_i c hc); (refine ⟨c, ?_⟩); (have : a1.data = #[c] := by rw [← Array.toArray_toList (xs := a1.data), hc]); (cases a1; simp_all)); (· (cases h))
 have hr : Lib.indexByte a0.data.toList c = r := by
  (unfold stringslite_Index.f at h); (simpa using h)
 (refine (Tryz.stringslite_Index_one a0 c w).mono ?_); (rintro e w' ⟨rfl, rfl⟩); (exact ⟨by rw [hr], Drawn0.refl _⟩)

end Go.Proofs.YtogjjcjnnclghaaGreatDoor.X
namespace Go.Proofs.YtogjjcjnnclghaaGreatDoor.X
open Go.RowKit Go.Proofs.YtogjjcjnnclghaaGreatDoorW.PrintWords Go.Proofs.YtogjjcjnnclghaaGreatDoorW.PrintLast Go.Proofs.YtogjjcjnnclghaaGreatDoorW.PrintMore
attribute [local go_sem] max2_int min2_int max_two min_two max_three min_three max_four min_four   -- for this text's walks alone
set_option linter.unusedVariables false
set_option linter.unusedSimpArgs false
attribute [-simp] ByteArray.size_append ByteArray.size_extract
attribute [-go_sem] ByteArray.size_append'

/-! ### stringslite_Cut: function 103 -/
def stringslite_Cut.f (a0 : ByteArray) (a1 : ByteArray) : Option (ByteArray × ByteArray × Bool) := (stringslite_Index.f a0 a1).bind fun t101 => (if t101 ≥ 0 then (if 0 ≤ t101 then (if t101 ≤ (a0.size : Int) then (if 0 ≤ (wrap64 (t101 + (a1.size : Int))) then (if (wrap64 (t101 + (a1.size : Int))) ≤ (a0.size : Int) then (some (a0.extract 0 (t101 : Int).toNat, a0.extract ((wrap64 (t101 + (a1.size : Int))) : Int).toNat a0.size, true)) else (none)) else (none)) else (none)) else (none)) else (some (a0, (⟨#[]⟩ : ByteArray), false)))
set_option maxHeartbeats 8000000 in
set_option maxRecDepth 100000 in
theorem stringslite_Cut.calls (a0 : ByteArray) (a1 : ByteArray) (r1 : ByteArray) (r2 : ByteArray) (r3 : Bool) (w : World) (h : stringslite_Cut.f a0 a1 = some (r1, r2, r3)) :
  Calls Tryz.prog 103 #[.string a0, .string a1] w fun e w' => e = .returned (.tuple #[.string r1, .string r2, .bool r3]) ∧ Drawn0 w w' := by
 (unfold stringslite_Cut.f at h); (have H := h); clear h; (obtain ⟨t101, A3, H⟩ := obS H); (by_cases c4 : t101 ≥ 0)
 ·rw [if_pos c4] at H
  (have c4b0 : decide (0 ≤ t101) = true := decide_eq_true c4); clear c4; (by_cases c5 : 0 ≤ t101)
  ·rw [if_pos c5] at H
   (have c5b0 := eq_true c5); (have c5b1 := decide_eq_true c5); clear c5; (by_cases c6 : t101 ≤ (a0.size : Int))
   ·rw [if_pos c6] at H
    (have c6b0 := eq_true c6); (have c6b1 := decide_eq_true c6); clear c6; (obtain ⟨ji7, hji7⟩ : ∃ j_ : Int, (wrap64 (t101 + (a1.size : Int))) = j_ := ⟨_, rfl⟩); (replace H : (if 0 ≤ (ji7) then (if (ji7) ≤ (a0.size : Int) then (some (a0.extract 0 (t101 : Int).toNat, a0.extract ((ji7) : Int).toNat a0.size, true)) else (none)) else (none)) = some (r1, r2, r3) := by first | (rw [hji7] at H; exact H) | (simp only [hji7] at H ⊢; exact H)); ((try rw [hji7] at A3)); (have hji7w : (IntKind.i64.wrap (t101 + (a1.size : Int))) = ji7 := (i64_w _).trans hji7); (by_cases c8 : 0 ≤ (ji7))
    ·rw [if_pos c8] at H
     (have c8b0 := eq_true c8); (have c8b1 := decide_eq_true c8); clear c8; (by_cases c9 : (ji7) ≤ (a0.size : Int)); (· (rw [if_pos c9] at H); (have c9b0 := eq_true c9); (have c9b1 := decide_eq_true c9); clear c9; (simp only [Option.some.injEq, Prod.mk.injEq] at H); (obtain ⟨rfl, rfl, rfl⟩ := H); (go_enter Tryz.func103, Tryz.ntmps103); (go_wp2_with (first | (go_at_call 114; (with_reducible refine (stringslite_Index.calls a0 a1 t101 _ A3.out).mono ?_); rintro e w' ⟨rfl, ⟨nd, rfl⟩⟩; (try first | exact ⟨rfl, _, dN2 _ _ _⟩ | exact ⟨rfl, _, dN3 _ _ _ _⟩)))); (repeat (go_quiet (first | (go_at_call 114; (with_reducible refine (stringslite_Index.calls a0 a1 t101 _ A3.out).mono ?_); rintro e w' ⟨rfl, ⟨nd, rfl⟩⟩; (try first | exact ⟨rfl, _, dN2 _ _ _⟩ | exact ⟨rfl, _, dN3 _ _ _ _⟩))); try go_wp2_with (first | (go_at_call 114; (with_reducible refine (stringslite_Index.calls a0 a1 t101 _ A3.out).mono ?_); rintro e w' ⟨rfl, ⟨nd, rfl⟩⟩; (try first | exact ⟨rfl, _, dN2 _ _ _⟩ | exact ⟨rfl, _, dN3 _ _ _ _⟩))))); (go_ret3); (exact ⟨by first | rfl | (simp; done) | (simp only [← hji7] <;> (first | rfl | simp)) | (simp [*]; done), by repeat (first | exact Drawn0.refl _ | apply Drawn0.step)⟩)); (· (rw [if_neg c9] at H); (exact absurd H (by simp)))
    ·rw [if_neg c8] at H
     exact absurd H (by simp)
   ·rw [if_neg c6] at H
    exact absurd H (by simp)
  ·rw [if_neg c5] at H
   exact absurd H (by simp)
 ·rw [if_neg c4] at H
  (have c4b0 : decide (0 ≤ t101) = false := decide_eq_false c4); clear c4; (simp only [Option.some.injEq, Prod.mk.injEq] at H); (obtain ⟨rfl, rfl, rfl⟩ := H); (go_enter Tryz.func103, Tryz.ntmps103); (go_wp2_with (first | (go_at_call 114; (with_reducible refine (stringslite_Index.calls a0 a1 t101 _ A3.out).mono ?_); rintro e w' ⟨rfl, ⟨nd, rfl⟩⟩; (try first | exact ⟨rfl, _, dN2 _ _ _⟩ | exact ⟨rfl, _, dN3 _ _ _ _⟩)))); (repeat (go_quiet (first | (go_at_call 114; (with_reducible refine (stringslite_Index.calls a0 a1 t101 _ A3.out).mono ?_); rintro e w' ⟨rfl, ⟨nd, rfl⟩⟩; (try first | exact ⟨rfl, _, dN2 _ _ _⟩ | exact ⟨rfl, _, dN3 _ _ _ _⟩))); try go_wp2_with (first | (go_at_call 114; (with_reducible refine (stringslite_Index.calls a0 a1 t101 _ A3.out).mono ?_); rintro e w' ⟨rfl, ⟨nd, rfl⟩⟩; (try first | exact ⟨rfl, _, dN2 _ _ _⟩ | exact ⟨rfl, _, dN3 _ _ _ _⟩))))); (go_ret3); (exact ⟨by first | rfl | (simp; done) | (simp [*]; done), by repeat (first | exact Drawn0.refl _ | apply Drawn0.step)⟩)
/-! ### strings_Cut: function 89 -/
def strings_Cut.f (a0 : ByteArray) (a1 : ByteArray) : Option (ByteArray × ByteArray × Bool) := (stringslite_Cut.f a0 a1).bind fun bt101 => (some (bt101.1, bt101.2.1, bt101.2.2))
set_option maxHeartbeats 8000000 in
set_option maxRecDepth 100000 in
theorem strings_Cut.calls (a0 : ByteArray) (a1 : ByteArray) (r1 : ByteArray) (r2 : ByteArray) (r3 : Bool) (w : World) (h : strings_Cut.f a0 a1 = some (r1, r2, r3)) :
  Calls Tryz.prog 89 #[.string a0, .string a1] w fun e w' => e = .returned (.tuple #[.string r1, .string r2, .bool r3]) ∧ Drawn0 w w' := by
 (unfold strings_Cut.f at h); (have H := h); clear h; (obtain ⟨⟨t101, t102, t103⟩, A3, H⟩ := obS H); (replace H : (some (t101, t102, t103)) = some (r1, r2, r3) := H); (simp only [Option.some.injEq, Prod.mk.injEq] at H); (obtain ⟨rfl, rfl, rfl⟩ := H); (go_enter Tryz.func89, Tryz.ntmps89); (go_wp2_with (first | ((with_reducible refine gate_callee (f := 103) rfl ?_); refine gL (some 9) Tryz.func103 #[.string a0, .string a1] ?_; (with_reducible refine (stringslite_Cut.calls a0 a1 t101 t102 t103 _ A3.out).mono ?_); rintro e w' ⟨rfl, ⟨nd, rfl⟩⟩; refine ⟨_, rfl, ?_⟩))); (go_ret3); (exact ⟨by first | rfl | (simp; done) | (simp [*]; done), by repeat (first | exact Drawn0.refl _ | apply Drawn0.step)⟩)
/-! ### impl_isLogText: function 116 -/
def impl_isLogText.l0 : Nat → ByteArray → Int → Int → Option (Bool)
 | 0, _, _, _ => none
 | k + 1, x0, x5, x6 => if x6 < x5 then (if 0 ≤ x6 then (if x6 < (x0.size : Int) then (if (bt x0 x6) < 32 then (some false) else (if (bt x0 x6) > 126 then (some false) else (if (bt x0 x6) = 35 then (some false) else (impl_isLogText.l0 k x0 x5 (wrap64 (x6 + 1)))))) else (none)) else (none)) else (some true)
def impl_isLogText.f (k : Nat) (a0 : ByteArray) : Option (Bool) := impl_isLogText.l0 k a0 (a0.size : Int) 0
set_option maxHeartbeats 8000000 in
set_option maxRecDepth 100000 in
theorem impl_isLogText.calls (k : Nat) (a0 : ByteArray) (r : Bool) (w : World) (h : impl_isLogText.f k a0 = some r) :
  Calls Tryz.prog 116 #[.string a0] w fun e w' => e = .returned (.bool r) ∧ Drawn0 w w' := by
 (unfold impl_isLogText.f at h); (have H := h); clear h; (have H' := Aside0.mk H); clear H; (go_enter Tryz.func116, Tryz.ntmps116); (go_wp2); (go_loopg [6] k (fun kq v6 w' => ∃ (x6_1 : Int), v6 = .int .i64 x6_1 ∧ Aside0 (impl_isLogText.l0 kq a0 (a0.size : Int) x6_1 = some r) ∧ Aside0 (kq ≤ k) ∧ Drawn0 w w'))
 case atStart => exact ⟨(0), (by first | rfl | (simp; done) | (simp [*]; done)), H', ⟨Nat.le_refl _⟩, by repeat (first | exact Drawn0.refl _ | apply Drawn0.step)⟩
 case round =>
  (clear H'); (try clear c1); (obtain ⟨x6_1, rfl, HA, HK1, ⟨m1, rfl⟩⟩ := hrel)
  cases gk with
  | zero => exact absurd HA.out (by simp [impl_isLogText.l0])
  | succ k1 =>
   (have H := HA.out); clear HA; (simp only [impl_isLogText.l0] at H); (by_cases c2 : x6_1 < (a0.size : Int))
   ·rw [if_pos c2] at H
    (have c2b0 := decide_eq_true c2); clear c2; (by_cases c3 : 0 ≤ x6_1)
    ·rw [if_pos c3] at H
     (have c3b0 := decide_eq_true c3); clear c3; (by_cases c4 : x6_1 < (a0.size : Int))
     ·rw [if_pos c4] at H
      (have c4b0 := decide_eq_true c4); clear c4; (by_cases c6 : (bt a0 x6_1) < 32); (· (rw [if_pos c6] at H); (have c6b0 := decide_eq_true c6); clear c6; (obtain rfl := Option.some.inj H); (have p5 : 0 ≤ (x6_1 : Int) := odt); (have q5 : x6_1 < (a0.size : Int) := odt); (have hx5 := bt_at a0 x6_1); (replace p5 := eq_true p5); (replace q5 := eq_true q5); (go_wp2); go_ret; (exact ⟨by first | rfl | (simp; done) | (simp [*]; done), by repeat (first | exact Drawn0.refl _ | apply Drawn0.step)⟩))
      ·rw [if_neg c6] at H
       (have c6b0 := decide_eq_false c6); clear c6; (by_cases c8 : (bt a0 x6_1) > 126)
       ·rw [if_pos c8] at H
        (have c8b0 : decide (126 < (bt a0 x6_1)) = true := decide_eq_true c8); clear c8; (obtain rfl := Option.some.inj H); (have p5 : 0 ≤ (x6_1 : Int) := odt); (have q5 : x6_1 < (a0.size : Int) := odt); (have hx5 := bt_at a0 x6_1); (replace p5 := eq_true p5); (replace q5 := eq_true q5); (have p7 : 0 ≤ (x6_1 : Int) := odt); (have q7 : x6_1 < (a0.size : Int) := odt); (have hx7 := bt_at a0 x6_1); (replace p7 := eq_true p7); (replace q7 := eq_true q7); (go_wp2); go_ret; (exact ⟨by first | rfl | (simp; done) | (simp [*]; done), by repeat (first | exact Drawn0.refl _ | apply Drawn0.step)⟩)
       ·rw [if_neg c8] at H
        (have c8b0 : decide (126 < (bt a0 x6_1)) = false := decide_eq_false c8); clear c8; (by_cases c10 : (bt a0 x6_1) = 35)
        ·rw [if_pos c10] at H
         (have c10b0 : ((bt a0 x6_1) == 35) = true := beq_iff_eq.mpr c10); (have c10b1 : ((bt a0 x6_1) != 35) = false := bne_eq_false_iff_eq.mpr c10); clear c10; (obtain rfl := Option.some.inj H); (have p5 : 0 ≤ (x6_1 : Int) := odt); (have q5 : x6_1 < (a0.size : Int) := odt); (have hx5 := bt_at a0 x6_1); (replace p5 := eq_true p5); (replace q5 := eq_true q5); (have p7 : 0 ≤ (x6_1 : Int) := odt); (have q7 : x6_1 < (a0.size : Int) := odt); (have hx7 := bt_at a0 x6_1); (replace p7 := eq_true p7); (replace q7 := eq_true q7); (have p9 : 0 ≤ (x6_1 : Int) := odt); (have q9 : x6_1 < (a0.size : Int) := odt); (have hx9 := bt_at a0 x6_1); (replace p9 := eq_true p9); (replace q9 := eq_true q9); (go_wp2); go_ret; (exact ⟨by first | rfl | (simp; done) | (simp [*]; done), by repeat (first | exact Drawn0.refl _ | apply Drawn0.step)⟩)
        ·rw [if_neg c10] at H
         (have c10b0 : ((bt a0 x6_1) == 35) = false := beq_eq_false_iff_ne.mpr c10); (have c10b1 : ((bt a0 x6_1) != 35) = true := bne_iff_ne.mpr c10); (have H' := Aside0.mk H); clear H; (have p5 : 0 ≤ (x6_1 : Int) := odt); (have q5 : x6_1 < (a0.size : Int) := odt); (have hx5 := bt_at a0 x6_1); (replace p5 := eq_true p5); (replace q5 := eq_true q5); (have p7 : 0 ≤ (x6_1 : Int) := odt); (have q7 : x6_1 < (a0.size : Int) := odt); (have hx7 := bt_at a0 x6_1); (replace p7 := eq_true p7); (replace q7 := eq_true q7); (have p9 : 0 ≤ (x6_1 : Int) := odt); (have q9 : x6_1 < (a0.size : Int) := odt); (have hx9 := bt_at a0 x6_1); (replace p9 := eq_true p9); (replace q9 := eq_true q9); (go_wp2); go_roundg k1
         case measure => have := HK1.out; omega
         case rel => exact ⟨(wrap64 (x6_1 + 1)), (by first | rfl | (simp; done) | (simp [*]; done)), H', ⟨by have := HK1.out; omega⟩, by repeat (first | exact Drawn0.refl _ | apply Drawn0.step)⟩
     ·rw [if_neg c4] at H
      exact absurd H (by simp)
    ·rw [if_neg c3] at H
     exact absurd H (by simp)
   ·rw [if_neg c2] at H
    (have c2b0 := decide_eq_false c2); clear c2; (obtain rfl := Option.some.inj H); (go_wp2); go_ret; (exact ⟨by first | rfl | (simp; done) | (simp [*]; done), by repeat (first | exact Drawn0.refl _ | apply Drawn0.step)⟩)
/-! ### impl_isCommand: function 115 -/
def impl_isCommand.f (k : Nat) (a0 : ByteArray) : Option (Bool) := (impl_within.f (a0.size : Int) 1 160).bind fun t101 => (if t101 = true then ((impl_isLogText.f k a0).bind fun t102 => (if t102 = true then ((strings_Contains.f a0 (⟨#[64]⟩ : ByteArray)).bind fun t103 => (some (!t103))) else (some false))) else (some false))
set_option maxHeartbeats 8000000 in
set_option maxRecDepth 100000 in
theorem impl_isCommand.calls (k : Nat) (a0 : ByteArray) (r : Bool) (w : World) (h : impl_isCommand.f k a0 = some r) :
  Calls Tryz.prog 115 #[.string a0] w fun e w' => e = .returned (.bool r) ∧ Drawn0 w w' := by
 (unfold impl_isCommand.f at h); (have H := h); clear h; (obtain ⟨t101, A2, H⟩ := obS H); (by_cases c3 : t101 = true)
 ·subst c3
  (rw [if_pos rfl] at H); (obtain ⟨t102, A4, H⟩ := obS H); (by_cases c5 : t102 = true); (· subst c5; (rw [if_pos rfl] at H); (obtain ⟨t103, A6, H⟩ := obS H); (obtain rfl := Option.some.inj H); (go_enter Tryz.func115, Tryz.ntmps115); (go_wp2_with (first | ((with_reducible refine gate_callee (f := 63) rfl ?_); refine gL (some 5) Tryz.func63 #[.int .i64 (a0.size : Int), .int .i64 1, .int .i64 160] ?_; (with_reducible refine (impl_within.calls (a0.size : Int) 1 160 true _ A2.out).mono ?_); rintro e w' ⟨rfl, ⟨nd, rfl⟩⟩; refine ⟨_, rfl, ?_⟩) | (go_at_call 116; (with_reducible refine (impl_isLogText.calls k a0 true _ A4.out).mono ?_); rintro e w' ⟨rfl, ⟨nd, rfl⟩⟩) | (go_at_call 111; (with_reducible refine (strings_Contains.calls a0 (⟨#[64]⟩ : ByteArray) t103 _ A6.out).mono ?_); rintro e w' ⟨rfl, ⟨nd, rfl⟩⟩))); go_ret; (exact ⟨by first | rfl | (simp; done) | (simp [*]; done), by repeat (first | exact Drawn0.refl _ | apply Drawn0.step)⟩)); (· (replace c5 := Bool.eq_false_iff.mpr c5); subst c5; (rw [if_neg (show ¬ (false = true) by decide)] at H); (obtain rfl := Option.some.inj H); (go_enter Tryz.func115, Tryz.ntmps115); (go_wp2_with (first | ((with_reducible refine gate_callee (f := 63) rfl ?_); refine gL (some 5) Tryz.func63 #[.int .i64 (a0.size : Int), .int .i64 1, .int .i64 160] ?_; (with_reducible refine (impl_within.calls (a0.size : Int) 1 160 true _ A2.out).mono ?_); rintro e w' ⟨rfl, ⟨nd, rfl⟩⟩; refine ⟨_, rfl, ?_⟩) | (go_at_call 116; (with_reducible refine (impl_isLogText.calls k a0 false _ A4.out).mono ?_); rintro e w' ⟨rfl, ⟨nd, rfl⟩⟩))); go_ret; (exact ⟨by first | rfl | (simp; done) | (simp [*]; done), by repeat (first | exact Drawn0.refl _ | apply Drawn0.step)⟩))
 ·replace c3 := Bool.eq_false_iff.mpr c3
  subst c3; (rw [if_neg (show ¬ (false = true) by decide)] at H); (obtain rfl := Option.some.inj H); (go_enter Tryz.func115, Tryz.ntmps115); (go_wp2_with (first | ((with_reducible refine gate_callee (f := 63) rfl ?_); refine gL (some 5) Tryz.func63 #[.int .i64 (a0.size : Int), .int .i64 1, .int .i64 160] ?_; (with_reducible refine (impl_within.calls (a0.size : Int) 1 160 false _ A2.out).mono ?_); rintro e w' ⟨rfl, ⟨nd, rfl⟩⟩; refine ⟨_, rfl, ?_⟩))); go_ret; (exact ⟨by first | rfl | (simp; done) | (simp [*]; done), by repeat (first | exact Drawn0.refl _ | apply Drawn0.step)⟩)
/-! ### impl_IsValidLogRecord: function 104 -/
def impl_IsValidLogRecord.f (k : Nat) (a0_0 : ByteArray) (a0_1 : ByteArray) : Option (Bool) := (impl_isCommand.f k a0_0).bind fun t102 => (if t102 = true then (if (a0_1.size : Int) ≤ 200 then ((impl_isLogText.f k a0_1).bind fun t103 => (some t103)) else (some false)) else (some false))
set_option maxHeartbeats 8000000 in
set_option maxRecDepth 100000 in
theorem impl_IsValidLogRecord.calls (k : Nat) (a0_0 : ByteArray) (a0_1 : ByteArray) (r : Bool) (w : World) (h : impl_IsValidLogRecord.f k a0_0 a0_1 = some r) :
  Calls Tryz.prog 104 #[.agg #[.string a0_0, .string a0_1]] w fun e w' => e = .returned (.bool r) ∧ Below w.heap.size w w' := by
 (have hu113 := Tryz.underlying113); (have HB := Aside0.mk (Below.refl w.heap.size w)); (unfold impl_IsValidLogRecord.f at h); (have H := h); clear h; (obtain ⟨t102, A2, H⟩ := obS H); (by_cases c3 : t102 = true)
 ·subst c3
  (rw [if_pos rfl] at H); (by_cases c4 : (a0_1.size : Int) ≤ 200)
  ·rw [if_pos c4] at H
   (have c4b0 := decide_eq_true c4); (have c4b1 : decide (a0_1.size ≤ 200) = true := decide_eq_true (by omega)); clear c4; (obtain ⟨t103, A5, H⟩ := obS H); (obtain rfl := Option.some.inj H); (go_enter Tryz.func104, Tryz.ntmps104); (go_wp2_with (first | ((with_reducible refine gate_dst (N := 1) rfl ?_); refine box_event ?hg (N := 1) ?hd (cs := #[.string a0_0, .string a0_1]) (t := 113) ?hr ?_; (case hd => rfl); (case hg => rfl); (case hr => first | (go_simp; done) | (go_simp; rfl)); intro gb101 hg w6 hbox hb; have hB_ := zI hb HB; have n0_ := Aside0.mk (below_step hB_ hb); have n1_ := Aside0.mk (hbox); have n2_ := Aside0.mk (bx0 hg hB_); have n3_ := n2_; clear HB; have HB := n0_; have BK101 := n1_; have GW101 := n2_; have GE101 := n3_; clear n0_ n1_ n2_ n3_ hB_ hb hbox hg; have hcz7_0 := cz BK101.out 0; have hcz7_1 := cz BK101.out 1; have hfz7_0 := blk_frozen BK101.out 0; have hfz7_1 := blk_frozen BK101.out 1) | ((with_reducible refine gate_callee (f := 115) rfl ?_); refine gL (some 5) Tryz.func115 #[.string a0_0] ?_; (with_reducible refine (impl_isCommand.calls k a0_0 true _ A2.out).mono ?_); rintro e w' ⟨rfl, ⟨nd, rfl⟩⟩; refine ⟨_, rfl, ?_⟩) | (go_at_call 116; (with_reducible refine (impl_isLogText.calls k a0_1 t103 _ A5.out).mono ?_); rintro e w' ⟨rfl, ⟨nd, rfl⟩⟩))); go_ret; (exact ⟨rfl, eI HB⟩)
  ·rw [if_neg c4] at H
   (have c4b0 := decide_eq_false c4); (have c4b1 : decide (a0_1.size ≤ 200) = false := decide_eq_false (by omega)); clear c4; (obtain rfl := Option.some.inj H); (go_enter Tryz.func104, Tryz.ntmps104); (go_wp2_with (first | ((with_reducible refine gate_dst (N := 1) rfl ?_); refine box_event ?hg (N := 1) ?hd (cs := #[.string a0_0, .string a0_1]) (t := 113) ?hr ?_; (case hd => rfl); (case hg => rfl); (case hr => first | (go_simp; done) | (go_simp; rfl)); intro gb101 hg w8 hbox hb; have hB_ := zI hb HB; have n0_ := Aside0.mk (below_step hB_ hb); have n1_ := Aside0.mk (hbox); have n2_ := Aside0.mk (bx0 hg hB_); have n3_ := n2_; clear HB; have HB := n0_; have BK101 := n1_; have GW101 := n2_; have GE101 := n3_; clear n0_ n1_ n2_ n3_ hB_ hb hbox hg; have hcz9_0 := cz BK101.out 0; have hcz9_1 := cz BK101.out 1; have hfz9_0 := blk_frozen BK101.out 0; have hfz9_1 := blk_frozen BK101.out 1) | ((with_reducible refine gate_callee (f := 115) rfl ?_); refine gL (some 5) Tryz.func115 #[.string a0_0] ?_; (with_reducible refine (impl_isCommand.calls k a0_0 true _ A2.out).mono ?_); rintro e w' ⟨rfl, ⟨nd, rfl⟩⟩; refine ⟨_, rfl, ?_⟩))); go_ret; (exact ⟨rfl, eI HB⟩)
 ·replace c3 := Bool.eq_false_iff.mpr c3
  subst c3; (rw [if_neg (show ¬ (false = true) by decide)] at H); (obtain rfl := Option.some.inj H); (go_enter Tryz.func104, Tryz.ntmps104); (go_wp2_with (first | ((with_reducible refine gate_dst (N := 1) rfl ?_); refine box_event ?hg (N := 1) ?hd (cs := #[.string a0_0, .string a0_1]) (t := 113) ?hr ?_; (case hd => rfl); (case hg => rfl); (case hr => first | (go_simp; done) | (go_simp; rfl)); intro gb101 hg w10 hbox hb; have hB_ := zI hb HB; have n0_ := Aside0.mk (below_step hB_ hb); have n1_ := Aside0.mk (hbox); have n2_ := Aside0.mk (bx0 hg hB_); have n3_ := n2_; clear HB; have HB := n0_; have BK101 := n1_; have GW101 := n2_; have GE101 := n3_; clear n0_ n1_ n2_ n3_ hB_ hb hbox hg; have hcz11_0 := cz BK101.out 0; have hcz11_1 := cz BK101.out 1; have hfz11_0 := blk_frozen BK101.out 0; have hfz11_1 := blk_frozen BK101.out 1) | ((with_reducible refine gate_callee (f := 115) rfl ?_); refine gL (some 5) Tryz.func115 #[.string a0_0] ?_; (with_reducible refine (impl_isCommand.calls k a0_0 false _ A2.out).mono ?_); rintro e w' ⟨rfl, ⟨nd, rfl⟩⟩; refine ⟨_, rfl, ?_⟩))); go_ret; (exact ⟨rfl, eI HB⟩)
/-! ### impl_EncodeRecord: function 90 -/
def impl_EncodeRecord.j0 : Nat → Int → Bool → ByteArray → ByteArray → Option (ByteArray × Bool)
 | 0, _, _, _, _ => none
 | k + 1, x0, x15, x102000, x102001 => if x15 = true then (some ((⟨#[]⟩ : ByteArray), false)) else ((strconv_Itoa.f x0).bind fun t104 => (if t104.size + 1 ≤ 9223372036854775807 then (if (t104 ++ (⟨#[32]⟩ : ByteArray)).size + x102000.size ≤ 9223372036854775807 then (if ((t104 ++ (⟨#[32]⟩ : ByteArray)) ++ x102000).size + 1 ≤ 9223372036854775807 then (if (((t104 ++ (⟨#[32]⟩ : ByteArray)) ++ x102000) ++ (⟨#[64]⟩ : ByteArray)).size + x102001.size ≤ 9223372036854775807 then ((impl_AppendChecksum.f k ((((t104 ++ (⟨#[32]⟩ : ByteArray)) ++ x102000) ++ (⟨#[64]⟩ : ByteArray)) ++ x102001)).bind fun bt105 => (if bt105.1.size + 1 ≤ 9223372036854775807 then (some (bt105.1 ++ (⟨#[10]⟩ : ByteArray), true)) else (none))) else (none)) else (none)) else (none)) else (none)))
def impl_EncodeRecord.f (k : Nat) (a0 : Int) (a1_0 : ByteArray) (a1_1 : ByteArray) : Option (ByteArray × Bool) := (impl_within.f a0 0 59).bind fun t102 => (if t102 = true then ((impl_IsValidLogRecord.f k a1_0 a1_1).bind fun t103 => (impl_EncodeRecord.j0 k a0 (!t103) a1_0 a1_1)) else (impl_EncodeRecord.j0 k a0 true a1_0 a1_1))
def impl_EncodeRecord.T3 : Bool × List (List Nat × List Nat) := (true, [([], []), ([0], [0]), ([1], [1]), ([], []), ([3], [3]), ([2, 4], [2, 4]), ([5], [5]), ([], []), ([7], [7]), ([6, 8], [6, 8]), ([9, 1], [9]), ([10], [10]), ([11], [11]), ([11], [11]), ([12, 10, 0, 1, 2, 3, 4, 5, 6, 7, 8, 9, 10, 11, 12], [12]), ([13, 14, 0, 1, 2, 3, 4, 5, 6, 7, 8, 9, 10, 11, 12, 13, 14], [13])])
def impl_EncodeRecord.B3 : List Nat := [0, 1, 3, 0, 8, 31, 63, 0, 128, 511, 1023, 2047, 4095, 4095, 8191, 32767]
theorem impl_EncodeRecord.tab3 : rtab .any (opsOf Tryz.f90 3) = impl_EncodeRecord.T3 := by kernel_rfl
theorem impl_EncodeRecord.bits3 : waitsOk impl_EncodeRecord.T3.2 impl_EncodeRecord.B3 = true := by kernel_rfl
set_option maxHeartbeats 8000000 in
set_option maxRecDepth 100000 in
theorem impl_EncodeRecord.calls (k : Nat) (a0 : Int) (a1_0 : ByteArray) (a1_1 : ByteArray) (r1 : ByteArray) (r2 : Bool) (w : World) (hG : GT w) (h : impl_EncodeRecord.f k a0 a1_0 a1_1 = some (r1, r2)) :
  Calls Tryz.prog 90 #[.int .i64 a0, .agg #[.string a1_0, .string a1_1]] w fun e w' => e = .returned (.tuple #[.string r1, .bool r2]) ∧ Below w.heap.size w w' := by
 (have hu113 := Tryz.underlying113); (have HG := Aside0.mk hG); clear hG; (have HB := Aside0.mk (Below.refl w.heap.size w)); (unfold impl_EncodeRecord.f at h); (have H := h); clear h; (have HC3 := Aside0.mk H); clear H; (go_enter Tryz.func90, Tryz.ntmps90); (go_upto_region 1 with (first | ((with_reducible refine gate_dst (N := 3) rfl ?_); refine box_event ?hg (N := 3) ?hd (cs := #[.string a1_0, .string a1_1]) (t := 113) ?hr ?_; (case hd => rfl); (case hg => rfl); (case hr => first | (go_simp; done) | (go_simp; rfl)); intro gb101 hg w4 hbox hb; have hB_ := zI hb HB; have n0_ := Aside0.mk (below_step hB_ hb); have n1_ := Aside0.mk (hbox); have n2_ := Aside0.mk (bx0 hg hB_); have n3_ := n2_; clear HB; have HB := n0_; have BK101 := n1_; have GW101 := n2_; have GE101 := n3_; clear n0_ n1_ n2_ n3_ hB_ hb hbox hg))); ((try simp only [Act.put, aS1, aS2, aS3])); (go_cut [15] (fun v15 wc => ∃ (kq : Nat) (x15_2 : Bool), v15 = .bool x15_2 ∧ Aside0 (impl_EncodeRecord.j0 kq a0 x15_2 a1_0 a1_1 = some (r1, r2)) ∧ Aside0 (kq ≤ k) ∧ Aside0 (wc.heap[gb101]? = some (.cells #[.string a1_0, .string a1_1] 113 (0, 0))) ∧ Aside0 (Below w.heap.size w wc)))
 case first =>
  (have H := HC3.out); clear HC3; (obtain ⟨t102, A5, H⟩ := obS H); (by_cases c6 : t102 = true)
  ·subst c6
   (rw [if_pos rfl] at H); (obtain ⟨t103, A7, H⟩ := obS H); (have H' := Aside0.mk H); clear H; (go_wp2_with (first | ((with_reducible refine gate_callee (f := 63) rfl ?_); refine gL (some 9) Tryz.func63 #[.int .i64 a0, .int .i64 0, .int .i64 59] ?_; (with_reducible refine (impl_within.calls a0 0 59 true _ A5.out).mono ?_); rintro e w' ⟨rfl, ⟨nd, rfl⟩⟩; refine ⟨_, rfl, ?_⟩; have hcz8_0 := cz BK101.out 0; have hcz8_1 := cz BK101.out 1; have hfz8_0 := blk_frozen BK101.out 0; have hfz8_1 := blk_frozen BK101.out 1) | (go_at_call 104; (with_reducible refine (impl_IsValidLogRecord.calls k a1_0 a1_1 t103 _ A7.out).mono ?_); rintro e w9 ⟨rfl, hb⟩; have n0_ := Aside0.mk (kbI hb BK101); have n1_ := Aside0.mk (sI hb HB); clear BK101 HB; have BK101 := n0_; have HB := n1_; clear n0_ n1_; (try clear hb); (try clear hb2); (try clear hk); (try clear hi)))); (go_meet)
   case rel => exact ⟨_, (!t103), (by first | rfl | (simp; done) | (simp [*]; done)), H', ⟨by first | omega | exact Nat.le_refl _⟩, ⟨kI BK101⟩, ⟨eI HB⟩⟩
  ·replace c6 := Bool.eq_false_iff.mpr c6
   subst c6; (rw [if_neg (show ¬ (false = true) by decide)] at H); (have H' := Aside0.mk H); clear H; (go_wp2_with (first | ((with_reducible refine gate_callee (f := 63) rfl ?_); refine gL (some 9) Tryz.func63 #[.int .i64 a0, .int .i64 0, .int .i64 59] ?_; (with_reducible refine (impl_within.calls a0 0 59 false _ A5.out).mono ?_); rintro e w' ⟨rfl, ⟨nd, rfl⟩⟩; refine ⟨_, rfl, ?_⟩))); (go_meet)
   case rel => exact ⟨_, (true), (by first | rfl | (simp; done) | (simp [*]; done)), H', ⟨by first | omega | exact Nat.le_refl _⟩, ⟨kI BK101⟩, ⟨eI HB⟩⟩
 case rest =>
  clear HC3; (try clear p2); (try clear c6); (try clear c9); (try clear hcz8_0); (try clear hcz8_1); (try clear hfz8_0); (try clear hfz8_1); (obtain ⟨kq, x15_2, rfl, HA, HJ2, BK101, HB⟩ := hcut)
  cases kq with
  | zero => exact absurd HA.out (by simp [impl_EncodeRecord.j0])
  | succ kj2 =>
   (have H := HA.out); clear HA; (simp only [impl_EncodeRecord.j0] at H); (by_cases c10 : x15_2 = true); (· subst c10; (rw [if_pos rfl] at H); (simp only [Option.some.injEq, Prod.mk.injEq] at H); (obtain ⟨rfl, rfl⟩ := H); (go_wp2); (go_ret2); (exact ⟨rfl, eI HB⟩))
   ·replace c10 := Bool.eq_false_iff.mpr c10
    subst c10; (rw [if_neg (show ¬ (false = true) by decide)] at H); (obtain ⟨t104, A11, H⟩ := obS H); (by_cases c12 : t104.size + 1 ≤ 9223372036854775807)
    ·rw [if_pos c12] at H
     (have c12b0 := eq_true c12); (have c12b1 := decide_eq_true c12); (try have c12b2 : (9223372036854775807 < t104.size + 1) = False := eq_false (Nat.not_lt.2 c12)); (by_cases c13 : (t104 ++ (⟨#[32]⟩ : ByteArray)).size + a1_0.size ≤ 9223372036854775807)
     ·rw [if_pos c13] at H
      (have c13b0 := eq_true c13); (have c13b1 := decide_eq_true c13); (try have c13n0 := c13b0); (try (push_cast [Int.toNat_natCast, ByteArray.size_append, show (⟨#[32]⟩ : ByteArray).size = 1 from rfl] at c13n0)); (try have c13n1 := c13b1); (try (push_cast [Int.toNat_natCast, ByteArray.size_append, show (⟨#[32]⟩ : ByteArray).size = 1 from rfl] at c13n1)); (try have c13b2 : (9223372036854775807 < (t104 ++ (⟨#[32]⟩ : ByteArray)).size + a1_0.size) = False := eq_false (Nat.not_lt.2 c13)); (try have c13b3 := c13b2); (try simp only [ByteArray.size_append, show (⟨#[32]⟩ : ByteArray).size = 1 from rfl] at c13b3); (by_cases c14 : ((t104 ++ (⟨#[32]⟩ : ByteArray)) ++ a1_0).size + 1 ≤ 9223372036854775807)
      ·rw [if_pos c14] at H
       (have c14b0 := eq_true c14); (have c14b1 := decide_eq_true c14); (try have c14n0 := c14b0); (try (push_cast [Int.toNat_natCast, ByteArray.size_append, show (⟨#[32]⟩ : ByteArray).size = 1 from rfl] at c14n0)); (try have c14n1 := c14b1); (try (push_cast [Int.toNat_natCast, ByteArray.size_append, show (⟨#[32]⟩ : ByteArray).size = 1 from rfl] at c14n1)); (try have c14b2 : (9223372036854775807 < ((t104 ++ (⟨#[32]⟩ : ByteArray)) ++ a1_0).size + 1) = False := eq_false (Nat.not_lt.2 c14)); (try have c14b3 := c14b2); (try simp only [ByteArray.size_append, show (⟨#[32]⟩ : ByteArray).size = 1 from rfl] at c14b3); (by_cases c15 : (((t104 ++ (⟨#[32]⟩ : ByteArray)) ++ a1_0) ++ (⟨#[64]⟩ : ByteArray)).size + a1_1.size ≤ 9223372036854775807)
       ·rw [if_pos c15] at H
        (have c15b0 := eq_true c15); (have c15b1 := decide_eq_true c15); (try have c15n0 := c15b0); (try (push_cast [Int.toNat_natCast, ByteArray.size_append, show (⟨#[32]⟩ : ByteArray).size = 1 from rfl, show (⟨#[64]⟩ : ByteArray).size = 1 from rfl] at c15n0)); (try have c15n1 := c15b1); (try (push_cast [Int.toNat_natCast, ByteArray.size_append, show (⟨#[32]⟩ : ByteArray).size = 1 from rfl, show (⟨#[64]⟩ : ByteArray).size = 1 from rfl] at c15n1)); (try have c15b2 : (9223372036854775807 < (((t104 ++ (⟨#[32]⟩ : ByteArray)) ++ a1_0) ++ (⟨#[64]⟩ : ByteArray)).size + a1_1.size) = False := eq_false (Nat.not_lt.2 c15)); (try have c15b3 := c15b2); (try simp only [ByteArray.size_append, show (⟨#[32]⟩ : ByteArray).size = 1 from rfl, show (⟨#[64]⟩ : ByteArray).size = 1 from rfl] at c15b3); (obtain ⟨⟨t105, t106⟩, A16, H⟩ := obS H); (replace H : (if t105.size + 1 ≤ 9223372036854775807 then (some (t105 ++ (⟨#[10]⟩ : ByteArray), true)) else (none)) = some (r1, r2) := H); (by_cases c17 : t105.size + 1 ≤ 9223372036854775807)
        ·rw [if_pos c17] at H
         (have c17b0 := eq_true c17); (have c17b1 := decide_eq_true c17); (try have c17b2 : (9223372036854775807 < t105.size + 1) = False := eq_false (Nat.not_lt.2 c17)); (simp only [Option.some.injEq, Prod.mk.injEq] at H); (obtain ⟨rfl, rfl⟩ := H); (try go_wp2); (have n0_ := Aside0.mk (blk_drew BK101.out)); (have n1_ := Aside0.mk (below_drew1 HB.out)); clear BK101 HB; (have BK101 := n0_); (have HB := n1_); clear n0_ n1_; (refine start_ (n := 16) (S := fun w' => w'.cell? ⟨gb101, 0, none⟩ = some (.string a1_0) ∧ w'.cell? ⟨gb101, 1, none⟩ = some (.string a1_1)) (ds := []) (cn 16 0) (by kernel_rfl) rfl (by kernel_rfl) ⟨cz BK101.out 0, cz BK101.out 1⟩ (fun hHeld => ?_); refine with_tabW impl_EncodeRecord.tab3 impl_EncodeRecord.bits3 (fun HT_ HW_ => ?_)); (generalize wc.drew = w18 at BK101 HB hHeld ⊢); (refine pB 0 (cn 16 1) (some 17) HT_ (h := ?_)); (refine pB 3 (cb 16 9) (some 20) HT_ (h := ?_)); (refine pB 7 (cb 16 137) (some 24) HT_ (h := ?_)); (refine tB 4 (cb 16 153) (some 21) HT_ HW_ hHeld (h := ?_)); (refine tB 8 (cb 16 409) (some 25) HT_ HW_ hHeld (h := ?_)); (refine oN 1 (some 18) (cb 16 411) HT_ (fun K hK => ?_)); (refine gG Tryz.func52 #[.int .i64 a0] ?_); (with_reducible refine (strconv_Itoa.calls a0 t104 _ ?side1 A11.out).mono ?_); ((case side1 => first | exact GT.below HG.out (eI HB) | (repeat (first | exact HG.out | (with_reducible first | apply GT.drewN | apply GT.drew | apply GT.alloc))))); (rintro e w19 ⟨rfl, hb⟩); (refine ⟨_, rfl, ?_⟩); (have n0_ := Aside0.mk (kbI hb BK101)); (have n1_ := Aside0.mk (sI hb HB)); clear BK101 HB; (have BK101 := n0_); (have HB := n1_); clear n0_ n1_; ((try clear hb)); ((try clear hb2)); ((try clear hk)); ((try clear hi)); (refine hK.out _ _ ⟨cz BK101.out 0, cz BK101.out 1⟩ (fun hHeld => ?_)); clear hK K; (refine nP (some 18) (h := ?_)); (refine pB 2 (cb 16 415) (some 19) HT_ (h := ?_)); (refine pB 5 (cb 16 447) (some 22) HT_ (h := ?_)); (refine pB 6 (cn 16 9) (some 23) HT_ (h := ?_)); (refine pB 9 (cn 16 10) (some 26) HT_ (h := ?_)); (refine oN 10 (some 27) (cn 16 11) HT_ (fun K hK => ?_)); (refine gG Tryz.func101 #[.string ((((t104 ++ (⟨#[32]⟩ : ByteArray)) ++ a1_0) ++ (⟨#[64]⟩ : ByteArray)) ++ a1_1)] ?_)
         (with_reducible refine (impl_AppendChecksum.calls kj2 ((((t104 ++ (⟨#[32]⟩ : ByteArray)) ++ a1_0) ++ (⟨#[64]⟩ : ByteArray)) ++ a1_1) t105 t106 _ ?side1 A16.out).mono ?_); ((case side1 => first | exact GT.below HG.out (eI HB) | (repeat (first | exact HG.out | (with_reducible first | apply GT.drewN | apply GT.drew | apply GT.alloc))))); (rintro e w20 ⟨rfl, hb⟩); (refine ⟨_, rfl, ?_⟩); (have n0_ := Aside0.mk (kbI hb BK101)); (have n1_ := Aside0.mk (sI hb HB)); clear BK101 HB; (have BK101 := n0_); (have HB := n1_); clear n0_ n1_; ((try clear hb)); ((try clear hb2)); ((try clear hk)); ((try clear hi)); (refine hK.out _ _ ⟨cz BK101.out 0, cz BK101.out 1⟩ (fun hHeld => ?_)); clear hK K; (refine nP (some 27) (h := ?_)); (refine pB 11 (cn 16 12) (some 16) HT_ (h := ?_)); (refine pB 12 (cn 16 13) (some 28) HT_ (h := ?_)); (refine pB 13 (cn 16 14) (some 29) HT_ (h := ?_)); (refine pB 14 (cn 16 15) (some 6) HT_ (h := ?_)); (refine pB 15 (cn 16 16) (some 7) HT_ (h := ?_)); (refine done_ (done_of HT_.out (by kernel_rfl)) ?_); (try go_wp2); (go_ret2); (exact ⟨rfl, eI HB⟩)
        ·rw [if_neg c17] at H
         exact absurd H (by simp)
       ·rw [if_neg c15] at H
        exact absurd H (by simp)
      ·rw [if_neg c14] at H
       exact absurd H (by simp)
     ·rw [if_neg c13] at H
      exact absurd H (by simp)
    ·rw [if_neg c12] at H
     exact absurd H (by simp)

end Go.Proofs.YtogjjcjnnclghaaGreatDoor.X
