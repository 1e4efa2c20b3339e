/- For every record and report the law FnExactIsValidReport answers true
This file (part 6 of 6) holds what the proof needs: plain functions with rounds and contracts written by programs of this work over the translation, and the lemmas. -/
import Derived.Test.YtfkbfeghfpaopaaZFnExactIsValidReport2
import Derived.Test.YtfkbfeghfpaopaaZFnExactIsValidReport5
import Derived.Test.YtfkbfeghfpaopaaZFnExactIsValidReport3
import Derived.Test.YtfkbfeghfpaopaaZFnExactIsValidReport4
import Derived.Test.YtfkbfeghfpaopaaZFnExactIsValidReport1
import Derived.ChangeArms
import Derived.DataReads
import Derived.Deep.Slices
import Derived.ChangeOld
import Derived.OpenShut
import Derived.Test.YtfkbfeghfpaopaaRows
import Derived.WalkKit
import Derived.ProofKit
import Derived.ShutString
import Derived.Below
import Derived.SizedLaws
import Derived.Lib.SmallJoins
namespace Go.Proofs.Ytfkbfeghfpaopaa.X
open Go.RowKit Go.Proofs.YtfkbfeghfpaopaaW.PrintWords Go.Proofs.YtfkbfeghfpaopaaW.PrintLast Go.Proofs.YtfkbfeghfpaopaaW.PrintMore
attribute [local go_sem] max2_int min2_int max_two min_two max_three min_three max_four min_four   -- for this text's walks alone
set_option linter.unusedVariables false
set_option linter.unusedSimpArgs false
attribute [-simp] ByteArray.size_append ByteArray.size_extract
attribute [-go_sem] ByteArray.size_append'

/-! ### spec_IsValidReport: function 8 -/
def spec_IsValidReport.f (k : Nat) (l0_0 : List (S80)) (l0_1 : List (S84)) (l1 : List (S46)) : Option (Bool) := (spec_l24Good.f k l0_0 l0_1 l1).bind fun t102 => (some t102)
theorem spec_IsValidReport.mono : ∀ a0 a1 a2 k, LeO (spec_IsValidReport.f k a0 a1 a2) (spec_IsValidReport.f (k + 1) a0 a1 a2) := by
 intro a0 a1 a2 k; (unfold spec_IsValidReport.f)
 repeat' first
   | (with_reducible exact spec_l24Good.mono _ _ _ _)
   | (with_reducible exact LeO.refl _)
   | (with_reducible exact LeO.none _)
   | (with_reducible refine LeO.ite ?_ ?_)
   | (with_reducible refine LeO.bind ?_ (fun _ => ?_))
   | exact spec_l24Good.mono _ _ _ _
   | exact LeO.none _
   | refine LeO.ite ?_ ?_
   | refine LeO.bind ?_ (fun _ => ?_)
set_option maxHeartbeats 8000000 in
set_option maxRecDepth 100000 in
theorem spec_IsValidReport.calls (k : Nat) (A0_0 : Option Addr) (c0_0 : Nat) (l0_0 : List (S80)) (A0_1 : Option Addr) (c0_1 : Nat) (l0_1 : List (S84)) (A1 : Option Addr) (c1 : Nat) (l1 : List (S46)) (r : Bool) (w : World) (hr0_0 : Kd.C k80 w A0_0 l0_0.length l0_0) (hc0_0 : l0_0.length ≤ c0_0) (hr0_1 : Kd.C k84 w A0_1 l0_1.length l0_1) (hc0_1 : l0_1.length ≤ c0_1) (hr1 : Kd.C k46 w A1 l1.length l1) (hc1 : l1.length ≤ c1) (h : spec_IsValidReport.f k l0_0 l0_1 l1 = some r) :
  Calls Try.prog 8 #[.agg #[.slice A0_0 l0_0.length c0_0, .slice A0_1 l0_1.length c0_1], .slice A1 l1.length c1] w fun e w' => e = .returned (.bool r) ∧ Below w.heap.size w w' := by
 (have hu33 := Try.underlying33); (have HR0_0 := Aside0.mk hr0_0); (have HC0_0 := Aside0.mk hc0_0); clear hr0_0 hc0_0; (have HR0_1 := Aside0.mk hr0_1); (have HC0_1 := Aside0.mk hc0_1); clear hr0_1 hc0_1; (have HR1 := Aside0.mk hr1); (have HC1 := Aside0.mk hc1); clear hr1 hc1; (have HB := Aside0.mk (Below.refl w.heap.size w)); (have H : ((spec_l24Good.f k l0_0 l0_1 l1).bind fun t102 => (some t102)) = some r := h); clear h; (replace H := Option.bind_eq_some_iff.mp H); (obtain ⟨t102, A30, H⟩ := H); (replace H : (some t102) = some r := H); (have A3 := Aside0.mk A30); clear A30; (obtain rfl := Option.some.inj H); (go_enter Try.func8, Try.ntmps8); (go_wp2_with (first | ((with_reducible refine gate_dst (N := 2) rfl ?_); refine box_event ?hg (N := 2) ?hd (cs := #[.slice A0_0 l0_0.length c0_0, .slice A0_1 l0_1.length c0_1]) (t := 33) ?hr ?_; (case hd => rfl); (case hg => rfl); (case hr => first | (go_simp; done) | (go_simp; rfl)); intro gb101 hg w4 hbox hb; have n0_ := Aside0.mk (below_step (by repeat (first | (with_reducible first | exact HB.out | apply bA | apply bN | apply bD) | exact HB.out)) hb); have n1_ := Aside0.mk (hbox); have n2_ := Aside0.mk ((by rw [hg]; exact (below_size (by repeat (first | (with_reducible first | exact HB.out | apply bA | apply bN | apply bD) | exact HB.out))) : w.heap.size ≤ gb101)); have n3_ := Aside0.mk ((by rw [hg]; exact (below_size (by repeat (first | (with_reducible first | exact HB.out | apply bA | apply bN | apply bD) | exact HB.out))) : w.heap.size ≤ gb101)); clear HB; have HB := n0_; have BK101 := n1_; have GW101 := n2_; have GE101 := n3_; clear n0_ n1_ n2_ n3_; clear hb hbox hg; have hcz5_0 : w4.cell? ⟨gb101, 0, none⟩ = some (.slice A0_0 l0_0.length c0_0) := (blk_cell BK101.out 0).trans rfl; have hcz5_1 : w4.cell? ⟨gb101, 1, none⟩ = some (.slice A0_1 l0_1.length c0_1) := (blk_cell BK101.out 1).trans rfl; have hfz5_0 := blk_frozen BK101.out 0; have hfz5_1 := blk_frozen BK101.out 1) | ((with_reducible refine gate_callee (f := 30) rfl ?_); refine goesL_ (some 7) rfl rfl Try.func30 (by kernel_rfl) rfl #[.agg #[.slice A0_0 l0_0.length c0_0, .slice A0_1 l0_1.length c0_1], .slice A1 l1.length c1] rfl (by (try simp only [aM1, aM2, aM3]); first | done | rfl | (simp only [List.length_drop, List.length_take]; rfl)) ?_; (with_reducible refine (spec_l24Good.calls k _ _ l0_0 _ _ l0_1 _ _ l1 t102 _ ?side1 ?side2 ?side3 ?side4 ?side5 ?side6 A3.out).mono ?_); (case side1 => repeat (first | exact (Kd.C_below HR0_0.out HB.out) | (with_reducible refine Kd.C_alloc ?_ _) | (with_reducible refine Kd.C_drewN ?_ _) | (with_reducible refine Kd.C_drew ?_))); (case side2 => exact HC0_0.out); (case side3 => repeat (first | exact (Kd.C_below HR0_1.out HB.out) | (with_reducible refine Kd.C_alloc ?_ _) | (with_reducible refine Kd.C_drewN ?_ _) | (with_reducible refine Kd.C_drew ?_))); (case side4 => exact HC0_1.out); (case side5 => repeat (first | exact (Kd.C_below HR1.out HB.out) | (with_reducible refine Kd.C_alloc ?_ _) | (with_reducible refine Kd.C_drewN ?_ _) | (with_reducible refine Kd.C_drew ?_))); (case side6 => exact HC1.out); rintro e w6 ⟨rfl, hb⟩; refine ⟨_, rfl, ?_⟩; have n0_ := Aside0.mk (blk_below (g := gb101) (o := .cells #[.slice A0_0 l0_0.length c0_0, .slice A0_1 l0_1.length c0_1] 33 (0, 0)) (by (with_reducible repeat (first | refine kN ?_ _ | refine kD ?_ | refine kA ?_ _)); exact BK101.out) hb); have n1_ := Aside0.mk (below_step (by repeat (first | (with_reducible first | exact HB.out | apply bA | apply bN | apply bD | refine below_set ?_ GE101.out) | exact HB.out)) hb); clear BK101; clear HB; have BK101 := n0_; have HB := n1_; clear n0_ n1_; (try clear hb); (try clear hb2); (try clear hk); (try clear hi)))); go_ret; (exact ⟨by first | rfl | (simp [errW_none, errW_some] <;> rfl) | (simp [*, errW_none, errW_some] <;> rfl), by repeat (first | (with_reducible first | exact HB.out | apply bA | apply bN | apply bD | refine below_set ?_ GE101.out) | exact HB.out)⟩)

end Go.Proofs.Ytfkbfeghfpaopaa.X
namespace Go.Proofs.Ytfkbfeghfpaopaa.X
open Go.RowKit Go.Proofs.YtfkbfeghfpaopaaW.PrintWords Go.Proofs.YtfkbfeghfpaopaaW.PrintLast Go.Proofs.YtfkbfeghfpaopaaW.PrintMore
attribute [local go_sem] max2_int min2_int max_two min_two max_three min_three max_four min_four   -- for this text's walks alone
set_option linter.unusedVariables false
set_option linter.unusedSimpArgs false
attribute [-simp] ByteArray.size_append ByteArray.size_extract
attribute [-go_sem] ByteArray.size_append'

/-! ### laws_toContext: function 58 -/
def laws_toContext.f (a0_0 : Int) (a0_1 : Int) : Option (Int × Int) := some (a0_0, a0_1)
set_option maxHeartbeats 8000000 in
set_option maxRecDepth 100000 in
theorem laws_toContext.calls (a0_0 : Int) (a0_1 : Int) (r1 : Int) (r2 : Int) (w : World) (h : laws_toContext.f a0_0 a0_1 = some (r1, r2)) :
  Calls Try.prog 58 #[.agg #[.int .i64 a0_0, .int .i64 a0_1]] w fun e w' => e = .returned (.agg #[.int .i64 r1, .int .i64 r2]) ∧ Below w.heap.size w w' := by
 (have hu82 := Try.underlying82); (have hu80 := Try.underlying80); (have HB := Aside0.mk (Below.refl w.heap.size w)); (have H : (some (a0_0, a0_1)) = some (r1, r2) := h); clear h; (simp only [Option.some.injEq, Prod.mk.injEq] at H); (obtain ⟨rfl, rfl⟩ := H); (go_enter Try.func58, Try.ntmps58)
 go_wp2_with (first | ((with_reducible refine gate_dst (N := 1) rfl ?_); refine box_event ?hg (N := 1) ?hd (cs := #[.int .i64 a0_0, .int .i64 a0_1]) (t := 82) ?hr ?_; (case hd => rfl); (case hg => rfl); (case hr => first | (go_simp; done) | (go_simp; rfl)); intro gb101 hg w2 hbox hb; have n0_ := Aside0.mk (below_step (by repeat (first | (with_reducible first | exact HB.out | apply bA | apply bN | apply bD) | exact HB.out)) hb); have n1_ := Aside0.mk (hbox); have n2_ := Aside0.mk ((by rw [hg]; exact (below_size (by repeat (first | (with_reducible first | exact HB.out | apply bA | apply bN | apply bD) | exact HB.out))) : w.heap.size ≤ gb101)); have n3_ := Aside0.mk ((by rw [hg]; exact (below_size (by repeat (first | (with_reducible first | exact HB.out | apply bA | apply bN | apply bD) | exact HB.out))) : w.heap.size ≤ gb101)); clear HB; have HB := n0_; have BK101 := n1_; have GW101 := n2_; have GE101 := n3_; clear n0_ n1_ n2_ n3_; clear hb hbox hg) | ((with_reducible refine gate_dst (N := 2) rfl ?_); refine box_event ?hg (N := 2) ?hd (cs := #[.int .i64 0, .int .i64 0]) (t := 80) ?hr ?_; (case hd => rfl); (case hg => rfl); (case hr => first | (go_simp; done) | (go_simp; rfl)); intro gb102 hg w3 hbox hb; have n0_ := Aside0.mk (blk_below (g := gb101) (o := .cells #[.int .i64 a0_0, .int .i64 a0_1] 82 (0, 0)) (by (with_reducible repeat (first | refine kN ?_ _ | refine kD ?_ | refine kA ?_ _)); exact BK101.out) hb); have n1_ := Aside0.mk (below_step (by repeat (first | (with_reducible first | exact HB.out | apply bA | apply bN | apply bD | refine below_set ?_ GE101.out) | exact HB.out)) hb); have n2_ := Aside0.mk (hbox); have n3_ := Aside0.mk ((by rw [hg]; exact (below_size (by repeat (first | (with_reducible first | exact HB.out | apply bA | apply bN | apply bD | refine below_set ?_ GE101.out) | exact HB.out))) : w.heap.size ≤ gb102)); have n4_ := Aside0.mk ((by rw [hg]; exact (below_size (by repeat (first | (with_reducible first | exact HB.out | apply bA | apply bN | apply bD | refine below_set ?_ GE101.out) | exact HB.out))) : w.heap.size ≤ gb102)); have n5_ := Aside0.mk ((by rw [hg]; exact Nat.ne_of_lt (blk_lt (g := gb101) (o := .cells #[.int .i64 a0_0, .int .i64 a0_1] 82 (0, 0)) (by (with_reducible repeat (first | refine kN ?_ _ | refine kD ?_ | refine kA ?_ _)); exact BK101.out)) : gb101 ≠ gb102)); have n6_ := Aside0.mk ((by rw [hg]; exact Nat.ne_of_gt (blk_lt (g := gb101) (o := .cells #[.int .i64 a0_0, .int .i64 a0_1] 82 (0, 0)) (by (with_reducible repeat (first | refine kN ?_ _ | refine kD ?_ | refine kA ?_ _)); exact BK101.out)) : gb102 ≠ gb101)); clear BK101; clear HB; have BK101 := n0_; have HB := n1_; have BK102 := n2_; have GW102 := n3_; have GE102 := n4_; have NB101_102 := n5_; have NB102_101 := n6_; clear n0_ n1_ n2_ n3_ n4_ n5_ n6_; clear hb hbox hg) | ((with_reducible refine gate_dst (N := 3) rfl ?_); refine box_event ?hg (N := 3) ?hd (cs := #[.int .i64 0, .int .i64 0]) (t := 80) ?hr ?_; (case hd => rfl); (case hg => rfl); (case hr => first | (go_simp; done) | (go_simp; rfl)); intro gb103 hg w4 hbox hb; have n0_ := Aside0.mk (blk_below (g := gb101) (o := .cells #[.int .i64 a0_0, .int .i64 a0_1] 82 (0, 0)) (by (with_reducible repeat (first | refine kN ?_ _ | refine kD ?_ | refine kA ?_ _)); exact BK101.out) hb); have n1_ := Aside0.mk (blk_below (g := gb102) (o := .cells #[.int .i64 0, .int .i64 0] 80 (0, 0)) (by (with_reducible repeat (first | refine kN ?_ _ | refine kD ?_ | refine kA ?_ _)); exact BK102.out) hb); have n2_ := Aside0.mk (below_step (by repeat (first | (with_reducible first | exact HB.out | apply bA | apply bN | apply bD | refine below_set ?_ GE101.out | refine below_set ?_ GE102.out) | exact HB.out)) hb); have n3_ := Aside0.mk (hbox); have n4_ := Aside0.mk ((by rw [hg]; exact (below_size (by repeat (first | (with_reducible first | exact HB.out | apply bA | apply bN | apply bD | refine below_set ?_ GE101.out | refine below_set ?_ GE102.out) | exact HB.out))) : w.heap.size ≤ gb103)); have n5_ := Aside0.mk ((by rw [hg]; exact (below_size (by repeat (first | (with_reducible first | exact HB.out | apply bA | apply bN | apply bD | refine below_set ?_ GE101.out | refine below_set ?_ GE102.out) | exact HB.out))) : w.heap.size ≤ gb103)); have n6_ := Aside0.mk ((by rw [hg]; exact Nat.ne_of_lt (blk_lt (g := gb101) (o := .cells #[.int .i64 a0_0, .int .i64 a0_1] 82 (0, 0)) (by (with_reducible repeat (first | refine kN ?_ _ | refine kD ?_ | refine kA ?_ _)); exact BK101.out)) : gb101 ≠ gb103)); have n7_ := Aside0.mk ((by rw [hg]; exact Nat.ne_of_gt (blk_lt (g := gb101) (o := .cells #[.int .i64 a0_0, .int .i64 a0_1] 82 (0, 0)) (by (with_reducible repeat (first | refine kN ?_ _ | refine kD ?_ | refine kA ?_ _)); exact BK101.out)) : gb103 ≠ gb101)); have n8_ := Aside0.mk ((by rw [hg]; exact Nat.ne_of_lt (blk_lt (g := gb102) (o := .cells #[.int .i64 0, .int .i64 0] 80 (0, 0)) (by (with_reducible repeat (first | refine kN ?_ _ | refine kD ?_ | refine kA ?_ _)); exact BK102.out)) : gb102 ≠ gb103)); have n9_ := Aside0.mk ((by rw [hg]; exact Nat.ne_of_gt (blk_lt (g := gb102) (o := .cells #[.int .i64 0, .int .i64 0] 80 (0, 0)) (by (with_reducible repeat (first | refine kN ?_ _ | refine kD ?_ | refine kA ?_ _)); exact BK102.out)) : gb103 ≠ gb102)); clear BK101; clear BK102; clear HB; have BK101 := n0_; have BK102 := n1_; have HB := n2_; have BK103 := n3_; have GW103 := n4_; have GE103 := n5_; have NB101_103 := n6_; have NB103_101 := n7_; have NB102_103 := n8_; have NB103_102 := n9_; clear n0_ n1_ n2_ n3_ n4_ n5_ n6_ n7_ n8_ n9_; clear hb hbox hg; have hnb5 := NB101_102.out; have hnc5 := NB102_101.out; have hnb6 := NB101_103.out; have hnc6 := NB103_101.out; have hcz7_0 : w4.cell? ⟨gb101, 0, none⟩ = some (.int .i64 a0_0) := (blk_cell BK101.out 0).trans rfl; have hcz7_1 : w4.cell? ⟨gb101, 1, none⟩ = some (.int .i64 a0_1) := (blk_cell BK101.out 1).trans rfl; have hfz7_0 := blk_frozen BK101.out 0; have hfz7_1 := blk_frozen BK101.out 1; have hnb8 := NB103_102.out; have hnc8 := NB102_103.out; have hcz9_0 : w4.cell? ⟨gb103, 0, none⟩ = some (.int .i64 0) := (blk_cell BK103.out 0).trans rfl; have hcz9_1 : w4.cell? ⟨gb103, 1, none⟩ = some (.int .i64 0) := (blk_cell BK103.out 1).trans rfl; have hfz9_0 := blk_frozen BK103.out 0; have hfz9_1 := blk_frozen BK103.out 1; have hcz10_0 : w4.cell? ⟨gb102, 0, none⟩ = some (.int .i64 0) := (blk_cell BK102.out 0).trans rfl; have hcz10_1 : w4.cell? ⟨gb102, 1, none⟩ = some (.int .i64 0) := (blk_cell BK102.out 1).trans rfl; have hfz10_0 := blk_frozen BK102.out 0; have hfz10_1 := blk_frozen BK102.out 1))
 (refine bodyPost_ret (results_cell_row rfl _ _ gb102 80 #[.int .i64 a0_0, .int .i64 a0_1] (0, 0) _ rfl (by (with_reducible repeat (first | refine kN ?_ _ | refine kD ?_ | refine kA ?_ _)); refine blk_put (cs := #[.int .i64 a0_0, .int .i64 0]) ?_ 1 _ rfl; (with_reducible repeat (first | refine kN ?_ _ | refine kD ?_ | refine kA ?_ _)); refine blk_put (cs := #[.int .i64 0, .int .i64 0]) ?_ 0 _ rfl; (with_reducible repeat (first | refine kN ?_ _ | refine kD ?_ | refine kA ?_ _)); refine blk_far ?_ NB102_103.out _; (with_reducible repeat (first | refine kN ?_ _ | refine kD ?_ | refine kA ?_ _)); refine blk_far ?_ NB102_103.out _; (with_reducible repeat (first | refine kN ?_ _ | refine kD ?_ | refine kA ?_ _)); exact BK102.out) Try.underlying80 rfl (by kernel_rfl)) rfl ?_); (exact ⟨by first | rfl | (simp [errW_none, errW_some] <;> rfl) | (simp [*, errW_none, errW_some] <;> rfl), by repeat (first | (with_reducible first | exact HB.out | apply bA | apply bN | apply bD | refine below_set ?_ GE101.out | refine below_set ?_ GE102.out | refine below_set ?_ GE103.out) | exact HB.out)⟩)

end Go.Proofs.Ytfkbfeghfpaopaa.X
namespace Go.Proofs.Ytfkbfeghfpaopaa.X
open Go.RowKit Go.Proofs.YtfkbfeghfpaopaaW.PrintWords Go.Proofs.YtfkbfeghfpaopaaW.PrintLast Go.Proofs.YtfkbfeghfpaopaaW.PrintMore
attribute [local go_sem] max2_int min2_int max_two min_two max_three min_three max_four min_four   -- for this text's walks alone
set_option linter.unusedVariables false
set_option linter.unusedSimpArgs false
attribute [-simp] ByteArray.size_append ByteArray.size_extract
attribute [-go_sem] ByteArray.size_append'

/-! ### laws_toContextS: function 31 -/
def laws_toContextS.l0 : Nat → List (S82) → List (S80) → Int → Option ((List (S80)))
 | 0, _, _, _ => none
 | k + 1, x0, x3, x4 => if x4 < (x0.length : Int) then (if 0 ≤ x4 then ((laws_toContext.f ((rd_T82 x0 x4).f0) ((rd_T82 x0 x4).f1)).bind fun bt105 => (if x4 < (x3.length : Int) then (laws_toContextS.l0 k x0 (x3.set (x4 : Int).toNat (⟨bt105.1, bt105.2⟩ : S80)) (wrap64 (x4 + 1))) else (none))) else (none)) else (some x3)
def laws_toContextS.f (k : Nat) (l0 : List (S82)) : Option ((List (S80))) := if 0 ≤ (l0.length : Int) then (if ((l0.length : Int) : Int).toNat ≤ 17592186044416 then (laws_toContextS.l0 k l0 (List.replicate ((l0.length : Int) : Int).toNat z80) 0) else (none)) else (none)
theorem laws_toContextS.mono_l : ∀ k, (∀ y0 y1 y2, LeO (laws_toContextS.l0 k y0 y1 y2) (laws_toContextS.l0 (k + 1) y0 y1 y2))
 | 0 => fun _ _ _ r h => by simp [laws_toContextS.l0] at h
 | k + 1 => by
  have ih0 := laws_toContextS.mono_l k
  ·intro y0 y1 y2
   unfold laws_toContextS.l0
   repeat' first
   | (with_reducible exact ih0 _ _ _)
   | (with_reducible exact LeO.refl _)
   | (with_reducible exact LeO.none _)
   | (with_reducible refine LeO.ite ?_ ?_)
   | (with_reducible refine LeO.bind ?_ (fun _ => ?_))
   | exact ih0 _ _ _
   | exact LeO.none _
   | refine LeO.ite ?_ ?_
   | refine LeO.bind ?_ (fun _ => ?_)
theorem laws_toContextS.mono : ∀ a0 k, LeO (laws_toContextS.f k a0) (laws_toContextS.f (k + 1) a0) := by
 intro a0 k; (have ih0 := laws_toContextS.mono_l k); (unfold laws_toContextS.f)
 repeat' first
   | (with_reducible exact ih0 _ _ _)
   | (with_reducible exact LeO.refl _)
   | (with_reducible exact LeO.none _)
   | (with_reducible refine LeO.ite ?_ ?_)
   | (with_reducible refine LeO.bind ?_ (fun _ => ?_))
   | exact ih0 _ _ _
   | exact LeO.none _
   | refine LeO.ite ?_ ?_
   | refine LeO.bind ?_ (fun _ => ?_)
set_option maxHeartbeats 8000000 in
set_option maxRecDepth 100000 in
theorem laws_toContextS.calls (k : Nat) (A0 : Option Addr) (c0 : Nat) (l0 : List (S82)) (r : List (S80)) (w : World) (hr0 : Kd.C k82 w A0 l0.length l0) (hc0 : l0.length ≤ c0) (h : laws_toContextS.f k l0 = some r) :
  Calls Try.prog 31 #[.slice A0 l0.length c0] w fun e w' => ∃ v0_ : Value, e = .returned (v0_) ∧ Kd.R k80 80 w' w.heap.size (fun _ => True) v0_ r ∧ Below w.heap.size w w' := by
 (have hu82 := Try.underlying82); (have hu80 := Try.underlying80); (have HR0 := Aside0.mk hr0); (have HC0 := Aside0.mk hc0); clear hr0 hc0; (have HB := Aside0.mk (Below.refl w.heap.size w)); (have H : (if 0 ≤ (l0.length : Int) then (if ((l0.length : Int) : Int).toNat ≤ 17592186044416 then (laws_toContextS.l0 k l0 (List.replicate ((l0.length : Int) : Int).toNat z80) 0) else (none)) else (none)) = some r := h); clear h; (by_cases c2 : 0 ≤ (l0.length : Int))
 ·rw [if_pos c2] at H
  (have c2b0 := eq_true c2); (have c2b1 : decide (0 ≤ (l0.length : Int)) = true := decide_eq_true c2); clear c2; (by_cases c3 : ((l0.length : Int) : Int).toNat ≤ 17592186044416)
  ·rw [if_pos c3] at H
   (have c3b0 := eq_true c3); (have c3b1 : decide (((l0.length : Int) : Int).toNat ≤ 17592186044416) = true := decide_eq_true c3); clear c3; (obtain ⟨y101, hy101⟩ : ∃ y_ : List (S80), y_ = (List.replicate ((l0.length : Int) : Int).toNat z80) := ⟨_, rfl⟩); (replace H : (laws_toContextS.l0 k l0 y101 0) = some r := by first | (rw [hy101]; with_reducible exact H) | (have H2_ := (Option.bind_some _ _).symm.trans H; rw [hy101]; with_reducible exact H2_) | (have H2_ := (Option.bind_some _ _).symm.trans H; with_reducible exact H2_) | with_reducible exact H | (rw [hy101]; exact H) | exact H); (have Ny101 := Aside0.mk hy101); clear hy101; (have H' := Aside0.mk H); clear H; (go_enter Try.func31, Try.ntmps31); (go_wp2_with (first | ((with_reducible refine gate_dst (N := 7) rfl ?_); refine Kd.R_make k80 _ 80 rfl (N := 7) rfl 30 _ _ rfl (l0.length : Int) rfl rfl Try.underlying30 (.agg #[(.int .i64 0), (.int .i64 0)]) 16 info80 rfl (by decide) (by omega) z80 (ok := fun _ => True) (okp := fun _ => True) (k80_mkM _ _ _ z80 ) (fun _ hk => hk) trivial (of_decide_eq_true (by first | (with_reducible assumption) | assumption)) (Nat.le_trans (Nat.mul_le_mul_right _ (of_decide_eq_true (by first | (with_reducible assumption) | assumption) : (l0.length : Int).toNat ≤ 17592186044416)) (by omega)) (Below.refl _ _) (Nat.le_refl _) ?_; intro v102 w4 ho5 hb hg_ hnew_; clear hg_ hnew_; (first | rw [← Ny101.out] at ho5 | (simp only [Int.reduceToNat] at ho5; rw [← Ny101.out] at ho5)); have n0_ := Aside0.mk (Kd.R_lower ho5 (below_size (by repeat (first | (with_reducible first | exact HB.out | apply bA | apply bN | apply bD) | exact HB.out)))); have n1_ := Aside0.mk (below_step (by repeat (first | (with_reducible first | exact HB.out | apply bA | apply bN | apply bD) | exact HB.out)) hb); clear HB; have HO103 := n0_; have HB := n1_; clear n0_ n1_; clear hb ho5))); (go_loopg [4] k (fun kq v4 w' => ∃ (x3_1 : List (S80)) (x4_1 : Int), v4 = .int .i64 x4_1 ∧ Aside0 (laws_toContextS.l0 kq l0 x3_1 x4_1 = some r) ∧ Aside0 (kq ≤ k) ∧ Aside0 (Kd.R k80 80 w' w.heap.size (fun _ => True) v102 x3_1) ∧ Aside0 (Below w.heap.size w w')))
   case atStart => exact ⟨(y101), (0), (by first | rfl | (simp; done) | (simp [*]; done)), H', ⟨Nat.le_refl _⟩, ⟨by (with_reducible repeat (first | apply Kd.R_alloc | apply Kd.R_drewN | apply Kd.R_drew)); exact HO103.out⟩, ⟨by repeat (first | (with_reducible first | exact HB.out | apply bA | apply bN | apply bD) | exact HB.out)⟩⟩
   case round =>
    (clear H'); (try clear c2); (try clear c2b0); (try clear c2b1); (try clear p2); (try clear c3); (try clear c3b0); (try clear c3b1); (obtain ⟨x3_1, x4_1, rfl, HA, HK1, HO_3, HB⟩ := hrel)
    cases gk with
    | zero => exact absurd HA.out (by simp [laws_toContextS.l0])
    | succ k1 =>
     (have H := HA.out); clear HA; (simp only [laws_toContextS.l0] at H); (by_cases c6 : x4_1 < (l0.length : Int))
     ·rw [if_pos c6] at H
      (have c6b0 : decide (x4_1 < (l0.length : Int)) = true := decide_eq_true c6); clear c6; (by_cases c7 : 0 ≤ x4_1)
      ·rw [if_pos c7] at H
       (have c7b0 : decide (0 ≤ x4_1) = true := decide_eq_true c7); clear c7; (replace H := Option.bind_eq_some_iff.mp H); (obtain ⟨⟨t105, t106⟩, A80, H⟩ := H); (replace H : (if x4_1 < (x3_1.length : Int) then (laws_toContextS.l0 k1 l0 (x3_1.set (x4_1 : Int).toNat (⟨t105, t106⟩ : S80)) (wrap64 (x4_1 + 1))) else (none)) = some r := H); (have A8 := Aside0.mk A80); clear A80; (by_cases c9 : x4_1 < (x3_1.length : Int))
       ·rw [if_pos c9] at H
        (have c9b0 : decide (x4_1 < (x3_1.length : Int)) = true := decide_eq_true c9); clear c9; (obtain ⟨y107, hy107⟩ : ∃ y_ : List (S80), y_ = (x3_1.set (x4_1 : Int).toNat (⟨t105, t106⟩ : S80)) := ⟨_, rfl⟩); (replace H : (laws_toContextS.l0 k1 l0 y107 (wrap64 (x4_1 + 1))) = some r := by first | (rw [hy107]; with_reducible exact H) | (have H2_ := (Option.bind_some _ _).symm.trans H; rw [hy107]; with_reducible exact H2_) | (have H2_ := (Option.bind_some _ _).symm.trans H; with_reducible exact H2_) | with_reducible exact H | (rw [hy107]; exact H) | exact H); (have Ny107 := Aside0.mk hy107); clear hy107; (have H' := Aside0.mk H); clear H; (have p104 : 0 ≤ (x4_1 : Int) := of_decide_eq_true (by first | (with_reducible assumption) | assumption)); (have q104 : x4_1 < (l0.length : Int) := of_decide_eq_true (by first | (with_reducible assumption) | assumption)); (obtain ⟨ad104, e104, hx104_0, hx104_1⟩ := at_T82 HR0.out x4_1 p104 q104); (cases e104); (replace hx104_0 := (HB.out.cell (bltc w _ hx104_0)).trans hx104_0); (replace hx104_1 := (HB.out.cell (bltc w _ hx104_1)).trans hx104_1); (replace p104 := eq_true p104); (replace q104 := eq_true q104); (go_wp2_with (first | ((with_reducible refine gate_callee (f := 58) rfl ?_); refine goesL_ (some 20) rfl rfl Try.func58 (by kernel_rfl) rfl #[.agg #[.int .i64 ((rd_T82 l0 x4_1).f0), .int .i64 ((rd_T82 l0 x4_1).f1)]] rfl (by (try simp only [aM1, aM2, aM3]); first | done | rfl | (simp only [List.length_drop, List.length_take]; rfl)) ?_; (with_reducible refine (laws_toContext.calls ((rd_T82 l0 x4_1).f0) ((rd_T82 l0 x4_1).f1) t105 t106 _ A8.out).mono ?_); rintro e w11 ⟨rfl, hb⟩; refine ⟨_, rfl, ?_⟩; have n0_ := Aside0.mk (Kd.R_below (by (with_reducible repeat (first | apply Kd.R_alloc | apply Kd.R_drewN | apply Kd.R_drew)); exact HO_3.out) hb); have n1_ := Aside0.mk (below_step (by repeat (first | (with_reducible first | exact HB.out | apply bA | apply bN | apply bD) | exact HB.out)) hb); clear HO_3; clear HB; have HO_3 := n0_; have HB := n1_; clear n0_ n1_; (try clear hb); (try clear hb2); (try clear hk); (try clear hi); have p10 : 0 ≤ (x4_1 : Int) := of_decide_eq_true (by first | (with_reducible assumption) | assumption); have q10 : (x4_1 : Int) < ((x3_1.length : Int) : Int) := of_decide_eq_true (by first | (with_reducible assumption) | assumption); obtain ⟨go10, co10, eo10, gb10, gl10, cl10, HG10⟩ := Kd.R_form HO_3.out (by omega); (first | cases eo10 | (injection eo10 with ea_ en_ ec_; (first | subst ea_ | (injection ea_ with ea_; subst ea_)); subst ec_; clear en_)); have GB10 := Aside0.mk gb10; have GG10 := Aside0.mk HG10; clear gb10 gl10 HG10; obtain ⟨ce10, hcl10, hM10, hcc10, hfr10⟩ := Kd.R_elem HO_3.out z80 (x4_1 : Int) p10 q10; obtain rfl := k80_openM hM10; have hx10_0 : w11.cell? ⟨go10, (x4_1 : Int).toNat * 2, none⟩ = some (.int .i64 ((rd_T80 x3_1 x4_1).f0)) := hcc10 0 _ rfl; have hx10_1 : w11.cell? ⟨go10, (x4_1 : Int).toNat * 2 + 1, none⟩ = some (.int .i64 ((rd_T80 x3_1 x4_1).f1)) := hcc10 1 _ rfl; have hf10_0 : w11.frozen? ⟨go10, (x4_1 : Int).toNat * 2, none⟩ = false := hfr10 0; have hf10_1 : w11.frozen? ⟨go10, (x4_1 : Int).toNat * 2 + 1, none⟩ = false := hfr10 1; clear hcl10 hcc10 hfr10 hM10; replace p10 := eq_true p10; replace q10 := eq_true q10; have HX12 := Aside0.mk (show Kd.R k80 80 w11 w.heap.size (fun _ => True) (.slice (some ⟨go10, 0, none⟩) x3_1.length co10) x3_1 from (by (with_reducible repeat (first | apply Kd.R_alloc | apply Kd.R_drewN | apply Kd.R_drew)); exact HO_3.out)); obtain ⟨ce12, hcl12, hM12, hcc12, hfr12⟩ := Kd.R_elem HX12.out z80 (x4_1 : Int) (of_decide_eq_true (by first | (with_reducible assumption) | assumption)) (by have h_ : (x4_1 : Int) < ((x3_1.length : Int) : Int) := of_decide_eq_true (by first | (with_reducible assumption) | assumption); first | exact h_ | (have e_ := (Kd.R_reads' HO_3.out).1; omega) | simpa using h_); obtain rfl := k80_openM hM12; have HP12 := Kd.R_seg HX12.out (x4_1 : Int) (of_decide_eq_true (by first | (with_reducible assumption) | assumption)) (by have h_ : (x4_1 : Int) < ((x3_1.length : Int) : Int) := of_decide_eq_true (by first | (with_reducible assumption) | assumption); first | exact h_ | (have e_ := (Kd.R_reads' HO_3.out).1; omega) | simpa using h_) (seg := [.int .i64 t105, .int .i64 t106]) (j := 0) hcl12 hcc12 (show 2 ≤ 2 from by decide) (x' := (⟨t105, t106⟩ : S80)) (k80_mkM _ _ _ (⟨t105, t106⟩ : S80) ) (fun _ hk => hk); have hx12_0 := hcc12 0 _ rfl; (try simp only [show (k80).sz = 2 from rfl, Nat.mul_one, Nat.add_zero] at hx12_0); have hf12_0 := hfr12 0; (try simp only [show (k80).sz = 2 from rfl, Nat.mul_one, Nat.add_zero] at hf12_0); have hx12_1 := hcc12 1 _ rfl; (try simp only [show (k80).sz = 2 from rfl, Nat.mul_one, Nat.add_zero] at hx12_1); have hf12_1 := hfr12 1; (try simp only [show (k80).sz = 2 from rfl, Nat.mul_one, Nat.add_zero] at hf12_1); clear hcl12 hcc12 hfr12 hM12) | ((with_reducible refine gate_store (t := 80) (p := 21) rfl ?_); refine store_event (t := 80) (p := 21) (v := ?vo_w13) (w1 := ((w11.setCell ⟨go10, (x4_1 : Int).toNat * 2, none⟩ (.int .i64 t105)).setCell ⟨go10, (x4_1 : Int).toNat * 2 + 1, none⟩ (.int .i64 t106))) ?hg ?ho ?hn ?hr ?_; (case ho => rfl); (case hg => rfl); (case hn => rfl); (case hr => first | (go_simp; done) | (go_simp; rfl)); intro w13 hw; have hg : w11.grownBy w13 (some go10) := (by rw [hw]; exact HP12.2); have hp_ : Kd.R k80 80 w13 w.heap.size (fun _ => True) (.slice (some ⟨go10, 0, none⟩) x3_1.length co10) y107 := (by rw [hw, Ny107.out]; exact HP12.1); clear HP12; have n0_ := Aside0.mk (hp_); have n1_ := Aside0.mk ((by rw [hw]; exact below_set (below_set (HB.out) GB10.out) GB10.out : Below w.heap.size w w13)); clear HO_3; clear HB; have HO_3 := n0_; have HB := n1_; clear n0_ n1_; clear hg hw hp_))); go_roundg k1
        case measure => have := HK1.out; omega
        case rel => exact ⟨(y107), (wrap64 (x4_1 + 1)), (by first | rfl | (simp; done) | (simp [*]; done)), H', ⟨by have := HK1.out; omega⟩, ⟨by (with_reducible repeat (first | apply Kd.R_alloc | apply Kd.R_drewN | apply Kd.R_drew)); exact HO_3.out⟩, ⟨by repeat (first | (with_reducible first | exact HB.out | apply bA | apply bN | apply bD) | exact HB.out)⟩⟩
       ·rw [if_neg c9] at H
        exact absurd H (by simp)
      ·rw [if_neg c7] at H
       exact absurd H (by simp)
     ·rw [if_neg c6] at H
      (have c6b0 : decide (x4_1 < (l0.length : Int)) = false := decide_eq_false c6); clear c6; (obtain rfl := Option.some.inj H); (go_wp2); go_ret; (exact ⟨_, by first | rfl | (simp [errW_none, errW_some] <;> rfl) | (simp [*, errW_none, errW_some] <;> rfl), by (with_reducible repeat (first | apply Kd.R_alloc | apply Kd.R_drewN | apply Kd.R_drew)); exact HO_3.out, by repeat (first | (with_reducible first | exact HB.out | apply bA | apply bN | apply bD) | exact HB.out)⟩)
  ·rw [if_neg c3] at H
   exact absurd H (by simp)
 ·rw [if_neg c2] at H
  exact absurd H (by simp)

end Go.Proofs.Ytfkbfeghfpaopaa.X
namespace Go.Proofs.Ytfkbfeghfpaopaa.X
open Go.RowKit Go.Proofs.YtfkbfeghfpaopaaW.PrintWords Go.Proofs.YtfkbfeghfpaopaaW.PrintLast Go.Proofs.YtfkbfeghfpaopaaW.PrintMore
attribute [local go_sem] max2_int min2_int max_two min_two max_three min_three max_four min_four   -- for this text's walks alone
set_option linter.unusedVariables false
set_option linter.unusedSimpArgs false
attribute [-simp] ByteArray.size_append ByteArray.size_extract
attribute [-go_sem] ByteArray.size_append'

/-! ### laws_toRelation: function 59 -/
def laws_toRelation.f (a0_0 : Int) (a0_1 : Int) : Option (Int × Int) := some (a0_0, a0_1)
set_option maxHeartbeats 8000000 in
set_option maxRecDepth 100000 in
theorem laws_toRelation.calls (a0_0 : Int) (a0_1 : Int) (r1 : Int) (r2 : Int) (w : World) (h : laws_toRelation.f a0_0 a0_1 = some (r1, r2)) :
  Calls Try.prog 59 #[.agg #[.int .i64 a0_0, .int .i64 a0_1]] w fun e w' => e = .returned (.agg #[.int .i64 r1, .int .i64 r2]) ∧ Below w.heap.size w w' := by
 (have hu86 := Try.underlying86); (have hu84 := Try.underlying84); (have HB := Aside0.mk (Below.refl w.heap.size w)); (have H : (some (a0_0, a0_1)) = some (r1, r2) := h); clear h; (simp only [Option.some.injEq, Prod.mk.injEq] at H); (obtain ⟨rfl, rfl⟩ := H); (go_enter Try.func59, Try.ntmps59)
 go_wp2_with (first | ((with_reducible refine gate_dst (N := 1) rfl ?_); refine box_event ?hg (N := 1) ?hd (cs := #[.int .i64 a0_0, .int .i64 a0_1]) (t := 86) ?hr ?_; (case hd => rfl); (case hg => rfl); (case hr => first | (go_simp; done) | (go_simp; rfl)); intro gb101 hg w2 hbox hb; have n0_ := Aside0.mk (below_step (by repeat (first | (with_reducible first | exact HB.out | apply bA | apply bN | apply bD) | exact HB.out)) hb); have n1_ := Aside0.mk (hbox); have n2_ := Aside0.mk ((by rw [hg]; exact (below_size (by repeat (first | (with_reducible first | exact HB.out | apply bA | apply bN | apply bD) | exact HB.out))) : w.heap.size ≤ gb101)); have n3_ := Aside0.mk ((by rw [hg]; exact (below_size (by repeat (first | (with_reducible first | exact HB.out | apply bA | apply bN | apply bD) | exact HB.out))) : w.heap.size ≤ gb101)); clear HB; have HB := n0_; have BK101 := n1_; have GW101 := n2_; have GE101 := n3_; clear n0_ n1_ n2_ n3_; clear hb hbox hg) | ((with_reducible refine gate_dst (N := 2) rfl ?_); refine box_event ?hg (N := 2) ?hd (cs := #[.int .i64 0, .int .i64 0]) (t := 84) ?hr ?_; (case hd => rfl); (case hg => rfl); (case hr => first | (go_simp; done) | (go_simp; rfl)); intro gb102 hg w3 hbox hb; have n0_ := Aside0.mk (blk_below (g := gb101) (o := .cells #[.int .i64 a0_0, .int .i64 a0_1] 86 (0, 0)) (by (with_reducible repeat (first | refine kN ?_ _ | refine kD ?_ | refine kA ?_ _)); exact BK101.out) hb); have n1_ := Aside0.mk (below_step (by repeat (first | (with_reducible first | exact HB.out | apply bA | apply bN | apply bD | refine below_set ?_ GE101.out) | exact HB.out)) hb); have n2_ := Aside0.mk (hbox); have n3_ := Aside0.mk ((by rw [hg]; exact (below_size (by repeat (first | (with_reducible first | exact HB.out | apply bA | apply bN | apply bD | refine below_set ?_ GE101.out) | exact HB.out))) : w.heap.size ≤ gb102)); have n4_ := Aside0.mk ((by rw [hg]; exact (below_size (by repeat (first | (with_reducible first | exact HB.out | apply bA | apply bN | apply bD | refine below_set ?_ GE101.out) | exact HB.out))) : w.heap.size ≤ gb102)); have n5_ := Aside0.mk ((by rw [hg]; exact Nat.ne_of_lt (blk_lt (g := gb101) (o := .cells #[.int .i64 a0_0, .int .i64 a0_1] 86 (0, 0)) (by (with_reducible repeat (first | refine kN ?_ _ | refine kD ?_ | refine kA ?_ _)); exact BK101.out)) : gb101 ≠ gb102)); have n6_ := Aside0.mk ((by rw [hg]; exact Nat.ne_of_gt (blk_lt (g := gb101) (o := .cells #[.int .i64 a0_0, .int .i64 a0_1] 86 (0, 0)) (by (with_reducible repeat (first | refine kN ?_ _ | refine kD ?_ | refine kA ?_ _)); exact BK101.out)) : gb102 ≠ gb101)); clear BK101; clear HB; have BK101 := n0_; have HB := n1_; have BK102 := n2_; have GW102 := n3_; have GE102 := n4_; have NB101_102 := n5_; have NB102_101 := n6_; clear n0_ n1_ n2_ n3_ n4_ n5_ n6_; clear hb hbox hg) | ((with_reducible refine gate_dst (N := 3) rfl ?_); refine box_event ?hg (N := 3) ?hd (cs := #[.int .i64 0, .int .i64 0]) (t := 84) ?hr ?_; (case hd => rfl); (case hg => rfl); (case hr => first | (go_simp; done) | (go_simp; rfl)); intro gb103 hg w4 hbox hb; have n0_ := Aside0.mk (blk_below (g := gb101) (o := .cells #[.int .i64 a0_0, .int .i64 a0_1] 86 (0, 0)) (by (with_reducible repeat (first | refine kN ?_ _ | refine kD ?_ | refine kA ?_ _)); exact BK101.out) hb); have n1_ := Aside0.mk (blk_below (g := gb102) (o := .cells #[.int .i64 0, .int .i64 0] 84 (0, 0)) (by (with_reducible repeat (first | refine kN ?_ _ | refine kD ?_ | refine kA ?_ _)); exact BK102.out) hb); have n2_ := Aside0.mk (below_step (by repeat (first | (with_reducible first | exact HB.out | apply bA | apply bN | apply bD | refine below_set ?_ GE101.out | refine below_set ?_ GE102.out) | exact HB.out)) hb); have n3_ := Aside0.mk (hbox); have n4_ := Aside0.mk ((by rw [hg]; exact (below_size (by repeat (first | (with_reducible first | exact HB.out | apply bA | apply bN | apply bD | refine below_set ?_ GE101.out | refine below_set ?_ GE102.out) | exact HB.out))) : w.heap.size ≤ gb103)); have n5_ := Aside0.mk ((by rw [hg]; exact (below_size (by repeat (first | (with_reducible first | exact HB.out | apply bA | apply bN | apply bD | refine below_set ?_ GE101.out | refine below_set ?_ GE102.out) | exact HB.out))) : w.heap.size ≤ gb103)); have n6_ := Aside0.mk ((by rw [hg]; exact Nat.ne_of_lt (blk_lt (g := gb101) (o := .cells #[.int .i64 a0_0, .int .i64 a0_1] 86 (0, 0)) (by (with_reducible repeat (first | refine kN ?_ _ | refine kD ?_ | refine kA ?_ _)); exact BK101.out)) : gb101 ≠ gb103)); have n7_ := Aside0.mk ((by rw [hg]; exact Nat.ne_of_gt (blk_lt (g := gb101) (o := .cells #[.int .i64 a0_0, .int .i64 a0_1] 86 (0, 0)) (by (with_reducible repeat (first | refine kN ?_ _ | refine kD ?_ | refine kA ?_ _)); exact BK101.out)) : gb103 ≠ gb101)); have n8_ := Aside0.mk ((by rw [hg]; exact Nat.ne_of_lt (blk_lt (g := gb102) (o := .cells #[.int .i64 0, .int .i64 0] 84 (0, 0)) (by (with_reducible repeat (first | refine kN ?_ _ | refine kD ?_ | refine kA ?_ _)); exact BK102.out)) : gb102 ≠ gb103)); have n9_ := Aside0.mk ((by rw [hg]; exact Nat.ne_of_gt (blk_lt (g := gb102) (o := .cells #[.int .i64 0, .int .i64 0] 84 (0, 0)) (by (with_reducible repeat (first | refine kN ?_ _ | refine kD ?_ | refine kA ?_ _)); exact BK102.out)) : gb103 ≠ gb102)); clear BK101; clear BK102; clear HB; have BK101 := n0_; have BK102 := n1_; have HB := n2_; have BK103 := n3_; have GW103 := n4_; have GE103 := n5_; have NB101_103 := n6_; have NB103_101 := n7_; have NB102_103 := n8_; have NB103_102 := n9_; clear n0_ n1_ n2_ n3_ n4_ n5_ n6_ n7_ n8_ n9_; clear hb hbox hg; have hnb5 := NB101_102.out; have hnc5 := NB102_101.out; have hnb6 := NB101_103.out; have hnc6 := NB103_101.out; have hcz7_0 : w4.cell? ⟨gb101, 0, none⟩ = some (.int .i64 a0_0) := (blk_cell BK101.out 0).trans rfl; have hcz7_1 : w4.cell? ⟨gb101, 1, none⟩ = some (.int .i64 a0_1) := (blk_cell BK101.out 1).trans rfl; have hfz7_0 := blk_frozen BK101.out 0; have hfz7_1 := blk_frozen BK101.out 1; have hnb8 := NB103_102.out; have hnc8 := NB102_103.out; have hcz9_0 : w4.cell? ⟨gb103, 0, none⟩ = some (.int .i64 0) := (blk_cell BK103.out 0).trans rfl; have hcz9_1 : w4.cell? ⟨gb103, 1, none⟩ = some (.int .i64 0) := (blk_cell BK103.out 1).trans rfl; have hfz9_0 := blk_frozen BK103.out 0; have hfz9_1 := blk_frozen BK103.out 1; have hcz10_0 : w4.cell? ⟨gb102, 0, none⟩ = some (.int .i64 0) := (blk_cell BK102.out 0).trans rfl; have hcz10_1 : w4.cell? ⟨gb102, 1, none⟩ = some (.int .i64 0) := (blk_cell BK102.out 1).trans rfl; have hfz10_0 := blk_frozen BK102.out 0; have hfz10_1 := blk_frozen BK102.out 1))
 (refine bodyPost_ret (results_cell_row rfl _ _ gb102 84 #[.int .i64 a0_0, .int .i64 a0_1] (0, 0) _ rfl (by (with_reducible repeat (first | refine kN ?_ _ | refine kD ?_ | refine kA ?_ _)); refine blk_put (cs := #[.int .i64 a0_0, .int .i64 0]) ?_ 1 _ rfl; (with_reducible repeat (first | refine kN ?_ _ | refine kD ?_ | refine kA ?_ _)); refine blk_put (cs := #[.int .i64 0, .int .i64 0]) ?_ 0 _ rfl; (with_reducible repeat (first | refine kN ?_ _ | refine kD ?_ | refine kA ?_ _)); refine blk_far ?_ NB102_103.out _; (with_reducible repeat (first | refine kN ?_ _ | refine kD ?_ | refine kA ?_ _)); refine blk_far ?_ NB102_103.out _; (with_reducible repeat (first | refine kN ?_ _ | refine kD ?_ | refine kA ?_ _)); exact BK102.out) Try.underlying84 rfl (by kernel_rfl)) rfl ?_); (exact ⟨by first | rfl | (simp [errW_none, errW_some] <;> rfl) | (simp [*, errW_none, errW_some] <;> rfl), by repeat (first | (with_reducible first | exact HB.out | apply bA | apply bN | apply bD | refine below_set ?_ GE101.out | refine below_set ?_ GE102.out | refine below_set ?_ GE103.out) | exact HB.out)⟩)

end Go.Proofs.Ytfkbfeghfpaopaa.X
namespace Go.Proofs.Ytfkbfeghfpaopaa.X
open Go.RowKit Go.Proofs.YtfkbfeghfpaopaaW.PrintWords Go.Proofs.YtfkbfeghfpaopaaW.PrintLast Go.Proofs.YtfkbfeghfpaopaaW.PrintMore
attribute [local go_sem] max2_int min2_int max_two min_two max_three min_three max_four min_four   -- for this text's walks alone
set_option linter.unusedVariables false
set_option linter.unusedSimpArgs false
attribute [-simp] ByteArray.size_append ByteArray.size_extract
attribute [-go_sem] ByteArray.size_append'

/-! ### laws_toRelationS: function 32 -/
def laws_toRelationS.l0 : Nat → List (S86) → List (S84) → Int → Option ((List (S84)))
 | 0, _, _, _ => none
 | k + 1, x0, x3, x4 => if x4 < (x0.length : Int) then (if 0 ≤ x4 then ((laws_toRelation.f ((rd_T86 x0 x4).f0) ((rd_T86 x0 x4).f1)).bind fun bt105 => (if x4 < (x3.length : Int) then (laws_toRelationS.l0 k x0 (x3.set (x4 : Int).toNat (⟨bt105.1, bt105.2⟩ : S84)) (wrap64 (x4 + 1))) else (none))) else (none)) else (some x3)
def laws_toRelationS.f (k : Nat) (l0 : List (S86)) : Option ((List (S84))) := if 0 ≤ (l0.length : Int) then (if ((l0.length : Int) : Int).toNat ≤ 17592186044416 then (laws_toRelationS.l0 k l0 (List.replicate ((l0.length : Int) : Int).toNat z84) 0) else (none)) else (none)
theorem laws_toRelationS.mono_l : ∀ k, (∀ y0 y1 y2, LeO (laws_toRelationS.l0 k y0 y1 y2) (laws_toRelationS.l0 (k + 1) y0 y1 y2))
 | 0 => fun _ _ _ r h => by simp [laws_toRelationS.l0] at h
 | k + 1 => by
  have ih0 := laws_toRelationS.mono_l k
  ·intro y0 y1 y2
   unfold laws_toRelationS.l0
   repeat' first
   | (with_reducible exact ih0 _ _ _)
   | (with_reducible exact LeO.refl _)
   | (with_reducible exact LeO.none _)
   | (with_reducible refine LeO.ite ?_ ?_)
   | (with_reducible refine LeO.bind ?_ (fun _ => ?_))
   | exact ih0 _ _ _
   | exact LeO.none _
   | refine LeO.ite ?_ ?_
   | refine LeO.bind ?_ (fun _ => ?_)
theorem laws_toRelationS.mono : ∀ a0 k, LeO (laws_toRelationS.f k a0) (laws_toRelationS.f (k + 1) a0) := by
 intro a0 k; (have ih0 := laws_toRelationS.mono_l k); (unfold laws_toRelationS.f)
 repeat' first
   | (with_reducible exact ih0 _ _ _)
   | (with_reducible exact LeO.refl _)
   | (with_reducible exact LeO.none _)
   | (with_reducible refine LeO.ite ?_ ?_)
   | (with_reducible refine LeO.bind ?_ (fun _ => ?_))
   | exact ih0 _ _ _
   | exact LeO.none _
   | refine LeO.ite ?_ ?_
   | refine LeO.bind ?_ (fun _ => ?_)
set_option maxHeartbeats 8000000 in
set_option maxRecDepth 100000 in
theorem laws_toRelationS.calls (k : Nat) (A0 : Option Addr) (c0 : Nat) (l0 : List (S86)) (r : List (S84)) (w : World) (hr0 : Kd.C k86 w A0 l0.length l0) (hc0 : l0.length ≤ c0) (h : laws_toRelationS.f k l0 = some r) :
  Calls Try.prog 32 #[.slice A0 l0.length c0] w fun e w' => ∃ v0_ : Value, e = .returned (v0_) ∧ Kd.R k84 84 w' w.heap.size (fun _ => True) v0_ r ∧ Below w.heap.size w w' := by
 (have hu86 := Try.underlying86); (have hu84 := Try.underlying84); (have HR0 := Aside0.mk hr0); (have HC0 := Aside0.mk hc0); clear hr0 hc0; (have HB := Aside0.mk (Below.refl w.heap.size w)); (have H : (if 0 ≤ (l0.length : Int) then (if ((l0.length : Int) : Int).toNat ≤ 17592186044416 then (laws_toRelationS.l0 k l0 (List.replicate ((l0.length : Int) : Int).toNat z84) 0) else (none)) else (none)) = some r := h); clear h; (by_cases c2 : 0 ≤ (l0.length : Int))
 ·rw [if_pos c2] at H
  (have c2b0 := eq_true c2); (have c2b1 : decide (0 ≤ (l0.length : Int)) = true := decide_eq_true c2); clear c2; (by_cases c3 : ((l0.length : Int) : Int).toNat ≤ 17592186044416)
  ·rw [if_pos c3] at H
   (have c3b0 := eq_true c3); (have c3b1 : decide (((l0.length : Int) : Int).toNat ≤ 17592186044416) = true := decide_eq_true c3); clear c3; (obtain ⟨y101, hy101⟩ : ∃ y_ : List (S84), y_ = (List.replicate ((l0.length : Int) : Int).toNat z84) := ⟨_, rfl⟩); (replace H : (laws_toRelationS.l0 k l0 y101 0) = some r := by first | (rw [hy101]; with_reducible exact H) | (have H2_ := (Option.bind_some _ _).symm.trans H; rw [hy101]; with_reducible exact H2_) | (have H2_ := (Option.bind_some _ _).symm.trans H; with_reducible exact H2_) | with_reducible exact H | (rw [hy101]; exact H) | exact H); (have Ny101 := Aside0.mk hy101); clear hy101; (have H' := Aside0.mk H); clear H; (go_enter Try.func32, Try.ntmps32); (go_wp2_with (first | ((with_reducible refine gate_dst (N := 7) rfl ?_); refine Kd.R_make k84 _ 84 rfl (N := 7) rfl 31 _ _ rfl (l0.length : Int) rfl rfl Try.underlying31 (.agg #[(.int .i64 0), (.int .i64 0)]) 16 info84 rfl (by decide) (by omega) z84 (ok := fun _ => True) (okp := fun _ => True) (k84_mkM _ _ _ z84 ) (fun _ hk => hk) trivial (of_decide_eq_true (by first | (with_reducible assumption) | assumption)) (Nat.le_trans (Nat.mul_le_mul_right _ (of_decide_eq_true (by first | (with_reducible assumption) | assumption) : (l0.length : Int).toNat ≤ 17592186044416)) (by omega)) (Below.refl _ _) (Nat.le_refl _) ?_; intro v102 w4 ho5 hb hg_ hnew_; clear hg_ hnew_; (first | rw [← Ny101.out] at ho5 | (simp only [Int.reduceToNat] at ho5; rw [← Ny101.out] at ho5)); have n0_ := Aside0.mk (Kd.R_lower ho5 (below_size (by repeat (first | (with_reducible first | exact HB.out | apply bA | apply bN | apply bD) | exact HB.out)))); have n1_ := Aside0.mk (below_step (by repeat (first | (with_reducible first | exact HB.out | apply bA | apply bN | apply bD) | exact HB.out)) hb); clear HB; have HO103 := n0_; have HB := n1_; clear n0_ n1_; clear hb ho5))); (go_loopg [4] k (fun kq v4 w' => ∃ (x3_1 : List (S84)) (x4_1 : Int), v4 = .int .i64 x4_1 ∧ Aside0 (laws_toRelationS.l0 kq l0 x3_1 x4_1 = some r) ∧ Aside0 (kq ≤ k) ∧ Aside0 (Kd.R k84 84 w' w.heap.size (fun _ => True) v102 x3_1) ∧ Aside0 (Below w.heap.size w w')))
   case atStart => exact ⟨(y101), (0), (by first | rfl | (simp; done) | (simp [*]; done)), H', ⟨Nat.le_refl _⟩, ⟨by (with_reducible repeat (first | apply Kd.R_alloc | apply Kd.R_drewN | apply Kd.R_drew)); exact HO103.out⟩, ⟨by repeat (first | (with_reducible first | exact HB.out | apply bA | apply bN | apply bD) | exact HB.out)⟩⟩
   case round =>
    (clear H'); (try clear c2); (try clear c2b0); (try clear c2b1); (try clear p2); (try clear c3); (try clear c3b0); (try clear c3b1); (obtain ⟨x3_1, x4_1, rfl, HA, HK1, HO_3, HB⟩ := hrel)
    cases gk with
    | zero => exact absurd HA.out (by simp [laws_toRelationS.l0])
    | succ k1 =>
     (have H := HA.out); clear HA; (simp only [laws_toRelationS.l0] at H); (by_cases c6 : x4_1 < (l0.length : Int))
     ·rw [if_pos c6] at H
      (have c6b0 : decide (x4_1 < (l0.length : Int)) = true := decide_eq_true c6); clear c6; (by_cases c7 : 0 ≤ x4_1)
      ·rw [if_pos c7] at H
       (have c7b0 : decide (0 ≤ x4_1) = true := decide_eq_true c7); clear c7; (replace H := Option.bind_eq_some_iff.mp H); (obtain ⟨⟨t105, t106⟩, A80, H⟩ := H); (replace H : (if x4_1 < (x3_1.length : Int) then (laws_toRelationS.l0 k1 l0 (x3_1.set (x4_1 : Int).toNat (⟨t105, t106⟩ : S84)) (wrap64 (x4_1 + 1))) else (none)) = some r := H); (have A8 := Aside0.mk A80); clear A80; (by_cases c9 : x4_1 < (x3_1.length : Int))
       ·rw [if_pos c9] at H
        (have c9b0 : decide (x4_1 < (x3_1.length : Int)) = true := decide_eq_true c9); clear c9; (obtain ⟨y107, hy107⟩ : ∃ y_ : List (S84), y_ = (x3_1.set (x4_1 : Int).toNat (⟨t105, t106⟩ : S84)) := ⟨_, rfl⟩); (replace H : (laws_toRelationS.l0 k1 l0 y107 (wrap64 (x4_1 + 1))) = some r := by first | (rw [hy107]; with_reducible exact H) | (have H2_ := (Option.bind_some _ _).symm.trans H; rw [hy107]; with_reducible exact H2_) | (have H2_ := (Option.bind_some _ _).symm.trans H; with_reducible exact H2_) | with_reducible exact H | (rw [hy107]; exact H) | exact H); (have Ny107 := Aside0.mk hy107); clear hy107; (have H' := Aside0.mk H); clear H; (have p104 : 0 ≤ (x4_1 : Int) := of_decide_eq_true (by first | (with_reducible assumption) | assumption)); (have q104 : x4_1 < (l0.length : Int) := of_decide_eq_true (by first | (with_reducible assumption) | assumption)); (obtain ⟨ad104, e104, hx104_0, hx104_1⟩ := at_T86 HR0.out x4_1 p104 q104); (cases e104); (replace hx104_0 := (HB.out.cell (bltc w _ hx104_0)).trans hx104_0); (replace hx104_1 := (HB.out.cell (bltc w _ hx104_1)).trans hx104_1); (replace p104 := eq_true p104); (replace q104 := eq_true q104); (go_wp2_with (first | ((with_reducible refine gate_callee (f := 59) rfl ?_); refine goesL_ (some 20) rfl rfl Try.func59 (by kernel_rfl) rfl #[.agg #[.int .i64 ((rd_T86 l0 x4_1).f0), .int .i64 ((rd_T86 l0 x4_1).f1)]] rfl (by (try simp only [aM1, aM2, aM3]); first | done | rfl | (simp only [List.length_drop, List.length_take]; rfl)) ?_; (with_reducible refine (laws_toRelation.calls ((rd_T86 l0 x4_1).f0) ((rd_T86 l0 x4_1).f1) t105 t106 _ A8.out).mono ?_); rintro e w11 ⟨rfl, hb⟩; refine ⟨_, rfl, ?_⟩; have n0_ := Aside0.mk (Kd.R_below (by (with_reducible repeat (first | apply Kd.R_alloc | apply Kd.R_drewN | apply Kd.R_drew)); exact HO_3.out) hb); have n1_ := Aside0.mk (below_step (by repeat (first | (with_reducible first | exact HB.out | apply bA | apply bN | apply bD) | exact HB.out)) hb); clear HO_3; clear HB; have HO_3 := n0_; have HB := n1_; clear n0_ n1_; (try clear hb); (try clear hb2); (try clear hk); (try clear hi); have p10 : 0 ≤ (x4_1 : Int) := of_decide_eq_true (by first | (with_reducible assumption) | assumption); have q10 : (x4_1 : Int) < ((x3_1.length : Int) : Int) := of_decide_eq_true (by first | (with_reducible assumption) | assumption); obtain ⟨go10, co10, eo10, gb10, gl10, cl10, HG10⟩ := Kd.R_form HO_3.out (by omega); (first | cases eo10 | (injection eo10 with ea_ en_ ec_; (first | subst ea_ | (injection ea_ with ea_; subst ea_)); subst ec_; clear en_)); have GB10 := Aside0.mk gb10; have GG10 := Aside0.mk HG10; clear gb10 gl10 HG10; obtain ⟨ce10, hcl10, hM10, hcc10, hfr10⟩ := Kd.R_elem HO_3.out z84 (x4_1 : Int) p10 q10; obtain rfl := k84_openM hM10; have hx10_0 : w11.cell? ⟨go10, (x4_1 : Int).toNat * 2, none⟩ = some (.int .i64 ((rd_T84 x3_1 x4_1).f0)) := hcc10 0 _ rfl; have hx10_1 : w11.cell? ⟨go10, (x4_1 : Int).toNat * 2 + 1, none⟩ = some (.int .i64 ((rd_T84 x3_1 x4_1).f1)) := hcc10 1 _ rfl; have hf10_0 : w11.frozen? ⟨go10, (x4_1 : Int).toNat * 2, none⟩ = false := hfr10 0; have hf10_1 : w11.frozen? ⟨go10, (x4_1 : Int).toNat * 2 + 1, none⟩ = false := hfr10 1; clear hcl10 hcc10 hfr10 hM10; replace p10 := eq_true p10; replace q10 := eq_true q10; have HX12 := Aside0.mk (show Kd.R k84 84 w11 w.heap.size (fun _ => True) (.slice (some ⟨go10, 0, none⟩) x3_1.length co10) x3_1 from (by (with_reducible repeat (first | apply Kd.R_alloc | apply Kd.R_drewN | apply Kd.R_drew)); exact HO_3.out)); obtain ⟨ce12, hcl12, hM12, hcc12, hfr12⟩ := Kd.R_elem HX12.out z84 (x4_1 : Int) (of_decide_eq_true (by first | (with_reducible assumption) | assumption)) (by have h_ : (x4_1 : Int) < ((x3_1.length : Int) : Int) := of_decide_eq_true (by first | (with_reducible assumption) | assumption); first | exact h_ | (have e_ := (Kd.R_reads' HO_3.out).1; omega) | simpa using h_); obtain rfl := k84_openM hM12; have HP12 := Kd.R_seg HX12.out (x4_1 : Int) (of_decide_eq_true (by first | (with_reducible assumption) | assumption)) (by have h_ : (x4_1 : Int) < ((x3_1.length : Int) : Int) := of_decide_eq_true (by first | (with_reducible assumption) | assumption); first | exact h_ | (have e_ := (Kd.R_reads' HO_3.out).1; omega) | simpa using h_) (seg := [.int .i64 t105, .int .i64 t106]) (j := 0) hcl12 hcc12 (show 2 ≤ 2 from by decide) (x' := (⟨t105, t106⟩ : S84)) (k84_mkM _ _ _ (⟨t105, t106⟩ : S84) ) (fun _ hk => hk); have hx12_0 := hcc12 0 _ rfl; (try simp only [show (k84).sz = 2 from rfl, Nat.mul_one, Nat.add_zero] at hx12_0); have hf12_0 := hfr12 0; (try simp only [show (k84).sz = 2 from rfl, Nat.mul_one, Nat.add_zero] at hf12_0); have hx12_1 := hcc12 1 _ rfl; (try simp only [show (k84).sz = 2 from rfl, Nat.mul_one, Nat.add_zero] at hx12_1); have hf12_1 := hfr12 1; (try simp only [show (k84).sz = 2 from rfl, Nat.mul_one, Nat.add_zero] at hf12_1); clear hcl12 hcc12 hfr12 hM12) | ((with_reducible refine gate_store (t := 84) (p := 21) rfl ?_); refine store_event (t := 84) (p := 21) (v := ?vo_w13) (w1 := ((w11.setCell ⟨go10, (x4_1 : Int).toNat * 2, none⟩ (.int .i64 t105)).setCell ⟨go10, (x4_1 : Int).toNat * 2 + 1, none⟩ (.int .i64 t106))) ?hg ?ho ?hn ?hr ?_; (case ho => rfl); (case hg => rfl); (case hn => rfl); (case hr => first | (go_simp; done) | (go_simp; rfl)); intro w13 hw; have hg : w11.grownBy w13 (some go10) := (by rw [hw]; exact HP12.2); have hp_ : Kd.R k84 84 w13 w.heap.size (fun _ => True) (.slice (some ⟨go10, 0, none⟩) x3_1.length co10) y107 := (by rw [hw, Ny107.out]; exact HP12.1); clear HP12; have n0_ := Aside0.mk (hp_); have n1_ := Aside0.mk ((by rw [hw]; exact below_set (below_set (HB.out) GB10.out) GB10.out : Below w.heap.size w w13)); clear HO_3; clear HB; have HO_3 := n0_; have HB := n1_; clear n0_ n1_; clear hg hw hp_))); go_roundg k1
        case measure => have := HK1.out; omega
        case rel => exact ⟨(y107), (wrap64 (x4_1 + 1)), (by first | rfl | (simp; done) | (simp [*]; done)), H', ⟨by have := HK1.out; omega⟩, ⟨by (with_reducible repeat (first | apply Kd.R_alloc | apply Kd.R_drewN | apply Kd.R_drew)); exact HO_3.out⟩, ⟨by repeat (first | (with_reducible first | exact HB.out | apply bA | apply bN | apply bD) | exact HB.out)⟩⟩
       ·rw [if_neg c9] at H
        exact absurd H (by simp)
      ·rw [if_neg c7] at H
       exact absurd H (by simp)
     ·rw [if_neg c6] at H
      (have c6b0 : decide (x4_1 < (l0.length : Int)) = false := decide_eq_false c6); clear c6; (obtain rfl := Option.some.inj H); (go_wp2); go_ret; (exact ⟨_, by first | rfl | (simp [errW_none, errW_some] <;> rfl) | (simp [*, errW_none, errW_some] <;> rfl), by (with_reducible repeat (first | apply Kd.R_alloc | apply Kd.R_drewN | apply Kd.R_drew)); exact HO_3.out, by repeat (first | (with_reducible first | exact HB.out | apply bA | apply bN | apply bD) | exact HB.out)⟩)
  ·rw [if_neg c3] at H
   exact absurd H (by simp)
 ·rw [if_neg c2] at H
  exact absurd H (by simp)

end Go.Proofs.Ytfkbfeghfpaopaa.X
namespace Go.Proofs.Ytfkbfeghfpaopaa.X
open Go.RowKit Go.Proofs.YtfkbfeghfpaopaaW.PrintWords Go.Proofs.YtfkbfeghfpaopaaW.PrintLast Go.Proofs.YtfkbfeghfpaopaaW.PrintMore
attribute [local go_sem] max2_int min2_int max_two min_two max_three min_three max_four min_four   -- for this text's walks alone
set_option linter.unusedVariables false
set_option linter.unusedSimpArgs false
attribute [-simp] ByteArray.size_append ByteArray.size_extract
attribute [-go_sem] ByteArray.size_append'

/-! ### laws_toRecord: function 9 -/
def laws_toRecord.f (k : Nat) (l0_0 : List (S82)) (l0_1 : List (S86)) : Option ((List (S80)) × (List (S84))) := (laws_toContextS.f k l0_0).bind fun t104 => ((laws_toRelationS.f k l0_1).bind fun t107 => (some (t104, t107)))
theorem laws_toRecord.mono : ∀ a0 a1 k, LeO (laws_toRecord.f k a0 a1) (laws_toRecord.f (k + 1) a0 a1) := by
 intro a0 a1 k; (unfold laws_toRecord.f)
 repeat' first
   | (with_reducible exact laws_toContextS.mono _ _)
   | (with_reducible exact laws_toRelationS.mono _ _)
   | (with_reducible exact LeO.refl _)
   | (with_reducible exact LeO.none _)
   | (with_reducible refine LeO.ite ?_ ?_)
   | (with_reducible refine LeO.bind ?_ (fun _ => ?_))
   | exact laws_toContextS.mono _ _
   | exact laws_toRelationS.mono _ _
   | exact LeO.none _
   | refine LeO.ite ?_ ?_
   | refine LeO.bind ?_ (fun _ => ?_)
set_option maxHeartbeats 8000000 in
set_option maxRecDepth 100000 in
theorem laws_toRecord.calls (k : Nat) (A0_0 : Option Addr) (c0_0 : Nat) (l0_0 : List (S82)) (A0_1 : Option Addr) (c0_1 : Nat) (l0_1 : List (S86)) (r1 : List (S80)) (r2 : List (S84)) (w : World) (hr0_0 : Kd.C k82 w A0_0 l0_0.length l0_0) (hc0_0 : l0_0.length ≤ c0_0) (hr0_1 : Kd.C k86 w A0_1 l0_1.length l0_1) (hc0_1 : l0_1.length ≤ c0_1) (h : laws_toRecord.f k l0_0 l0_1 = some (r1, r2)) :
  Calls Try.prog 9 #[.agg #[.slice A0_0 l0_0.length c0_0, .slice A0_1 l0_1.length c0_1]] w fun e w' => ∃ v0_ v1_ : Value, e = .returned (.agg #[v0_, v1_]) ∧ Kd.R k80 80 w' w.heap.size (fun _ => True) v0_ r1 ∧ Kd.R k84 84 w' w.heap.size (fun _ => True) v1_ r2 ∧ Below w.heap.size w w' := by
 (have hu25 := Try.underlying25); (have hu33 := Try.underlying33); (have HR0_0 := Aside0.mk hr0_0); (have HC0_0 := Aside0.mk hc0_0); clear hr0_0 hc0_0; (have HR0_1 := Aside0.mk hr0_1); (have HC0_1 := Aside0.mk hc0_1); clear hr0_1 hc0_1; (have HB := Aside0.mk (Below.refl w.heap.size w)); (have H : ((laws_toContextS.f k l0_0).bind fun t104 => ((laws_toRelationS.f k l0_1).bind fun t107 => (some (t104, t107)))) = some (r1, r2) := h); clear h; (replace H := Option.bind_eq_some_iff.mp H); (obtain ⟨t104, A20, H⟩ := H); (replace H : ((laws_toRelationS.f k l0_1).bind fun t107 => (some (t104, t107))) = some (r1, r2) := H); (have A2 := Aside0.mk A20); clear A20; (replace H := Option.bind_eq_some_iff.mp H); (obtain ⟨t107, A30, H⟩ := H); (replace H : (some (t104, t107)) = some (r1, r2) := H); (have A3 := Aside0.mk A30); clear A30; (simp only [Option.some.injEq, Prod.mk.injEq] at H); (obtain ⟨rfl, rfl⟩ := H); (go_enter Try.func9, Try.ntmps9)
 go_wp2_with (first | ((with_reducible refine gate_dst (N := 1) rfl ?_); refine box_event ?hg (N := 1) ?hd (cs := #[.slice A0_0 l0_0.length c0_0, .slice A0_1 l0_1.length c0_1]) (t := 25) ?hr ?_; (case hd => rfl); (case hg => rfl); (case hr => first | (go_simp; done) | (go_simp; rfl)); intro gb101 hg w4 hbox hb; have n0_ := Aside0.mk (below_step (by repeat (first | (with_reducible first | exact HB.out | apply bA | apply bN | apply bD) | exact HB.out)) hb); have n1_ := Aside0.mk (hbox); have n2_ := Aside0.mk ((by rw [hg]; exact (below_size (by repeat (first | (with_reducible first | exact HB.out | apply bA | apply bN | apply bD) | exact HB.out))) : w.heap.size ≤ gb101)); have n3_ := Aside0.mk ((by rw [hg]; exact (below_size (by repeat (first | (with_reducible first | exact HB.out | apply bA | apply bN | apply bD) | exact HB.out))) : w.heap.size ≤ gb101)); clear HB; have HB := n0_; have BK101 := n1_; have GW101 := n2_; have GE101 := n3_; clear n0_ n1_ n2_ n3_; clear hb hbox hg) | ((with_reducible refine gate_dst (N := 2) rfl ?_); refine box_event ?hg (N := 2) ?hd (cs := #[.slice none 0 0, .slice none 0 0]) (t := 33) ?hr ?_; (case hd => rfl); (case hg => rfl); (case hr => first | (go_simp; done) | (go_simp; rfl)); intro gb102 hg w5 hbox hb; have n0_ := Aside0.mk (blk_below (g := gb101) (o := .cells #[.slice A0_0 l0_0.length c0_0, .slice A0_1 l0_1.length c0_1] 25 (0, 0)) (by (with_reducible repeat (first | refine kN ?_ _ | refine kD ?_ | refine kA ?_ _)); exact BK101.out) hb); have n1_ := Aside0.mk (below_step (by repeat (first | (with_reducible first | exact HB.out | apply bA | apply bN | apply bD | refine below_set ?_ GE101.out) | exact HB.out)) hb); have n2_ := Aside0.mk (hbox); have n3_ := Aside0.mk ((by rw [hg]; exact (below_size (by repeat (first | (with_reducible first | exact HB.out | apply bA | apply bN | apply bD | refine below_set ?_ GE101.out) | exact HB.out))) : w.heap.size ≤ gb102)); have n4_ := Aside0.mk ((by rw [hg]; exact (below_size (by repeat (first | (with_reducible first | exact HB.out | apply bA | apply bN | apply bD | refine below_set ?_ GE101.out) | exact HB.out))) : w.heap.size ≤ gb102)); have n5_ := Aside0.mk ((by rw [hg]; exact Nat.ne_of_lt (blk_lt (g := gb101) (o := .cells #[.slice A0_0 l0_0.length c0_0, .slice A0_1 l0_1.length c0_1] 25 (0, 0)) (by (with_reducible repeat (first | refine kN ?_ _ | refine kD ?_ | refine kA ?_ _)); exact BK101.out)) : gb101 ≠ gb102)); have n6_ := Aside0.mk ((by rw [hg]; exact Nat.ne_of_gt (blk_lt (g := gb101) (o := .cells #[.slice A0_0 l0_0.length c0_0, .slice A0_1 l0_1.length c0_1] 25 (0, 0)) (by (with_reducible repeat (first | refine kN ?_ _ | refine kD ?_ | refine kA ?_ _)); exact BK101.out)) : gb102 ≠ gb101)); clear BK101; clear HB; have BK101 := n0_; have HB := n1_; have BK102 := n2_; have GW102 := n3_; have GE102 := n4_; have NB101_102 := n5_; have NB102_101 := n6_; clear n0_ n1_ n2_ n3_ n4_ n5_ n6_; clear hb hbox hg) | ((with_reducible refine gate_dst (N := 3) rfl ?_); refine box_event ?hg (N := 3) ?hd (cs := #[.slice none 0 0, .slice none 0 0]) (t := 33) ?hr ?_; (case hd => rfl); (case hg => rfl); (case hr => first | (go_simp; done) | (go_simp; rfl)); intro gb103 hg w6 hbox hb; have n0_ := Aside0.mk (blk_below (g := gb101) (o := .cells #[.slice A0_0 l0_0.length c0_0, .slice A0_1 l0_1.length c0_1] 25 (0, 0)) (by (with_reducible repeat (first | refine kN ?_ _ | refine kD ?_ | refine kA ?_ _)); exact BK101.out) hb); have n1_ := Aside0.mk (blk_below (g := gb102) (o := .cells #[.slice none 0 0, .slice none 0 0] 33 (0, 0)) (by (with_reducible repeat (first | refine kN ?_ _ | refine kD ?_ | refine kA ?_ _)); exact BK102.out) hb); have n2_ := Aside0.mk (below_step (by repeat (first | (with_reducible first | exact HB.out | apply bA | apply bN | apply bD | refine below_set ?_ GE101.out | refine below_set ?_ GE102.out) | exact HB.out)) hb); have n3_ := Aside0.mk (hbox); have n4_ := Aside0.mk ((by rw [hg]; exact (below_size (by repeat (first | (with_reducible first | exact HB.out | apply bA | apply bN | apply bD | refine below_set ?_ GE101.out | refine below_set ?_ GE102.out) | exact HB.out))) : w.heap.size ≤ gb103)); have n5_ := Aside0.mk ((by rw [hg]; exact (below_size (by repeat (first | (with_reducible first | exact HB.out | apply bA | apply bN | apply bD | refine below_set ?_ GE101.out | refine below_set ?_ GE102.out) | exact HB.out))) : w.heap.size ≤ gb103)); have n6_ := Aside0.mk ((by rw [hg]; exact Nat.ne_of_lt (blk_lt (g := gb101) (o := .cells #[.slice A0_0 l0_0.length c0_0, .slice A0_1 l0_1.length c0_1] 25 (0, 0)) (by (with_reducible repeat (first | refine kN ?_ _ | refine kD ?_ | refine kA ?_ _)); exact BK101.out)) : gb101 ≠ gb103)); have n7_ := Aside0.mk ((by rw [hg]; exact Nat.ne_of_gt (blk_lt (g := gb101) (o := .cells #[.slice A0_0 l0_0.length c0_0, .slice A0_1 l0_1.length c0_1] 25 (0, 0)) (by (with_reducible repeat (first | refine kN ?_ _ | refine kD ?_ | refine kA ?_ _)); exact BK101.out)) : gb103 ≠ gb101)); have n8_ := Aside0.mk ((by rw [hg]; exact Nat.ne_of_lt (blk_lt (g := gb102) (o := .cells #[.slice none 0 0, .slice none 0 0] 33 (0, 0)) (by (with_reducible repeat (first | refine kN ?_ _ | refine kD ?_ | refine kA ?_ _)); exact BK102.out)) : gb102 ≠ gb103)); have n9_ := Aside0.mk ((by rw [hg]; exact Nat.ne_of_gt (blk_lt (g := gb102) (o := .cells #[.slice none 0 0, .slice none 0 0] 33 (0, 0)) (by (with_reducible repeat (first | refine kN ?_ _ | refine kD ?_ | refine kA ?_ _)); exact BK102.out)) : gb103 ≠ gb102)); clear BK101; clear BK102; clear HB; have BK101 := n0_; have BK102 := n1_; have HB := n2_; have BK103 := n3_; have GW103 := n4_; have GE103 := n5_; have NB101_103 := n6_; have NB103_101 := n7_; have NB102_103 := n8_; have NB103_102 := n9_; clear n0_ n1_ n2_ n3_ n4_ n5_ n6_ n7_ n8_ n9_; clear hb hbox hg; have hnb7 := NB101_102.out; have hnc7 := NB102_101.out; have hnb8 := NB101_103.out; have hnc8 := NB103_101.out; have hcz9_0 : w6.cell? ⟨gb101, 0, none⟩ = some (.slice A0_0 l0_0.length c0_0) := (blk_cell BK101.out 0).trans rfl; have hcz9_1 : w6.cell? ⟨gb101, 1, none⟩ = some (.slice A0_1 l0_1.length c0_1) := (blk_cell BK101.out 1).trans rfl; have hfz9_0 := blk_frozen BK101.out 0; have hfz9_1 := blk_frozen BK101.out 1) | ((with_reducible refine gate_callee (f := 31) rfl ?_); refine goesL_ (some 6) rfl rfl Try.func31 (by kernel_rfl) rfl #[.slice A0_0 l0_0.length c0_0] rfl (by (try simp only [aM1, aM2, aM3]); first | done | rfl | (simp only [List.length_drop, List.length_take]; rfl)) ?_; (with_reducible refine (laws_toContextS.calls k _ _ l0_0 t104 _ ?side1 ?side2 A2.out).mono ?_); (case side1 => repeat (first | exact (Kd.C_below HR0_0.out HB.out) | (with_reducible refine Kd.C_alloc ?_ _) | (with_reducible refine Kd.C_drewN ?_ _) | (with_reducible refine Kd.C_drew ?_))); (case side2 => exact HC0_0.out); rintro e w10 ⟨v105, rfl, ho0, hb⟩; refine ⟨_, rfl, ?_⟩; have n0_ := Aside0.mk (Kd.R_lower ho0 (below_size (by repeat (first | (with_reducible first | exact HB.out | apply bA | apply bN | apply bD | refine below_set ?_ GE101.out | refine below_set ?_ GE102.out | refine below_set ?_ GE103.out) | exact HB.out)))); have n1_ := Aside0.mk (blk_below (g := gb101) (o := .cells #[.slice A0_0 l0_0.length c0_0, .slice A0_1 l0_1.length c0_1] 25 (0, 0)) (by (with_reducible repeat (first | refine kN ?_ _ | refine kD ?_ | refine kA ?_ _)); exact BK101.out) hb); have n2_ := Aside0.mk (blk_below (g := gb102) (o := .cells #[.slice none 0 0, .slice none 0 0] 33 (0, 0)) (by (with_reducible repeat (first | refine kN ?_ _ | refine kD ?_ | refine kA ?_ _)); exact BK102.out) hb); have n3_ := Aside0.mk (blk_below (g := gb103) (o := .cells #[.slice none 0 0, .slice none 0 0] 33 (0, 0)) (by (with_reducible repeat (first | refine kN ?_ _ | refine kD ?_ | refine kA ?_ _)); exact BK103.out) hb); have n4_ := Aside0.mk (below_step (by repeat (first | (with_reducible first | exact HB.out | apply bA | apply bN | apply bD | refine below_set ?_ GE101.out | refine below_set ?_ GE102.out | refine below_set ?_ GE103.out) | exact HB.out)) hb); clear BK101; clear BK102; clear BK103; clear HB; have HO106 := n0_; have BK101 := n1_; have BK102 := n2_; have BK103 := n3_; have HB := n4_; clear n0_ n1_ n2_ n3_ n4_; (try clear hb); (try clear hb2); (try clear hk); (try clear hi); (try clear ho0); obtain ⟨Ao11, co11, eo11⟩ := Kd.R_slice HO106.out; subst eo11; have hnb12 := NB103_102.out; have hnc12 := NB102_103.out; have hcz13_0 : w10.cell? ⟨gb103, 0, none⟩ = some (.slice none 0 0) := (blk_cell BK103.out 0).trans rfl; have hcz13_1 : w10.cell? ⟨gb103, 1, none⟩ = some (.slice none 0 0) := (blk_cell BK103.out 1).trans rfl; have hfz13_0 := blk_frozen BK103.out 0; have hfz13_1 := blk_frozen BK103.out 1; have hcz14_0 : w10.cell? ⟨gb101, 0, none⟩ = some (.slice A0_0 l0_0.length c0_0) := (blk_cell BK101.out 0).trans rfl; have hcz14_1 : w10.cell? ⟨gb101, 1, none⟩ = some (.slice A0_1 l0_1.length c0_1) := (blk_cell BK101.out 1).trans rfl; have hfz14_0 := blk_frozen BK101.out 0; have hfz14_1 := blk_frozen BK101.out 1) | ((with_reducible refine gate_callee (f := 32) rfl ?_); refine goesL_ (some 10) rfl rfl Try.func32 (by kernel_rfl) rfl #[.slice A0_1 l0_1.length c0_1] rfl (by (try simp only [aM1, aM2, aM3]); first | done | rfl | (simp only [List.length_drop, List.length_take]; rfl)) ?_; (with_reducible refine (laws_toRelationS.calls k _ _ l0_1 t107 _ ?side1 ?side2 A3.out).mono ?_); (case side1 => exact Kd.C_below HR0_1.out (by repeat (first | (with_reducible first | exact HB.out | apply bA | apply bN | apply bD | refine below_set ?_ GE101.out | refine below_set ?_ GE102.out | refine below_set ?_ GE103.out) | exact HB.out))); (case side2 => exact HC0_1.out); rintro e w15 ⟨v108, rfl, ho0, hb⟩; refine ⟨_, rfl, ?_⟩; have n0_ := Aside0.mk (Kd.R_below (by (with_reducible repeat (first | apply Kd.R_alloc | apply Kd.R_drewN | apply Kd.R_drew)); exact (Kd.R_mono (Kd.R_far (p := ⟨gb103, 0, none⟩) (Kd.R_types HO106.out BK103.out (by decide)) (fun _ hk => hk.2) (.slice Ao11 t104.length co11)) (fun _ h_ => h_.1))) hb); have n1_ := Aside0.mk (Kd.R_lower ho0 (below_size (by repeat (first | (with_reducible first | exact HB.out | apply bA | apply bN | apply bD | refine below_set ?_ GE101.out | refine below_set ?_ GE102.out | refine below_set ?_ GE103.out) | exact HB.out)))); have n2_ := Aside0.mk (blk_below (g := gb101) (o := .cells #[.slice A0_0 l0_0.length c0_0, .slice A0_1 l0_1.length c0_1] 25 (0, 0)) (by (with_reducible repeat (first | refine kN ?_ _ | refine kD ?_ | refine kA ?_ _)); refine blk_far ?_ NB101_103.out _; (with_reducible repeat (first | refine kN ?_ _ | refine kD ?_ | refine kA ?_ _)); exact BK101.out) hb); have n3_ := Aside0.mk (blk_below (g := gb102) (o := .cells #[.slice none 0 0, .slice none 0 0] 33 (0, 0)) (by (with_reducible repeat (first | refine kN ?_ _ | refine kD ?_ | refine kA ?_ _)); refine blk_far ?_ NB102_103.out _; (with_reducible repeat (first | refine kN ?_ _ | refine kD ?_ | refine kA ?_ _)); exact BK102.out) hb); have n4_ := Aside0.mk (blk_below (g := gb103) (o := .cells #[.slice Ao11 t104.length co11, .slice none 0 0] 33 (0, 0)) (by (with_reducible repeat (first | refine kN ?_ _ | refine kD ?_ | refine kA ?_ _)); refine blk_put (cs := #[.slice none 0 0, .slice none 0 0]) ?_ 0 _ rfl; (with_reducible repeat (first | refine kN ?_ _ | refine kD ?_ | refine kA ?_ _)); exact BK103.out) hb); have n5_ := Aside0.mk (below_step (by repeat (first | (with_reducible first | exact HB.out | apply bA | apply bN | apply bD | refine below_set ?_ GE101.out | refine below_set ?_ GE102.out | refine below_set ?_ GE103.out) | exact HB.out)) hb); clear HO106; clear BK101; clear BK102; clear BK103; clear HB; have HO106 := n0_; have HO109 := n1_; have BK101 := n2_; have BK102 := n3_; have BK103 := n4_; have HB := n5_; clear n0_ n1_ n2_ n3_ n4_ n5_; (try clear hb); (try clear hb2); (try clear hk); (try clear hi); (try clear ho0); obtain ⟨Ao16, co16, eo16⟩ := Kd.R_slice HO109.out; subst eo16; have hcz17_0 : w15.cell? ⟨gb103, 0, none⟩ = some (.slice Ao11 t104.length co11) := (blk_cell BK103.out 0).trans rfl; have hcz17_1 : w15.cell? ⟨gb103, 1, none⟩ = some (.slice none 0 0) := (blk_cell BK103.out 1).trans rfl; have hfz17_0 := blk_frozen BK103.out 0; have hfz17_1 := blk_frozen BK103.out 1; have hcz18_0 : w15.cell? ⟨gb102, 0, none⟩ = some (.slice none 0 0) := (blk_cell BK102.out 0).trans rfl; have hcz18_1 : w15.cell? ⟨gb102, 1, none⟩ = some (.slice none 0 0) := (blk_cell BK102.out 1).trans rfl; have hfz18_0 := blk_frozen BK102.out 0; have hfz18_1 := blk_frozen BK102.out 1))
 (refine bodyPost_ret (results_cell_row rfl _ _ gb102 33 #[.slice Ao11 t104.length co11, .slice Ao16 t107.length co16] (0, 0) _ rfl (by (with_reducible repeat (first | refine kN ?_ _ | refine kD ?_ | refine kA ?_ _)); refine blk_put (cs := #[.slice Ao11 t104.length co11, .slice none 0 0]) ?_ 1 _ rfl; (with_reducible repeat (first | refine kN ?_ _ | refine kD ?_ | refine kA ?_ _)); refine blk_put (cs := #[.slice none 0 0, .slice none 0 0]) ?_ 0 _ rfl; (with_reducible repeat (first | refine kN ?_ _ | refine kD ?_ | refine kA ?_ _)); refine blk_far ?_ NB102_103.out _; (with_reducible repeat (first | refine kN ?_ _ | refine kD ?_ | refine kA ?_ _)); exact BK102.out) Try.underlying33 rfl (by kernel_rfl)) rfl ?_); (exact ⟨_, _, by first | rfl | (simp [errW_none, errW_some] <;> rfl) | (simp [*, errW_none, errW_some] <;> rfl), by (with_reducible repeat (first | apply Kd.R_alloc | apply Kd.R_drewN | apply Kd.R_drew)); exact Kd.R_mono (Kd.R_far (p := ⟨gb102, 1, none⟩) (Kd.R_far (p := ⟨gb102, 0, none⟩) (Kd.R_far (p := ⟨gb103, 1, none⟩) (Kd.R_types (Kd.R_types HO106.out BK103.out (by decide)) BK102.out (by decide)) (fun _ hk => hk.1.2) (.slice Ao16 t107.length co16)) (fun _ hk => hk.2) (.slice Ao11 t104.length co11)) (fun _ hk => hk.2) (.slice Ao16 t107.length co16)) (fun _ hk => trivial), by (with_reducible repeat (first | apply Kd.R_alloc | apply Kd.R_drewN | apply Kd.R_drew)); exact Kd.R_mono (Kd.R_far (p := ⟨gb102, 1, none⟩) (Kd.R_far (p := ⟨gb102, 0, none⟩) (Kd.R_far (p := ⟨gb103, 1, none⟩) (Kd.R_types (Kd.R_types HO109.out BK103.out (by decide)) BK102.out (by decide)) (fun _ hk => hk.1.2) (.slice Ao16 t107.length co16)) (fun _ hk => hk.2) (.slice Ao11 t104.length co11)) (fun _ hk => hk.2) (.slice Ao16 t107.length co16)) (fun _ hk => trivial), by repeat (first | (with_reducible first | exact HB.out | apply bA | apply bN | apply bD | refine below_set ?_ GE101.out | refine below_set ?_ GE102.out | refine below_set ?_ GE103.out) | exact HB.out)⟩)

end Go.Proofs.Ytfkbfeghfpaopaa.X
namespace Go.Proofs.Ytfkbfeghfpaopaa.X
open Go.RowKit Go.Proofs.YtfkbfeghfpaopaaW.PrintWords Go.Proofs.YtfkbfeghfpaopaaW.PrintLast Go.Proofs.YtfkbfeghfpaopaaW.PrintMore
attribute [local go_sem] max2_int min2_int max_two min_two max_three min_three max_four min_four   -- for this text's walks alone
set_option linter.unusedVariables false
set_option linter.unusedSimpArgs false
attribute [-simp] ByteArray.size_append ByteArray.size_extract
attribute [-go_sem] ByteArray.size_append'

/-! ### laws_FnExactIsValidReport: function 3 -/
def laws_FnExactIsValidReport.f (k : Nat) (l0_0 : List (S82)) (l0_1 : List (S86)) (l1 : List (S42)) : Option (Bool) := (laws_szRecord.f l0_0 l0_1 1048576).bind fun t102 => (if t102 < 0 then (some true) else ((laws_szPartS.f k l1 t102).bind fun t103 => (if t103 < 0 then (some true) else ((laws_toRecord.f k l0_0 l0_1).bind fun bt104 => ((laws_toPartS.f k l1).bind fun t110 => ((spec_IsValidReport.f k bt104.1 bt104.2 t110).bind fun t113 => ((laws_toRecord.f k l0_0 l0_1).bind fun bt114 => ((laws_toPartS.f k l1).bind fun t121 => ((impl_IsValidReport.f k bt114.1 bt114.2 t121).bind fun t124 => (if (t124 != t113) = true then (some false) else ((laws_toRecord.f k l0_0 l0_1).bind fun bt125 => ((laws_eqRecord.f k bt114.1 bt114.2 bt125.1 bt125.2).bind fun t131 => (if t131 = true then ((laws_toPartS.f k l1).bind fun t132 => ((laws_eqPartS.f k t121 t132).bind fun t135 => (if t135 = true then (some true) else (some false)))) else (some false))))))))))))))
theorem laws_FnExactIsValidReport.mono : ∀ a0 a1 a2 k, LeO (laws_FnExactIsValidReport.f k a0 a1 a2) (laws_FnExactIsValidReport.f (k + 1) a0 a1 a2) := by
 intro a0 a1 a2 k; (unfold laws_FnExactIsValidReport.f)
 repeat' first
   | (with_reducible exact impl_IsValidReport.mono _ _ _ _)
   | (with_reducible exact laws_eqPartS.mono _ _ _)
   | (with_reducible exact laws_eqRecord.mono _ _ _ _ _)
   | (with_reducible exact laws_szPartS.mono _ _ _)
   | (with_reducible exact laws_toPartS.mono _ _)
   | (with_reducible exact laws_toRecord.mono _ _ _)
   | (with_reducible exact spec_IsValidReport.mono _ _ _ _)
   | (with_reducible exact LeO.refl _)
   | (with_reducible exact LeO.none _)
   | (with_reducible refine LeO.ite ?_ ?_)
   | (with_reducible refine LeO.bind ?_ (fun _ => ?_))
   | exact impl_IsValidReport.mono _ _ _ _
   | exact laws_eqPartS.mono _ _ _
   | exact laws_eqRecord.mono _ _ _ _ _
   | exact laws_szPartS.mono _ _ _
   | exact laws_toPartS.mono _ _
   | exact laws_toRecord.mono _ _ _
   | exact spec_IsValidReport.mono _ _ _ _
   | exact LeO.none _
   | refine LeO.ite ?_ ?_
   | refine LeO.bind ?_ (fun _ => ?_)
set_option maxHeartbeats 8000000 in
set_option maxRecDepth 100000 in
theorem laws_FnExactIsValidReport.calls (k : Nat) (A0_0 : Option Addr) (c0_0 : Nat) (l0_0 : List (S82)) (A0_1 : Option Addr) (c0_1 : Nat) (l0_1 : List (S86)) (A1 : Option Addr) (c1 : Nat) (l1 : List (S42)) (r : Bool) (w : World) (hr0_0 : Kd.C k82 w A0_0 l0_0.length l0_0) (hc0_0 : l0_0.length ≤ c0_0) (hr0_1 : Kd.C k86 w A0_1 l0_1.length l0_1) (hc0_1 : l0_1.length ≤ c0_1) (hr1 : Kd.C k42 w A1 l1.length l1) (hc1 : l1.length ≤ c1) (h : laws_FnExactIsValidReport.f k l0_0 l0_1 l1 = some r) (ht_ : Aside0 (r = true)) :
  Calls Try.prog 3 #[.agg #[.slice A0_0 l0_0.length c0_0, .slice A0_1 l0_1.length c0_1], .slice A1 l1.length c1] w fun e w' => e = .returned (.bool r) ∧ Below w.heap.size w w' := by
 (have hu25 := Try.underlying25); (have hu33 := Try.underlying33); (have HR0_0 := Aside0.mk hr0_0); (have HC0_0 := Aside0.mk hc0_0); clear hr0_0 hc0_0; (have HR0_1 := Aside0.mk hr0_1); (have HC0_1 := Aside0.mk hc0_1); clear hr0_1 hc0_1; (have HR1 := Aside0.mk hr1); (have HC1 := Aside0.mk hc1); clear hr1 hc1; (have HB := Aside0.mk (Below.refl w.heap.size w)); (have H : ((laws_szRecord.f l0_0 l0_1 1048576).bind fun t102 => (if t102 < 0 then (some true) else ((laws_szPartS.f k l1 t102).bind fun t103 => (if t103 < 0 then (some true) else ((laws_toRecord.f k l0_0 l0_1).bind fun bt104 => ((laws_toPartS.f k l1).bind fun t110 => ((spec_IsValidReport.f k bt104.1 bt104.2 t110).bind fun t113 => ((laws_toRecord.f k l0_0 l0_1).bind fun bt114 => ((laws_toPartS.f k l1).bind fun t121 => ((impl_IsValidReport.f k bt114.1 bt114.2 t121).bind fun t124 => (if (t124 != t113) = true then (some false) else ((laws_toRecord.f k l0_0 l0_1).bind fun bt125 => ((laws_eqRecord.f k bt114.1 bt114.2 bt125.1 bt125.2).bind fun t131 => (if t131 = true then ((laws_toPartS.f k l1).bind fun t132 => ((laws_eqPartS.f k t121 t132).bind fun t135 => (if t135 = true then (some true) else (some false)))) else (some false))))))))))))))) = some r := h); clear h; (replace H := Option.bind_eq_some_iff.mp H); (obtain ⟨t102, A30, H⟩ := H); (replace H : (if t102 < 0 then (some true) else ((laws_szPartS.f k l1 t102).bind fun t103 => (if t103 < 0 then (some true) else ((laws_toRecord.f k l0_0 l0_1).bind fun bt104 => ((laws_toPartS.f k l1).bind fun t110 => ((spec_IsValidReport.f k bt104.1 bt104.2 t110).bind fun t113 => ((laws_toRecord.f k l0_0 l0_1).bind fun bt114 => ((laws_toPartS.f k l1).bind fun t121 => ((impl_IsValidReport.f k bt114.1 bt114.2 t121).bind fun t124 => (if (t124 != t113) = true then (some false) else ((laws_toRecord.f k l0_0 l0_1).bind fun bt125 => ((laws_eqRecord.f k bt114.1 bt114.2 bt125.1 bt125.2).bind fun t131 => (if t131 = true then ((laws_toPartS.f k l1).bind fun t132 => ((laws_eqPartS.f k t121 t132).bind fun t135 => (if t135 = true then (some true) else (some false)))) else (some false)))))))))))))) = some r := H); (have A3 := Aside0.mk A30); clear A30; (by_cases c4 : t102 < 0); (· (rw [if_pos c4] at H); (have c4b0 : decide (t102 < 0) = true := decide_eq_true c4); clear c4; (obtain rfl := Option.some.inj H); (go_enter Try.func3, Try.ntmps3); (go_wp2_with (first | ((with_reducible refine gate_dst (N := 2) rfl ?_); refine box_event ?hg (N := 2) ?hd (cs := #[.slice A0_0 l0_0.length c0_0, .slice A0_1 l0_1.length c0_1]) (t := 25) ?hr ?_; (case hd => rfl); (case hg => rfl); (case hr => first | (go_simp; done) | (go_simp; rfl)); intro gb101 hg w5 hbox hb; have n0_ := Aside0.mk (below_step (by repeat (first | (with_reducible first | exact HB.out | apply bA | apply bN | apply bD) | exact HB.out)) hb); have n1_ := Aside0.mk (hbox); have n2_ := Aside0.mk ((by rw [hg]; exact (below_size (by repeat (first | (with_reducible first | exact HB.out | apply bA | apply bN | apply bD) | exact HB.out))) : w.heap.size ≤ gb101)); have n3_ := Aside0.mk ((by rw [hg]; exact (below_size (by repeat (first | (with_reducible first | exact HB.out | apply bA | apply bN | apply bD) | exact HB.out))) : w.heap.size ≤ gb101)); clear HB; have HB := n0_; have BK101 := n1_; have GW101 := n2_; have GE101 := n3_; clear n0_ n1_ n2_ n3_; clear hb hbox hg; have hcz6_0 : w5.cell? ⟨gb101, 0, none⟩ = some (.slice A0_0 l0_0.length c0_0) := (blk_cell BK101.out 0).trans rfl; have hcz6_1 : w5.cell? ⟨gb101, 1, none⟩ = some (.slice A0_1 l0_1.length c0_1) := (blk_cell BK101.out 1).trans rfl; have hfz6_0 := blk_frozen BK101.out 0; have hfz6_1 := blk_frozen BK101.out 1) | ((with_reducible refine gate_callee (f := 6) rfl ?_); refine goesL_ (some 12) rfl rfl Try.func6 (by kernel_rfl) rfl #[.agg #[.slice A0_0 l0_0.length c0_0, .slice A0_1 l0_1.length c0_1], .int .i64 1048576] rfl (by (try simp only [aM1, aM2, aM3]); first | done | rfl | (simp only [List.length_drop, List.length_take]; rfl)) ?_; (with_reducible refine (laws_szRecord.calls _ _ l0_0 _ _ l0_1 1048576 t102 _ ?side1 ?side2 ?side3 ?side4 A3.out).mono ?_); (case side1 => repeat (first | exact (Kd.C_below HR0_0.out HB.out) | (with_reducible refine Kd.C_alloc ?_ _) | (with_reducible refine Kd.C_drewN ?_ _) | (with_reducible refine Kd.C_drew ?_))); (case side2 => exact HC0_0.out); (case side3 => repeat (first | exact (Kd.C_below HR0_1.out HB.out) | (with_reducible refine Kd.C_alloc ?_ _) | (with_reducible refine Kd.C_drewN ?_ _) | (with_reducible refine Kd.C_drew ?_))); (case side4 => exact HC0_1.out); rintro e w7 ⟨rfl, hb⟩; refine ⟨_, rfl, ?_⟩; have n0_ := Aside0.mk (blk_below (g := gb101) (o := .cells #[.slice A0_0 l0_0.length c0_0, .slice A0_1 l0_1.length c0_1] 25 (0, 0)) (by (with_reducible repeat (first | refine kN ?_ _ | refine kD ?_ | refine kA ?_ _)); exact BK101.out) hb); have n1_ := Aside0.mk (below_step (by repeat (first | (with_reducible first | exact HB.out | apply bA | apply bN | apply bD | refine below_set ?_ GE101.out) | exact HB.out)) hb); clear BK101; clear HB; have BK101 := n0_; have HB := n1_; clear n0_ n1_; (try clear hb); (try clear hb2); (try clear hk); (try clear hi)))); go_ret; (exact ⟨by first | rfl | (simp [errW_none, errW_some] <;> rfl) | (simp [*, errW_none, errW_some] <;> rfl), by repeat (first | (with_reducible first | exact HB.out | apply bA | apply bN | apply bD | refine below_set ?_ GE101.out) | exact HB.out)⟩))
 ·rw [if_neg c4] at H
  (have c4b0 : decide (t102 < 0) = false := decide_eq_false c4); clear c4; (replace H := Option.bind_eq_some_iff.mp H); (obtain ⟨t103, A80, H⟩ := H); (replace H : (if t103 < 0 then (some true) else ((laws_toRecord.f k l0_0 l0_1).bind fun bt104 => ((laws_toPartS.f k l1).bind fun t110 => ((spec_IsValidReport.f k bt104.1 bt104.2 t110).bind fun t113 => ((laws_toRecord.f k l0_0 l0_1).bind fun bt114 => ((laws_toPartS.f k l1).bind fun t121 => ((impl_IsValidReport.f k bt114.1 bt114.2 t121).bind fun t124 => (if (t124 != t113) = true then (some false) else ((laws_toRecord.f k l0_0 l0_1).bind fun bt125 => ((laws_eqRecord.f k bt114.1 bt114.2 bt125.1 bt125.2).bind fun t131 => (if t131 = true then ((laws_toPartS.f k l1).bind fun t132 => ((laws_eqPartS.f k t121 t132).bind fun t135 => (if t135 = true then (some true) else (some false)))) else (some false)))))))))))) = some r := H); (have A8 := Aside0.mk A80); clear A80; (by_cases c9 : t103 < 0); (· (rw [if_pos c9] at H); (have c9b0 : decide (t103 < 0) = true := decide_eq_true c9); clear c9; (obtain rfl := Option.some.inj H); (go_enter Try.func3, Try.ntmps3); (go_wp2_with (first | ((with_reducible refine gate_dst (N := 2) rfl ?_); refine box_event ?hg (N := 2) ?hd (cs := #[.slice A0_0 l0_0.length c0_0, .slice A0_1 l0_1.length c0_1]) (t := 25) ?hr ?_; (case hd => rfl); (case hg => rfl); (case hr => first | (go_simp; done) | (go_simp; rfl)); intro gb101 hg w10 hbox hb; have n0_ := Aside0.mk (below_step (by repeat (first | (with_reducible first | exact HB.out | apply bA | apply bN | apply bD) | exact HB.out)) hb); have n1_ := Aside0.mk (hbox); have n2_ := Aside0.mk ((by rw [hg]; exact (below_size (by repeat (first | (with_reducible first | exact HB.out | apply bA | apply bN | apply bD) | exact HB.out))) : w.heap.size ≤ gb101)); have n3_ := Aside0.mk ((by rw [hg]; exact (below_size (by repeat (first | (with_reducible first | exact HB.out | apply bA | apply bN | apply bD) | exact HB.out))) : w.heap.size ≤ gb101)); clear HB; have HB := n0_; have BK101 := n1_; have GW101 := n2_; have GE101 := n3_; clear n0_ n1_ n2_ n3_; clear hb hbox hg; have hcz11_0 : w10.cell? ⟨gb101, 0, none⟩ = some (.slice A0_0 l0_0.length c0_0) := (blk_cell BK101.out 0).trans rfl; have hcz11_1 : w10.cell? ⟨gb101, 1, none⟩ = some (.slice A0_1 l0_1.length c0_1) := (blk_cell BK101.out 1).trans rfl; have hfz11_0 := blk_frozen BK101.out 0; have hfz11_1 := blk_frozen BK101.out 1) | ((with_reducible refine gate_callee (f := 6) rfl ?_); refine goesL_ (some 12) rfl rfl Try.func6 (by kernel_rfl) rfl #[.agg #[.slice A0_0 l0_0.length c0_0, .slice A0_1 l0_1.length c0_1], .int .i64 1048576] rfl (by (try simp only [aM1, aM2, aM3]); first | done | rfl | (simp only [List.length_drop, List.length_take]; rfl)) ?_; (with_reducible refine (laws_szRecord.calls _ _ l0_0 _ _ l0_1 1048576 t102 _ ?side1 ?side2 ?side3 ?side4 A3.out).mono ?_); (case side1 => repeat (first | exact (Kd.C_below HR0_0.out HB.out) | (with_reducible refine Kd.C_alloc ?_ _) | (with_reducible refine Kd.C_drewN ?_ _) | (with_reducible refine Kd.C_drew ?_))); (case side2 => exact HC0_0.out); (case side3 => repeat (first | exact (Kd.C_below HR0_1.out HB.out) | (with_reducible refine Kd.C_alloc ?_ _) | (with_reducible refine Kd.C_drewN ?_ _) | (with_reducible refine Kd.C_drew ?_))); (case side4 => exact HC0_1.out); rintro e w12 ⟨rfl, hb⟩; refine ⟨_, rfl, ?_⟩; have n0_ := Aside0.mk (blk_below (g := gb101) (o := .cells #[.slice A0_0 l0_0.length c0_0, .slice A0_1 l0_1.length c0_1] 25 (0, 0)) (by (with_reducible repeat (first | refine kN ?_ _ | refine kD ?_ | refine kA ?_ _)); exact BK101.out) hb); have n1_ := Aside0.mk (below_step (by repeat (first | (with_reducible first | exact HB.out | apply bA | apply bN | apply bD | refine below_set ?_ GE101.out) | exact HB.out)) hb); clear BK101; clear HB; have BK101 := n0_; have HB := n1_; clear n0_ n1_; (try clear hb); (try clear hb2); (try clear hk); (try clear hi)) | ((with_reducible refine gate_callee (f := 7) rfl ?_); refine goesL_ (some 17) rfl rfl Try.func7 (by kernel_rfl) rfl #[.slice A1 l1.length c1, .int .i64 t102] rfl (by (try simp only [aM1, aM2, aM3]); first | done | rfl | (simp only [List.length_drop, List.length_take]; rfl)) ?_; (with_reducible refine (laws_szPartS.calls k _ _ l1 t102 t103 _ ?side1 ?side2 A8.out).mono ?_); (case side1 => repeat (first | exact (Kd.C_below HR1.out HB.out) | (with_reducible refine Kd.C_alloc ?_ _) | (with_reducible refine Kd.C_drewN ?_ _) | (with_reducible refine Kd.C_drew ?_))); (case side2 => exact HC1.out); rintro e w13 ⟨rfl, hb⟩; refine ⟨_, rfl, ?_⟩; have n0_ := Aside0.mk (blk_below (g := gb101) (o := .cells #[.slice A0_0 l0_0.length c0_0, .slice A0_1 l0_1.length c0_1] 25 (0, 0)) (by (with_reducible repeat (first | refine kN ?_ _ | refine kD ?_ | refine kA ?_ _)); exact BK101.out) hb); have n1_ := Aside0.mk (below_step (by repeat (first | (with_reducible first | exact HB.out | apply bA | apply bN | apply bD | refine below_set ?_ GE101.out) | exact HB.out)) hb); clear BK101; clear HB; have BK101 := n0_; have HB := n1_; clear n0_ n1_; (try clear hb); (try clear hb2); (try clear hk); (try clear hi)))); go_ret; (exact ⟨by first | rfl | (simp [errW_none, errW_some] <;> rfl) | (simp [*, errW_none, errW_some] <;> rfl), by repeat (first | (with_reducible first | exact HB.out | apply bA | apply bN | apply bD | refine below_set ?_ GE101.out) | exact HB.out)⟩))
  ·rw [if_neg c9] at H
   (have c9b0 : decide (t103 < 0) = false := decide_eq_false c9); clear c9; (replace H := Option.bind_eq_some_iff.mp H); (obtain ⟨⟨t104, t107⟩, A140, H⟩ := H); (replace H : ((laws_toPartS.f k l1).bind fun t110 => ((spec_IsValidReport.f k t104 t107 t110).bind fun t113 => ((laws_toRecord.f k l0_0 l0_1).bind fun bt114 => ((laws_toPartS.f k l1).bind fun t121 => ((impl_IsValidReport.f k bt114.1 bt114.2 t121).bind fun t124 => (if (t124 != t113) = true then (some false) else ((laws_toRecord.f k l0_0 l0_1).bind fun bt125 => ((laws_eqRecord.f k bt114.1 bt114.2 bt125.1 bt125.2).bind fun t131 => (if t131 = true then ((laws_toPartS.f k l1).bind fun t132 => ((laws_eqPartS.f k t121 t132).bind fun t135 => (if t135 = true then (some true) else (some false)))) else (some false)))))))))) = some r := H); (have A14 := Aside0.mk A140); clear A140; (replace H := Option.bind_eq_some_iff.mp H); (obtain ⟨t110, A150, H⟩ := H); (replace H : ((spec_IsValidReport.f k t104 t107 t110).bind fun t113 => ((laws_toRecord.f k l0_0 l0_1).bind fun bt114 => ((laws_toPartS.f k l1).bind fun t121 => ((impl_IsValidReport.f k bt114.1 bt114.2 t121).bind fun t124 => (if (t124 != t113) = true then (some false) else ((laws_toRecord.f k l0_0 l0_1).bind fun bt125 => ((laws_eqRecord.f k bt114.1 bt114.2 bt125.1 bt125.2).bind fun t131 => (if t131 = true then ((laws_toPartS.f k l1).bind fun t132 => ((laws_eqPartS.f k t121 t132).bind fun t135 => (if t135 = true then (some true) else (some false)))) else (some false))))))))) = some r := H); (have A15 := Aside0.mk A150); clear A150; (replace H := Option.bind_eq_some_iff.mp H); (obtain ⟨t113, A160, H⟩ := H); (replace H : ((laws_toRecord.f k l0_0 l0_1).bind fun bt114 => ((laws_toPartS.f k l1).bind fun t121 => ((impl_IsValidReport.f k bt114.1 bt114.2 t121).bind fun t124 => (if (t124 != t113) = true then (some false) else ((laws_toRecord.f k l0_0 l0_1).bind fun bt125 => ((laws_eqRecord.f k bt114.1 bt114.2 bt125.1 bt125.2).bind fun t131 => (if t131 = true then ((laws_toPartS.f k l1).bind fun t132 => ((laws_eqPartS.f k t121 t132).bind fun t135 => (if t135 = true then (some true) else (some false)))) else (some false)))))))) = some r := H); (have A16 := Aside0.mk A160); clear A160; (replace H := Option.bind_eq_some_iff.mp H); (obtain ⟨⟨t114, t117⟩, A170, H⟩ := H); (replace H : ((laws_toPartS.f k l1).bind fun t121 => ((impl_IsValidReport.f k t114 t117 t121).bind fun t124 => (if (t124 != t113) = true then (some false) else ((laws_toRecord.f k l0_0 l0_1).bind fun bt125 => ((laws_eqRecord.f k t114 t117 bt125.1 bt125.2).bind fun t131 => (if t131 = true then ((laws_toPartS.f k l1).bind fun t132 => ((laws_eqPartS.f k t121 t132).bind fun t135 => (if t135 = true then (some true) else (some false)))) else (some false))))))) = some r := H); (have A17 := Aside0.mk A170); clear A170; (replace H := Option.bind_eq_some_iff.mp H); (obtain ⟨t121, A180, H⟩ := H); (replace H : ((impl_IsValidReport.f k t114 t117 t121).bind fun t124 => (if (t124 != t113) = true then (some false) else ((laws_toRecord.f k l0_0 l0_1).bind fun bt125 => ((laws_eqRecord.f k t114 t117 bt125.1 bt125.2).bind fun t131 => (if t131 = true then ((laws_toPartS.f k l1).bind fun t132 => ((laws_eqPartS.f k t121 t132).bind fun t135 => (if t135 = true then (some true) else (some false)))) else (some false)))))) = some r := H); (have A18 := Aside0.mk A180); clear A180; (replace H := Option.bind_eq_some_iff.mp H); (obtain ⟨t124, A190, H⟩ := H); (replace H : (if (t124 != t113) = true then (some false) else ((laws_toRecord.f k l0_0 l0_1).bind fun bt125 => ((laws_eqRecord.f k t114 t117 bt125.1 bt125.2).bind fun t131 => (if t131 = true then ((laws_toPartS.f k l1).bind fun t132 => ((laws_eqPartS.f k t121 t132).bind fun t135 => (if t135 = true then (some true) else (some false)))) else (some false))))) = some r := H); (have A19 := Aside0.mk A190); clear A190; (by_cases c20 : (t124 != t113) = true); (· (rw [if_pos c20] at H); (have c20b0 : (t124 != t113) = true := c20); ((try (have c20b1 : decide (t124 = t113) = false := by simpa using c20))); ((try (have c20b2 : (t124 == t113) = false := by simpa using c20))); ((try (have c20b3 : ¬ (t124 = t113) := by simpa using c20))); clear c20; (obtain rfl := Option.some.inj H); (exact absurd ht_.out (by decide)))
   ·rw [if_neg c20] at H
    (have c20b0 : (t124 != t113) = false := by simpa using c20); ((try (have c20b1 : decide (t124 = t113) = true := by simpa using c20))); ((try (have c20b2 : (t124 == t113) = true := by simpa using c20))); clear c20; (replace H := Option.bind_eq_some_iff.mp H); (obtain ⟨⟨t125, t128⟩, A430, H⟩ := H); (replace H : ((laws_eqRecord.f k t114 t117 t125 t128).bind fun t131 => (if t131 = true then ((laws_toPartS.f k l1).bind fun t132 => ((laws_eqPartS.f k t121 t132).bind fun t135 => (if t135 = true then (some true) else (some false)))) else (some false))) = some r := H); (have A43 := Aside0.mk A430); clear A430; (replace H := Option.bind_eq_some_iff.mp H); (obtain ⟨t131, A440, H⟩ := H); (replace H : (if t131 = true then ((laws_toPartS.f k l1).bind fun t132 => ((laws_eqPartS.f k t121 t132).bind fun t135 => (if t135 = true then (some true) else (some false)))) else (some false)) = some r := H); (have A44 := Aside0.mk A440); clear A440; (by_cases c45 : t131 = true)
    ·subst c45
     (rw [if_pos rfl] at H); (replace H := Option.bind_eq_some_iff.mp H); (obtain ⟨t132, A460, H⟩ := H); (replace H : ((laws_eqPartS.f k t121 t132).bind fun t135 => (if t135 = true then (some true) else (some false))) = some r := H); (have A46 := Aside0.mk A460); clear A460; (replace H := Option.bind_eq_some_iff.mp H); (obtain ⟨t135, A470, H⟩ := H); (replace H : (if t135 = true then (some true) else (some false)) = some r := H); (have A47 := Aside0.mk A470); clear A470; (by_cases c48 : t135 = true)
     ·subst c48
      (rw [if_pos rfl] at H); (obtain rfl := Option.some.inj H); (go_enter Try.func3, Try.ntmps3)
      try go_wp2_with (first | ((with_reducible refine gate_dst (N := 2) rfl ?_); refine box_event ?hg (N := 2) ?hd (cs := #[.slice A0_0 l0_0.length c0_0, .slice A0_1 l0_1.length c0_1]) (t := 25) ?hr ?_; (case hd => rfl); (case hg => rfl); (case hr => first | (go_simp; done) | (go_simp; rfl)); intro gb101 hg w49 hbox hb; have n0_ := Aside0.mk (below_step (by repeat (first | (with_reducible first | exact HB.out | apply bA | apply bN | apply bD) | exact HB.out)) hb); have n1_ := Aside0.mk (hbox); have n2_ := Aside0.mk ((by rw [hg]; exact (below_size (by repeat (first | (with_reducible first | exact HB.out | apply bA | apply bN | apply bD) | exact HB.out))) : w.heap.size ≤ gb101)); have n3_ := Aside0.mk ((by rw [hg]; exact (below_size (by repeat (first | (with_reducible first | exact HB.out | apply bA | apply bN | apply bD) | exact HB.out))) : w.heap.size ≤ gb101)); clear HB; have HB := n0_; have BK101 := n1_; have GW101 := n2_; have GE101 := n3_; clear n0_ n1_ n2_ n3_; clear hb hbox hg; have hcz50_0 : w49.cell? ⟨gb101, 0, none⟩ = some (.slice A0_0 l0_0.length c0_0) := (blk_cell BK101.out 0).trans rfl; have hcz50_1 : w49.cell? ⟨gb101, 1, none⟩ = some (.slice A0_1 l0_1.length c0_1) := (blk_cell BK101.out 1).trans rfl; have hfz50_0 := blk_frozen BK101.out 0; have hfz50_1 := blk_frozen BK101.out 1) | ((with_reducible refine gate_callee (f := 6) rfl ?_); refine goesL_ (some 12) rfl rfl Try.func6 (by kernel_rfl) rfl #[.agg #[.slice A0_0 l0_0.length c0_0, .slice A0_1 l0_1.length c0_1], .int .i64 1048576] rfl (by (try simp only [aM1, aM2, aM3]); first | done | rfl | (simp only [List.length_drop, List.length_take]; rfl)) ?_; (with_reducible refine (laws_szRecord.calls _ _ l0_0 _ _ l0_1 1048576 t102 _ ?side1 ?side2 ?side3 ?side4 A3.out).mono ?_); (case side1 => repeat (first | exact (Kd.C_below HR0_0.out HB.out) | (with_reducible refine Kd.C_alloc ?_ _) | (with_reducible refine Kd.C_drewN ?_ _) | (with_reducible refine Kd.C_drew ?_))); (case side2 => exact HC0_0.out); (case side3 => repeat (first | exact (Kd.C_below HR0_1.out HB.out) | (with_reducible refine Kd.C_alloc ?_ _) | (with_reducible refine Kd.C_drewN ?_ _) | (with_reducible refine Kd.C_drew ?_))); (case side4 => exact HC0_1.out); rintro e w51 ⟨rfl, hb⟩; refine ⟨_, rfl, ?_⟩; have n0_ := Aside0.mk (blk_below (g := gb101) (o := .cells #[.slice A0_0 l0_0.length c0_0, .slice A0_1 l0_1.length c0_1] 25 (0, 0)) (by (with_reducible repeat (first | refine kN ?_ _ | refine kD ?_ | refine kA ?_ _)); exact BK101.out) hb); have n1_ := Aside0.mk (below_step (by repeat (first | (with_reducible first | exact HB.out | apply bA | apply bN | apply bD | refine below_set ?_ GE101.out) | exact HB.out)) hb); clear BK101; clear HB; have BK101 := n0_; have HB := n1_; clear n0_ n1_; (try clear hb); (try clear hb2); (try clear hk); (try clear hi)) | ((with_reducible refine gate_callee (f := 7) rfl ?_); refine goesL_ (some 17) rfl rfl Try.func7 (by kernel_rfl) rfl #[.slice A1 l1.length c1, .int .i64 t102] rfl (by (try simp only [aM1, aM2, aM3]); first | done | rfl | (simp only [List.length_drop, List.length_take]; rfl)) ?_; (with_reducible refine (laws_szPartS.calls k _ _ l1 t102 t103 _ ?side1 ?side2 A8.out).mono ?_); (case side1 => repeat (first | exact (Kd.C_below HR1.out HB.out) | (with_reducible refine Kd.C_alloc ?_ _) | (with_reducible refine Kd.C_drewN ?_ _) | (with_reducible refine Kd.C_drew ?_))); (case side2 => exact HC1.out); rintro e w52 ⟨rfl, hb⟩; refine ⟨_, rfl, ?_⟩; have n0_ := Aside0.mk (blk_below (g := gb101) (o := .cells #[.slice A0_0 l0_0.length c0_0, .slice A0_1 l0_1.length c0_1] 25 (0, 0)) (by (with_reducible repeat (first | refine kN ?_ _ | refine kD ?_ | refine kA ?_ _)); exact BK101.out) hb); have n1_ := Aside0.mk (below_step (by repeat (first | (with_reducible first | exact HB.out | apply bA | apply bN | apply bD | refine below_set ?_ GE101.out) | exact HB.out)) hb); clear BK101; clear HB; have BK101 := n0_; have HB := n1_; clear n0_ n1_; (try clear hb); (try clear hb2); (try clear hk); (try clear hi); have hcz53_0 : w52.cell? ⟨gb101, 0, none⟩ = some (.slice A0_0 l0_0.length c0_0) := (blk_cell BK101.out 0).trans rfl; have hcz53_1 : w52.cell? ⟨gb101, 1, none⟩ = some (.slice A0_1 l0_1.length c0_1) := (blk_cell BK101.out 1).trans rfl; have hfz53_0 := blk_frozen BK101.out 0; have hfz53_1 := blk_frozen BK101.out 1) | ((with_reducible refine gate_callee (f := 9) rfl ?_); refine goesL_ (some 21) rfl rfl Try.func9 (by kernel_rfl) rfl #[.agg #[.slice A0_0 l0_0.length c0_0, .slice A0_1 l0_1.length c0_1]] rfl (by (try simp only [aM1, aM2, aM3]); first | done | rfl | (simp only [List.length_drop, List.length_take]; rfl)) ?_; (with_reducible refine (laws_toRecord.calls k _ _ l0_0 _ _ l0_1 t104 t107 _ ?side1 ?side2 ?side3 ?side4 A14.out).mono ?_); (case side1 => repeat (first | exact (Kd.C_below HR0_0.out HB.out) | (with_reducible refine Kd.C_alloc ?_ _) | (with_reducible refine Kd.C_drewN ?_ _) | (with_reducible refine Kd.C_drew ?_))); (case side2 => exact HC0_0.out); (case side3 => repeat (first | exact (Kd.C_below HR0_1.out HB.out) | (with_reducible refine Kd.C_alloc ?_ _) | (with_reducible refine Kd.C_drewN ?_ _) | (with_reducible refine Kd.C_drew ?_))); (case side4 => exact HC0_1.out); rintro e w54 ⟨v105, v108, rfl, ho0, ho1, hb⟩; refine ⟨_, rfl, ?_⟩; have n0_ := Aside0.mk (Kd.R_lower ho0 (below_size (by repeat (first | (with_reducible first | exact HB.out | apply bA | apply bN | apply bD | refine below_set ?_ GE101.out) | exact HB.out)))); have n1_ := Aside0.mk (Kd.R_lower ho1 (below_size (by repeat (first | (with_reducible first | exact HB.out | apply bA | apply bN | apply bD | refine below_set ?_ GE101.out) | exact HB.out)))); have n2_ := Aside0.mk (blk_below (g := gb101) (o := .cells #[.slice A0_0 l0_0.length c0_0, .slice A0_1 l0_1.length c0_1] 25 (0, 0)) (by (with_reducible repeat (first | refine kN ?_ _ | refine kD ?_ | refine kA ?_ _)); exact BK101.out) hb); have n3_ := Aside0.mk (below_step (by repeat (first | (with_reducible first | exact HB.out | apply bA | apply bN | apply bD | refine below_set ?_ GE101.out) | exact HB.out)) hb); clear BK101; clear HB; have HO106 := n0_; have HO109 := n1_; have BK101 := n2_; have HB := n3_; clear n0_ n1_ n2_ n3_; (try clear hb); (try clear hb2); (try clear hk); (try clear hi); (try clear ho0); (try clear ho1)) | ((with_reducible refine gate_callee (f := 10) rfl ?_); refine goesL_ (some 23) rfl rfl Try.func10 (by kernel_rfl) rfl #[.slice A1 l1.length c1] rfl (by (try simp only [aM1, aM2, aM3]); first | done | rfl | (simp only [List.length_drop, List.length_take]; rfl)) ?_; (with_reducible refine (laws_toPartS.calls k _ _ l1 t110 _ ?side1 ?side2 A15.out).mono ?_); (case side1 => repeat (first | exact (Kd.C_below HR1.out HB.out) | (with_reducible refine Kd.C_alloc ?_ _) | (with_reducible refine Kd.C_drewN ?_ _) | (with_reducible refine Kd.C_drew ?_))); (case side2 => exact HC1.out); rintro e w55 ⟨v111, rfl, ho0, hb⟩; refine ⟨_, rfl, ?_⟩; have n0_ := Aside0.mk (Kd.R_below (by (with_reducible repeat (first | apply Kd.R_alloc | apply Kd.R_drewN | apply Kd.R_drew)); exact HO106.out) hb); have n1_ := Aside0.mk (Kd.R_below (by (with_reducible repeat (first | apply Kd.R_alloc | apply Kd.R_drewN | apply Kd.R_drew)); exact HO109.out) hb); have n2_ := Aside0.mk (Kd.S_lower ho0 (below_size (by repeat (first | (with_reducible first | exact HB.out | apply bA | apply bN | apply bD | refine below_set ?_ GE101.out) | exact HB.out)))); have n3_ := Aside0.mk (blk_below (g := gb101) (o := .cells #[.slice A0_0 l0_0.length c0_0, .slice A0_1 l0_1.length c0_1] 25 (0, 0)) (by (with_reducible repeat (first | refine kN ?_ _ | refine kD ?_ | refine kA ?_ _)); exact BK101.out) hb); have n4_ := Aside0.mk (below_step (by repeat (first | (with_reducible first | exact HB.out | apply bA | apply bN | apply bD | refine below_set ?_ GE101.out) | exact HB.out)) hb); clear HO106; clear HO109; clear BK101; clear HB; have HO106 := n0_; have HO109 := n1_; have HO112 := n2_; have BK101 := n3_; have HB := n4_; clear n0_ n1_ n2_ n3_ n4_; (try clear hb); (try clear hb2); (try clear hk); (try clear hi); (try clear ho0); obtain ⟨Ao56, co56, eo56⟩ := Kd.R_slice HO106.out; subst eo56; obtain ⟨Ao57, co57, eo57⟩ := Kd.R_slice HO109.out; subst eo57; obtain ⟨Ao58, co58, eo58⟩ := Kd.S_slice HO112.out; subst eo58) | ((with_reducible refine gate_callee (f := 8) rfl ?_); refine goesL_ (some 24) rfl rfl Try.func8 (by kernel_rfl) rfl #[.agg #[.slice Ao56 t104.length co56, .slice Ao57 t107.length co57], .slice Ao58 t110.length co58] rfl (by (try simp only [aM1, aM2, aM3]); first | done | rfl | (simp only [List.length_drop, List.length_take]; rfl)) ?_; (with_reducible refine (spec_IsValidReport.calls k _ _ t104 _ _ t107 _ _ t110 t113 _ ?side1 ?side2 ?side3 ?side4 ?side5 ?side6 A16.out).mono ?_); (case side1 => repeat (first | exact (Kd.R_reads' HO106.out).2.2 | (with_reducible refine Kd.C_alloc ?_ _) | (with_reducible refine Kd.C_drewN ?_ _) | (with_reducible refine Kd.C_drew ?_))); (case side2 => exact (Kd.R_reads' HO106.out).2.1); (case side3 => repeat (first | exact (Kd.R_reads' HO109.out).2.2 | (with_reducible refine Kd.C_alloc ?_ _) | (with_reducible refine Kd.C_drewN ?_ _) | (with_reducible refine Kd.C_drew ?_))); (case side4 => exact (Kd.R_reads' HO109.out).2.1); (case side5 => repeat (first | exact (Kd.S_reads' HO112.out).2.2 | (with_reducible refine Kd.C_alloc ?_ _) | (with_reducible refine Kd.C_drewN ?_ _) | (with_reducible refine Kd.C_drew ?_))); (case side6 => exact (Kd.S_reads' HO112.out).2.1); rintro e w59 ⟨rfl, hb⟩; refine ⟨_, rfl, ?_⟩; have n0_ := Aside0.mk (Kd.R_below (by (with_reducible repeat (first | apply Kd.R_alloc | apply Kd.R_drewN | apply Kd.R_drew)); exact HO106.out) hb); have n1_ := Aside0.mk (Kd.R_below (by (with_reducible repeat (first | apply Kd.R_alloc | apply Kd.R_drewN | apply Kd.R_drew)); exact HO109.out) hb); have n2_ := Aside0.mk (Kd.S_below (by (with_reducible repeat (first | apply Kd.S_alloc | apply Kd.S_drewN | apply Kd.S_drew)); exact HO112.out) hb); have n3_ := Aside0.mk (blk_below (g := gb101) (o := .cells #[.slice A0_0 l0_0.length c0_0, .slice A0_1 l0_1.length c0_1] 25 (0, 0)) (by (with_reducible repeat (first | refine kN ?_ _ | refine kD ?_ | refine kA ?_ _)); exact BK101.out) hb); have n4_ := Aside0.mk (below_step (by repeat (first | (with_reducible first | exact HB.out | apply bA | apply bN | apply bD | refine below_set ?_ GE101.out) | exact HB.out)) hb); clear HO106; clear HO109; clear HO112; clear BK101; clear HB; have HO106 := n0_; have HO109 := n1_; have HO112 := n2_; have BK101 := n3_; have HB := n4_; clear n0_ n1_ n2_ n3_ n4_; (try clear hb); (try clear hb2); (try clear hk); (try clear hi); have hcz60_0 : w59.cell? ⟨gb101, 0, none⟩ = some (.slice A0_0 l0_0.length c0_0) := (blk_cell BK101.out 0).trans rfl; have hcz60_1 : w59.cell? ⟨gb101, 1, none⟩ = some (.slice A0_1 l0_1.length c0_1) := (blk_cell BK101.out 1).trans rfl; have hfz60_0 := blk_frozen BK101.out 0; have hfz60_1 := blk_frozen BK101.out 1) | ((with_reducible refine gate_callee (f := 9) rfl ?_); refine goesL_ (some 26) rfl rfl Try.func9 (by kernel_rfl) rfl #[.agg #[.slice A0_0 l0_0.length c0_0, .slice A0_1 l0_1.length c0_1]] rfl (by (try simp only [aM1, aM2, aM3]); first | done | rfl | (simp only [List.length_drop, List.length_take]; rfl)) ?_; (with_reducible refine (laws_toRecord.calls k _ _ l0_0 _ _ l0_1 t114 t117 _ ?side1 ?side2 ?side3 ?side4 A17.out).mono ?_); (case side1 => repeat (first | exact (Kd.C_below HR0_0.out HB.out) | (with_reducible refine Kd.C_alloc ?_ _) | (with_reducible refine Kd.C_drewN ?_ _) | (with_reducible refine Kd.C_drew ?_))); (case side2 => exact HC0_0.out); (case side3 => repeat (first | exact (Kd.C_below HR0_1.out HB.out) | (with_reducible refine Kd.C_alloc ?_ _) | (with_reducible refine Kd.C_drewN ?_ _) | (with_reducible refine Kd.C_drew ?_))); (case side4 => exact HC0_1.out); rintro e w61 ⟨v115, v118, rfl, ho0, ho1, hb⟩; refine ⟨_, rfl, ?_⟩; have n0_ := Aside0.mk (Kd.R_elder' (by (with_reducible repeat (first | apply Kd.R_alloc | apply Kd.R_drewN | apply Kd.R_drew)); exact HO106.out) (Kd.R_base ho0) hb); have n1_ := Aside0.mk (Kd.R_elder' (by (with_reducible repeat (first | apply Kd.R_alloc | apply Kd.R_drewN | apply Kd.R_drew)); exact HO109.out) (Kd.R_base ho1) hb); have n2_ := Aside0.mk (Kd.S_below (by (with_reducible repeat (first | apply Kd.S_alloc | apply Kd.S_drewN | apply Kd.S_drew)); exact HO112.out) hb); have n3_ := Aside0.mk (Kd.R_lower (Kd.R_new' ho0 (Kd.R_lt (by (with_reducible repeat (first | apply Kd.R_alloc | apply Kd.R_drewN | apply Kd.R_drew)); exact HO106.out))) (below_size (by repeat (first | (with_reducible first | exact HB.out | apply bA | apply bN | apply bD | refine below_set ?_ GE101.out) | exact HB.out)))); have n4_ := Aside0.mk (Kd.R_lower (Kd.R_new' ho1 (Kd.R_lt (by (with_reducible repeat (first | apply Kd.R_alloc | apply Kd.R_drewN | apply Kd.R_drew)); exact HO109.out))) (below_size (by repeat (first | (with_reducible first | exact HB.out | apply bA | apply bN | apply bD | refine below_set ?_ GE101.out) | exact HB.out)))); have n5_ := Aside0.mk (blk_below (g := gb101) (o := .cells #[.slice A0_0 l0_0.length c0_0, .slice A0_1 l0_1.length c0_1] 25 (0, 0)) (by (with_reducible repeat (first | refine kN ?_ _ | refine kD ?_ | refine kA ?_ _)); exact BK101.out) hb); have n6_ := Aside0.mk (below_step (by repeat (first | (with_reducible first | exact HB.out | apply bA | apply bN | apply bD | refine below_set ?_ GE101.out) | exact HB.out)) hb); clear HO106; clear HO109; clear HO112; clear BK101; clear HB; have HO106 := n0_; have HO109 := n1_; have HO112 := n2_; have HO116 := n3_; have HO119 := n4_; have BK101 := n5_; have HB := n6_; clear n0_ n1_ n2_ n3_ n4_ n5_ n6_; (try clear hb); (try clear hb2); (try clear hk); (try clear hi); (try clear ho0); (try clear ho1)) | ((with_reducible refine gate_dst (N := 7) rfl ?_); refine box_event ?hg (N := 7) ?hd (cs := #[.slice none 0 0, .slice none 0 0]) (t := 33) ?hr ?_; (case hd => rfl); (case hg => rfl); (case hr => first | (go_simp; done) | (go_simp; rfl)); intro gb120 hg w62 hbox hb; have n0_ := Aside0.mk (Kd.R_below (by (with_reducible repeat (first | apply Kd.R_alloc | apply Kd.R_drewN | apply Kd.R_drew)); exact HO106.out) hb); have n1_ := Aside0.mk (Kd.R_below (by (with_reducible repeat (first | apply Kd.R_alloc | apply Kd.R_drewN | apply Kd.R_drew)); exact HO109.out) hb); have n2_ := Aside0.mk (Kd.S_below (by (with_reducible repeat (first | apply Kd.S_alloc | apply Kd.S_drewN | apply Kd.S_drew)); exact HO112.out) hb); have n3_ := Aside0.mk (Kd.R_below (by (with_reducible repeat (first | apply Kd.R_alloc | apply Kd.R_drewN | apply Kd.R_drew)); exact HO116.out) hb); have n4_ := Aside0.mk (Kd.R_below (by (with_reducible repeat (first | apply Kd.R_alloc | apply Kd.R_drewN | apply Kd.R_drew)); exact HO119.out) hb); have n5_ := Aside0.mk (blk_below (g := gb101) (o := .cells #[.slice A0_0 l0_0.length c0_0, .slice A0_1 l0_1.length c0_1] 25 (0, 0)) (by (with_reducible repeat (first | refine kN ?_ _ | refine kD ?_ | refine kA ?_ _)); exact BK101.out) hb); have n6_ := Aside0.mk (below_step (by repeat (first | (with_reducible first | exact HB.out | apply bA | apply bN | apply bD | refine below_set ?_ GE101.out) | exact HB.out)) hb); have n7_ := Aside0.mk (hbox); have n8_ := Aside0.mk ((by rw [hg]; exact (below_size (by repeat (first | (with_reducible first | exact HB.out | apply bA | apply bN | apply bD | refine below_set ?_ GE101.out) | exact HB.out))) : w.heap.size ≤ gb120)); have n9_ := Aside0.mk ((by rw [hg]; exact (below_size (by repeat (first | (with_reducible first | exact HB.out | apply bA | apply bN | apply bD | refine below_set ?_ GE101.out) | exact HB.out))) : w.heap.size ≤ gb120)); have n10_ := Aside0.mk ((by rw [hg]; exact Nat.ne_of_lt (blk_lt (g := gb101) (o := .cells #[.slice A0_0 l0_0.length c0_0, .slice A0_1 l0_1.length c0_1] 25 (0, 0)) (by (with_reducible repeat (first | refine kN ?_ _ | refine kD ?_ | refine kA ?_ _)); exact BK101.out)) : gb101 ≠ gb120)); have n11_ := Aside0.mk ((by rw [hg]; exact Nat.ne_of_gt (blk_lt (g := gb101) (o := .cells #[.slice A0_0 l0_0.length c0_0, .slice A0_1 l0_1.length c0_1] 25 (0, 0)) (by (with_reducible repeat (first | refine kN ?_ _ | refine kD ?_ | refine kA ?_ _)); exact BK101.out)) : gb120 ≠ gb101)); clear HO106; clear HO109; clear HO112; clear HO116; clear HO119; clear BK101; clear HB; have HO106 := n0_; have HO109 := n1_; have HO112 := n2_; have HO116 := n3_; have HO119 := n4_; have BK101 := n5_; have HB := n6_; have BK120 := n7_; have GW120 := n8_; have GE120 := n9_; have NB101_120 := n10_; have NB120_101 := n11_; clear n0_ n1_ n2_ n3_ n4_ n5_ n6_ n7_ n8_ n9_ n10_ n11_; clear hb hbox hg; obtain ⟨Ao63, co63, eo63⟩ := Kd.R_slice HO116.out; subst eo63; have hnb64 := NB120_101.out; have hnc64 := NB101_120.out; have hcz65_0 : w62.cell? ⟨gb120, 0, none⟩ = some (.slice none 0 0) := (blk_cell BK120.out 0).trans rfl; have hcz65_1 : w62.cell? ⟨gb120, 1, none⟩ = some (.slice none 0 0) := (blk_cell BK120.out 1).trans rfl; have hfz65_0 := blk_frozen BK120.out 0; have hfz65_1 := blk_frozen BK120.out 1; obtain ⟨Ao66, co66, eo66⟩ := Kd.R_slice HO119.out; subst eo66) | ((with_reducible refine gate_callee (f := 10) rfl ?_); refine goesL_ (some 28) rfl rfl Try.func10 (by kernel_rfl) rfl #[.slice A1 l1.length c1] rfl (by (try simp only [aM1, aM2, aM3]); first | done | rfl | (simp only [List.length_drop, List.length_take]; rfl)) ?_; (with_reducible refine (laws_toPartS.calls k _ _ l1 t121 _ ?side1 ?side2 A18.out).mono ?_); (case side1 => exact Kd.C_below HR1.out (by repeat (first | (with_reducible first | exact HB.out | apply bA | apply bN | apply bD | refine below_set ?_ GE101.out | refine below_set ?_ GE120.out) | exact HB.out))); (case side2 => exact HC1.out); rintro e w67 ⟨v122, rfl, ho0, hb⟩; refine ⟨_, rfl, ?_⟩; have n0_ := Aside0.mk (Kd.R_below (by (with_reducible repeat (first | apply Kd.R_alloc | apply Kd.R_drewN | apply Kd.R_drew)); exact (Kd.R_mono (Kd.R_far (p := ⟨gb120, 1, none⟩) (Kd.R_far (p := ⟨gb120, 0, none⟩) (Kd.R_types HO106.out BK120.out (by decide)) (fun _ hk => hk.2) (.slice Ao63 t114.length co63)) (fun _ hk => hk.2) (.slice Ao66 t117.length co66)) (fun _ h_ => h_.1))) hb); have n1_ := Aside0.mk (Kd.R_below (by (with_reducible repeat (first | apply Kd.R_alloc | apply Kd.R_drewN | apply Kd.R_drew)); exact (Kd.R_mono (Kd.R_far (p := ⟨gb120, 1, none⟩) (Kd.R_far (p := ⟨gb120, 0, none⟩) (Kd.R_types HO109.out BK120.out (by decide)) (fun _ hk => hk.2) (.slice Ao63 t114.length co63)) (fun _ hk => hk.2) (.slice Ao66 t117.length co66)) (fun _ h_ => h_.1))) hb); have n2_ := Aside0.mk (Kd.S_elder' (by (with_reducible repeat (first | apply Kd.S_alloc | apply Kd.S_drewN | apply Kd.S_drew)); exact (Kd.S_mono (Kd.S_far (p := ⟨gb120, 1, none⟩) (Kd.S_far (p := ⟨gb120, 0, none⟩) (Kd.S_types HO112.out BK120.out (by decide)) (fun _ hk => hk.2) (.slice Ao63 t114.length co63)) (fun _ hk => hk.2) (.slice Ao66 t117.length co66)) (fun _ h_ => h_.1))) (Kd.S_base ho0) hb); have n3_ := Aside0.mk (Kd.R_below (by (with_reducible repeat (first | apply Kd.R_alloc | apply Kd.R_drewN | apply Kd.R_drew)); exact (Kd.R_mono (Kd.R_far (p := ⟨gb120, 1, none⟩) (Kd.R_far (p := ⟨gb120, 0, none⟩) (Kd.R_types HO116.out BK120.out (by decide)) (fun _ hk => hk.2) (.slice Ao63 t114.length co63)) (fun _ hk => hk.2) (.slice Ao66 t117.length co66)) (fun _ h_ => h_.1))) hb); have n4_ := Aside0.mk (Kd.R_below (by (with_reducible repeat (first | apply Kd.R_alloc | apply Kd.R_drewN | apply Kd.R_drew)); exact (Kd.R_mono (Kd.R_far (p := ⟨gb120, 1, none⟩) (Kd.R_far (p := ⟨gb120, 0, none⟩) (Kd.R_types HO119.out BK120.out (by decide)) (fun _ hk => hk.2) (.slice Ao63 t114.length co63)) (fun _ hk => hk.2) (.slice Ao66 t117.length co66)) (fun _ h_ => h_.1))) hb); have n5_ := Aside0.mk (Kd.S_lower (Kd.S_new' ho0 (Kd.S_lt (by (with_reducible repeat (first | apply Kd.S_alloc | apply Kd.S_drewN | apply Kd.S_drew)); exact (Kd.S_mono (Kd.S_far (p := ⟨gb120, 1, none⟩) (Kd.S_far (p := ⟨gb120, 0, none⟩) (Kd.S_types HO112.out BK120.out (by decide)) (fun _ hk => hk.2) (.slice Ao63 t114.length co63)) (fun _ hk => hk.2) (.slice Ao66 t117.length co66)) (fun _ h_ => h_.1))))) (below_size (by repeat (first | (with_reducible first | exact HB.out | apply bA | apply bN | apply bD | refine below_set ?_ GE101.out | refine below_set ?_ GE120.out) | exact HB.out)))); have n6_ := Aside0.mk (blk_below (g := gb101) (o := .cells #[.slice A0_0 l0_0.length c0_0, .slice A0_1 l0_1.length c0_1] 25 (0, 0)) (by (with_reducible repeat (first | refine kN ?_ _ | refine kD ?_ | refine kA ?_ _)); refine blk_far ?_ NB101_120.out _; (with_reducible repeat (first | refine kN ?_ _ | refine kD ?_ | refine kA ?_ _)); refine blk_far ?_ NB101_120.out _; (with_reducible repeat (first | refine kN ?_ _ | refine kD ?_ | refine kA ?_ _)); exact BK101.out) hb); have n7_ := Aside0.mk (blk_below (g := gb120) (o := .cells #[.slice Ao63 t114.length co63, .slice Ao66 t117.length co66] 33 (0, 0)) (by (with_reducible repeat (first | refine kN ?_ _ | refine kD ?_ | refine kA ?_ _)); refine blk_put (cs := #[.slice Ao63 t114.length co63, .slice none 0 0]) ?_ 1 _ rfl; (with_reducible repeat (first | refine kN ?_ _ | refine kD ?_ | refine kA ?_ _)); refine blk_put (cs := #[.slice none 0 0, .slice none 0 0]) ?_ 0 _ rfl; (with_reducible repeat (first | refine kN ?_ _ | refine kD ?_ | refine kA ?_ _)); exact BK120.out) hb); have n8_ := Aside0.mk (below_step (by repeat (first | (with_reducible first | exact HB.out | apply bA | apply bN | apply bD | refine below_set ?_ GE101.out | refine below_set ?_ GE120.out) | exact HB.out)) hb); clear HO106; clear HO109; clear HO112; clear HO116; clear HO119; clear BK101; clear BK120; clear HB; have HO106 := n0_; have HO109 := n1_; have HO112 := n2_; have HO116 := n3_; have HO119 := n4_; have HO123 := n5_; have BK101 := n6_; have BK120 := n7_; have HB := n8_; clear n0_ n1_ n2_ n3_ n4_ n5_ n6_ n7_ n8_; (try clear hb); (try clear hb2); (try clear hk); (try clear hi); (try clear ho0); have hcz68_0 : w67.cell? ⟨gb120, 0, none⟩ = some (.slice Ao63 t114.length co63) := (blk_cell BK120.out 0).trans rfl; have hcz68_1 : w67.cell? ⟨gb120, 1, none⟩ = some (.slice Ao66 t117.length co66) := (blk_cell BK120.out 1).trans rfl; have hfz68_0 := blk_frozen BK120.out 0; have hfz68_1 := blk_frozen BK120.out 1; obtain ⟨Ao69, co69, eo69⟩ := Kd.S_slice HO123.out; subst eo69) | ((with_reducible refine gate_callee (f := 11) rfl ?_); refine goesL_ (some 31) rfl rfl Try.func11 (by kernel_rfl) rfl #[.agg #[.slice Ao63 t114.length co63, .slice Ao66 t117.length co66], .slice Ao69 t121.length co69] rfl (by (try simp only [aM1, aM2, aM3]); first | done | rfl | (simp only [List.length_drop, List.length_take]; rfl)) ?_; (with_reducible refine (impl_IsValidReport.calls k _ _ t114 _ _ t117 _ _ t121 t124 _ ?side1 ?side2 ?side3 ?side4 ?side5 ?side6 A19.out).mono ?_); (case side1 => repeat (first | exact (Kd.R_reads' HO116.out).2.2 | (with_reducible refine Kd.C_alloc ?_ _) | (with_reducible refine Kd.C_drewN ?_ _) | (with_reducible refine Kd.C_drew ?_))); (case side2 => exact (Kd.R_reads' HO116.out).2.1); (case side3 => repeat (first | exact (Kd.R_reads' HO119.out).2.2 | (with_reducible refine Kd.C_alloc ?_ _) | (with_reducible refine Kd.C_drewN ?_ _) | (with_reducible refine Kd.C_drew ?_))); (case side4 => exact (Kd.R_reads' HO119.out).2.1); (case side5 => repeat (first | exact (Kd.S_reads' HO123.out).2.2 | (with_reducible refine Kd.C_alloc ?_ _) | (with_reducible refine Kd.C_drewN ?_ _) | (with_reducible refine Kd.C_drew ?_))); (case side6 => exact (Kd.S_reads' HO123.out).2.1); rintro e w70 ⟨rfl, hb⟩; refine ⟨_, rfl, ?_⟩; have n0_ := Aside0.mk (Kd.R_below (by (with_reducible repeat (first | apply Kd.R_alloc | apply Kd.R_drewN | apply Kd.R_drew)); exact HO106.out) hb); have n1_ := Aside0.mk (Kd.R_below (by (with_reducible repeat (first | apply Kd.R_alloc | apply Kd.R_drewN | apply Kd.R_drew)); exact HO109.out) hb); have n2_ := Aside0.mk (Kd.S_below (by (with_reducible repeat (first | apply Kd.S_alloc | apply Kd.S_drewN | apply Kd.S_drew)); exact HO112.out) hb); have n3_ := Aside0.mk (Kd.R_below (by (with_reducible repeat (first | apply Kd.R_alloc | apply Kd.R_drewN | apply Kd.R_drew)); exact HO116.out) hb); have n4_ := Aside0.mk (Kd.R_below (by (with_reducible repeat (first | apply Kd.R_alloc | apply Kd.R_drewN | apply Kd.R_drew)); exact HO119.out) hb); have n5_ := Aside0.mk (Kd.S_below (by (with_reducible repeat (first | apply Kd.S_alloc | apply Kd.S_drewN | apply Kd.S_drew)); exact HO123.out) hb); have n6_ := Aside0.mk (blk_below (g := gb101) (o := .cells #[.slice A0_0 l0_0.length c0_0, .slice A0_1 l0_1.length c0_1] 25 (0, 0)) (by (with_reducible repeat (first | refine kN ?_ _ | refine kD ?_ | refine kA ?_ _)); exact BK101.out) hb); have n7_ := Aside0.mk (blk_below (g := gb120) (o := .cells #[.slice Ao63 t114.length co63, .slice Ao66 t117.length co66] 33 (0, 0)) (by (with_reducible repeat (first | refine kN ?_ _ | refine kD ?_ | refine kA ?_ _)); exact BK120.out) hb); have n8_ := Aside0.mk (below_step (by repeat (first | (with_reducible first | exact HB.out | apply bA | apply bN | apply bD | refine below_set ?_ GE101.out | refine below_set ?_ GE120.out) | exact HB.out)) hb); clear HO106; clear HO109; clear HO112; clear HO116; clear HO119; clear HO123; clear BK101; clear BK120; clear HB; have HO106 := n0_; have HO109 := n1_; have HO112 := n2_; have HO116 := n3_; have HO119 := n4_; have HO123 := n5_; have BK101 := n6_; have BK120 := n7_; have HB := n8_; clear n0_ n1_ n2_ n3_ n4_ n5_ n6_ n7_ n8_; (try clear hb); (try clear hb2); (try clear hk); (try clear hi)))
      (have n0_ := Aside0.mk (Kd.R_drew HO106.out)); (have n1_ := Aside0.mk (Kd.R_drew HO109.out)); (have n2_ := Aside0.mk (Kd.S_drew HO112.out)); (have n3_ := Aside0.mk (Kd.R_drew HO116.out)); (have n4_ := Aside0.mk (Kd.R_drew HO119.out)); (have n5_ := Aside0.mk (Kd.S_drew HO123.out)); (have n6_ := Aside0.mk (blk_drew BK101.out)); (have n7_ := Aside0.mk (blk_drew BK120.out)); (have n8_ := Aside0.mk (below_drew1 HB.out)); clear HO106; clear HO109; clear HO112; clear HO116; clear HO119; clear HO123; clear BK101; clear BK120; clear HB; (have HO106 := n0_); (have HO109 := n1_); (have HO112 := n2_); (have HO116 := n3_); (have HO119 := n4_); (have HO123 := n5_); (have BK101 := n6_); (have BK120 := n7_); (have HB := n8_); clear n0_ n1_ n2_ n3_ n4_ n5_ n6_ n7_ n8_; (refine start_ (n := 5) (S := fun w' => w'.cell? ⟨gb120, 0, none⟩ = some (.slice Ao63 t114.length co63) ∧ w'.cell? ⟨gb120, 1, none⟩ = some (.slice Ao66 t117.length co66) ∧ w'.cell? ⟨gb101, 0, none⟩ = some (.slice A0_0 l0_0.length c0_0) ∧ w'.cell? ⟨gb101, 1, none⟩ = some (.slice A0_1 l0_1.length c0_1)) (ds := []) (cn 5 0) (by kernel_rfl) rfl (by kernel_rfl) ⟨(blk_cell BK120.out 0).trans rfl, (blk_cell BK120.out 1).trans rfl, (blk_cell BK101.out 0).trans rfl, (blk_cell BK101.out 1).trans rfl⟩ (fun hHeld => ?_)); (generalize w70.drew = w71 at HO106 HO109 HO112 HO116 HO119 HO123 BK101 BK120 HB hHeld ⊢); (refine take_ (i := 0) (N := some 35) (v := ?_) (a' := ?_) (cn 5 1) rfl rfl (by kernel_rfl) (fun _ _ _ h => h) (Or.inl ⟨by rfl, ?_⟩) hHeld ?_ ?_); rotate_left; (· (rintro w' ⟨s0, s1, s2, s3⟩); go_simp; with_reducible rfl); rotate_left; (· (simp only [Act.put, aS1, aS2, aS3, i64_w, i32_w]); rfl); (refine take_ (i := 1) (N := some 36) (v := ?_) (a' := ?_) (cn 5 2) rfl rfl (by kernel_rfl) (fun _ _ _ h => h) (Or.inl ⟨by rfl, ?_⟩) hHeld ?_ ?_); rotate_left; (· (rintro w' ⟨s0, s1, s2, s3⟩); go_simp; with_reducible rfl); rotate_left; (· (simp only [Act.put, aS1, aS2, aS3, i64_w, i32_w]); rfl); (refine one_ (i := 2) (N := some 37) (cn 5 3) rfl rfl (by kernel_rfl) (by decide) (fun K hK => ?_)); (refine goes_ Try.func9 (by kernel_rfl) rfl #[.agg #[.slice A0_0 l0_0.length c0_0, .slice A0_1 l0_1.length c0_1]] (by rfl) rfl rfl (by (try simp only [aM1, aM2, aM3]); first | done | rfl | (simp only [List.length_drop, List.length_take]; rfl)) ?_); (with_reducible refine (laws_toRecord.calls k _ _ l0_0 _ _ l0_1 t125 t128 _ ?side1 ?side2 ?side3 ?side4 A43.out).mono ?_); ((case side1 => repeat (first | exact (Kd.C_below HR0_0.out HB.out) | (with_reducible refine Kd.C_alloc ?_ _) | (with_reducible refine Kd.C_drewN ?_ _) | (with_reducible refine Kd.C_drew ?_)))); ((case side2 => exact HC0_0.out)); ((case side3 => repeat (first | exact (Kd.C_below HR0_1.out HB.out) | (with_reducible refine Kd.C_alloc ?_ _) | (with_reducible refine Kd.C_drewN ?_ _) | (with_reducible refine Kd.C_drew ?_)))); ((case side4 => exact HC0_1.out)); (rintro e w72 ⟨v126, v129, rfl, ho0, ho1, hb⟩); (refine ⟨_, rfl, ?_⟩); (have n0_ := Aside0.mk (Kd.R_elder' (by (with_reducible repeat (first | apply Kd.R_alloc | apply Kd.R_drewN | apply Kd.R_drew)); exact HO106.out) (Kd.R_base ho0) hb)); (have n1_ := Aside0.mk (Kd.R_elder' (by (with_reducible repeat (first | apply Kd.R_alloc | apply Kd.R_drewN | apply Kd.R_drew)); exact HO109.out) (Kd.R_base ho1) hb)); (have n2_ := Aside0.mk (Kd.S_below (by (with_reducible repeat (first | apply Kd.S_alloc | apply Kd.S_drewN | apply Kd.S_drew)); exact HO112.out) hb)); (have n3_ := Aside0.mk (Kd.R_elder' (by (with_reducible repeat (first | apply Kd.R_alloc | apply Kd.R_drewN | apply Kd.R_drew)); exact HO116.out) (Kd.R_base ho0) hb)); (have n4_ := Aside0.mk (Kd.R_elder' (by (with_reducible repeat (first | apply Kd.R_alloc | apply Kd.R_drewN | apply Kd.R_drew)); exact HO119.out) (Kd.R_base ho1) hb)); (have n5_ := Aside0.mk (Kd.S_below (by (with_reducible repeat (first | apply Kd.S_alloc | apply Kd.S_drewN | apply Kd.S_drew)); exact HO123.out) hb)); (have n6_ := Aside0.mk (Kd.R_lower (Kd.R_new' (Kd.R_new' ho0 (Kd.R_lt (by (with_reducible repeat (first | apply Kd.R_alloc | apply Kd.R_drewN | apply Kd.R_drew)); exact HO106.out))) (Kd.R_lt (by (with_reducible repeat (first | apply Kd.R_alloc | apply Kd.R_drewN | apply Kd.R_drew)); exact HO116.out))) (below_size (by repeat (first | (with_reducible first | exact HB.out | apply bA | apply bN | apply bD | refine below_set ?_ GE101.out | refine below_set ?_ GE120.out) | exact HB.out))))); (have n7_ := Aside0.mk (Kd.R_lower (Kd.R_new' (Kd.R_new' ho1 (Kd.R_lt (by (with_reducible repeat (first | apply Kd.R_alloc | apply Kd.R_drewN | apply Kd.R_drew)); exact HO109.out))) (Kd.R_lt (by (with_reducible repeat (first | apply Kd.R_alloc | apply Kd.R_drewN | apply Kd.R_drew)); exact HO119.out))) (below_size (by repeat (first | (with_reducible first | exact HB.out | apply bA | apply bN | apply bD | refine below_set ?_ GE101.out | refine below_set ?_ GE120.out) | exact HB.out))))); (have n8_ := Aside0.mk (blk_below (g := gb101) (o := .cells #[.slice A0_0 l0_0.length c0_0, .slice A0_1 l0_1.length c0_1] 25 (0, 0)) (by (with_reducible repeat (first | refine kN ?_ _ | refine kD ?_ | refine kA ?_ _)); exact BK101.out) hb)); (have n9_ := Aside0.mk (blk_below (g := gb120) (o := .cells #[.slice Ao63 t114.length co63, .slice Ao66 t117.length co66] 33 (0, 0)) (by (with_reducible repeat (first | refine kN ?_ _ | refine kD ?_ | refine kA ?_ _)); exact BK120.out) hb)); (have n10_ := Aside0.mk (below_step (by repeat (first | (with_reducible first | exact HB.out | apply bA | apply bN | apply bD | refine below_set ?_ GE101.out | refine below_set ?_ GE120.out) | exact HB.out)) hb)); clear HO106; clear HO109; clear HO112; clear HO116; clear HO119; clear HO123; clear BK101; clear BK120
      clear HB; (have HO106 := n0_); (have HO109 := n1_); (have HO112 := n2_); (have HO116 := n3_); (have HO119 := n4_); (have HO123 := n5_); (have HO127 := n6_); (have HO130 := n7_); (have BK101 := n8_); (have BK120 := n9_); (have HB := n10_); clear n0_ n1_ n2_ n3_ n4_ n5_ n6_ n7_ n8_ n9_ n10_; ((try clear hb)); ((try clear hb2)); ((try clear hk)); ((try clear hi)); ((try clear ho0)); ((try clear ho1)); (obtain ⟨Ao73, co73, eo73⟩ := Kd.R_slice HO127.out); ((first | subst eo73 | (injection eo73 with f1_ f2_ f3_; have f4_ := f1_.symm; have f5_ := f3_.symm; clear f1_ f2_ f3_; subst f4_; subst f5_))); (obtain ⟨Ao74, co74, eo74⟩ := Kd.R_slice HO130.out); ((first | subst eo74 | (injection eo74 with f1_ f2_ f3_; have f4_ := f1_.symm; have f5_ := f3_.symm; clear f1_ f2_ f3_; subst f4_; subst f5_))); (refine hK.out _ _ ⟨(blk_cell BK120.out 0).trans rfl, (blk_cell BK120.out 1).trans rfl, (blk_cell BK101.out 0).trans rfl, (blk_cell BK101.out 1).trans rfl⟩ (fun hHeld => ?_)); clear hK K; (refine norm_ (a' := ?_) ?_ ?_); rotate_left; (· (show Act.put _ (some 37) _ = _); (simp only [Act.put, aS1, aS2, aS3, i64_w, i32_w]); rfl); (refine one_ (i := 3) (N := some 38) (cn 5 4) rfl rfl (by kernel_rfl) (by decide) (fun K hK => ?_)); (refine goes_ Try.func12 (by kernel_rfl) rfl #[.agg #[.slice Ao63 t114.length co63, .slice Ao66 t117.length co66], .agg #[.slice Ao73 t125.length co73, .slice Ao74 t128.length co74]] (by rfl) rfl rfl (by (try simp only [aM1, aM2, aM3]); first | done | rfl | (simp only [List.length_drop, List.length_take]; rfl)) ?_); (with_reducible refine (laws_eqRecord.calls k _ _ t114 _ _ t117 _ _ t125 _ _ t128 true _ ?side1 ?side2 ?side3 ?side4 ?side5 ?side6 ?side7 ?side8 A44.out ⟨rfl⟩).mono ?_); ((case side1 => repeat (first | exact (Kd.R_reads' HO116.out).2.2 | (with_reducible refine Kd.C_alloc ?_ _) | (with_reducible refine Kd.C_drewN ?_ _) | (with_reducible refine Kd.C_drew ?_)))); ((case side2 => exact (Kd.R_reads' HO116.out).2.1)); ((case side3 => repeat (first | exact (Kd.R_reads' HO119.out).2.2 | (with_reducible refine Kd.C_alloc ?_ _) | (with_reducible refine Kd.C_drewN ?_ _) | (with_reducible refine Kd.C_drew ?_)))); ((case side4 => exact (Kd.R_reads' HO119.out).2.1)); ((case side5 => repeat (first | exact (Kd.R_reads' HO127.out).2.2 | (with_reducible refine Kd.C_alloc ?_ _) | (with_reducible refine Kd.C_drewN ?_ _) | (with_reducible refine Kd.C_drew ?_)))); ((case side6 => exact (Kd.R_reads' HO127.out).2.1)); ((case side7 => repeat (first | exact (Kd.R_reads' HO130.out).2.2 | (with_reducible refine Kd.C_alloc ?_ _) | (with_reducible refine Kd.C_drewN ?_ _) | (with_reducible refine Kd.C_drew ?_)))); ((case side8 => exact (Kd.R_reads' HO130.out).2.1)); (rintro e w75 ⟨rfl, hb⟩); (refine ⟨_, rfl, ?_⟩); (have n0_ := Aside0.mk (Kd.R_below (by (with_reducible repeat (first | apply Kd.R_alloc | apply Kd.R_drewN | apply Kd.R_drew)); exact HO106.out) hb)); (have n1_ := Aside0.mk (Kd.R_below (by (with_reducible repeat (first | apply Kd.R_alloc | apply Kd.R_drewN | apply Kd.R_drew)); exact HO109.out) hb)); (have n2_ := Aside0.mk (Kd.S_below (by (with_reducible repeat (first | apply Kd.S_alloc | apply Kd.S_drewN | apply Kd.S_drew)); exact HO112.out) hb)); (have n3_ := Aside0.mk (Kd.R_below (by (with_reducible repeat (first | apply Kd.R_alloc | apply Kd.R_drewN | apply Kd.R_drew)); exact HO116.out) hb)); (have n4_ := Aside0.mk (Kd.R_below (by (with_reducible repeat (first | apply Kd.R_alloc | apply Kd.R_drewN | apply Kd.R_drew)); exact HO119.out) hb)); (have n5_ := Aside0.mk (Kd.S_below (by (with_reducible repeat (first | apply Kd.S_alloc | apply Kd.S_drewN | apply Kd.S_drew)); exact HO123.out) hb)); (have n6_ := Aside0.mk (Kd.R_below (by (with_reducible repeat (first | apply Kd.R_alloc | apply Kd.R_drewN | apply Kd.R_drew)); exact HO127.out) hb)); (have n7_ := Aside0.mk (Kd.R_below (by (with_reducible repeat (first | apply Kd.R_alloc | apply Kd.R_drewN | apply Kd.R_drew)); exact HO130.out) hb)); (have n8_ := Aside0.mk (blk_below (g := gb101) (o := .cells #[.slice A0_0 l0_0.length c0_0, .slice A0_1 l0_1.length c0_1] 25 (0, 0)) (by (with_reducible repeat (first | refine kN ?_ _ | refine kD ?_ | refine kA ?_ _)); exact BK101.out) hb)); (have n9_ := Aside0.mk (blk_below (g := gb120) (o := .cells #[.slice Ao63 t114.length co63, .slice Ao66 t117.length co66] 33 (0, 0)) (by (with_reducible repeat (first | refine kN ?_ _ | refine kD ?_ | refine kA ?_ _)); exact BK120.out) hb)); (have n10_ := Aside0.mk (below_step (by repeat (first | (with_reducible first | exact HB.out | apply bA | apply bN | apply bD | refine below_set ?_ GE101.out | refine below_set ?_ GE120.out) | exact HB.out)) hb)); clear HO106; clear HO109; clear HO112; clear HO116; clear HO119; clear HO123; clear HO127; clear HO130; clear BK101; clear BK120; clear HB; (have HO106 := n0_); (have HO109 := n1_); (have HO112 := n2_); (have HO116 := n3_); (have HO119 := n4_); (have HO123 := n5_); (have HO127 := n6_); (have HO130 := n7_); (have BK101 := n8_); (have BK120 := n9_); (have HB := n10_); clear n0_ n1_ n2_ n3_ n4_ n5_ n6_ n7_ n8_ n9_ n10_; ((try clear hb)); ((try clear hb2)); ((try clear hk)); ((try clear hi)); (refine hK.out _ _ ⟨(blk_cell BK120.out 0).trans rfl, (blk_cell BK120.out 1).trans rfl, (blk_cell BK101.out 0).trans rfl, (blk_cell BK101.out 1).trans rfl⟩ (fun hHeld => ?_)); clear hK K; (refine norm_ (a' := ?_) ?_ ?_); rotate_left; (· (show Act.put _ (some 38) _ = _); (simp only [Act.put, aS1, aS2, aS3, i64_w, i32_w]); rfl); (refine pure_ (i := 4) (N := some 39) (v := ?_) (a' := ?_) (cn 5 5) rfl rfl (by kernel_rfl) (fun _ _ _ h => h) (Or.inl ⟨by rfl, ?_⟩) ?_ ?_); rotate_left; (· intro w'; go_simp; with_reducible rfl); rotate_left
      (· (simp only [Act.put, aS1, aS2, aS3, i64_w, i32_w]); rfl); (refine done_ (by kernel_rfl) ?_)
      try go_wp2_with (first | ((with_reducible refine gate_callee (f := 10) rfl ?_); refine goesL_ (some 42) rfl rfl Try.func10 (by kernel_rfl) rfl #[.slice A1 l1.length c1] rfl (by (try simp only [aM1, aM2, aM3]); first | done | rfl | (simp only [List.length_drop, List.length_take]; rfl)) ?_; (with_reducible refine (laws_toPartS.calls k _ _ l1 t132 _ ?side1 ?side2 A46.out).mono ?_); (case side1 => repeat (first | exact (Kd.C_below HR1.out HB.out) | (with_reducible refine Kd.C_alloc ?_ _) | (with_reducible refine Kd.C_drewN ?_ _) | (with_reducible refine Kd.C_drew ?_))); (case side2 => exact HC1.out); rintro e w76 ⟨v133, rfl, ho0, hb⟩; refine ⟨_, rfl, ?_⟩; have n0_ := Aside0.mk (Kd.R_below (by (with_reducible repeat (first | apply Kd.R_alloc | apply Kd.R_drewN | apply Kd.R_drew)); exact HO106.out) hb); have n1_ := Aside0.mk (Kd.R_below (by (with_reducible repeat (first | apply Kd.R_alloc | apply Kd.R_drewN | apply Kd.R_drew)); exact HO109.out) hb); have n2_ := Aside0.mk (Kd.S_elder' (by (with_reducible repeat (first | apply Kd.S_alloc | apply Kd.S_drewN | apply Kd.S_drew)); exact HO112.out) (Kd.S_base ho0) hb); have n3_ := Aside0.mk (Kd.R_below (by (with_reducible repeat (first | apply Kd.R_alloc | apply Kd.R_drewN | apply Kd.R_drew)); exact HO116.out) hb); have n4_ := Aside0.mk (Kd.R_below (by (with_reducible repeat (first | apply Kd.R_alloc | apply Kd.R_drewN | apply Kd.R_drew)); exact HO119.out) hb); have n5_ := Aside0.mk (Kd.S_elder' (by (with_reducible repeat (first | apply Kd.S_alloc | apply Kd.S_drewN | apply Kd.S_drew)); exact HO123.out) (Kd.S_base ho0) hb); have n6_ := Aside0.mk (Kd.R_below (by (with_reducible repeat (first | apply Kd.R_alloc | apply Kd.R_drewN | apply Kd.R_drew)); exact HO127.out) hb); have n7_ := Aside0.mk (Kd.R_below (by (with_reducible repeat (first | apply Kd.R_alloc | apply Kd.R_drewN | apply Kd.R_drew)); exact HO130.out) hb); have n8_ := Aside0.mk (Kd.S_lower (Kd.S_new' (Kd.S_new' ho0 (Kd.S_lt (by (with_reducible repeat (first | apply Kd.S_alloc | apply Kd.S_drewN | apply Kd.S_drew)); exact HO112.out))) (Kd.S_lt (by (with_reducible repeat (first | apply Kd.S_alloc | apply Kd.S_drewN | apply Kd.S_drew)); exact HO123.out))) (below_size (by repeat (first | (with_reducible first | exact HB.out | apply bA | apply bN | apply bD | refine below_set ?_ GE101.out | refine below_set ?_ GE120.out) | exact HB.out)))); have n9_ := Aside0.mk (blk_below (g := gb101) (o := .cells #[.slice A0_0 l0_0.length c0_0, .slice A0_1 l0_1.length c0_1] 25 (0, 0)) (by (with_reducible repeat (first | refine kN ?_ _ | refine kD ?_ | refine kA ?_ _)); exact BK101.out) hb); have n10_ := Aside0.mk (blk_below (g := gb120) (o := .cells #[.slice Ao63 t114.length co63, .slice Ao66 t117.length co66] 33 (0, 0)) (by (with_reducible repeat (first | refine kN ?_ _ | refine kD ?_ | refine kA ?_ _)); exact BK120.out) hb); have n11_ := Aside0.mk (below_step (by repeat (first | (with_reducible first | exact HB.out | apply bA | apply bN | apply bD | refine below_set ?_ GE101.out | refine below_set ?_ GE120.out) | exact HB.out)) hb); clear HO106; clear HO109; clear HO112; clear HO116; clear HO119; clear HO123; clear HO127; clear HO130; clear BK101; clear BK120; clear HB; have HO106 := n0_; have HO109 := n1_; have HO112 := n2_; have HO116 := n3_; have HO119 := n4_; have HO123 := n5_; have HO127 := n6_; have HO130 := n7_; have HO134 := n8_; have BK101 := n9_; have BK120 := n10_; have HB := n11_; clear n0_ n1_ n2_ n3_ n4_ n5_ n6_ n7_ n8_ n9_ n10_ n11_; (try clear hb); (try clear hb2); (try clear hk); (try clear hi); (try clear ho0); obtain ⟨Ao77, co77, eo77⟩ := Kd.S_slice HO134.out; subst eo77) | ((with_reducible refine gate_callee (f := 13) rfl ?_); refine goesL_ (some 43) rfl rfl Try.func13 (by kernel_rfl) rfl #[.slice Ao69 t121.length co69, .slice Ao77 t132.length co77] rfl (by (try simp only [aM1, aM2, aM3]); first | done | rfl | (simp only [List.length_drop, List.length_take]; rfl)) ?_; (with_reducible refine (laws_eqPartS.calls k _ _ t121 _ _ t132 true _ ?side1 ?side2 ?side3 ?side4 A47.out ⟨rfl⟩).mono ?_); (case side1 => repeat (first | exact (Kd.S_reads' HO123.out).2.2 | (with_reducible refine Kd.C_alloc ?_ _) | (with_reducible refine Kd.C_drewN ?_ _) | (with_reducible refine Kd.C_drew ?_))); (case side2 => exact (Kd.S_reads' HO123.out).2.1); (case side3 => repeat (first | exact (Kd.S_reads' HO134.out).2.2 | (with_reducible refine Kd.C_alloc ?_ _) | (with_reducible refine Kd.C_drewN ?_ _) | (with_reducible refine Kd.C_drew ?_))); (case side4 => exact (Kd.S_reads' HO134.out).2.1); rintro e w78 ⟨rfl, hb⟩; refine ⟨_, rfl, ?_⟩; have n0_ := Aside0.mk (Kd.R_below (by (with_reducible repeat (first | apply Kd.R_alloc | apply Kd.R_drewN | apply Kd.R_drew)); exact HO106.out) hb); have n1_ := Aside0.mk (Kd.R_below (by (with_reducible repeat (first | apply Kd.R_alloc | apply Kd.R_drewN | apply Kd.R_drew)); exact HO109.out) hb); have n2_ := Aside0.mk (Kd.S_below (by (with_reducible repeat (first | apply Kd.S_alloc | apply Kd.S_drewN | apply Kd.S_drew)); exact HO112.out) hb); have n3_ := Aside0.mk (Kd.R_below (by (with_reducible repeat (first | apply Kd.R_alloc | apply Kd.R_drewN | apply Kd.R_drew)); exact HO116.out) hb); have n4_ := Aside0.mk (Kd.R_below (by (with_reducible repeat (first | apply Kd.R_alloc | apply Kd.R_drewN | apply Kd.R_drew)); exact HO119.out) hb); have n5_ := Aside0.mk (Kd.S_below (by (with_reducible repeat (first | apply Kd.S_alloc | apply Kd.S_drewN | apply Kd.S_drew)); exact HO123.out) hb); have n6_ := Aside0.mk (Kd.R_below (by (with_reducible repeat (first | apply Kd.R_alloc | apply Kd.R_drewN | apply Kd.R_drew)); exact HO127.out) hb); have n7_ := Aside0.mk (Kd.R_below (by (with_reducible repeat (first | apply Kd.R_alloc | apply Kd.R_drewN | apply Kd.R_drew)); exact HO130.out) hb); have n8_ := Aside0.mk (Kd.S_below (by (with_reducible repeat (first | apply Kd.S_alloc | apply Kd.S_drewN | apply Kd.S_drew)); exact HO134.out) hb); have n9_ := Aside0.mk (blk_below (g := gb101) (o := .cells #[.slice A0_0 l0_0.length c0_0, .slice A0_1 l0_1.length c0_1] 25 (0, 0)) (by (with_reducible repeat (first | refine kN ?_ _ | refine kD ?_ | refine kA ?_ _)); exact BK101.out) hb); have n10_ := Aside0.mk (blk_below (g := gb120) (o := .cells #[.slice Ao63 t114.length co63, .slice Ao66 t117.length co66] 33 (0, 0)) (by (with_reducible repeat (first | refine kN ?_ _ | refine kD ?_ | refine kA ?_ _)); exact BK120.out) hb); have n11_ := Aside0.mk (below_step (by repeat (first | (with_reducible first | exact HB.out | apply bA | apply bN | apply bD | refine below_set ?_ GE101.out | refine below_set ?_ GE120.out) | exact HB.out)) hb); clear HO106; clear HO109; clear HO112; clear HO116; clear HO119; clear HO123; clear HO127; clear HO130; clear HO134; clear BK101; clear BK120; clear HB; have HO106 := n0_; have HO109 := n1_; have HO112 := n2_; have HO116 := n3_; have HO119 := n4_; have HO123 := n5_; have HO127 := n6_; have HO130 := n7_; have HO134 := n8_; have BK101 := n9_; have BK120 := n10_; have HB := n11_; clear n0_ n1_ n2_ n3_ n4_ n5_ n6_ n7_ n8_ n9_ n10_ n11_; (try clear hb); (try clear hb2); (try clear hk); (try clear hi)))
      go_ret; (exact ⟨by first | rfl | (simp [errW_none, errW_some] <;> rfl) | (simp [*, errW_none, errW_some] <;> rfl), by repeat (first | (with_reducible first | exact HB.out | apply bA | apply bN | apply bD | refine below_set ?_ GE101.out | refine below_set ?_ GE120.out) | exact HB.out)⟩)
     ·replace c48 := Bool.eq_false_iff.mpr c48
      subst c48; (rw [if_neg (show ¬ (false = true) by decide)] at H); (obtain rfl := Option.some.inj H); (exact absurd ht_.out (by decide))
    ·replace c45 := Bool.eq_false_iff.mpr c45
     subst c45; (rw [if_neg (show ¬ (false = true) by decide)] at H); (obtain rfl := Option.some.inj H); (exact absurd ht_.out (by decide))

end Go.Proofs.Ytfkbfeghfpaopaa.X
set_option linter.unusedVariables false
set_option linter.unusedSimpArgs false
namespace Go.Proofs.Ytfkbfeghfpaopaa.Open
open Go.RowKit Go.Proofs.YtfkbfeghfpaopaaW.PrintWords

/-- What reads at type t is of kind d, and good. -/
def Opens (P : Program) (t : TypeId) {α : Type} (d : Kd α) (good : α → Prop) : Prop :=
  ∀ (H : Type) (enc : TypeId × Value → H) (w : World) (fuel : Nat) (cs : List Value) (x : DataW H × List MemPlace),
    DataW.trod enc P w 0 (fun _ => true) true fuel t cs = some x → ∃ a, d.K w a cs ∧ good a

theorem opens_int {P : Program} {t : TypeId} {k : IntKind} (ht : P.underlying t = some (.int k)) : Opens P t (Kd.int k) (fun n => (Lit.int k n).wf = true) := by
  intro H enc w fuel cs x hx
  obtain ⟨n, rfl, _, hw⟩ := DataW.trod_int ht hx
  exact ⟨n, rfl, hw⟩
theorem opens_string {P : Program} {t : TypeId} (ht : P.underlying t = some .string) : Opens P t Kd.string (fun s => s.size ≤ 9223372036854775807) := by
  intro H enc w fuel cs x hx
  obtain ⟨n, rfl, _, hw⟩ := DataW.trod_string ht hx
  exact ⟨n, rfl, by simpa [maxLen] using hw⟩

theorem cells_each {w : World} {a : Addr} {n : Nat} {cs : List Value} (h : w.cells? 0 a n = some cs) : cs.length = n ∧ ∀ i u, cs[i]? = some u → w.cell? (a.add i) = some u := by
  have h1 := World.cells?_some h
  refine ⟨h1.2.1, fun i u hu => ?_⟩
  have hi : i < n := by
    have := (List.getElem?_eq_some_iff.1 hu).1
    omega
  rw [h1.2.2 i hi, hu]

theorem opens_slice {P : Program} {t e : TypeId} {α : Type} {d : Kd α} {g : α → Prop} (ht : P.underlying t = some (.slice e)) (hsz : P.cellsOf e = d.sz) (h : Opens P e d g) :
    Opens P t (Kd.slice e d) (fun xs => xs.length ≤ 9223372036854775807 ∧ ∀ x ∈ xs, g x) := by
  intro H enc w fuel cs x hx
  rcases DataW.trod_slice ht hx with ⟨rfl, _⟩ | ⟨a, len, cap, elems, rest, n, rfl, rfl, _, _, hlc, hcap, hel, hget, _, _⟩
  · exact ⟨[], ⟨none, 0, rfl, Nat.le_refl _, Kd.C_nil d w⟩, by simp, by simp⟩
  · simp only [maxLen] at hcap
    have each : ∀ i, i < len → ∃ b : α, ∃ c : List Value, c.length = d.sz ∧ d.K w b c ∧ g b ∧ ∀ j u, c[j]? = some u → w.cell? (a.add (i * d.sz + j)) = some u := by
      intro i hi
      have h1 := hget i hi
      obtain ⟨y, hy⟩ : ∃ y, elems[i]? = some y := ⟨_, List.getElem?_eq_getElem (by omega)⟩
      rw [hy] at h1
      obtain ⟨c, hc, ht'⟩ := Option.bind_eq_some_iff.1 h1
      obtain ⟨b, hK, hg⟩ := h H enc w n c y ht'
      obtain ⟨hl, hcell⟩ := cells_each hc
      refine ⟨b, c, hl.trans hsz, hK, hg, fun j u hu => ?_⟩
      have := hcell j u hu
      rw [Deep.add_add, hsz] at this
      exact this
    have mk : ∀ m, m ≤ len → ∃ xs : List α, xs.length = m ∧ (∀ x ∈ xs, g x) ∧ ∀ j p, xs[j]? = some p → ∃ c, c.length = d.sz ∧ d.K w p c ∧ ∀ i u, c[i]? = some u → w.cell? (a.add (j * d.sz + i)) = some u := by
      intro m
      induction m with
      | zero => exact fun _ => ⟨[], rfl, by simp, by simp⟩
      | succ m ih =>
        intro hm
        obtain ⟨xs, hl, hg, hx⟩ := ih (by omega)
        obtain ⟨b, c, hc1, hc2, hc3, hc4⟩ := each m (by omega)
        refine ⟨xs ++ [b], by simp [hl], ?_, ?_⟩
        · intro x hx'
          rcases List.mem_append.1 hx' with hx' | hx'
          · exact hg x hx'
          · rw [List.mem_singleton.1 hx']; exact hc3
        · intro j p hj
          by_cases hjm : j < m
          · rw [List.getElem?_append_left (by omega)] at hj
            exact hx j p hj
          · have hlt := (List.getElem?_eq_some_iff.1 hj).1
            simp only [List.length_append, List.length_cons, List.length_nil] at hlt
            obtain rfl : j = m := by omega
            rw [List.getElem?_append_right (by omega), hl, Nat.sub_self] at hj
            simp only [List.getElem?_cons_zero, Option.some.injEq] at hj
            subst hj
            exact ⟨c, hc1, hc2, hc4⟩
    obtain ⟨ys, hl, hg, hy⟩ := mk len (Nat.le_refl _)
    subst hl
    exact ⟨ys, ⟨some a, cap, rfl, hlc, rfl, by omega, fun _ => ⟨a, rfl, hy⟩⟩, by omega, hg⟩

def offs (L : List (TypeId × Nat)) (i : Nat) : Nat := ((L.take i).map (·.2)).sum
def Sect (P : Program) (L : List (TypeId × Nat)) {α : Type} (d : Kd α) (good : α → Prop) : Prop :=
  ∀ (H : Type) (enc : TypeId × Value → H) (w : World) (n : Nat) (cs : List Value), cs.length = (L.map (·.2)).sum →
    (∀ i p, L[i]? = some p → ∃ y, DataW.trod enc P w 0 (fun _ => true) true n p.1 ((cs.drop (offs L i)).take p.2) = some y) → ∃ a, d.K w a cs ∧ good a
theorem sect_one {P : Program} {t : TypeId} {s : Nat} {α : Type} {d : Kd α} {g : α → Prop} (h : Opens P t d g) : Sect P [(t, s)] d g := by
  intro H enc w n cs hl hf
  obtain ⟨y, hy⟩ := hf 0 _ rfl
  simp only [offs, List.take_zero, List.map_nil, List.sum_nil, List.drop_zero] at hy
  rw [List.take_of_length_le (by simp at hl; omega)] at hy
  exact h H enc w n cs y hy
theorem sect_cons {P : Program} {t : TypeId} {s : Nat} {L : List (TypeId × Nat)} {α β : Type} {d : Kd α} {d' : Kd β} {g : α → Prop} {g' : β → Prop} (h : Opens P t d g) (h' : Sect P L d' g') :
    Sect P ((t, s) :: L) (Kd.pair d d') (fun x => g x.1 ∧ g' x.2) := by
  intro H enc w n cs hl hf
  obtain ⟨y, hy⟩ := hf 0 _ rfl
  simp only [offs, List.take_zero, List.map_nil, List.sum_nil, List.drop_zero] at hy
  obtain ⟨a, ha, hga⟩ := h H enc w n _ y hy
  obtain ⟨b, hb, hgb⟩ := h' H enc w n (cs.drop s) (by simp only [List.map_cons, List.sum_cons] at hl; rw [List.length_drop, hl]; omega) (by
    intro i p hp
    obtain ⟨z, hz⟩ := hf (i + 1) p (by simpa using hp)
    refine ⟨z, ?_⟩
    simp only [offs, List.take_succ_cons, List.map_cons, List.sum_cons] at hz
    rw [List.drop_drop]
    exact hz)
  exact ⟨(a, b), ⟨cs.take s, cs.drop s, (List.take_append_drop s cs).symm, ha, hb⟩, hga, hgb⟩
theorem opens_struct {P : Program} {t : TypeId} {fs : Array Field} {α β : Type} {d : Kd α} {g : α → Prop} (f : β → α) (k : α → β) (hk : ∀ x, f (k x) = x) (L : List (TypeId × Nat))
    (ht : P.underlying t = some (.struct fs)) (hL : L = fs.toList.map (fun f => (f.type, P.cellsOf f.type))) (ho : fs.toList.map (·.offset) = (List.range L.length).map (offs L)) (hc : P.cellsOf t = (L.map (·.2)).sum)
    (h : Sect P L d g) : Opens P t (Kd.iso d f) (fun x => g (f x)) := by
  intro H enc w fuel cs x hx
  obtain ⟨xs, n, rfl, rfl, hl, hxl, hf⟩ := DataW.trod_struct ht hx
  obtain ⟨a, ha, hg⟩ := h H enc w n cs (hl.trans hc) (by
    intro i p hp
    have hi : i < fs.size := by
      have := (List.getElem?_eq_some_iff.1 hp).1
      rw [hL] at this
      simpa using this
    have hfi : fs[i]? = some fs[i] := Array.getElem?_eq_getElem hi
    have h1 := hf i fs[i] hfi
    obtain ⟨y, hy⟩ : ∃ y, xs[i]? = some y := ⟨_, List.getElem?_eq_getElem (by omega)⟩
    rw [hy] at h1
    refine ⟨y, ?_⟩
    have hp' : p = (fs[i].type, P.cellsOf fs[i].type) := by
      rw [hL] at hp
      simp only [List.getElem?_map, Array.getElem?_toList, hfi, Option.map_some, Option.some.injEq] at hp
      exact hp.symm
    have hoi : fs[i].offset = offs L i := by
      have h2 : (fs.toList.map (·.offset))[i]? = ((List.range L.length).map (offs L))[i]? := by rw [ho]
      have hLl : L.length = fs.size := by rw [hL]; simp
      simp only [List.getElem?_map, Array.getElem?_toList, hfi, Option.map_some, List.getElem?_range (show i < L.length by omega)] at h2
      exact Option.some.inj h2
    rw [hp', ← hoi]
    exact h1)
  refine ⟨k a, ?_, ?_⟩
  · show d.K w (f (k a)) cs
    rw [hk]; exact ha
  · show g (f (k a))
    rw [hk]; exact hg

theorem arg_slice {P : Program} {W : World} {H : Type} {enc : TypeId × Value → H} {t e : TypeId} {α : Type} {d : Kd α} {g : List α → Prop} {v : Value} {x : DataW H} {p : List MemPlace} (h : Opens P t (Kd.slice e d) g)
    (hs : ∃ a len cap, v = .slice a len cap) (hv : DataW.Trod enc P W 0 (fun _ => true) true t v x p) : ∃ A c xs, v = .slice A xs.length c ∧ xs.length ≤ c ∧ Kd.C d W A xs.length xs ∧ g xs := by
  obtain ⟨a, len, cap, rfl⟩ := hs
  obtain ⟨fuel, hf⟩ := hv
  obtain ⟨xs, ⟨A, c, he, hl, hc⟩, hg⟩ := h H enc W fuel _ _ hf
  simp [Value.cells] at he
  obtain ⟨rfl, rfl, rfl⟩ := he
  exact ⟨_, _, xs, rfl, hl, hc, hg⟩
theorem arg_agg {P : Program} {W : World} {H : Type} {enc : TypeId × Value → H} {t : TypeId} {α : Type} {d : Kd α} {g : α → Prop} {v : Value} {x : DataW H} {p : List MemPlace} (h : Opens P t d g)
    (hs : ∃ cs, v = .agg cs) (hv : DataW.Trod enc P W 0 (fun _ => true) true t v x p) : ∃ a cs, v = .agg cs ∧ d.K W a cs.toList ∧ g a := by
  obtain ⟨cs, rfl⟩ := hs
  obtain ⟨fuel, hf⟩ := hv
  obtain ⟨a, hK, hg⟩ := h H enc W fuel _ _ hf
  exact ⟨a, cs, rfl, hK, hg⟩
end Go.Proofs.Ytfkbfeghfpaopaa.Open
set_option linter.unusedVariables false
namespace Go.Proofs.Ytfkbfeghfpaopaa.X
open Go.RowKit Go.Proofs.YtfkbfeghfpaopaaW.PrintWords Go.Proofs.Ytfkbfeghfpaopaa.Open
theorem op3 : Opens Try.prog 3 (Kd.int .i64) (fun n => (Lit.int .i64 n).wf = true) := opens_int Try.underlying3
def good82 (x : S82) : Prop := (Lit.int .i64 x.f0).wf = true ∧ (Lit.int .i64 x.f1).wf = true
theorem op82 : Opens Try.prog 82 k82 good82 :=
  opens_struct (fun x : S82 => (x.f0, x.f1)) (fun p => ⟨p.1, p.2⟩) (fun _ => rfl) [(3, 1), (3, 1)] Try.underlying82 (by kernel_rfl) (by decide) (by kernel_rfl) (sect_cons op3 (sect_one op3))
theorem op22 : Opens Try.prog 22 (Kd.slice 82 k82) (fun xs => (xs.length ≤ 9223372036854775807 ∧ ∀ y ∈ xs, good82 y)) := opens_slice Try.underlying22 (by kernel_rfl) op82
def good86 (x : S86) : Prop := (Lit.int .i64 x.f0).wf = true ∧ (Lit.int .i64 x.f1).wf = true
theorem op86 : Opens Try.prog 86 k86 good86 :=
  opens_struct (fun x : S86 => (x.f0, x.f1)) (fun p => ⟨p.1, p.2⟩) (fun _ => rfl) [(3, 1), (3, 1)] Try.underlying86 (by kernel_rfl) (by decide) (by kernel_rfl) (sect_cons op3 (sect_one op3))
theorem op23 : Opens Try.prog 23 (Kd.slice 86 k86) (fun xs => (xs.length ≤ 9223372036854775807 ∧ ∀ y ∈ xs, good86 y)) := opens_slice Try.underlying23 (by kernel_rfl) op86
def good25 (x : S25) : Prop := (x.f0.length ≤ 9223372036854775807 ∧ ∀ y ∈ x.f0, good82 y) ∧ (x.f1.length ≤ 9223372036854775807 ∧ ∀ y ∈ x.f1, good86 y)
theorem op25 : Opens Try.prog 25 k25 good25 :=
  opens_struct (fun x : S25 => (x.f0, x.f1)) (fun p => ⟨p.1, p.2⟩) (fun _ => rfl) [(22, 1), (23, 1)] Try.underlying25 (by kernel_rfl) (by decide) (by kernel_rfl) (sect_cons op22 (sect_one op23))
theorem op9 : Opens Try.prog 9 Kd.string (fun s => s.size ≤ 9223372036854775807) := opens_string Try.underlying9
theorem op40 : Opens Try.prog 40 (Kd.slice 3 (Kd.int .i64)) (fun xs => (xs.length ≤ 9223372036854775807 ∧ ∀ y ∈ xs, (Lit.int .i64 y).wf = true)) := opens_slice Try.underlying40 (by kernel_rfl) op3
def good42 (x : S42) : Prop := (Lit.int .i64 x.f0).wf = true ∧ x.f1.size ≤ 9223372036854775807 ∧ (x.f2.length ≤ 9223372036854775807 ∧ ∀ y ∈ x.f2, (Lit.int .i64 y).wf = true)
theorem op42 : Opens Try.prog 42 k42 good42 :=
  opens_struct (fun x : S42 => (x.f0, x.f1, x.f2)) (fun p => ⟨p.1, p.2.1, p.2.2⟩) (fun _ => rfl) [(3, 1), (9, 1), (40, 1)] Try.underlying42 (by kernel_rfl) (by decide) (by kernel_rfl) (sect_cons op3 (sect_cons op9 (sect_one op40)))
theorem op26 : Opens Try.prog 26 (Kd.slice 42 k42) (fun xs => (xs.length ≤ 9223372036854775807 ∧ ∀ y ∈ xs, good42 y)) := opens_slice Try.underlying26 (by kernel_rfl) op42
end Go.Proofs.Ytfkbfeghfpaopaa.X
namespace Go.Proofs.Ytfkbfeghfpaopaa.X
open Go.RowKit Go.Proofs.YtfkbfeghfpaopaaW.PrintWords
def PureFnExactIsValidReport : Prop := ∀ (a0 : S25) (a1 : List (S42)), good25 a0 → (a1.length ≤ 9223372036854775807 ∧ ∀ y ∈ a1, good42 y) → ∃ k, laws_FnExactIsValidReport.f k (a0.f0) (a0.f1) a1 = some true
end Go.Proofs.Ytfkbfeghfpaopaa.X
set_option linter.unusedVariables false
set_option linter.unusedSimpArgs false
namespace Go.Proofs.Ytfkbfeghfpaopaa.X
open Go.RowKit Go.Proofs.YtfkbfeghfpaopaaW.PrintWords Go.Proofs.Ytfkbfeghfpaopaa.E
theorem specIn_eq (a l h : Int) : spec_l1In.f a l h = some (decide (l ≤ a ∧ a ≤ h)) := by
  unfold spec_l1In.f
  by_cases h1 : a ≥ l
  · rw [if_pos h1]; congr 1; simp [h1]
  · rw [if_neg h1]; congr 1; symm; simp; intro h2; omega
theorem implIn_eq (a l h : Int) : impl_within.f a l h = some (decide (l ≤ a ∧ a ≤ h)) := by
  unfold impl_within.f
  by_cases h1 : a ≥ l
  · rw [if_pos h1]; congr 1; simp [h1]
  · rw [if_neg h1]; congr 1; symm; simp; intro h2; omega
theorem isNumber_eq (a : Int) : impl_isNumber.f a = some (decide (1 ≤ a ∧ a ≤ 999)) := by unfold impl_isNumber.f; rw [implIn_eq]; rfl
theorem isKind_eq (a : Int) : impl_isKind.f a = some (decide (1 ≤ a ∧ a ≤ 4)) := by unfold impl_isKind.f; rw [implIn_eq]; rfl
def findC (cs : List S80) (n : Int) : Int := idxG (fun x : S80 => x.f0 == n) 0 cs
theorem indexOf_eq (cs : List S80) (rs : List S84) (n : Int) : impl_indexOf.f cs rs n = some (findC cs n) := rfl
theorem l2Find_ev (cs : List S80) (rs : List S84) (n : Int) (hl : cs.length ≤ 9223372036854775807) : Ev (fun k => spec_l2Find.f k cs rs n) (findC cs n) := by
  have h := ev_walk (L := fun k i => spec_l2Find.l0 k n i cs rs) (G := fun i r => idxG (fun x : S80 => x.f0 == n) i r) cs (Ev.step (fun k => rfl) (ev_neg (by omega) (ev_now rfl))) ?step
  case step =>
    intro i x r hi hd hx hk
    refine Ev.step (fun k => rfl) (ev_pos (by omega) (ev_pos (by omega) ?_))
    simp only [rd_T80, Int.toNat_natCast, hx]
    by_cases c : x.f0 = n
    · exact ev_pos c (ev_now (by simp [idxG, c]))
    · refine ev_neg c ?_
      rw [wrap_succ hi hl]
      exact ev_cast hk (by simp [idxG, c])
  exact h
def CtxP (cs : List S80) (i : Nat) : Prop := (1 ≤ (rd_T80 cs i).f0 ∧ (rd_T80 cs i).f0 ≤ 999) ∧ (1 ≤ (rd_T80 cs i).f1 ∧ (rd_T80 cs i).f1 ≤ 4) ∧ (0 < i → (rd_T80 cs ((i - 1 : Nat) : Int)).f0 < (rd_T80 cs i).f0)
def befP (x y : S84) : Prop := x.f0 < y.f0 ∨ (x.f0 = y.f0 ∧ x.f1 < y.f1)
def RelP (cs : List S80) (rs : List S84) (i : Nat) : Prop := (rd_T84 rs i).f0 ≠ (rd_T84 rs i).f1 ∧ 0 ≤ findC cs (rd_T84 rs i).f0 ∧ 0 ≤ findC cs (rd_T84 rs i).f1 ∧ (0 < i → befP (rd_T84 rs ((i - 1 : Nat) : Int)) (rd_T84 rs i))
instance (x y : S84) : Decidable (befP x y) := by unfold befP; exact inferInstance
instance (cs : List S80) (i : Nat) : Decidable (CtxP cs i) := by unfold CtxP; exact inferInstance
instance (cs : List S80) (rs : List S84) (i : Nat) : Decidable (RelP cs rs i) := by unfold RelP; exact inferInstance
def relsB (cs : List S80) (rs : List S84) : Bool := (List.range rs.length).all (fun i => decide (RelP cs rs i))
def recOk (cs : List S80) (rs : List S84) : Bool := decide (cs.length ≤ 10 ∧ rs.length ≤ 24) && ((List.range cs.length).all (fun i => decide (CtxP cs i)) && relsB cs rs)
def sg (a b : Int) : Int := if a < b then -1 else if a > b then 1 else 0
theorem compare_eq (a b : Int) : cmp_Compare_int.f a b = some (sg a b) := by
  have hn : ∀ z : Int, cmp_isNaN_int.f z = some false := fun z => by unfold cmp_isNaN_int.f; simp
  unfold cmp_Compare_int.f sg
  rw [hn, hn]
  simp only [Option.bind_some, Bool.false_eq_true, if_false]
  by_cases h : a < b
  · rw [if_pos h, if_pos h]
  · rw [if_neg h, if_neg h]
    by_cases h2 : a > b
    · rw [if_pos h2, if_pos h2]
    · rw [if_neg h2, if_neg h2]
theorem or_ev (a b : Int) : Ev (fun k => cmp_Or_int.f k [a, b]) (if a = 0 then b else a) := by
  have r0 : rd [a, b] 0 = a := rfl
  have r1 : rd [a, b] 1 = b := rfl
  have w1 : wrap64 (0 + 1) = 1 := by rw [wrap_id (by omega) (by omega)]; rfl
  have w2 : wrap64 (1 + 1) = 2 := by rw [wrap_id (by omega) (by omega)]; rfl
  unfold cmp_Or_int.f
  refine Ev.step (fun k => rfl) (ev_pos (by simp) (ev_pos (by omega) (ev_pos (by simp) ?_)))
  rw [r0, w1]
  by_cases h : a = 0
  · rw [if_pos h]
    refine ev_pos h (Ev.step (fun k => rfl) (ev_pos (by simp) (ev_pos (by omega) (ev_pos (by simp) ?_))))
    rw [r1, w2]
    by_cases h2 : b = 0
    · exact ev_pos h2 (Ev.step (fun k => rfl) (ev_neg (by simp) (ev_now h2.symm)))
    · exact ev_neg h2 (ev_now rfl)
  · rw [if_neg h]
    exact ev_neg h (ev_now rfl)
theorem compareRel_ev (x y : S84) : ∃ c, Ev (fun k => impl_compareRelations.f k x.f0 x.f1 y.f0 y.f1) c ∧ (c ≥ 0 ↔ ¬ befP x y) := by
  refine ⟨if sg x.f0 y.f0 = 0 then sg x.f1 y.f1 else sg x.f0 y.f0, ?_, ?_⟩
  · unfold impl_compareRelations.f
    exact ev_bind0 (compare_eq _ _) (ev_bind0 (compare_eq _ _) (Ev.bind (or_ev _ _) (ev_now rfl)))
  · unfold sg befP
    repeat' split
    all_goals omega
theorem before_eq (x y : S84) : spec_l2Before.f x.f0 x.f1 y.f0 y.f1 = some (decide (befP x y)) := by
  have hb : befP x y ↔ (x.f0 < y.f0 ∨ (x.f0 = y.f0 ∧ x.f1 < y.f1)) := Iff.rfl
  unfold spec_l2Before.f
  by_cases h1 : x.f0 < y.f0
  · rw [if_pos h1, decide_eq_true (hb.2 (Or.inl h1))]
  · rw [if_neg h1]
    by_cases h2 : x.f0 = y.f0
    · rw [if_pos h2]; congr 1; rw [decide_eq_decide, hb]; omega
    · rw [if_neg h2, decide_eq_false (fun h => by have := hb.1 h; omega)]
theorem implRels_ev (cs : List S80) (rs : List S84) (hr : rs.length ≤ 24) : Ev (fun k => impl_IsValidRecord.l1 k rs (rs.length : Int) 0 cs rs) (relsB cs rs) := by
  have h := ev_all0 (L := fun k i => impl_IsValidRecord.l1 k rs (rs.length : Int) i cs rs) rs.length (fun i => decide (RelP cs rs i)) false true (fun _ => Ev.step (fun k => rfl) (ev_neg (by omega) (ev_now rfl))) ?h1 ?h2
  case h1 =>
    intro i hi _ hc y hy
    obtain ⟨c1, c2, c3, c4⟩ := of_decide_eq_true hc
    refine Ev.step (fun k => rfl) (ev_pos (by omega) (ev_pos (by omega) (ev_pos (by omega) (ev_neg c1 (ev_bind0 (indexOf_eq _ _ _) (ev_neg (by omega) (ev_bind0 (indexOf_eq _ _ _) (Ev.step (fun k => rfl) (ev_neg (by rw [decide_eq_true_eq]; omega) ?_)))))))))
    rw [wrap_succ hi (by omega)]
    rcases Nat.eq_zero_or_pos i with h0 | h0
    · exact ev_neg (by omega) hy
    · rw [wrap_pred h0 (by omega)]
      obtain ⟨c, hv, hcc⟩ := compareRel_ev (rd_T84 rs ((i - 1 : Nat) : Int)) (rd_T84 rs i)
      exact ev_pos (by omega) (ev_pos (by omega) (ev_pos (by omega) (Ev.bind hv (ev_neg (fun e => hcc.1 e (c4 h0)) hy))))
  case h2 =>
    intro i hi _ hc
    have hc' := of_decide_eq_false hc
    refine Ev.step (fun k => rfl) (ev_pos (by omega) (ev_pos (by omega) (ev_pos (by omega) (ev_ite (fun _ => Ev.step (fun k => rfl) (ev_now rfl)) (fun c1 => ev_bind0 (indexOf_eq _ _ _) (ev_ite (fun _ => Ev.step (fun k => rfl) (ev_now rfl)) (fun c2 => ev_bind0 (indexOf_eq _ _ _) (Ev.step (fun k => rfl) (ev_ite (fun _ => ev_now rfl) (fun c3 => ?_))))))))))
    rw [decide_eq_true_eq] at c3
    rcases Nat.eq_zero_or_pos i with h0 | h0
    · exact absurd ⟨c1, by omega, by omega, fun h => by omega⟩ hc'
    · rw [wrap_pred h0 (by omega)]
      obtain ⟨c, hv, hcc⟩ := compareRel_ev (rd_T84 rs ((i - 1 : Nat) : Int)) (rd_T84 rs i)
      exact ev_pos (by omega) (ev_pos (by omega) (ev_pos (by omega) (Ev.bind hv (ev_pos (hcc.2 (fun e => hc' ⟨c1, by omega, by omega, fun _ => e⟩)) (ev_now rfl)))))
  refine ev_cast h ?_
  unfold relsB
  cases (List.range rs.length).all (fun i => decide (RelP cs rs i)) <;> rfl
theorem specRels_ev (cs : List S80) (rs : List S84) (hcl : cs.length ≤ 10) (hr : rs.length ≤ 24) : Ev (fun k => spec_l2Good.l1 k 0 cs rs) (relsB cs rs) := by
  have hf : ∀ n, Ev (fun k => spec_l2Find.f k cs rs n) (findC cs n) := fun n => l2Find_ev cs rs n (by omega)
  have h := ev_all0 (L := fun k i => spec_l2Good.l1 k i cs rs) rs.length (fun i => decide (RelP cs rs i)) false true (fun _ => Ev.step (fun k => rfl) (ev_neg (by omega) (ev_now rfl))) ?h1 ?h2
  case h1 =>
    intro i hi _ hc y hy
    obtain ⟨c1, c2, c3, c4⟩ := of_decide_eq_true hc
    refine Ev.step (fun k => rfl) (ev_pos (by omega) (ev_pos (by omega) (ev_neg c1 (Ev.bind (hf _) (ev_neg (by omega) (Ev.bind (hf _) (ev_neg (by omega) ?_)))))))
    rw [wrap_succ hi (by omega)]
    rcases Nat.eq_zero_or_pos i with h0 | h0
    · exact ev_neg (by omega) hy
    · rw [wrap_pred h0 (by omega)]
      exact ev_pos (by omega) (ev_pos (by omega) (ev_pos (by omega) (ev_bind0 (before_eq _ _) (ev_pos (decide_eq_true (c4 h0)) hy))))
  case h2 =>
    intro i hi _ hc
    have hc' := of_decide_eq_false hc
    refine Ev.step (fun k => rfl) (ev_pos (by omega) (ev_pos (by omega) (ev_ite (fun _ => ev_now rfl) (fun c1 => Ev.bind (hf _) (ev_ite (fun _ => ev_now rfl) (fun c2 => Ev.bind (hf _) (ev_ite (fun _ => ev_now rfl) (fun c3 => ?_))))))))
    rcases Nat.eq_zero_or_pos i with h0 | h0
    · exact absurd ⟨c1, by omega, by omega, fun h => by omega⟩ hc'
    · rw [wrap_pred h0 (by omega)]
      exact ev_pos (by omega) (ev_pos (by omega) (ev_pos (by omega) (ev_bind0 (before_eq _ _) (ev_neg (fun e => hc' ⟨c1, by omega, by omega, fun _ => of_decide_eq_true e⟩) (ev_now rfl)))))
  refine ev_cast h ?_
  unfold relsB
  cases (List.range rs.length).all (fun i => decide (RelP cs rs i)) <;> rfl
theorem implRecord_ev (cs : List S80) (rs : List S84) : Ev (fun k => impl_IsValidRecord.f k cs rs) (recOk cs rs) := by
  unfold impl_IsValidRecord.f recOk
  refine ev_ite (fun c => ?_) (fun c => Ev.step (fun k => rfl) (ev_ite (fun d => ev_now ?_) (fun d => ?_)))
  · rw [decide_eq_false (by omega), Bool.false_and]
    exact Ev.step (fun k => rfl) (ev_now rfl)
  · rw [decide_eq_true_eq] at d
    rw [decide_eq_false (by omega), Bool.false_and]
  rw [decide_eq_true_eq] at d
  rw [decide_eq_true (by omega), Bool.true_and]
  have h := ev_all0 (L := fun k i => impl_IsValidRecord.l0 k cs (cs.length : Int) i cs rs) cs.length (fun i => decide (CtxP cs i)) false (relsB cs rs) (fun _ => Ev.step (fun k => rfl) (ev_neg (by omega) (implRels_ev cs rs (by omega)))) ?h1 ?h2
  case h1 =>
    intro i hi _ hc y hy
    obtain ⟨c1, c2, c3⟩ := of_decide_eq_true hc
    refine Ev.step (fun k => rfl) (ev_pos (by omega) (ev_pos (by omega) (ev_pos (by omega) (ev_bind0 (isNumber_eq _) (ev_pos (decide_eq_true c1) (ev_bind0 (isKind_eq _) (ev_pos (decide_eq_true c2) ?_)))))))
    rw [wrap_succ hi (by omega)]
    rcases Nat.eq_zero_or_pos i with h0 | h0
    · exact ev_neg (by omega) hy
    · rw [wrap_pred h0 (by omega)]
      exact ev_pos (by omega) (ev_pos (by omega) (ev_pos (by omega) (ev_neg (by have := c3 h0; omega) hy)))
  case h2 =>
    intro i hi _ hc
    have hc' := of_decide_eq_false hc
    refine Ev.step (fun k => rfl) (ev_pos (by omega) (ev_pos (by omega) (ev_pos (by omega) (ev_bind0 (isNumber_eq _) (ev_ite (fun c1 => ev_bind0 (isKind_eq _) (ev_ite (fun c2 => ?_) (fun _ => ev_now rfl))) (fun _ => ev_now rfl))))))
    rcases Nat.eq_zero_or_pos i with h0 | h0
    · exact absurd ⟨of_decide_eq_true c1, of_decide_eq_true c2, fun h => by omega⟩ hc'
    · rw [wrap_pred h0 (by omega)]
      exact ev_pos (by omega) (ev_pos (by omega) (ev_pos (by omega) (ev_pos (Classical.byContradiction fun e => hc' ⟨of_decide_eq_true c1, of_decide_eq_true c2, fun _ => by omega⟩) (ev_now rfl))))
  refine ev_cast h ?_
  cases (List.range cs.length).all (fun i => decide (CtxP cs i)) <;> simp
theorem specRecord_ev (cs : List S80) (rs : List S84) : Ev (fun k => spec_l2Good.f k cs rs) (recOk cs rs) := by
  unfold spec_l2Good.f recOk
  refine ev_ite (fun c => ?_) (fun c => Ev.step (fun k => rfl) (ev_ite (fun d => ev_now ?_) (fun d => ?_)))
  · rw [decide_eq_false (by omega), Bool.false_and]
    exact Ev.step (fun k => rfl) (ev_now rfl)
  · rw [decide_eq_true_eq] at d
    rw [decide_eq_false (by omega), Bool.false_and]
  rw [decide_eq_true_eq] at d
  rw [decide_eq_true (by omega), Bool.true_and]
  have h := ev_all0 (L := fun k i => spec_l2Good.l0 k i cs rs) cs.length (fun i => decide (CtxP cs i)) false (relsB cs rs) (fun _ => Ev.step (fun k => rfl) (ev_neg (by omega) (specRels_ev cs rs (by omega) (by omega)))) ?h1 ?h2
  case h1 =>
    intro i hi _ hc y hy
    obtain ⟨c1, c2, c3⟩ := of_decide_eq_true hc
    refine Ev.step (fun k => rfl) (ev_pos (by omega) (ev_pos (by omega) (ev_bind0 (specIn_eq _ _ _) (ev_pos (decide_eq_true c1) (ev_bind0 (specIn_eq _ _ _) (ev_pos (decide_eq_true c2) ?_))))))
    rw [wrap_succ hi (by omega)]
    rcases Nat.eq_zero_or_pos i with h0 | h0
    · exact ev_neg (by omega) hy
    · rw [wrap_pred h0 (by omega)]
      exact ev_pos (by omega) (ev_pos (by omega) (ev_pos (by omega) (ev_neg (by have := c3 h0; omega) hy)))
  case h2 =>
    intro i hi _ hc
    have hc' := of_decide_eq_false hc
    refine Ev.step (fun k => rfl) (ev_pos (by omega) (ev_pos (by omega) (ev_bind0 (specIn_eq _ _ _) (ev_ite (fun c1 => ev_bind0 (specIn_eq _ _ _) (ev_ite (fun c2 => ?_) (fun _ => ev_now rfl))) (fun _ => ev_now rfl)))))
    rcases Nat.eq_zero_or_pos i with h0 | h0
    · exact absurd ⟨of_decide_eq_true c1, of_decide_eq_true c2, fun h => by omega⟩ hc'
    · rw [wrap_pred h0 (by omega)]
      exact ev_pos (by omega) (ev_pos (by omega) (ev_pos (by omega) (ev_pos (Classical.byContradiction fun e => hc' ⟨of_decide_eq_true c1, of_decide_eq_true c2, fun _ => by omega⟩) (ev_now rfl))))
  refine ev_cast h ?_
  cases (List.range cs.length).all (fun i => decide (CtxP cs i)) <;> simp
end Go.Proofs.Ytfkbfeghfpaopaa.X
set_option linter.unusedVariables false
set_option linter.unusedSimpArgs false
namespace Go.Proofs.Ytfkbfeghfpaopaa.X
open Go.RowKit Go.Proofs.YtfkbfeghfpaopaaW.PrintWords Go.Proofs.Ytfkbfeghfpaopaa.E
def textAt (s : ByteArray) (i : Nat) : Bool := decide (32 ≤ bt s i ∧ bt s i ≤ 126)
def textB (s : ByteArray) : Bool := (List.range s.size).all (textAt s) && decide ((s.size : Int) ≤ 40)
theorem isText_ev (s : ByteArray) (hs : s.size ≤ 9223372036854775807) : Ev (fun k => impl_isText.f k s) (textB s) := by
  have h := ev_all0 (L := fun k i => impl_isText.l0 k s (s.size : Int) i) s.size (textAt s) false (decide ((s.size : Int) ≤ 40)) (fun _ => Ev.step (fun k => rfl) (ev_neg (by omega) (ev_now rfl))) ?h1 ?h2
  case h1 =>
    intro i hi _ hc y hy
    simp only [textAt, decide_eq_true_eq] at hc
    refine Ev.step (fun k => rfl) (ev_pos (by omega) (ev_pos (by omega) (ev_pos (by omega) ?_)))
    rw [wrap_succ hi hs]
    exact ev_neg (by omega) (ev_neg (by omega) hy)
  case h2 =>
    intro i hi _ hc
    simp only [textAt, decide_eq_false_iff_not] at hc
    refine Ev.step (fun k => rfl) (ev_pos (by omega) (ev_pos (by omega) (ev_pos (by omega) ?_)))
    refine ev_ite (fun _ => ev_now rfl) (fun _ => ev_ite (fun _ => ev_now rfl) (fun _ => ?_))
    exfalso; omega
  refine ev_cast h ?_
  unfold textB
  cases (List.range s.size).all (textAt s) <;> simp
theorem l21Text_ev (s : ByteArray) (hs : s.size ≤ 9223372036854775807) : Ev (fun k => spec_l21Text.f k s) (textB s) := by
  -- within the first forty bytes as the program; a longer one is refused at the forty-second step or before
  have h := ev_all0 (L := fun k i => spec_l21Text.l0 k s i) (min s.size 41) (textAt s) false (decide ((s.size : Int) ≤ 40)) ?h0 ?h1 ?h2
  case h0 =>
    intro _
    by_cases c : s.size ≤ 40
    · rw [Nat.min_eq_left (by omega)]
      exact Ev.step (fun k => rfl) (ev_neg (by omega) (Ev.step (fun k => rfl) (ev_now rfl)))
    · rw [Nat.min_eq_right (by omega)]
      refine Ev.step (fun k => rfl) ?_
      show Ev (fun k => if ((41 : Nat) : Int) < (s.size : Int) then spec_l21Text.j1 k s ((41 : Nat) : Int) (decide (((41 : Nat) : Int) ≤ 40)) else spec_l21Text.j1 k s ((41 : Nat) : Int) false) _
      rw [decide_eq_false (show ¬ (((41 : Nat) : Int) ≤ 40) by omega)]
      exact ev_ite (fun _ => Ev.step (fun k => rfl) (ev_now rfl)) (fun _ => Ev.step (fun k => rfl) (ev_now rfl))
  case h1 =>
    intro i hi _ hc y hy
    simp only [textAt, decide_eq_true_eq] at hc
    have hi' : i < s.size := by omega
    refine Ev.step (fun k => rfl) (ev_pos (by omega) ?_)
    rw [decide_eq_true (show (i : Int) ≤ 40 by omega)]
    refine Ev.step (fun k => rfl) ?_
    show Ev (fun k => if 0 ≤ (i : Int) then (if (i : Int) < (s.size : Int) then (if (bt s i) < 32 then (some false) else (if (bt s i) > 126 then (some false) else (spec_l21Text.l0 k s (wrap64 ((i : Int) + 1))))) else none) else none) y
    rw [wrap_succ hi' hs]
    exact ev_pos (by omega) (ev_pos (by omega) (ev_neg (by omega) (ev_neg (by omega) hy)))
  case h2 =>
    intro i hi _ hc
    simp only [textAt, decide_eq_false_iff_not] at hc
    have hi' : i < s.size := by omega
    refine Ev.step (fun k => rfl) (ev_pos (by omega) ?_)
    rw [decide_eq_true (show (i : Int) ≤ 40 by omega)]
    refine Ev.step (fun k => rfl) ?_
    show Ev (fun k => if 0 ≤ (i : Int) then (if (i : Int) < (s.size : Int) then (if (bt s i) < 32 then (some false) else (if (bt s i) > 126 then (some false) else (spec_l21Text.l0 k s (wrap64 ((i : Int) + 1))))) else none) else none) _
    refine ev_pos (by omega) (ev_pos (by omega) (ev_ite (fun _ => ev_now rfl) (fun _ => ev_ite (fun _ => ev_now rfl) (fun _ => ?_))))
    exfalso; omega
  refine ev_cast h ?_
  unfold textB
  by_cases c : s.size ≤ 40
  · rw [Nat.min_eq_left (by omega)]
    cases (List.range s.size).all (textAt s) <;> simp
  · rw [decide_eq_false (show ¬ ((s.size : Int) ≤ 40) by omega)]
    simp
end Go.Proofs.Ytfkbfeghfpaopaa.X
set_option linter.unusedVariables false
set_option linter.unusedSimpArgs false
namespace Go.Proofs.Ytfkbfeghfpaopaa.X
open Go.RowKit Go.Proofs.YtfkbfeghfpaopaaW.PrintWords Go.Proofs.YtfkbfeghfpaopaaW.PrintMore Go.Proofs.Ytfkbfeghfpaopaa.E
def AreP (cs : List S80) (l : List Int) (i : Nat) : Prop := 0 ≤ findC cs (rd l i) ∧ (0 < i → rd l ((i - 1 : Nat) : Int) < rd l i)
instance (cs : List S80) (l : List Int) (i : Nat) : Decidable (AreP cs l i) := by unfold AreP; exact inferInstance
def areB (cs : List S80) (l : List Int) : Bool := (List.range l.length).all (fun i => decide (AreP cs l i))
theorem areContexts_ev (cs : List S80) (rs : List S84) (l : List Int) (hl : l.length ≤ 9223372036854775807) : Ev (fun k => impl_areContexts.f k cs rs l) (areB cs l) := by
  have h := ev_all0 (L := fun k i => impl_areContexts.l0 k l l (l.length : Int) i cs rs) l.length (fun i => decide (AreP cs l i)) false true (fun _ => Ev.step (fun k => rfl) (ev_neg (by omega) (ev_now rfl))) ?h1 ?h2
  case h1 =>
    intro i hi _ hc y hy
    obtain ⟨c1, c2⟩ := of_decide_eq_true hc
    refine Ev.step (fun k => rfl) (ev_pos (by omega) (ev_pos (by omega) (ev_pos (by omega) (ev_bind0 (indexOf_eq _ _ _) (ev_neg (by omega) ?_)))))
    rw [wrap_succ hi hl]
    rcases Nat.eq_zero_or_pos i with h0 | h0
    · exact ev_neg (by omega) hy
    · rw [wrap_pred h0 (by omega)]
      exact ev_pos (by omega) (ev_pos (by omega) (ev_pos (by omega) (ev_neg (by have := c2 h0; omega) hy)))
  case h2 =>
    intro i hi _ hc
    have hc' := of_decide_eq_false hc
    refine Ev.step (fun k => rfl) (ev_pos (by omega) (ev_pos (by omega) (ev_pos (by omega) (ev_bind0 (indexOf_eq _ _ _) (ev_ite (fun _ => ev_now rfl) (fun c1 => ?_))))))
    rcases Nat.eq_zero_or_pos i with h0 | h0
    · exact absurd ⟨by omega, fun h => by omega⟩ hc'
    · rw [wrap_pred h0 (by omega)]
      exact ev_pos (by omega) (ev_pos (by omega) (ev_pos (by omega) (ev_pos (Classical.byContradiction fun e => hc' ⟨by omega, fun _ => by omega⟩) (ev_now rfl))))
  refine ev_cast h ?_
  unfold areB
  cases (List.range l.length).all (fun i => decide (AreP cs l i)) <;> rfl
theorem l24Contexts_ev (cs : List S80) (rs : List S84) (hcl : cs.length ≤ 9223372036854775807) (l : List Int) (hl : l.length ≤ 9223372036854775807) : Ev (fun k => spec_l24Contexts.f k cs rs l) (areB cs l) := by
  have hf : ∀ n, Ev (fun k => spec_l2Find.f k cs rs n) (findC cs n) := fun n => l2Find_ev cs rs n hcl
  have h := ev_all0 (L := fun k i => spec_l24Contexts.l0 k l i cs rs) l.length (fun i => decide (AreP cs l i)) false true (fun _ => Ev.step (fun k => rfl) (ev_neg (by omega) (ev_now rfl))) ?h1 ?h2
  case h1 =>
    intro i hi _ hc y hy
    obtain ⟨c1, c2⟩ := of_decide_eq_true hc
    refine Ev.step (fun k => rfl) (ev_pos (by omega) (ev_pos (by omega) (Ev.bind (hf _) (ev_neg (by omega) ?_))))
    rw [wrap_succ hi hl]
    rcases Nat.eq_zero_or_pos i with h0 | h0
    · exact ev_neg (by omega) hy
    · rw [wrap_pred h0 (by omega)]
      exact ev_pos (by omega) (ev_pos (by omega) (ev_pos (by omega) (ev_neg (by have := c2 h0; omega) hy)))
  case h2 =>
    intro i hi _ hc
    have hc' := of_decide_eq_false hc
    refine Ev.step (fun k => rfl) (ev_pos (by omega) (ev_pos (by omega) (Ev.bind (hf _) (ev_ite (fun _ => ev_now rfl) (fun c1 => ?_)))))
    rcases Nat.eq_zero_or_pos i with h0 | h0
    · exact absurd ⟨by omega, fun h => by omega⟩ hc'
    · rw [wrap_pred h0 (by omega)]
      exact ev_pos (by omega) (ev_pos (by omega) (ev_pos (by omega) (ev_pos (Classical.byContradiction fun e => hc' ⟨by omega, fun _ => by omega⟩) (ev_now rfl))))
  refine ev_cast h ?_
  unfold areB
  cases (List.range l.length).all (fun i => decide (AreP cs l i)) <;> rfl
/-- A part behind a heading of a level. -/
def partB (cs : List S80) (p : S46) (lv : Int) : Bool :=
  if p.f0 = 1 then (if p.f1.toList = ([] : List UInt8) then false else textB p.f1 && decide ((p.f2.length : Int) = 1) && decide (1 ≤ rd p.f2 0 ∧ rd p.f2 0 ≤ mn 3 (wrap64 (lv + 1))))
  else if p.f0 = 2 then textB p.f1 && ((p.f2.length : Int) == 0)
  else if p.f0 = 3 then (if p.f1.toList = ([] : List UInt8) then decide ((p.f2.length : Int) > 0) && areB cs p.f2 else false)
  else if p.f0 = 4 then (if p.f1.toList = ([] : List UInt8) then decide ((p.f2.length : Int) = 2) && (decide (rd p.f2 0 ≠ rd p.f2 1) && (decide (findC cs (rd p.f2 0) ≥ 0) && decide (findC cs (rd p.f2 1) ≥ 0))) else false)
  else false
theorem isPart_ev (cs : List S80) (rs : List S84) (p : S46) (lv : Int) (h1 : p.f1.size ≤ 9223372036854775807) (h2 : p.f2.length ≤ 9223372036854775807) : Ev (fun k => impl_isPart.f k cs rs p.f0 p.f1 p.f2 lv) (partB cs p lv) := by
  unfold impl_isPart.f partB
  refine ev_ite (fun k1 => ?_) (fun k1 => ev_ite (fun k2 => ?_) (fun k2 => ev_ite (fun k3 => ?_) (fun k3 => ev_ite (fun k4 => ?_) (fun k4 => ?_))))
  · rw [if_pos k1]
    refine ev_ite (fun c => ev_now (if_pos c).symm) (fun c => ?_)
    rw [if_neg c]
    refine Ev.bind (isText_ev _ h1) (ev_ite (fun d => ?_) (fun d => ev_now ?_))
    · rw [d, Bool.true_and]
      refine ev_ite (fun e => ev_pos (by omega) (ev_bind0 (implIn_eq _ _ _) (ev_now ?_))) (fun e => ev_now ?_)
      · rw [decide_eq_true e, Bool.true_and]
      · rw [decide_eq_false e, Bool.false_and]
    · rw [Bool.not_eq_true] at d; rw [d]; simp
  · rw [if_neg k1, if_pos k2]
    refine Ev.bind (isText_ev _ h1) (ev_ite (fun d => ev_now ?_) (fun d => ev_now ?_))
    · rw [d, Bool.true_and]
    · rw [Bool.not_eq_true] at d; rw [d]; simp
  · rw [if_neg k1, if_neg k2, if_pos k3]
    refine ev_ite (fun c => ?_) (fun c => ev_now (if_neg c).symm)
    rw [if_pos c]
    refine ev_ite (fun d => ?_) (fun d => ev_now ?_)
    · rw [decide_eq_true d, Bool.true_and]
      exact Ev.bind (areContexts_ev cs rs p.f2 h2) (ev_now rfl)
    · rw [decide_eq_false d, Bool.false_and]
  · rw [if_neg k1, if_neg k2, if_neg k3, if_pos k4]
    refine ev_ite (fun c => ?_) (fun c => ev_now (if_neg c).symm)
    rw [if_pos c]
    refine ev_ite (fun d => ?_) (fun d => ev_now ?_)
    · rw [decide_eq_true d, Bool.true_and]
      refine ev_pos (by omega) (ev_pos (by omega) (ev_ite (fun e => ev_now ?_) (fun e => ?_)))
      · rw [decide_eq_false (by simpa using e), Bool.false_and]
      · rw [decide_eq_true e, Bool.true_and]
        refine ev_bind0 (indexOf_eq _ _ _) (ev_ite (fun g => ?_) (fun g => ev_now ?_))
        · rw [decide_eq_true g, Bool.true_and]
          exact ev_bind0 (indexOf_eq _ _ _) (ev_now rfl)
        · rw [decide_eq_false g, Bool.false_and]
    · rw [decide_eq_false d, Bool.false_and]
  · rw [if_neg k1, if_neg k2, if_neg k3, if_neg k4]
    exact ev_now rfl
theorem least_eq (a : Int) : spec_l1Least.f a 3 = some (mn 3 a) := by
  unfold spec_l1Least.f mn
  by_cases h : a < 3
  · rw [if_pos h, if_pos h]
  · rw [if_neg h, if_neg h]
theorem l24Part_ev (cs : List S80) (rs : List S84) (hcl : cs.length ≤ 9223372036854775807) (p : S46) (lv : Int) (h1 : p.f1.size ≤ 9223372036854775807) (h2 : p.f2.length ≤ 9223372036854775807) : Ev (fun k => spec_l24Part.f k cs rs p.f0 p.f1 p.f2 lv) (partB cs p lv) := by
  have hf : ∀ n, Ev (fun k => spec_l2Find.f k cs rs n) (findC cs n) := fun n => l2Find_ev cs rs n hcl
  unfold spec_l24Part.f partB
  refine ev_ite (fun k1 => ?_) (fun k1 => ev_ite (fun k2 => ?_) (fun k2 => ev_ite (fun k3 => ?_) (fun k3 => ev_ite (fun k4 => ?_) (fun k4 => ?_))))
  · rw [if_pos k1]
    refine ev_ite (fun c => ev_now (if_pos c).symm) (fun c => ?_)
    rw [if_neg c]
    refine Ev.bind (l21Text_ev _ h1) (ev_ite (fun d => ?_) (fun d => ev_now ?_))
    · rw [d, Bool.true_and]
      refine ev_ite (fun e => ev_pos (by omega) (ev_bind0 (least_eq _) (ev_bind0 (specIn_eq _ _ _) (ev_now ?_)))) (fun e => ev_now ?_)
      · rw [decide_eq_true e, Bool.true_and]
      · rw [decide_eq_false e, Bool.false_and]
    · rw [Bool.not_eq_true] at d; rw [d]; simp
  · rw [if_neg k1, if_pos k2]
    refine Ev.bind (l21Text_ev _ h1) (ev_ite (fun d => ev_now ?_) (fun d => ev_now ?_))
    · rw [d, Bool.true_and]
    · rw [Bool.not_eq_true] at d; rw [d]; simp
  · rw [if_neg k1, if_neg k2, if_pos k3]
    refine ev_ite (fun c => ?_) (fun c => ev_now (if_neg c).symm)
    rw [if_pos c]
    refine ev_ite (fun d => ?_) (fun d => ev_now ?_)
    · rw [decide_eq_true d, Bool.true_and]
      exact Ev.bind (l24Contexts_ev cs rs hcl p.f2 h2) (ev_now rfl)
    · rw [decide_eq_false d, Bool.false_and]
  · rw [if_neg k1, if_neg k2, if_neg k3, if_pos k4]
    refine ev_ite (fun c => ?_) (fun c => ev_now (if_neg c).symm)
    rw [if_pos c]
    refine ev_ite (fun d => ?_) (fun d => ev_now ?_)
    · rw [decide_eq_true d, Bool.true_and]
      refine ev_pos (by omega) (ev_pos (by omega) (ev_ite (fun e => ev_now ?_) (fun e => ?_)))
      · rw [decide_eq_false (by simpa using e), Bool.false_and]
      · rw [decide_eq_true e, Bool.true_and]
        refine Ev.bind (hf _) (ev_ite (fun g => ?_) (fun g => ev_now ?_))
        · rw [decide_eq_true g, Bool.true_and]
          exact Ev.bind (hf _) (ev_now rfl)
        · rw [decide_eq_false g, Bool.false_and]
    · rw [decide_eq_false d, Bool.false_and]
  · rw [if_neg k1, if_neg k2, if_neg k3, if_neg k4]
    exact ev_now rfl
/-- The level ahead of the part of a number. -/
def lvAt (ps : List S46) : Nat → Int
  | 0 => 0
  | i + 1 => if (rd_T46 ps i).f0 = 1 then rd (rd_T46 ps i).f2 0 else lvAt ps i
def partsB (cs : List S80) (ps : List S46) : Bool := (List.range ps.length).all (fun i => partB cs (rd_T46 ps i) (lvAt ps i))
def repOk (cs : List S80) (rs : List S84) (ps : List S46) : Bool := partsB cs ps && (recOk cs rs && decide ((ps.length : Int) ≤ 16))
theorem part_one {cs : List S80} {p : S46} {lv : Int} (h : partB cs p lv = true) (h1 : p.f0 = 1) : (p.f2.length : Int) = 1 := by
  unfold partB at h
  rw [if_pos h1] at h
  by_cases c : p.f1.toList = ([] : List UInt8)
  · rw [if_pos c] at h; exact absurd h (by simp)
  · rw [if_neg c, Bool.and_eq_true, Bool.and_eq_true] at h
    exact of_decide_eq_true h.1.2
theorem rd_mem (ps : List S46) (i : Nat) (hi : i < ps.length) : rd_T46 ps i ∈ ps := by
  unfold rd_T46
  rw [Int.toNat_natCast, getD_in hi]
  exact List.getElem_mem hi
theorem implReport_ev (cs : List S80) (rs : List S84) (ps : List S46) (hl : ps.length ≤ 9223372036854775807) (hp : ∀ p ∈ ps, p.f1.size ≤ 9223372036854775807 ∧ p.f2.length ≤ 9223372036854775807) : Ev (fun k => impl_IsValidReport.f k cs rs ps) (repOk cs rs ps) := by
  have hpart : ∀ i, i < ps.length → ∀ lv, Ev (fun k => impl_isPart.f k cs rs (rd_T46 ps i).f0 (rd_T46 ps i).f1 (rd_T46 ps i).f2 lv) (partB cs (rd_T46 ps i) lv) := fun i hi lv => isPart_ev cs rs _ lv (hp _ (rd_mem ps i hi)).1 (hp _ (rd_mem ps i hi)).2
  have hend : Ev (fun k => (impl_IsValidRecord.f k cs rs).bind fun t102 => (if t102 = true then (some (decide ((ps.length : Int) ≤ 16))) else (some false))) (recOk cs rs && decide ((ps.length : Int) ≤ 16)) := by
    refine Ev.bind (implRecord_ev cs rs) (ev_ite (fun c => ev_now ?_) (fun c => ev_now ?_))
    · rw [c, Bool.true_and]
    · rw [Bool.not_eq_true] at c; rw [c, Bool.false_and]
  have h := ev_all (L := fun k (lv : Int) i => impl_IsValidReport.l0 k ps lv ps (ps.length : Int) i cs rs) ps.length (lvAt ps) (fun i => partB cs (rd_T46 ps i) (lvAt ps i)) false (recOk cs rs && decide ((ps.length : Int) ≤ 16)) (fun _ => Ev.step (fun k => rfl) (ev_neg (by omega) hend)) ?h1 ?h2
  case h1 =>
    intro i hi _ hc y hy
    refine Ev.step (fun k => rfl) (ev_pos (by omega) (ev_pos (by omega) (ev_pos (by omega) (Ev.bind (hpart i hi _) (ev_pos hc ?_)))))
    rw [wrap_succ hi hl]
    rw [lvAt] at hy
    by_cases c : (rd_T46 ps i).f0 = 1
    · rw [if_pos c] at hy
      have := part_one hc c
      exact ev_pos c (ev_pos (by omega) hy)
    · rw [if_neg c] at hy
      exact ev_neg c hy
  case h2 =>
    intro i hi _ hc
    exact Ev.step (fun k => rfl) (ev_pos (by omega) (ev_pos (by omega) (ev_pos (by omega) (Ev.bind (hpart i hi _) (ev_neg (by rw [hc]; simp) (ev_now rfl))))))
  refine ev_cast h ?_
  unfold repOk partsB
  cases (List.range ps.length).all (fun i => partB cs (rd_T46 ps i) (lvAt ps i)) <;> simp
theorem recOk_len {cs : List S80} {rs : List S84} (h : recOk cs rs = true) : cs.length ≤ 10 ∧ rs.length ≤ 24 := by
  unfold recOk at h
  rw [Bool.and_eq_true] at h
  exact of_decide_eq_true h.1
theorem specReport_ev (cs : List S80) (rs : List S84) (ps : List S46) (hp : ∀ p ∈ ps, p.f1.size ≤ 9223372036854775807 ∧ p.f2.length ≤ 9223372036854775807) : Ev (fun k => spec_l24Good.f k cs rs ps) (repOk cs rs ps) := by
  unfold spec_l24Good.f repOk
  refine Ev.bind (specRecord_ev cs rs) (ev_ite (fun c => ?_) (fun c => ?_))
  case refine_2 =>
    rw [Bool.not_eq_true] at c
    rw [c, Bool.false_and, Bool.and_false]
    exact Ev.step (fun k => rfl) (ev_now rfl)
  rw [c, Bool.true_and]
  have hcl := (recOk_len c).1
  refine Ev.step (fun k => rfl) (ev_ite (fun d => ev_now ?_) (fun d => ?_))
  · rw [decide_eq_true_eq] at d
    rw [decide_eq_false (by omega), Bool.and_false]
  rw [decide_eq_true_eq] at d
  rw [decide_eq_true (show (ps.length : Int) ≤ 16 by omega), Bool.and_true]
  have hpart : ∀ i, i < ps.length → ∀ lv, Ev (fun k => spec_l24Part.f k cs rs (rd_T46 ps i).f0 (rd_T46 ps i).f1 (rd_T46 ps i).f2 lv) (partB cs (rd_T46 ps i) lv) := fun i hi lv => l24Part_ev cs rs (by omega) _ lv (hp _ (rd_mem ps i hi)).1 (hp _ (rd_mem ps i hi)).2
  have h := ev_all (L := fun k (lv : Int) i => spec_l24Good.l0 k ps lv i cs rs) ps.length (lvAt ps) (fun i => partB cs (rd_T46 ps i) (lvAt ps i)) false true (fun _ => Ev.step (fun k => rfl) (ev_neg (by omega) (ev_now rfl))) ?h1 ?h2
  case h1 =>
    intro i hi _ hc y hy
    refine Ev.step (fun k => rfl) (ev_pos (by omega) (ev_pos (by omega) (Ev.bind (hpart i hi _) (ev_pos hc ?_))))
    rw [wrap_succ hi (by omega)]
    rw [lvAt] at hy
    by_cases c : (rd_T46 ps i).f0 = 1
    · rw [if_pos c] at hy
      have := part_one hc c
      exact ev_pos c (ev_pos (by omega) hy)
    · rw [if_neg c] at hy
      exact ev_neg c hy
  case h2 =>
    intro i hi _ hc
    exact Ev.step (fun k => rfl) (ev_pos (by omega) (ev_pos (by omega) (Ev.bind (hpart i hi _) (ev_neg (by rw [hc]; simp) (ev_now rfl)))))
  refine ev_cast h ?_
  unfold partsB
  cases (List.range ps.length).all (fun i => partB cs (rd_T46 ps i) (lvAt ps i)) <;> simp
end Go.Proofs.Ytfkbfeghfpaopaa.X
set_option linter.unusedVariables false
namespace Go.Proofs.Ytfkbfeghfpaopaa.X
open Go.RowKit Go.Proofs.YtfkbfeghfpaopaaW.PrintWords Go.Proofs.Ytfkbfeghfpaopaa.E
def wt25 (x : S25) : Nat := x.f0.length + x.f1.length
def wt42 (x : S42) : Nat := x.f1.size + x.f2.length
end Go.Proofs.Ytfkbfeghfpaopaa.X
set_option linter.unusedVariables false
namespace Go.Proofs.Ytfkbfeghfpaopaa.X
open Go.RowKit Go.Proofs.YtfkbfeghfpaopaaW.PrintWords Go.Proofs.Ytfkbfeghfpaopaa.E
theorem laws_szContextS_ev (x : List (S82)) (g0 : x.length ≤ 9223372036854775807) (left : Int) (h0 : 0 ≤ left) (h1 : left ≤ 4611686018427387904) :
    Ev (fun k => laws_szContextS.f x left) (if ((x.length : Nat) : Int) ≤ left then left - ((x.length : Nat) : Int) else -1) := by
  unfold laws_szContextS.f
  have e0 : wrap64 (left - ((x.length : Nat) : Int)) = left - ((x.length : Nat) : Int) := wrap_id (by omega) (by omega)
  simp only [e0]
  by_cases c : ((x.length : Nat) : Int) ≤ left
  case neg => exact ev_pos (by omega) (ev_now (by first | rfl | rw [if_neg (by omega)]))
  refine ev_neg (by omega) ?_
  exact ev_now (by first | rfl | rw [if_pos (by omega)])
end Go.Proofs.Ytfkbfeghfpaopaa.X
set_option linter.unusedVariables false
namespace Go.Proofs.Ytfkbfeghfpaopaa.X
open Go.RowKit Go.Proofs.YtfkbfeghfpaopaaW.PrintWords Go.Proofs.Ytfkbfeghfpaopaa.E
theorem laws_szRelationS_ev (x : List (S86)) (g0 : x.length ≤ 9223372036854775807) (left : Int) (h0 : 0 ≤ left) (h1 : left ≤ 4611686018427387904) :
    Ev (fun k => laws_szRelationS.f x left) (if ((x.length : Nat) : Int) ≤ left then left - ((x.length : Nat) : Int) else -1) := by
  unfold laws_szRelationS.f
  have e0 : wrap64 (left - ((x.length : Nat) : Int)) = left - ((x.length : Nat) : Int) := wrap_id (by omega) (by omega)
  simp only [e0]
  by_cases c : ((x.length : Nat) : Int) ≤ left
  case neg => exact ev_pos (by omega) (ev_now (by first | rfl | rw [if_neg (by omega)]))
  refine ev_neg (by omega) ?_
  exact ev_now (by first | rfl | rw [if_pos (by omega)])
end Go.Proofs.Ytfkbfeghfpaopaa.X
set_option linter.unusedVariables false
namespace Go.Proofs.Ytfkbfeghfpaopaa.X
open Go.RowKit Go.Proofs.YtfkbfeghfpaopaaW.PrintWords Go.Proofs.Ytfkbfeghfpaopaa.E
theorem laws_szRecord_ev (x : S25) (g0 : x.f0.length ≤ 9223372036854775807) (g1 : x.f1.length ≤ 9223372036854775807) (left : Int) (h0 : 0 ≤ left) (h1 : left ≤ 4611686018427387904) :
    Ev (fun k => laws_szRecord.f (x.f0) (x.f1) left) (if (((wt25 x) : Nat) : Int) ≤ left then left - (((wt25 x) : Nat) : Int) else -1) := by
  unfold laws_szRecord.f
  unfold wt25
  refine Ev.bind (laws_szContextS_ev _ (by assumption) _ (by omega) (by omega)) ?_
  by_cases c0 : ((x.f0.length : Nat) : Int) ≤ left
  case neg =>
    rw [if_neg c0]
    exact ev_pos (by omega) (ev_now (by first | rfl | rw [if_neg (by omega)]))
  rw [if_pos c0]
  refine ev_neg (by omega) ?_
  refine Ev.bind (laws_szRelationS_ev _ (by assumption) _ (by omega) (by omega)) ?_
  by_cases c1 : ((x.f1.length : Nat) : Int) ≤ (left - ((x.f0.length : Nat) : Int))
  case neg =>
    rw [if_neg c1]
    exact ev_pos (by omega) (ev_now (by first | rfl | rw [if_neg (by omega)]))
  rw [if_pos c1]
  refine ev_neg (by omega) ?_
  exact ev_now (by first | rfl | omega | (rw [if_pos (by omega)]; omega))
end Go.Proofs.Ytfkbfeghfpaopaa.X
set_option linter.unusedVariables false
namespace Go.Proofs.Ytfkbfeghfpaopaa.X
open Go.RowKit Go.Proofs.YtfkbfeghfpaopaaW.PrintWords Go.Proofs.Ytfkbfeghfpaopaa.E
theorem laws_szIntS_ev (x : List (Int)) (g0 : x.length ≤ 9223372036854775807) (left : Int) (h0 : 0 ≤ left) (h1 : left ≤ 4611686018427387904) :
    Ev (fun k => laws_szIntS.f x left) (if ((x.length : Nat) : Int) ≤ left then left - ((x.length : Nat) : Int) else -1) := by
  unfold laws_szIntS.f
  have e0 : wrap64 (left - ((x.length : Nat) : Int)) = left - ((x.length : Nat) : Int) := wrap_id (by omega) (by omega)
  simp only [e0]
  by_cases c : ((x.length : Nat) : Int) ≤ left
  case neg => exact ev_pos (by omega) (ev_now (by first | rfl | rw [if_neg (by omega)]))
  refine ev_neg (by omega) ?_
  exact ev_now (by first | rfl | rw [if_pos (by omega)])
end Go.Proofs.Ytfkbfeghfpaopaa.X
set_option linter.unusedVariables false
namespace Go.Proofs.Ytfkbfeghfpaopaa.X
open Go.RowKit Go.Proofs.YtfkbfeghfpaopaaW.PrintWords Go.Proofs.Ytfkbfeghfpaopaa.E
theorem laws_szPart_ev (x : S42) (g0 : x.f1.size ≤ 9223372036854775807) (g1 : x.f2.length ≤ 9223372036854775807) (left : Int) (h0 : 0 ≤ left) (h1 : left ≤ 4611686018427387904) :
    Ev (fun k => laws_szPart.f (x.f0) (x.f1) (x.f2) left) (if (((wt42 x) : Nat) : Int) ≤ left then left - (((wt42 x) : Nat) : Int) else -1) := by
  unfold laws_szPart.f
  unfold wt42
  have e1 : wrap64 (left - ((x.f1.size : Nat) : Int)) = left - ((x.f1.size : Nat) : Int) := wrap_id (by omega) (by omega)
  simp only [e1]
  by_cases c1 : ((x.f1.size : Nat) : Int) ≤ left
  case neg =>
    exact ev_pos (by omega) (ev_now (by first | rfl | rw [if_neg (by omega)]))
  refine ev_neg (by omega) ?_
  refine Ev.bind (laws_szIntS_ev _ (by assumption) _ (by omega) (by omega)) ?_
  by_cases c2 : ((x.f2.length : Nat) : Int) ≤ (left - ((x.f1.size : Nat) : Int))
  case neg =>
    rw [if_neg c2]
    exact ev_pos (by omega) (ev_now (by first | rfl | rw [if_neg (by omega)]))
  rw [if_pos c2]
  refine ev_neg (by omega) ?_
  exact ev_now (by first | rfl | omega | (rw [if_pos (by omega)]; omega))
end Go.Proofs.Ytfkbfeghfpaopaa.X
set_option linter.unusedVariables false
namespace Go.Proofs.Ytfkbfeghfpaopaa.X
open Go.RowKit Go.Proofs.YtfkbfeghfpaopaaW.PrintWords Go.Proofs.Ytfkbfeghfpaopaa.E
theorem laws_szPartS_ev (x : List (S42)) (g0 : x.length ≤ 9223372036854775807) (g1 : ∀ y ∈ x, (y.f1.size ≤ 9223372036854775807) ∧ (y.f2.length ≤ 9223372036854775807)) (left : Int) (h0 : 0 ≤ left) (h1 : left ≤ 4611686018427387904) :
    Ev (fun k => laws_szPartS.f k x left) (if (((x.length + (x.map (fun y => (wt42 y))).sum) : Nat) : Int) ≤ left then left - (((x.length + (x.map (fun y => (wt42 y))).sum) : Nat) : Int) else -1) := by
  unfold laws_szPartS.f
  have e0 : wrap64 (left - ((x.length : Nat) : Int)) = left - ((x.length : Nat) : Int) := wrap_id (by omega) (by omega)
  simp only [e0]
  by_cases c : ((x.length : Nat) : Int) ≤ left
  case neg => exact ev_pos (by omega) (ev_now (by first | rfl | rw [if_neg (by omega)]))
  refine ev_neg (by omega) ?_
  have h := ev_sz (L := fun k l i => laws_szPartS.l0 k x l i) x (fun y => (wt42 y)) (fun l => Ev.step (fun k => rfl) (ev_neg (by omega) (ev_now rfl))) ?step (left - ((x.length : Nat) : Int)) (by omega) (by omega)
  case step =>
    intro l i y r l0 l1 hi hm hd hy hn
    refine Ev.step (fun k => rfl) (ev_pos (by omega) (ev_pos (by omega) ?_))
    simp only [rd_T42, Int.toNat_natCast, hd]
    have hg := g1 y hm
    obtain ⟨q0, q1⟩ := hg
    refine Ev.bind (laws_szPart_ev y (by assumption) (by assumption) l l0 l1) ?_
    by_cases c1 : (((wt42 y) : Nat) : Int) ≤ l
    case neg => rw [if_neg c1]; exact ev_pos (by omega) (ev_now (hn c1).symm)
    rw [if_pos c1]
    refine ev_neg (by omega) ?_
    rw [wrap_succ hi (by omega)]
    exact hy c1
  refine ev_cast h ?_
  by_cases c2 : (((x.map (fun y => (wt42 y))).sum : Nat) : Int) ≤ left - ((x.length : Nat) : Int)
  · rw [if_pos c2, if_pos (by omega)]; omega
  · rw [if_neg c2, if_neg (by omega)]
end Go.Proofs.Ytfkbfeghfpaopaa.X
set_option linter.unusedVariables false
namespace Go.Proofs.Ytfkbfeghfpaopaa.X
open Go.RowKit Go.Proofs.YtfkbfeghfpaopaaW.PrintWords Go.Proofs.Ytfkbfeghfpaopaa.E
def conv82 (x : S82) : S80 := ⟨x.f0, x.f1⟩
theorem laws_toContext_ev (x : S82) : Ev (fun k => laws_toContext.f (x.f0) (x.f1)) ((conv82 x).f0, (conv82 x).f1) := by
  unfold laws_toContext.f
  exact ev_now rfl
end Go.Proofs.Ytfkbfeghfpaopaa.X
set_option linter.unusedVariables false
namespace Go.Proofs.Ytfkbfeghfpaopaa.X
open Go.RowKit Go.Proofs.YtfkbfeghfpaopaaW.PrintWords Go.Proofs.Ytfkbfeghfpaopaa.E
theorem laws_toContextS_ev (x : List (S82)) (hb : x.length ≤ 1048576) : Ev (fun k => laws_toContextS.f k x) (x.map conv82) := by
  unfold laws_toContextS.f
  refine ev_pos (by omega) (ev_pos (by simp only [Int.toNat_natCast]; omega) ?_)
  simp only [Int.toNat_natCast]
  refine ev_fill (L := fun k o i => laws_toContextS.l0 k x o i) x conv82 _ (fun o => Ev.step (fun k => rfl) (ev_neg (by omega) (ev_now rfl))) ?_
  intro o i y r hi hx hd hl hk
  refine Ev.step (fun k => rfl) (ev_pos (by omega) (ev_pos (by omega) ?_))
  simp only [rd_T82, Int.toNat_natCast, hd]
  refine Ev.bind (laws_toContext_ev y) ?_
  refine ev_pos (by omega) ?_
  rw [wrap_succ hi (by omega)]
  exact hk
end Go.Proofs.Ytfkbfeghfpaopaa.X
set_option linter.unusedVariables false
namespace Go.Proofs.Ytfkbfeghfpaopaa.X
open Go.RowKit Go.Proofs.YtfkbfeghfpaopaaW.PrintWords Go.Proofs.Ytfkbfeghfpaopaa.E
def conv86 (x : S86) : S84 := ⟨x.f0, x.f1⟩
theorem laws_toRelation_ev (x : S86) : Ev (fun k => laws_toRelation.f (x.f0) (x.f1)) ((conv86 x).f0, (conv86 x).f1) := by
  unfold laws_toRelation.f
  exact ev_now rfl
end Go.Proofs.Ytfkbfeghfpaopaa.X
set_option linter.unusedVariables false
namespace Go.Proofs.Ytfkbfeghfpaopaa.X
open Go.RowKit Go.Proofs.YtfkbfeghfpaopaaW.PrintWords Go.Proofs.Ytfkbfeghfpaopaa.E
theorem laws_toRelationS_ev (x : List (S86)) (hb : x.length ≤ 1048576) : Ev (fun k => laws_toRelationS.f k x) (x.map conv86) := by
  unfold laws_toRelationS.f
  refine ev_pos (by omega) (ev_pos (by simp only [Int.toNat_natCast]; omega) ?_)
  simp only [Int.toNat_natCast]
  refine ev_fill (L := fun k o i => laws_toRelationS.l0 k x o i) x conv86 _ (fun o => Ev.step (fun k => rfl) (ev_neg (by omega) (ev_now rfl))) ?_
  intro o i y r hi hx hd hl hk
  refine Ev.step (fun k => rfl) (ev_pos (by omega) (ev_pos (by omega) ?_))
  simp only [rd_T86, Int.toNat_natCast, hd]
  refine Ev.bind (laws_toRelation_ev y) ?_
  refine ev_pos (by omega) ?_
  rw [wrap_succ hi (by omega)]
  exact hk
end Go.Proofs.Ytfkbfeghfpaopaa.X
set_option linter.unusedVariables false
namespace Go.Proofs.Ytfkbfeghfpaopaa.X
open Go.RowKit Go.Proofs.YtfkbfeghfpaopaaW.PrintWords Go.Proofs.Ytfkbfeghfpaopaa.E
def conv25 (x : S25) : S33 := ⟨(x.f0.map conv82), (x.f1.map conv86)⟩
theorem laws_toRecord_ev (x : S25) (hb : (wt25 x) ≤ 1048576) : Ev (fun k => laws_toRecord.f k (x.f0) (x.f1)) ((conv25 x).f0, (conv25 x).f1) := by
  unfold laws_toRecord.f
  unfold wt25 at hb
  refine Ev.bind (laws_toContextS_ev x.f0 (by omega)) ?_
  refine Ev.bind (laws_toRelationS_ev x.f1 (by omega)) ?_
  exact ev_now rfl
end Go.Proofs.Ytfkbfeghfpaopaa.X
set_option linter.unusedVariables false
namespace Go.Proofs.Ytfkbfeghfpaopaa.X
open Go.RowKit Go.Proofs.YtfkbfeghfpaopaaW.PrintWords Go.Proofs.Ytfkbfeghfpaopaa.E
theorem laws_toIntS_ev (x : List (Int)) (hb : x.length ≤ 1048576) : Ev (fun k => laws_toIntS.f k x) (x) := by
  unfold laws_toIntS.f
  refine ev_pos (by omega) (ev_pos (by simp only [Int.toNat_natCast]; omega) ?_)
  simp only [Int.toNat_natCast]
  refine ev_cast (r := x.map id) ?_ (List.map_id x)
  refine ev_fill (L := fun k o i => laws_toIntS.l0 k x o i) x id _ (fun o => Ev.step (fun k => rfl) (ev_neg (by omega) (ev_now rfl))) ?_
  intro o i y r hi hx hd hl hk
  refine Ev.step (fun k => rfl) (ev_pos (by omega) (ev_pos (by omega) ?_))
  simp only [rd, Int.toNat_natCast, hd]
  refine ev_pos (by omega) ?_
  rw [wrap_succ hi (by omega)]
  exact hk
end Go.Proofs.Ytfkbfeghfpaopaa.X
set_option linter.unusedVariables false
namespace Go.Proofs.Ytfkbfeghfpaopaa.X
open Go.RowKit Go.Proofs.YtfkbfeghfpaopaaW.PrintWords Go.Proofs.Ytfkbfeghfpaopaa.E
def conv42 (x : S42) : S46 := ⟨x.f0, x.f1, x.f2⟩
theorem laws_toPart_ev (x : S42) (hb : (wt42 x) ≤ 1048576) : Ev (fun k => laws_toPart.f k (x.f0) (x.f1) (x.f2)) ((conv42 x).f0, (conv42 x).f1, (conv42 x).f2) := by
  unfold laws_toPart.f
  unfold wt42 at hb
  refine Ev.bind (laws_toIntS_ev x.f2 (by omega)) ?_
  exact ev_now rfl
end Go.Proofs.Ytfkbfeghfpaopaa.X
set_option linter.unusedVariables false
namespace Go.Proofs.Ytfkbfeghfpaopaa.X
open Go.RowKit Go.Proofs.YtfkbfeghfpaopaaW.PrintWords Go.Proofs.Ytfkbfeghfpaopaa.E
theorem laws_toPartS_ev (x : List (S42)) (hb : (x.length + (x.map (fun y => (wt42 y))).sum) ≤ 1048576) : Ev (fun k => laws_toPartS.f k x) (x.map conv42) := by
  unfold laws_toPartS.f
  refine ev_pos (by omega) (ev_pos (by simp only [Int.toNat_natCast]; omega) ?_)
  simp only [Int.toNat_natCast]
  refine ev_fill (L := fun k o i => laws_toPartS.l0 k x o i) x conv42 _ (fun o => Ev.step (fun k => rfl) (ev_neg (by omega) (ev_now rfl))) ?_
  intro o i y r hi hx hd hl hk
  refine Ev.step (fun k => rfl) (ev_pos (by omega) (ev_pos (by omega) ?_))
  simp only [rd_T42, Int.toNat_natCast, hd]
  have hq := le_sum (f := fun y => (wt42 y)) (List.mem_of_getElem? hx)
  refine Ev.bind (laws_toPart_ev y (by omega)) ?_
  refine ev_pos (by omega) ?_
  rw [wrap_succ hi (by omega)]
  exact hk
end Go.Proofs.Ytfkbfeghfpaopaa.X
set_option linter.unusedVariables false
namespace Go.Proofs.Ytfkbfeghfpaopaa.X
open Go.RowKit Go.Proofs.YtfkbfeghfpaopaaW.PrintWords Go.Proofs.Ytfkbfeghfpaopaa.E
theorem laws_eqContext_ev (x : S80) : Ev (fun k => laws_eqContext.f (x.f0) (x.f1) (x.f0) (x.f1)) true := by
  unfold laws_eqContext.f
  repeat' (first | exact ev_now rfl | refine ev_pos rfl ?_ | refine ev_neg (by simp) ?_)
end Go.Proofs.Ytfkbfeghfpaopaa.X
set_option linter.unusedVariables false
namespace Go.Proofs.Ytfkbfeghfpaopaa.X
open Go.RowKit Go.Proofs.YtfkbfeghfpaopaaW.PrintWords Go.Proofs.Ytfkbfeghfpaopaa.E
theorem laws_eqContextS_ev (x : List (S80)) (hl0 : x.length ≤ 9223372036854775807) : Ev (fun k => laws_eqContextS.f k x x) true := by
  unfold laws_eqContextS.f
  refine ev_pos rfl ?_
  refine ev_same (L := fun k i => laws_eqContextS.l0 k x x i) x.length (Ev.step (fun k => rfl) (ev_neg (by omega) (ev_now rfl))) ?_
  intro i hi hk
  refine Ev.step (fun k => rfl) (ev_pos (by omega) (ev_pos (by omega) (ev_pos (by omega) ?_)))
  refine Ev.bind (laws_eqContext_ev _) ?_
  refine ev_pos rfl ?_
  rw [wrap_succ hi (by omega)]
  exact hk
end Go.Proofs.Ytfkbfeghfpaopaa.X
set_option linter.unusedVariables false
namespace Go.Proofs.Ytfkbfeghfpaopaa.X
open Go.RowKit Go.Proofs.YtfkbfeghfpaopaaW.PrintWords Go.Proofs.Ytfkbfeghfpaopaa.E
theorem laws_eqRelation_ev (x : S84) : Ev (fun k => laws_eqRelation.f (x.f0) (x.f1) (x.f0) (x.f1)) true := by
  unfold laws_eqRelation.f
  repeat' (first | exact ev_now rfl | refine ev_pos rfl ?_ | refine ev_neg (by simp) ?_)
end Go.Proofs.Ytfkbfeghfpaopaa.X
set_option linter.unusedVariables false
namespace Go.Proofs.Ytfkbfeghfpaopaa.X
open Go.RowKit Go.Proofs.YtfkbfeghfpaopaaW.PrintWords Go.Proofs.Ytfkbfeghfpaopaa.E
theorem laws_eqRelationS_ev (x : List (S84)) (hl0 : x.length ≤ 9223372036854775807) : Ev (fun k => laws_eqRelationS.f k x x) true := by
  unfold laws_eqRelationS.f
  refine ev_pos rfl ?_
  refine ev_same (L := fun k i => laws_eqRelationS.l0 k x x i) x.length (Ev.step (fun k => rfl) (ev_neg (by omega) (ev_now rfl))) ?_
  intro i hi hk
  refine Ev.step (fun k => rfl) (ev_pos (by omega) (ev_pos (by omega) (ev_pos (by omega) ?_)))
  refine Ev.bind (laws_eqRelation_ev _) ?_
  refine ev_pos rfl ?_
  rw [wrap_succ hi (by omega)]
  exact hk
end Go.Proofs.Ytfkbfeghfpaopaa.X
set_option linter.unusedVariables false
namespace Go.Proofs.Ytfkbfeghfpaopaa.X
open Go.RowKit Go.Proofs.YtfkbfeghfpaopaaW.PrintWords Go.Proofs.Ytfkbfeghfpaopaa.E
theorem laws_eqRecord_ev (x : S33) (hl0 : x.f0.length ≤ 9223372036854775807) (hl1 : x.f1.length ≤ 9223372036854775807) : Ev (fun k => laws_eqRecord.f k (x.f0) (x.f1) (x.f0) (x.f1)) true := by
  unfold laws_eqRecord.f
  repeat' (first | exact ev_now rfl | refine ev_pos rfl ?_ | refine ev_neg (by simp) ?_ | refine Ev.bind (laws_eqContextS_ev _ (by assumption)) ?_ | refine Ev.bind (laws_eqRelationS_ev _ (by assumption)) ?_)
end Go.Proofs.Ytfkbfeghfpaopaa.X
set_option linter.unusedVariables false
namespace Go.Proofs.Ytfkbfeghfpaopaa.X
open Go.RowKit Go.Proofs.YtfkbfeghfpaopaaW.PrintWords Go.Proofs.Ytfkbfeghfpaopaa.E
theorem laws_eqIntS_ev (x : List (Int)) (hl0 : x.length ≤ 9223372036854775807) : Ev (fun k => laws_eqIntS.f k x x) true := by
  unfold laws_eqIntS.f
  refine ev_pos rfl ?_
  refine ev_same (L := fun k i => laws_eqIntS.l0 k x x i) x.length (Ev.step (fun k => rfl) (ev_neg (by omega) (ev_now rfl))) ?_
  intro i hi hk
  refine Ev.step (fun k => rfl) (ev_pos (by omega) (ev_pos (by omega) (ev_pos (by omega) ?_)))
  refine ev_pos rfl ?_
  rw [wrap_succ hi (by omega)]
  exact hk
end Go.Proofs.Ytfkbfeghfpaopaa.X
set_option linter.unusedVariables false
namespace Go.Proofs.Ytfkbfeghfpaopaa.X
open Go.RowKit Go.Proofs.YtfkbfeghfpaopaaW.PrintWords Go.Proofs.Ytfkbfeghfpaopaa.E
theorem laws_eqPart_ev (x : S46) (hl0 : x.f2.length ≤ 9223372036854775807) : Ev (fun k => laws_eqPart.f k (x.f0) (x.f1) (x.f2) (x.f0) (x.f1) (x.f2)) true := by
  unfold laws_eqPart.f
  repeat' (first | exact ev_now rfl | refine ev_pos rfl ?_ | refine ev_neg (by simp) ?_ | refine Ev.bind (laws_eqIntS_ev _ (by assumption)) ?_)
end Go.Proofs.Ytfkbfeghfpaopaa.X
set_option linter.unusedVariables false
namespace Go.Proofs.Ytfkbfeghfpaopaa.X
open Go.RowKit Go.Proofs.YtfkbfeghfpaopaaW.PrintWords Go.Proofs.Ytfkbfeghfpaopaa.E
theorem laws_eqPartS_ev (x : List (S46)) (hl0 : x.length ≤ 9223372036854775807) (hl1 : ∀ y ∈ x, (y.f2.length ≤ 9223372036854775807)) : Ev (fun k => laws_eqPartS.f k x x) true := by
  unfold laws_eqPartS.f
  refine ev_pos rfl ?_
  refine ev_same (L := fun k i => laws_eqPartS.l0 k x x i) x.length (Ev.step (fun k => rfl) (ev_neg (by omega) (ev_now rfl))) ?_
  intro i hi hk
  refine Ev.step (fun k => rfl) (ev_pos (by omega) (ev_pos (by omega) (ev_pos (by omega) ?_)))
  have hy := hl1 _ (List.getElem_mem hi)
  have hr : rd_T46 x (i : Int) = x[i] := by simp [rd_T46, List.getD_eq_getElem?_getD, List.getElem?_eq_getElem hi]
  rw [hr]
  refine Ev.bind (laws_eqPart_ev _ (by first | exact hy | exact hy)) ?_
  refine ev_pos rfl ?_
  rw [wrap_succ hi (by omega)]
  exact hk
end Go.Proofs.Ytfkbfeghfpaopaa.X
set_option linter.unusedVariables false
set_option linter.unusedSimpArgs false
namespace Go.Proofs.Ytfkbfeghfpaopaa.Pure
open Go.RowKit Go.Proofs.Ytfkbfeghfpaopaa.X Go.Proofs.YtfkbfeghfpaopaaW.PrintWords Go.Proofs.Ytfkbfeghfpaopaa.E
theorem FnExactIsValidReport : PureFnExactIsValidReport := by
  intro x ps hx hp
  unfold laws_FnExactIsValidReport.f
  refine ev_get (Ev.bind (laws_szRecord_ev x hx.1.1 hx.2.1 1048576 (by omega) (by omega)) ?_)
  by_cases c : (((wt25 x) : Nat) : Int) ≤ 1048576
  case neg => rw [if_neg c]; exact ev_pos (by omega) (ev_now rfl)
  rw [if_pos c]
  refine ev_neg (by omega) (Ev.bind (laws_szPartS_ev ps hp.1 (fun y hy => ⟨(hp.2 y hy).2.1, (hp.2 y hy).2.2.1⟩) _ (by omega) (by omega)) ?_)
  by_cases d : (((ps.length + (ps.map (fun y => (wt42 y))).sum) : Nat) : Int) ≤ 1048576 - (((wt25 x) : Nat) : Int)
  case neg => rw [if_neg d]; exact ev_pos (by omega) (ev_now rfl)
  rw [if_pos d]
  refine ev_neg (by omega) ?_
  have htr := laws_toRecord_ev x (by omega)
  have htp := laws_toPartS_ev ps (by omega)
  have hw : ∀ p ∈ ps.map conv42, p.f1.size ≤ 9223372036854775807 ∧ p.f2.length ≤ 9223372036854775807 := by
    intro p hp'
    obtain ⟨y, hy, rfl⟩ := List.mem_map.1 hp'
    exact ⟨(hp.2 y hy).2.1, (hp.2 y hy).2.2.1⟩
  have hl : (ps.map conv42).length ≤ 9223372036854775807 := by rw [List.length_map]; exact hp.1
  have hsp := specReport_ev (conv25 x).f0 (conv25 x).f1 (ps.map conv42) hw
  have him := implReport_ev (conv25 x).f0 (conv25 x).f1 (ps.map conv42) hl hw
  have heq := laws_eqRecord_ev (conv25 x) (by show (x.f0.map conv82).length ≤ _; rw [List.length_map]; exact hx.1.1) (by show (x.f1.map conv86).length ≤ _; rw [List.length_map]; exact hx.2.1)
  have heqp := laws_eqPartS_ev (ps.map conv42) hl (fun y hy => (hw y hy).2)
  refine Ev.bind htr (Ev.bind htp (Ev.bind (show Ev (fun k => spec_IsValidReport.f k (conv25 x).f0 (conv25 x).f1 (ps.map conv42)) _ from Ev.bind hsp (ev_now rfl)) (Ev.bind htr (Ev.bind htp (Ev.bind him (ev_neg (by simp) ?_))))))
  exact Ev.bind htr (Ev.bind heq (ev_pos rfl (Ev.bind htp (Ev.bind heqp (ev_pos rfl (ev_now rfl))))))
end Go.Proofs.Ytfkbfeghfpaopaa.Pure
namespace Go.Proofs.Ytfkbfeghfpaopaa.fnExactIsValidReport
open Go.ChangeShapes Go.WideShapes Go.ChangeAt Go.RowKit Go.Joins Go.Proofs.YtfkbfeghfpaopaaW.PrintWords Go.Proofs.Ytfkbfeghfpaopaa.Open Go.Proofs.Ytfkbfeghfpaopaa.X
open Go.ChangeMaps (open_string shut_string)
set_option linter.unusedVariables false
theorem own : ownKnob Try.prog.godebug = none := by kernel_rfl
theorem laidOut : laidOutB Try.prog = true := by kernel_rfl
set_option maxRecDepth 100000 in
theorem lifted (os : Os) (started : os.Started) (H : Type) (enc : TypeId × Value → H) :
    ReturnsInHanded {} Try.checked os 3 .any (Rows.fnExactIsValidReportSpec.pre6 enc Try.prog Try.f3 Rows.fnExactIsValidReportRow.domain false) (Rows.fnExactIsValidReportSpec.post enc Try.prog Try.f3 false true false false) := by
  refine returnsInHanded_of_change_sized (C := Try.checked) own started (by kernel_rfl) Try.func3
    (ChangeSpec.witness6 (enc := enc) (C := Try.checked) false ⟨#[], #[.agg #[.slice none 0 0, .slice none 0 0], .slice none 0 0], []⟩ 8 (by kernel_rfl) (by kernel_rfl) (by kernel_rfl) (by kernel_rfl)) ?_
  intro W base args ds gs before hval0 hW hcnd hsz0 _
  have hval : ∀ (j : Nat) t v, Try.f3.params[j]? = some t → args[j]? = some v → Value.okWide Try.prog W .any base t v := hval0
  have hW' := hW
  obtain ⟨p, q, hA0, hV, rfl, hfz, hnd⟩ := hW
  have hA : DataW.TrodAll enc Try.prog W 0 (fun _ => true) true Try.f3.params.toList args.toList ds p := hA0
  rw [Try.params3] at hA hval
  obtain ⟨v0, vs0, d0, ds0, p0, q0, hargs, rfl, rfl, h0, r0⟩ := trodAll_cons hA
  obtain ⟨v1, vs1, d1, ds1, p1, q1, rfl, rfl, rfl, h1, r1⟩ := trodAll_cons r0
  obtain ⟨rfl, rfl, rfl⟩ := trodAll_nil r1
  obtain rfl : args = #[v0, v1] := by cases args; simp_all
  obtain ⟨rfl, rfl⟩ := trodVars_none hV
  have kk0 := h0
  have lt0 : ∀ x ∈ p0, x.block < W.heap.size := by obtain ⟨m, hm⟩ := kk0; exact DataW.trod_lt m _ _ _ hm
  obtain ⟨a0, cs0, rfl, hK0, g0⟩ := arg_agg op25 (by obtain ⟨cs, e, _⟩ := okWide_struct Try.underlying25 (hval 0 25 v0 rfl rfl); exact ⟨cs, e⟩) h0
  obtain ⟨A0_0, c0_0, A0_1, c0_1, he0, hc0_0, hr0_0, hc0_1, hr0_1⟩ := k25_open hK0
  obtain rfl : cs0 = #[.slice A0_0 a0.f0.length c0_0, .slice A0_1 a0.f1.length c0_1] := by cases cs0; simp_all
  have kk1 := h1
  have lt1 : ∀ x ∈ p1, x.block < W.heap.size := by obtain ⟨m, hm⟩ := kk1; exact DataW.trod_lt m _ _ _ hm
  obtain ⟨A1, c1, a1, rfl, hc1, hr1, g1⟩ := arg_slice op26 (okWide_slice Try.underlying26 (hval 1 26 v1 rfl rfl)) h1
  clear hA0 hval0 hsz0
  obtain ⟨k, hk⟩ := Pure.FnExactIsValidReport a0 a1 g0 g1
  refine (X.laws_FnExactIsValidReport.calls k _ _ a0.f0 _ _ a0.f1 _ _ a1 true W hr0_0 hc0_0 hr0_1 hc0_1 hr1 hc1 hk (Aside0.mk rfl)).mono ?_
  rintro e W' ⟨he, bel0⟩
  have bel : Below W.heap.size W W' := by first | exact bel0 | exact bel0.below
  subst he
  exact ⟨_, rfl, _, _, _, [], _, [], hW', trodAll_mk1 (shut_bool Try.underlying4 _), (trodAll_cons_mk (Below.trod laidOut (by kernel_rfl) (of_decide_eq_true (by kernel_rfl)) kk0 bel lt0) (trodAll_cons_mk (Below.trod laidOut (by kernel_rfl) (of_decide_eq_true (by kernel_rfl)) kk1 bel lt1) trodAll_mk0)), rfl, bel.frame _, fun h => by cases h⟩
theorem over : Rows.fnExactIsValidReportRow.holds Try.pinned (OpenSpec.ofChange Rows.fnExactIsValidReportSpec) :=
  OpenClaim.holds_of_wide 3 Try.f3 rfl rfl rfl rfl rfl rfl rfl ⟨rfl, rfl, rfl, rfl, rfl⟩ rfl rfl rfl rfl rfl (by kernel_rfl) Try.func3 (by kernel_rfl)
    (of_decide_eq_true (by kernel_rfl)) (by unfold Func.isWrapper; first | (rw [if_pos (by decide +kernel)]; kernel_rfl) | (rw [if_neg (by decide +kernel)]; exact ⟨rfl, rfl⟩))
    (fun os started H enc _ => lifted os started H enc)
theorem proved : Rows.FnExactIsValidReportSaid := over
#print axioms proved
end Go.Proofs.Ytfkbfeghfpaopaa.fnExactIsValidReport
namespace Go.Proofs.Ytfkbfeghfpaopaa
/-- The row, under a short name, for the claim. -/
theorem fnExactIsValidReport_holds : Rows.FnExactIsValidReportSaid := fnExactIsValidReport.proved
end Go.Proofs.Ytfkbfeghfpaopaa
