/- For every log and log record the law FnExactAppendRecord answers true, the tables lying as the program's own text lays them
This file (part 5 of 5) holds what the proof needs: plain functions with rounds and contracts written by programs of this work over the translation, and the lemmas. -/
import Derived.Test.YtblgaejagebeoaaDoorZFnExactAppendRecord2
import Derived.Test.YtblgaejagebeoaaDoorZFnExactAppendRecord3
import Derived.Test.YtblgaejagebeoaaDoorZFnExactAppendRecord4
import Derived.Test.YtblgaejagebeoaaDoorZFnExactAppendRecord1
import Derived.ChangeArms
import Derived.DataReads
import Derived.Deep.Slices
import Derived.ChangeOld
import Derived.OpenShut
import Derived.Lib.ItoaNum
import Derived.Lib.ItoaLen
import Derived.Lib.IndexAny
import Derived.Laws.Strings
import Derived.Test.YtblgaejagebeoaaDoorTie
import Derived.Test.YtblgaejagebeoaaDoorCards
import Derived.Test.YtblgaejagebeoaaDoorRows
import Derived.WalkKit
import Derived.ProofKit
import Derived.ShutString
import Derived.Below
import Derived.SizedLaws
import Derived.Lib.SmallJoins
import Derived.LaidMore
import Derived.Stop.Joined
import Derived.Lib.LaidTab
import Derived.LaidSub
import Derived.Handed
import Derived.SevenTiedAt
namespace Go.Proofs.YtblgaejagebeoaaDoor.X
open Go.RowKit Go.Proofs.YtblgaejagebeoaaDoorW.PrintWords Go.Proofs.YtblgaejagebeoaaDoorW.PrintLast Go.Proofs.YtblgaejagebeoaaDoorW.PrintMore
attribute [local go_sem] max2_int min2_int max_two min_two max_three min_three max_four min_four   -- for this text's walks alone
set_option linter.unusedVariables false
set_option linter.unusedSimpArgs false
attribute [-simp] ByteArray.size_append ByteArray.size_extract
attribute [-go_sem] ByteArray.size_append'

/-! ### laws_FnExactAppendRecord: function 8 -/
def laws_FnExactAppendRecord.f (k : Nat) (a0_0 : ByteArray) (a0_1 : ByteArray) (a0_2 : Int) (a1_0 : ByteArray) (a1_1 : ByteArray) : Option (Bool) := (laws_szLog.f a0_0 a0_1 a0_2 1048576).bind fun t103 => (if t103 < 0 then (some true) else ((laws_szLogRecord.f a1_0 a1_1 t103).bind fun t104 => (if t104 < 0 then (some true) else ((laws_toLog.f a0_0 a0_1 a0_2).bind fun bt105 => ((laws_toLogRecord.f a1_0 a1_1).bind fun bt108 => ((spec_AppendRecord.f k bt105.1 bt105.2.1 bt105.2.2 bt108.1 bt108.2).bind fun bt110 => ((laws_toLog.f a0_0 a0_1 a0_2).bind fun bt115 => ((laws_toLogRecord.f a1_0 a1_1).bind fun bt118 => ((impl_AppendRecord.f k bt115.1 bt115.2.1 bt115.2.2 bt118.1 bt118.2).bind fun bt120 => ((laws_eqLog.f bt120.1 bt120.2.1 bt120.2.2.1 bt110.1 bt110.2.1 bt110.2.2.1).bind fun t125 => (if t125 = true then (if bt120.2.2.2 = bt110.2.2.2 then (some true) else (some false)) else (some false))))))))))))
theorem laws_FnExactAppendRecord.mono : ∀ a0 a1 a2 a3 a4 k, LeO (laws_FnExactAppendRecord.f k a0 a1 a2 a3 a4) (laws_FnExactAppendRecord.f (k + 1) a0 a1 a2 a3 a4) := by
 intro a0 a1 a2 a3 a4 k
 unfold laws_FnExactAppendRecord.f
 repeat' first
   | (with_reducible exact impl_AppendRecord.mono _ _ _ _ _ _)
   | (with_reducible exact spec_AppendRecord.mono _ _ _ _ _ _)
   | (with_reducible exact LeO.refl _)
   | (with_reducible exact LeO.none _)
   | (with_reducible refine LeO.ite ?_ ?_)
   | (with_reducible refine LeO.bind ?_ (fun _ => ?_))
   | exact impl_AppendRecord.mono _ _ _ _ _ _
   | exact spec_AppendRecord.mono _ _ _ _ _ _
   | exact LeO.none _
   | refine LeO.ite ?_ ?_
   | refine LeO.bind ?_ (fun _ => ?_)
def laws_FnExactAppendRecord.T8 : Bool × List (List Nat × List Nat) := (true, [([], []), ([0], [0]), ([], []), ([2, 1], [2]), ([1, 3, 3], [1, 3]), ([4], [4]), ([5], [5]), ([5], [5]), ([], []), ([8, 6, 4, 0, 1, 2, 3, 4, 5, 6, 8], [6, 8]), ([7, 9, 0, 1, 2, 3, 4, 5, 6, 7, 8, 9], [7])])
def laws_FnExactAppendRecord.B8 : List Nat := [0, 1, 0, 7, 15, 31, 63, 63, 0, 383, 1023]
theorem laws_FnExactAppendRecord.tab8 : rtab .any (opsOf Tryd.f8 8) = laws_FnExactAppendRecord.T8 := by kernel_rfl
theorem laws_FnExactAppendRecord.bits8 : waitsOk laws_FnExactAppendRecord.T8.2 laws_FnExactAppendRecord.B8 = true := by kernel_rfl
def laws_FnExactAppendRecord.T9 : Bool × List (List Nat × List Nat) := (true, [([], []), ([0], [0]), ([], []), ([2, 1], [2]), ([1, 3, 3], [1, 3]), ([4], [4]), ([5], [5]), ([5], [5]), ([], []), ([8, 6, 4, 0, 1, 2, 3, 4, 5, 6, 8], [6, 8]), ([7, 9, 0, 1, 2, 3, 4, 5, 6, 7, 8, 9], [7])])
def laws_FnExactAppendRecord.B9 : List Nat := [0, 1, 0, 7, 15, 31, 63, 63, 0, 383, 1023]
theorem laws_FnExactAppendRecord.tab9 : rtab .any (opsOf Tryd.f8 9) = laws_FnExactAppendRecord.T9 := by kernel_rfl
theorem laws_FnExactAppendRecord.bits9 : waitsOk laws_FnExactAppendRecord.T9.2 laws_FnExactAppendRecord.B9 = true := by kernel_rfl
set_option maxHeartbeats 8000000 in
set_option maxRecDepth 100000 in
theorem laws_FnExactAppendRecord.calls (k : Nat) (a0_0 : ByteArray) (a0_1 : ByteArray) (a0_2 : Int) (a1_0 : ByteArray) (a1_1 : ByteArray) (r : Bool) (w : World) (hG : GT w) (h : laws_FnExactAppendRecord.f k a0_0 a0_1 a0_2 a1_0 a1_1 = some r) (ht_ : Aside0 (r = true)) :
  Calls Tryd.prog 8 #[.agg #[.string a0_0, .string a0_1, .int .i64 a0_2], .agg #[.string a1_0, .string a1_1]] w fun e w' => e = .returned (.bool r) ∧ Below w.heap.size w w' := by
 have hu36 := Tryd.underlying36
 have hu23 := Tryd.underlying23
 have hu31 := Tryd.underlying31
 have HG := Aside0.mk hG
 clear hG
 have HB := Aside0.mk (Below.refl w.heap.size w)
 have H : ((laws_szLog.f a0_0 a0_1 a0_2 1048576).bind fun t103 => (if t103 < 0 then (some true) else ((laws_szLogRecord.f a1_0 a1_1 t103).bind fun t104 => (if t104 < 0 then (some true) else ((laws_toLog.f a0_0 a0_1 a0_2).bind fun bt105 => ((laws_toLogRecord.f a1_0 a1_1).bind fun bt108 => ((spec_AppendRecord.f k bt105.1 bt105.2.1 bt105.2.2 bt108.1 bt108.2).bind fun bt110 => ((laws_toLog.f a0_0 a0_1 a0_2).bind fun bt115 => ((laws_toLogRecord.f a1_0 a1_1).bind fun bt118 => ((impl_AppendRecord.f k bt115.1 bt115.2.1 bt115.2.2 bt118.1 bt118.2).bind fun bt120 => ((laws_eqLog.f bt120.1 bt120.2.1 bt120.2.2.1 bt110.1 bt110.2.1 bt110.2.2.1).bind fun t125 => (if t125 = true then (if bt120.2.2.2 = bt110.2.2.2 then (some true) else (some false)) else (some false))))))))))))) = some r := h
 clear h
 replace H := Option.bind_eq_some_iff.mp H
 obtain ⟨t103, A30, H⟩ := H
 replace H : (if t103 < 0 then (some true) else ((laws_szLogRecord.f a1_0 a1_1 t103).bind fun t104 => (if t104 < 0 then (some true) else ((laws_toLog.f a0_0 a0_1 a0_2).bind fun bt105 => ((laws_toLogRecord.f a1_0 a1_1).bind fun bt108 => ((spec_AppendRecord.f k bt105.1 bt105.2.1 bt105.2.2 bt108.1 bt108.2).bind fun bt110 => ((laws_toLog.f a0_0 a0_1 a0_2).bind fun bt115 => ((laws_toLogRecord.f a1_0 a1_1).bind fun bt118 => ((impl_AppendRecord.f k bt115.1 bt115.2.1 bt115.2.2 bt118.1 bt118.2).bind fun bt120 => ((laws_eqLog.f bt120.1 bt120.2.1 bt120.2.2.1 bt110.1 bt110.2.1 bt110.2.2.1).bind fun t125 => (if t125 = true then (if bt120.2.2.2 = bt110.2.2.2 then (some true) else (some false)) else (some false)))))))))))) = some r := H
 have A3 := Aside0.mk A30
 clear A30
 by_cases c4 : t103 < 0
 ·rw [if_pos c4] at H
  have c4b0 : decide (t103 < 0) = true := decide_eq_true c4
  clear c4
  obtain rfl := Option.some.inj H
  go_enter Tryd.func8, Tryd.ntmps8
  go_wp2_with (first | ((with_reducible refine gate_dst (N := 2) rfl ?_); refine box_event ?hg (N := 2) ?hd (cs := #[.string a0_0, .string a0_1, .int .i64 a0_2]) (t := 36) ?hr ?_; (case hd => rfl); (case hg => rfl); (case hr => first | (go_simp; done) | (go_simp; rfl)); intro gb101 hg w5 hbox hb; have n0_ := Aside0.mk (below_step (by repeat (first | (with_reducible first | exact HB.out | apply below_alloc | apply pw_below_drewN | apply below_drew1) | exact HB.out)) hb); have n1_ := Aside0.mk (hbox); have n2_ := Aside0.mk ((by rw [hg]; exact (below_size (by repeat (first | (with_reducible first | exact HB.out | apply below_alloc | apply pw_below_drewN | apply below_drew1) | exact HB.out))) : w.heap.size ≤ gb101)); have n3_ := Aside0.mk ((by rw [hg]; exact (below_size (by repeat (first | (with_reducible first | exact HB.out | apply below_alloc | apply pw_below_drewN | apply below_drew1) | exact HB.out))) : w.heap.size ≤ gb101)); clear HB; have HB := n0_; have BK101 := n1_; have GW101 := n2_; have GE101 := n3_; clear n0_ n1_ n2_ n3_; clear hb hbox hg) | ((with_reducible refine gate_dst (N := 3) rfl ?_); refine box_event ?hg (N := 3) ?hd (cs := #[.string a1_0, .string a1_1]) (t := 23) ?hr ?_; (case hd => rfl); (case hg => rfl); (case hr => first | (go_simp; done) | (go_simp; rfl)); intro gb102 hg w6 hbox hb; have n0_ := Aside0.mk (blk_below (g := gb101) (o := .cells #[.string a0_0, .string a0_1, .int .i64 a0_2] 36 (0, 0)) (by (with_reducible repeat (first | refine blk_drewN ?_ _ | refine blk_drew ?_ | refine blk_alloc ?_ _)); exact BK101.out) hb); have n1_ := Aside0.mk (below_step (by repeat (first | (with_reducible first | exact HB.out | apply below_alloc | apply pw_below_drewN | apply below_drew1 | refine below_set ?_ GE101.out) | exact HB.out)) hb); have n2_ := Aside0.mk (hbox); have n3_ := Aside0.mk ((by rw [hg]; exact (below_size (by repeat (first | (with_reducible first | exact HB.out | apply below_alloc | apply pw_below_drewN | apply below_drew1 | refine below_set ?_ GE101.out) | exact HB.out))) : w.heap.size ≤ gb102)); have n4_ := Aside0.mk ((by rw [hg]; exact (below_size (by repeat (first | (with_reducible first | exact HB.out | apply below_alloc | apply pw_below_drewN | apply below_drew1 | refine below_set ?_ GE101.out) | exact HB.out))) : w.heap.size ≤ gb102)); have n5_ := Aside0.mk ((by rw [hg]; exact Nat.ne_of_lt (blk_lt (g := gb101) (o := .cells #[.string a0_0, .string a0_1, .int .i64 a0_2] 36 (0, 0)) (by (with_reducible repeat (first | refine blk_drewN ?_ _ | refine blk_drew ?_ | refine blk_alloc ?_ _)); exact BK101.out)) : gb101 ≠ gb102)); have n6_ := Aside0.mk ((by rw [hg]; exact Nat.ne_of_gt (blk_lt (g := gb101) (o := .cells #[.string a0_0, .string a0_1, .int .i64 a0_2] 36 (0, 0)) (by (with_reducible repeat (first | refine blk_drewN ?_ _ | refine blk_drew ?_ | refine blk_alloc ?_ _)); exact BK101.out)) : gb102 ≠ gb101)); clear BK101; clear HB; have BK101 := n0_; have HB := n1_; have BK102 := n2_; have GW102 := n3_; have GE102 := n4_; have NB101_102 := n5_; have NB102_101 := n6_; clear n0_ n1_ n2_ n3_ n4_ n5_ n6_; clear hb hbox hg; have hnb7 := NB101_102.out; have hnc7 := NB102_101.out; have hcz8_0 : w6.cell? ⟨gb101, 0, none⟩ = some (.string a0_0) := (blk_cell BK101.out 0).trans rfl; have hcz8_1 : w6.cell? ⟨gb101, 1, none⟩ = some (.string a0_1) := (blk_cell BK101.out 1).trans rfl; have hcz8_2 : w6.cell? ⟨gb101, 2, none⟩ = some (.int .i64 a0_2) := (blk_cell BK101.out 2).trans rfl; have hfz8_0 := blk_frozen BK101.out 0; have hfz8_1 := blk_frozen BK101.out 1; have hfz8_2 := blk_frozen BK101.out 2) | ((with_reducible refine gate_callee (f := 20) rfl ?_); refine goesL_ (some 12) rfl rfl Tryd.func20 (by kernel_rfl) rfl #[.agg #[.string a0_0, .string a0_1, .int .i64 a0_2], .int .i64 1048576] rfl (by (try simp only [aM1, aM2, aM3]); first | done | rfl | (simp only [List.length_drop, List.length_take]; rfl)) ?_; (with_reducible refine (laws_szLog.calls a0_0 a0_1 a0_2 1048576 t103 _ A3.out).mono ?_); rintro e w9 ⟨rfl, hb⟩; refine ⟨_, rfl, ?_⟩; have n0_ := Aside0.mk (blk_below (g := gb101) (o := .cells #[.string a0_0, .string a0_1, .int .i64 a0_2] 36 (0, 0)) (by (with_reducible repeat (first | refine blk_drewN ?_ _ | refine blk_drew ?_ | refine blk_alloc ?_ _)); exact BK101.out) hb); have n1_ := Aside0.mk (blk_below (g := gb102) (o := .cells #[.string a1_0, .string a1_1] 23 (0, 0)) (by (with_reducible repeat (first | refine blk_drewN ?_ _ | refine blk_drew ?_ | refine blk_alloc ?_ _)); exact BK102.out) hb); have n2_ := Aside0.mk (below_step (by repeat (first | (with_reducible first | exact HB.out | apply below_alloc | apply pw_below_drewN | apply below_drew1 | refine below_set ?_ GE101.out | refine below_set ?_ GE102.out) | exact HB.out)) hb); clear BK101; clear BK102; clear HB; have BK101 := n0_; have BK102 := n1_; have HB := n2_; clear n0_ n1_ n2_; (try clear hb); (try clear hb2); (try clear hk); (try clear hi)))
  go_ret
  exact ⟨by first | rfl | (simp [errW_none, errW_some] <;> rfl) | (simp [*, errW_none, errW_some] <;> rfl), by repeat (first | (with_reducible first | exact HB.out | apply below_alloc | apply pw_below_drewN | apply below_drew1 | refine below_set ?_ GE101.out | refine below_set ?_ GE102.out) | exact HB.out)⟩
 ·rw [if_neg c4] at H
  have c4b0 : decide (t103 < 0) = false := decide_eq_false c4
  clear c4
  replace H := Option.bind_eq_some_iff.mp H
  obtain ⟨t104, A100, H⟩ := H
  replace H : (if t104 < 0 then (some true) else ((laws_toLog.f a0_0 a0_1 a0_2).bind fun bt105 => ((laws_toLogRecord.f a1_0 a1_1).bind fun bt108 => ((spec_AppendRecord.f k bt105.1 bt105.2.1 bt105.2.2 bt108.1 bt108.2).bind fun bt110 => ((laws_toLog.f a0_0 a0_1 a0_2).bind fun bt115 => ((laws_toLogRecord.f a1_0 a1_1).bind fun bt118 => ((impl_AppendRecord.f k bt115.1 bt115.2.1 bt115.2.2 bt118.1 bt118.2).bind fun bt120 => ((laws_eqLog.f bt120.1 bt120.2.1 bt120.2.2.1 bt110.1 bt110.2.1 bt110.2.2.1).bind fun t125 => (if t125 = true then (if bt120.2.2.2 = bt110.2.2.2 then (some true) else (some false)) else (some false)))))))))) = some r := H
  have A10 := Aside0.mk A100
  clear A100
  by_cases c11 : t104 < 0
  ·rw [if_pos c11] at H
   have c11b0 : decide (t104 < 0) = true := decide_eq_true c11
   clear c11
   obtain rfl := Option.some.inj H
   go_enter Tryd.func8, Tryd.ntmps8
   go_wp2_with (first | ((with_reducible refine gate_dst (N := 2) rfl ?_); refine box_event ?hg (N := 2) ?hd (cs := #[.string a0_0, .string a0_1, .int .i64 a0_2]) (t := 36) ?hr ?_; (case hd => rfl); (case hg => rfl); (case hr => first | (go_simp; done) | (go_simp; rfl)); intro gb101 hg w12 hbox hb; have n0_ := Aside0.mk (below_step (by repeat (first | (with_reducible first | exact HB.out | apply below_alloc | apply pw_below_drewN | apply below_drew1) | exact HB.out)) hb); have n1_ := Aside0.mk (hbox); have n2_ := Aside0.mk ((by rw [hg]; exact (below_size (by repeat (first | (with_reducible first | exact HB.out | apply below_alloc | apply pw_below_drewN | apply below_drew1) | exact HB.out))) : w.heap.size ≤ gb101)); have n3_ := Aside0.mk ((by rw [hg]; exact (below_size (by repeat (first | (with_reducible first | exact HB.out | apply below_alloc | apply pw_below_drewN | apply below_drew1) | exact HB.out))) : w.heap.size ≤ gb101)); clear HB; have HB := n0_; have BK101 := n1_; have GW101 := n2_; have GE101 := n3_; clear n0_ n1_ n2_ n3_; clear hb hbox hg) | ((with_reducible refine gate_dst (N := 3) rfl ?_); refine box_event ?hg (N := 3) ?hd (cs := #[.string a1_0, .string a1_1]) (t := 23) ?hr ?_; (case hd => rfl); (case hg => rfl); (case hr => first | (go_simp; done) | (go_simp; rfl)); intro gb102 hg w13 hbox hb; have n0_ := Aside0.mk (blk_below (g := gb101) (o := .cells #[.string a0_0, .string a0_1, .int .i64 a0_2] 36 (0, 0)) (by (with_reducible repeat (first | refine blk_drewN ?_ _ | refine blk_drew ?_ | refine blk_alloc ?_ _)); exact BK101.out) hb); have n1_ := Aside0.mk (below_step (by repeat (first | (with_reducible first | exact HB.out | apply below_alloc | apply pw_below_drewN | apply below_drew1 | refine below_set ?_ GE101.out) | exact HB.out)) hb); have n2_ := Aside0.mk (hbox); have n3_ := Aside0.mk ((by rw [hg]; exact (below_size (by repeat (first | (with_reducible first | exact HB.out | apply below_alloc | apply pw_below_drewN | apply below_drew1 | refine below_set ?_ GE101.out) | exact HB.out))) : w.heap.size ≤ gb102)); have n4_ := Aside0.mk ((by rw [hg]; exact (below_size (by repeat (first | (with_reducible first | exact HB.out | apply below_alloc | apply pw_below_drewN | apply below_drew1 | refine below_set ?_ GE101.out) | exact HB.out))) : w.heap.size ≤ gb102)); have n5_ := Aside0.mk ((by rw [hg]; exact Nat.ne_of_lt (blk_lt (g := gb101) (o := .cells #[.string a0_0, .string a0_1, .int .i64 a0_2] 36 (0, 0)) (by (with_reducible repeat (first | refine blk_drewN ?_ _ | refine blk_drew ?_ | refine blk_alloc ?_ _)); exact BK101.out)) : gb101 ≠ gb102)); have n6_ := Aside0.mk ((by rw [hg]; exact Nat.ne_of_gt (blk_lt (g := gb101) (o := .cells #[.string a0_0, .string a0_1, .int .i64 a0_2] 36 (0, 0)) (by (with_reducible repeat (first | refine blk_drewN ?_ _ | refine blk_drew ?_ | refine blk_alloc ?_ _)); exact BK101.out)) : gb102 ≠ gb101)); clear BK101; clear HB; have BK101 := n0_; have HB := n1_; have BK102 := n2_; have GW102 := n3_; have GE102 := n4_; have NB101_102 := n5_; have NB102_101 := n6_; clear n0_ n1_ n2_ n3_ n4_ n5_ n6_; clear hb hbox hg; have hnb14 := NB101_102.out; have hnc14 := NB102_101.out; have hcz15_0 : w13.cell? ⟨gb101, 0, none⟩ = some (.string a0_0) := (blk_cell BK101.out 0).trans rfl; have hcz15_1 : w13.cell? ⟨gb101, 1, none⟩ = some (.string a0_1) := (blk_cell BK101.out 1).trans rfl; have hcz15_2 : w13.cell? ⟨gb101, 2, none⟩ = some (.int .i64 a0_2) := (blk_cell BK101.out 2).trans rfl; have hfz15_0 := blk_frozen BK101.out 0; have hfz15_1 := blk_frozen BK101.out 1; have hfz15_2 := blk_frozen BK101.out 2) | ((with_reducible refine gate_callee (f := 20) rfl ?_); refine goesL_ (some 12) rfl rfl Tryd.func20 (by kernel_rfl) rfl #[.agg #[.string a0_0, .string a0_1, .int .i64 a0_2], .int .i64 1048576] rfl (by (try simp only [aM1, aM2, aM3]); first | done | rfl | (simp only [List.length_drop, List.length_take]; rfl)) ?_; (with_reducible refine (laws_szLog.calls a0_0 a0_1 a0_2 1048576 t103 _ A3.out).mono ?_); rintro e w16 ⟨rfl, hb⟩; refine ⟨_, rfl, ?_⟩; have n0_ := Aside0.mk (blk_below (g := gb101) (o := .cells #[.string a0_0, .string a0_1, .int .i64 a0_2] 36 (0, 0)) (by (with_reducible repeat (first | refine blk_drewN ?_ _ | refine blk_drew ?_ | refine blk_alloc ?_ _)); exact BK101.out) hb); have n1_ := Aside0.mk (blk_below (g := gb102) (o := .cells #[.string a1_0, .string a1_1] 23 (0, 0)) (by (with_reducible repeat (first | refine blk_drewN ?_ _ | refine blk_drew ?_ | refine blk_alloc ?_ _)); exact BK102.out) hb); have n2_ := Aside0.mk (below_step (by repeat (first | (with_reducible first | exact HB.out | apply below_alloc | apply pw_below_drewN | apply below_drew1 | refine below_set ?_ GE101.out | refine below_set ?_ GE102.out) | exact HB.out)) hb); clear BK101; clear BK102; clear HB; have BK101 := n0_; have BK102 := n1_; have HB := n2_; clear n0_ n1_ n2_; (try clear hb); (try clear hb2); (try clear hk); (try clear hi); have hcz17_0 : w16.cell? ⟨gb102, 0, none⟩ = some (.string a1_0) := (blk_cell BK102.out 0).trans rfl; have hcz17_1 : w16.cell? ⟨gb102, 1, none⟩ = some (.string a1_1) := (blk_cell BK102.out 1).trans rfl; have hfz17_0 := blk_frozen BK102.out 0; have hfz17_1 := blk_frozen BK102.out 1) | ((with_reducible refine gate_callee (f := 13) rfl ?_); refine goesL_ (some 17) rfl rfl Tryd.func13 (by kernel_rfl) rfl #[.agg #[.string a1_0, .string a1_1], .int .i64 t103] rfl (by (try simp only [aM1, aM2, aM3]); first | done | rfl | (simp only [List.length_drop, List.length_take]; rfl)) ?_; (with_reducible refine (laws_szLogRecord.calls a1_0 a1_1 t103 t104 _ A10.out).mono ?_); rintro e w18 ⟨rfl, hb⟩; refine ⟨_, rfl, ?_⟩; have n0_ := Aside0.mk (blk_below (g := gb101) (o := .cells #[.string a0_0, .string a0_1, .int .i64 a0_2] 36 (0, 0)) (by (with_reducible repeat (first | refine blk_drewN ?_ _ | refine blk_drew ?_ | refine blk_alloc ?_ _)); exact BK101.out) hb); have n1_ := Aside0.mk (blk_below (g := gb102) (o := .cells #[.string a1_0, .string a1_1] 23 (0, 0)) (by (with_reducible repeat (first | refine blk_drewN ?_ _ | refine blk_drew ?_ | refine blk_alloc ?_ _)); exact BK102.out) hb); have n2_ := Aside0.mk (below_step (by repeat (first | (with_reducible first | exact HB.out | apply below_alloc | apply pw_below_drewN | apply below_drew1 | refine below_set ?_ GE101.out | refine below_set ?_ GE102.out) | exact HB.out)) hb); clear BK101; clear BK102; clear HB; have BK101 := n0_; have BK102 := n1_; have HB := n2_; clear n0_ n1_ n2_; (try clear hb); (try clear hb2); (try clear hk); (try clear hi)))
   go_ret
   exact ⟨by first | rfl | (simp [errW_none, errW_some] <;> rfl) | (simp [*, errW_none, errW_some] <;> rfl), by repeat (first | (with_reducible first | exact HB.out | apply below_alloc | apply pw_below_drewN | apply below_drew1 | refine below_set ?_ GE101.out | refine below_set ?_ GE102.out) | exact HB.out)⟩
  ·rw [if_neg c11] at H
   have c11b0 : decide (t104 < 0) = false := decide_eq_false c11
   clear c11
   replace H := Option.bind_eq_some_iff.mp H
   obtain ⟨⟨t105, t106, t107⟩, A190, H⟩ := H
   replace H : ((laws_toLogRecord.f a1_0 a1_1).bind fun bt108 => ((spec_AppendRecord.f k t105 t106 t107 bt108.1 bt108.2).bind fun bt110 => ((laws_toLog.f a0_0 a0_1 a0_2).bind fun bt115 => ((laws_toLogRecord.f a1_0 a1_1).bind fun bt118 => ((impl_AppendRecord.f k bt115.1 bt115.2.1 bt115.2.2 bt118.1 bt118.2).bind fun bt120 => ((laws_eqLog.f bt120.1 bt120.2.1 bt120.2.2.1 bt110.1 bt110.2.1 bt110.2.2.1).bind fun t125 => (if t125 = true then (if bt120.2.2.2 = bt110.2.2.2 then (some true) else (some false)) else (some false)))))))) = some r := H
   have A19 := Aside0.mk A190
   clear A190
   replace H := Option.bind_eq_some_iff.mp H
   obtain ⟨⟨t108, t109⟩, A200, H⟩ := H
   replace H : ((spec_AppendRecord.f k t105 t106 t107 t108 t109).bind fun bt110 => ((laws_toLog.f a0_0 a0_1 a0_2).bind fun bt115 => ((laws_toLogRecord.f a1_0 a1_1).bind fun bt118 => ((impl_AppendRecord.f k bt115.1 bt115.2.1 bt115.2.2 bt118.1 bt118.2).bind fun bt120 => ((laws_eqLog.f bt120.1 bt120.2.1 bt120.2.2.1 bt110.1 bt110.2.1 bt110.2.2.1).bind fun t125 => (if t125 = true then (if bt120.2.2.2 = bt110.2.2.2 then (some true) else (some false)) else (some false))))))) = some r := H
   have A20 := Aside0.mk A200
   clear A200
   replace H := Option.bind_eq_some_iff.mp H
   obtain ⟨⟨t110, t111, t112, t113⟩, A210, H⟩ := H
   replace H : ((laws_toLog.f a0_0 a0_1 a0_2).bind fun bt115 => ((laws_toLogRecord.f a1_0 a1_1).bind fun bt118 => ((impl_AppendRecord.f k bt115.1 bt115.2.1 bt115.2.2 bt118.1 bt118.2).bind fun bt120 => ((laws_eqLog.f bt120.1 bt120.2.1 bt120.2.2.1 t110 t111 t112).bind fun t125 => (if t125 = true then (if bt120.2.2.2 = t113 then (some true) else (some false)) else (some false)))))) = some r := H
   have A21 := Aside0.mk A210
   clear A210
   replace H := Option.bind_eq_some_iff.mp H
   obtain ⟨⟨t115, t116, t117⟩, A220, H⟩ := H
   replace H : ((laws_toLogRecord.f a1_0 a1_1).bind fun bt118 => ((impl_AppendRecord.f k t115 t116 t117 bt118.1 bt118.2).bind fun bt120 => ((laws_eqLog.f bt120.1 bt120.2.1 bt120.2.2.1 t110 t111 t112).bind fun t125 => (if t125 = true then (if bt120.2.2.2 = t113 then (some true) else (some false)) else (some false))))) = some r := H
   have A22 := Aside0.mk A220
   clear A220
   replace H := Option.bind_eq_some_iff.mp H
   obtain ⟨⟨t118, t119⟩, A230, H⟩ := H
   replace H : ((impl_AppendRecord.f k t115 t116 t117 t118 t119).bind fun bt120 => ((laws_eqLog.f bt120.1 bt120.2.1 bt120.2.2.1 t110 t111 t112).bind fun t125 => (if t125 = true then (if bt120.2.2.2 = t113 then (some true) else (some false)) else (some false)))) = some r := H
   have A23 := Aside0.mk A230
   clear A230
   replace H := Option.bind_eq_some_iff.mp H
   obtain ⟨⟨t120, t121, t122, t123⟩, A240, H⟩ := H
   replace H : ((laws_eqLog.f t120 t121 t122 t110 t111 t112).bind fun t125 => (if t125 = true then (if t123 = t113 then (some true) else (some false)) else (some false))) = some r := H
   have A24 := Aside0.mk A240
   clear A240
   replace H := Option.bind_eq_some_iff.mp H
   obtain ⟨t125, A250, H⟩ := H
   replace H : (if t125 = true then (if t123 = t113 then (some true) else (some false)) else (some false)) = some r := H
   have A25 := Aside0.mk A250
   clear A250
   by_cases c26 : t125 = true
   ·subst c26
    have H1 : (if t123 = t113 then (some true) else (some false)) = some r := by rw [if_pos rfl] at H; exact H
    clear H
    have H := H1
    clear H1
    by_cases c27 : t123 = t113
    ·rw [if_pos c27] at H
     have c27b0 : (t123 == t113) = true := beq_iff_eq.mpr c27
     have c27b1 : (t123 != t113) = false := bne_eq_false_iff_eq.mpr c27
     clear c27
     obtain rfl := Option.some.inj H
     go_enter Tryd.func8, Tryd.ntmps8
     try go_wp2_with (first | ((with_reducible refine gate_dst (N := 2) rfl ?_); refine box_event ?hg (N := 2) ?hd (cs := #[.string a0_0, .string a0_1, .int .i64 a0_2]) (t := 36) ?hr ?_; (case hd => rfl); (case hg => rfl); (case hr => first | (go_simp; done) | (go_simp; rfl)); intro gb101 hg w28 hbox hb; have n0_ := Aside0.mk (below_step (by repeat (first | (with_reducible first | exact HB.out | apply below_alloc | apply pw_below_drewN | apply below_drew1) | exact HB.out)) hb); have n1_ := Aside0.mk (hbox); have n2_ := Aside0.mk ((by rw [hg]; exact (below_size (by repeat (first | (with_reducible first | exact HB.out | apply below_alloc | apply pw_below_drewN | apply below_drew1) | exact HB.out))) : w.heap.size ≤ gb101)); have n3_ := Aside0.mk ((by rw [hg]; exact (below_size (by repeat (first | (with_reducible first | exact HB.out | apply below_alloc | apply pw_below_drewN | apply below_drew1) | exact HB.out))) : w.heap.size ≤ gb101)); clear HB; have HB := n0_; have BK101 := n1_; have GW101 := n2_; have GE101 := n3_; clear n0_ n1_ n2_ n3_; clear hb hbox hg) | ((with_reducible refine gate_dst (N := 3) rfl ?_); refine box_event ?hg (N := 3) ?hd (cs := #[.string a1_0, .string a1_1]) (t := 23) ?hr ?_; (case hd => rfl); (case hg => rfl); (case hr => first | (go_simp; done) | (go_simp; rfl)); intro gb102 hg w29 hbox hb; have n0_ := Aside0.mk (blk_below (g := gb101) (o := .cells #[.string a0_0, .string a0_1, .int .i64 a0_2] 36 (0, 0)) (by (with_reducible repeat (first | refine blk_drewN ?_ _ | refine blk_drew ?_ | refine blk_alloc ?_ _)); exact BK101.out) hb); have n1_ := Aside0.mk (below_step (by repeat (first | (with_reducible first | exact HB.out | apply below_alloc | apply pw_below_drewN | apply below_drew1 | refine below_set ?_ GE101.out) | exact HB.out)) hb); have n2_ := Aside0.mk (hbox); have n3_ := Aside0.mk ((by rw [hg]; exact (below_size (by repeat (first | (with_reducible first | exact HB.out | apply below_alloc | apply pw_below_drewN | apply below_drew1 | refine below_set ?_ GE101.out) | exact HB.out))) : w.heap.size ≤ gb102)); have n4_ := Aside0.mk ((by rw [hg]; exact (below_size (by repeat (first | (with_reducible first | exact HB.out | apply below_alloc | apply pw_below_drewN | apply below_drew1 | refine below_set ?_ GE101.out) | exact HB.out))) : w.heap.size ≤ gb102)); have n5_ := Aside0.mk ((by rw [hg]; exact Nat.ne_of_lt (blk_lt (g := gb101) (o := .cells #[.string a0_0, .string a0_1, .int .i64 a0_2] 36 (0, 0)) (by (with_reducible repeat (first | refine blk_drewN ?_ _ | refine blk_drew ?_ | refine blk_alloc ?_ _)); exact BK101.out)) : gb101 ≠ gb102)); have n6_ := Aside0.mk ((by rw [hg]; exact Nat.ne_of_gt (blk_lt (g := gb101) (o := .cells #[.string a0_0, .string a0_1, .int .i64 a0_2] 36 (0, 0)) (by (with_reducible repeat (first | refine blk_drewN ?_ _ | refine blk_drew ?_ | refine blk_alloc ?_ _)); exact BK101.out)) : gb102 ≠ gb101)); clear BK101; clear HB; have BK101 := n0_; have HB := n1_; have BK102 := n2_; have GW102 := n3_; have GE102 := n4_; have NB101_102 := n5_; have NB102_101 := n6_; clear n0_ n1_ n2_ n3_ n4_ n5_ n6_; clear hb hbox hg; have hnb30 := NB101_102.out; have hnc30 := NB102_101.out; have hcz31_0 : w29.cell? ⟨gb101, 0, none⟩ = some (.string a0_0) := (blk_cell BK101.out 0).trans rfl; have hcz31_1 : w29.cell? ⟨gb101, 1, none⟩ = some (.string a0_1) := (blk_cell BK101.out 1).trans rfl; have hcz31_2 : w29.cell? ⟨gb101, 2, none⟩ = some (.int .i64 a0_2) := (blk_cell BK101.out 2).trans rfl; have hfz31_0 := blk_frozen BK101.out 0; have hfz31_1 := blk_frozen BK101.out 1; have hfz31_2 := blk_frozen BK101.out 2) | ((with_reducible refine gate_callee (f := 20) rfl ?_); refine goesL_ (some 12) rfl rfl Tryd.func20 (by kernel_rfl) rfl #[.agg #[.string a0_0, .string a0_1, .int .i64 a0_2], .int .i64 1048576] rfl (by (try simp only [aM1, aM2, aM3]); first | done | rfl | (simp only [List.length_drop, List.length_take]; rfl)) ?_; (with_reducible refine (laws_szLog.calls a0_0 a0_1 a0_2 1048576 t103 _ A3.out).mono ?_); rintro e w32 ⟨rfl, hb⟩; refine ⟨_, rfl, ?_⟩; have n0_ := Aside0.mk (blk_below (g := gb101) (o := .cells #[.string a0_0, .string a0_1, .int .i64 a0_2] 36 (0, 0)) (by (with_reducible repeat (first | refine blk_drewN ?_ _ | refine blk_drew ?_ | refine blk_alloc ?_ _)); exact BK101.out) hb); have n1_ := Aside0.mk (blk_below (g := gb102) (o := .cells #[.string a1_0, .string a1_1] 23 (0, 0)) (by (with_reducible repeat (first | refine blk_drewN ?_ _ | refine blk_drew ?_ | refine blk_alloc ?_ _)); exact BK102.out) hb); have n2_ := Aside0.mk (below_step (by repeat (first | (with_reducible first | exact HB.out | apply below_alloc | apply pw_below_drewN | apply below_drew1 | refine below_set ?_ GE101.out | refine below_set ?_ GE102.out) | exact HB.out)) hb); clear BK101; clear BK102; clear HB; have BK101 := n0_; have BK102 := n1_; have HB := n2_; clear n0_ n1_ n2_; (try clear hb); (try clear hb2); (try clear hk); (try clear hi); have hcz33_0 : w32.cell? ⟨gb102, 0, none⟩ = some (.string a1_0) := (blk_cell BK102.out 0).trans rfl; have hcz33_1 : w32.cell? ⟨gb102, 1, none⟩ = some (.string a1_1) := (blk_cell BK102.out 1).trans rfl; have hfz33_0 := blk_frozen BK102.out 0; have hfz33_1 := blk_frozen BK102.out 1) | ((with_reducible refine gate_callee (f := 13) rfl ?_); refine goesL_ (some 17) rfl rfl Tryd.func13 (by kernel_rfl) rfl #[.agg #[.string a1_0, .string a1_1], .int .i64 t103] rfl (by (try simp only [aM1, aM2, aM3]); first | done | rfl | (simp only [List.length_drop, List.length_take]; rfl)) ?_; (with_reducible refine (laws_szLogRecord.calls a1_0 a1_1 t103 t104 _ A10.out).mono ?_); rintro e w34 ⟨rfl, hb⟩; refine ⟨_, rfl, ?_⟩; have n0_ := Aside0.mk (blk_below (g := gb101) (o := .cells #[.string a0_0, .string a0_1, .int .i64 a0_2] 36 (0, 0)) (by (with_reducible repeat (first | refine blk_drewN ?_ _ | refine blk_drew ?_ | refine blk_alloc ?_ _)); exact BK101.out) hb); have n1_ := Aside0.mk (blk_below (g := gb102) (o := .cells #[.string a1_0, .string a1_1] 23 (0, 0)) (by (with_reducible repeat (first | refine blk_drewN ?_ _ | refine blk_drew ?_ | refine blk_alloc ?_ _)); exact BK102.out) hb); have n2_ := Aside0.mk (below_step (by repeat (first | (with_reducible first | exact HB.out | apply below_alloc | apply pw_below_drewN | apply below_drew1 | refine below_set ?_ GE101.out | refine below_set ?_ GE102.out) | exact HB.out)) hb); clear BK101; clear BK102; clear HB; have BK101 := n0_; have BK102 := n1_; have HB := n2_; clear n0_ n1_ n2_; (try clear hb); (try clear hb2); (try clear hk); (try clear hi)))
     have n0_ := Aside0.mk (blk_drew BK101.out)
     have n1_ := Aside0.mk (blk_drew BK102.out)
     have n2_ := Aside0.mk (below_drew1 HB.out)
     clear BK101
     clear BK102
     clear HB
     have BK101 := n0_
     have BK102 := n1_
     have HB := n2_
     clear n0_ n1_ n2_
     refine start_ (n := 11) (S := fun w' => w'.cell? ⟨gb101, 0, none⟩ = some (.string a0_0) ∧ w'.cell? ⟨gb101, 1, none⟩ = some (.string a0_1) ∧ w'.cell? ⟨gb101, 2, none⟩ = some (.int .i64 a0_2) ∧ w'.cell? ⟨gb102, 0, none⟩ = some (.string a1_0) ∧ w'.cell? ⟨gb102, 1, none⟩ = some (.string a1_1)) (ds := []) (cn 11 0) (by kernel_rfl) rfl (by kernel_rfl) ⟨(blk_cell BK101.out 0).trans rfl, (blk_cell BK101.out 1).trans rfl, (blk_cell BK101.out 2).trans rfl, (blk_cell BK102.out 0).trans rfl, (blk_cell BK102.out 1).trans rfl⟩ (fun hHeld => ?_); refine with_tabW laws_FnExactAppendRecord.tab8 laws_FnExactAppendRecord.bits8 (fun HT_ HW_ => ?_)
     generalize w34.drew = w35 at BK101 BK102 HB hHeld ⊢
     refine take_ (i := 0) (N := some 21) (v := ?_) (a' := ?_) (cn 11 1) rfl rfl (take_ofW HT_.out HW_.out (by kernel_rfl)) (fun _ _ _ h => h) (Or.inl ⟨by rfl, ?_⟩) hHeld ?_ ?_
     rotate_left
     ·rintro w' ⟨s0, s1, s2, s3, s4⟩
      go_simp
      with_reducible rfl
     rotate_left
     ·simp only [Act.put, aS1, aS2, aS3, i64_w, i32_w]
      rfl
     refine take_ (i := 2) (N := some 23) (v := ?_) (a' := ?_) #[true, false, true, false, false, false, false, false, false, false, false] rfl rfl (take_ofW HT_.out HW_.out (by kernel_rfl)) (fun _ _ _ h => h) (Or.inl ⟨by rfl, ?_⟩) hHeld ?_ ?_
     rotate_left
     ·rintro w' ⟨s0, s1, s2, s3, s4⟩
      go_simp
      with_reducible rfl
     rotate_left
     ·simp only [Act.put, aS1, aS2, aS3, i64_w, i32_w]
      rfl
     refine join_ (σ := Nat) 2 (cn 11 9) (fun s_ => [(22, .agg #[.string t105, .string t106, .int .i64 t107]), (24, .agg #[.string t108, .string t109]), (25, .tuple #[.agg #[.string t110, .string t111, .int .i64 t112], .int .i64 t113]), (6, .pointer (some ⟨s_, 0, none⟩)), (20, .tuple #[.agg #[.string t110, .string t111, .int .i64 t112], .int .i64 t113]), (26, .agg #[.string t110, .string t111, .int .i64 t112]), (27, .int .i64 t113)]) (fun s_ w' => (w'.cell? ⟨gb101, 0, none⟩ = some (.string a0_0) ∧ w'.cell? ⟨gb101, 1, none⟩ = some (.string a0_1) ∧ w'.cell? ⟨gb101, 2, none⟩ = some (.int .i64 a0_2) ∧ w'.cell? ⟨gb102, 0, none⟩ = some (.string a1_0) ∧ w'.cell? ⟨gb102, 1, none⟩ = some (.string a1_1)) ∧ (w'.heap[gb101]? = some (.cells #[.string a0_0, .string a0_1, .int .i64 a0_2] 36 (0, 0))) ∧ (w'.heap[gb102]? = some (.cells #[.string a1_0, .string a1_1] 23 (0, 0))) ∧ (w'.heap[s_]? = some (.cells #[.string (⟨#[]⟩ : ByteArray), .string (⟨#[]⟩ : ByteArray), .int .i64 0] 31 (0, 0))) ∧ (w.heap.size ≤ s_) ∧ (w.heap.size ≤ s_) ∧ (gb101 ≠ s_) ∧ (s_ ≠ gb101) ∧ (gb102 ≠ s_) ∧ (s_ ≠ gb102) ∧ (Below w.heap.size w w')) ?_ ?_
     rotate_left
     ·intro hCont
      refine two_ (i := 1) (j := 8) (Ni := some 22) (Nj := some 6) (cn 11 3) #[true, false, true, false, false, false, false, false, true, false, false] rfl rfl rfl rfl (two_of HT_.out (by kernel_rfl)) (by decide) (by decide) (fun K hK => ?_) (fun K hK => ?_)
      ·skip
       refine goes_ Tryd.func22 (by kernel_rfl) rfl #[.agg #[.string a0_0, .string a0_1, .int .i64 a0_2]] (by rfl) rfl rfl (by (try simp only [aM1, aM2, aM3]); first | done | rfl | (simp only [List.length_drop, List.length_take]; rfl)) ?_
       with_reducible refine (laws_toLog.calls a0_0 a0_1 a0_2 t105 t106 t107 _ A19.out).mono ?_
       rintro e w36 ⟨rfl, hb⟩
       refine ⟨_, rfl, ?_⟩
       have n0_ := Aside0.mk (blk_below (g := gb101) (o := .cells #[.string a0_0, .string a0_1, .int .i64 a0_2] 36 (0, 0)) (by (with_reducible repeat (first | refine blk_drewN ?_ _ | refine blk_drew ?_ | refine blk_alloc ?_ _)); exact BK101.out) hb)
       have n1_ := Aside0.mk (blk_below (g := gb102) (o := .cells #[.string a1_0, .string a1_1] 23 (0, 0)) (by (with_reducible repeat (first | refine blk_drewN ?_ _ | refine blk_drew ?_ | refine blk_alloc ?_ _)); exact BK102.out) hb)
       have n2_ := Aside0.mk (below_step (by repeat (first | (with_reducible first | exact HB.out | apply below_alloc | apply pw_below_drewN | apply below_drew1 | refine below_set ?_ GE101.out | refine below_set ?_ GE102.out) | exact HB.out)) hb)
       clear BK101
       clear BK102
       clear HB
       have BK101 := n0_
       have BK102 := n1_
       have HB := n2_
       clear n0_ n1_ n2_
       (try clear hb)
       (try clear hb2)
       (try clear hk)
       (try clear hi)
       refine hK.out _ _ ⟨(blk_cell BK101.out 0).trans rfl, (blk_cell BK101.out 1).trans rfl, (blk_cell BK101.out 2).trans rfl, (blk_cell BK102.out 0).trans rfl, (blk_cell BK102.out 1).trans rfl⟩ (fun hHeld => ?_)
       clear hK K
       refine norm_ (a' := ?_) ?_ ?_
       rotate_left
       ·show Act.put _ (some 22) _ = _
        simp only [Act.put, aS1, aS2, aS3, i64_w, i32_w]
        rfl
       refine two_ (i := 3) (j := 8) (Ni := some 24) (Nj := some 6) (cn 11 4) #[true, true, true, false, false, false, false, false, true, false, false] rfl rfl rfl rfl (two_of HT_.out (by kernel_rfl)) (by decide) (by decide) (fun K hK => ?_) (fun K hK => ?_)
       ·skip
        refine goes_ Tryd.func15 (by kernel_rfl) rfl #[.agg #[.string a1_0, .string a1_1]] (by rfl) rfl rfl (by (try simp only [aM1, aM2, aM3]); first | done | rfl | (simp only [List.length_drop, List.length_take]; rfl)) ?_
        with_reducible refine (laws_toLogRecord.calls a1_0 a1_1 t108 t109 _ A20.out).mono ?_
        rintro e w37 ⟨rfl, hb⟩
        refine ⟨_, rfl, ?_⟩
        have n0_ := Aside0.mk (blk_below (g := gb101) (o := .cells #[.string a0_0, .string a0_1, .int .i64 a0_2] 36 (0, 0)) (by (with_reducible repeat (first | refine blk_drewN ?_ _ | refine blk_drew ?_ | refine blk_alloc ?_ _)); exact BK101.out) hb)
        have n1_ := Aside0.mk (blk_below (g := gb102) (o := .cells #[.string a1_0, .string a1_1] 23 (0, 0)) (by (with_reducible repeat (first | refine blk_drewN ?_ _ | refine blk_drew ?_ | refine blk_alloc ?_ _)); exact BK102.out) hb)
        have n2_ := Aside0.mk (below_step (by repeat (first | (with_reducible first | exact HB.out | apply below_alloc | apply pw_below_drewN | apply below_drew1 | refine below_set ?_ GE101.out | refine below_set ?_ GE102.out) | exact HB.out)) hb)
        clear BK101
        clear BK102
        clear HB
        have BK101 := n0_
        have BK102 := n1_
        have HB := n2_
        clear n0_ n1_ n2_
        (try clear hb)
        (try clear hb2)
        (try clear hk)
        (try clear hi)
        refine hK.out _ _ ⟨(blk_cell BK101.out 0).trans rfl, (blk_cell BK101.out 1).trans rfl, (blk_cell BK101.out 2).trans rfl, (blk_cell BK102.out 0).trans rfl, (blk_cell BK102.out 1).trans rfl⟩ (fun hHeld => ?_)
        clear hK K
        refine norm_ (a' := ?_) ?_ ?_
        rotate_left
        ·show Act.put _ (some 24) _ = _
         simp only [Act.put, aS1, aS2, aS3, i64_w, i32_w]
         rfl
        refine two_ (i := 4) (j := 8) (Ni := some 25) (Nj := some 6) (cn 11 5) #[true, true, true, true, false, false, false, false, true, false, false] rfl rfl rfl rfl (two_of HT_.out (by kernel_rfl)) (by decide) (by decide) (fun K hK => ?_) (fun K hK => ?_)
        ·skip
         refine goes_ Tryd.func28 (by kernel_rfl) rfl #[.agg #[.string t105, .string t106, .int .i64 t107], .agg #[.string t108, .string t109]] (by rfl) rfl rfl (by (try simp only [aM1, aM2, aM3]); first | done | rfl | (simp only [List.length_drop, List.length_take]; rfl)) ?_
         with_reducible refine (spec_AppendRecord.calls k t105 t106 t107 t108 t109 t110 t111 t112 t113 _ A21.out).mono ?_
         rintro e w38 ⟨rfl, hb⟩
         refine ⟨_, rfl, ?_⟩
         have n0_ := Aside0.mk (blk_below (g := gb101) (o := .cells #[.string a0_0, .string a0_1, .int .i64 a0_2] 36 (0, 0)) (by (with_reducible repeat (first | refine blk_drewN ?_ _ | refine blk_drew ?_ | refine blk_alloc ?_ _)); exact BK101.out) hb)
         have n1_ := Aside0.mk (blk_below (g := gb102) (o := .cells #[.string a1_0, .string a1_1] 23 (0, 0)) (by (with_reducible repeat (first | refine blk_drewN ?_ _ | refine blk_drew ?_ | refine blk_alloc ?_ _)); exact BK102.out) hb)
         have n2_ := Aside0.mk (below_step (by repeat (first | (with_reducible first | exact HB.out | apply below_alloc | apply pw_below_drewN | apply below_drew1 | refine below_set ?_ GE101.out | refine below_set ?_ GE102.out) | exact HB.out)) hb)
         clear BK101
         clear BK102
         clear HB
         have BK101 := n0_
         have BK102 := n1_
         have HB := n2_
         clear n0_ n1_ n2_
         (try clear hb)
         (try clear hb2)
         (try clear hk)
         (try clear hi)
         refine hK.out _ _ ⟨(blk_cell BK101.out 0).trans rfl, (blk_cell BK101.out 1).trans rfl, (blk_cell BK101.out 2).trans rfl, (blk_cell BK102.out 0).trans rfl, (blk_cell BK102.out 1).trans rfl⟩ (fun hHeld => ?_)
         clear hK K
         refine norm_ (a' := ?_) ?_ ?_
         rotate_left
         ·show Act.put _ (some 25) _ = _
          simp only [Act.put, aS1, aS2, aS3, i64_w, i32_w]
          rfl
         refine pure_ (i := 5) (N := some 20) (v := ?_) (a' := ?_) (cn 11 6) rfl rfl (any_of HT_.out (by kernel_rfl)) (fun _ _ _ h => h) (Or.inl ⟨by rfl, ?_⟩) ?_ ?_
         rotate_left
         ·intro w'
          go_simp
          with_reducible rfl
         rotate_left
         ·simp only [Act.put, aS1, aS2, aS3, i64_w, i32_w]
          rfl
         refine pure_ (i := 6) (N := some 26) (v := ?_) (a' := ?_) (cn 11 7) rfl rfl (any_of HT_.out (by kernel_rfl)) (fun _ _ _ h => h) (Or.inl ⟨by rfl, ?_⟩) ?_ ?_
         rotate_left
         ·intro w'
          go_simp
          with_reducible rfl
         rotate_left
         ·simp only [Act.put, aS1, aS2, aS3, i64_w, i32_w]
          rfl
         refine pure_ (i := 7) (N := some 27) (v := ?_) (a' := ?_) (cn 11 8) rfl rfl (any_of HT_.out (by kernel_rfl)) (fun _ _ _ h => h) (Or.inl ⟨by rfl, ?_⟩) ?_ ?_
         rotate_left
         ·intro w'
          go_simp
          with_reducible rfl
         rotate_left
         ·simp only [Act.put, aS1, aS2, aS3, i64_w, i32_w]
          rfl
         refine one_ (i := 8) (N := some 6) (cn 11 9) rfl rfl (one_of HT_.out (by kernel_rfl)) (by decide) (fun K hK => ?_)
         refine box_step ?hg (N := 6) ?hd (cs := #[.string (⟨#[]⟩ : ByteArray), .string (⟨#[]⟩ : ByteArray), .int .i64 0]) (t := 31) ?hr ?_; (case hd => rfl); (case hg => rfl); (case hr => first | (go_simp; done) | (go_simp; rfl))
         intro gb114 hg w39 hbox hb
         have n0_ := Aside0.mk (blk_below (g := gb101) (o := .cells #[.string a0_0, .string a0_1, .int .i64 a0_2] 36 (0, 0)) (by (with_reducible repeat (first | refine blk_drewN ?_ _ | refine blk_drew ?_ | refine blk_alloc ?_ _)); exact BK101.out) hb)
         have n1_ := Aside0.mk (blk_below (g := gb102) (o := .cells #[.string a1_0, .string a1_1] 23 (0, 0)) (by (with_reducible repeat (first | refine blk_drewN ?_ _ | refine blk_drew ?_ | refine blk_alloc ?_ _)); exact BK102.out) hb)
         have n2_ := Aside0.mk (below_step (by repeat (first | (with_reducible first | exact HB.out | apply below_alloc | apply pw_below_drewN | apply below_drew1 | refine below_set ?_ GE101.out | refine below_set ?_ GE102.out) | exact HB.out)) hb)
         have n3_ := Aside0.mk (hbox)
         have n4_ := Aside0.mk ((by rw [hg]; exact (below_size (by repeat (first | (with_reducible first | exact HB.out | apply below_alloc | apply pw_below_drewN | apply below_drew1 | refine below_set ?_ GE101.out | refine below_set ?_ GE102.out) | exact HB.out))) : w.heap.size ≤ gb114))
         have n5_ := Aside0.mk ((by rw [hg]; exact (below_size (by repeat (first | (with_reducible first | exact HB.out | apply below_alloc | apply pw_below_drewN | apply below_drew1 | refine below_set ?_ GE101.out | refine below_set ?_ GE102.out) | exact HB.out))) : w.heap.size ≤ gb114))
         have n6_ := Aside0.mk ((by rw [hg]; exact Nat.ne_of_lt (blk_lt (g := gb101) (o := .cells #[.string a0_0, .string a0_1, .int .i64 a0_2] 36 (0, 0)) (by (with_reducible repeat (first | refine blk_drewN ?_ _ | refine blk_drew ?_ | refine blk_alloc ?_ _)); exact BK101.out)) : gb101 ≠ gb114))
         have n7_ := Aside0.mk ((by rw [hg]; exact Nat.ne_of_gt (blk_lt (g := gb101) (o := .cells #[.string a0_0, .string a0_1, .int .i64 a0_2] 36 (0, 0)) (by (with_reducible repeat (first | refine blk_drewN ?_ _ | refine blk_drew ?_ | refine blk_alloc ?_ _)); exact BK101.out)) : gb114 ≠ gb101))
         have n8_ := Aside0.mk ((by rw [hg]; exact Nat.ne_of_lt (blk_lt (g := gb102) (o := .cells #[.string a1_0, .string a1_1] 23 (0, 0)) (by (with_reducible repeat (first | refine blk_drewN ?_ _ | refine blk_drew ?_ | refine blk_alloc ?_ _)); exact BK102.out)) : gb102 ≠ gb114))
         have n9_ := Aside0.mk ((by rw [hg]; exact Nat.ne_of_gt (blk_lt (g := gb102) (o := .cells #[.string a1_0, .string a1_1] 23 (0, 0)) (by (with_reducible repeat (first | refine blk_drewN ?_ _ | refine blk_drew ?_ | refine blk_alloc ?_ _)); exact BK102.out)) : gb114 ≠ gb102))
         clear BK101
         clear BK102
         clear HB
         have BK101 := n0_
         have BK102 := n1_
         have HB := n2_
         have BK114 := n3_
         have GW114 := n4_
         have GE114 := n5_
         have NB101_114 := n6_
         have NB114_101 := n7_
         have NB102_114 := n8_
         have NB114_102 := n9_
         clear n0_ n1_ n2_ n3_ n4_ n5_ n6_ n7_ n8_ n9_
         clear hb hbox hg
         refine hK.out _ _ ⟨(blk_cell BK101.out 0).trans rfl, (blk_cell BK101.out 1).trans rfl, (blk_cell BK101.out 2).trans rfl, (blk_cell BK102.out 0).trans rfl, (blk_cell BK102.out 1).trans rfl⟩ (fun hHeld => ?_)
         clear hK K
         refine norm_ (a' := ?_) ?_ ?_
         rotate_left
         ·show Act.put _ (some 6) _ = _
          simp only [Act.put, aS1, aS2, aS3, i64_w, i32_w]
          rfl
         exact norm_ (by simp only [putAll, Act.put, aS1, aS2, aS3]) (hCont (gb114) _ ⟨hHeld, (by (with_reducible repeat (first | refine blk_drewN ?_ _ | refine blk_drew ?_ | refine blk_alloc ?_ _)); exact BK101.out), (by (with_reducible repeat (first | refine blk_drewN ?_ _ | refine blk_drew ?_ | refine blk_alloc ?_ _)); exact BK102.out), (by (with_reducible repeat (first | refine blk_drewN ?_ _ | refine blk_drew ?_ | refine blk_alloc ?_ _)); exact BK114.out), GW114.out, GE114.out, NB101_114.out, NB114_101.out, NB102_114.out, NB114_102.out, (by repeat (first | (with_reducible first | exact HB.out | apply below_alloc | apply pw_below_drewN | apply below_drew1 | refine below_set ?_ GE101.out | refine below_set ?_ GE102.out | refine below_set ?_ GE114.out) | exact HB.out))⟩)
        ·skip
         refine box_step ?hg (N := 6) ?hd (cs := #[.string (⟨#[]⟩ : ByteArray), .string (⟨#[]⟩ : ByteArray), .int .i64 0]) (t := 31) ?hr ?_; (case hd => rfl); (case hg => rfl); (case hr => first | (go_simp; done) | (go_simp; rfl))
         intro gb114 hg w38 hbox hb
         have n0_ := Aside0.mk (blk_below (g := gb101) (o := .cells #[.string a0_0, .string a0_1, .int .i64 a0_2] 36 (0, 0)) (by (with_reducible repeat (first | refine blk_drewN ?_ _ | refine blk_drew ?_ | refine blk_alloc ?_ _)); exact BK101.out) hb)
         have n1_ := Aside0.mk (blk_below (g := gb102) (o := .cells #[.string a1_0, .string a1_1] 23 (0, 0)) (by (with_reducible repeat (first | refine blk_drewN ?_ _ | refine blk_drew ?_ | refine blk_alloc ?_ _)); exact BK102.out) hb)
         have n2_ := Aside0.mk (below_step (by repeat (first | (with_reducible first | exact HB.out | apply below_alloc | apply pw_below_drewN | apply below_drew1 | refine below_set ?_ GE101.out | refine below_set ?_ GE102.out) | exact HB.out)) hb)
         have n3_ := Aside0.mk (hbox)
         have n4_ := Aside0.mk ((by rw [hg]; exact (below_size (by repeat (first | (with_reducible first | exact HB.out | apply below_alloc | apply pw_below_drewN | apply below_drew1 | refine below_set ?_ GE101.out | refine below_set ?_ GE102.out) | exact HB.out))) : w.heap.size ≤ gb114))
         have n5_ := Aside0.mk ((by rw [hg]; exact (below_size (by repeat (first | (with_reducible first | exact HB.out | apply below_alloc | apply pw_below_drewN | apply below_drew1 | refine below_set ?_ GE101.out | refine below_set ?_ GE102.out) | exact HB.out))) : w.heap.size ≤ gb114))
         have n6_ := Aside0.mk ((by rw [hg]; exact Nat.ne_of_lt (blk_lt (g := gb101) (o := .cells #[.string a0_0, .string a0_1, .int .i64 a0_2] 36 (0, 0)) (by (with_reducible repeat (first | refine blk_drewN ?_ _ | refine blk_drew ?_ | refine blk_alloc ?_ _)); exact BK101.out)) : gb101 ≠ gb114))
         have n7_ := Aside0.mk ((by rw [hg]; exact Nat.ne_of_gt (blk_lt (g := gb101) (o := .cells #[.string a0_0, .string a0_1, .int .i64 a0_2] 36 (0, 0)) (by (with_reducible repeat (first | refine blk_drewN ?_ _ | refine blk_drew ?_ | refine blk_alloc ?_ _)); exact BK101.out)) : gb114 ≠ gb101))
         have n8_ := Aside0.mk ((by rw [hg]; exact Nat.ne_of_lt (blk_lt (g := gb102) (o := .cells #[.string a1_0, .string a1_1] 23 (0, 0)) (by (with_reducible repeat (first | refine blk_drewN ?_ _ | refine blk_drew ?_ | refine blk_alloc ?_ _)); exact BK102.out)) : gb102 ≠ gb114))
         have n9_ := Aside0.mk ((by rw [hg]; exact Nat.ne_of_gt (blk_lt (g := gb102) (o := .cells #[.string a1_0, .string a1_1] 23 (0, 0)) (by (with_reducible repeat (first | refine blk_drewN ?_ _ | refine blk_drew ?_ | refine blk_alloc ?_ _)); exact BK102.out)) : gb114 ≠ gb102))
         clear BK101
         clear BK102
         clear HB
         have BK101 := n0_
         have BK102 := n1_
         have HB := n2_
         have BK114 := n3_
         have GW114 := n4_
         have GE114 := n5_
         have NB101_114 := n6_
         have NB114_101 := n7_
         have NB102_114 := n8_
         have NB114_102 := n9_
         clear n0_ n1_ n2_ n3_ n4_ n5_ n6_ n7_ n8_ n9_
         clear hb hbox hg
         refine hK.out _ _ ⟨(blk_cell BK101.out 0).trans rfl, (blk_cell BK101.out 1).trans rfl, (blk_cell BK101.out 2).trans rfl, (blk_cell BK102.out 0).trans rfl, (blk_cell BK102.out 1).trans rfl⟩ (fun hHeld => ?_)
         clear hK K
         refine norm_ (a' := ?_) ?_ ?_
         rotate_left
         ·show Act.put _ (some 6) _ = _
          simp only [Act.put, aS1, aS2, aS3, i64_w, i32_w]
          rfl
         refine one_ (i := 4) (N := some 25) #[true, true, true, true, true, false, false, false, true, false, false] rfl rfl (one_of HT_.out (by kernel_rfl)) (by decide) (fun K hK => ?_)
         refine goes_ Tryd.func28 (by kernel_rfl) rfl #[.agg #[.string t105, .string t106, .int .i64 t107], .agg #[.string t108, .string t109]] (by rfl) rfl rfl (by (try simp only [aM1, aM2, aM3]); first | done | rfl | (simp only [List.length_drop, List.length_take]; rfl)) ?_
         with_reducible refine (spec_AppendRecord.calls k t105 t106 t107 t108 t109 t110 t111 t112 t113 _ A21.out).mono ?_
         rintro e w39 ⟨rfl, hb⟩
         refine ⟨_, rfl, ?_⟩
         have n0_ := Aside0.mk (blk_below (g := gb101) (o := .cells #[.string a0_0, .string a0_1, .int .i64 a0_2] 36 (0, 0)) (by (with_reducible repeat (first | refine blk_drewN ?_ _ | refine blk_drew ?_ | refine blk_alloc ?_ _)); exact BK101.out) hb)
         have n1_ := Aside0.mk (blk_below (g := gb102) (o := .cells #[.string a1_0, .string a1_1] 23 (0, 0)) (by (with_reducible repeat (first | refine blk_drewN ?_ _ | refine blk_drew ?_ | refine blk_alloc ?_ _)); exact BK102.out) hb)
         have n2_ := Aside0.mk (blk_below (g := gb114) (o := .cells #[.string (⟨#[]⟩ : ByteArray), .string (⟨#[]⟩ : ByteArray), .int .i64 0] 31 (0, 0)) (by (with_reducible repeat (first | refine blk_drewN ?_ _ | refine blk_drew ?_ | refine blk_alloc ?_ _)); exact BK114.out) hb)
         have n3_ := Aside0.mk (below_step (by repeat (first | (with_reducible first | exact HB.out | apply below_alloc | apply pw_below_drewN | apply below_drew1 | refine below_set ?_ GE101.out | refine below_set ?_ GE102.out | refine below_set ?_ GE114.out) | exact HB.out)) hb)
         clear BK101
         clear BK102
         clear BK114
         clear HB
         have BK101 := n0_
         have BK102 := n1_
         have BK114 := n2_
         have HB := n3_
         clear n0_ n1_ n2_ n3_
         (try clear hb)
         (try clear hb2)
         (try clear hk)
         (try clear hi)
         refine hK.out _ _ ⟨(blk_cell BK101.out 0).trans rfl, (blk_cell BK101.out 1).trans rfl, (blk_cell BK101.out 2).trans rfl, (blk_cell BK102.out 0).trans rfl, (blk_cell BK102.out 1).trans rfl⟩ (fun hHeld => ?_)
         clear hK K
         refine norm_ (a' := ?_) ?_ ?_
         rotate_left
         ·show Act.put _ (some 25) _ = _
          simp only [Act.put, aS1, aS2, aS3, i64_w, i32_w]
          rfl
         refine pure_ (i := 5) (N := some 20) (v := ?_) (a' := ?_) #[true, true, true, true, true, true, false, false, true, false, false] rfl rfl (any_of HT_.out (by kernel_rfl)) (fun _ _ _ h => h) (Or.inl ⟨by rfl, ?_⟩) ?_ ?_
         rotate_left
         ·intro w'
          go_simp
          with_reducible rfl
         rotate_left
         ·simp only [Act.put, aS1, aS2, aS3, i64_w, i32_w]
          rfl
         refine pure_ (i := 6) (N := some 26) (v := ?_) (a' := ?_) #[true, true, true, true, true, true, true, false, true, false, false] rfl rfl (any_of HT_.out (by kernel_rfl)) (fun _ _ _ h => h) (Or.inl ⟨by rfl, ?_⟩) ?_ ?_
         rotate_left
         ·intro w'
          go_simp
          with_reducible rfl
         rotate_left
         ·simp only [Act.put, aS1, aS2, aS3, i64_w, i32_w]
          rfl
         refine pure_ (i := 7) (N := some 27) (v := ?_) (a' := ?_) (cn 11 9) rfl rfl (any_of HT_.out (by kernel_rfl)) (fun _ _ _ h => h) (Or.inl ⟨by rfl, ?_⟩) ?_ ?_
         rotate_left
         ·intro w'
          go_simp
          with_reducible rfl
         rotate_left
         ·simp only [Act.put, aS1, aS2, aS3, i64_w, i32_w]
          rfl
         exact norm_ (by simp only [putAll, Act.put, aS1, aS2, aS3]) (hCont (gb114) _ ⟨hHeld, (by (with_reducible repeat (first | refine blk_drewN ?_ _ | refine blk_drew ?_ | refine blk_alloc ?_ _)); exact BK101.out), (by (with_reducible repeat (first | refine blk_drewN ?_ _ | refine blk_drew ?_ | refine blk_alloc ?_ _)); exact BK102.out), (by (with_reducible repeat (first | refine blk_drewN ?_ _ | refine blk_drew ?_ | refine blk_alloc ?_ _)); exact BK114.out), GW114.out, GE114.out, NB101_114.out, NB114_101.out, NB102_114.out, NB114_102.out, (by repeat (first | (with_reducible first | exact HB.out | apply below_alloc | apply pw_below_drewN | apply below_drew1 | refine below_set ?_ GE101.out | refine below_set ?_ GE102.out | refine below_set ?_ GE114.out) | exact HB.out))⟩)
       ·skip
        refine box_step ?hg (N := 6) ?hd (cs := #[.string (⟨#[]⟩ : ByteArray), .string (⟨#[]⟩ : ByteArray), .int .i64 0]) (t := 31) ?hr ?_; (case hd => rfl); (case hg => rfl); (case hr => first | (go_simp; done) | (go_simp; rfl))
        intro gb114 hg w37 hbox hb
        have n0_ := Aside0.mk (blk_below (g := gb101) (o := .cells #[.string a0_0, .string a0_1, .int .i64 a0_2] 36 (0, 0)) (by (with_reducible repeat (first | refine blk_drewN ?_ _ | refine blk_drew ?_ | refine blk_alloc ?_ _)); exact BK101.out) hb)
        have n1_ := Aside0.mk (blk_below (g := gb102) (o := .cells #[.string a1_0, .string a1_1] 23 (0, 0)) (by (with_reducible repeat (first | refine blk_drewN ?_ _ | refine blk_drew ?_ | refine blk_alloc ?_ _)); exact BK102.out) hb)
        have n2_ := Aside0.mk (below_step (by repeat (first | (with_reducible first | exact HB.out | apply below_alloc | apply pw_below_drewN | apply below_drew1 | refine below_set ?_ GE101.out | refine below_set ?_ GE102.out) | exact HB.out)) hb)
        have n3_ := Aside0.mk (hbox)
        have n4_ := Aside0.mk ((by rw [hg]; exact (below_size (by repeat (first | (with_reducible first | exact HB.out | apply below_alloc | apply pw_below_drewN | apply below_drew1 | refine below_set ?_ GE101.out | refine below_set ?_ GE102.out) | exact HB.out))) : w.heap.size ≤ gb114))
        have n5_ := Aside0.mk ((by rw [hg]; exact (below_size (by repeat (first | (with_reducible first | exact HB.out | apply below_alloc | apply pw_below_drewN | apply below_drew1 | refine below_set ?_ GE101.out | refine below_set ?_ GE102.out) | exact HB.out))) : w.heap.size ≤ gb114))
        have n6_ := Aside0.mk ((by rw [hg]; exact Nat.ne_of_lt (blk_lt (g := gb101) (o := .cells #[.string a0_0, .string a0_1, .int .i64 a0_2] 36 (0, 0)) (by (with_reducible repeat (first | refine blk_drewN ?_ _ | refine blk_drew ?_ | refine blk_alloc ?_ _)); exact BK101.out)) : gb101 ≠ gb114))
        have n7_ := Aside0.mk ((by rw [hg]; exact Nat.ne_of_gt (blk_lt (g := gb101) (o := .cells #[.string a0_0, .string a0_1, .int .i64 a0_2] 36 (0, 0)) (by (with_reducible repeat (first | refine blk_drewN ?_ _ | refine blk_drew ?_ | refine blk_alloc ?_ _)); exact BK101.out)) : gb114 ≠ gb101))
        have n8_ := Aside0.mk ((by rw [hg]; exact Nat.ne_of_lt (blk_lt (g := gb102) (o := .cells #[.string a1_0, .string a1_1] 23 (0, 0)) (by (with_reducible repeat (first | refine blk_drewN ?_ _ | refine blk_drew ?_ | refine blk_alloc ?_ _)); exact BK102.out)) : gb102 ≠ gb114))
        have n9_ := Aside0.mk ((by rw [hg]; exact Nat.ne_of_gt (blk_lt (g := gb102) (o := .cells #[.string a1_0, .string a1_1] 23 (0, 0)) (by (with_reducible repeat (first | refine blk_drewN ?_ _ | refine blk_drew ?_ | refine blk_alloc ?_ _)); exact BK102.out)) : gb114 ≠ gb102))
        clear BK101
        clear BK102
        clear HB
        have BK101 := n0_
        have BK102 := n1_
        have HB := n2_
        have BK114 := n3_
        have GW114 := n4_
        have GE114 := n5_
        have NB101_114 := n6_
        have NB114_101 := n7_
        have NB102_114 := n8_
        have NB114_102 := n9_
        clear n0_ n1_ n2_ n3_ n4_ n5_ n6_ n7_ n8_ n9_
        clear hb hbox hg
        refine hK.out _ _ ⟨(blk_cell BK101.out 0).trans rfl, (blk_cell BK101.out 1).trans rfl, (blk_cell BK101.out 2).trans rfl, (blk_cell BK102.out 0).trans rfl, (blk_cell BK102.out 1).trans rfl⟩ (fun hHeld => ?_)
        clear hK K
        refine norm_ (a' := ?_) ?_ ?_
        rotate_left
        ·show Act.put _ (some 6) _ = _
         simp only [Act.put, aS1, aS2, aS3, i64_w, i32_w]
         rfl
        refine one_ (i := 3) (N := some 24) #[true, true, true, true, false, false, false, false, true, false, false] rfl rfl (one_of HT_.out (by kernel_rfl)) (by decide) (fun K hK => ?_)
        refine goes_ Tryd.func15 (by kernel_rfl) rfl #[.agg #[.string a1_0, .string a1_1]] (by rfl) rfl rfl (by (try simp only [aM1, aM2, aM3]); first | done | rfl | (simp only [List.length_drop, List.length_take]; rfl)) ?_
        with_reducible refine (laws_toLogRecord.calls a1_0 a1_1 t108 t109 _ A20.out).mono ?_
        rintro e w38 ⟨rfl, hb⟩
        refine ⟨_, rfl, ?_⟩
        have n0_ := Aside0.mk (blk_below (g := gb101) (o := .cells #[.string a0_0, .string a0_1, .int .i64 a0_2] 36 (0, 0)) (by (with_reducible repeat (first | refine blk_drewN ?_ _ | refine blk_drew ?_ | refine blk_alloc ?_ _)); exact BK101.out) hb)
        have n1_ := Aside0.mk (blk_below (g := gb102) (o := .cells #[.string a1_0, .string a1_1] 23 (0, 0)) (by (with_reducible repeat (first | refine blk_drewN ?_ _ | refine blk_drew ?_ | refine blk_alloc ?_ _)); exact BK102.out) hb)
        have n2_ := Aside0.mk (blk_below (g := gb114) (o := .cells #[.string (⟨#[]⟩ : ByteArray), .string (⟨#[]⟩ : ByteArray), .int .i64 0] 31 (0, 0)) (by (with_reducible repeat (first | refine blk_drewN ?_ _ | refine blk_drew ?_ | refine blk_alloc ?_ _)); exact BK114.out) hb)
        have n3_ := Aside0.mk (below_step (by repeat (first | (with_reducible first | exact HB.out | apply below_alloc | apply pw_below_drewN | apply below_drew1 | refine below_set ?_ GE101.out | refine below_set ?_ GE102.out | refine below_set ?_ GE114.out) | exact HB.out)) hb)
        clear BK101
        clear BK102
        clear BK114
        clear HB
        have BK101 := n0_
        have BK102 := n1_
        have BK114 := n2_
        have HB := n3_
        clear n0_ n1_ n2_ n3_
        (try clear hb)
        (try clear hb2)
        (try clear hk)
        (try clear hi)
        refine hK.out _ _ ⟨(blk_cell BK101.out 0).trans rfl, (blk_cell BK101.out 1).trans rfl, (blk_cell BK101.out 2).trans rfl, (blk_cell BK102.out 0).trans rfl, (blk_cell BK102.out 1).trans rfl⟩ (fun hHeld => ?_)
        clear hK K
        refine norm_ (a' := ?_) ?_ ?_
        rotate_left
        ·show Act.put _ (some 24) _ = _
         simp only [Act.put, aS1, aS2, aS3, i64_w, i32_w]
         rfl
        refine one_ (i := 4) (N := some 25) #[true, true, true, true, true, false, false, false, true, false, false] rfl rfl (one_of HT_.out (by kernel_rfl)) (by decide) (fun K hK => ?_)
        refine goes_ Tryd.func28 (by kernel_rfl) rfl #[.agg #[.string t105, .string t106, .int .i64 t107], .agg #[.string t108, .string t109]] (by rfl) rfl rfl (by (try simp only [aM1, aM2, aM3]); first | done | rfl | (simp only [List.length_drop, List.length_take]; rfl)) ?_
        with_reducible refine (spec_AppendRecord.calls k t105 t106 t107 t108 t109 t110 t111 t112 t113 _ A21.out).mono ?_
        rintro e w39 ⟨rfl, hb⟩
        refine ⟨_, rfl, ?_⟩
        have n0_ := Aside0.mk (blk_below (g := gb101) (o := .cells #[.string a0_0, .string a0_1, .int .i64 a0_2] 36 (0, 0)) (by (with_reducible repeat (first | refine blk_drewN ?_ _ | refine blk_drew ?_ | refine blk_alloc ?_ _)); exact BK101.out) hb)
        have n1_ := Aside0.mk (blk_below (g := gb102) (o := .cells #[.string a1_0, .string a1_1] 23 (0, 0)) (by (with_reducible repeat (first | refine blk_drewN ?_ _ | refine blk_drew ?_ | refine blk_alloc ?_ _)); exact BK102.out) hb)
        have n2_ := Aside0.mk (blk_below (g := gb114) (o := .cells #[.string (⟨#[]⟩ : ByteArray), .string (⟨#[]⟩ : ByteArray), .int .i64 0] 31 (0, 0)) (by (with_reducible repeat (first | refine blk_drewN ?_ _ | refine blk_drew ?_ | refine blk_alloc ?_ _)); exact BK114.out) hb)
        have n3_ := Aside0.mk (below_step (by repeat (first | (with_reducible first | exact HB.out | apply below_alloc | apply pw_below_drewN | apply below_drew1 | refine below_set ?_ GE101.out | refine below_set ?_ GE102.out | refine below_set ?_ GE114.out) | exact HB.out)) hb)
        clear BK101
        clear BK102
        clear BK114
        clear HB
        have BK101 := n0_
        have BK102 := n1_
        have BK114 := n2_
        have HB := n3_
        clear n0_ n1_ n2_ n3_
        (try clear hb)
        (try clear hb2)
        (try clear hk)
        (try clear hi)
        refine hK.out _ _ ⟨(blk_cell BK101.out 0).trans rfl, (blk_cell BK101.out 1).trans rfl, (blk_cell BK101.out 2).trans rfl, (blk_cell BK102.out 0).trans rfl, (blk_cell BK102.out 1).trans rfl⟩ (fun hHeld => ?_)
        clear hK K
        refine norm_ (a' := ?_) ?_ ?_
        rotate_left
        ·show Act.put _ (some 25) _ = _
         simp only [Act.put, aS1, aS2, aS3, i64_w, i32_w]
         rfl
        refine pure_ (i := 5) (N := some 20) (v := ?_) (a' := ?_) #[true, true, true, true, true, true, false, false, true, false, false] rfl rfl (any_of HT_.out (by kernel_rfl)) (fun _ _ _ h => h) (Or.inl ⟨by rfl, ?_⟩) ?_ ?_
        rotate_left
        ·intro w'
         go_simp
         with_reducible rfl
        rotate_left
        ·simp only [Act.put, aS1, aS2, aS3, i64_w, i32_w]
         rfl
        refine pure_ (i := 6) (N := some 26) (v := ?_) (a' := ?_) #[true, true, true, true, true, true, true, false, true, false, false] rfl rfl (any_of HT_.out (by kernel_rfl)) (fun _ _ _ h => h) (Or.inl ⟨by rfl, ?_⟩) ?_ ?_
        rotate_left
        ·intro w'
         go_simp
         with_reducible rfl
        rotate_left
        ·simp only [Act.put, aS1, aS2, aS3, i64_w, i32_w]
         rfl
        refine pure_ (i := 7) (N := some 27) (v := ?_) (a' := ?_) (cn 11 9) rfl rfl (any_of HT_.out (by kernel_rfl)) (fun _ _ _ h => h) (Or.inl ⟨by rfl, ?_⟩) ?_ ?_
        rotate_left
        ·intro w'
         go_simp
         with_reducible rfl
        rotate_left
        ·simp only [Act.put, aS1, aS2, aS3, i64_w, i32_w]
         rfl
        exact norm_ (by simp only [putAll, Act.put, aS1, aS2, aS3]) (hCont (gb114) _ ⟨hHeld, (by (with_reducible repeat (first | refine blk_drewN ?_ _ | refine blk_drew ?_ | refine blk_alloc ?_ _)); exact BK101.out), (by (with_reducible repeat (first | refine blk_drewN ?_ _ | refine blk_drew ?_ | refine blk_alloc ?_ _)); exact BK102.out), (by (with_reducible repeat (first | refine blk_drewN ?_ _ | refine blk_drew ?_ | refine blk_alloc ?_ _)); exact BK114.out), GW114.out, GE114.out, NB101_114.out, NB114_101.out, NB102_114.out, NB114_102.out, (by repeat (first | (with_reducible first | exact HB.out | apply below_alloc | apply pw_below_drewN | apply below_drew1 | refine below_set ?_ GE101.out | refine below_set ?_ GE102.out | refine below_set ?_ GE114.out) | exact HB.out))⟩)
      ·skip
       refine box_step ?hg (N := 6) ?hd (cs := #[.string (⟨#[]⟩ : ByteArray), .string (⟨#[]⟩ : ByteArray), .int .i64 0]) (t := 31) ?hr ?_; (case hd => rfl); (case hg => rfl); (case hr => first | (go_simp; done) | (go_simp; rfl))
       intro gb114 hg w36 hbox hb
       have n0_ := Aside0.mk (blk_below (g := gb101) (o := .cells #[.string a0_0, .string a0_1, .int .i64 a0_2] 36 (0, 0)) (by (with_reducible repeat (first | refine blk_drewN ?_ _ | refine blk_drew ?_ | refine blk_alloc ?_ _)); exact BK101.out) hb)
       have n1_ := Aside0.mk (blk_below (g := gb102) (o := .cells #[.string a1_0, .string a1_1] 23 (0, 0)) (by (with_reducible repeat (first | refine blk_drewN ?_ _ | refine blk_drew ?_ | refine blk_alloc ?_ _)); exact BK102.out) hb)
       have n2_ := Aside0.mk (below_step (by repeat (first | (with_reducible first | exact HB.out | apply below_alloc | apply pw_below_drewN | apply below_drew1 | refine below_set ?_ GE101.out | refine below_set ?_ GE102.out) | exact HB.out)) hb)
       have n3_ := Aside0.mk (hbox)
       have n4_ := Aside0.mk ((by rw [hg]; exact (below_size (by repeat (first | (with_reducible first | exact HB.out | apply below_alloc | apply pw_below_drewN | apply below_drew1 | refine below_set ?_ GE101.out | refine below_set ?_ GE102.out) | exact HB.out))) : w.heap.size ≤ gb114))
       have n5_ := Aside0.mk ((by rw [hg]; exact (below_size (by repeat (first | (with_reducible first | exact HB.out | apply below_alloc | apply pw_below_drewN | apply below_drew1 | refine below_set ?_ GE101.out | refine below_set ?_ GE102.out) | exact HB.out))) : w.heap.size ≤ gb114))
       have n6_ := Aside0.mk ((by rw [hg]; exact Nat.ne_of_lt (blk_lt (g := gb101) (o := .cells #[.string a0_0, .string a0_1, .int .i64 a0_2] 36 (0, 0)) (by (with_reducible repeat (first | refine blk_drewN ?_ _ | refine blk_drew ?_ | refine blk_alloc ?_ _)); exact BK101.out)) : gb101 ≠ gb114))
       have n7_ := Aside0.mk ((by rw [hg]; exact Nat.ne_of_gt (blk_lt (g := gb101) (o := .cells #[.string a0_0, .string a0_1, .int .i64 a0_2] 36 (0, 0)) (by (with_reducible repeat (first | refine blk_drewN ?_ _ | refine blk_drew ?_ | refine blk_alloc ?_ _)); exact BK101.out)) : gb114 ≠ gb101))
       have n8_ := Aside0.mk ((by rw [hg]; exact Nat.ne_of_lt (blk_lt (g := gb102) (o := .cells #[.string a1_0, .string a1_1] 23 (0, 0)) (by (with_reducible repeat (first | refine blk_drewN ?_ _ | refine blk_drew ?_ | refine blk_alloc ?_ _)); exact BK102.out)) : gb102 ≠ gb114))
       have n9_ := Aside0.mk ((by rw [hg]; exact Nat.ne_of_gt (blk_lt (g := gb102) (o := .cells #[.string a1_0, .string a1_1] 23 (0, 0)) (by (with_reducible repeat (first | refine blk_drewN ?_ _ | refine blk_drew ?_ | refine blk_alloc ?_ _)); exact BK102.out)) : gb114 ≠ gb102))
       clear BK101
       clear BK102
       clear HB
       have BK101 := n0_
       have BK102 := n1_
       have HB := n2_
       have BK114 := n3_
       have GW114 := n4_
       have GE114 := n5_
       have NB101_114 := n6_
       have NB114_101 := n7_
       have NB102_114 := n8_
       have NB114_102 := n9_
       clear n0_ n1_ n2_ n3_ n4_ n5_ n6_ n7_ n8_ n9_
       clear hb hbox hg
       refine hK.out _ _ ⟨(blk_cell BK101.out 0).trans rfl, (blk_cell BK101.out 1).trans rfl, (blk_cell BK101.out 2).trans rfl, (blk_cell BK102.out 0).trans rfl, (blk_cell BK102.out 1).trans rfl⟩ (fun hHeld => ?_)
       clear hK K
       refine norm_ (a' := ?_) ?_ ?_
       rotate_left
       ·show Act.put _ (some 6) _ = _
        simp only [Act.put, aS1, aS2, aS3, i64_w, i32_w]
        rfl
       refine one_ (i := 1) (N := some 22) #[true, true, true, false, false, false, false, false, true, false, false] rfl rfl (one_of HT_.out (by kernel_rfl)) (by decide) (fun K hK => ?_)
       refine goes_ Tryd.func22 (by kernel_rfl) rfl #[.agg #[.string a0_0, .string a0_1, .int .i64 a0_2]] (by rfl) rfl rfl (by (try simp only [aM1, aM2, aM3]); first | done | rfl | (simp only [List.length_drop, List.length_take]; rfl)) ?_
       with_reducible refine (laws_toLog.calls a0_0 a0_1 a0_2 t105 t106 t107 _ A19.out).mono ?_
       rintro e w37 ⟨rfl, hb⟩
       refine ⟨_, rfl, ?_⟩
       have n0_ := Aside0.mk (blk_below (g := gb101) (o := .cells #[.string a0_0, .string a0_1, .int .i64 a0_2] 36 (0, 0)) (by (with_reducible repeat (first | refine blk_drewN ?_ _ | refine blk_drew ?_ | refine blk_alloc ?_ _)); exact BK101.out) hb)
       have n1_ := Aside0.mk (blk_below (g := gb102) (o := .cells #[.string a1_0, .string a1_1] 23 (0, 0)) (by (with_reducible repeat (first | refine blk_drewN ?_ _ | refine blk_drew ?_ | refine blk_alloc ?_ _)); exact BK102.out) hb)
       have n2_ := Aside0.mk (blk_below (g := gb114) (o := .cells #[.string (⟨#[]⟩ : ByteArray), .string (⟨#[]⟩ : ByteArray), .int .i64 0] 31 (0, 0)) (by (with_reducible repeat (first | refine blk_drewN ?_ _ | refine blk_drew ?_ | refine blk_alloc ?_ _)); exact BK114.out) hb)
       have n3_ := Aside0.mk (below_step (by repeat (first | (with_reducible first | exact HB.out | apply below_alloc | apply pw_below_drewN | apply below_drew1 | refine below_set ?_ GE101.out | refine below_set ?_ GE102.out | refine below_set ?_ GE114.out) | exact HB.out)) hb)
       clear BK101
       clear BK102
       clear BK114
       clear HB
       have BK101 := n0_
       have BK102 := n1_
       have BK114 := n2_
       have HB := n3_
       clear n0_ n1_ n2_ n3_
       (try clear hb)
       (try clear hb2)
       (try clear hk)
       (try clear hi)
       refine hK.out _ _ ⟨(blk_cell BK101.out 0).trans rfl, (blk_cell BK101.out 1).trans rfl, (blk_cell BK101.out 2).trans rfl, (blk_cell BK102.out 0).trans rfl, (blk_cell BK102.out 1).trans rfl⟩ (fun hHeld => ?_)
       clear hK K
       refine norm_ (a' := ?_) ?_ ?_
       rotate_left
       ·show Act.put _ (some 22) _ = _
        simp only [Act.put, aS1, aS2, aS3, i64_w, i32_w]
        rfl
       refine one_ (i := 3) (N := some 24) #[true, true, true, true, false, false, false, false, true, false, false] rfl rfl (one_of HT_.out (by kernel_rfl)) (by decide) (fun K hK => ?_)
       refine goes_ Tryd.func15 (by kernel_rfl) rfl #[.agg #[.string a1_0, .string a1_1]] (by rfl) rfl rfl (by (try simp only [aM1, aM2, aM3]); first | done | rfl | (simp only [List.length_drop, List.length_take]; rfl)) ?_
       with_reducible refine (laws_toLogRecord.calls a1_0 a1_1 t108 t109 _ A20.out).mono ?_
       rintro e w38 ⟨rfl, hb⟩
       refine ⟨_, rfl, ?_⟩
       have n0_ := Aside0.mk (blk_below (g := gb101) (o := .cells #[.string a0_0, .string a0_1, .int .i64 a0_2] 36 (0, 0)) (by (with_reducible repeat (first | refine blk_drewN ?_ _ | refine blk_drew ?_ | refine blk_alloc ?_ _)); exact BK101.out) hb)
       have n1_ := Aside0.mk (blk_below (g := gb102) (o := .cells #[.string a1_0, .string a1_1] 23 (0, 0)) (by (with_reducible repeat (first | refine blk_drewN ?_ _ | refine blk_drew ?_ | refine blk_alloc ?_ _)); exact BK102.out) hb)
       have n2_ := Aside0.mk (blk_below (g := gb114) (o := .cells #[.string (⟨#[]⟩ : ByteArray), .string (⟨#[]⟩ : ByteArray), .int .i64 0] 31 (0, 0)) (by (with_reducible repeat (first | refine blk_drewN ?_ _ | refine blk_drew ?_ | refine blk_alloc ?_ _)); exact BK114.out) hb)
       have n3_ := Aside0.mk (below_step (by repeat (first | (with_reducible first | exact HB.out | apply below_alloc | apply pw_below_drewN | apply below_drew1 | refine below_set ?_ GE101.out | refine below_set ?_ GE102.out | refine below_set ?_ GE114.out) | exact HB.out)) hb)
       clear BK101
       clear BK102
       clear BK114
       clear HB
       have BK101 := n0_
       have BK102 := n1_
       have BK114 := n2_
       have HB := n3_
       clear n0_ n1_ n2_ n3_
       (try clear hb)
       (try clear hb2)
       (try clear hk)
       (try clear hi)
       refine hK.out _ _ ⟨(blk_cell BK101.out 0).trans rfl, (blk_cell BK101.out 1).trans rfl, (blk_cell BK101.out 2).trans rfl, (blk_cell BK102.out 0).trans rfl, (blk_cell BK102.out 1).trans rfl⟩ (fun hHeld => ?_)
       clear hK K
       refine norm_ (a' := ?_) ?_ ?_
       rotate_left
       ·show Act.put _ (some 24) _ = _
        simp only [Act.put, aS1, aS2, aS3, i64_w, i32_w]
        rfl
       refine one_ (i := 4) (N := some 25) #[true, true, true, true, true, false, false, false, true, false, false] rfl rfl (one_of HT_.out (by kernel_rfl)) (by decide) (fun K hK => ?_)
       refine goes_ Tryd.func28 (by kernel_rfl) rfl #[.agg #[.string t105, .string t106, .int .i64 t107], .agg #[.string t108, .string t109]] (by rfl) rfl rfl (by (try simp only [aM1, aM2, aM3]); first | done | rfl | (simp only [List.length_drop, List.length_take]; rfl)) ?_
       with_reducible refine (spec_AppendRecord.calls k t105 t106 t107 t108 t109 t110 t111 t112 t113 _ A21.out).mono ?_
       rintro e w39 ⟨rfl, hb⟩
       refine ⟨_, rfl, ?_⟩
       have n0_ := Aside0.mk (blk_below (g := gb101) (o := .cells #[.string a0_0, .string a0_1, .int .i64 a0_2] 36 (0, 0)) (by (with_reducible repeat (first | refine blk_drewN ?_ _ | refine blk_drew ?_ | refine blk_alloc ?_ _)); exact BK101.out) hb)
       have n1_ := Aside0.mk (blk_below (g := gb102) (o := .cells #[.string a1_0, .string a1_1] 23 (0, 0)) (by (with_reducible repeat (first | refine blk_drewN ?_ _ | refine blk_drew ?_ | refine blk_alloc ?_ _)); exact BK102.out) hb)
       have n2_ := Aside0.mk (blk_below (g := gb114) (o := .cells #[.string (⟨#[]⟩ : ByteArray), .string (⟨#[]⟩ : ByteArray), .int .i64 0] 31 (0, 0)) (by (with_reducible repeat (first | refine blk_drewN ?_ _ | refine blk_drew ?_ | refine blk_alloc ?_ _)); exact BK114.out) hb)
       have n3_ := Aside0.mk (below_step (by repeat (first | (with_reducible first | exact HB.out | apply below_alloc | apply pw_below_drewN | apply below_drew1 | refine below_set ?_ GE101.out | refine below_set ?_ GE102.out | refine below_set ?_ GE114.out) | exact HB.out)) hb)
       clear BK101
       clear BK102
       clear BK114
       clear HB
       have BK101 := n0_
       have BK102 := n1_
       have BK114 := n2_
       have HB := n3_
       clear n0_ n1_ n2_ n3_
       (try clear hb)
       (try clear hb2)
       (try clear hk)
       (try clear hi)
       refine hK.out _ _ ⟨(blk_cell BK101.out 0).trans rfl, (blk_cell BK101.out 1).trans rfl, (blk_cell BK101.out 2).trans rfl, (blk_cell BK102.out 0).trans rfl, (blk_cell BK102.out 1).trans rfl⟩ (fun hHeld => ?_)
       clear hK K
       refine norm_ (a' := ?_) ?_ ?_
       rotate_left
       ·show Act.put _ (some 25) _ = _
        simp only [Act.put, aS1, aS2, aS3, i64_w, i32_w]
        rfl
       refine pure_ (i := 5) (N := some 20) (v := ?_) (a' := ?_) #[true, true, true, true, true, true, false, false, true, false, false] rfl rfl (any_of HT_.out (by kernel_rfl)) (fun _ _ _ h => h) (Or.inl ⟨by rfl, ?_⟩) ?_ ?_
       rotate_left
       ·intro w'
        go_simp
        with_reducible rfl
       rotate_left
       ·simp only [Act.put, aS1, aS2, aS3, i64_w, i32_w]
        rfl
       refine pure_ (i := 6) (N := some 26) (v := ?_) (a' := ?_) #[true, true, true, true, true, true, true, false, true, false, false] rfl rfl (any_of HT_.out (by kernel_rfl)) (fun _ _ _ h => h) (Or.inl ⟨by rfl, ?_⟩) ?_ ?_
       rotate_left
       ·intro w'
        go_simp
        with_reducible rfl
       rotate_left
       ·simp only [Act.put, aS1, aS2, aS3, i64_w, i32_w]
        rfl
       refine pure_ (i := 7) (N := some 27) (v := ?_) (a' := ?_) (cn 11 9) rfl rfl (any_of HT_.out (by kernel_rfl)) (fun _ _ _ h => h) (Or.inl ⟨by rfl, ?_⟩) ?_ ?_
       rotate_left
       ·intro w'
        go_simp
        with_reducible rfl
       rotate_left
       ·simp only [Act.put, aS1, aS2, aS3, i64_w, i32_w]
        rfl
       exact norm_ (by simp only [putAll, Act.put, aS1, aS2, aS3]) (hCont (gb114) _ ⟨hHeld, (by (with_reducible repeat (first | refine blk_drewN ?_ _ | refine blk_drew ?_ | refine blk_alloc ?_ _)); exact BK101.out), (by (with_reducible repeat (first | refine blk_drewN ?_ _ | refine blk_drew ?_ | refine blk_alloc ?_ _)); exact BK102.out), (by (with_reducible repeat (first | refine blk_drewN ?_ _ | refine blk_drew ?_ | refine blk_alloc ?_ _)); exact BK114.out), GW114.out, GE114.out, NB101_114.out, NB114_101.out, NB102_114.out, NB114_102.out, (by repeat (first | (with_reducible first | exact HB.out | apply below_alloc | apply pw_below_drewN | apply below_drew1 | refine below_set ?_ GE101.out | refine below_set ?_ GE102.out | refine below_set ?_ GE114.out) | exact HB.out))⟩)
     rintro gb114 w40 ⟨hS_, h0_, h1_, h2_, h3_, h4_, h5_, h6_, h7_, h8_, h9_⟩
     have n0_ : Aside0 (w40.heap[gb101]? = some (.cells #[.string a0_0, .string a0_1, .int .i64 a0_2] 36 (0, 0))) := ⟨h0_⟩
     have n1_ : Aside0 (w40.heap[gb102]? = some (.cells #[.string a1_0, .string a1_1] 23 (0, 0))) := ⟨h1_⟩
     have n2_ : Aside0 (w40.heap[gb114]? = some (.cells #[.string (⟨#[]⟩ : ByteArray), .string (⟨#[]⟩ : ByteArray), .int .i64 0] 31 (0, 0))) := ⟨h2_⟩
     have n3_ : Aside0 (w.heap.size ≤ gb114) := ⟨h3_⟩
     have n4_ : Aside0 (w.heap.size ≤ gb114) := ⟨h4_⟩
     have n5_ : Aside0 (gb101 ≠ gb114) := ⟨h5_⟩
     have n6_ : Aside0 (gb114 ≠ gb101) := ⟨h6_⟩
     have n7_ : Aside0 (gb102 ≠ gb114) := ⟨h7_⟩
     have n8_ : Aside0 (gb114 ≠ gb102) := ⟨h8_⟩
     have n9_ : Aside0 (Below w.heap.size w w40) := ⟨h9_⟩
     clear BK101
     clear BK102
     clear HB
     clear h0_ h1_ h2_ h3_ h4_ h5_ h6_ h7_ h8_ h9_
     have BK101 := n0_
     have BK102 := n1_
     have BK114 := n2_
     have GW114 := n3_
     have GE114 := n4_
     have NB101_114 := n5_
     have NB114_101 := n6_
     have NB102_114 := n7_
     have NB114_102 := n8_
     have HB := n9_
     clear n0_ n1_ n2_ n3_ n4_ n5_ n6_ n7_ n8_ n9_
     have hHeld : w40.cell? ⟨gb101, 0, none⟩ = some (.string a0_0) ∧ w40.cell? ⟨gb101, 1, none⟩ = some (.string a0_1) ∧ w40.cell? ⟨gb101, 2, none⟩ = some (.int .i64 a0_2) ∧ w40.cell? ⟨gb102, 0, none⟩ = some (.string a1_0) ∧ w40.cell? ⟨gb102, 1, none⟩ = some (.string a1_1) := hS_
     refine norm_ (a' := ?_) ?_ ?_
     rotate_left
     ·simp only [putAll, Act.put, aS1, aS2, aS3]
      rfl
     refine one_ (i := 9) (N := none) (cn 11 10) rfl rfl (one_of HT_.out (by kernel_rfl)) (by decide) (fun K hK => ?_)
     have hs41 : w40.cell? ⟨gb114, 0, none⟩ = some (.string (⟨#[]⟩ : ByteArray)) := (blk_cell BK114.out 0).trans rfl
     have hfs41 := blk_frozen BK114.out 0
     have hns41_0 := NB101_114.out
     have hns41_1 := NB102_114.out
     have hms41_0 := NB114_101.out
     have hms41_1 := NB114_102.out
     have hs42 : w40.cell? ⟨gb114, 1, none⟩ = some (.string (⟨#[]⟩ : ByteArray)) := (blk_cell BK114.out 1).trans rfl
     have hfs42 := blk_frozen BK114.out 1
     have hns42_0 := NB101_114.out
     have hns42_1 := NB102_114.out
     have hms42_0 := NB114_101.out
     have hms42_1 := NB114_102.out
     have hs43 : w40.cell? ⟨gb114, 2, none⟩ = some (.int .i64 0) := (blk_cell BK114.out 2).trans rfl
     have hfs43 := blk_frozen BK114.out 2
     have hns43_0 := NB101_114.out
     have hns43_1 := NB102_114.out
     have hms43_0 := NB114_101.out
     have hms43_1 := NB114_102.out
     refine skip_ (w1 := ?_) (by rfl) rfl ?_ ?_
     rotate_left
     ·go_simp
      rfl
     refine hK.out _ _ ⟨((cell_far (p := ⟨gb114, _, none⟩) NB101_114.out _).trans (((cell_far (p := ⟨gb114, _, none⟩) NB101_114.out _).trans (((cell_far (p := ⟨gb114, _, none⟩) NB101_114.out _).trans (hHeld.1)))))), ((cell_far (p := ⟨gb114, _, none⟩) NB101_114.out _).trans (((cell_far (p := ⟨gb114, _, none⟩) NB101_114.out _).trans (((cell_far (p := ⟨gb114, _, none⟩) NB101_114.out _).trans (hHeld.2.1)))))), ((cell_far (p := ⟨gb114, _, none⟩) NB101_114.out _).trans (((cell_far (p := ⟨gb114, _, none⟩) NB101_114.out _).trans (((cell_far (p := ⟨gb114, _, none⟩) NB101_114.out _).trans (hHeld.2.2.1)))))), ((cell_far (p := ⟨gb114, _, none⟩) NB102_114.out _).trans (((cell_far (p := ⟨gb114, _, none⟩) NB102_114.out _).trans (((cell_far (p := ⟨gb114, _, none⟩) NB102_114.out _).trans (hHeld.2.2.2.1)))))), ((cell_far (p := ⟨gb114, _, none⟩) NB102_114.out _).trans (((cell_far (p := ⟨gb114, _, none⟩) NB102_114.out _).trans (((cell_far (p := ⟨gb114, _, none⟩) NB102_114.out _).trans (hHeld.2.2.2.2))))))⟩ (fun hHeld => ?_)
     clear hK K
     refine pure_ (i := 10) (N := some 7) (v := ?_) (a' := ?_) (cn 11 11) rfl rfl (any_of HT_.out (by kernel_rfl)) (fun _ _ _ h => h) (Or.inl ⟨by rfl, ?_⟩) ?_ ?_
     rotate_left
     ·intro w'
      go_simp
      with_reducible rfl
     rotate_left
     ·simp only [Act.put, aS1, aS2, aS3, i64_w, i32_w]
      rfl
     refine done_ (done_of HT_.out (by kernel_rfl)) ?_
     try go_wp2
     have n0_ : Aside0 ((((w40.setCell ⟨gb114, 0, none⟩ (.string t110)).setCell ⟨gb114, 1, none⟩ (.string t111)).setCell ⟨gb114, 2, none⟩ (.int .i64 t112)).heap[gb101]? = some (.cells #[.string a0_0, .string a0_1, .int .i64 a0_2] 36 (0, 0))) := ⟨by (with_reducible repeat (first | refine blk_drewN ?_ _ | refine blk_drew ?_ | refine blk_alloc ?_ _)); refine blk_far ?_ NB101_114.out _; (with_reducible repeat (first | refine blk_drewN ?_ _ | refine blk_drew ?_ | refine blk_alloc ?_ _)); refine blk_far ?_ NB101_114.out _; (with_reducible repeat (first | refine blk_drewN ?_ _ | refine blk_drew ?_ | refine blk_alloc ?_ _)); refine blk_far ?_ NB101_114.out _; (with_reducible repeat (first | refine blk_drewN ?_ _ | refine blk_drew ?_ | refine blk_alloc ?_ _)); exact BK101.out⟩
     have n1_ : Aside0 ((((w40.setCell ⟨gb114, 0, none⟩ (.string t110)).setCell ⟨gb114, 1, none⟩ (.string t111)).setCell ⟨gb114, 2, none⟩ (.int .i64 t112)).heap[gb102]? = some (.cells #[.string a1_0, .string a1_1] 23 (0, 0))) := ⟨by (with_reducible repeat (first | refine blk_drewN ?_ _ | refine blk_drew ?_ | refine blk_alloc ?_ _)); refine blk_far ?_ NB102_114.out _; (with_reducible repeat (first | refine blk_drewN ?_ _ | refine blk_drew ?_ | refine blk_alloc ?_ _)); refine blk_far ?_ NB102_114.out _; (with_reducible repeat (first | refine blk_drewN ?_ _ | refine blk_drew ?_ | refine blk_alloc ?_ _)); refine blk_far ?_ NB102_114.out _; (with_reducible repeat (first | refine blk_drewN ?_ _ | refine blk_drew ?_ | refine blk_alloc ?_ _)); exact BK102.out⟩
     have n2_ : Aside0 ((((w40.setCell ⟨gb114, 0, none⟩ (.string t110)).setCell ⟨gb114, 1, none⟩ (.string t111)).setCell ⟨gb114, 2, none⟩ (.int .i64 t112)).heap[gb114]? = some (.cells #[.string t110, .string t111, .int .i64 t112] 31 (0, 0))) := ⟨by (with_reducible repeat (first | refine blk_drewN ?_ _ | refine blk_drew ?_ | refine blk_alloc ?_ _)); refine blk_put (cs := #[.string t110, .string t111, .int .i64 0]) ?_ 2 _ rfl; (with_reducible repeat (first | refine blk_drewN ?_ _ | refine blk_drew ?_ | refine blk_alloc ?_ _)); refine blk_put (cs := #[.string t110, .string (⟨#[]⟩ : ByteArray), .int .i64 0]) ?_ 1 _ rfl; (with_reducible repeat (first | refine blk_drewN ?_ _ | refine blk_drew ?_ | refine blk_alloc ?_ _)); refine blk_put (cs := #[.string (⟨#[]⟩ : ByteArray), .string (⟨#[]⟩ : ByteArray), .int .i64 0]) ?_ 0 _ rfl; (with_reducible repeat (first | refine blk_drewN ?_ _ | refine blk_drew ?_ | refine blk_alloc ?_ _)); exact BK114.out⟩
     have n3_ : Aside0 (Below w.heap.size w (((w40.setCell ⟨gb114, 0, none⟩ (.string t110)).setCell ⟨gb114, 1, none⟩ (.string t111)).setCell ⟨gb114, 2, none⟩ (.int .i64 t112))) := ⟨by repeat (first | (with_reducible first | exact HB.out | apply below_alloc | apply pw_below_drewN | apply below_drew1 | refine below_set ?_ GE101.out | refine below_set ?_ GE102.out | refine below_set ?_ GE114.out) | exact HB.out)⟩
     (try clear BK101)
     (try clear BK102)
     (try clear BK114)
     (try clear HB)
     generalize (((w40.setCell ⟨gb114, 0, none⟩ (.string t110)).setCell ⟨gb114, 1, none⟩ (.string t111)).setCell ⟨gb114, 2, none⟩ (.int .i64 t112)) = w44 at n0_ n1_ n2_ n3_ ⊢
     have BK101 := n0_
     have BK102 := n1_
     have BK114 := n2_
     have HB := n3_
     clear n0_ n1_ n2_ n3_
     have n0_ := Aside0.mk (blk_drew BK101.out)
     have n1_ := Aside0.mk (blk_drew BK102.out)
     have n2_ := Aside0.mk (blk_drew BK114.out)
     have n3_ := Aside0.mk (below_drew1 HB.out)
     clear BK101
     clear BK102
     clear BK114
     clear HB
     have BK101 := n0_
     have BK102 := n1_
     have BK114 := n2_
     have HB := n3_
     clear n0_ n1_ n2_ n3_
     refine start_ (n := 11) (S := fun w' => w'.cell? ⟨gb101, 0, none⟩ = some (.string a0_0) ∧ w'.cell? ⟨gb101, 1, none⟩ = some (.string a0_1) ∧ w'.cell? ⟨gb101, 2, none⟩ = some (.int .i64 a0_2) ∧ w'.cell? ⟨gb102, 0, none⟩ = some (.string a1_0) ∧ w'.cell? ⟨gb102, 1, none⟩ = some (.string a1_1)) (ds := []) (cn 11 0) (by kernel_rfl) rfl (by kernel_rfl) ⟨(blk_cell BK101.out 0).trans rfl, (blk_cell BK101.out 1).trans rfl, (blk_cell BK101.out 2).trans rfl, (blk_cell BK102.out 0).trans rfl, (blk_cell BK102.out 1).trans rfl⟩ (fun hHeld => ?_); refine with_tabW laws_FnExactAppendRecord.tab9 laws_FnExactAppendRecord.bits9 (fun HT_ HW_ => ?_)
     generalize w44.drew = w45 at BK101 BK102 BK114 HB hHeld ⊢
     refine take_ (i := 0) (N := some 29) (v := ?_) (a' := ?_) (cn 11 1) rfl rfl (take_ofW HT_.out HW_.out (by kernel_rfl)) (fun _ _ _ h => h) (Or.inl ⟨by rfl, ?_⟩) hHeld ?_ ?_
     rotate_left
     ·rintro w' ⟨s0, s1, s2, s3, s4⟩
      go_simp
      with_reducible rfl
     rotate_left
     ·simp only [Act.put, aS1, aS2, aS3, i64_w, i32_w]
      rfl
     refine take_ (i := 2) (N := some 31) (v := ?_) (a' := ?_) #[true, false, true, false, false, false, false, false, false, false, false] rfl rfl (take_ofW HT_.out HW_.out (by kernel_rfl)) (fun _ _ _ h => h) (Or.inl ⟨by rfl, ?_⟩) hHeld ?_ ?_
     rotate_left
     ·rintro w' ⟨s0, s1, s2, s3, s4⟩
      go_simp
      with_reducible rfl
     rotate_left
     ·simp only [Act.put, aS1, aS2, aS3, i64_w, i32_w]
      rfl
     refine join_ (σ := Nat) 2 (cn 11 9) (fun s_ => [(30, .agg #[.string t115, .string t116, .int .i64 t117]), (32, .agg #[.string t118, .string t119]), (33, .tuple #[.agg #[.string t120, .string t121, .int .i64 t122], .int .i64 t123]), (8, .pointer (some ⟨s_, 0, none⟩)), (28, .tuple #[.agg #[.string t120, .string t121, .int .i64 t122], .int .i64 t123]), (34, .agg #[.string t120, .string t121, .int .i64 t122]), (35, .int .i64 t123)]) (fun s_ w' => (w'.cell? ⟨gb101, 0, none⟩ = some (.string a0_0) ∧ w'.cell? ⟨gb101, 1, none⟩ = some (.string a0_1) ∧ w'.cell? ⟨gb101, 2, none⟩ = some (.int .i64 a0_2) ∧ w'.cell? ⟨gb102, 0, none⟩ = some (.string a1_0) ∧ w'.cell? ⟨gb102, 1, none⟩ = some (.string a1_1)) ∧ (w'.heap[gb101]? = some (.cells #[.string a0_0, .string a0_1, .int .i64 a0_2] 36 (0, 0))) ∧ (w'.heap[gb102]? = some (.cells #[.string a1_0, .string a1_1] 23 (0, 0))) ∧ (w'.heap[gb114]? = some (.cells #[.string t110, .string t111, .int .i64 t112] 31 (0, 0))) ∧ (w'.heap[s_]? = some (.cells #[.string (⟨#[]⟩ : ByteArray), .string (⟨#[]⟩ : ByteArray), .int .i64 0] 31 (0, 0))) ∧ (w.heap.size ≤ s_) ∧ (w.heap.size ≤ s_) ∧ (gb101 ≠ s_) ∧ (s_ ≠ gb101) ∧ (gb102 ≠ s_) ∧ (s_ ≠ gb102) ∧ (gb114 ≠ s_) ∧ (s_ ≠ gb114) ∧ (Below w.heap.size w w')) ?_ ?_
     rotate_left
     ·intro hCont
      refine two_ (i := 1) (j := 8) (Ni := some 30) (Nj := some 8) (cn 11 3) #[true, false, true, false, false, false, false, false, true, false, false] rfl rfl rfl rfl (two_of HT_.out (by kernel_rfl)) (by decide) (by decide) (fun K hK => ?_) (fun K hK => ?_)
      ·skip
       refine goes_ Tryd.func22 (by kernel_rfl) rfl #[.agg #[.string a0_0, .string a0_1, .int .i64 a0_2]] (by rfl) rfl rfl (by (try simp only [aM1, aM2, aM3]); first | done | rfl | (simp only [List.length_drop, List.length_take]; rfl)) ?_
       with_reducible refine (laws_toLog.calls a0_0 a0_1 a0_2 t115 t116 t117 _ A22.out).mono ?_
       rintro e w46 ⟨rfl, hb⟩
       refine ⟨_, rfl, ?_⟩
       have n0_ := Aside0.mk (blk_below (g := gb101) (o := .cells #[.string a0_0, .string a0_1, .int .i64 a0_2] 36 (0, 0)) (by (with_reducible repeat (first | refine blk_drewN ?_ _ | refine blk_drew ?_ | refine blk_alloc ?_ _)); exact BK101.out) hb)
       have n1_ := Aside0.mk (blk_below (g := gb102) (o := .cells #[.string a1_0, .string a1_1] 23 (0, 0)) (by (with_reducible repeat (first | refine blk_drewN ?_ _ | refine blk_drew ?_ | refine blk_alloc ?_ _)); exact BK102.out) hb)
       have n2_ := Aside0.mk (blk_below (g := gb114) (o := .cells #[.string t110, .string t111, .int .i64 t112] 31 (0, 0)) (by (with_reducible repeat (first | refine blk_drewN ?_ _ | refine blk_drew ?_ | refine blk_alloc ?_ _)); exact BK114.out) hb)
       have n3_ := Aside0.mk (below_step (by repeat (first | (with_reducible first | exact HB.out | apply below_alloc | apply pw_below_drewN | apply below_drew1 | refine below_set ?_ GE101.out | refine below_set ?_ GE102.out | refine below_set ?_ GE114.out) | exact HB.out)) hb)
       clear BK101
       clear BK102
       clear BK114
       clear HB
       have BK101 := n0_
       have BK102 := n1_
       have BK114 := n2_
       have HB := n3_
       clear n0_ n1_ n2_ n3_
       (try clear hb)
       (try clear hb2)
       (try clear hk)
       (try clear hi)
       refine hK.out _ _ ⟨(blk_cell BK101.out 0).trans rfl, (blk_cell BK101.out 1).trans rfl, (blk_cell BK101.out 2).trans rfl, (blk_cell BK102.out 0).trans rfl, (blk_cell BK102.out 1).trans rfl⟩ (fun hHeld => ?_)
       clear hK K
       refine norm_ (a' := ?_) ?_ ?_
       rotate_left
       ·show Act.put _ (some 30) _ = _
        simp only [Act.put, aS1, aS2, aS3, i64_w, i32_w]
        rfl
       refine two_ (i := 3) (j := 8) (Ni := some 32) (Nj := some 8) (cn 11 4) #[true, true, true, false, false, false, false, false, true, false, false] rfl rfl rfl rfl (two_of HT_.out (by kernel_rfl)) (by decide) (by decide) (fun K hK => ?_) (fun K hK => ?_)
       ·skip
        refine goes_ Tryd.func15 (by kernel_rfl) rfl #[.agg #[.string a1_0, .string a1_1]] (by rfl) rfl rfl (by (try simp only [aM1, aM2, aM3]); first | done | rfl | (simp only [List.length_drop, List.length_take]; rfl)) ?_
        with_reducible refine (laws_toLogRecord.calls a1_0 a1_1 t118 t119 _ A23.out).mono ?_
        rintro e w47 ⟨rfl, hb⟩
        refine ⟨_, rfl, ?_⟩
        have n0_ := Aside0.mk (blk_below (g := gb101) (o := .cells #[.string a0_0, .string a0_1, .int .i64 a0_2] 36 (0, 0)) (by (with_reducible repeat (first | refine blk_drewN ?_ _ | refine blk_drew ?_ | refine blk_alloc ?_ _)); exact BK101.out) hb)
        have n1_ := Aside0.mk (blk_below (g := gb102) (o := .cells #[.string a1_0, .string a1_1] 23 (0, 0)) (by (with_reducible repeat (first | refine blk_drewN ?_ _ | refine blk_drew ?_ | refine blk_alloc ?_ _)); exact BK102.out) hb)
        have n2_ := Aside0.mk (blk_below (g := gb114) (o := .cells #[.string t110, .string t111, .int .i64 t112] 31 (0, 0)) (by (with_reducible repeat (first | refine blk_drewN ?_ _ | refine blk_drew ?_ | refine blk_alloc ?_ _)); exact BK114.out) hb)
        have n3_ := Aside0.mk (below_step (by repeat (first | (with_reducible first | exact HB.out | apply below_alloc | apply pw_below_drewN | apply below_drew1 | refine below_set ?_ GE101.out | refine below_set ?_ GE102.out | refine below_set ?_ GE114.out) | exact HB.out)) hb)
        clear BK101
        clear BK102
        clear BK114
        clear HB
        have BK101 := n0_
        have BK102 := n1_
        have BK114 := n2_
        have HB := n3_
        clear n0_ n1_ n2_ n3_
        (try clear hb)
        (try clear hb2)
        (try clear hk)
        (try clear hi)
        refine hK.out _ _ ⟨(blk_cell BK101.out 0).trans rfl, (blk_cell BK101.out 1).trans rfl, (blk_cell BK101.out 2).trans rfl, (blk_cell BK102.out 0).trans rfl, (blk_cell BK102.out 1).trans rfl⟩ (fun hHeld => ?_)
        clear hK K
        refine norm_ (a' := ?_) ?_ ?_
        rotate_left
        ·show Act.put _ (some 32) _ = _
         simp only [Act.put, aS1, aS2, aS3, i64_w, i32_w]
         rfl
        refine two_ (i := 4) (j := 8) (Ni := some 33) (Nj := some 8) (cn 11 5) #[true, true, true, true, false, false, false, false, true, false, false] rfl rfl rfl rfl (two_of HT_.out (by kernel_rfl)) (by decide) (by decide) (fun K hK => ?_) (fun K hK => ?_)
        ·skip
         refine goes_ Tryd.func29 (by kernel_rfl) rfl #[.agg #[.string t115, .string t116, .int .i64 t117], .agg #[.string t118, .string t119]] (by rfl) rfl rfl (by (try simp only [aM1, aM2, aM3]); first | done | rfl | (simp only [List.length_drop, List.length_take]; rfl)) ?_
         with_reducible refine (impl_AppendRecord.calls k t115 t116 t117 t118 t119 t120 t121 t122 t123 _ ?side1 A24.out).mono ?_
         (case side1 => first | exact GT.below HG.out (by repeat (first | (with_reducible first | exact HB.out | apply below_alloc | apply pw_below_drewN | apply below_drew1 | refine below_set ?_ GE101.out | refine below_set ?_ GE102.out | refine below_set ?_ GE114.out) | exact HB.out)) | (repeat (first | exact HG.out | (with_reducible first | apply GT.drewN | apply GT.drew | apply GT.alloc))))
         rintro e w48 ⟨rfl, hb⟩
         refine ⟨_, rfl, ?_⟩
         have n0_ := Aside0.mk (blk_below (g := gb101) (o := .cells #[.string a0_0, .string a0_1, .int .i64 a0_2] 36 (0, 0)) (by (with_reducible repeat (first | refine blk_drewN ?_ _ | refine blk_drew ?_ | refine blk_alloc ?_ _)); exact BK101.out) hb)
         have n1_ := Aside0.mk (blk_below (g := gb102) (o := .cells #[.string a1_0, .string a1_1] 23 (0, 0)) (by (with_reducible repeat (first | refine blk_drewN ?_ _ | refine blk_drew ?_ | refine blk_alloc ?_ _)); exact BK102.out) hb)
         have n2_ := Aside0.mk (blk_below (g := gb114) (o := .cells #[.string t110, .string t111, .int .i64 t112] 31 (0, 0)) (by (with_reducible repeat (first | refine blk_drewN ?_ _ | refine blk_drew ?_ | refine blk_alloc ?_ _)); exact BK114.out) hb)
         have n3_ := Aside0.mk (below_step (by repeat (first | (with_reducible first | exact HB.out | apply below_alloc | apply pw_below_drewN | apply below_drew1 | refine below_set ?_ GE101.out | refine below_set ?_ GE102.out | refine below_set ?_ GE114.out) | exact HB.out)) hb)
         clear BK101
         clear BK102
         clear BK114
         clear HB
         have BK101 := n0_
         have BK102 := n1_
         have BK114 := n2_
         have HB := n3_
         clear n0_ n1_ n2_ n3_
         (try clear hb)
         (try clear hb2)
         (try clear hk)
         (try clear hi)
         refine hK.out _ _ ⟨(blk_cell BK101.out 0).trans rfl, (blk_cell BK101.out 1).trans rfl, (blk_cell BK101.out 2).trans rfl, (blk_cell BK102.out 0).trans rfl, (blk_cell BK102.out 1).trans rfl⟩ (fun hHeld => ?_)
         clear hK K
         refine norm_ (a' := ?_) ?_ ?_
         rotate_left
         ·show Act.put _ (some 33) _ = _
          simp only [Act.put, aS1, aS2, aS3, i64_w, i32_w]
          rfl
         refine pure_ (i := 5) (N := some 28) (v := ?_) (a' := ?_) (cn 11 6) rfl rfl (any_of HT_.out (by kernel_rfl)) (fun _ _ _ h => h) (Or.inl ⟨by rfl, ?_⟩) ?_ ?_
         rotate_left
         ·intro w'
          go_simp
          with_reducible rfl
         rotate_left
         ·simp only [Act.put, aS1, aS2, aS3, i64_w, i32_w]
          rfl
         refine pure_ (i := 6) (N := some 34) (v := ?_) (a' := ?_) (cn 11 7) rfl rfl (any_of HT_.out (by kernel_rfl)) (fun _ _ _ h => h) (Or.inl ⟨by rfl, ?_⟩) ?_ ?_
         rotate_left
         ·intro w'
          go_simp
          with_reducible rfl
         rotate_left
         ·simp only [Act.put, aS1, aS2, aS3, i64_w, i32_w]
          rfl
         refine pure_ (i := 7) (N := some 35) (v := ?_) (a' := ?_) (cn 11 8) rfl rfl (any_of HT_.out (by kernel_rfl)) (fun _ _ _ h => h) (Or.inl ⟨by rfl, ?_⟩) ?_ ?_
         rotate_left
         ·intro w'
          go_simp
          with_reducible rfl
         rotate_left
         ·simp only [Act.put, aS1, aS2, aS3, i64_w, i32_w]
          rfl
         refine one_ (i := 8) (N := some 8) (cn 11 9) rfl rfl (one_of HT_.out (by kernel_rfl)) (by decide) (fun K hK => ?_)
         refine box_step ?hg (N := 8) ?hd (cs := #[.string (⟨#[]⟩ : ByteArray), .string (⟨#[]⟩ : ByteArray), .int .i64 0]) (t := 31) ?hr ?_; (case hd => rfl); (case hg => rfl); (case hr => first | (go_simp; done) | (go_simp; rfl))
         intro gb124 hg w49 hbox hb
         have n0_ := Aside0.mk (blk_below (g := gb101) (o := .cells #[.string a0_0, .string a0_1, .int .i64 a0_2] 36 (0, 0)) (by (with_reducible repeat (first | refine blk_drewN ?_ _ | refine blk_drew ?_ | refine blk_alloc ?_ _)); exact BK101.out) hb)
         have n1_ := Aside0.mk (blk_below (g := gb102) (o := .cells #[.string a1_0, .string a1_1] 23 (0, 0)) (by (with_reducible repeat (first | refine blk_drewN ?_ _ | refine blk_drew ?_ | refine blk_alloc ?_ _)); exact BK102.out) hb)
         have n2_ := Aside0.mk (blk_below (g := gb114) (o := .cells #[.string t110, .string t111, .int .i64 t112] 31 (0, 0)) (by (with_reducible repeat (first | refine blk_drewN ?_ _ | refine blk_drew ?_ | refine blk_alloc ?_ _)); exact BK114.out) hb)
         have n3_ := Aside0.mk (below_step (by repeat (first | (with_reducible first | exact HB.out | apply below_alloc | apply pw_below_drewN | apply below_drew1 | refine below_set ?_ GE101.out | refine below_set ?_ GE102.out | refine below_set ?_ GE114.out) | exact HB.out)) hb)
         have n4_ := Aside0.mk (hbox)
         have n5_ := Aside0.mk ((by rw [hg]; exact (below_size (by repeat (first | (with_reducible first | exact HB.out | apply below_alloc | apply pw_below_drewN | apply below_drew1 | refine below_set ?_ GE101.out | refine below_set ?_ GE102.out | refine below_set ?_ GE114.out) | exact HB.out))) : w.heap.size ≤ gb124))
         have n6_ := Aside0.mk ((by rw [hg]; exact (below_size (by repeat (first | (with_reducible first | exact HB.out | apply below_alloc | apply pw_below_drewN | apply below_drew1 | refine below_set ?_ GE101.out | refine below_set ?_ GE102.out | refine below_set ?_ GE114.out) | exact HB.out))) : w.heap.size ≤ gb124))
         have n7_ := Aside0.mk ((by rw [hg]; exact Nat.ne_of_lt (blk_lt (g := gb101) (o := .cells #[.string a0_0, .string a0_1, .int .i64 a0_2] 36 (0, 0)) (by (with_reducible repeat (first | refine blk_drewN ?_ _ | refine blk_drew ?_ | refine blk_alloc ?_ _)); exact BK101.out)) : gb101 ≠ gb124))
         have n8_ := Aside0.mk ((by rw [hg]; exact Nat.ne_of_gt (blk_lt (g := gb101) (o := .cells #[.string a0_0, .string a0_1, .int .i64 a0_2] 36 (0, 0)) (by (with_reducible repeat (first | refine blk_drewN ?_ _ | refine blk_drew ?_ | refine blk_alloc ?_ _)); exact BK101.out)) : gb124 ≠ gb101))
         have n9_ := Aside0.mk ((by rw [hg]; exact Nat.ne_of_lt (blk_lt (g := gb102) (o := .cells #[.string a1_0, .string a1_1] 23 (0, 0)) (by (with_reducible repeat (first | refine blk_drewN ?_ _ | refine blk_drew ?_ | refine blk_alloc ?_ _)); exact BK102.out)) : gb102 ≠ gb124))
         have n10_ := Aside0.mk ((by rw [hg]; exact Nat.ne_of_gt (blk_lt (g := gb102) (o := .cells #[.string a1_0, .string a1_1] 23 (0, 0)) (by (with_reducible repeat (first | refine blk_drewN ?_ _ | refine blk_drew ?_ | refine blk_alloc ?_ _)); exact BK102.out)) : gb124 ≠ gb102))
         have n11_ := Aside0.mk ((by rw [hg]; exact Nat.ne_of_lt (blk_lt (g := gb114) (o := .cells #[.string t110, .string t111, .int .i64 t112] 31 (0, 0)) (by (with_reducible repeat (first | refine blk_drewN ?_ _ | refine blk_drew ?_ | refine blk_alloc ?_ _)); exact BK114.out)) : gb114 ≠ gb124))
         have n12_ := Aside0.mk ((by rw [hg]; exact Nat.ne_of_gt (blk_lt (g := gb114) (o := .cells #[.string t110, .string t111, .int .i64 t112] 31 (0, 0)) (by (with_reducible repeat (first | refine blk_drewN ?_ _ | refine blk_drew ?_ | refine blk_alloc ?_ _)); exact BK114.out)) : gb124 ≠ gb114))
         clear BK101
         clear BK102
         clear BK114
         clear HB
         have BK101 := n0_
         have BK102 := n1_
         have BK114 := n2_
         have HB := n3_
         have BK124 := n4_
         have GW124 := n5_
         have GE124 := n6_
         have NB101_124 := n7_
         have NB124_101 := n8_
         have NB102_124 := n9_
         have NB124_102 := n10_
         have NB114_124 := n11_
         have NB124_114 := n12_
         clear n0_ n1_ n2_ n3_ n4_ n5_ n6_ n7_ n8_ n9_ n10_ n11_ n12_
         clear hb hbox hg
         refine hK.out _ _ ⟨(blk_cell BK101.out 0).trans rfl, (blk_cell BK101.out 1).trans rfl, (blk_cell BK101.out 2).trans rfl, (blk_cell BK102.out 0).trans rfl, (blk_cell BK102.out 1).trans rfl⟩ (fun hHeld => ?_)
         clear hK K
         refine norm_ (a' := ?_) ?_ ?_
         rotate_left
         ·show Act.put _ (some 8) _ = _
          simp only [Act.put, aS1, aS2, aS3, i64_w, i32_w]
          rfl
         exact norm_ (by simp only [putAll, Act.put, aS1, aS2, aS3]) (hCont (gb124) _ ⟨hHeld, (by (with_reducible repeat (first | refine blk_drewN ?_ _ | refine blk_drew ?_ | refine blk_alloc ?_ _)); exact BK101.out), (by (with_reducible repeat (first | refine blk_drewN ?_ _ | refine blk_drew ?_ | refine blk_alloc ?_ _)); exact BK102.out), (by (with_reducible repeat (first | refine blk_drewN ?_ _ | refine blk_drew ?_ | refine blk_alloc ?_ _)); exact BK114.out), (by (with_reducible repeat (first | refine blk_drewN ?_ _ | refine blk_drew ?_ | refine blk_alloc ?_ _)); exact BK124.out), GW124.out, GE124.out, NB101_124.out, NB124_101.out, NB102_124.out, NB124_102.out, NB114_124.out, NB124_114.out, (by repeat (first | (with_reducible first | exact HB.out | apply below_alloc | apply pw_below_drewN | apply below_drew1 | refine below_set ?_ GE101.out | refine below_set ?_ GE102.out | refine below_set ?_ GE114.out | refine below_set ?_ GE124.out) | exact HB.out))⟩)
        ·skip
         refine box_step ?hg (N := 8) ?hd (cs := #[.string (⟨#[]⟩ : ByteArray), .string (⟨#[]⟩ : ByteArray), .int .i64 0]) (t := 31) ?hr ?_; (case hd => rfl); (case hg => rfl); (case hr => first | (go_simp; done) | (go_simp; rfl))
         intro gb124 hg w48 hbox hb
         have n0_ := Aside0.mk (blk_below (g := gb101) (o := .cells #[.string a0_0, .string a0_1, .int .i64 a0_2] 36 (0, 0)) (by (with_reducible repeat (first | refine blk_drewN ?_ _ | refine blk_drew ?_ | refine blk_alloc ?_ _)); exact BK101.out) hb)
         have n1_ := Aside0.mk (blk_below (g := gb102) (o := .cells #[.string a1_0, .string a1_1] 23 (0, 0)) (by (with_reducible repeat (first | refine blk_drewN ?_ _ | refine blk_drew ?_ | refine blk_alloc ?_ _)); exact BK102.out) hb)
         have n2_ := Aside0.mk (blk_below (g := gb114) (o := .cells #[.string t110, .string t111, .int .i64 t112] 31 (0, 0)) (by (with_reducible repeat (first | refine blk_drewN ?_ _ | refine blk_drew ?_ | refine blk_alloc ?_ _)); exact BK114.out) hb)
         have n3_ := Aside0.mk (below_step (by repeat (first | (with_reducible first | exact HB.out | apply below_alloc | apply pw_below_drewN | apply below_drew1 | refine below_set ?_ GE101.out | refine below_set ?_ GE102.out | refine below_set ?_ GE114.out) | exact HB.out)) hb)
         have n4_ := Aside0.mk (hbox)
         have n5_ := Aside0.mk ((by rw [hg]; exact (below_size (by repeat (first | (with_reducible first | exact HB.out | apply below_alloc | apply pw_below_drewN | apply below_drew1 | refine below_set ?_ GE101.out | refine below_set ?_ GE102.out | refine below_set ?_ GE114.out) | exact HB.out))) : w.heap.size ≤ gb124))
         have n6_ := Aside0.mk ((by rw [hg]; exact (below_size (by repeat (first | (with_reducible first | exact HB.out | apply below_alloc | apply pw_below_drewN | apply below_drew1 | refine below_set ?_ GE101.out | refine below_set ?_ GE102.out | refine below_set ?_ GE114.out) | exact HB.out))) : w.heap.size ≤ gb124))
         have n7_ := Aside0.mk ((by rw [hg]; exact Nat.ne_of_lt (blk_lt (g := gb101) (o := .cells #[.string a0_0, .string a0_1, .int .i64 a0_2] 36 (0, 0)) (by (with_reducible repeat (first | refine blk_drewN ?_ _ | refine blk_drew ?_ | refine blk_alloc ?_ _)); exact BK101.out)) : gb101 ≠ gb124))
         have n8_ := Aside0.mk ((by rw [hg]; exact Nat.ne_of_gt (blk_lt (g := gb101) (o := .cells #[.string a0_0, .string a0_1, .int .i64 a0_2] 36 (0, 0)) (by (with_reducible repeat (first | refine blk_drewN ?_ _ | refine blk_drew ?_ | refine blk_alloc ?_ _)); exact BK101.out)) : gb124 ≠ gb101))
         have n9_ := Aside0.mk ((by rw [hg]; exact Nat.ne_of_lt (blk_lt (g := gb102) (o := .cells #[.string a1_0, .string a1_1] 23 (0, 0)) (by (with_reducible repeat (first | refine blk_drewN ?_ _ | refine blk_drew ?_ | refine blk_alloc ?_ _)); exact BK102.out)) : gb102 ≠ gb124))
         have n10_ := Aside0.mk ((by rw [hg]; exact Nat.ne_of_gt (blk_lt (g := gb102) (o := .cells #[.string a1_0, .string a1_1] 23 (0, 0)) (by (with_reducible repeat (first | refine blk_drewN ?_ _ | refine blk_drew ?_ | refine blk_alloc ?_ _)); exact BK102.out)) : gb124 ≠ gb102))
         have n11_ := Aside0.mk ((by rw [hg]; exact Nat.ne_of_lt (blk_lt (g := gb114) (o := .cells #[.string t110, .string t111, .int .i64 t112] 31 (0, 0)) (by (with_reducible repeat (first | refine blk_drewN ?_ _ | refine blk_drew ?_ | refine blk_alloc ?_ _)); exact BK114.out)) : gb114 ≠ gb124))
         have n12_ := Aside0.mk ((by rw [hg]; exact Nat.ne_of_gt (blk_lt (g := gb114) (o := .cells #[.string t110, .string t111, .int .i64 t112] 31 (0, 0)) (by (with_reducible repeat (first | refine blk_drewN ?_ _ | refine blk_drew ?_ | refine blk_alloc ?_ _)); exact BK114.out)) : gb124 ≠ gb114))
         clear BK101
         clear BK102
         clear BK114
         clear HB
         have BK101 := n0_
         have BK102 := n1_
         have BK114 := n2_
         have HB := n3_
         have BK124 := n4_
         have GW124 := n5_
         have GE124 := n6_
         have NB101_124 := n7_
         have NB124_101 := n8_
         have NB102_124 := n9_
         have NB124_102 := n10_
         have NB114_124 := n11_
         have NB124_114 := n12_
         clear n0_ n1_ n2_ n3_ n4_ n5_ n6_ n7_ n8_ n9_ n10_ n11_ n12_
         clear hb hbox hg
         refine hK.out _ _ ⟨(blk_cell BK101.out 0).trans rfl, (blk_cell BK101.out 1).trans rfl, (blk_cell BK101.out 2).trans rfl, (blk_cell BK102.out 0).trans rfl, (blk_cell BK102.out 1).trans rfl⟩ (fun hHeld => ?_)
         clear hK K
         refine norm_ (a' := ?_) ?_ ?_
         rotate_left
         ·show Act.put _ (some 8) _ = _
          simp only [Act.put, aS1, aS2, aS3, i64_w, i32_w]
          rfl
         refine one_ (i := 4) (N := some 33) #[true, true, true, true, true, false, false, false, true, false, false] rfl rfl (one_of HT_.out (by kernel_rfl)) (by decide) (fun K hK => ?_)
         refine goes_ Tryd.func29 (by kernel_rfl) rfl #[.agg #[.string t115, .string t116, .int .i64 t117], .agg #[.string t118, .string t119]] (by rfl) rfl rfl (by (try simp only [aM1, aM2, aM3]); first | done | rfl | (simp only [List.length_drop, List.length_take]; rfl)) ?_
         with_reducible refine (impl_AppendRecord.calls k t115 t116 t117 t118 t119 t120 t121 t122 t123 _ ?side1 A24.out).mono ?_
         (case side1 => first | exact GT.below HG.out (by repeat (first | (with_reducible first | exact HB.out | apply below_alloc | apply pw_below_drewN | apply below_drew1 | refine below_set ?_ GE101.out | refine below_set ?_ GE102.out | refine below_set ?_ GE114.out | refine below_set ?_ GE124.out) | exact HB.out)) | (repeat (first | exact HG.out | (with_reducible first | apply GT.drewN | apply GT.drew | apply GT.alloc))))
         rintro e w49 ⟨rfl, hb⟩
         refine ⟨_, rfl, ?_⟩
         have n0_ := Aside0.mk (blk_below (g := gb101) (o := .cells #[.string a0_0, .string a0_1, .int .i64 a0_2] 36 (0, 0)) (by (with_reducible repeat (first | refine blk_drewN ?_ _ | refine blk_drew ?_ | refine blk_alloc ?_ _)); exact BK101.out) hb)
         have n1_ := Aside0.mk (blk_below (g := gb102) (o := .cells #[.string a1_0, .string a1_1] 23 (0, 0)) (by (with_reducible repeat (first | refine blk_drewN ?_ _ | refine blk_drew ?_ | refine blk_alloc ?_ _)); exact BK102.out) hb)
         have n2_ := Aside0.mk (blk_below (g := gb114) (o := .cells #[.string t110, .string t111, .int .i64 t112] 31 (0, 0)) (by (with_reducible repeat (first | refine blk_drewN ?_ _ | refine blk_drew ?_ | refine blk_alloc ?_ _)); exact BK114.out) hb)
         have n3_ := Aside0.mk (blk_below (g := gb124) (o := .cells #[.string (⟨#[]⟩ : ByteArray), .string (⟨#[]⟩ : ByteArray), .int .i64 0] 31 (0, 0)) (by (with_reducible repeat (first | refine blk_drewN ?_ _ | refine blk_drew ?_ | refine blk_alloc ?_ _)); exact BK124.out) hb)
         have n4_ := Aside0.mk (below_step (by repeat (first | (with_reducible first | exact HB.out | apply below_alloc | apply pw_below_drewN | apply below_drew1 | refine below_set ?_ GE101.out | refine below_set ?_ GE102.out | refine below_set ?_ GE114.out | refine below_set ?_ GE124.out) | exact HB.out)) hb)
         clear BK101
         clear BK102
         clear BK114
         clear BK124
         clear HB
         have BK101 := n0_
         have BK102 := n1_
         have BK114 := n2_
         have BK124 := n3_
         have HB := n4_
         clear n0_ n1_ n2_ n3_ n4_
         (try clear hb)
         (try clear hb2)
         (try clear hk)
         (try clear hi)
         refine hK.out _ _ ⟨(blk_cell BK101.out 0).trans rfl, (blk_cell BK101.out 1).trans rfl, (blk_cell BK101.out 2).trans rfl, (blk_cell BK102.out 0).trans rfl, (blk_cell BK102.out 1).trans rfl⟩ (fun hHeld => ?_)
         clear hK K
         refine norm_ (a' := ?_) ?_ ?_
         rotate_left
         ·show Act.put _ (some 33) _ = _
          simp only [Act.put, aS1, aS2, aS3, i64_w, i32_w]
          rfl
         refine pure_ (i := 5) (N := some 28) (v := ?_) (a' := ?_) #[true, true, true, true, true, true, false, false, true, false, false] rfl rfl (any_of HT_.out (by kernel_rfl)) (fun _ _ _ h => h) (Or.inl ⟨by rfl, ?_⟩) ?_ ?_
         rotate_left
         ·intro w'
          go_simp
          with_reducible rfl
         rotate_left
         ·simp only [Act.put, aS1, aS2, aS3, i64_w, i32_w]
          rfl
         refine pure_ (i := 6) (N := some 34) (v := ?_) (a' := ?_) #[true, true, true, true, true, true, true, false, true, false, false] rfl rfl (any_of HT_.out (by kernel_rfl)) (fun _ _ _ h => h) (Or.inl ⟨by rfl, ?_⟩) ?_ ?_
         rotate_left
         ·intro w'
          go_simp
          with_reducible rfl
         rotate_left
         ·simp only [Act.put, aS1, aS2, aS3, i64_w, i32_w]
          rfl
         refine pure_ (i := 7) (N := some 35) (v := ?_) (a' := ?_) (cn 11 9) rfl rfl (any_of HT_.out (by kernel_rfl)) (fun _ _ _ h => h) (Or.inl ⟨by rfl, ?_⟩) ?_ ?_
         rotate_left
         ·intro w'
          go_simp
          with_reducible rfl
         rotate_left
         ·simp only [Act.put, aS1, aS2, aS3, i64_w, i32_w]
          rfl
         exact norm_ (by simp only [putAll, Act.put, aS1, aS2, aS3]) (hCont (gb124) _ ⟨hHeld, (by (with_reducible repeat (first | refine blk_drewN ?_ _ | refine blk_drew ?_ | refine blk_alloc ?_ _)); exact BK101.out), (by (with_reducible repeat (first | refine blk_drewN ?_ _ | refine blk_drew ?_ | refine blk_alloc ?_ _)); exact BK102.out), (by (with_reducible repeat (first | refine blk_drewN ?_ _ | refine blk_drew ?_ | refine blk_alloc ?_ _)); exact BK114.out), (by (with_reducible repeat (first | refine blk_drewN ?_ _ | refine blk_drew ?_ | refine blk_alloc ?_ _)); exact BK124.out), GW124.out, GE124.out, NB101_124.out, NB124_101.out, NB102_124.out, NB124_102.out, NB114_124.out, NB124_114.out, (by repeat (first | (with_reducible first | exact HB.out | apply below_alloc | apply pw_below_drewN | apply below_drew1 | refine below_set ?_ GE101.out | refine below_set ?_ GE102.out | refine below_set ?_ GE114.out | refine below_set ?_ GE124.out) | exact HB.out))⟩)
       ·skip
        refine box_step ?hg (N := 8) ?hd (cs := #[.string (⟨#[]⟩ : ByteArray), .string (⟨#[]⟩ : ByteArray), .int .i64 0]) (t := 31) ?hr ?_; (case hd => rfl); (case hg => rfl); (case hr => first | (go_simp; done) | (go_simp; rfl))
        intro gb124 hg w47 hbox hb
        have n0_ := Aside0.mk (blk_below (g := gb101) (o := .cells #[.string a0_0, .string a0_1, .int .i64 a0_2] 36 (0, 0)) (by (with_reducible repeat (first | refine blk_drewN ?_ _ | refine blk_drew ?_ | refine blk_alloc ?_ _)); exact BK101.out) hb)
        have n1_ := Aside0.mk (blk_below (g := gb102) (o := .cells #[.string a1_0, .string a1_1] 23 (0, 0)) (by (with_reducible repeat (first | refine blk_drewN ?_ _ | refine blk_drew ?_ | refine blk_alloc ?_ _)); exact BK102.out) hb)
        have n2_ := Aside0.mk (blk_below (g := gb114) (o := .cells #[.string t110, .string t111, .int .i64 t112] 31 (0, 0)) (by (with_reducible repeat (first | refine blk_drewN ?_ _ | refine blk_drew ?_ | refine blk_alloc ?_ _)); exact BK114.out) hb)
        have n3_ := Aside0.mk (below_step (by repeat (first | (with_reducible first | exact HB.out | apply below_alloc | apply pw_below_drewN | apply below_drew1 | refine below_set ?_ GE101.out | refine below_set ?_ GE102.out | refine below_set ?_ GE114.out) | exact HB.out)) hb)
        have n4_ := Aside0.mk (hbox)
        have n5_ := Aside0.mk ((by rw [hg]; exact (below_size (by repeat (first | (with_reducible first | exact HB.out | apply below_alloc | apply pw_below_drewN | apply below_drew1 | refine below_set ?_ GE101.out | refine below_set ?_ GE102.out | refine below_set ?_ GE114.out) | exact HB.out))) : w.heap.size ≤ gb124))
        have n6_ := Aside0.mk ((by rw [hg]; exact (below_size (by repeat (first | (with_reducible first | exact HB.out | apply below_alloc | apply pw_below_drewN | apply below_drew1 | refine below_set ?_ GE101.out | refine below_set ?_ GE102.out | refine below_set ?_ GE114.out) | exact HB.out))) : w.heap.size ≤ gb124))
        have n7_ := Aside0.mk ((by rw [hg]; exact Nat.ne_of_lt (blk_lt (g := gb101) (o := .cells #[.string a0_0, .string a0_1, .int .i64 a0_2] 36 (0, 0)) (by (with_reducible repeat (first | refine blk_drewN ?_ _ | refine blk_drew ?_ | refine blk_alloc ?_ _)); exact BK101.out)) : gb101 ≠ gb124))
        have n8_ := Aside0.mk ((by rw [hg]; exact Nat.ne_of_gt (blk_lt (g := gb101) (o := .cells #[.string a0_0, .string a0_1, .int .i64 a0_2] 36 (0, 0)) (by (with_reducible repeat (first | refine blk_drewN ?_ _ | refine blk_drew ?_ | refine blk_alloc ?_ _)); exact BK101.out)) : gb124 ≠ gb101))
        have n9_ := Aside0.mk ((by rw [hg]; exact Nat.ne_of_lt (blk_lt (g := gb102) (o := .cells #[.string a1_0, .string a1_1] 23 (0, 0)) (by (with_reducible repeat (first | refine blk_drewN ?_ _ | refine blk_drew ?_ | refine blk_alloc ?_ _)); exact BK102.out)) : gb102 ≠ gb124))
        have n10_ := Aside0.mk ((by rw [hg]; exact Nat.ne_of_gt (blk_lt (g := gb102) (o := .cells #[.string a1_0, .string a1_1] 23 (0, 0)) (by (with_reducible repeat (first | refine blk_drewN ?_ _ | refine blk_drew ?_ | refine blk_alloc ?_ _)); exact BK102.out)) : gb124 ≠ gb102))
        have n11_ := Aside0.mk ((by rw [hg]; exact Nat.ne_of_lt (blk_lt (g := gb114) (o := .cells #[.string t110, .string t111, .int .i64 t112] 31 (0, 0)) (by (with_reducible repeat (first | refine blk_drewN ?_ _ | refine blk_drew ?_ | refine blk_alloc ?_ _)); exact BK114.out)) : gb114 ≠ gb124))
        have n12_ := Aside0.mk ((by rw [hg]; exact Nat.ne_of_gt (blk_lt (g := gb114) (o := .cells #[.string t110, .string t111, .int .i64 t112] 31 (0, 0)) (by (with_reducible repeat (first | refine blk_drewN ?_ _ | refine blk_drew ?_ | refine blk_alloc ?_ _)); exact BK114.out)) : gb124 ≠ gb114))
        clear BK101
        clear BK102
        clear BK114
        clear HB
        have BK101 := n0_
        have BK102 := n1_
        have BK114 := n2_
        have HB := n3_
        have BK124 := n4_
        have GW124 := n5_
        have GE124 := n6_
        have NB101_124 := n7_
        have NB124_101 := n8_
        have NB102_124 := n9_
        have NB124_102 := n10_
        have NB114_124 := n11_
        have NB124_114 := n12_
        clear n0_ n1_ n2_ n3_ n4_ n5_ n6_ n7_ n8_ n9_ n10_ n11_ n12_
        clear hb hbox hg
        refine hK.out _ _ ⟨(blk_cell BK101.out 0).trans rfl, (blk_cell BK101.out 1).trans rfl, (blk_cell BK101.out 2).trans rfl, (blk_cell BK102.out 0).trans rfl, (blk_cell BK102.out 1).trans rfl⟩ (fun hHeld => ?_)
        clear hK K
        refine norm_ (a' := ?_) ?_ ?_
        rotate_left
        ·show Act.put _ (some 8) _ = _
         simp only [Act.put, aS1, aS2, aS3, i64_w, i32_w]
         rfl
        refine one_ (i := 3) (N := some 32) #[true, true, true, true, false, false, false, false, true, false, false] rfl rfl (one_of HT_.out (by kernel_rfl)) (by decide) (fun K hK => ?_)
        refine goes_ Tryd.func15 (by kernel_rfl) rfl #[.agg #[.string a1_0, .string a1_1]] (by rfl) rfl rfl (by (try simp only [aM1, aM2, aM3]); first | done | rfl | (simp only [List.length_drop, List.length_take]; rfl)) ?_
        with_reducible refine (laws_toLogRecord.calls a1_0 a1_1 t118 t119 _ A23.out).mono ?_
        rintro e w48 ⟨rfl, hb⟩
        refine ⟨_, rfl, ?_⟩
        have n0_ := Aside0.mk (blk_below (g := gb101) (o := .cells #[.string a0_0, .string a0_1, .int .i64 a0_2] 36 (0, 0)) (by (with_reducible repeat (first | refine blk_drewN ?_ _ | refine blk_drew ?_ | refine blk_alloc ?_ _)); exact BK101.out) hb)
        have n1_ := Aside0.mk (blk_below (g := gb102) (o := .cells #[.string a1_0, .string a1_1] 23 (0, 0)) (by (with_reducible repeat (first | refine blk_drewN ?_ _ | refine blk_drew ?_ | refine blk_alloc ?_ _)); exact BK102.out) hb)
        have n2_ := Aside0.mk (blk_below (g := gb114) (o := .cells #[.string t110, .string t111, .int .i64 t112] 31 (0, 0)) (by (with_reducible repeat (first | refine blk_drewN ?_ _ | refine blk_drew ?_ | refine blk_alloc ?_ _)); exact BK114.out) hb)
        have n3_ := Aside0.mk (blk_below (g := gb124) (o := .cells #[.string (⟨#[]⟩ : ByteArray), .string (⟨#[]⟩ : ByteArray), .int .i64 0] 31 (0, 0)) (by (with_reducible repeat (first | refine blk_drewN ?_ _ | refine blk_drew ?_ | refine blk_alloc ?_ _)); exact BK124.out) hb)
        have n4_ := Aside0.mk (below_step (by repeat (first | (with_reducible first | exact HB.out | apply below_alloc | apply pw_below_drewN | apply below_drew1 | refine below_set ?_ GE101.out | refine below_set ?_ GE102.out | refine below_set ?_ GE114.out | refine below_set ?_ GE124.out) | exact HB.out)) hb)
        clear BK101
        clear BK102
        clear BK114
        clear BK124
        clear HB
        have BK101 := n0_
        have BK102 := n1_
        have BK114 := n2_
        have BK124 := n3_
        have HB := n4_
        clear n0_ n1_ n2_ n3_ n4_
        (try clear hb)
        (try clear hb2)
        (try clear hk)
        (try clear hi)
        refine hK.out _ _ ⟨(blk_cell BK101.out 0).trans rfl, (blk_cell BK101.out 1).trans rfl, (blk_cell BK101.out 2).trans rfl, (blk_cell BK102.out 0).trans rfl, (blk_cell BK102.out 1).trans rfl⟩ (fun hHeld => ?_)
        clear hK K
        refine norm_ (a' := ?_) ?_ ?_
        rotate_left
        ·show Act.put _ (some 32) _ = _
         simp only [Act.put, aS1, aS2, aS3, i64_w, i32_w]
         rfl
        refine one_ (i := 4) (N := some 33) #[true, true, true, true, true, false, false, false, true, false, false] rfl rfl (one_of HT_.out (by kernel_rfl)) (by decide) (fun K hK => ?_)
        refine goes_ Tryd.func29 (by kernel_rfl) rfl #[.agg #[.string t115, .string t116, .int .i64 t117], .agg #[.string t118, .string t119]] (by rfl) rfl rfl (by (try simp only [aM1, aM2, aM3]); first | done | rfl | (simp only [List.length_drop, List.length_take]; rfl)) ?_
        with_reducible refine (impl_AppendRecord.calls k t115 t116 t117 t118 t119 t120 t121 t122 t123 _ ?side1 A24.out).mono ?_
        (case side1 => first | exact GT.below HG.out (by repeat (first | (with_reducible first | exact HB.out | apply below_alloc | apply pw_below_drewN | apply below_drew1 | refine below_set ?_ GE101.out | refine below_set ?_ GE102.out | refine below_set ?_ GE114.out | refine below_set ?_ GE124.out) | exact HB.out)) | (repeat (first | exact HG.out | (with_reducible first | apply GT.drewN | apply GT.drew | apply GT.alloc))))
        rintro e w49 ⟨rfl, hb⟩
        refine ⟨_, rfl, ?_⟩
        have n0_ := Aside0.mk (blk_below (g := gb101) (o := .cells #[.string a0_0, .string a0_1, .int .i64 a0_2] 36 (0, 0)) (by (with_reducible repeat (first | refine blk_drewN ?_ _ | refine blk_drew ?_ | refine blk_alloc ?_ _)); exact BK101.out) hb)
        have n1_ := Aside0.mk (blk_below (g := gb102) (o := .cells #[.string a1_0, .string a1_1] 23 (0, 0)) (by (with_reducible repeat (first | refine blk_drewN ?_ _ | refine blk_drew ?_ | refine blk_alloc ?_ _)); exact BK102.out) hb)
        have n2_ := Aside0.mk (blk_below (g := gb114) (o := .cells #[.string t110, .string t111, .int .i64 t112] 31 (0, 0)) (by (with_reducible repeat (first | refine blk_drewN ?_ _ | refine blk_drew ?_ | refine blk_alloc ?_ _)); exact BK114.out) hb)
        have n3_ := Aside0.mk (blk_below (g := gb124) (o := .cells #[.string (⟨#[]⟩ : ByteArray), .string (⟨#[]⟩ : ByteArray), .int .i64 0] 31 (0, 0)) (by (with_reducible repeat (first | refine blk_drewN ?_ _ | refine blk_drew ?_ | refine blk_alloc ?_ _)); exact BK124.out) hb)
        have n4_ := Aside0.mk (below_step (by repeat (first | (with_reducible first | exact HB.out | apply below_alloc | apply pw_below_drewN | apply below_drew1 | refine below_set ?_ GE101.out | refine below_set ?_ GE102.out | refine below_set ?_ GE114.out | refine below_set ?_ GE124.out) | exact HB.out)) hb)
        clear BK101
        clear BK102
        clear BK114
        clear BK124
        clear HB
        have BK101 := n0_
        have BK102 := n1_
        have BK114 := n2_
        have BK124 := n3_
        have HB := n4_
        clear n0_ n1_ n2_ n3_ n4_
        (try clear hb)
        (try clear hb2)
        (try clear hk)
        (try clear hi)
        refine hK.out _ _ ⟨(blk_cell BK101.out 0).trans rfl, (blk_cell BK101.out 1).trans rfl, (blk_cell BK101.out 2).trans rfl, (blk_cell BK102.out 0).trans rfl, (blk_cell BK102.out 1).trans rfl⟩ (fun hHeld => ?_)
        clear hK K
        refine norm_ (a' := ?_) ?_ ?_
        rotate_left
        ·show Act.put _ (some 33) _ = _
         simp only [Act.put, aS1, aS2, aS3, i64_w, i32_w]
         rfl
        refine pure_ (i := 5) (N := some 28) (v := ?_) (a' := ?_) #[true, true, true, true, true, true, false, false, true, false, false] rfl rfl (any_of HT_.out (by kernel_rfl)) (fun _ _ _ h => h) (Or.inl ⟨by rfl, ?_⟩) ?_ ?_
        rotate_left
        ·intro w'
         go_simp
         with_reducible rfl
        rotate_left
        ·simp only [Act.put, aS1, aS2, aS3, i64_w, i32_w]
         rfl
        refine pure_ (i := 6) (N := some 34) (v := ?_) (a' := ?_) #[true, true, true, true, true, true, true, false, true, false, false] rfl rfl (any_of HT_.out (by kernel_rfl)) (fun _ _ _ h => h) (Or.inl ⟨by rfl, ?_⟩) ?_ ?_
        rotate_left
        ·intro w'
         go_simp
         with_reducible rfl
        rotate_left
        ·simp only [Act.put, aS1, aS2, aS3, i64_w, i32_w]
         rfl
        refine pure_ (i := 7) (N := some 35) (v := ?_) (a' := ?_) (cn 11 9) rfl rfl (any_of HT_.out (by kernel_rfl)) (fun _ _ _ h => h) (Or.inl ⟨by rfl, ?_⟩) ?_ ?_
        rotate_left
        ·intro w'
         go_simp
         with_reducible rfl
        rotate_left
        ·simp only [Act.put, aS1, aS2, aS3, i64_w, i32_w]
         rfl
        exact norm_ (by simp only [putAll, Act.put, aS1, aS2, aS3]) (hCont (gb124) _ ⟨hHeld, (by (with_reducible repeat (first | refine blk_drewN ?_ _ | refine blk_drew ?_ | refine blk_alloc ?_ _)); exact BK101.out), (by (with_reducible repeat (first | refine blk_drewN ?_ _ | refine blk_drew ?_ | refine blk_alloc ?_ _)); exact BK102.out), (by (with_reducible repeat (first | refine blk_drewN ?_ _ | refine blk_drew ?_ | refine blk_alloc ?_ _)); exact BK114.out), (by (with_reducible repeat (first | refine blk_drewN ?_ _ | refine blk_drew ?_ | refine blk_alloc ?_ _)); exact BK124.out), GW124.out, GE124.out, NB101_124.out, NB124_101.out, NB102_124.out, NB124_102.out, NB114_124.out, NB124_114.out, (by repeat (first | (with_reducible first | exact HB.out | apply below_alloc | apply pw_below_drewN | apply below_drew1 | refine below_set ?_ GE101.out | refine below_set ?_ GE102.out | refine below_set ?_ GE114.out | refine below_set ?_ GE124.out) | exact HB.out))⟩)
      ·skip
       refine box_step ?hg (N := 8) ?hd (cs := #[.string (⟨#[]⟩ : ByteArray), .string (⟨#[]⟩ : ByteArray), .int .i64 0]) (t := 31) ?hr ?_; (case hd => rfl); (case hg => rfl); (case hr => first | (go_simp; done) | (go_simp; rfl))
       intro gb124 hg w46 hbox hb
       have n0_ := Aside0.mk (blk_below (g := gb101) (o := .cells #[.string a0_0, .string a0_1, .int .i64 a0_2] 36 (0, 0)) (by (with_reducible repeat (first | refine blk_drewN ?_ _ | refine blk_drew ?_ | refine blk_alloc ?_ _)); exact BK101.out) hb)
       have n1_ := Aside0.mk (blk_below (g := gb102) (o := .cells #[.string a1_0, .string a1_1] 23 (0, 0)) (by (with_reducible repeat (first | refine blk_drewN ?_ _ | refine blk_drew ?_ | refine blk_alloc ?_ _)); exact BK102.out) hb)
       have n2_ := Aside0.mk (blk_below (g := gb114) (o := .cells #[.string t110, .string t111, .int .i64 t112] 31 (0, 0)) (by (with_reducible repeat (first | refine blk_drewN ?_ _ | refine blk_drew ?_ | refine blk_alloc ?_ _)); exact BK114.out) hb)
       have n3_ := Aside0.mk (below_step (by repeat (first | (with_reducible first | exact HB.out | apply below_alloc | apply pw_below_drewN | apply below_drew1 | refine below_set ?_ GE101.out | refine below_set ?_ GE102.out | refine below_set ?_ GE114.out) | exact HB.out)) hb)
       have n4_ := Aside0.mk (hbox)
       have n5_ := Aside0.mk ((by rw [hg]; exact (below_size (by repeat (first | (with_reducible first | exact HB.out | apply below_alloc | apply pw_below_drewN | apply below_drew1 | refine below_set ?_ GE101.out | refine below_set ?_ GE102.out | refine below_set ?_ GE114.out) | exact HB.out))) : w.heap.size ≤ gb124))
       have n6_ := Aside0.mk ((by rw [hg]; exact (below_size (by repeat (first | (with_reducible first | exact HB.out | apply below_alloc | apply pw_below_drewN | apply below_drew1 | refine below_set ?_ GE101.out | refine below_set ?_ GE102.out | refine below_set ?_ GE114.out) | exact HB.out))) : w.heap.size ≤ gb124))
       have n7_ := Aside0.mk ((by rw [hg]; exact Nat.ne_of_lt (blk_lt (g := gb101) (o := .cells #[.string a0_0, .string a0_1, .int .i64 a0_2] 36 (0, 0)) (by (with_reducible repeat (first | refine blk_drewN ?_ _ | refine blk_drew ?_ | refine blk_alloc ?_ _)); exact BK101.out)) : gb101 ≠ gb124))
       have n8_ := Aside0.mk ((by rw [hg]; exact Nat.ne_of_gt (blk_lt (g := gb101) (o := .cells #[.string a0_0, .string a0_1, .int .i64 a0_2] 36 (0, 0)) (by (with_reducible repeat (first | refine blk_drewN ?_ _ | refine blk_drew ?_ | refine blk_alloc ?_ _)); exact BK101.out)) : gb124 ≠ gb101))
       have n9_ := Aside0.mk ((by rw [hg]; exact Nat.ne_of_lt (blk_lt (g := gb102) (o := .cells #[.string a1_0, .string a1_1] 23 (0, 0)) (by (with_reducible repeat (first | refine blk_drewN ?_ _ | refine blk_drew ?_ | refine blk_alloc ?_ _)); exact BK102.out)) : gb102 ≠ gb124))
       have n10_ := Aside0.mk ((by rw [hg]; exact Nat.ne_of_gt (blk_lt (g := gb102) (o := .cells #[.string a1_0, .string a1_1] 23 (0, 0)) (by (with_reducible repeat (first | refine blk_drewN ?_ _ | refine blk_drew ?_ | refine blk_alloc ?_ _)); exact BK102.out)) : gb124 ≠ gb102))
       have n11_ := Aside0.mk ((by rw [hg]; exact Nat.ne_of_lt (blk_lt (g := gb114) (o := .cells #[.string t110, .string t111, .int .i64 t112] 31 (0, 0)) (by (with_reducible repeat (first | refine blk_drewN ?_ _ | refine blk_drew ?_ | refine blk_alloc ?_ _)); exact BK114.out)) : gb114 ≠ gb124))
       have n12_ := Aside0.mk ((by rw [hg]; exact Nat.ne_of_gt (blk_lt (g := gb114) (o := .cells #[.string t110, .string t111, .int .i64 t112] 31 (0, 0)) (by (with_reducible repeat (first | refine blk_drewN ?_ _ | refine blk_drew ?_ | refine blk_alloc ?_ _)); exact BK114.out)) : gb124 ≠ gb114))
       clear BK101
       clear BK102
       clear BK114
       clear HB
       have BK101 := n0_
       have BK102 := n1_
       have BK114 := n2_
       have HB := n3_
       have BK124 := n4_
       have GW124 := n5_
       have GE124 := n6_
       have NB101_124 := n7_
       have NB124_101 := n8_
       have NB102_124 := n9_
       have NB124_102 := n10_
       have NB114_124 := n11_
       have NB124_114 := n12_
       clear n0_ n1_ n2_ n3_ n4_ n5_ n6_ n7_ n8_ n9_ n10_ n11_ n12_
       clear hb hbox hg
       refine hK.out _ _ ⟨(blk_cell BK101.out 0).trans rfl, (blk_cell BK101.out 1).trans rfl, (blk_cell BK101.out 2).trans rfl, (blk_cell BK102.out 0).trans rfl, (blk_cell BK102.out 1).trans rfl⟩ (fun hHeld => ?_)
       clear hK K
       refine norm_ (a' := ?_) ?_ ?_
       rotate_left
       ·show Act.put _ (some 8) _ = _
        simp only [Act.put, aS1, aS2, aS3, i64_w, i32_w]
        rfl
       refine one_ (i := 1) (N := some 30) #[true, true, true, false, false, false, false, false, true, false, false] rfl rfl (one_of HT_.out (by kernel_rfl)) (by decide) (fun K hK => ?_)
       refine goes_ Tryd.func22 (by kernel_rfl) rfl #[.agg #[.string a0_0, .string a0_1, .int .i64 a0_2]] (by rfl) rfl rfl (by (try simp only [aM1, aM2, aM3]); first | done | rfl | (simp only [List.length_drop, List.length_take]; rfl)) ?_
       with_reducible refine (laws_toLog.calls a0_0 a0_1 a0_2 t115 t116 t117 _ A22.out).mono ?_
       rintro e w47 ⟨rfl, hb⟩
       refine ⟨_, rfl, ?_⟩
       have n0_ := Aside0.mk (blk_below (g := gb101) (o := .cells #[.string a0_0, .string a0_1, .int .i64 a0_2] 36 (0, 0)) (by (with_reducible repeat (first | refine blk_drewN ?_ _ | refine blk_drew ?_ | refine blk_alloc ?_ _)); exact BK101.out) hb)
       have n1_ := Aside0.mk (blk_below (g := gb102) (o := .cells #[.string a1_0, .string a1_1] 23 (0, 0)) (by (with_reducible repeat (first | refine blk_drewN ?_ _ | refine blk_drew ?_ | refine blk_alloc ?_ _)); exact BK102.out) hb)
       have n2_ := Aside0.mk (blk_below (g := gb114) (o := .cells #[.string t110, .string t111, .int .i64 t112] 31 (0, 0)) (by (with_reducible repeat (first | refine blk_drewN ?_ _ | refine blk_drew ?_ | refine blk_alloc ?_ _)); exact BK114.out) hb)
       have n3_ := Aside0.mk (blk_below (g := gb124) (o := .cells #[.string (⟨#[]⟩ : ByteArray), .string (⟨#[]⟩ : ByteArray), .int .i64 0] 31 (0, 0)) (by (with_reducible repeat (first | refine blk_drewN ?_ _ | refine blk_drew ?_ | refine blk_alloc ?_ _)); exact BK124.out) hb)
       have n4_ := Aside0.mk (below_step (by repeat (first | (with_reducible first | exact HB.out | apply below_alloc | apply pw_below_drewN | apply below_drew1 | refine below_set ?_ GE101.out | refine below_set ?_ GE102.out | refine below_set ?_ GE114.out | refine below_set ?_ GE124.out) | exact HB.out)) hb)
       clear BK101
       clear BK102
       clear BK114
       clear BK124
       clear HB
       have BK101 := n0_
       have BK102 := n1_
       have BK114 := n2_
       have BK124 := n3_
       have HB := n4_
       clear n0_ n1_ n2_ n3_ n4_
       (try clear hb)
       (try clear hb2)
       (try clear hk)
       (try clear hi)
       refine hK.out _ _ ⟨(blk_cell BK101.out 0).trans rfl, (blk_cell BK101.out 1).trans rfl, (blk_cell BK101.out 2).trans rfl, (blk_cell BK102.out 0).trans rfl, (blk_cell BK102.out 1).trans rfl⟩ (fun hHeld => ?_)
       clear hK K
       refine norm_ (a' := ?_) ?_ ?_
       rotate_left
       ·show Act.put _ (some 30) _ = _
        simp only [Act.put, aS1, aS2, aS3, i64_w, i32_w]
        rfl
       refine one_ (i := 3) (N := some 32) #[true, true, true, true, false, false, false, false, true, false, false] rfl rfl (one_of HT_.out (by kernel_rfl)) (by decide) (fun K hK => ?_)
       refine goes_ Tryd.func15 (by kernel_rfl) rfl #[.agg #[.string a1_0, .string a1_1]] (by rfl) rfl rfl (by (try simp only [aM1, aM2, aM3]); first | done | rfl | (simp only [List.length_drop, List.length_take]; rfl)) ?_
       with_reducible refine (laws_toLogRecord.calls a1_0 a1_1 t118 t119 _ A23.out).mono ?_
       rintro e w48 ⟨rfl, hb⟩
       refine ⟨_, rfl, ?_⟩
       have n0_ := Aside0.mk (blk_below (g := gb101) (o := .cells #[.string a0_0, .string a0_1, .int .i64 a0_2] 36 (0, 0)) (by (with_reducible repeat (first | refine blk_drewN ?_ _ | refine blk_drew ?_ | refine blk_alloc ?_ _)); exact BK101.out) hb)
       have n1_ := Aside0.mk (blk_below (g := gb102) (o := .cells #[.string a1_0, .string a1_1] 23 (0, 0)) (by (with_reducible repeat (first | refine blk_drewN ?_ _ | refine blk_drew ?_ | refine blk_alloc ?_ _)); exact BK102.out) hb)
       have n2_ := Aside0.mk (blk_below (g := gb114) (o := .cells #[.string t110, .string t111, .int .i64 t112] 31 (0, 0)) (by (with_reducible repeat (first | refine blk_drewN ?_ _ | refine blk_drew ?_ | refine blk_alloc ?_ _)); exact BK114.out) hb)
       have n3_ := Aside0.mk (blk_below (g := gb124) (o := .cells #[.string (⟨#[]⟩ : ByteArray), .string (⟨#[]⟩ : ByteArray), .int .i64 0] 31 (0, 0)) (by (with_reducible repeat (first | refine blk_drewN ?_ _ | refine blk_drew ?_ | refine blk_alloc ?_ _)); exact BK124.out) hb)
       have n4_ := Aside0.mk (below_step (by repeat (first | (with_reducible first | exact HB.out | apply below_alloc | apply pw_below_drewN | apply below_drew1 | refine below_set ?_ GE101.out | refine below_set ?_ GE102.out | refine below_set ?_ GE114.out | refine below_set ?_ GE124.out) | exact HB.out)) hb)
       clear BK101
       clear BK102
       clear BK114
       clear BK124
       clear HB
       have BK101 := n0_
       have BK102 := n1_
       have BK114 := n2_
       have BK124 := n3_
       have HB := n4_
       clear n0_ n1_ n2_ n3_ n4_
       (try clear hb)
       (try clear hb2)
       (try clear hk)
       (try clear hi)
       refine hK.out _ _ ⟨(blk_cell BK101.out 0).trans rfl, (blk_cell BK101.out 1).trans rfl, (blk_cell BK101.out 2).trans rfl, (blk_cell BK102.out 0).trans rfl, (blk_cell BK102.out 1).trans rfl⟩ (fun hHeld => ?_)
       clear hK K
       refine norm_ (a' := ?_) ?_ ?_
       rotate_left
       ·show Act.put _ (some 32) _ = _
        simp only [Act.put, aS1, aS2, aS3, i64_w, i32_w]
        rfl
       refine one_ (i := 4) (N := some 33) #[true, true, true, true, true, false, false, false, true, false, false] rfl rfl (one_of HT_.out (by kernel_rfl)) (by decide) (fun K hK => ?_)
       refine goes_ Tryd.func29 (by kernel_rfl) rfl #[.agg #[.string t115, .string t116, .int .i64 t117], .agg #[.string t118, .string t119]] (by rfl) rfl rfl (by (try simp only [aM1, aM2, aM3]); first | done | rfl | (simp only [List.length_drop, List.length_take]; rfl)) ?_
       with_reducible refine (impl_AppendRecord.calls k t115 t116 t117 t118 t119 t120 t121 t122 t123 _ ?side1 A24.out).mono ?_
       (case side1 => first | exact GT.below HG.out (by repeat (first | (with_reducible first | exact HB.out | apply below_alloc | apply pw_below_drewN | apply below_drew1 | refine below_set ?_ GE101.out | refine below_set ?_ GE102.out | refine below_set ?_ GE114.out | refine below_set ?_ GE124.out) | exact HB.out)) | (repeat (first | exact HG.out | (with_reducible first | apply GT.drewN | apply GT.drew | apply GT.alloc))))
       rintro e w49 ⟨rfl, hb⟩
       refine ⟨_, rfl, ?_⟩
       have n0_ := Aside0.mk (blk_below (g := gb101) (o := .cells #[.string a0_0, .string a0_1, .int .i64 a0_2] 36 (0, 0)) (by (with_reducible repeat (first | refine blk_drewN ?_ _ | refine blk_drew ?_ | refine blk_alloc ?_ _)); exact BK101.out) hb)
       have n1_ := Aside0.mk (blk_below (g := gb102) (o := .cells #[.string a1_0, .string a1_1] 23 (0, 0)) (by (with_reducible repeat (first | refine blk_drewN ?_ _ | refine blk_drew ?_ | refine blk_alloc ?_ _)); exact BK102.out) hb)
       have n2_ := Aside0.mk (blk_below (g := gb114) (o := .cells #[.string t110, .string t111, .int .i64 t112] 31 (0, 0)) (by (with_reducible repeat (first | refine blk_drewN ?_ _ | refine blk_drew ?_ | refine blk_alloc ?_ _)); exact BK114.out) hb)
       have n3_ := Aside0.mk (blk_below (g := gb124) (o := .cells #[.string (⟨#[]⟩ : ByteArray), .string (⟨#[]⟩ : ByteArray), .int .i64 0] 31 (0, 0)) (by (with_reducible repeat (first | refine blk_drewN ?_ _ | refine blk_drew ?_ | refine blk_alloc ?_ _)); exact BK124.out) hb)
       have n4_ := Aside0.mk (below_step (by repeat (first | (with_reducible first | exact HB.out | apply below_alloc | apply pw_below_drewN | apply below_drew1 | refine below_set ?_ GE101.out | refine below_set ?_ GE102.out | refine below_set ?_ GE114.out | refine below_set ?_ GE124.out) | exact HB.out)) hb)
       clear BK101
       clear BK102
       clear BK114
       clear BK124
       clear HB
       have BK101 := n0_
       have BK102 := n1_
       have BK114 := n2_
       have BK124 := n3_
       have HB := n4_
       clear n0_ n1_ n2_ n3_ n4_
       (try clear hb)
       (try clear hb2)
       (try clear hk)
       (try clear hi)
       refine hK.out _ _ ⟨(blk_cell BK101.out 0).trans rfl, (blk_cell BK101.out 1).trans rfl, (blk_cell BK101.out 2).trans rfl, (blk_cell BK102.out 0).trans rfl, (blk_cell BK102.out 1).trans rfl⟩ (fun hHeld => ?_)
       clear hK K
       refine norm_ (a' := ?_) ?_ ?_
       rotate_left
       ·show Act.put _ (some 33) _ = _
        simp only [Act.put, aS1, aS2, aS3, i64_w, i32_w]
        rfl
       refine pure_ (i := 5) (N := some 28) (v := ?_) (a' := ?_) #[true, true, true, true, true, true, false, false, true, false, false] rfl rfl (any_of HT_.out (by kernel_rfl)) (fun _ _ _ h => h) (Or.inl ⟨by rfl, ?_⟩) ?_ ?_
       rotate_left
       ·intro w'
        go_simp
        with_reducible rfl
       rotate_left
       ·simp only [Act.put, aS1, aS2, aS3, i64_w, i32_w]
        rfl
       refine pure_ (i := 6) (N := some 34) (v := ?_) (a' := ?_) #[true, true, true, true, true, true, true, false, true, false, false] rfl rfl (any_of HT_.out (by kernel_rfl)) (fun _ _ _ h => h) (Or.inl ⟨by rfl, ?_⟩) ?_ ?_
       rotate_left
       ·intro w'
        go_simp
        with_reducible rfl
       rotate_left
       ·simp only [Act.put, aS1, aS2, aS3, i64_w, i32_w]
        rfl
       refine pure_ (i := 7) (N := some 35) (v := ?_) (a' := ?_) (cn 11 9) rfl rfl (any_of HT_.out (by kernel_rfl)) (fun _ _ _ h => h) (Or.inl ⟨by rfl, ?_⟩) ?_ ?_
       rotate_left
       ·intro w'
        go_simp
        with_reducible rfl
       rotate_left
       ·simp only [Act.put, aS1, aS2, aS3, i64_w, i32_w]
        rfl
       exact norm_ (by simp only [putAll, Act.put, aS1, aS2, aS3]) (hCont (gb124) _ ⟨hHeld, (by (with_reducible repeat (first | refine blk_drewN ?_ _ | refine blk_drew ?_ | refine blk_alloc ?_ _)); exact BK101.out), (by (with_reducible repeat (first | refine blk_drewN ?_ _ | refine blk_drew ?_ | refine blk_alloc ?_ _)); exact BK102.out), (by (with_reducible repeat (first | refine blk_drewN ?_ _ | refine blk_drew ?_ | refine blk_alloc ?_ _)); exact BK114.out), (by (with_reducible repeat (first | refine blk_drewN ?_ _ | refine blk_drew ?_ | refine blk_alloc ?_ _)); exact BK124.out), GW124.out, GE124.out, NB101_124.out, NB124_101.out, NB102_124.out, NB124_102.out, NB114_124.out, NB124_114.out, (by repeat (first | (with_reducible first | exact HB.out | apply below_alloc | apply pw_below_drewN | apply below_drew1 | refine below_set ?_ GE101.out | refine below_set ?_ GE102.out | refine below_set ?_ GE114.out | refine below_set ?_ GE124.out) | exact HB.out))⟩)
     rintro gb124 w50 ⟨hS_, h0_, h1_, h2_, h3_, h4_, h5_, h6_, h7_, h8_, h9_, h10_, h11_, h12_⟩
     have n0_ : Aside0 (w50.heap[gb101]? = some (.cells #[.string a0_0, .string a0_1, .int .i64 a0_2] 36 (0, 0))) := ⟨h0_⟩
     have n1_ : Aside0 (w50.heap[gb102]? = some (.cells #[.string a1_0, .string a1_1] 23 (0, 0))) := ⟨h1_⟩
     have n2_ : Aside0 (w50.heap[gb114]? = some (.cells #[.string t110, .string t111, .int .i64 t112] 31 (0, 0))) := ⟨h2_⟩
     have n3_ : Aside0 (w50.heap[gb124]? = some (.cells #[.string (⟨#[]⟩ : ByteArray), .string (⟨#[]⟩ : ByteArray), .int .i64 0] 31 (0, 0))) := ⟨h3_⟩
     have n4_ : Aside0 (w.heap.size ≤ gb124) := ⟨h4_⟩
     have n5_ : Aside0 (w.heap.size ≤ gb124) := ⟨h5_⟩
     have n6_ : Aside0 (gb101 ≠ gb124) := ⟨h6_⟩
     have n7_ : Aside0 (gb124 ≠ gb101) := ⟨h7_⟩
     have n8_ : Aside0 (gb102 ≠ gb124) := ⟨h8_⟩
     have n9_ : Aside0 (gb124 ≠ gb102) := ⟨h9_⟩
     have n10_ : Aside0 (gb114 ≠ gb124) := ⟨h10_⟩
     have n11_ : Aside0 (gb124 ≠ gb114) := ⟨h11_⟩
     have n12_ : Aside0 (Below w.heap.size w w50) := ⟨h12_⟩
     clear BK101
     clear BK102
     clear BK114
     clear HB
     clear h0_ h1_ h2_ h3_ h4_ h5_ h6_ h7_ h8_ h9_ h10_ h11_ h12_
     have BK101 := n0_
     have BK102 := n1_
     have BK114 := n2_
     have BK124 := n3_
     have GW124 := n4_
     have GE124 := n5_
     have NB101_124 := n6_
     have NB124_101 := n7_
     have NB102_124 := n8_
     have NB124_102 := n9_
     have NB114_124 := n10_
     have NB124_114 := n11_
     have HB := n12_
     clear n0_ n1_ n2_ n3_ n4_ n5_ n6_ n7_ n8_ n9_ n10_ n11_ n12_
     have hHeld : w50.cell? ⟨gb101, 0, none⟩ = some (.string a0_0) ∧ w50.cell? ⟨gb101, 1, none⟩ = some (.string a0_1) ∧ w50.cell? ⟨gb101, 2, none⟩ = some (.int .i64 a0_2) ∧ w50.cell? ⟨gb102, 0, none⟩ = some (.string a1_0) ∧ w50.cell? ⟨gb102, 1, none⟩ = some (.string a1_1) := hS_
     refine norm_ (a' := ?_) ?_ ?_
     rotate_left
     ·simp only [putAll, Act.put, aS1, aS2, aS3]
      rfl
     refine one_ (i := 9) (N := none) (cn 11 10) rfl rfl (one_of HT_.out (by kernel_rfl)) (by decide) (fun K hK => ?_)
     have hs51 : w50.cell? ⟨gb124, 0, none⟩ = some (.string (⟨#[]⟩ : ByteArray)) := (blk_cell BK124.out 0).trans rfl
     have hfs51 := blk_frozen BK124.out 0
     have hns51_0 := NB101_124.out
     have hns51_1 := NB102_124.out
     have hns51_2 := NB114_124.out
     have hms51_0 := NB124_101.out
     have hms51_1 := NB124_102.out
     have hms51_2 := NB124_114.out
     have hs52 : w50.cell? ⟨gb124, 1, none⟩ = some (.string (⟨#[]⟩ : ByteArray)) := (blk_cell BK124.out 1).trans rfl
     have hfs52 := blk_frozen BK124.out 1
     have hns52_0 := NB101_124.out
     have hns52_1 := NB102_124.out
     have hns52_2 := NB114_124.out
     have hms52_0 := NB124_101.out
     have hms52_1 := NB124_102.out
     have hms52_2 := NB124_114.out
     have hs53 : w50.cell? ⟨gb124, 2, none⟩ = some (.int .i64 0) := (blk_cell BK124.out 2).trans rfl
     have hfs53 := blk_frozen BK124.out 2
     have hns53_0 := NB101_124.out
     have hns53_1 := NB102_124.out
     have hns53_2 := NB114_124.out
     have hms53_0 := NB124_101.out
     have hms53_1 := NB124_102.out
     have hms53_2 := NB124_114.out
     refine skip_ (w1 := ?_) (by rfl) rfl ?_ ?_
     rotate_left
     ·go_simp
      rfl
     refine hK.out _ _ ⟨((cell_far (p := ⟨gb124, _, none⟩) NB101_124.out _).trans (((cell_far (p := ⟨gb124, _, none⟩) NB101_124.out _).trans (((cell_far (p := ⟨gb124, _, none⟩) NB101_124.out _).trans (hHeld.1)))))), ((cell_far (p := ⟨gb124, _, none⟩) NB101_124.out _).trans (((cell_far (p := ⟨gb124, _, none⟩) NB101_124.out _).trans (((cell_far (p := ⟨gb124, _, none⟩) NB101_124.out _).trans (hHeld.2.1)))))), ((cell_far (p := ⟨gb124, _, none⟩) NB101_124.out _).trans (((cell_far (p := ⟨gb124, _, none⟩) NB101_124.out _).trans (((cell_far (p := ⟨gb124, _, none⟩) NB101_124.out _).trans (hHeld.2.2.1)))))), ((cell_far (p := ⟨gb124, _, none⟩) NB102_124.out _).trans (((cell_far (p := ⟨gb124, _, none⟩) NB102_124.out _).trans (((cell_far (p := ⟨gb124, _, none⟩) NB102_124.out _).trans (hHeld.2.2.2.1)))))), ((cell_far (p := ⟨gb124, _, none⟩) NB102_124.out _).trans (((cell_far (p := ⟨gb124, _, none⟩) NB102_124.out _).trans (((cell_far (p := ⟨gb124, _, none⟩) NB102_124.out _).trans (hHeld.2.2.2.2))))))⟩ (fun hHeld => ?_)
     clear hK K
     refine pure_ (i := 10) (N := some 9) (v := ?_) (a' := ?_) (cn 11 11) rfl rfl (any_of HT_.out (by kernel_rfl)) (fun _ _ _ h => h) (Or.inl ⟨by rfl, ?_⟩) ?_ ?_
     rotate_left
     ·intro w'
      go_simp
      with_reducible rfl
     rotate_left
     ·simp only [Act.put, aS1, aS2, aS3, i64_w, i32_w]
      rfl
     refine done_ (done_of HT_.out (by kernel_rfl)) ?_
     have hnb54 := NB124_101.out
     have hnc54 := NB101_124.out
     have hnb55 := NB124_102.out
     have hnc55 := NB102_124.out
     have hnb56 := NB124_114.out
     have hnc56 := NB114_124.out
     have hcz57_0 : w50.cell? ⟨gb124, 0, none⟩ = some (.string (⟨#[]⟩ : ByteArray)) := (blk_cell BK124.out 0).trans rfl
     have hcz57_1 : w50.cell? ⟨gb124, 1, none⟩ = some (.string (⟨#[]⟩ : ByteArray)) := (blk_cell BK124.out 1).trans rfl
     have hcz57_2 : w50.cell? ⟨gb124, 2, none⟩ = some (.int .i64 0) := (blk_cell BK124.out 2).trans rfl
     have hfz57_0 := blk_frozen BK124.out 0
     have hfz57_1 := blk_frozen BK124.out 1
     have hfz57_2 := blk_frozen BK124.out 2
     have hnb58 := NB114_101.out
     have hnc58 := NB101_114.out
     have hnb59 := NB114_102.out
     have hnc59 := NB102_114.out
     have hcz60_0 : w50.cell? ⟨gb114, 0, none⟩ = some (.string t110) := (blk_cell BK114.out 0).trans rfl
     have hcz60_1 : w50.cell? ⟨gb114, 1, none⟩ = some (.string t111) := (blk_cell BK114.out 1).trans rfl
     have hcz60_2 : w50.cell? ⟨gb114, 2, none⟩ = some (.int .i64 t112) := (blk_cell BK114.out 2).trans rfl
     have hfz60_0 := blk_frozen BK114.out 0
     have hfz60_1 := blk_frozen BK114.out 1
     have hfz60_2 := blk_frozen BK114.out 2
     try go_wp2_with (first | ((with_reducible refine gate_callee (f := 19) rfl ?_); refine goesL_ (some 38) rfl rfl Tryd.func19 (by kernel_rfl) rfl #[.agg #[.string t120, .string t121, .int .i64 t122], .agg #[.string t110, .string t111, .int .i64 t112]] rfl (by (try simp only [aM1, aM2, aM3]); first | done | rfl | (simp only [List.length_drop, List.length_take]; rfl)) ?_; (with_reducible refine (laws_eqLog.calls t120 t121 t122 t110 t111 t112 true _ A25.out).mono ?_); rintro e w61 ⟨rfl, hb⟩; refine ⟨_, rfl, ?_⟩; have n0_ := Aside0.mk (blk_below (g := gb101) (o := .cells #[.string a0_0, .string a0_1, .int .i64 a0_2] 36 (0, 0)) (by (with_reducible repeat (first | refine blk_drewN ?_ _ | refine blk_drew ?_ | refine blk_alloc ?_ _)); refine blk_far ?_ NB101_124.out _; (with_reducible repeat (first | refine blk_drewN ?_ _ | refine blk_drew ?_ | refine blk_alloc ?_ _)); refine blk_far ?_ NB101_124.out _; (with_reducible repeat (first | refine blk_drewN ?_ _ | refine blk_drew ?_ | refine blk_alloc ?_ _)); refine blk_far ?_ NB101_124.out _; (with_reducible repeat (first | refine blk_drewN ?_ _ | refine blk_drew ?_ | refine blk_alloc ?_ _)); exact BK101.out) hb); have n1_ := Aside0.mk (blk_below (g := gb102) (o := .cells #[.string a1_0, .string a1_1] 23 (0, 0)) (by (with_reducible repeat (first | refine blk_drewN ?_ _ | refine blk_drew ?_ | refine blk_alloc ?_ _)); refine blk_far ?_ NB102_124.out _; (with_reducible repeat (first | refine blk_drewN ?_ _ | refine blk_drew ?_ | refine blk_alloc ?_ _)); refine blk_far ?_ NB102_124.out _; (with_reducible repeat (first | refine blk_drewN ?_ _ | refine blk_drew ?_ | refine blk_alloc ?_ _)); refine blk_far ?_ NB102_124.out _; (with_reducible repeat (first | refine blk_drewN ?_ _ | refine blk_drew ?_ | refine blk_alloc ?_ _)); exact BK102.out) hb); have n2_ := Aside0.mk (blk_below (g := gb114) (o := .cells #[.string t110, .string t111, .int .i64 t112] 31 (0, 0)) (by (with_reducible repeat (first | refine blk_drewN ?_ _ | refine blk_drew ?_ | refine blk_alloc ?_ _)); refine blk_far ?_ NB114_124.out _; (with_reducible repeat (first | refine blk_drewN ?_ _ | refine blk_drew ?_ | refine blk_alloc ?_ _)); refine blk_far ?_ NB114_124.out _; (with_reducible repeat (first | refine blk_drewN ?_ _ | refine blk_drew ?_ | refine blk_alloc ?_ _)); refine blk_far ?_ NB114_124.out _; (with_reducible repeat (first | refine blk_drewN ?_ _ | refine blk_drew ?_ | refine blk_alloc ?_ _)); exact BK114.out) hb); have n3_ := Aside0.mk (blk_below (g := gb124) (o := .cells #[.string t120, .string t121, .int .i64 t122] 31 (0, 0)) (by (with_reducible repeat (first | refine blk_drewN ?_ _ | refine blk_drew ?_ | refine blk_alloc ?_ _)); refine blk_put (cs := #[.string t120, .string t121, .int .i64 0]) ?_ 2 _ rfl; (with_reducible repeat (first | refine blk_drewN ?_ _ | refine blk_drew ?_ | refine blk_alloc ?_ _)); refine blk_put (cs := #[.string t120, .string (⟨#[]⟩ : ByteArray), .int .i64 0]) ?_ 1 _ rfl; (with_reducible repeat (first | refine blk_drewN ?_ _ | refine blk_drew ?_ | refine blk_alloc ?_ _)); refine blk_put (cs := #[.string (⟨#[]⟩ : ByteArray), .string (⟨#[]⟩ : ByteArray), .int .i64 0]) ?_ 0 _ rfl; (with_reducible repeat (first | refine blk_drewN ?_ _ | refine blk_drew ?_ | refine blk_alloc ?_ _)); exact BK124.out) hb); have n4_ := Aside0.mk (below_step (by repeat (first | (with_reducible first | exact HB.out | apply below_alloc | apply pw_below_drewN | apply below_drew1 | refine below_set ?_ GE101.out | refine below_set ?_ GE102.out | refine below_set ?_ GE114.out | refine below_set ?_ GE124.out) | exact HB.out)) hb); clear BK101; clear BK102; clear BK114; clear BK124; clear HB; have BK101 := n0_; have BK102 := n1_; have BK114 := n2_; have BK124 := n3_; have HB := n4_; clear n0_ n1_ n2_ n3_ n4_; (try clear hb); (try clear hb2); (try clear hk); (try clear hi)))
     go_ret
     exact ⟨by first | rfl | (simp [errW_none, errW_some] <;> rfl) | (simp [*, errW_none, errW_some] <;> rfl), by repeat (first | (with_reducible first | exact HB.out | apply below_alloc | apply pw_below_drewN | apply below_drew1 | refine below_set ?_ GE101.out | refine below_set ?_ GE102.out | refine below_set ?_ GE114.out | refine below_set ?_ GE124.out) | exact HB.out)⟩
    ·rw [if_neg c27] at H
     have c27b0 : (t123 == t113) = false := beq_eq_false_iff_ne.mpr c27
     have c27b1 : (t123 != t113) = true := bne_iff_ne.mpr c27
     obtain rfl := Option.some.inj H
     exact absurd ht_.out (by decide)
   ·replace c26 := Bool.eq_false_iff.mpr c26
    subst c26
    have H1 : (some false) = some r := by rw [if_neg (show ¬ (false = true) by decide)] at H; exact H
    clear H
    have H := H1
    clear H1
    obtain rfl := Option.some.inj H
    exact absurd ht_.out (by decide)

end Go.Proofs.YtblgaejagebeoaaDoor.X
set_option linter.unusedVariables false
set_option linter.unusedSimpArgs false
namespace Go.Proofs.YtblgaejagebeoaaDoor.Open
open Go.RowKit Go.Proofs.YtblgaejagebeoaaDoorW.PrintWords

/-- What reads at type t is of kind d, and good. -/
def Opens (P : Program) (t : TypeId) {α : Type} (d : Kd α) (good : α → Prop) : Prop :=
  ∀ (H : Type) (enc : TypeId × Value → H) (w : World) (fuel : Nat) (cs : List Value) (x : DataW H × List MemPlace),
    DataW.trod enc P w 0 (fun _ => true) true fuel t cs = some x → ∃ a, d.K w a cs ∧ good a

theorem Opens.weak {P : Program} {t : TypeId} {α : Type} {d : Kd α} {good good' : α → Prop} (h : Opens P t d good) (hg : ∀ a, good a → good' a) : Opens P t d good' := by
  intro H enc w fuel cs x hx
  obtain ⟨a, h1, h2⟩ := h H enc w fuel cs x hx
  exact ⟨a, h1, hg a h2⟩

theorem opens_int {P : Program} {t : TypeId} {k : IntKind} (ht : P.underlying t = some (.int k)) : Opens P t (Kd.int k) (fun n => (Lit.int k n).wf = true) := by
  intro H enc w fuel cs x hx
  obtain ⟨n, rfl, _, hw⟩ := DataW.trod_int ht hx
  exact ⟨n, rfl, hw⟩
theorem opens_bool {P : Program} {t : TypeId} (ht : P.underlying t = some .bool) : Opens P t Kd.bool (fun _ => True) := by
  intro H enc w fuel cs x hx
  obtain ⟨n, rfl, _⟩ := DataW.trod_bool ht hx
  exact ⟨n, rfl, trivial⟩
theorem opens_string {P : Program} {t : TypeId} (ht : P.underlying t = some .string) : Opens P t Kd.string (fun s => s.size ≤ 9223372036854775807) := by
  intro H enc w fuel cs x hx
  obtain ⟨n, rfl, _, hw⟩ := DataW.trod_string ht hx
  exact ⟨n, rfl, by simpa [maxLen] using hw⟩

theorem cells_each {w : World} {a : Addr} {n : Nat} {cs : List Value} (h : w.cells? 0 a n = some cs) : cs.length = n ∧ ∀ i u, cs[i]? = some u → w.cell? (a.add i) = some u := by
  have h1 := World.cells?_some h
  refine ⟨h1.2.1, fun i u hu => ?_⟩
  have hi : i < n := by
    have := (List.getElem?_eq_some_iff.1 hu).1
    omega
  rw [h1.2.2 i hi, hu]

theorem opens_slice {P : Program} {t e : TypeId} {α : Type} {d : Kd α} {g : α → Prop} (ht : P.underlying t = some (.slice e)) (hsz : P.cellsOf e = d.sz) (h : Opens P e d g) :
    Opens P t (Kd.slice e d) (fun xs => xs.length ≤ 9223372036854775807 ∧ ∀ x ∈ xs, g x) := by
  intro H enc w fuel cs x hx
  rcases DataW.trod_slice ht hx with ⟨rfl, _⟩ | ⟨a, len, cap, elems, rest, n, rfl, rfl, _, _, hlc, hcap, hel, hget, _, _⟩
  · exact ⟨[], ⟨none, 0, rfl, Nat.le_refl _, Kd.C_nil d w⟩, by simp, by simp⟩
  · simp only [maxLen] at hcap
    have each : ∀ i, i < len → ∃ b : α, ∃ c : List Value, c.length = d.sz ∧ d.K w b c ∧ g b ∧ ∀ j u, c[j]? = some u → w.cell? (a.add (i * d.sz + j)) = some u := by
      intro i hi
      have h1 := hget i hi
      obtain ⟨y, hy⟩ : ∃ y, elems[i]? = some y := ⟨_, List.getElem?_eq_getElem (by omega)⟩
      rw [hy] at h1
      obtain ⟨c, hc, ht'⟩ := Option.bind_eq_some_iff.1 h1
      obtain ⟨b, hK, hg⟩ := h H enc w n c y ht'
      obtain ⟨hl, hcell⟩ := cells_each hc
      refine ⟨b, c, hl.trans hsz, hK, hg, fun j u hu => ?_⟩
      have := hcell j u hu
      rw [Deep.add_add, hsz] at this
      exact this
    have mk : ∀ m, m ≤ len → ∃ xs : List α, xs.length = m ∧ (∀ x ∈ xs, g x) ∧ ∀ j p, xs[j]? = some p → ∃ c, c.length = d.sz ∧ d.K w p c ∧ ∀ i u, c[i]? = some u → w.cell? (a.add (j * d.sz + i)) = some u := by
      intro m
      induction m with
      | zero => exact fun _ => ⟨[], rfl, by simp, by simp⟩
      | succ m ih =>
        intro hm
        obtain ⟨xs, hl, hg, hx⟩ := ih (by omega)
        obtain ⟨b, c, hc1, hc2, hc3, hc4⟩ := each m (by omega)
        refine ⟨xs ++ [b], by simp [hl], ?_, ?_⟩
        · intro x hx'
          rcases List.mem_append.1 hx' with hx' | hx'
          · exact hg x hx'
          · rw [List.mem_singleton.1 hx']; exact hc3
        · intro j p hj
          by_cases hjm : j < m
          · rw [List.getElem?_append_left (by omega)] at hj
            exact hx j p hj
          · have hlt := (List.getElem?_eq_some_iff.1 hj).1
            simp only [List.length_append, List.length_cons, List.length_nil] at hlt
            obtain rfl : j = m := by omega
            rw [List.getElem?_append_right (by omega), hl, Nat.sub_self] at hj
            simp only [List.getElem?_cons_zero, Option.some.injEq] at hj
            subst hj
            exact ⟨c, hc1, hc2, hc4⟩
    obtain ⟨ys, hl, hg, hy⟩ := mk len (Nat.le_refl _)
    subst hl
    exact ⟨ys, ⟨some a, cap, rfl, hlc, rfl, by omega, fun _ => ⟨a, rfl, hy⟩⟩, by omega, hg⟩

/-! A struct: its fields in line. -/
def offs (L : List (TypeId × Nat)) (i : Nat) : Nat := ((L.take i).map (·.2)).sum
def Sect (P : Program) (L : List (TypeId × Nat)) {α : Type} (d : Kd α) (good : α → Prop) : Prop :=
  ∀ (H : Type) (enc : TypeId × Value → H) (w : World) (n : Nat) (cs : List Value), cs.length = (L.map (·.2)).sum →
    (∀ i p, L[i]? = some p → ∃ y, DataW.trod enc P w 0 (fun _ => true) true n p.1 ((cs.drop (offs L i)).take p.2) = some y) → ∃ a, d.K w a cs ∧ good a
theorem sect_one {P : Program} {t : TypeId} {s : Nat} {α : Type} {d : Kd α} {g : α → Prop} (h : Opens P t d g) : Sect P [(t, s)] d g := by
  intro H enc w n cs hl hf
  obtain ⟨y, hy⟩ := hf 0 _ rfl
  simp only [offs, List.take_zero, List.map_nil, List.sum_nil, List.drop_zero] at hy
  rw [List.take_of_length_le (by simp at hl; omega)] at hy
  exact h H enc w n cs y hy
theorem sect_cons {P : Program} {t : TypeId} {s : Nat} {L : List (TypeId × Nat)} {α β : Type} {d : Kd α} {d' : Kd β} {g : α → Prop} {g' : β → Prop} (h : Opens P t d g) (h' : Sect P L d' g') :
    Sect P ((t, s) :: L) (Kd.pair d d') (fun x => g x.1 ∧ g' x.2) := by
  intro H enc w n cs hl hf
  obtain ⟨y, hy⟩ := hf 0 _ rfl
  simp only [offs, List.take_zero, List.map_nil, List.sum_nil, List.drop_zero] at hy
  obtain ⟨a, ha, hga⟩ := h H enc w n _ y hy
  obtain ⟨b, hb, hgb⟩ := h' H enc w n (cs.drop s) (by simp only [List.map_cons, List.sum_cons] at hl; rw [List.length_drop, hl]; omega) (by
    intro i p hp
    obtain ⟨z, hz⟩ := hf (i + 1) p (by simpa using hp)
    refine ⟨z, ?_⟩
    simp only [offs, List.take_succ_cons, List.map_cons, List.sum_cons] at hz
    rw [List.drop_drop]
    exact hz)
  exact ⟨(a, b), ⟨cs.take s, cs.drop s, (List.take_append_drop s cs).symm, ha, hb⟩, hga, hgb⟩
theorem opens_struct {P : Program} {t : TypeId} {fs : Array Field} {α β : Type} {d : Kd α} {g : α → Prop} (f : β → α) (k : α → β) (hk : ∀ x, f (k x) = x) (L : List (TypeId × Nat))
    (ht : P.underlying t = some (.struct fs)) (hL : L = fs.toList.map (fun f => (f.type, P.cellsOf f.type))) (ho : fs.toList.map (·.offset) = (List.range L.length).map (offs L)) (hc : P.cellsOf t = (L.map (·.2)).sum)
    (h : Sect P L d g) : Opens P t (Kd.iso d f) (fun x => g (f x)) := by
  intro H enc w fuel cs x hx
  obtain ⟨xs, n, rfl, rfl, hl, hxl, hf⟩ := DataW.trod_struct ht hx
  obtain ⟨a, ha, hg⟩ := h H enc w n cs (hl.trans hc) (by
    intro i p hp
    have hi : i < fs.size := by
      have := (List.getElem?_eq_some_iff.1 hp).1
      rw [hL] at this
      simpa using this
    have hfi : fs[i]? = some fs[i] := Array.getElem?_eq_getElem hi
    have h1 := hf i fs[i] hfi
    obtain ⟨y, hy⟩ : ∃ y, xs[i]? = some y := ⟨_, List.getElem?_eq_getElem (by omega)⟩
    rw [hy] at h1
    refine ⟨y, ?_⟩
    have hp' : p = (fs[i].type, P.cellsOf fs[i].type) := by
      rw [hL] at hp
      simp only [List.getElem?_map, Array.getElem?_toList, hfi, Option.map_some, Option.some.injEq] at hp
      exact hp.symm
    have hoi : fs[i].offset = offs L i := by
      have h2 : (fs.toList.map (·.offset))[i]? = ((List.range L.length).map (offs L))[i]? := by rw [ho]
      have hLl : L.length = fs.size := by rw [hL]; simp
      simp only [List.getElem?_map, Array.getElem?_toList, hfi, Option.map_some, List.getElem?_range (show i < L.length by omega)] at h2
      exact Option.some.inj h2
    rw [hp', ← hoi]
    exact h1)
  refine ⟨k a, ?_, ?_⟩
  · show d.K w (f (k a)) cs
    rw [hk]; exact ha
  · show g (f (k a))
    rw [hk]; exact hg

/-! The row: an argument opened. -/
theorem arg_slice {P : Program} {W : World} {H : Type} {enc : TypeId × Value → H} {t e : TypeId} {α : Type} {d : Kd α} {g : List α → Prop} {v : Value} {x : DataW H} {p : List MemPlace} (h : Opens P t (Kd.slice e d) g)
    (hs : ∃ a len cap, v = .slice a len cap) (hv : DataW.Trod enc P W 0 (fun _ => true) true t v x p) : ∃ A c xs, v = .slice A xs.length c ∧ xs.length ≤ c ∧ Kd.C d W A xs.length xs ∧ g xs := by
  obtain ⟨a, len, cap, rfl⟩ := hs
  obtain ⟨fuel, hf⟩ := hv
  obtain ⟨xs, ⟨A, c, he, hl, hc⟩, hg⟩ := h H enc W fuel _ _ hf
  simp [Value.cells] at he
  obtain ⟨rfl, rfl, rfl⟩ := he
  exact ⟨_, _, xs, rfl, hl, hc, hg⟩
theorem arg_agg {P : Program} {W : World} {H : Type} {enc : TypeId × Value → H} {t : TypeId} {α : Type} {d : Kd α} {g : α → Prop} {v : Value} {x : DataW H} {p : List MemPlace} (h : Opens P t d g)
    (hs : ∃ cs, v = .agg cs) (hv : DataW.Trod enc P W 0 (fun _ => true) true t v x p) : ∃ a cs, v = .agg cs ∧ d.K W a cs.toList ∧ g a := by
  obtain ⟨cs, rfl⟩ := hs
  obtain ⟨fuel, hf⟩ := hv
  obtain ⟨a, hK, hg⟩ := h H enc W fuel _ _ hf
  exact ⟨a, cs, rfl, hK, hg⟩
end Go.Proofs.YtblgaejagebeoaaDoor.Open
set_option linter.unusedVariables false
namespace Go.Proofs.YtblgaejagebeoaaDoor.X
open Go.RowKit Go.Proofs.YtblgaejagebeoaaDoorW.PrintWords Go.Proofs.YtblgaejagebeoaaDoor.Open
theorem op3 : Opens Tryd.prog 3 (Kd.int .i64) (fun n => (Lit.int .i64 n).wf = true) := opens_int Tryd.underlying3
theorem op9 : Opens Tryd.prog 9 Kd.string (fun s => s.size ≤ 9223372036854775807) := opens_string Tryd.underlying9
def good23 (x : S23) : Prop := x.f0.size ≤ 9223372036854775807 ∧ x.f1.size ≤ 9223372036854775807
theorem op23 : Opens Tryd.prog 23 k23 good23 :=
  opens_struct (fun x : S23 => (x.f0, x.f1)) (fun p => ⟨p.1, p.2⟩) (fun _ => rfl) [(9, 1), (9, 1)] Tryd.underlying23 (by kernel_rfl) (by decide) (by kernel_rfl) (sect_cons op9 (sect_one op9))
def good36 (x : S36) : Prop := x.f0.size ≤ 9223372036854775807 ∧ x.f1.size ≤ 9223372036854775807 ∧ (Lit.int .i64 x.f2).wf = true
theorem op36 : Opens Tryd.prog 36 k36 good36 :=
  opens_struct (fun x : S36 => (x.f0, x.f1, x.f2)) (fun p => ⟨p.1, p.2.1, p.2.2⟩) (fun _ => rfl) [(9, 1), (9, 1), (3, 1)] Tryd.underlying36 (by kernel_rfl) (by decide) (by kernel_rfl) (sect_cons op9 (sect_cons op9 (sect_one op3)))
end Go.Proofs.YtblgaejagebeoaaDoor.X
namespace Go.Proofs.YtblgaejagebeoaaDoor.X
open Go.RowKit Go.Proofs.YtblgaejagebeoaaDoorW.PrintWords
def PureFnExactAppendRecord : Prop := ∀ (a0 : S36) (a1 : S23), good36 a0 → good23 a1 → ∃ k, laws_FnExactAppendRecord.f k (a0.f0) (a0.f1) (a0.f2) (a1.f0) (a1.f1) = some true
end Go.Proofs.YtblgaejagebeoaaDoor.X
namespace Go.Proofs.YtblgaejagebeoaaDoor.X
open Go.RowKit Go.Proofs.YtblgaejagebeoaaDoorW.PrintWords Go.Proofs.YtblgaejagebeoaaDoorW.PrintLast Go.Proofs.YtblgaejagebeoaaDoorW.PrintMore
attribute [local go_sem] max2_int min2_int max_two min_two max_three min_three max_four min_four   -- for this text's walks alone
set_option linter.unusedVariables false
set_option linter.unusedSimpArgs false
attribute [-simp] ByteArray.size_append ByteArray.size_extract
attribute [-go_sem] ByteArray.size_append'

/-! ### spec_EncodeRecord: function 14 -/
def spec_EncodeRecord.f (k : Nat) (a0 : Int) (a1_0 : ByteArray) (a1_1 : ByteArray) : Option (ByteArray × Bool) := (spec_l1In.f a0 0 59).bind fun t102 => (if t102 = true then ((spec_l27Good.f k a1_0 a1_1).bind fun t103 => (if t103 = true then ((spec_l27Line.f k a0 a1_0 a1_1).bind fun t104 => (some (t104, true))) else (some ((⟨#[]⟩ : ByteArray), false)))) else (some ((⟨#[]⟩ : ByteArray), false)))
theorem spec_EncodeRecord.mono : ∀ a0 a1 a2 k, LeO (spec_EncodeRecord.f k a0 a1 a2) (spec_EncodeRecord.f (k + 1) a0 a1 a2) := by
 intro a0 a1 a2 k
 unfold spec_EncodeRecord.f
 repeat' first
   | (with_reducible exact spec_l27Good.mono _ _ _)
   | (with_reducible exact spec_l27Line.mono _ _ _ _)
   | (with_reducible exact LeO.refl _)
   | (with_reducible exact LeO.none _)
   | (with_reducible refine LeO.ite ?_ ?_)
   | (with_reducible refine LeO.bind ?_ (fun _ => ?_))
   | exact spec_l27Good.mono _ _ _
   | exact spec_l27Line.mono _ _ _ _
   | exact LeO.none _
   | refine LeO.ite ?_ ?_
   | refine LeO.bind ?_ (fun _ => ?_)
set_option maxHeartbeats 8000000 in
set_option maxRecDepth 100000 in
theorem spec_EncodeRecord.calls (k : Nat) (a0 : Int) (a1_0 : ByteArray) (a1_1 : ByteArray) (r1 : ByteArray) (r2 : Bool) (w : World) (h : spec_EncodeRecord.f k a0 a1_0 a1_1 = some (r1, r2)) :
  Calls Tryd.prog 14 #[.int .i64 a0, .agg #[.string a1_0, .string a1_1]] w fun e w' => e = .returned (.tuple #[.string r1, .bool r2]) ∧ Below w.heap.size w w' := by
 have hu27 := Tryd.underlying27
 have HB := Aside0.mk (Below.refl w.heap.size w)
 have H : ((spec_l1In.f a0 0 59).bind fun t102 => (if t102 = true then ((spec_l27Good.f k a1_0 a1_1).bind fun t103 => (if t103 = true then ((spec_l27Line.f k a0 a1_0 a1_1).bind fun t104 => (some (t104, true))) else (some ((⟨#[]⟩ : ByteArray), false)))) else (some ((⟨#[]⟩ : ByteArray), false)))) = some (r1, r2) := h
 clear h
 replace H := Option.bind_eq_some_iff.mp H
 obtain ⟨t102, A30, H⟩ := H
 replace H : (if t102 = true then ((spec_l27Good.f k a1_0 a1_1).bind fun t103 => (if t103 = true then ((spec_l27Line.f k a0 a1_0 a1_1).bind fun t104 => (some (t104, true))) else (some ((⟨#[]⟩ : ByteArray), false)))) else (some ((⟨#[]⟩ : ByteArray), false))) = some (r1, r2) := H
 have A3 := Aside0.mk A30
 clear A30
 by_cases c4 : t102 = true
 ·subst c4
  have H1 : ((spec_l27Good.f k a1_0 a1_1).bind fun t103 => (if t103 = true then ((spec_l27Line.f k a0 a1_0 a1_1).bind fun t104 => (some (t104, true))) else (some ((⟨#[]⟩ : ByteArray), false)))) = some (r1, r2) := by rw [if_pos rfl] at H; exact H
  clear H
  have H := H1
  clear H1
  replace H := Option.bind_eq_some_iff.mp H
  obtain ⟨t103, A50, H⟩ := H
  replace H : (if t103 = true then ((spec_l27Line.f k a0 a1_0 a1_1).bind fun t104 => (some (t104, true))) else (some ((⟨#[]⟩ : ByteArray), false))) = some (r1, r2) := H
  have A5 := Aside0.mk A50
  clear A50
  by_cases c6 : t103 = true
  ·subst c6
   have H1 : ((spec_l27Line.f k a0 a1_0 a1_1).bind fun t104 => (some (t104, true))) = some (r1, r2) := by rw [if_pos rfl] at H; exact H
   clear H
   have H := H1
   clear H1
   replace H := Option.bind_eq_some_iff.mp H
   obtain ⟨t104, A70, H⟩ := H
   replace H : (some (t104, true)) = some (r1, r2) := H
   have A7 := Aside0.mk A70
   clear A70
   simp only [Option.some.injEq, Prod.mk.injEq] at H
   obtain ⟨rfl, rfl⟩ := H
   go_enter Tryd.func14, Tryd.ntmps14
   go_wp2_with (first | ((with_reducible refine gate_dst (N := 3) rfl ?_); refine box_event ?hg (N := 3) ?hd (cs := #[.string a1_0, .string a1_1]) (t := 27) ?hr ?_; (case hd => rfl); (case hg => rfl); (case hr => first | (go_simp; done) | (go_simp; rfl)); intro gb101 hg w8 hbox hb; have n0_ := Aside0.mk (below_step (by repeat (first | (with_reducible first | exact HB.out | apply below_alloc | apply pw_below_drewN | apply below_drew1) | exact HB.out)) hb); have n1_ := Aside0.mk (hbox); have n2_ := Aside0.mk ((by rw [hg]; exact (below_size (by repeat (first | (with_reducible first | exact HB.out | apply below_alloc | apply pw_below_drewN | apply below_drew1) | exact HB.out))) : w.heap.size ≤ gb101)); have n3_ := Aside0.mk ((by rw [hg]; exact (below_size (by repeat (first | (with_reducible first | exact HB.out | apply below_alloc | apply pw_below_drewN | apply below_drew1) | exact HB.out))) : w.heap.size ≤ gb101)); clear HB; have HB := n0_; have BK101 := n1_; have GW101 := n2_; have GE101 := n3_; clear n0_ n1_ n2_ n3_; clear hb hbox hg) | ((with_reducible refine gate_callee (f := 42) rfl ?_); refine goesL_ (some 7) rfl rfl Tryd.func42 (by kernel_rfl) rfl #[.int .i64 a0, .int .i64 0, .int .i64 59] rfl (by (try simp only [aM1, aM2, aM3]); first | done | rfl | (simp only [List.length_drop, List.length_take]; rfl)) ?_; (with_reducible refine (spec_l1In.calls a0 0 59 true _ A3.out).mono ?_); rintro e w' ⟨rfl, ⟨nd, rfl⟩⟩; refine ⟨_, rfl, ?_⟩; have hcz9_0 : w8.cell? ⟨gb101, 0, none⟩ = some (.string a1_0) := (blk_cell BK101.out 0).trans rfl; have hcz9_1 : w8.cell? ⟨gb101, 1, none⟩ = some (.string a1_1) := (blk_cell BK101.out 1).trans rfl; have hfz9_0 := blk_frozen BK101.out 0; have hfz9_1 := blk_frozen BK101.out 1) | (go_at_call 43; (with_reducible refine (spec_l27Good.calls k a1_0 a1_1 true _ A5.out).mono ?_); rintro e w10 ⟨rfl, hb⟩; have n0_ := Aside0.mk (blk_below (g := gb101) (o := .cells #[.string a1_0, .string a1_1] 27 (0, 0)) (by (with_reducible repeat (first | refine blk_drewN ?_ _ | refine blk_drew ?_ | refine blk_alloc ?_ _)); exact BK101.out) hb); have n1_ := Aside0.mk (below_step (by repeat (first | (with_reducible first | exact HB.out | apply below_alloc | apply pw_below_drewN | apply below_drew1 | refine below_set ?_ GE101.out) | exact HB.out)) hb); clear BK101; clear HB; have BK101 := n0_; have HB := n1_; clear n0_ n1_; (try clear hb); (try clear hb2); (try clear hk); (try clear hi); have hcz11_0 : w10.cell? ⟨gb101, 0, none⟩ = some (.string a1_0) := (blk_cell BK101.out 0).trans rfl; have hcz11_1 : w10.cell? ⟨gb101, 1, none⟩ = some (.string a1_1) := (blk_cell BK101.out 1).trans rfl; have hfz11_0 := blk_frozen BK101.out 0; have hfz11_1 := blk_frozen BK101.out 1) | ((with_reducible refine gate_callee (f := 44) rfl ?_); refine goesL_ (some 16) rfl rfl Tryd.func44 (by kernel_rfl) rfl #[.int .i64 a0, .agg #[.string a1_0, .string a1_1]] rfl (by (try simp only [aM1, aM2, aM3]); first | done | rfl | (simp only [List.length_drop, List.length_take]; rfl)) ?_; (with_reducible refine (spec_l27Line.calls k a0 a1_0 a1_1 t104 _ A7.out).mono ?_); rintro e w12 ⟨rfl, hb⟩; refine ⟨_, rfl, ?_⟩; have n0_ := Aside0.mk (blk_below (g := gb101) (o := .cells #[.string a1_0, .string a1_1] 27 (0, 0)) (by (with_reducible repeat (first | refine blk_drewN ?_ _ | refine blk_drew ?_ | refine blk_alloc ?_ _)); exact BK101.out) hb); have n1_ := Aside0.mk (below_step (by repeat (first | (with_reducible first | exact HB.out | apply below_alloc | apply pw_below_drewN | apply below_drew1 | refine below_set ?_ GE101.out) | exact HB.out)) hb); clear BK101; clear HB; have BK101 := n0_; have HB := n1_; clear n0_ n1_; (try clear hb); (try clear hb2); (try clear hk); (try clear hi)))
   go_ret2
   exact ⟨by first | rfl | (simp [errW_none, errW_some] <;> rfl) | (simp [*, errW_none, errW_some] <;> rfl), by repeat (first | (with_reducible first | exact HB.out | apply below_alloc | apply pw_below_drewN | apply below_drew1 | refine below_set ?_ GE101.out) | exact HB.out)⟩
  ·replace c6 := Bool.eq_false_iff.mpr c6
   subst c6
   have H1 : (some ((⟨#[]⟩ : ByteArray), false)) = some (r1, r2) := by rw [if_neg (show ¬ (false = true) by decide)] at H; exact H
   clear H
   have H := H1
   clear H1
   simp only [Option.some.injEq, Prod.mk.injEq] at H
   obtain ⟨rfl, rfl⟩ := H
   go_enter Tryd.func14, Tryd.ntmps14
   go_wp2_with (first | ((with_reducible refine gate_dst (N := 3) rfl ?_); refine box_event ?hg (N := 3) ?hd (cs := #[.string a1_0, .string a1_1]) (t := 27) ?hr ?_; (case hd => rfl); (case hg => rfl); (case hr => first | (go_simp; done) | (go_simp; rfl)); intro gb101 hg w13 hbox hb; have n0_ := Aside0.mk (below_step (by repeat (first | (with_reducible first | exact HB.out | apply below_alloc | apply pw_below_drewN | apply below_drew1) | exact HB.out)) hb); have n1_ := Aside0.mk (hbox); have n2_ := Aside0.mk ((by rw [hg]; exact (below_size (by repeat (first | (with_reducible first | exact HB.out | apply below_alloc | apply pw_below_drewN | apply below_drew1) | exact HB.out))) : w.heap.size ≤ gb101)); have n3_ := Aside0.mk ((by rw [hg]; exact (below_size (by repeat (first | (with_reducible first | exact HB.out | apply below_alloc | apply pw_below_drewN | apply below_drew1) | exact HB.out))) : w.heap.size ≤ gb101)); clear HB; have HB := n0_; have BK101 := n1_; have GW101 := n2_; have GE101 := n3_; clear n0_ n1_ n2_ n3_; clear hb hbox hg) | ((with_reducible refine gate_callee (f := 42) rfl ?_); refine goesL_ (some 7) rfl rfl Tryd.func42 (by kernel_rfl) rfl #[.int .i64 a0, .int .i64 0, .int .i64 59] rfl (by (try simp only [aM1, aM2, aM3]); first | done | rfl | (simp only [List.length_drop, List.length_take]; rfl)) ?_; (with_reducible refine (spec_l1In.calls a0 0 59 true _ A3.out).mono ?_); rintro e w' ⟨rfl, ⟨nd, rfl⟩⟩; refine ⟨_, rfl, ?_⟩; have hcz14_0 : w13.cell? ⟨gb101, 0, none⟩ = some (.string a1_0) := (blk_cell BK101.out 0).trans rfl; have hcz14_1 : w13.cell? ⟨gb101, 1, none⟩ = some (.string a1_1) := (blk_cell BK101.out 1).trans rfl; have hfz14_0 := blk_frozen BK101.out 0; have hfz14_1 := blk_frozen BK101.out 1) | (go_at_call 43; (with_reducible refine (spec_l27Good.calls k a1_0 a1_1 false _ A5.out).mono ?_); rintro e w15 ⟨rfl, hb⟩; have n0_ := Aside0.mk (blk_below (g := gb101) (o := .cells #[.string a1_0, .string a1_1] 27 (0, 0)) (by (with_reducible repeat (first | refine blk_drewN ?_ _ | refine blk_drew ?_ | refine blk_alloc ?_ _)); exact BK101.out) hb); have n1_ := Aside0.mk (below_step (by repeat (first | (with_reducible first | exact HB.out | apply below_alloc | apply pw_below_drewN | apply below_drew1 | refine below_set ?_ GE101.out) | exact HB.out)) hb); clear BK101; clear HB; have BK101 := n0_; have HB := n1_; clear n0_ n1_; (try clear hb); (try clear hb2); (try clear hk); (try clear hi)))
   go_ret2
   exact ⟨by first | rfl | (simp [errW_none, errW_some] <;> rfl) | (simp [*, errW_none, errW_some] <;> rfl), by repeat (first | (with_reducible first | exact HB.out | apply below_alloc | apply pw_below_drewN | apply below_drew1 | refine below_set ?_ GE101.out) | exact HB.out)⟩
 ·replace c4 := Bool.eq_false_iff.mpr c4
  subst c4
  have H1 : (some ((⟨#[]⟩ : ByteArray), false)) = some (r1, r2) := by rw [if_neg (show ¬ (false = true) by decide)] at H; exact H
  clear H
  have H := H1
  clear H1
  simp only [Option.some.injEq, Prod.mk.injEq] at H
  obtain ⟨rfl, rfl⟩ := H
  go_enter Tryd.func14, Tryd.ntmps14
  go_wp2_with (first | ((with_reducible refine gate_dst (N := 3) rfl ?_); refine box_event ?hg (N := 3) ?hd (cs := #[.string a1_0, .string a1_1]) (t := 27) ?hr ?_; (case hd => rfl); (case hg => rfl); (case hr => first | (go_simp; done) | (go_simp; rfl)); intro gb101 hg w16 hbox hb; have n0_ := Aside0.mk (below_step (by repeat (first | (with_reducible first | exact HB.out | apply below_alloc | apply pw_below_drewN | apply below_drew1) | exact HB.out)) hb); have n1_ := Aside0.mk (hbox); have n2_ := Aside0.mk ((by rw [hg]; exact (below_size (by repeat (first | (with_reducible first | exact HB.out | apply below_alloc | apply pw_below_drewN | apply below_drew1) | exact HB.out))) : w.heap.size ≤ gb101)); have n3_ := Aside0.mk ((by rw [hg]; exact (below_size (by repeat (first | (with_reducible first | exact HB.out | apply below_alloc | apply pw_below_drewN | apply below_drew1) | exact HB.out))) : w.heap.size ≤ gb101)); clear HB; have HB := n0_; have BK101 := n1_; have GW101 := n2_; have GE101 := n3_; clear n0_ n1_ n2_ n3_; clear hb hbox hg) | ((with_reducible refine gate_callee (f := 42) rfl ?_); refine goesL_ (some 7) rfl rfl Tryd.func42 (by kernel_rfl) rfl #[.int .i64 a0, .int .i64 0, .int .i64 59] rfl (by (try simp only [aM1, aM2, aM3]); first | done | rfl | (simp only [List.length_drop, List.length_take]; rfl)) ?_; (with_reducible refine (spec_l1In.calls a0 0 59 false _ A3.out).mono ?_); rintro e w' ⟨rfl, ⟨nd, rfl⟩⟩; refine ⟨_, rfl, ?_⟩))
  go_ret2
  exact ⟨by first | rfl | (simp [errW_none, errW_some] <;> rfl) | (simp [*, errW_none, errW_some] <;> rfl), by repeat (first | (with_reducible first | exact HB.out | apply below_alloc | apply pw_below_drewN | apply below_drew1 | refine below_set ?_ GE101.out) | exact HB.out)⟩

end Go.Proofs.YtblgaejagebeoaaDoor.X
set_option linter.unusedVariables false
set_option linter.unusedSimpArgs false
namespace Go.Proofs.YtblgaejagebeoaaDoor.X
open Go.RowKit Go.Proofs.YtblgaejagebeoaaDoorW.PrintWords Go.Proofs.YtblgaejagebeoaaDoor.E
def numB (n : Int) : ByteArray := ⟨(Lib.itoa n).toArray⟩
def decB (u : Nat) : ByteArray := ⟨(Lib.decDigits u).toArray⟩
theorem digit_fin : ∀ i : Fin 10, (⟨#[48, 49, 50, 51, 52, 53, 54, 55, 56, 57]⟩ : ByteArray).extract i.val (i.val + 1) = ⟨#[UInt8.ofNat (48 + i.val)]⟩ := by decide +kernel
theorem digit_at (i : Int) (j : Int) (h0 : 0 ≤ i) (h1 : i < 10) (hj : j = i + 1) : (⟨#[48, 49, 50, 51, 52, 53, 54, 55, 56, 57]⟩ : ByteArray).extract i.toNat j.toNat = ⟨#[UInt8.ofNat (48 + i.toNat)]⟩ := by
  rw [show j.toNat = i.toNat + 1 by omega]
  exact digit_fin ⟨i.toNat, by omega⟩
theorem ba_append (l m : List UInt8) : (⟨l.toArray⟩ : ByteArray) ++ (⟨m.toArray⟩ : ByteArray) = ⟨(l ++ m).toArray⟩ := by
  apply ByteArray.ext
  rw [ByteArray.data_append]
  simp
theorem ba_size (l : List UInt8) : (⟨l.toArray⟩ : ByteArray).size = l.length := rfl
theorem decB_size (u : Nat) (h : u < 18446744073709551616) : (decB u).size ≤ 20 := by
  unfold decB
  rw [ba_size, Lib.decDigits_length]
  exact Lib.nDigits_le20 u h
theorem numB_size (n : Int) (h0 : -9223372036854775808 ≤ n) (h1 : n ≤ 9223372036854775807) : (numB n).size ≤ 21 := by
  unfold numB
  rw [ba_size]
  exact Lib.itoa_length_le n h0 h1
theorem l1Num_nat : ∀ (u : Nat), u ≤ 9223372036854775807 → Ev (fun k => spec_l1Num.f k (u : Int)) (decB u) := by
  intro u
  induction u using Nat.strongRecOn with
  | _ u ih =>
    intro hu
    refine Ev.step (fun k => rfl) (ev_neg (by omega) ?_)
    by_cases h : u < 10
    · have hw : wrap64 ((u : Int) + 1) = (u : Int) + 1 := wrap_id (by omega) (by omega)
      rw [hw]
      refine ev_pos (by omega) (ev_pos (by omega) (ev_pos (by omega) (ev_pos (by omega) (ev_now ?_))))
      rw [digit_at (u : Int) _ (by omega) (by omega) rfl]
      unfold decB
      rw [Lib.decDigits, dif_pos h, Int.toNat_natCast]
    · refine ev_neg (by omega) ?_
      have hd : Int.tdiv (u : Int) 10 = ((u / 10 : Nat) : Int) := by rw [Int.tdiv_eq_ediv_of_nonneg (by omega)]; omega
      have hm : Int.tmod (u : Int) 10 = ((u % 10 : Nat) : Int) := by rw [Int.tmod_eq_emod_of_nonneg (by omega)]; omega
      have hw : wrap64 ((u / 10 : Nat) : Int) = ((u / 10 : Nat) : Int) := wrap_id (by omega) (by omega)
      have hw2 : wrap64 (((u % 10 : Nat) : Int) + 1) = ((u % 10 : Nat) : Int) + 1 := wrap_id (by omega) (by omega)
      rw [hd, hw, hm, hw2]
      refine Ev.bind (ih (u / 10) (by omega) (by omega)) ?_
      rw [digit_at ((u % 10 : Nat) : Int) _ (by omega) (by omega) rfl]
      have hs := decB_size (u / 10) (by omega)
      have h1 : (⟨#[UInt8.ofNat (48 + ((u % 10 : Nat) : Int).toNat)]⟩ : ByteArray).size = 1 := rfl
      refine ev_pos (by omega) (ev_pos (by omega) (ev_pos (by omega) (ev_pos (by omega) (ev_now ?_))))
      unfold decB
      rw [show (⟨#[UInt8.ofNat (48 + ((u % 10 : Nat) : Int).toNat)]⟩ : ByteArray) = ⟨[UInt8.ofNat (48 + u % 10)].toArray⟩ by rw [Int.toNat_natCast], ba_append]
      conv => rhs; rw [Lib.decDigits, dif_neg h]
theorem l1Num_ev (n : Int) (h0 : -9223372036854775807 ≤ n) (h1 : n ≤ 9223372036854775807) : Ev (fun k => spec_l1Num.f k n) (numB n) := by
  by_cases hn : n < 0
  · have hw : wrap64 (-n) = ((n.natAbs : Nat) : Int) := by rw [wrap_id (by omega) (by omega)]; omega
    refine Ev.step (fun k => rfl) (ev_pos hn ?_)
    rw [hw]
    have hs := decB_size n.natAbs (by omega)
    refine Ev.bind (l1Num_nat _ (by omega)) (ev_pos (by omega) (ev_now ?_))
    unfold numB decB
    rw [show (⟨#[45]⟩ : ByteArray) = ⟨[45].toArray⟩ from rfl, ba_append, Lib.itoa, if_pos hn]
    rfl
  · obtain ⟨u, rfl⟩ : ∃ u : Nat, n = u := ⟨n.toNat, by omega⟩
    refine ev_cast (l1Num_nat u (by omega)) ?_
    unfold numB decB
    rw [Lib.itoa, if_neg hn, Int.toNat_natCast]
end Go.Proofs.YtblgaejagebeoaaDoor.X
set_option linter.unusedVariables false
set_option linter.unusedSimpArgs false
namespace Go.Proofs.YtblgaejagebeoaaDoor.X
open Go.RowKit Go.Proofs.YtblgaejagebeoaaDoorW.PrintWords Go.Proofs.YtblgaejagebeoaaDoor.E
theorem l1In_eq (a l h : Int) : spec_l1In.f a l h = some (decide (l ≤ a ∧ a ≤ h)) := by
  unfold spec_l1In.f
  by_cases h1 : a ≥ l
  · rw [if_pos h1]; congr 1; simp [h1]
  · rw [if_neg h1]; congr 1; symm; simp; intro h2; omega
theorem within_eq (a l h : Int) : impl_within.f a l h = some (decide (l ≤ a ∧ a ≤ h)) := by
  unfold impl_within.f
  by_cases h1 : a ≥ l
  · rw [if_pos h1]; congr 1; simp [h1]
  · rw [if_neg h1]; congr 1; symm; simp; intro h2; omega
def logAt (s : ByteArray) (i : Nat) : Bool := decide (32 ≤ bt s i ∧ bt s i ≤ 126 ∧ bt s i ≠ 35)
def logB (s : ByteArray) : Bool := (List.range s.size).all (logAt s)
def hasB (s : ByteArray) (c : Int) : Bool := !((List.range s.size).all (fun i => decide (bt s i ≠ c)))
theorem isLogText_ev (s : ByteArray) (hs : s.size ≤ 9223372036854775807) : Ev (fun k => impl_isLogText.f k s) (logB s) := by
  have h := ev_all0 (L := fun k i => impl_isLogText.l0 k s (s.size : Int) i) s.size (logAt s) false true (fun _ => Ev.step (fun k => rfl) (ev_neg (by omega) (ev_now rfl))) ?h1 ?h2
  case h1 =>
    intro i hi _ hc y hy
    simp only [logAt, decide_eq_true_eq] at hc
    refine Ev.step (fun k => rfl) (ev_pos (by omega) (ev_pos (by omega) (ev_pos (by omega) ?_)))
    rw [wrap_succ hi hs]
    exact ev_neg (by omega) (ev_neg (by omega) (ev_neg (by omega) hy))
  case h2 =>
    intro i hi _ hc
    simp only [logAt, decide_eq_false_iff_not] at hc
    refine Ev.step (fun k => rfl) (ev_pos (by omega) (ev_pos (by omega) (ev_pos (by omega) ?_)))
    refine ev_ite (fun _ => ev_now rfl) (fun _ => ev_ite (fun _ => ev_now rfl) (fun _ => ev_ite (fun _ => ev_now rfl) (fun _ => ?_)))
    exfalso; omega
  refine ev_cast h ?_
  unfold logB
  cases (List.range s.size).all (logAt s) <;> rfl
theorem l27Plain_ev (s : ByteArray) (hs : s.size ≤ 9223372036854775807) (n : Int) : Ev (fun k => spec_l27Plain.f k s n) (logB s && decide ((s.size : Int) ≤ n)) := by
  have hw : ∀ i : Nat, wrap64 (bt s i) = bt s i := fun i => wrap_id (by have := bt_range s i; omega) (by have := bt_range s i; omega)
  have h := ev_all0 (L := fun k i => spec_l27Plain.l0 k s n i) s.size (logAt s) false (decide ((s.size : Int) ≤ n)) (fun _ => Ev.step (fun k => rfl) (ev_neg (by omega) (ev_now rfl))) ?h1 ?h2
  case h1 =>
    intro i hi _ hc y hy
    simp only [logAt, decide_eq_true_eq] at hc
    refine Ev.step (fun k => rfl) (ev_pos (by omega) (ev_pos (by omega) ?_))
    rw [wrap_succ hi hs, hw]
    refine ev_bind0 (l1In_eq _ _ _) ?_
    exact ev_pos (decide_eq_true (by omega)) (ev_neg (by omega) hy)
  case h2 =>
    intro i hi _ hc
    simp only [logAt, decide_eq_false_iff_not] at hc
    refine Ev.step (fun k => rfl) (ev_pos (by omega) (ev_pos (by omega) ?_))
    rw [hw]
    refine ev_bind0 (l1In_eq _ _ _) ?_
    refine ev_ite (fun c => ?_) (fun _ => ev_now rfl)
    have c' := of_decide_eq_true c
    exact ev_pos (by omega) (ev_now rfl)
  refine ev_cast h ?_
  unfold logB
  cases (List.range s.size).all (logAt s) <;> simp
theorem l1Stands_ev (s : ByteArray) (hs : s.size ≤ 9223372036854775807) (c : Int) : Ev (fun k => spec_l1Stands.f k s c) (hasB s c) := by
  have h := ev_all0 (L := fun k i => spec_l1Stands.l0 k s c i) s.size (fun i => decide (bt s i ≠ c)) true false (fun _ => Ev.step (fun k => rfl) (ev_neg (by omega) (ev_now rfl))) ?h1 ?h2
  case h1 =>
    intro i hi _ hc y hy
    have hc' := of_decide_eq_true hc
    refine Ev.step (fun k => rfl) (ev_pos (by omega) (ev_pos (by omega) ?_))
    rw [wrap_succ hi hs]
    exact ev_neg hc' hy
  case h2 =>
    intro i hi _ hc
    have hc' := of_decide_eq_false hc
    refine Ev.step (fun k => rfl) (ev_pos (by omega) (ev_pos (by omega) ?_))
    exact ev_pos (by omega) (ev_now rfl)
  refine ev_cast h ?_
  unfold hasB
  cases (List.range s.size).all (fun i => decide (bt s i ≠ c)) <;> rfl
theorem bt_get (s : ByteArray) (i : Nat) (h : i < s.data.toList.length) : bt s i = ((s.data.toList[i]).toNat : Int) := by
  have h' : i < s.size := by rw [Array.length_toList] at h; exact h
  unfold bt
  rw [dif_pos (by rw [Int.toNat_natCast]; exact h')]
  simp only [Int.toNat_natCast]
  rfl
theorem contains_at (s : ByteArray) : strings_Contains.f s (⟨#[64]⟩ : ByteArray) = some (hasB s 64) := by
  show some (decide (0 ≤ Lib.indexByte s.data.toList 64)) = some (hasB s 64)
  rw [← Lib.contains_iff_indexByte]
  congr 1
  have hl : s.data.toList.length = s.size := by rw [Array.length_toList]; rfl
  rw [Bool.eq_iff_iff, List.contains_iff_mem]
  unfold hasB
  rw [Bool.not_eq_true', Bool.eq_false_iff, Ne, all_range]
  constructor
  · intro hm hall
    obtain ⟨i, hi, e⟩ := List.getElem_of_mem hm
    have := of_decide_eq_true (hall i (by omega))
    rw [bt_get s i hi, e] at this
    exact this rfl
  · intro hn
    refine Classical.byContradiction fun hm => hn fun i hi => decide_eq_true fun e => hm ?_
    have hi' : i < s.data.toList.length := by omega
    rw [bt_get s i hi'] at e
    have e2 : s.data.toList[i] = 64 := UInt8.toNat_inj.1 (by have : (s.data.toList[i]).toNat = 64 := by omega
                                                             rw [this]; rfl)
    exact e2 ▸ List.getElem_mem hi'
theorem empty_iff (s : ByteArray) : s.data.toList = [] ↔ s.size = 0 := by
  have hl : s.data.toList.length = s.size := by rw [Array.length_toList]; rfl
  rw [← hl, List.length_eq_zero_iff]
def cmdB (s : ByteArray) : Bool := decide (1 ≤ (s.size : Int) ∧ (s.size : Int) ≤ 160) && logB s && !(hasB s 64)
def recB (s r : ByteArray) : Bool := cmdB s && (logB r && decide ((r.size : Int) ≤ 200))
theorem isCommand_ev (s : ByteArray) (hs : s.size ≤ 9223372036854775807) : Ev (fun k => impl_isCommand.f k s) (cmdB s) := by
  unfold impl_isCommand.f cmdB
  refine ev_bind0 (within_eq _ _ _) ?_
  refine ev_ite (fun c => ?_) (fun c => ev_now ?_)
  case refine_2 => rw [Bool.not_eq_true] at c; rw [c]; rfl
  rw [c]
  refine Ev.bind (isLogText_ev s hs) ?_
  refine ev_ite (fun c => ?_) (fun c => ev_now ?_)
  case refine_2 => rw [Bool.not_eq_true] at c; rw [c]; rfl
  rw [c]
  exact ev_bind0 (contains_at s) (ev_now (by simp))
theorem implRec_ev (s r : ByteArray) (hs : s.size ≤ 9223372036854775807) (hr : r.size ≤ 9223372036854775807) : Ev (fun k => impl_IsValidLogRecord.f k s r) (recB s r) := by
  unfold impl_IsValidLogRecord.f recB
  refine Ev.bind (isCommand_ev s hs) ?_
  refine ev_ite (fun c => ?_) (fun c => ev_now ?_)
  case refine_2 => rw [Bool.not_eq_true] at c; rw [c]; rfl
  rw [c]
  refine ev_ite (fun c => ?_) (fun c => ev_now ?_)
  case refine_2 => rw [decide_eq_false c]; simp
  rw [decide_eq_true c]
  exact Ev.bind (isLogText_ev r hr) (ev_now (by simp))
theorem goodRec_ev (s r : ByteArray) (hs : s.size ≤ 9223372036854775807) (hr : r.size ≤ 9223372036854775807) : Ev (fun k => spec_l27Good.f k s r) (recB s r) := by
  unfold spec_l27Good.f recB cmdB
  refine ev_ite (fun c => ev_now ?_) (fun c => ?_)
  case refine_1 =>
    have c : s.size = 0 := (empty_iff s).1 (by rw [← ByteArray.toList_eq]; exact c)
    rw [decide_eq_false (by omega)]; rfl
  have c : 1 ≤ s.size := by
    rcases Nat.eq_zero_or_pos s.size with e | e
    · exact absurd (by rw [ByteArray.toList_eq]; exact (empty_iff s).2 e) c
    · exact e
  refine Ev.bind (l27Plain_ev s hs 160) ?_
  refine ev_ite (fun c => ?_) (fun c => ev_now ?_)
  case refine_2 =>
    have e : decide (1 ≤ (s.size : Int) ∧ (s.size : Int) ≤ 160) = decide ((s.size : Int) ≤ 160) := by rw [decide_eq_decide]; omega
    rw [e]
    revert c
    cases logB s <;> cases decide ((s.size : Int) ≤ 160) <;> simp
  rw [Bool.and_eq_true] at c
  have c2 := of_decide_eq_true c.2
  rw [c.1, decide_eq_true (show 1 ≤ (s.size : Int) ∧ (s.size : Int) ≤ 160 by omega)]
  refine Ev.bind (l1Stands_ev s hs 64) ?_
  refine ev_ite (fun c => ev_now ?_) (fun c => ?_)
  case refine_1 => rw [c]; rfl
  rw [Bool.not_eq_true] at c; rw [c]
  exact Ev.bind (l27Plain_ev r hr 200) (ev_now (by simp))
end Go.Proofs.YtblgaejagebeoaaDoor.X
set_option linter.unusedVariables false
set_option linter.unusedSimpArgs false
namespace Go.Proofs.YtblgaejagebeoaaDoor.X
open Go.RowKit Go.Proofs.YtblgaejagebeoaaDoorW.PrintWords Go.Proofs.YtblgaejagebeoaaDoor.E
theorem Itoa_eq (n : Int) (h0 : -9223372036854775808 ≤ n) (h1 : n ≤ 9223372036854775807) : strconv_Itoa.f n = some (numB n) := by unfold strconv_Itoa.f; rw [if_pos ⟨h0, h1⟩]; rfl
def sumStep (s : ByteArray) (h : Int) (i : Nat) : Int := Int.tmod (wrap64 ((wrap64 ((wrap64 (41 * h)) + (wrap64 (bt s i)))) + 1)) 999979
def sumB (s : ByteArray) : Int := (List.range s.size).foldl (sumStep s) 7
theorem sumStep_in (s : ByteArray) (h : Int) (i : Nat) (h0 : 0 ≤ h ∧ h < 999979) : 0 ≤ sumStep s h i ∧ sumStep s h i < 999979 := by
  have hb := bt_range s i
  have e1 : wrap64 (41 * h) = 41 * h := wrap_id (by omega) (by omega)
  have e2 : wrap64 (bt s i) = bt s i := wrap_id (by omega) (by omega)
  have e3 : wrap64 (41 * h + bt s i) = 41 * h + bt s i := wrap_id (by omega) (by omega)
  have e4 : wrap64 (41 * h + bt s i + 1) = 41 * h + bt s i + 1 := wrap_id (by omega) (by omega)
  unfold sumStep
  rw [e1, e2, e3, e4, Int.tmod_eq_emod_of_nonneg (by omega)]
  omega
theorem fold_in (s : ByteArray) : ∀ (l : List Nat) (h : Int), 0 ≤ h ∧ h < 999979 → 0 ≤ l.foldl (sumStep s) h ∧ l.foldl (sumStep s) h < 999979
  | [], h, hh => hh
  | i :: l, h, hh => fold_in s l _ (sumStep_in s h i hh)
theorem sumB_in (s : ByteArray) : 0 ≤ sumB s ∧ sumB s < 999979 := fold_in s _ 7 (by omega)
theorem implSum_ev (s : ByteArray) (hs : s.size ≤ 9223372036854775807) : Ev (fun k => impl_checksum.f k s) (sumB s) := by
  have h := ev_scan0 (L := fun k (h : Int) i => impl_checksum.l0 k s h (s.size : Int) i) (G := fun h i (r : List Nat) => r.foldl (sumStep s) h) (fun _ _ _ => True) (List.range s.size) 7 trivial ?h1 ?h2
  case h1 =>
    intro h _
    rw [List.length_range]
    exact Ev.step (fun k => rfl) (ev_neg (by omega) (ev_now rfl))
  case h2 =>
    intro h i x r _ hi hd hg hr
    rw [List.length_range] at hi
    obtain rfl : x = i := by rw [← hg 0, List.getD_eq_getElem?_getD, List.getElem?_range hi]; rfl
    refine Ev.step (fun k => rfl) (ev_pos (by omega) (ev_pos (by omega) (ev_pos (by omega) ?_)))
    rw [wrap_succ hi hs]
    exact hr (sumStep s h x) trivial
  exact h
theorem specSum_ev (s : ByteArray) (hs : s.size ≤ 9223372036854775807) : Ev (fun k => spec_l1Sum.f k s) (sumB s) := by
  have h := ev_scan0 (L := fun k (h : Int) i => spec_l1Sum.l0 k s h i) (G := fun h i (r : List Nat) => r.foldl (sumStep s) h) (fun _ _ _ => True) (List.range s.size) 7 trivial ?h1 ?h2
  case h1 =>
    intro h _
    rw [List.length_range]
    exact Ev.step (fun k => rfl) (ev_neg (by omega) (ev_now rfl))
  case h2 =>
    intro h i x r _ hi hd hg hr
    rw [List.length_range] at hi
    obtain rfl : x = i := by rw [← hg 0, List.getD_eq_getElem?_getD, List.getElem?_range hi]; rfl
    refine Ev.step (fun k => rfl) (ev_pos (by omega) (ev_pos (by omega) ?_))
    rw [wrap_succ hi hs]
    exact hr (sumStep s h x) trivial
  exact h
theorem szl (c : UInt8) : (⟨#[c]⟩ : ByteArray).size = 1 := rfl
def sealB (x : ByteArray) : ByteArray := (x ++ (⟨#[35]⟩ : ByteArray)) ++ numB (sumB x)
theorem sum_size (x : ByteArray) : (numB (sumB x)).size ≤ 21 := by have := sumB_in x; exact numB_size _ (by omega) (by omega)
theorem l1Seal_ev (x : ByteArray) (hx : x.size ≤ 4611686018427387904) : Ev (fun k => spec_l1Seal.f k x) (sealB x) := by
  unfold spec_l1Seal.f sealB
  have h1 := sumB_in x
  have h2 := sum_size x
  exact ev_pos (by omega) (Ev.bind (specSum_ev x (by omega)) (Ev.bind (l1Num_ev _ (by omega) (by omega)) (ev_pos (by simp only [ByteArray.size_append, szl]; omega) (ev_now rfl))))
theorem contains35 (s : ByteArray) : strings_Contains.f s (⟨#[35]⟩ : ByteArray) = some (s.data.toList.contains 35) := by
  show some (decide (0 ≤ Lib.indexByte s.data.toList 35)) = _
  rw [← Lib.contains_iff_indexByte]
def appB (x : ByteArray) : ByteArray × Bool := if (decide ((x.size : Int) > 4000) || x.data.toList.contains 35) = true then (⟨#[]⟩, false) else if ((sealB x).size : Int) > 4000 then (⟨#[]⟩, false) else (sealB x, true)
theorem appendChecksum_ev (x : ByteArray) (hx : x.size ≤ 4611686018427387904) : Ev (fun k => impl_AppendChecksum.f k x) (appB x) := by
  have stop : ∀ b : Bool, b = (decide ((x.size : Int) > 4000) || x.data.toList.contains 35) → Ev (fun k => impl_AppendChecksum.j0 k x b) (appB x) := by
    intro b hb
    refine Ev.step (fun k => rfl) (ev_ite (fun c => ev_now ?_) (fun c => ?_))
    · unfold appB; rw [← hb, if_pos c]
    unfold appB
    rw [← hb, if_neg c]
    have h1 := sumB_in x
    have h2 := sum_size x
    refine ev_pos (by omega) (Ev.bind (implSum_ev x (by omega)) (ev_bind0 (Itoa_eq _ (by omega) (by omega)) (ev_pos (by simp only [ByteArray.size_append, szl]; omega) ?_)))
    refine ev_ite (fun c => ev_now ?_) (fun c => ev_now ?_)
    · exact (if_pos c).symm
    · exact (if_neg c).symm
  unfold impl_AppendChecksum.f
  refine ev_ite (fun c => stop _ ?_) (fun c => ?_)
  · rw [decide_eq_true c]; rfl
  · refine ev_bind0 (contains35 x) (stop _ ?_)
    rw [decide_eq_false c]; rfl
def lineB (k : Int) (s r : ByteArray) : ByteArray := (((numB k ++ (⟨#[32]⟩ : ByteArray)) ++ s) ++ (⟨#[64]⟩ : ByteArray)) ++ r
theorem num_no35 (k : Int) (h0 : 0 ≤ k) (h1 : k ≤ 59) : (35 : UInt8) ∉ (numB k).data.toList := by
  have d10 : ∀ i : Fin 10, (35 : UInt8) ≠ UInt8.ofNat (48 + i.val) := by decide
  unfold numB
  obtain ⟨u, rfl⟩ : ∃ u : Nat, k = u := ⟨k.toNat, by omega⟩
  rw [Lib.itoa, if_neg (by omega), Int.toNat_natCast]
  by_cases hu : u < 10
  · rw [Lib.decDigits_one hu]
    simpa using d10 ⟨u, hu⟩
  · rw [Lib.decDigits_two hu (by omega)]
    have a := d10 ⟨u / 10, by omega⟩
    have b := d10 ⟨u % 10, by omega⟩
    intro hm
    have hm : (35 : UInt8) ∈ [UInt8.ofNat (48 + u / 10), UInt8.ofNat (48 + u % 10)] := hm
    rcases List.mem_cons.1 hm with h | h
    · exact a h
    · exact b (List.mem_singleton.1 h)
theorem log_no35 (s : ByteArray) (h : logB s = true) : (35 : UInt8) ∉ s.data.toList := by
  intro hm
  obtain ⟨i, hi, e⟩ := List.getElem_of_mem hm
  have hl : s.data.toList.length = s.size := by rw [Array.length_toList]; rfl
  have := all_range.1 h i (by omega)
  simp only [logAt, decide_eq_true_eq] at this
  rw [bt_get s i hi, e] at this
  exact this.2.2 rfl
theorem line_no35 (k : Int) (s r : ByteArray) (h0 : 0 ≤ k) (h1 : k ≤ 59) (hs : logB s = true) (hr : logB r = true) : (lineB k s r).data.toList.contains 35 = false := by
  rw [Bool.eq_false_iff, Ne, List.contains_iff_mem]
  unfold lineB
  simp only [ByteArray.data_append, Array.toList_append, List.mem_append]
  have a := num_no35 k h0 h1
  have b := log_no35 s hs
  have c := log_no35 r hr
  rintro ((((h | h) | h) | h) | h)
  · exact a h
  · revert h; decide
  · exact b h
  · revert h; decide
  · exact c h
def encOk (k : Int) (s r : ByteArray) : Bool := decide (0 ≤ k ∧ k ≤ 59) && recB s r
def encE (k : Int) (s r : ByteArray) : ByteArray × Bool := if encOk k s r = true then (sealB (lineB k s r) ++ (⟨#[10]⟩ : ByteArray), true) else (⟨#[]⟩, false)
theorem recB_iff {s r : ByteArray} (h : recB s r = true) : (1 ≤ s.size ∧ s.size ≤ 160) ∧ logB s = true ∧ logB r = true ∧ r.size ≤ 200 := by
  unfold recB cmdB at h
  simp only [Bool.and_eq_true, decide_eq_true_eq] at h
  obtain ⟨⟨⟨h1, h2⟩, _⟩, h3, h4⟩ := h
  exact ⟨by omega, h2, h3, by omega⟩
theorem line_size (k : Int) (s r : ByteArray) (h0 : 0 ≤ k) (h1 : k ≤ 59) (hs : s.size ≤ 160) (hr : r.size ≤ 200) : (lineB k s r).size ≤ 400 := by
  unfold lineB
  have := numB_size k (by omega) (by omega)
  simp only [ByteArray.size_append, szl]
  omega
theorem l27Line_ev (k : Int) (s r : ByteArray) (h0 : 0 ≤ k) (h1 : k ≤ 59) (hs : s.size ≤ 160) (hr : r.size ≤ 200) : Ev (fun q => spec_l27Line.f q k s r) (sealB (lineB k s r) ++ (⟨#[10]⟩ : ByteArray)) := by
  unfold spec_l27Line.f
  have hn := numB_size k (by omega) (by omega)
  have hl := line_size k s r h0 h1 hs hr
  have h2 := sum_size (lineB k s r)
  refine Ev.bind (l1Num_ev k (by omega) (by omega)) (ev_pos (by omega) (ev_pos (by simp only [ByteArray.size_append, szl]; omega) (ev_pos (by simp only [ByteArray.size_append, szl]; omega) (ev_pos (by simp only [ByteArray.size_append, szl]; omega) (Ev.bind (l1Seal_ev (lineB k s r) (by omega)) (ev_pos ?_ (ev_now rfl)))))))
  unfold sealB
  simp only [ByteArray.size_append, szl]
  omega
theorem app_line (k : Int) (s r : ByteArray) (h0 : 0 ≤ k) (h1 : k ≤ 59) (h : recB s r = true) : appB (lineB k s r) = (sealB (lineB k s r), true) := by
  obtain ⟨hs, hls, hlr, hr⟩ := recB_iff h
  have hl := line_size k s r h0 h1 hs.2 hr
  have h2 := sum_size (lineB k s r)
  unfold appB
  rw [line_no35 k s r h0 h1 hls hlr, decide_eq_false (by omega)]
  rw [if_neg (by simp)]
  refine if_neg ?_
  unfold sealB
  simp only [ByteArray.size_append, szl]
  omega
theorem implEnc_ev (k : Int) (s r : ByteArray) (hs : s.size ≤ 9223372036854775807) (hr : r.size ≤ 9223372036854775807) : Ev (fun q => impl_EncodeRecord.f q k s r) (encE k s r) := by
  have go : ∀ b : Bool, b = !(encOk k s r) → Ev (fun q => impl_EncodeRecord.j0 q k b s r) (encE k s r) := by
    intro b hb
    refine Ev.step (fun k => rfl) (ev_ite (fun c => ev_now ?_) (fun c => ?_))
    · unfold encE; rw [if_neg (by rw [c] at hb; simp at hb; rw [hb]; simp)]
    have hok : encOk k s r = true := by cases h : encOk k s r <;> simp_all
    unfold encE
    rw [if_pos hok]
    unfold encOk at hok
    rw [Bool.and_eq_true] at hok
    obtain ⟨h0, h1⟩ := of_decide_eq_true hok.1
    obtain ⟨hs1, hls, hlr, hr1⟩ := recB_iff hok.2
    have hn := numB_size k (by omega) (by omega)
    have hl := line_size k s r h0 h1 hs1.2 hr1
    have h2 := sum_size (lineB k s r)
    refine ev_bind0 (Itoa_eq k (by omega) (by omega)) (ev_pos (by omega) (ev_pos (by simp only [ByteArray.size_append, szl]; omega) (ev_pos (by simp only [ByteArray.size_append, szl]; omega) (ev_pos (by simp only [ByteArray.size_append, szl]; omega) (Ev.bind (appendChecksum_ev (lineB k s r) (by omega)) ?_)))))
    rw [app_line k s r h0 h1 hok.2]
    refine ev_pos ?_ (ev_now rfl)
    unfold sealB
    simp only [ByteArray.size_append, szl]
    omega
  unfold impl_EncodeRecord.f
  refine ev_bind0 (within_eq _ _ _) ?_
  refine ev_ite (fun c => ?_) (fun c => go _ ?_)
  · refine Ev.bind (implRec_ev s r hs hr) (go _ ?_)
    unfold encOk
    rw [c, Bool.true_and]
  · unfold encOk
    rw [Bool.not_eq_true] at c
    rw [c]; rfl
theorem l27Good_ev (s r : ByteArray) (hs : s.size ≤ 9223372036854775807) (hr : r.size ≤ 9223372036854775807) : Ev (fun k => spec_l27Good.f k s r) (recB s r) := goodRec_ev s r hs hr
theorem specEnc_ev (k : Int) (s r : ByteArray) (hs : s.size ≤ 9223372036854775807) (hr : r.size ≤ 9223372036854775807) : Ev (fun q => spec_EncodeRecord.f q k s r) (encE k s r) := by
  unfold spec_EncodeRecord.f encE encOk
  refine ev_bind0 (l1In_eq _ _ _) ?_
  refine ev_ite (fun c => ?_) (fun c => ev_now ?_)
  · refine Ev.bind (l27Good_ev s r hs hr) ?_
    have c' := of_decide_eq_true c
    refine ev_ite (fun d => ?_) (fun d => ev_now ?_)
    · rw [if_pos (by rw [c, d]; rfl)]
      obtain ⟨hs1, hls, hlr, hr1⟩ := recB_iff d
      exact Ev.bind (l27Line_ev k s r c'.1 c'.2 hs1.2 hr1) (ev_now rfl)
    · rw [if_neg (by rw [c]; simpa using d)]
  · rw [if_neg (by rw [Bool.not_eq_true] at c; rw [c]; simp)]
end Go.Proofs.YtblgaejagebeoaaDoor.X
set_option linter.unusedVariables false
set_option linter.unusedSimpArgs false
namespace Go.Proofs.YtblgaejagebeoaaDoor.X
open Go.RowKit Go.Proofs.YtblgaejagebeoaaDoorW.PrintWords Go.Proofs.YtblgaejagebeoaaDoor.E
theorem l_len (s : ByteArray) : s.data.toList.length = s.size := by rw [Array.length_toList]; rfl
theorem ba_list {a b : ByteArray} (h : a.data.toList = b.data.toList) : a = b := ByteArray.ext (Array.toList_inj.1 h)
theorem ba_app (a b : ByteArray) : (a ++ b).data.toList = a.data.toList ++ b.data.toList := by rw [ByteArray.data_append, Array.toList_append]
theorem ba_cut {a a' b b' : ByteArray} (h : a ++ b = a' ++ b') (hs : a.size = a'.size) : a = a' ∧ b = b' := by
  have h1 := congrArg (fun x : ByteArray => x.data.toList) h
  simp only [ba_app] at h1
  obtain ⟨e1, e2⟩ := List.append_inj h1 (by rw [l_len, l_len, hs])
  exact ⟨ba_list e1, ba_list e2⟩
def one (c : UInt8) : ByteArray := ⟨#[c]⟩
def nob (c : UInt8) (a : ByteArray) : Prop := c ∉ a.data.toList
theorem one_size (c : UInt8) : (one c).size = 1 := rfl
theorem one_list (c : UInt8) : (one c).data.toList = [c] := rfl
def cat (a : ByteArray) (c : UInt8) (b : ByteArray) : ByteArray := (a ++ one c) ++ b
theorem cat_size (a : ByteArray) (c : UInt8) (b : ByteArray) : (cat a c b).size = a.size + 1 + b.size := by unfold cat; rw [ByteArray.size_append, ByteArray.size_append, one_size]
theorem cat_list (a : ByteArray) (c : UInt8) (b : ByteArray) : (cat a c b).data.toList = a.data.toList ++ c :: b.data.toList := by unfold cat; rw [ba_app, ba_app, one_list, List.append_assoc]; rfl
theorem split_or (c : UInt8) (x : ByteArray) : nob c x ∨ ∃ a b, x = cat a c b ∧ nob c a := by
  by_cases h : c ∈ x.data.toList
  · obtain ⟨a, b, e, hn⟩ := List.eq_append_cons_of_mem h
    refine Or.inr ⟨⟨a.toArray⟩, ⟨b.toArray⟩, ba_list ?_, hn⟩
    rw [cat_list, e]
  · exact Or.inl h
theorem idx_l0 : ∀ (l : List UInt8) (c : UInt8), c ∉ l → Lib.indexByte l c = -1
  | [], _, _ => rfl
  | b :: l, c, h => by
    have hb : (b == c) = false := by rw [beq_eq_false_iff_ne]; exact fun e => h (e ▸ List.mem_cons_self ..)
    rw [Lib.indexByte, hb, idx_l0 l c (fun m => h (List.mem_cons_of_mem _ m))]
    rfl
theorem idx_l1 : ∀ (l r : List UInt8) (c : UInt8), c ∉ l → Lib.indexByte (l ++ c :: r) c = (l.length : Int)
  | [], r, c, _ => by simp [Lib.indexByte]
  | b :: l, r, c, h => by
    have hb : (b == c) = false := by rw [beq_eq_false_iff_ne]; exact fun e => h (e ▸ List.mem_cons_self ..)
    rw [List.cons_append, Lib.indexByte, hb, idx_l1 l r c (fun m => h (List.mem_cons_of_mem _ m))]
    have : ((l.length : Int) == -1) = false := by rw [beq_eq_false_iff_ne]; omega
    rw [this]
    simp
theorem idx_no {c : UInt8} {x : ByteArray} (h : nob c x) : Lib.indexByte x.data.toList c = -1 := idx_l0 _ _ h
theorem idx_yes {c : UInt8} {a b : ByteArray} (h : nob c a) : Lib.indexByte (cat a c b).data.toList c = (a.size : Int) := by rw [cat_list, idx_l1 _ _ _ h, l_len]
theorem nob_cat {c d : UInt8} {a b : ByteArray} : nob c (cat a d b) ↔ nob c a ∧ c ≠ d ∧ nob c b := by unfold nob; rw [cat_list, List.mem_append, List.mem_cons]; constructor <;> (intro h; simp_all)
theorem split_uniq {c : UInt8} {a a' b b' : ByteArray} (h : cat a c b = cat a' c b') (ha : nob c a) (ha' : nob c a') : a = a' ∧ b = b' := by
  have h1 := idx_yes (b := b) ha
  rw [h, idx_yes ha'] at h1
  have hs : a.size = a'.size := by omega
  unfold cat at h
  have h2 := ba_cut h (by rw [ByteArray.size_append, ByteArray.size_append, hs])
  exact ⟨(ba_cut h2.1 hs).1, h2.2⟩
theorem not_nob (c : UInt8) (a b : ByteArray) : ¬ nob c (cat a c b) := fun h => (nob_cat.1 h).2.1 rfl
theorem cat_left (a : ByteArray) (c : UInt8) (b : ByteArray) : (cat a c b).extract 0 a.size = a := by unfold cat; rw [ByteArray.append_assoc]; exact ByteArray.extract_append_eq_left rfl
theorem cat_right (a : ByteArray) (c : UInt8) (b : ByteArray) : (cat a c b).extract (a.size + 1) (cat a c b).size = b := by
  rw [cat_size]; unfold cat; exact ByteArray.extract_append_eq_right (by rw [ByteArray.size_append, one_size]) (by rw [ByteArray.size_append, one_size])
theorem bt_no {c : UInt8} {x : ByteArray} (h : nob c x) (i : Nat) (hi : i < x.size) : bt x i ≠ (c.toNat : Int) := by
  have hi' : i < x.data.toList.length := by rw [l_len]; exact hi
  rw [bt_get x i hi']
  intro e
  have e2 : x.data.toList[i] = c := UInt8.toNat_inj.1 (by omega)
  exact h (e2 ▸ List.getElem_mem hi')
theorem bt_left {c : UInt8} {a b : ByteArray} (h : nob c a) (i : Nat) (hi : i < a.size) : bt (cat a c b) i ≠ (c.toNat : Int) := by
  have hl := l_len a
  have hi' : i < (cat a c b).data.toList.length := by rw [l_len, cat_size]; omega
  rw [bt_get _ i hi']
  have hh : (cat a c b).data.toList[i] = a.data.toList[i]'(by omega) := by
    have h1 : (cat a c b).data.toList[i]? = a.data.toList[i]? := by rw [cat_list, List.getElem?_append_left (by omega)]
    rw [List.getElem?_eq_getElem hi', List.getElem?_eq_getElem (by omega)] at h1
    exact Option.some.inj h1
  rw [hh]
  intro e
  have e2 : a.data.toList[i]'(by omega) = c := UInt8.toNat_inj.1 (by omega)
  exact h (e2 ▸ List.getElem_mem _)
theorem bt_at (a : ByteArray) (c : UInt8) (b : ByteArray) : bt (cat a c b) a.size = (c.toNat : Int) := by
  have hl := l_len a
  have hi' : a.size < (cat a c b).data.toList.length := by rw [l_len, cat_size]; omega
  rw [bt_get _ _ hi']
  have hh : (cat a c b).data.toList[a.size] = c := by
    have h1 : (cat a c b).data.toList[a.size]? = some c := by rw [cat_list, List.getElem?_append_right (by omega), hl, Nat.sub_self]; rfl
    rw [List.getElem?_eq_getElem hi'] at h1
    exact Option.some.inj h1
  rw [hh]
theorem split_any (x : ByteArray) (c : Int) (hx : x.size < 8796093022208) : ∀ (n i st : Nat) (out : List ByteArray), x.size - i = n → st ≤ i → i ≤ x.size → out.length ≤ st → ∃ y ys, Ev (fun k => spec_l1Split.l0 k x c out (st : Int) (i : Int)) (out ++ y :: ys) := by
  intro n
  induction n with
  | zero =>
    intro i st out hn hs hi ho
    exact ⟨x.extract ((st : Int)).toNat x.size, [], Ev.step (fun k => rfl) (ev_neg (by omega) (ev_pos (by omega) (ev_pos (by omega) (ev_pos (by omega) (ev_now rfl)))))⟩
  | succ n ih =>
    intro i st out hn hs hi ho
    by_cases hc : bt x i = c
    · obtain ⟨y, ys, h⟩ := ih (i + 1) (i + 1) (out ++ [x.extract ((st : Int)).toNat ((i : Int)).toNat]) (by omega) (Nat.le_refl _) (by omega) (by rw [List.length_append, List.length_singleton]; omega)
      refine ⟨x.extract ((st : Int)).toNat ((i : Int)).toNat, y :: ys, Ev.step (fun k => rfl) (ev_pos (by omega) (ev_pos (by omega) (ev_pos hc (ev_pos (by omega) (ev_pos (by omega) (ev_pos (by omega) (ev_pos (by omega) ?_)))))))⟩
      rw [wrap_succ (show i < x.size by omega) (by omega)]
      rw [List.append_assoc] at h
      exact h
    · obtain ⟨y, ys, h⟩ := ih (i + 1) st out (by omega) (by omega) (by omega) ho
      refine ⟨y, ys, Ev.step (fun k => rfl) (ev_pos (by omega) (ev_pos (by omega) (ev_neg hc ?_)))⟩
      rw [wrap_succ (show i < x.size by omega) (by omega)]
      exact h
theorem split_no {c : UInt8} {x : ByteArray} (h : nob c x) (hx : x.size < 8796093022208) (c' : Int) (hc : c' = (c.toNat : Int)) : Ev (fun k => spec_l1Split.f k x c') [x] := by
  have go : ∀ (n i : Nat), x.size - i = n → i ≤ x.size → Ev (fun k => spec_l1Split.l0 k x c' [] ((0 : Nat) : Int) (i : Int)) [x] := by
    intro n
    induction n with
    | zero =>
      intro i hn hi
      refine Ev.step (fun k => rfl) (ev_neg (by omega) (ev_pos (by omega) (ev_pos (by omega) (ev_pos (by simp) (ev_now ?_)))))
      rw [List.nil_append, Int.toNat_natCast, ByteArray.extract_zero_size]
    | succ n ih =>
      intro i hn hi
      refine Ev.step (fun k => rfl) (ev_pos (by omega) (ev_pos (by omega) (ev_neg (by rw [hc]; exact bt_no h i (by omega)) ?_)))
      rw [wrap_succ (show i < x.size by omega) (by omega)]
      exact ih (i + 1) (by omega) (by omega)
  exact go x.size 0 (by omega) (by omega)
theorem split_yes {c : UInt8} {a b : ByteArray} (h : nob c a) (hx : (cat a c b).size < 8796093022208) (c' : Int) (hc : c' = (c.toNat : Int)) : ∃ y ys, Ev (fun k => spec_l1Split.f k (cat a c b) c') (a :: y :: ys) := by
  have hz := cat_size a c b
  obtain ⟨y, ys, hA⟩ := split_any (cat a c b) c' hx ((cat a c b).size - (a.size + 1)) (a.size + 1) (a.size + 1) [a] rfl (Nat.le_refl _) (by omega) (by simp)
  refine ⟨y, ys, ?_⟩
  have go : ∀ (n i : Nat), a.size - i = n → i ≤ a.size → Ev (fun k => spec_l1Split.l0 k (cat a c b) c' [] ((0 : Nat) : Int) (i : Int)) (a :: y :: ys) := by
    intro n
    induction n with
    | zero =>
      intro i hn hi
      obtain rfl : i = a.size := by omega
      refine Ev.step (fun k => rfl) (ev_pos (by omega) (ev_pos (by omega) (ev_pos (by rw [hc]; exact bt_at a c b) (ev_pos (by omega) (ev_pos (by omega) (ev_pos (by omega) (ev_pos (by simp) ?_)))))))
      rw [wrap_succ (show a.size < (cat a c b).size by omega) (by omega), Int.toNat_natCast, Int.toNat_natCast, cat_left]
      exact hA
    | succ n ih =>
      intro i hn hi
      refine Ev.step (fun k => rfl) (ev_pos (by omega) (ev_pos (by omega) (ev_neg (by rw [hc]; exact bt_left h i (by omega)) ?_)))
      rw [wrap_succ (show i < (cat a c b).size by omega) (by omega)]
      exact ih (i + 1) (by omega) (by omega)
  exact go a.size 0 (by omega) (by omega)
theorem cut_no {c : UInt8} {x : ByteArray} (h : nob c x) : strings_Cut.f x (one c) = some (x, (⟨#[]⟩ : ByteArray), false) := by
  have h0 : stringslite_Index.f x (one c) = some (-1) := by show some (Lib.indexByte x.data.toList c) = _; rw [idx_no h]
  have h1 : stringslite_Cut.f x (one c) = some (x, (⟨#[]⟩ : ByteArray), false) := by unfold stringslite_Cut.f; rw [h0]; rfl
  unfold strings_Cut.f; rw [h1]; rfl
theorem cut_yes {c : UInt8} {a b : ByteArray} (h : nob c a) (hx : (cat a c b).size ≤ 4611686018427387904) : strings_Cut.f (cat a c b) (one c) = some (a, b, true) := by
  have hz := cat_size a c b
  have h0 : stringslite_Index.f (cat a c b) (one c) = some (a.size : Int) := by show some (Lib.indexByte (cat a c b).data.toList c) = _; rw [idx_yes h]
  have hw : wrap64 ((a.size : Int) + ((one c).size : Int)) = ((a.size + 1 : Nat) : Int) := by rw [one_size]; exact wrap_succ (show a.size < (cat a c b).size by omega) (by omega)
  have h1 : stringslite_Cut.f (cat a c b) (one c) = some (a, b, true) := by
    unfold stringslite_Cut.f
    rw [h0, Option.bind_some]
    rw [hw, if_pos (by omega), if_pos (by omega), if_pos (by omega), if_pos (by omega), if_pos (by omega), Int.toNat_natCast, Int.toNat_natCast, cat_left, cat_right]
  unfold strings_Cut.f; rw [h1]; rfl
theorem trim_yes (x : ByteArray) (c : UInt8) (hx : x.size ≤ 4611686018427387904) : strings_TrimSuffix.f (x ++ one c) (one c) = some x := by
  have hz : (x ++ one c).size = x.size + 1 := by rw [ByteArray.size_append]; rfl
  have hw : wrap64 (((x ++ one c).size : Int) - ((one c).size : Int)) = (x.size : Int) := by rw [hz, one_size, wrap_id (by omega) (by omega)]; omega
  have e1 : (x ++ one c).extract x.size (x ++ one c).size = one c := by rw [hz]; exact ByteArray.extract_append_eq_right rfl rfl
  have e2 : (x ++ one c).extract 0 x.size = x := ByteArray.extract_append_eq_left rfl
  have h0 : stringslite_HasSuffix.f (x ++ one c) (one c) = some true := by
    unfold stringslite_HasSuffix.f
    rw [hw, if_pos (by rw [hz, one_size]; omega), if_pos (by omega), if_pos (by omega), Int.toNat_natCast, e1, beq_self_eq_true]
  have h1 : stringslite_TrimSuffix.f (x ++ one c) (one c) = some x := by
    unfold stringslite_TrimSuffix.f
    rw [h0, Option.bind_some]
    rw [hw, if_pos rfl, if_pos (by omega), if_pos (by omega), Int.toNat_natCast, e2]
  unfold strings_TrimSuffix.f; rw [h1]; rfl
end Go.Proofs.YtblgaejagebeoaaDoor.X
set_option linter.unusedVariables false
set_option linter.unusedSimpArgs false
namespace Go.Proofs.YtblgaejagebeoaaDoor.X
open Go.RowKit Go.Proofs.YtblgaejagebeoaaDoorW.PrintWords Go.Proofs.YtblgaejagebeoaaDoor.E
theorem hasB_no (s : ByteArray) (h : hasB s 64 = false) : nob 64 s := by
  have h1 := contains_at s
  have h2 : strings_Contains.f s (⟨#[64]⟩ : ByteArray) = some (decide (0 ≤ Lib.indexByte s.data.toList 64)) := rfl
  rw [h1] at h2
  have h3 := Option.some.inj h2
  rw [← Lib.contains_iff_indexByte, h] at h3
  intro hm
  rw [List.contains_iff_mem.2 hm] at h3
  exact absurd h3 (by simp)
theorem rec_no64 {s r : ByteArray} (h : recB s r = true) : nob 64 s := by
  unfold recB cmdB at h
  simp only [Bool.and_eq_true, Bool.not_eq_true'] at h
  exact hasB_no s h.1.2
theorem num_no {c : UInt8} (hc : c.toNat < 48) (k : Int) (h0 : 0 ≤ k) (h1 : k ≤ 59) : nob c (numB k) := by
  have d : ∀ i : Fin 10, 48 ≤ (UInt8.ofNat (48 + i.val)).toNat := by decide
  have d10 : ∀ i : Fin 10, c ≠ UInt8.ofNat (48 + i.val) := fun i e => by have := d i; rw [← e] at this; omega
  unfold nob numB
  obtain ⟨u, rfl⟩ : ∃ u : Nat, k = u := ⟨k.toNat, by omega⟩
  rw [Lib.itoa, if_neg (by omega), Int.toNat_natCast]
  by_cases hu : u < 10
  · rw [Lib.decDigits_one hu]
    simpa using d10 ⟨u, hu⟩
  · rw [Lib.decDigits_two hu (by omega)]
    have a := d10 ⟨u / 10, by omega⟩
    have b := d10 ⟨u % 10, by omega⟩
    intro hm
    have hm : c ∈ [UInt8.ofNat (48 + u / 10), UInt8.ofNat (48 + u % 10)] := hm
    rcases List.mem_cons.1 hm with h | h
    · exact a h
    · exact b (List.mem_singleton.1 h)
theorem tl_inj {a b : ByteArray} : a.toList = b.toList ↔ a = b := ⟨fun h => ba_list (by rwa [ByteArray.toList_eq, ByteArray.toList_eq] at h), fun h => by rw [h]⟩
def Enc (k : Int) (x c r : ByteArray) : Prop := (0 ≤ k ∧ k ≤ 59) ∧ recB c r = true ∧ sealB (lineB k c r) = x
theorem line_cat (k : Int) (c r : ByteArray) : lineB k c r = cat (numB k) 32 (cat c 64 r) := by unfold lineB cat; simp only [ByteArray.append_assoc]; rfl
theorem line_pre (k : Int) (c r : ByteArray) : lineB k c r = (numB k ++ (⟨#[32]⟩ : ByteArray)) ++ cat c 64 r := by rw [line_cat]; rfl
theorem seal_cat (x : ByteArray) : sealB x = cat x 35 (numB (sumB x)) := rfl
theorem enc_nob {k : Int} {x c r : ByteArray} (h : Enc k x c r) : nob 35 (lineB k c r) := by
  obtain ⟨hs, hls, hlr, hr⟩ := recB_iff h.2.1
  have := line_no35 k c r h.1.1 h.1.2 hls hlr
  intro hm
  rw [List.contains_iff_mem.2 hm] at this
  exact absurd this (by simp)
theorem enc_has {k : Int} {x c r : ByteArray} (h : Enc k x c r) : ¬ nob 35 x := by rw [← h.2.2, seal_cat]; exact not_nob _ _ _
theorem enc_line {k : Int} {w z c r : ByteArray} (h : Enc k (cat w 35 z) c r) (hw : nob 35 w) : w = lineB k c r := by
  have e := h.2.2
  rw [seal_cat] at e
  exact (split_uniq e (enc_nob h) hw).1.symm
theorem enc_rest {k : Int} {c r a t : ByteArray} (e : lineB k c r = cat a 32 t) (h : nob 32 a) (hk : 0 ≤ k ∧ k ≤ 59) : t = cat c 64 r := by
  rw [line_cat] at e
  exact (split_uniq e (num_no (by decide) k hk.1 hk.2) h).2.symm
theorem enc_uniq {k : Int} {x c r c' r' : ByteArray} (h : Enc k x c r) (h' : Enc k x c' r') : c = c' ∧ r = r' := by
  have e := h.2.2.trans h'.2.2.symm
  rw [seal_cat, seal_cat] at e
  have e1 := (split_uniq e (enc_nob h) (enc_nob h')).1
  rw [line_cat, line_cat] at e1
  have n := num_no (c := 32) (by decide) k h.1.1 h.1.2
  exact split_uniq (split_uniq e1 n n).2 (rec_no64 h.2.1) (rec_no64 h'.2.1)
theorem idx35 (x : ByteArray) : strings_IndexByte.f x 35 = some (Lib.indexByte x.data.toList 35) := rfl
theorem verify_no {x : ByteArray} (h : nob 35 x) : Ev (fun k => impl_VerifyChecksum.f k x) ((⟨#[]⟩ : ByteArray), false) := by
  unfold impl_VerifyChecksum.f
  exact ev_bind0 ((idx35 x).trans (congrArg some (idx_no h))) (ev_pos (by omega) (ev_now rfl))
theorem verify_good {w z : ByteArray} (h : nob 35 w) (hx : (cat w 35 z).size ≤ 4194304) (ha : appB w = (cat w 35 z, true)) : Ev (fun k => impl_VerifyChecksum.f k (cat w 35 z)) (w, true) := by
  have hz := cat_size w 35 z
  unfold impl_VerifyChecksum.f
  refine ev_bind0 ((idx35 _).trans (congrArg some (idx_yes h))) (ev_neg (by omega) (ev_pos (by omega) (ev_pos (by omega) ?_)))
  rw [Int.toNat_natCast, cat_left]
  refine Ev.bind (appendChecksum_ev w (by omega)) ?_
  rw [ha]
  exact ev_pos rfl (ev_pos rfl (ev_now rfl))
theorem verify_bad {w z : ByteArray} (h : nob 35 w) (hx : (cat w 35 z).size ≤ 4194304) (ha : appB w ≠ (cat w 35 z, true)) : Ev (fun k => impl_VerifyChecksum.f k (cat w 35 z)) ((⟨#[]⟩ : ByteArray), false) := by
  have hz := cat_size w 35 z
  unfold impl_VerifyChecksum.f
  refine ev_bind0 ((idx35 _).trans (congrArg some (idx_yes h))) (ev_neg (by omega) (ev_pos (by omega) (ev_pos (by omega) ?_)))
  rw [Int.toNat_natCast, cat_left]
  refine Ev.bind (appendChecksum_ev w (by omega)) ?_
  exact ev_ite (fun c => ev_neg (fun e => ha (Prod.ext (tl_inj.1 e) c)) (ev_now rfl)) (fun _ => ev_now rfl)
theorem nob_nil (c : UInt8) : nob c (⟨#[]⟩ : ByteArray) := fun h => nomatch h
theorem dec_ev (k : Int) (x : ByteArray) (hx : x.size ≤ 4194304) : (∃ c r, Enc k x c r ∧ Ev (fun q => impl_decoded.f q k (x ++ one 10)) (c, r, true)) ∨ ((∀ c r, ¬ Enc k x c r) ∧ Ev (fun q => impl_decoded.f q k (x ++ one 10)) ((⟨#[]⟩ : ByteArray), (⟨#[]⟩ : ByteArray), false)) := by
  have htr := trim_yes x 10 (by omega)
  rcases split_or 35 x with h | ⟨w, z, rfl, hw⟩
  · refine Or.inr ⟨fun c r e => enc_has e h, ?_⟩
    unfold impl_decoded.f
    exact ev_bind0 htr (Ev.bind (verify_no h) (ev_neg (by simp) (ev_now rfl)))
  have hz := cat_size w 35 z
  by_cases ha : appB w = (cat w 35 z, true)
  case neg =>
    refine Or.inr ⟨fun c r e => ha ?_, ?_⟩
    · have h1 := app_line k c r e.1.1 e.1.2 e.2.1
      have h2 := e.2.2
      rw [← enc_line e hw] at h1 h2
      rw [h1, h2]
    · unfold impl_decoded.f
      exact ev_bind0 htr (Ev.bind (verify_bad hw hx ha) (ev_neg (by simp) (ev_now rfl)))
  obtain ⟨p, q, hp, hq, hcs, hrs, hun⟩ : ∃ p q : ByteArray × ByteArray × Bool, strings_Cut.f w (⟨#[32]⟩ : ByteArray) = some p ∧ strings_Cut.f p.2.1 (⟨#[64]⟩ : ByteArray) = some q ∧ q.1.size ≤ w.size ∧ q.2.1.size ≤ w.size ∧ ∀ c' r', lineB k c' r' = w → nob 64 c' → (0 ≤ k ∧ k ≤ 59) → c' = q.1 ∧ r' = q.2.1 := by
    rcases split_or 32 w with h32 | ⟨a, t, rfl, h32⟩
    · refine ⟨_, _, cut_no h32, cut_no (c := 64) (nob_nil 64), Nat.zero_le _, Nat.zero_le _, fun c' r' e _ _ => absurd h32 ?_⟩
      rw [← e, line_cat]; exact not_nob _ _ _
    · have hz2 := cat_size a 32 t
      rcases split_or 64 t with h64 | ⟨c, r, rfl, h64⟩
      · refine ⟨_, _, cut_yes h32 (by omega), cut_no (c := 64) h64, by show t.size ≤ _; omega, Nat.zero_le _, fun c' r' e _ hk => absurd h64 ?_⟩
        rw [enc_rest e h32 hk]; exact not_nob _ _ _
      · have hz3 := cat_size c 64 r
        refine ⟨_, _, cut_yes h32 (by omega), cut_yes (c := 64) h64 (by show (cat c 64 r).size ≤ _; omega), by show c.size ≤ _; omega, by show r.size ≤ _; omega, fun c' r' e h' hk => ?_⟩
        exact split_uniq (enc_rest e h32 hk).symm h' h64
  have henc := implEnc_ev k q.1 q.2.1 (by omega) (by omega)
  by_cases E : Enc k (cat w 35 z) q.1 q.2.1
  · refine Or.inl ⟨q.1, q.2.1, E, ?_⟩
    unfold impl_decoded.f
    refine ev_bind0 htr (Ev.bind (verify_good hw hx ha) (ev_pos rfl (ev_bind0 hp (ev_bind0 hq (Ev.bind henc ?_)))))
    have hok : encOk k q.1 q.2.1 = true := by unfold encOk; rw [decide_eq_true E.1, E.2.1]; rfl
    unfold encE
    rw [if_pos hok, E.2.2]
    exact ev_pos rfl (ev_pos rfl (ev_now rfl))
  · refine Or.inr ⟨fun c' r' e' => E ?_, ?_⟩
    · obtain ⟨e1, e2⟩ := hun c' r' (enc_line e' hw).symm (rec_no64 e'.2.1) e'.1
      rw [← e1, ← e2]; exact e'
    · unfold impl_decoded.f
      refine ev_bind0 htr (Ev.bind (verify_good hw hx ha) (ev_pos rfl (ev_bind0 hp (ev_bind0 hq (Ev.bind henc ?_)))))
      unfold encE
      by_cases hok : encOk k q.1 q.2.1 = true
      · rw [if_pos hok]
        refine ev_pos rfl (ev_neg (fun e => E ?_) (ev_now rfl))
        unfold encOk at hok
        rw [Bool.and_eq_true] at hok
        exact ⟨of_decide_eq_true hok.1, hok.2, (ba_cut (tl_inj.1 e) (by have := congrArg ByteArray.size (tl_inj.1 e); rw [ByteArray.size_append, ByteArray.size_append, one_size, szl] at this; omega)).1⟩
      · rw [if_neg hok]
        exact ev_neg (by simp) (ev_now rfl)
theorem ba_halves (t : ByteArray) (n : Nat) (hn : n ≤ t.size) : t = t.extract 0 n ++ t.extract n t.size := by
  apply ba_list
  have hl := l_len t
  rw [ba_app, ByteArray.data_extract, ByteArray.data_extract, Array.toList_extract, Array.toList_extract, List.extract_eq_take_drop, List.extract_eq_take_drop, List.drop_zero, Nat.sub_zero, List.take_of_length_le (l := List.drop n _) (by rw [List.length_drop]; omega), List.take_append_drop]
theorem read_ev (k : Int) (hk : 0 ≤ k ∧ k ≤ 59) (x : ByteArray) (hx : x.size ≤ 4194304) : (∃ c r, Enc k x c r ∧ Ev (fun q => spec_l27Read.f q x k) (c, r, true)) ∨ ((∀ c r, ¬ Enc k x c r) ∧ ∃ c r, Ev (fun q => spec_l27Read.f q x k) (c, r, false)) := by
  have hn := numB_size k (by omega) (by omega)
  obtain ⟨t, ts, hsp, hts, hE⟩ : ∃ t ts, Ev (fun q => spec_l1Split.f q x 35) (t :: ts) ∧ t.size ≤ x.size ∧ ∀ c r, Enc k x c r → t = lineB k c r := by
    rcases split_or 35 x with h | ⟨w, z, rfl, hw⟩
    · exact ⟨x, [], split_no h (by omega) 35 rfl, Nat.le_refl _, fun c r e => absurd h (enc_has e)⟩
    · obtain ⟨y, ys, hs⟩ := split_yes (b := z) hw (by omega) 35 rfl
      exact ⟨w, y :: ys, hs, by rw [cat_size]; omega, fun c r e => enc_line e hw⟩
  have hrd : rdOf ByteArray.empty (t :: ts) 0 = t := rfl
  have hah : (numB k ++ (⟨#[32]⟩ : ByteArray)).size = (numB k).size + 1 := by rw [ByteArray.size_append]; rfl
  have open_ : ∀ {r : ByteArray × ByteArray × Bool}, (((t.size : Int) < ((numB k ++ (⟨#[32]⟩ : ByteArray)).size : Int)) → Ev (fun q => spec_l27Read.j0 q x k (numB k ++ (⟨#[32]⟩ : ByteArray)) t true) r) → (¬ ((t.size : Int) < ((numB k ++ (⟨#[32]⟩ : ByteArray)).size : Int)) → Ev (fun q => spec_l27Read.j0 q x k (numB k ++ (⟨#[32]⟩ : ByteArray)) t ((t.extract 0 (numB k ++ (⟨#[32]⟩ : ByteArray)).size).toList != (numB k ++ (⟨#[32]⟩ : ByteArray)).toList)) r) → Ev (fun q => spec_l27Read.f q x k) r := by
    intro r h1 h2
    unfold spec_l27Read.f
    refine Ev.bind (l1Num_ev k (by omega) (by omega)) (ev_pos (by omega) (Ev.bind hsp (ev_pos (by simp) ?_)))
    rw [hrd]
    exact ev_ite h1 (fun c => ev_pos (by omega) (ev_pos (by omega) (h2 c)))
  by_cases hp : ∃ rest, t = (numB k ++ (⟨#[32]⟩ : ByteArray)) ++ rest
  case neg =>
    refine Or.inr ⟨fun c r e => hp ⟨cat c 64 r, by rw [hE c r e, line_pre]⟩, (⟨#[]⟩ : ByteArray), (⟨#[]⟩ : ByteArray), open_ (fun _ => Ev.step (fun k => rfl) (ev_now rfl)) (fun c => ?_)⟩
    refine Ev.step (fun k => rfl) (ev_pos ?_ (ev_now rfl))
    rw [bne_iff_ne]
    intro e
    refine hp ⟨t.extract (numB k ++ (⟨#[32]⟩ : ByteArray)).size t.size, ?_⟩
    conv => lhs; rw [ba_halves t (numB k ++ (⟨#[32]⟩ : ByteArray)).size (by omega)]
    rw [tl_inj.1 e]
  obtain ⟨rest, ht⟩ := hp
  have htz : t.size = (numB k ++ (⟨#[32]⟩ : ByteArray)).size + rest.size := by rw [ht, ByteArray.size_append]
  have e0 : t.extract 0 (numB k ++ (⟨#[32]⟩ : ByteArray)).size = numB k ++ (⟨#[32]⟩ : ByteArray) := by rw [ht]; exact ByteArray.extract_append_eq_left rfl
  have e1 : t.extract (numB k ++ (⟨#[32]⟩ : ByteArray)).size t.size = rest := by rw [htz, ht]; exact ByteArray.extract_append_eq_right rfl rfl
  have go : ∀ {r : ByteArray × ByteArray × Bool}, (∀ b, b = false → Ev (fun q => spec_l27Read.j0 q x k (numB k ++ (⟨#[32]⟩ : ByteArray)) t b) r) → Ev (fun q => spec_l27Read.f q x k) r := by
    intro r h
    refine open_ (fun c => absurd c (by omega)) (fun c => h _ ?_)
    rw [e0, bne_self_eq_false]
  have hrest : ∀ c r, Enc k x c r → rest = cat c 64 r := by
    intro c r e
    have h1 := hE c r e
    rw [ht, line_pre] at h1
    exact (ba_cut h1 rfl).2
  rcases split_or 64 rest with h64 | ⟨c, r, hc, h64⟩
  · refine Or.inr ⟨fun c r e => not_nob 64 c r (hrest c r e ▸ h64), (⟨#[]⟩ : ByteArray), (⟨#[]⟩ : ByteArray), go (fun bb hbb => ?_)⟩
    refine Ev.step (fun k => rfl) (ev_neg (by rw [hbb]; simp) (ev_pos (by omega) (ev_pos (by omega) ?_)))
    rw [e1]
    exact Ev.bind (split_no h64 (by omega) 64 rfl) (ev_pos (by simp) (ev_pos rfl (ev_now rfl)))
  have hcz := cat_size c 64 r
  rw [← hc] at hcz
  obtain ⟨y, ys, hs⟩ := split_yes (b := r) h64 (by rw [← hc]; omega) 64 rfl
  rw [← hc] at hs
  have hw : wrap64 ((c.size : Int) + 1) = ((c.size + 1 : Nat) : Int) := wrap_succ (show c.size < rest.size by omega) (by omega)
  have e2 : rest.extract (c.size + 1) rest.size = r := by rw [hc]; exact cat_right c 64 r
  have hrd2 : rdOf ByteArray.empty (c :: y :: ys) 0 = c := rfl
  have hgood := l27Good_ev c r (by omega) (by omega)
  have go2 : ∀ {o : ByteArray × ByteArray × Bool}, (recB c r = true → Ev (fun q => (spec_l27Line.f q k c r).bind fun t113 => if x.size + 1 ≤ 9223372036854775807 then some (c, r, t113.toList == (x ++ (⟨#[10]⟩ : ByteArray)).toList) else none) o) → (¬ recB c r = true → o = (c, r, false)) → Ev (fun q => spec_l27Read.f q x k) o := by
    intro o h1 h2
    refine go (fun bb hbb => Ev.step (fun k => rfl) (ev_neg (by rw [hbb]; simp) (ev_pos (by omega) (ev_pos (by omega) ?_))))
    rw [e1]
    refine Ev.bind hs ?_
    rw [hrd2, hw, Int.toNat_natCast, e2]
    refine ev_pos (by rw [List.length_cons]; omega) (ev_neg (by omega) (ev_pos (by omega) (ev_pos (by omega) (Ev.bind hgood (ev_ite h1 (fun c => ev_now (h2 c).symm))))))
  by_cases E : Enc k x c r
  · refine Or.inl ⟨c, r, E, go2 (fun h => ?_) (fun h => absurd E.2.1 h)⟩
    obtain ⟨hs1, hls, hlr, hr1⟩ := recB_iff h
    refine Ev.bind (l27Line_ev k c r hk.1 hk.2 hs1.2 hr1) (ev_pos (by omega) (ev_now ?_))
    rw [E.2.2, beq_self_eq_true]
  · refine Or.inr ⟨fun c' r' e' => E ?_, c, r, go2 (fun h => ?_) (fun _ => rfl)⟩
    · have h1 := hrest c' r' e'
      rw [hc] at h1
      obtain ⟨rfl, rfl⟩ := split_uniq h1 h64 (rec_no64 e'.2.1)
      exact e'
    · obtain ⟨hs1, hls, hlr, hr1⟩ := recB_iff h
      refine Ev.bind (l27Line_ev k c r hk.1 hk.2 hs1.2 hr1) (ev_pos (by omega) (ev_now ?_))
      have : ((sealB (lineB k c r) ++ (⟨#[10]⟩ : ByteArray)).toList == (x ++ (⟨#[10]⟩ : ByteArray)).toList) = false := by
        rw [beq_eq_false_iff_ne]
        intro e
        exact E ⟨hk, h, (ba_cut (tl_inj.1 e) (by have := congrArg ByteArray.size (tl_inj.1 e); rw [ByteArray.size_append, ByteArray.size_append, szl] at this; omega)).1⟩
      rw [this]
end Go.Proofs.YtblgaejagebeoaaDoor.X
set_option linter.unusedVariables false
set_option linter.unusedSimpArgs false
namespace Go.Proofs.YtblgaejagebeoaaDoor.X
open Go.RowKit Go.Proofs.YtblgaejagebeoaaDoorW.PrintWords Go.Proofs.YtblgaejagebeoaaDoor.E
def Stop (k : Nat) (t : ByteArray) : Prop := ∀ a b, t = cat a 10 b → nob 10 a → ∀ c r, ¬ Enc (k : Int) a c r
def Parse : Nat → ByteArray → List S27 → ByteArray → Prop
  | k, s, [], t => s = t ∧ Stop k t
  | k, s, e :: L, t => ∃ a b, s = cat a 10 b ∧ nob 10 a ∧ Enc (k : Int) a e.f0 e.f1 ∧ Parse (k + 1) b L t
theorem parse_ex : ∀ (n : Nat) (s : ByteArray) (k : Nat), s.size ≤ n → ∃ L t, Parse k s L t := by
  intro n
  induction n with
  | zero =>
    intro s k hs
    refine ⟨[], s, rfl, fun a b e _ => ?_⟩
    rw [e, cat_size] at hs; omega
  | succ n ih =>
    intro s k hs
    rcases split_or 10 s with h | ⟨a, b, rfl, ha⟩
    · exact ⟨[], s, rfl, fun a b e _ => absurd h (by rw [e]; exact not_nob _ _ _)⟩
    by_cases hE : ∃ c r, Enc (k : Int) a c r
    · obtain ⟨c, r, hE⟩ := hE
      rw [cat_size] at hs
      obtain ⟨L, t, h⟩ := ih b (k + 1) (by omega)
      exact ⟨⟨c, r⟩ :: L, t, a, b, rfl, ha, hE, h⟩
    · refine ⟨[], cat a 10 b, rfl, fun a' b' e ha' c r h => hE ⟨c, r, ?_⟩⟩
      rw [(split_uniq e ha ha').1]; exact h
theorem parse_uniq : ∀ (L L' : List S27) (k : Nat) (s t t' : ByteArray), Parse k s L t → Parse k s L' t' → L = L' ∧ t = t'
  | [], [], k, s, t, t', h, h' => ⟨rfl, h.1.symm.trans h'.1⟩
  | [], e :: L', k, s, t, t', h, h' => by
    obtain ⟨a, b, e1, e2, e3, _⟩ := h'
    exact absurd e3 (h.2 a b (h.1.symm.trans e1) e2 _ _)
  | e :: L, [], k, s, t, t', h, h' => by
    obtain ⟨a, b, e1, e2, e3, _⟩ := h
    exact absurd e3 (h'.2 a b (h'.1.symm.trans e1) e2 _ _)
  | e :: L, e' :: L', k, s, t, t', h, h' => by
    obtain ⟨a, b, e1, e2, e3, e4⟩ := h
    obtain ⟨a', b', f1, f2, f3, f4⟩ := h'
    obtain ⟨rfl, rfl⟩ := split_uniq (e1.symm.trans f1) e2 f2
    obtain ⟨g1, g2⟩ := enc_uniq e3 f3
    obtain ⟨rfl, rfl⟩ := parse_uniq L L' (k + 1) b t t' e4 f4
    obtain ⟨x0, x1⟩ := e
    obtain ⟨y0, y1⟩ := e'
    obtain rfl : x0 = y0 := g1
    obtain rfl : x1 = y1 := g2
    exact ⟨rfl, rfl⟩
def lsz (k : Nat) (e : S27) : Nat := (sealB (lineB (k : Int) e.f0 e.f1)).size + 1
def sizeL : Nat → List S27 → Nat
  | _, [] => 0
  | k, e :: L => lsz k e + sizeL (k + 1) L
def endsL : Nat → Nat → List S27 → List Int
  | _, _, [] => []
  | k, p, e :: L => ((p + lsz k e : Nat) : Int) :: endsL (k + 1) (p + lsz k e) L
theorem enc_lsz {k : Nat} {a : ByteArray} {e : S27} (h : Enc (k : Int) a e.f0 e.f1) : a.size + 1 = lsz k e := by unfold lsz; rw [h.2.2]
theorem enc_small {k : Nat} {a : ByteArray} {e : S27} (h : Enc (k : Int) a e.f0 e.f1) : lsz k e ≤ 425 ∧ k ≤ 59 := by
  obtain ⟨hs, hls, hlr, hr⟩ := recB_iff h.2.1
  have h1 := line_size k e.f0 e.f1 h.1.1 h.1.2 hs.2 hr
  have h2 := sum_size (lineB k e.f0 e.f1)
  have h3 := h.1.2
  refine ⟨?_, by omega⟩
  unfold lsz sealB
  rw [ByteArray.size_append, ByteArray.size_append, szl]
  omega
theorem parse_size : ∀ (L : List S27) (k : Nat) (s t : ByteArray), Parse k s L t → s.size = sizeL k L + t.size
  | [], k, s, t, h => by rw [h.1, sizeL, Nat.zero_add]
  | e :: L, k, s, t, h => by
    obtain ⟨a, b, e1, e2, e3, e4⟩ := h
    have := parse_size L (k + 1) b t e4
    rw [e1, cat_size, sizeL, ← enc_lsz e3]
    omega
theorem parse_len : ∀ (L : List S27) (k : Nat) (s t : ByteArray), Parse k s L t → k ≤ 60 → k + L.length ≤ 60 ∧ sizeL k L ≤ 425 * L.length
  | [], k, s, t, h, hk => ⟨hk, Nat.zero_le _⟩
  | e :: L, k, s, t, h, hk => by
    obtain ⟨a, b, e1, e2, e3, e4⟩ := h
    have h1 := enc_small e3
    have := parse_len L (k + 1) b t e4 (by omega)
    rw [sizeL, List.length_cons]
    omega
theorem ends_len : ∀ (L : List S27) (k p : Nat), (endsL k p L).length = L.length
  | [], _, _ => rfl
  | e :: L, k, p => by rw [endsL, List.length_cons, List.length_cons, ends_len L]
theorem ends_last : ∀ (L : List S27) (k p : Nat), L ≠ [] → (endsL k p L).getD (L.length - 1) 0 = ((p + sizeL k L : Nat) : Int)
  | [], _, _, h => absurd rfl h
  | [e], k, p, _ => rfl
  | e :: e' :: L, k, p, _ => by
    have := ends_last (e' :: L) (k + 1) (p + lsz k e) (by simp)
    rw [endsL, sizeL, ← Nat.add_assoc, ← this]
    rfl
theorem ext_mid (p m b : ByteArray) : ((p ++ m) ++ b).extract p.size (p.size + m.size) = m := by
  apply ba_list
  have h1 := l_len p
  have h2 := l_len m
  rw [ByteArray.data_extract, Array.toList_extract, List.extract_eq_take_drop, ba_app, ba_app, List.append_assoc, List.drop_left' h1, List.take_left' (by omega)]
theorem ext_end (p b : ByteArray) : (p ++ b).extract p.size (p ++ b).size = b := by rw [ByteArray.size_append]; exact ByteArray.extract_append_eq_right rfl rfl
theorem idx10 (x : ByteArray) : strings_IndexByte.f x 10 = some (Lib.indexByte x.data.toList 10) := rfl
theorem impl_loop : ∀ (L : List S27) (k : Nat) (b t : ByteArray), Parse k b L t → ∀ (x pre : ByteArray) (L0 : List S27) (E0 : List Int), x = pre ++ b → x.size ≤ 4194304 → L0.length = k → E0.length ≤ k → k ≤ 60 → Ev (fun q => impl_readRecords.l0 q x L0 E0 (pre.size : Int)) (L0 ++ L, E0 ++ endsL k pre.size L) := by
  have start : ∀ (a b x pre : ByteArray) (L0 : List S27) (E0 : List Int), nob 10 a → x = pre ++ cat a 10 b → x.size ≤ 4194304 → ∀ {o : List S27 × List Int}, Ev (fun q => (impl_decoded.f q (L0.length : Int) (a ++ one 10)).bind fun bt108 => (if bt108.2.2 = true then (if L0.length < 4398046511104 then (if E0.length < 17592186044416 then (impl_readRecords.l0 q x (L0 ++ [(⟨bt108.1, bt108.2.1⟩ : S27)]) (E0 ++ [((pre.size + (a.size + 1) : Nat) : Int)]) ((pre.size + (a.size + 1) : Nat) : Int)) else (none)) else (none)) else (some (L0, E0)))) o → Ev (fun q => impl_readRecords.l0 q x L0 E0 (pre.size : Int)) o := by
    intro a b x pre L0 E0 ha hx hs o h
    have hz : x.size = pre.size + (a.size + 1 + b.size) := by rw [hx, ByteArray.size_append, cat_size]
    have e1 : x.extract pre.size x.size = cat a 10 b := by rw [hx]; exact ext_end _ _
    have w1 : wrap64 ((pre.size : Int) + (a.size : Int)) = (pre.size : Int) + (a.size : Int) := wrap_id (by omega) (by omega)
    have w2 : wrap64 ((pre.size : Int) + (a.size : Int) + 1) = ((pre.size + (a.size + 1) : Nat) : Int) := by rw [wrap_id (by omega) (by omega)]; omega
    have w3 : wrap64 ((a.size : Int) + 1) = ((a.size + 1 : Nat) : Int) := wrap_succ (show a.size < x.size by omega) (by omega)
    have w4 : wrap64 ((pre.size : Int) + ((a.size + 1 : Nat) : Int)) = ((pre.size + (a.size + 1) : Nat) : Int) := by rw [wrap_id (by omega) (by omega)]; omega
    have e2 : x.extract pre.size (pre.size + (a.size + 1)) = a ++ one 10 := by
      rw [hx]
      have := ext_mid pre (a ++ one 10) b
      rw [ByteArray.append_assoc, ByteArray.size_append, one_size] at this
      exact this
    refine Ev.step (fun k => rfl) (ev_pos (by omega) (ev_pos (by omega) ?_))
    rw [Int.toNat_natCast, e1]
    refine ev_bind0 ((idx10 _).trans (congrArg some (idx_yes ha))) (ev_neg (by omega) ?_)
    rw [w1, w2, w3, w4]
    refine ev_pos (by omega) (ev_pos (by omega) ?_)
    rw [Int.toNat_natCast, e2]
    exact h
  intro L
  induction L with
  | nil =>
    intro k b t hP x pre L0 E0 hx hs hL hE hk
    obtain ⟨rfl, hst⟩ := hP
    rw [endsL, List.append_nil, List.append_nil]
    have hz : x.size = pre.size + b.size := by rw [hx, ByteArray.size_append]
    rcases split_or 10 b with h | ⟨a, b', rfl, ha⟩
    · have e1 : x.extract pre.size x.size = b := by rw [hx]; exact ext_end _ _
      refine Ev.step (fun k => rfl) (ev_pos (by omega) (ev_pos (by omega) ?_))
      rw [Int.toNat_natCast, e1]
      exact ev_bind0 ((idx10 _).trans (congrArg some (idx_no h))) (ev_pos (by omega) (ev_now rfl))
    · refine start a b' x pre L0 E0 ha hx hs ?_
      have hz2 := cat_size a 10 b'
      rcases dec_ev (L0.length : Int) a (by omega) with ⟨c, r, he, _⟩ | ⟨_, hv⟩
      · rw [hL] at he
        exact absurd he (hst a b' rfl ha c r)
      · exact Ev.bind hv (ev_neg (by simp) (ev_now rfl))
  | cons e L ih =>
    intro k b t hP x pre L0 E0 hx hs hL hE hk
    obtain ⟨a, b', rfl, ha, he, hP'⟩ := hP
    have hz2 := cat_size a 10 b'
    have hz : x.size = pre.size + (cat a 10 b').size := by rw [hx, ByteArray.size_append]
    have hsm := enc_small he
    refine start a b' x pre L0 E0 ha hx hs ?_
    rcases dec_ev (L0.length : Int) a (by omega) with ⟨c, r, he', hv⟩ | ⟨hno, _⟩
    · rw [hL] at he'
      obtain ⟨rfl, rfl⟩ := enc_uniq he' he
      refine Ev.bind hv (ev_pos rfl (ev_pos (by omega) (ev_pos (by omega) ?_)))
      have h := ih (k + 1) b' t hP' x (pre ++ (a ++ one 10)) (L0 ++ [e]) (E0 ++ [((pre.size + (a.size + 1) : Nat) : Int)]) (by rw [hx]; unfold cat; rw [ByteArray.append_assoc, ByteArray.append_assoc, ByteArray.append_assoc]) hs (by rw [List.length_append, hL]; rfl) (by rw [List.length_append, List.length_singleton]; omega) (by omega)
      have hps : (pre ++ (a ++ one 10)).size = pre.size + (a.size + 1) := by rw [ByteArray.size_append, ByteArray.size_append, one_size]
      rw [hps, List.append_assoc, List.append_assoc] at h
      rw [endsL, ← enc_lsz he]
      exact h
    · rw [hL] at hno
      exact absurd he (hno _ _)
theorem spec_loop : ∀ (L : List S27) (k : Nat) (b t : ByteArray), Parse k b L t → ∀ (x pre : ByteArray) (L0 : List S27), x = pre ++ b → x.size ≤ 4194304 → L0.length = k → k ≤ 60 → Ev (fun q => spec_l27Open.l0 q x L0 (pre.size : Int)) (L0 ++ L, ((pre.size + sizeL k L : Nat) : Int)) := by
  have stop : ∀ (x pre : ByteArray) (L0 : List S27), Ev (fun q => spec_l27Open.j1 q x L0 (pre.size : Int) false) (L0, (pre.size : Int)) := fun x pre L0 => Ev.step (fun k => rfl) (ev_now rfl)
  intro L
  induction L with
  | nil =>
    intro k b t hP x pre L0 hx hs hL hk
    obtain ⟨rfl, hst⟩ := hP
    rw [sizeL, List.append_nil, Nat.add_zero]
    have hz : x.size = pre.size + b.size := by rw [hx, ByteArray.size_append]
    have e1 : x.extract pre.size x.size = b := by rw [hx]; exact ext_end _ _
    refine Ev.step (fun k => rfl) (ev_ite (fun c => ?_) (fun _ => stop _ _ _))
    by_cases h60 : L0.length < 60
    case neg => rw [decide_eq_false (by omega)]; exact stop _ _ _
    refine Ev.step (fun k => rfl) (ev_pos (decide_eq_true (by omega)) (ev_pos (by omega) (ev_pos (by omega) ?_)))
    rw [Int.toNat_natCast, e1]
    rcases split_or 10 b with h | ⟨a, b', rfl, ha⟩
    · obtain ⟨c, r, o, hv⟩ : ∃ c r o, Ev (fun q => spec_l27Read.f q b (L0.length : Int)) (c, r, o) := by
        rcases read_ev (L0.length : Int) (by omega) b (by omega) with ⟨c, r, _, hv⟩ | ⟨_, c, r, hv⟩
        · exact ⟨c, r, _, hv⟩
        · exact ⟨c, r, _, hv⟩
      exact Ev.bind (split_no h (by omega) 10 rfl) (ev_pos (by simp) (Ev.bind hv (ev_pos (by simp) (ev_now rfl))))
    · have hz2 := cat_size a 10 b'
      obtain ⟨y, ys, hsp⟩ := split_yes (b := b') ha (by omega) 10 rfl
      refine Ev.bind hsp (ev_pos (by rw [List.length_cons]; omega) ?_)
      rcases read_ev (L0.length : Int) (by omega) a (by omega) with ⟨c, r, he, _⟩ | ⟨_, c, r, hv⟩
      · rw [hL] at he
        exact absurd he (hst a b' rfl ha c r)
      · exact Ev.bind hv (ev_neg (by rw [List.length_cons, List.length_cons]; omega) (ev_neg (by simp) (ev_now rfl)))
  | cons e L ih =>
    intro k b t hP x pre L0 hx hs hL hk
    obtain ⟨a, b', rfl, ha, he, hP'⟩ := hP
    have hz2 := cat_size a 10 b'
    have hz : x.size = pre.size + (cat a 10 b').size := by rw [hx, ByteArray.size_append]
    have e1 : x.extract pre.size x.size = cat a 10 b' := by rw [hx]; exact ext_end _ _
    have hsm := enc_small he
    have w1 : wrap64 ((pre.size : Int) + (a.size : Int)) = (pre.size : Int) + (a.size : Int) := wrap_id (by omega) (by omega)
    have w2 : wrap64 ((pre.size : Int) + (a.size : Int) + 1) = ((pre.size + (a.size + 1) : Nat) : Int) := by rw [wrap_id (by omega) (by omega)]; omega
    refine Ev.step (fun k => rfl) (ev_pos (by omega) ?_)
    refine Ev.step (fun k => rfl) (ev_pos (decide_eq_true (by omega)) (ev_pos (by omega) (ev_pos (by omega) ?_)))
    rw [Int.toNat_natCast, e1]
    obtain ⟨y, ys, hsp⟩ := split_yes (b := b') ha (by omega) 10 rfl
    have hrd : rdOf ByteArray.empty (a :: y :: ys) 0 = a := rfl
    refine Ev.bind hsp (ev_pos (by rw [List.length_cons]; omega) ?_)
    rw [hrd, w1, w2]
    rcases read_ev (L0.length : Int) (by omega) a (by omega) with ⟨c, r, he', hv⟩ | ⟨hno, _⟩
    · rw [hL] at he'
      obtain ⟨rfl, rfl⟩ := enc_uniq he' he
      refine Ev.bind hv (ev_neg (by rw [List.length_cons, List.length_cons]; omega) (ev_pos rfl (ev_pos (by omega) ?_)))
      have h := ih (k + 1) b' t hP' x (pre ++ (a ++ one 10)) (L0 ++ [e]) (by rw [hx]; unfold cat; rw [ByteArray.append_assoc, ByteArray.append_assoc, ByteArray.append_assoc]) hs (by rw [List.length_append, hL]; rfl) (by omega)
      have hps : (pre ++ (a ++ one 10)).size = pre.size + (a.size + 1) := by rw [ByteArray.size_append, ByteArray.size_append, one_size]
      rw [hps, List.append_assoc, Nat.add_assoc pre.size (a.size + 1)] at h
      rw [sizeL, ← enc_lsz he]
      exact h
    · rw [hL] at hno
      exact absurd he (hno _ _)
theorem nil_app (s : ByteArray) : s = (⟨#[]⟩ : ByteArray) ++ s := ba_list (by rw [ba_app]; rfl)
theorem implRead_ev (s : ByteArray) (L : List S27) (t : ByteArray) (h : Parse 0 s L t) (hs : s.size ≤ 4194304) : Ev (fun q => impl_readRecords.f q s) (L, endsL 0 0 L) := impl_loop L 0 s t h s (⟨#[]⟩ : ByteArray) [] [] (nil_app s) hs rfl (Nat.le_refl _) (by omega)
theorem specOpen_ev (s : ByteArray) (L : List S27) (t : ByteArray) (h : Parse 0 s L t) (hs : s.size ≤ 4194304) : Ev (fun q => spec_l27Open.f q s) (L, (sizeL 0 L : Int)) := by
  have h := spec_loop L 0 s t h s (⟨#[]⟩ : ByteArray) [] (nil_app s) hs rfl (by omega)
  rw [show (⟨#[]⟩ : ByteArray).size = 0 from rfl, Nat.zero_add, List.nil_append] at h
  exact h
end Go.Proofs.YtblgaejagebeoaaDoor.X
set_option linter.unusedVariables false
set_option linter.unusedSimpArgs false
namespace Go.Proofs.YtblgaejagebeoaaDoor.X
open Go.RowKit Go.Proofs.YtblgaejagebeoaaDoorW.PrintWords Go.Proofs.YtblgaejagebeoaaDoor.E
theorem app_cat (a : ByteArray) (c : UInt8) (b P : ByteArray) : cat a c b ++ P = cat a c (b ++ P) := by unfold cat; rw [ByteArray.append_assoc]
theorem stop_nil (k : Nat) : Stop k (⟨#[]⟩ : ByteArray) := by
  intro a b e _
  have := congrArg ByteArray.size e
  rw [cat_size, show (⟨#[]⟩ : ByteArray).size = 0 from rfl] at this
  omega
theorem size_nil {t : ByteArray} (h : t.size = 0) : t = (⟨#[]⟩ : ByteArray) := ba_list (by
  have := l_len t
  rw [List.eq_nil_of_length_eq_zero (by omega : t.data.toList.length = 0)])
theorem parse_app : ∀ (L1 : List S27) (k : Nat) (D P : ByteArray) (L2 : List S27) (t : ByteArray), Parse k D L1 (⟨#[]⟩ : ByteArray) → Parse (k + L1.length) P L2 t → Parse k (D ++ P) (L1 ++ L2) t
  | [], k, D, P, L2, t, h, h' => by rw [h.1, ← nil_app]; exact h'
  | e :: L1, k, D, P, L2, t, h, h' => by
    obtain ⟨a, b, e1, e2, e3, e4⟩ := h
    refine ⟨a, b ++ P, by rw [e1, app_cat], e2, e3, parse_app L1 (k + 1) b P L2 t e4 ?_⟩
    rw [List.length_cons] at h'
    rw [show k + 1 + L1.length = k + (L1.length + 1) by omega]
    exact h'
theorem ends_gt : ∀ (L : List S27) (k p : Nat) (x : Int), x ∈ endsL k p L → (p : Int) < x
  | [], _, _, x, h => nomatch h
  | e :: L, k, p, x, h => by
    rw [endsL] at h
    have hl : 0 < lsz k e := Nat.succ_pos _
    rcases List.mem_cons.1 h with rfl | h
    · omega
    · have := ends_gt L (k + 1) (p + lsz k e) x h
      omega
theorem ends_has : ∀ (L1 L2 : List S27) (k p : Nat), L1 ≠ [] → ((p + sizeL k L1 : Nat) : Int) ∈ endsL k p (L1 ++ L2)
  | [], _, _, _, h => absurd rfl h
  | [e], L2, k, p, _ => by
    rw [List.cons_append, endsL, sizeL, sizeL, Nat.add_zero]
    exact List.mem_cons_self ..
  | e :: e' :: L1, L2, k, p, _ => by
    have := ends_has (e' :: L1) L2 (k + 1) (p + lsz k e) (by simp)
    rw [List.cons_append, endsL, sizeL, ← Nat.add_assoc]
    exact List.mem_cons_of_mem _ this
theorem ends_cut : ∀ (L : List S27) (k p : Nat) (D P t : ByteArray), Parse k (D ++ P) L t → ((p + D.size : Nat) : Int) ∈ endsL k p L → ∃ L1, Parse k D L1 (⟨#[]⟩ : ByteArray)
  | [], _, _, _, _, _, _, h => nomatch h
  | e :: L, k, p, D, P, t, hP, h => by
    obtain ⟨a, b, e1, e2, e3, e4⟩ := hP
    have hz := enc_lsz e3
    have hsp : (a ++ one 10).size = a.size + 1 := by rw [ByteArray.size_append]; rfl
    rw [endsL] at h
    rcases List.mem_cons.1 h with h | h
    · have hD : D = a ++ one 10 := (ba_cut (b := P) (b' := b) e1 (by omega)).1
      refine ⟨[e], a, (⟨#[]⟩ : ByteArray), ?_, e2, e3, rfl, stop_nil _⟩
      rw [hD]; unfold cat; apply ba_list; rw [ba_app (a ++ one 10)]; simp
    · have h1 := ends_gt L (k + 1) (p + lsz k e) _ h
      have hh := ba_halves D (a.size + 1) (by omega)
      have hs1 : (D.extract 0 (a.size + 1)).size = a.size + 1 := by rw [ByteArray.size_extract]; omega
      have hs2 : (D.extract (a.size + 1) D.size).size = D.size - (a.size + 1) := by rw [ByteArray.size_extract]; omega
      have e5 : D.extract 0 (a.size + 1) ++ (D.extract (a.size + 1) D.size ++ P) = (a ++ one 10) ++ b := by
        rw [← ByteArray.append_assoc, ← hh]; exact e1
      obtain ⟨f1, f2⟩ := ba_cut e5 (by omega)
      rw [← f2] at e4
      obtain ⟨L1, hL⟩ := ends_cut L (k + 1) (p + lsz k e) (D.extract (a.size + 1) D.size) P t e4 (by
        rw [hs2, show p + lsz k e + (D.size - (a.size + 1)) = p + D.size by omega]; exact h)
      refine ⟨e :: L1, a, D.extract (a.size + 1) D.size, ?_, e2, e3, hL⟩
      unfold cat
      rw [← f1]; exact hh
def foldG (d : Int) (s : Bool × Int) (e : Int) : Bool × Int := (s.1 || e == d, e)
theorem fold1 (d : Int) : ∀ (r : List Int) (b : Bool) (v : Int), (r.foldl (foldG d) (b, v)).1 = (b || r.any (fun e => e == d))
  | [], b, v => by simp
  | e :: r, b, v => by
    rw [List.foldl_cons, foldG, fold1 d r, List.any_cons, Bool.or_assoc]
theorem fold2 (d : Int) : ∀ (r : List Int) (b : Bool) (v : Int), (r.foldl (foldG d) (b, v)).2 = r.getD (r.length - 1) v
  | [], b, v => rfl
  | [e], b, v => rfl
  | e :: e' :: r, b, v => by
    rw [List.foldl_cons, foldG, fold2 d (e' :: r)]
    show (e' :: r).getD r.length e = (e :: e' :: r).getD (r.length + 1) v
    rw [getD_in (by simp) e, getD_in (by simp) v]
    rfl
theorem readLoop (x4 : ByteArray) (x5 : List S27) (D P : ByteArray) (n : Int) (en : List Int) (hen : en.length ≤ 9223372036854775807) : ∀ (m i : Nat) (b : Bool) (v : Int), en.length - i = m → i ≤ en.length → Ev (fun q => impl_readLog.l0 q x4 x5 b v en (en.length : Int) (i : Int) D P n) (x5, ((en.drop i).foldl (foldG D.size) (b, v)).1 && (decide (((en.drop i).foldl (foldG D.size) (b, v)).2 = (x4.size : Int)) && ((x5.length : Int) == n))) := by
  intro m
  induction m with
  | zero =>
    intro i b v hm hi
    obtain rfl : i = en.length := by omega
    rw [List.drop_length, List.foldl_nil]
    refine Ev.step (fun k => rfl) (ev_neg (by omega) (ev_ite (fun c => ev_ite (fun d => ev_now ?_) (fun d => ev_now ?_)) (fun c => ev_now ?_)))
    · rw [c, decide_eq_true d]; rfl
    · rw [c, decide_eq_false d]; rfl
    · rw [Bool.not_eq_true] at c; rw [c]; rfl
  | succ m ih =>
    intro i b v hm hi
    have hlt : i < en.length := by omega
    have hrd : rd en (i : Int) = en[i] := by rw [rd_nat]; exact getD_in hlt 0
    rw [List.drop_eq_getElem_cons hlt, List.foldl_cons]
    have h1 := ih (i + 1) (b || en[i] == (D.size : Int)) en[i] (by omega) (by omega)
    refine Ev.step (fun k => rfl) (ev_pos (by omega) (ev_pos (by omega) (ev_pos (by omega) ?_)))
    rw [wrap_succ hlt hen, hrd]
    refine ev_ite (fun c => ?_) (fun c => ?_)
    · rw [c, Bool.true_or] at h1
      rw [foldG, c, Bool.true_or]
      exact h1
    · rw [Bool.not_eq_true] at c
      rw [c, Bool.false_or] at h1
      rw [foldG, c, Bool.false_or]
      exact h1
theorem log_ev (D P : ByteArray) (n : Int) (hs : D.size + P.size ≤ 4194304) : ∃ b L, Ev (fun k => spec_l27Log.f k D P n) b ∧ Ev (fun k => impl_readLog.f k D P n) (L, b) ∧ (b = true → Parse 0 (D ++ P) L (⟨#[]⟩ : ByteArray) ∧ (L.length : Int) = n) := by
  obtain ⟨L, t, hL⟩ := parse_ex (D ++ P).size (D ++ P) 0 (Nat.le_refl _)
  obtain ⟨L1, t1, hL1⟩ := parse_ex D.size D 0 (Nat.le_refl _)
  have hz : (D ++ P).size = D.size + P.size := ByteArray.size_append
  have hzL := parse_size L 0 _ t hL
  have hzL1 := parse_size L1 0 _ t1 hL1
  have hn := parse_len L 0 _ t hL (by omega)
  have hel := ends_len L 0 0
  have hw : wrap64 ((D.size : Int) + (P.size : Int)) = (D.size : Int) + (P.size : Int) := wrap_id (by omega) (by omega)
  have himpl : Ev (fun k => impl_readLog.f k D P n) (L, (((D.size : Int) == 0) || (endsL 0 0 L).any (fun e => e == (D.size : Int))) && (decide ((sizeL 0 L : Int) = ((D ++ P).size : Int)) && ((L.length : Int) == n))) := by
    unfold impl_readLog.f
    refine ev_pos (by omega) (Ev.bind (implRead_ev (D ++ P) L t hL (by omega)) ?_)
    have h := readLoop (D ++ P) L D P n (endsL 0 0 L) (by omega) _ 0 ((D.size : Int) == 0) 0 rfl (Nat.zero_le _)
    rw [List.drop_zero, fold1, fold2] at h
    have hl : (endsL 0 0 L).getD ((endsL 0 0 L).length - 1) 0 = (sizeL 0 L : Int) := by
      rcases L with _ | ⟨e, L⟩
      · rfl
      · rw [ends_len, ends_last _ 0 0 (by simp), Nat.zero_add]
    rw [hl] at h
    exact h
  by_cases hA : sizeL 0 L = D.size + P.size
  case neg =>
    refine ⟨false, L, ?_, ?_, fun h => nomatch h⟩
    · unfold spec_l27Log.f
      rw [hw]
      refine ev_ite (fun _ => ev_now rfl) (fun _ => ev_pos (by omega) (Ev.bind (specOpen_ev _ L t hL (by omega)) (Ev.bind (specOpen_ev _ L1 t1 hL1 (by omega)) (ev_neg (by omega) (ev_now rfl)))))
    · refine ev_cast himpl ?_
      rw [decide_eq_false (by omega)]; simp
  have ht : t = (⟨#[]⟩ : ByteArray) := size_nil (by omega)
  subst ht
  have key : sizeL 0 L1 = D.size ↔ (((D.size : Int) == 0) || (endsL 0 0 L).any (fun e => e == (D.size : Int))) = true := by
    rw [Bool.or_eq_true, beq_iff_eq, List.any_eq_true]
    constructor
    · intro h
      have ht1 : t1 = (⟨#[]⟩ : ByteArray) := size_nil (by omega)
      subst ht1
      obtain ⟨L2, t2, hL2⟩ := parse_ex P.size P (0 + L1.length) (Nat.le_refl _)
      have h3 := parse_app L1 0 D P L2 t2 hL1 hL2
      obtain ⟨rfl, _⟩ := parse_uniq _ _ 0 _ _ _ hL h3
      rcases L1 with _ | ⟨e, L1⟩
      · left
        rw [sizeL] at h
        omega
      · right
        have := ends_has (e :: L1) L2 0 0 (by simp)
        rw [h, Nat.zero_add] at this
        exact ⟨_, this, beq_self_eq_true _⟩
    · rintro (h | ⟨x, hx, e⟩)
      · have hD : D.size = 0 := by omega
        rw [hD] at hzL1
        omega
      · rw [beq_iff_eq] at e
        subst e
        obtain ⟨L3, h3⟩ := ends_cut L 0 0 D P _ hL (by rw [Nat.zero_add]; exact hx)
        obtain ⟨rfl, rfl⟩ := parse_uniq _ _ 0 _ _ _ hL1 h3
        rw [show (⟨#[]⟩ : ByteArray).size = 0 from rfl] at hzL1
        omega
  refine ⟨_, L, ?_, himpl, fun h => ⟨hL, ?_⟩⟩
  · unfold spec_l27Log.f
    rw [hw]
    refine ev_neg (by omega) (ev_pos (by omega) (Ev.bind (specOpen_ev _ L _ hL (by omega)) (Ev.bind (specOpen_ev _ L1 t1 hL1 (by omega)) (ev_pos (by omega) ?_))))
    rw [decide_eq_true (show (sizeL 0 L : Int) = ((D ++ P).size : Int) by omega), Bool.true_and]
    refine ev_ite (fun c => ev_now ?_) (fun c => ev_now ?_)
    · rw [key.1 (by omega), Bool.true_and]
    · have : (((D.size : Int) == 0) || (endsL 0 0 L).any (fun e => e == (D.size : Int))) = false := by
        rw [Bool.eq_false_iff]; intro h; have := key.2 h; omega
      rw [this]; rfl
  · rw [Bool.and_eq_true, Bool.and_eq_true] at h
    exact beq_iff_eq.1 h.2.2
end Go.Proofs.YtblgaejagebeoaaDoor.X
set_option linter.unusedVariables false
namespace Go.Proofs.YtblgaejagebeoaaDoor.X
open Go.RowKit Go.Proofs.YtblgaejagebeoaaDoorW.PrintWords Go.Proofs.YtblgaejagebeoaaDoor.E
def wt23 (x : S23) : Nat := x.f0.size + x.f1.size
def wt36 (x : S36) : Nat := x.f0.size + x.f1.size
end Go.Proofs.YtblgaejagebeoaaDoor.X
set_option linter.unusedVariables false
namespace Go.Proofs.YtblgaejagebeoaaDoor.X
open Go.RowKit Go.Proofs.YtblgaejagebeoaaDoorW.PrintWords Go.Proofs.YtblgaejagebeoaaDoor.E
theorem laws_szLog_ev (x : S36) (g0 : x.f0.size ≤ 9223372036854775807) (g1 : x.f1.size ≤ 9223372036854775807) (left : Int) (h0 : 0 ≤ left) (h1 : left ≤ 4611686018427387904) :
    Ev (fun k => laws_szLog.f (x.f0) (x.f1) (x.f2) left) (if (((wt36 x) : Nat) : Int) ≤ left then left - (((wt36 x) : Nat) : Int) else -1) := by
  unfold laws_szLog.f
  unfold wt36
  have e0 : wrap64 (left - ((x.f0.size : Nat) : Int)) = left - ((x.f0.size : Nat) : Int) := wrap_id (by omega) (by omega)
  simp only [e0]
  by_cases c0 : ((x.f0.size : Nat) : Int) ≤ left
  case neg =>
    exact ev_pos (by omega) (ev_now (by first | rfl | rw [if_neg (by omega)]))
  refine ev_neg (by omega) ?_
  have e1 : wrap64 ((left - ((x.f0.size : Nat) : Int)) - ((x.f1.size : Nat) : Int)) = (left - ((x.f0.size : Nat) : Int)) - ((x.f1.size : Nat) : Int) := wrap_id (by omega) (by omega)
  simp only [e1]
  by_cases c1 : ((x.f1.size : Nat) : Int) ≤ (left - ((x.f0.size : Nat) : Int))
  case neg =>
    exact ev_pos (by omega) (ev_now (by first | rfl | rw [if_neg (by omega)]))
  refine ev_neg (by omega) ?_
  exact ev_now (by first | rfl | omega | (rw [if_pos (by omega)]; omega))
end Go.Proofs.YtblgaejagebeoaaDoor.X
set_option linter.unusedVariables false
namespace Go.Proofs.YtblgaejagebeoaaDoor.X
open Go.RowKit Go.Proofs.YtblgaejagebeoaaDoorW.PrintWords Go.Proofs.YtblgaejagebeoaaDoor.E
theorem laws_szLogRecord_ev (x : S23) (g0 : x.f0.size ≤ 9223372036854775807) (g1 : x.f1.size ≤ 9223372036854775807) (left : Int) (h0 : 0 ≤ left) (h1 : left ≤ 4611686018427387904) :
    Ev (fun k => laws_szLogRecord.f (x.f0) (x.f1) left) (if (((wt23 x) : Nat) : Int) ≤ left then left - (((wt23 x) : Nat) : Int) else -1) := by
  unfold laws_szLogRecord.f
  unfold wt23
  have e0 : wrap64 (left - ((x.f0.size : Nat) : Int)) = left - ((x.f0.size : Nat) : Int) := wrap_id (by omega) (by omega)
  simp only [e0]
  by_cases c0 : ((x.f0.size : Nat) : Int) ≤ left
  case neg =>
    exact ev_pos (by omega) (ev_now (by first | rfl | rw [if_neg (by omega)]))
  refine ev_neg (by omega) ?_
  have e1 : wrap64 ((left - ((x.f0.size : Nat) : Int)) - ((x.f1.size : Nat) : Int)) = (left - ((x.f0.size : Nat) : Int)) - ((x.f1.size : Nat) : Int) := wrap_id (by omega) (by omega)
  simp only [e1]
  by_cases c1 : ((x.f1.size : Nat) : Int) ≤ (left - ((x.f0.size : Nat) : Int))
  case neg =>
    exact ev_pos (by omega) (ev_now (by first | rfl | rw [if_neg (by omega)]))
  refine ev_neg (by omega) ?_
  exact ev_now (by first | rfl | omega | (rw [if_pos (by omega)]; omega))
end Go.Proofs.YtblgaejagebeoaaDoor.X
set_option linter.unusedVariables false
set_option linter.unusedSimpArgs false
namespace Go.Proofs.YtblgaejagebeoaaDoor.Pure
open Go.RowKit Go.Proofs.YtblgaejagebeoaaDoor.X Go.Proofs.YtblgaejagebeoaaDoorW.PrintWords Go.Proofs.YtblgaejagebeoaaDoor.E
theorem append_same (D P : ByteArray) (n : Int) (s r : ByteArray) (hz : D.size + P.size ≤ 4194304) (hs : s.size ≤ 9223372036854775807) (hr : r.size ≤ 9223372036854775807) : ∃ v, Ev (fun k => spec_AppendRecord.f k D P n s r) v ∧ Ev (fun k => impl_AppendRecord.f k D P n s r) v := by
  obtain ⟨b, L, h1, h2, h3⟩ := log_ev D P n hz
  have h2' : Ev (fun k => impl_IsValidLog.f k D P n) b := Ev.bind h2 (ev_now rfl)
  cases b
  · exact ⟨(D, P, n, 1), Ev.bind h1 (ev_neg (by simp) (Ev.step (fun k => rfl) (ev_now rfl))), Ev.bind h2' (ev_neg (by simp) (Ev.step (fun k => rfl) (ev_now rfl)))⟩
  obtain ⟨hP, hL⟩ := h3 rfl
  have hlen := (parse_len L 0 _ _ hP (by omega)).1
  have g1 := l27Good_ev s r hs hr
  have g2 := implRec_ev s r hs hr
  have henc := implEnc_ev n s r hs hr
  by_cases hrec : recB s r = true
  case neg =>
    rw [Bool.not_eq_true] at hrec
    exact ⟨(D, P, n, 1), Ev.bind h1 (ev_pos rfl (Ev.bind g1 (Ev.step (fun k => rfl) (ev_pos (by rw [hrec]; rfl) (ev_now rfl))))), Ev.bind h2' (ev_pos rfl (Ev.bind g2 (Ev.step (fun k => rfl) (ev_pos (by rw [hrec]; rfl) (ev_now rfl)))))⟩
  by_cases h60 : n = 60
  · have hno : encOk n s r = false := by unfold encOk; rw [decide_eq_false (by omega)]; rfl
    rw [encE, if_neg (by rw [hno]; simp)] at henc
    exact ⟨(D, P, n, 2), Ev.bind h1 (ev_pos rfl (Ev.bind g1 (Ev.step (fun k => rfl) (ev_neg (by rw [hrec]; simp) (ev_pos h60 (ev_now rfl)))))), Ev.bind h2' (ev_pos rfl (Ev.bind g2 (Ev.step (fun k => rfl) (ev_neg (by rw [hrec]; simp) (Ev.bind henc (ev_neg (by simp) (ev_now rfl)))))))⟩
  · have hok : encOk n s r = true := by unfold encOk; rw [decide_eq_true (by omega), hrec]; rfl
    obtain ⟨hs1, hls, hlr, hr1⟩ := recB_iff hrec
    have hl := line_size n s r (by omega) (by omega) hs1.2 hr1
    have h2s := sum_size (lineB n s r)
    have hb : P.size + (sealB (lineB n s r) ++ (⟨#[10]⟩ : ByteArray)).size ≤ 9223372036854775807 := by unfold sealB; simp only [ByteArray.size_append, szl]; omega
    rw [encE, if_pos hok] at henc
    exact ⟨(D, P ++ (sealB (lineB n s r) ++ (⟨#[10]⟩ : ByteArray)), wrap64 (n + 1), 0), Ev.bind h1 (ev_pos rfl (Ev.bind g1 (Ev.step (fun k => rfl) (ev_neg (by rw [hrec]; simp) (ev_neg h60 (Ev.bind (l27Line_ev n s r (by omega) (by omega) hs1.2 hr1) (ev_pos hb (ev_now rfl)))))))), Ev.bind h2' (ev_pos rfl (Ev.bind g2 (Ev.step (fun k => rfl) (ev_neg (by rw [hrec]; simp) (Ev.bind henc (ev_pos rfl (ev_pos hb (ev_now rfl))))))))⟩
theorem FnExactAppendRecord : PureFnExactAppendRecord := by
  intro x y hx hy
  unfold laws_FnExactAppendRecord.f
  refine ev_get (Ev.bind (laws_szLog_ev x hx.1 hx.2.1 1048576 (by omega) (by omega)) ?_)
  by_cases c : (((wt36 x) : Nat) : Int) ≤ 1048576
  case neg => rw [if_neg c]; exact ev_pos (by omega) (ev_now rfl)
  have hz : wt36 x = x.f0.size + x.f1.size := rfl
  rw [if_pos c]
  refine ev_neg (by omega) (Ev.bind (laws_szLogRecord_ev y hy.1 hy.2 _ (by omega) (by omega)) ?_)
  by_cases d : (((wt23 y) : Nat) : Int) ≤ 1048576 - (((wt36 x) : Nat) : Int)
  case neg => rw [if_neg d]; exact ev_pos (by omega) (ev_now rfl)
  rw [if_pos d]
  refine ev_neg (by omega) ?_
  obtain ⟨v, g1, g2⟩ := append_same x.f0 x.f1 x.f2 y.f0 y.f1 (by omega) hy.1 hy.2
  refine ev_bind0 (show laws_toLog.f x.f0 x.f1 x.f2 = some (x.f0, x.f1, x.f2) from rfl) (ev_bind0 (show laws_toLogRecord.f y.f0 y.f1 = some (y.f0, y.f1) from rfl) (Ev.bind g1 ?_))
  refine ev_bind0 (show laws_toLog.f x.f0 x.f1 x.f2 = some (x.f0, x.f1, x.f2) from rfl) (ev_bind0 (show laws_toLogRecord.f y.f0 y.f1 = some (y.f0, y.f1) from rfl) (Ev.bind g2 ?_))
  refine ev_bind0 (show laws_eqLog.f v.1 v.2.1 v.2.2.1 v.1 v.2.1 v.2.2.1 = some true from ?_) (ev_pos rfl (ev_pos rfl (ev_now rfl)))
  unfold laws_eqLog.f
  rw [if_pos rfl, if_pos rfl, if_pos rfl]
end Go.Proofs.YtblgaejagebeoaaDoor.Pure
namespace Go.Proofs.YtblgaejagebeoaaDoor.fnExactAppendRecord
open Go.ChangeShapes Go.WideShapes Go.ChangeAt Go.RowKit Go.Joins Go.Proofs.YtblgaejagebeoaaDoorW.PrintWords Go.Proofs.YtblgaejagebeoaaDoor.Open Go.Proofs.YtblgaejagebeoaaDoor.X
open Go.ChangeMaps (open_string shut_string)
set_option linter.unusedVariables false
theorem own : ownKnob Tryd.prog.godebug = none := by kernel_rfl
def laid : List (String × DataW Unit) := [("math/bits.deBruijn32tab", Rows.laid_math_bits_deBruijn32tab), ("math/bits.deBruijn64tab", Rows.laid_math_bits_deBruijn64tab), ("internal/strconv.uint64pow10", Rows.laid_internal_strconv_uint64pow10)]
theorem door_met (os : Os) (args : Array Value) : laidMetH Tryd.prog laid ((World.doorLaid Tryd.prog 24 os).forCall (fun _ _ => 0) ⟨#[], args, []⟩).memory :=
  laidMetH_of_parts3 (fuel := 8) (laidMet_of_run' 8 (by kernel_rfl) (by kernel_rfl)) (by kernel_rfl) (by kernel_rfl)
theorem gTab : Tryd.prog.globalNamed "internal/strconv.uint64pow10" = some 1 := by kernel_rfl
theorem gTabType : (Tryd.prog.globals[1]?).map (·.type) = some 106 := by kernel_rfl
theorem cellsT : Tryd.prog.cellsOf 106 = 20 := by kernel_rfl
theorem cellsE : Tryd.prog.cellsOf 73 = 1 := by kernel_rfl
theorem only : laid.filter (fun x => x.1 == "internal/strconv.uint64pow10") = [("internal/strconv.uint64pow10", Lib.tabData .u64 Lib.pow10Tab)] := by kernel_rfl
theorem table {W : World} (h : laidMetH Tryd.prog laid W) : GT W := by
  have h2 := h.filter (fun x => x.1 == "internal/strconv.uint64pow10")
  rw [only] at h2
  rw [MakeChecks.laidMetH_plain _ _ _ (by kernel_rfl)] at h2
  exact Lib.tabIs_of_head (rest := []) gTab gTabType Tryd.underlying106 Tryd.underlying73 cellsE cellsT h2
theorem laidOut : laidOutB Tryd.prog = true := by kernel_rfl
set_option maxRecDepth 100000 in
theorem lifted (os : Os) (started : os.Started) (H : Type) (enc : TypeId × Value → H) :
    ReturnsInHanded {} Tryd.checked os 8 .any (fun w args => (Rows.fnExactAppendRecordSpec.pre enc Tryd.prog Tryd.f8 [] false w args ∧ laidMetH Tryd.prog laid w) ∧ sizedMet enc Tryd.prog Tryd.f8 (OpenSpec.ofChange Rows.fnExactAppendRecordSpec) false w args)
      (Rows.fnExactAppendRecordSpec.post enc Tryd.prog Tryd.f8 false true false false) := by
  refine returnsInHanded_of_change_and (C := Tryd.checked) (X := fun w _ => laidMetH Tryd.prog laid w) (fun _ _ _ hh h => h.of_heap hh) own started (by kernel_rfl) Tryd.func8
    (ChangeSpec.witness_shaped (enc := enc) (C := Tryd.checked) (os := os) (X := fun w _ => laidMetH Tryd.prog laid w) false (World.doorLaid Tryd.prog 24 os) #[.agg #[.string ByteArray.empty, .string ByteArray.empty, .int .i64 0], .agg #[.string ByteArray.empty, .string ByteArray.empty]] 8 rfl (World.shaped_of_RefB (by kernel_rfl) (by kernel_rfl)) (by kernel_rfl) (by kernel_rfl) (by kernel_rfl) (door_met os _)) ?_
  intro W base args ds gs before hval0 hW hcnd hsz0 hL _
  have hval : ∀ (j : Nat) t v, Tryd.f8.params[j]? = some t → args[j]? = some v → Value.okWide Tryd.prog W .any base t v := hval0
  have hW' := hW
  obtain ⟨p, q, hA0, hV, rfl, hfz, hnd⟩ := hW
  have hA : DataW.TrodAll enc Tryd.prog W 0 (fun _ => true) true Tryd.f8.params.toList args.toList ds p := hA0
  rw [Tryd.params8] at hA hval
  obtain ⟨v0, vs0, d0, ds0, p0, q0, hargs, rfl, rfl, h0, r0⟩ := trodAll_cons hA
  obtain ⟨v1, vs1, d1, ds1, p1, q1, rfl, rfl, rfl, h1, r1⟩ := trodAll_cons r0
  obtain ⟨rfl, rfl, rfl⟩ := trodAll_nil r1
  obtain rfl : args = #[v0, v1] := by cases args; simp_all
  obtain ⟨rfl, rfl⟩ := trodVars_none hV
  have kk0 := h0
  have lt0 : ∀ x ∈ p0, x.block < W.heap.size := by obtain ⟨m, hm⟩ := kk0; exact DataW.trod_lt m _ _ _ hm
  obtain ⟨a0, cs0, rfl, hK0, g0⟩ := arg_agg op36 (by obtain ⟨cs, e, _⟩ := okWide_struct Tryd.underlying36 (hval 0 36 v0 rfl rfl); exact ⟨cs, e⟩) h0
  have he0 := k36_open hK0
  obtain rfl : cs0 = #[.string a0.f0, .string a0.f1, .int .i64 a0.f2] := by cases cs0; simp_all
  have kk1 := h1
  have lt1 : ∀ x ∈ p1, x.block < W.heap.size := by obtain ⟨m, hm⟩ := kk1; exact DataW.trod_lt m _ _ _ hm
  obtain ⟨a1, cs1, rfl, hK1, g1⟩ := arg_agg op23 (by obtain ⟨cs, e, _⟩ := okWide_struct Tryd.underlying23 (hval 1 23 v1 rfl rfl); exact ⟨cs, e⟩) h1
  have he1 := k23_open hK1
  obtain rfl : cs1 = #[.string a1.f0, .string a1.f1] := by cases cs1; simp_all
  clear hA0 hval0 hsz0
  obtain ⟨k, hk⟩ := Pure.FnExactAppendRecord a0 a1 g0 g1
  refine (X.laws_FnExactAppendRecord.calls k _ _ _ _ _ true W (table hL) hk (Aside0.mk rfl)).mono ?_
  rintro e W' ⟨he, bel0⟩
  have bel : Below W.heap.size W W' := by first | exact bel0 | exact bel0.below
  subst he
  exact ⟨_, rfl, _, _, _, [], _, [], hW', trodAll_mk1 (shut_bool Tryd.underlying4 _), (trodAll_cons_mk (Below.trod laidOut (by kernel_rfl) (of_decide_eq_true (by kernel_rfl)) kk0 bel lt0) (trodAll_cons_mk (Below.trod laidOut (by kernel_rfl) (of_decide_eq_true (by kernel_rfl)) kk1 bel lt1) trodAll_mk0)), rfl, bel.frame _, fun h => by cases h⟩
theorem over : Rows.fnExactAppendRecordRow.holds Tryd.pinned (OpenSpec.ofChange Rows.fnExactAppendRecordSpec) :=
  OpenClaim.holds_of_wide 8 Tryd.f8 rfl rfl rfl rfl rfl rfl rfl ⟨rfl, rfl, rfl, rfl, rfl⟩ rfl rfl rfl rfl rfl (by kernel_rfl) Tryd.func8 (by kernel_rfl)
    (of_decide_eq_true (by kernel_rfl)) (by unfold Func.isWrapper; first | (rw [if_pos (by decide +kernel)]; kernel_rfl) | (rw [if_neg (by decide +kernel)]; exact ⟨rfl, rfl⟩))
    (fun os started H enc _ => lifted os started H enc)
theorem proved : Rows.FnExactAppendRecordSaid := over
#print axioms proved
theorem plain (f : FuncId) (fn : Func) (hf : Tryd.pinned.checked.prog.funcNamed "loop.example/g00876/laws.FnExactAppendRecord" = some f) (hfn : Tryd.pinned.checked.prog.funcs[f]? = some fn) :
    false = Tryd.pinned.checked.prog.looks [] ∧ ∀ (j : Nat) t, fn.params[j]? = some t → Tryd.pinned.checked.prog.wantsStandIn t = false := by
  obtain rfl : f = 8 := Option.some.inj ((show Tryd.prog.funcNamed "loop.example/g00876/laws.FnExactAppendRecord" = some 8 by kernel_rfl).symm.trans hf) |>.symm
  obtain rfl : fn = Tryd.f8 := (Option.some.inj (Tryd.func8.symm.trans hfn)).symm
  refine ⟨by kernel_rfl, fun j t ht => ?_⟩
  rw [Tryd.params8] at ht
  have hm := Array.mem_of_getElem? ht
  simp only [List.mem_toArray, List.mem_cons, List.not_mem_nil, or_false] at hm
  rcases hm with rfl | rfl
  · exact (show Tryd.prog.wantsStandIn 36 = false by kernel_rfl)
  · exact (show Tryd.prog.wantsStandIn 23 = false by kernel_rfl)
theorem card : Rows.FnExactAppendRecordCardSaid :=
  Claim7.holds_tied_plain_at .later [] _ _ _ _ proved (fun _ h => by cases h) (by kernel_rfl) (fun _ h => by cases h) fnExactAppendRecord_row_tie rfl ⟨rfl, rfl⟩ (by kernel_rfl) rfl plain (by kernel_rfl)
#print axioms card
end Go.Proofs.YtblgaejagebeoaaDoor.fnExactAppendRecord
namespace Go.Proofs.YtblgaejagebeoaaDoor
/-- The row, under a short name, for the claim. -/
theorem fnExactAppendRecord_holds : Rows.FnExactAppendRecordSaid := fnExactAppendRecord.proved
/-- The card, under a short name. -/
theorem fnExactAppendRecordCard_holds : Rows.FnExactAppendRecordCardSaid := fnExactAppendRecord.card
end Go.Proofs.YtblgaejagebeoaaDoor
