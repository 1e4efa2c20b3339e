/- For every number and log record the law FnExactEncodeRecord answers true, the tables lying as the program's own text lays them
This file (part 2 of 2) holds what the proof needs: plain functions with rounds and contracts written by programs of this work over the translation, and the lemmas. -/
import Derived.Test.YtblgaejagebeoaaDoorZFnExactEncodeRecord1
import Derived.Test.YtblgaejagebeoaaDoorWWords
import Derived.ChangeArms
import Derived.DataReads
import Derived.Deep.Slices
import Derived.ChangeOld
import Derived.OpenShut
import Derived.Lib.ItoaNum
import Derived.Lib.ItoaLen
import Derived.Lib.IndexAny
import Derived.Laws.Strings
import Derived.Test.YtblgaejagebeoaaDoorTie
import Derived.Test.YtblgaejagebeoaaDoorCards
import Derived.Test.YtblgaejagebeoaaDoorRows
import Derived.WalkKit
import Derived.ProofKit
import Derived.ShutString
import Derived.Below
import Derived.SizedLaws
import Derived.Lib.SmallJoins
import Derived.LaidMore
import Derived.Stop.Joined
import Derived.Lib.LaidTab
import Derived.LaidSub
import Derived.Handed
import Derived.SevenTiedAt
namespace Go.Proofs.YtblgaejagebeoaaDoor.X
open Go.RowKit Go.Proofs.YtblgaejagebeoaaDoorW.PrintWords Go.Proofs.YtblgaejagebeoaaDoorW.PrintLast Go.Proofs.YtblgaejagebeoaaDoorW.PrintMore
attribute [local go_sem] max2_int min2_int max_two min_two max_three min_three max_four min_four   -- for this text's walks alone
set_option linter.unusedVariables false
set_option linter.unusedSimpArgs false

/-! ### impl_EncodeRecord: function 16 -/
def impl_EncodeRecord.j0 : Nat → Int → Bool → ByteArray → ByteArray → Option (ByteArray × Bool)
 | 0, _, _, _, _ => none
 | k + 1, x0, x15, x102000, x102001 => if x15 = true then (some ((⟨#[]⟩ : ByteArray), false)) else ((strconv_Itoa.f x0).bind fun t104 => (if t104.size + 1 ≤ 9223372036854775807 then (if (t104 ++ (⟨#[32]⟩ : ByteArray)).size + x102000.size ≤ 9223372036854775807 then (if ((t104 ++ (⟨#[32]⟩ : ByteArray)) ++ x102000).size + 1 ≤ 9223372036854775807 then (if (((t104 ++ (⟨#[32]⟩ : ByteArray)) ++ x102000) ++ (⟨#[64]⟩ : ByteArray)).size + x102001.size ≤ 9223372036854775807 then ((impl_AppendChecksum.f k ((((t104 ++ (⟨#[32]⟩ : ByteArray)) ++ x102000) ++ (⟨#[64]⟩ : ByteArray)) ++ x102001)).bind fun bt105 => (if bt105.1.size + 1 ≤ 9223372036854775807 then (some (bt105.1 ++ (⟨#[10]⟩ : ByteArray), true)) else (none))) else (none)) else (none)) else (none)) else (none)))
def impl_EncodeRecord.f (k : Nat) (a0 : Int) (a1_0 : ByteArray) (a1_1 : ByteArray) : Option (ByteArray × Bool) := (impl_within.f a0 0 59).bind fun t102 => (if t102 = true then ((impl_IsValidLogRecord.f k a1_0 a1_1).bind fun t103 => (impl_EncodeRecord.j0 k a0 (!t103) a1_0 a1_1)) else (impl_EncodeRecord.j0 k a0 true a1_0 a1_1))
theorem impl_EncodeRecord.mono_l : ∀ k, (∀ y0 y1 y2 y3, LeO (impl_EncodeRecord.j0 k y0 y1 y2 y3) (impl_EncodeRecord.j0 (k + 1) y0 y1 y2 y3))
 | 0 => fun _ _ _ _ r h => by simp [impl_EncodeRecord.j0] at h
 | k + 1 => by
  have ih0 := impl_EncodeRecord.mono_l k
  ·intro y0 y1 y2 y3
   unfold impl_EncodeRecord.j0
   repeat' first
   | (with_reducible exact ih0 _ _ _ _)
   | (with_reducible exact impl_AppendChecksum.mono _ _)
   | (with_reducible exact impl_IsValidLogRecord.mono _ _ _)
   | (with_reducible exact LeO.refl _)
   | (with_reducible exact LeO.none _)
   | (with_reducible refine LeO.ite ?_ ?_)
   | (with_reducible refine LeO.bind ?_ (fun _ => ?_))
   | exact ih0 _ _ _ _
   | exact impl_AppendChecksum.mono _ _
   | exact impl_IsValidLogRecord.mono _ _ _
   | exact LeO.none _
   | refine LeO.ite ?_ ?_
   | refine LeO.bind ?_ (fun _ => ?_)
theorem impl_EncodeRecord.mono : ∀ a0 a1 a2 k, LeO (impl_EncodeRecord.f k a0 a1 a2) (impl_EncodeRecord.f (k + 1) a0 a1 a2) := by
 intro a0 a1 a2 k
 have ih0 := impl_EncodeRecord.mono_l k
 unfold impl_EncodeRecord.f
 repeat' first
   | (with_reducible exact ih0 _ _ _ _)
   | (with_reducible exact impl_AppendChecksum.mono _ _)
   | (with_reducible exact impl_IsValidLogRecord.mono _ _ _)
   | (with_reducible exact LeO.refl _)
   | (with_reducible exact LeO.none _)
   | (with_reducible refine LeO.ite ?_ ?_)
   | (with_reducible refine LeO.bind ?_ (fun _ => ?_))
   | exact ih0 _ _ _ _
   | exact impl_AppendChecksum.mono _ _
   | exact impl_IsValidLogRecord.mono _ _ _
   | exact LeO.none _
   | refine LeO.ite ?_ ?_
   | refine LeO.bind ?_ (fun _ => ?_)
def impl_EncodeRecord.T3 : Bool × List (List Nat × List Nat) := (true, [([], []), ([0], [0]), ([1], [1]), ([], []), ([3], [3]), ([2, 4], [2, 4]), ([5], [5]), ([], []), ([7], [7]), ([6, 8], [6, 8]), ([9, 1], [9]), ([10], [10]), ([11], [11]), ([11], [11]), ([12, 10, 0, 1, 2, 3, 4, 5, 6, 7, 8, 9, 10, 11, 12], [12]), ([13, 14, 0, 1, 2, 3, 4, 5, 6, 7, 8, 9, 10, 11, 12, 13, 14], [13])])
def impl_EncodeRecord.B3 : List Nat := [0, 1, 3, 0, 8, 31, 63, 0, 128, 511, 1023, 2047, 4095, 4095, 8191, 32767]
theorem impl_EncodeRecord.tab3 : rtab .any (opsOf Tryd.f16 3) = impl_EncodeRecord.T3 := by kernel_rfl
theorem impl_EncodeRecord.bits3 : waitsOk impl_EncodeRecord.T3.2 impl_EncodeRecord.B3 = true := by kernel_rfl
set_option maxHeartbeats 8000000 in
set_option maxRecDepth 100000 in
theorem impl_EncodeRecord.calls (k : Nat) (a0 : Int) (a1_0 : ByteArray) (a1_1 : ByteArray) (r1 : ByteArray) (r2 : Bool) (w : World) (hG : GT w) (h : impl_EncodeRecord.f k a0 a1_0 a1_1 = some (r1, r2)) :
  Calls Tryd.prog 16 #[.int .i64 a0, .agg #[.string a1_0, .string a1_1]] w fun e w' => e = .returned (.tuple #[.string r1, .bool r2]) ∧ Below w.heap.size w w' := by
 have hu27 := Tryd.underlying27
 have HG := Aside0.mk hG
 clear hG
 have HB := Aside0.mk (Below.refl w.heap.size w)
 have H : ((impl_within.f a0 0 59).bind fun t102 => (if t102 = true then ((impl_IsValidLogRecord.f k a1_0 a1_1).bind fun t103 => (impl_EncodeRecord.j0 k a0 (!t103) a1_0 a1_1)) else (impl_EncodeRecord.j0 k a0 true a1_0 a1_1))) = some (r1, r2) := h
 clear h
 have HC3 := Aside0.mk H
 clear H
 go_enter Tryd.func16, Tryd.ntmps16
 go_upto_region 1 with (first | ((with_reducible refine gate_dst (N := 3) rfl ?_); refine box_event ?hg (N := 3) ?hd (cs := #[.string a1_0, .string a1_1]) (t := 27) ?hr ?_; (case hd => rfl); (case hg => rfl); (case hr => first | (go_simp; done) | (go_simp; rfl)); intro gb101 hg w4 hbox hb; have n0_ := Aside0.mk (below_step (by repeat (first | (with_reducible first | exact HB.out | apply below_alloc | apply pw_below_drewN | apply below_drew1) | exact HB.out)) hb); have n1_ := Aside0.mk (hbox); have n2_ := Aside0.mk ((by rw [hg]; exact (below_size (by repeat (first | (with_reducible first | exact HB.out | apply below_alloc | apply pw_below_drewN | apply below_drew1) | exact HB.out))) : w.heap.size ≤ gb101)); have n3_ := Aside0.mk ((by rw [hg]; exact (below_size (by repeat (first | (with_reducible first | exact HB.out | apply below_alloc | apply pw_below_drewN | apply below_drew1) | exact HB.out))) : w.heap.size ≤ gb101)); clear HB; have HB := n0_; have BK101 := n1_; have GW101 := n2_; have GE101 := n3_; clear n0_ n1_ n2_ n3_; clear hb hbox hg))
 (try simp only [Act.put, aS1, aS2, aS3])
 go_cut [15] (fun v15 wc => ∃ (kq : Nat) (x15_2 : Bool), v15 = .bool x15_2 ∧ Aside0 (impl_EncodeRecord.j0 kq a0 x15_2 a1_0 a1_1 = some (r1, r2)) ∧ Aside0 (kq ≤ k) ∧ Aside0 (wc.heap[gb101]? = some (.cells #[.string a1_0, .string a1_1] 27 (0, 0))) ∧ Aside0 (Below w.heap.size w wc))
 case first =>
  have H := HC3.out
  clear HC3
  replace H := Option.bind_eq_some_iff.mp H
  obtain ⟨t102, A50, H⟩ := H
  replace H : (if t102 = true then ((impl_IsValidLogRecord.f k a1_0 a1_1).bind fun t103 => (impl_EncodeRecord.j0 k a0 (!t103) a1_0 a1_1)) else (impl_EncodeRecord.j0 k a0 true a1_0 a1_1)) = some (r1, r2) := H
  have A5 := Aside0.mk A50
  clear A50
  by_cases c6 : t102 = true
  ·subst c6
   have H1 : ((impl_IsValidLogRecord.f k a1_0 a1_1).bind fun t103 => (impl_EncodeRecord.j0 k a0 (!t103) a1_0 a1_1)) = some (r1, r2) := by rw [if_pos rfl] at H; exact H
   clear H
   have H := H1
   clear H1
   replace H := Option.bind_eq_some_iff.mp H
   obtain ⟨t103, A70, H⟩ := H
   replace H : (impl_EncodeRecord.j0 k a0 (!t103) a1_0 a1_1) = some (r1, r2) := H
   have A7 := Aside0.mk A70
   clear A70
   have H' := Aside0.mk H
   clear H
   go_wp2_with (first | ((with_reducible refine gate_callee (f := 45) rfl ?_); refine goesL_ (some 9) rfl rfl Tryd.func45 (by kernel_rfl) rfl #[.int .i64 a0, .int .i64 0, .int .i64 59] rfl (by (try simp only [aM1, aM2, aM3]); first | done | rfl | (simp only [List.length_drop, List.length_take]; rfl)) ?_; (with_reducible refine (impl_within.calls a0 0 59 true _ A5.out).mono ?_); rintro e w' ⟨rfl, ⟨nd, rfl⟩⟩; refine ⟨_, rfl, ?_⟩; have hcz8_0 : w4.cell? ⟨gb101, 0, none⟩ = some (.string a1_0) := (blk_cell BK101.out 0).trans rfl; have hcz8_1 : w4.cell? ⟨gb101, 1, none⟩ = some (.string a1_1) := (blk_cell BK101.out 1).trans rfl; have hfz8_0 := blk_frozen BK101.out 0; have hfz8_1 := blk_frozen BK101.out 1) | (go_at_call 39; (with_reducible refine (impl_IsValidLogRecord.calls k a1_0 a1_1 t103 _ A7.out).mono ?_); rintro e w9 ⟨rfl, hb⟩; have n0_ := Aside0.mk (blk_below (g := gb101) (o := .cells #[.string a1_0, .string a1_1] 27 (0, 0)) (by (with_reducible repeat (first | refine blk_drewN ?_ _ | refine blk_drew ?_ | refine blk_alloc ?_ _)); exact BK101.out) hb); have n1_ := Aside0.mk (below_step (by repeat (first | (with_reducible first | exact HB.out | apply below_alloc | apply pw_below_drewN | apply below_drew1 | refine below_set ?_ GE101.out) | exact HB.out)) hb); clear BK101; clear HB; have BK101 := n0_; have HB := n1_; clear n0_ n1_; (try clear hb); (try clear hb2); (try clear hk); (try clear hi)))
   go_meet
   case rel => exact ⟨_, (!t103), (by first | rfl | (simp; done) | (simp [*]; done)), H', ⟨by first | omega | exact Nat.le_refl _⟩, ⟨by (with_reducible repeat (first | refine blk_drewN ?_ _ | refine blk_drew ?_ | refine blk_alloc ?_ _)); exact BK101.out⟩, ⟨by repeat (first | (with_reducible first | exact HB.out | apply below_alloc | apply pw_below_drewN | apply below_drew1 | refine below_set ?_ GE101.out) | exact HB.out)⟩⟩
  ·replace c6 := Bool.eq_false_iff.mpr c6
   subst c6
   have H1 : (impl_EncodeRecord.j0 k a0 true a1_0 a1_1) = some (r1, r2) := by rw [if_neg (show ¬ (false = true) by decide)] at H; exact H
   clear H
   have H := H1
   clear H1
   have H' := Aside0.mk H
   clear H
   go_wp2_with (first | ((with_reducible refine gate_callee (f := 45) rfl ?_); refine goesL_ (some 9) rfl rfl Tryd.func45 (by kernel_rfl) rfl #[.int .i64 a0, .int .i64 0, .int .i64 59] rfl (by (try simp only [aM1, aM2, aM3]); first | done | rfl | (simp only [List.length_drop, List.length_take]; rfl)) ?_; (with_reducible refine (impl_within.calls a0 0 59 false _ A5.out).mono ?_); rintro e w' ⟨rfl, ⟨nd, rfl⟩⟩; refine ⟨_, rfl, ?_⟩))
   go_meet
   case rel => exact ⟨_, (true), (by first | rfl | (simp; done) | (simp [*]; done)), H', ⟨by first | omega | exact Nat.le_refl _⟩, ⟨by (with_reducible repeat (first | refine blk_drewN ?_ _ | refine blk_drew ?_ | refine blk_alloc ?_ _)); exact BK101.out⟩, ⟨by repeat (first | (with_reducible first | exact HB.out | apply below_alloc | apply pw_below_drewN | apply below_drew1 | refine below_set ?_ GE101.out) | exact HB.out)⟩⟩
 case rest =>
  clear HC3
  try clear c1
  try clear p2
  try clear c4
  try clear c6
  try clear hcz8_0
  try clear hcz8_1
  try clear hfz8_0
  try clear hfz8_1
  obtain ⟨kq, x15_2, rfl, HA, HJ2, BK101, HB⟩ := hcut
  cases kq with
  | zero => exact absurd HA.out (by simp [impl_EncodeRecord.j0])
  | succ kj2 =>
   have H := HA.out
   clear HA
   simp only [impl_EncodeRecord.j0] at H
   by_cases c10 : x15_2 = true
   ·subst c10
    have H1 : (some ((⟨#[]⟩ : ByteArray), false)) = some (r1, r2) := by rw [if_pos rfl] at H; exact H
    clear H
    have H := H1
    clear H1
    simp only [Option.some.injEq, Prod.mk.injEq] at H
    obtain ⟨rfl, rfl⟩ := H
    go_wp2
    go_ret2
    exact ⟨by first | rfl | (simp [errW_none, errW_some] <;> rfl) | (simp [*, errW_none, errW_some] <;> rfl), by repeat (first | (with_reducible first | exact HB.out | apply below_alloc | apply pw_below_drewN | apply below_drew1 | refine below_set ?_ GE101.out) | exact HB.out)⟩
   ·replace c10 := Bool.eq_false_iff.mpr c10
    subst c10
    have H1 : ((strconv_Itoa.f a0).bind fun t104 => (if t104.size + 1 ≤ 9223372036854775807 then (if (t104 ++ (⟨#[32]⟩ : ByteArray)).size + a1_0.size ≤ 9223372036854775807 then (if ((t104 ++ (⟨#[32]⟩ : ByteArray)) ++ a1_0).size + 1 ≤ 9223372036854775807 then (if (((t104 ++ (⟨#[32]⟩ : ByteArray)) ++ a1_0) ++ (⟨#[64]⟩ : ByteArray)).size + a1_1.size ≤ 9223372036854775807 then ((impl_AppendChecksum.f kj2 ((((t104 ++ (⟨#[32]⟩ : ByteArray)) ++ a1_0) ++ (⟨#[64]⟩ : ByteArray)) ++ a1_1)).bind fun bt105 => (if bt105.1.size + 1 ≤ 9223372036854775807 then (some (bt105.1 ++ (⟨#[10]⟩ : ByteArray), true)) else (none))) else (none)) else (none)) else (none)) else (none))) = some (r1, r2) := by rw [if_neg (show ¬ (false = true) by decide)] at H; exact H
    clear H
    have H := H1
    clear H1
    replace H := Option.bind_eq_some_iff.mp H
    obtain ⟨t104, A110, H⟩ := H
    replace H : (if t104.size + 1 ≤ 9223372036854775807 then (if (t104 ++ (⟨#[32]⟩ : ByteArray)).size + a1_0.size ≤ 9223372036854775807 then (if ((t104 ++ (⟨#[32]⟩ : ByteArray)) ++ a1_0).size + 1 ≤ 9223372036854775807 then (if (((t104 ++ (⟨#[32]⟩ : ByteArray)) ++ a1_0) ++ (⟨#[64]⟩ : ByteArray)).size + a1_1.size ≤ 9223372036854775807 then ((impl_AppendChecksum.f kj2 ((((t104 ++ (⟨#[32]⟩ : ByteArray)) ++ a1_0) ++ (⟨#[64]⟩ : ByteArray)) ++ a1_1)).bind fun bt105 => (if bt105.1.size + 1 ≤ 9223372036854775807 then (some (bt105.1 ++ (⟨#[10]⟩ : ByteArray), true)) else (none))) else (none)) else (none)) else (none)) else (none)) = some (r1, r2) := H
    have A11 := Aside0.mk A110
    clear A110
    by_cases c12 : t104.size + 1 ≤ 9223372036854775807
    ·rw [if_pos c12] at H
     have c12b0 := eq_true c12
     have c12b1 : decide (t104.size + 1 ≤ 9223372036854775807) = true := decide_eq_true c12
     try have c12b2 : (9223372036854775807 < t104.size + 1) = False := eq_false (Nat.not_lt.2 c12)
     by_cases c13 : (t104 ++ (⟨#[32]⟩ : ByteArray)).size + a1_0.size ≤ 9223372036854775807
     ·rw [if_pos c13] at H
      have c13b0 := eq_true c13
      have c13b1 : decide ((t104 ++ (⟨#[32]⟩ : ByteArray)).size + a1_0.size ≤ 9223372036854775807) = true := decide_eq_true c13
      try have c13n0 := c13b0
      try (push_cast [ByteArray.size_append, show (⟨#[32]⟩ : ByteArray).size = 1 from rfl] at c13n0)
      try have c13n1 := c13b1
      try (push_cast [ByteArray.size_append, show (⟨#[32]⟩ : ByteArray).size = 1 from rfl] at c13n1)
      try have c13b2 : (9223372036854775807 < (t104 ++ (⟨#[32]⟩ : ByteArray)).size + a1_0.size) = False := eq_false (Nat.not_lt.2 c13)
      try have c13b3 := c13b2
      try simp only [ByteArray.size_append, show (⟨#[32]⟩ : ByteArray).size = 1 from rfl] at c13b3
      by_cases c14 : ((t104 ++ (⟨#[32]⟩ : ByteArray)) ++ a1_0).size + 1 ≤ 9223372036854775807
      ·rw [if_pos c14] at H
       have c14b0 := eq_true c14
       have c14b1 : decide (((t104 ++ (⟨#[32]⟩ : ByteArray)) ++ a1_0).size + 1 ≤ 9223372036854775807) = true := decide_eq_true c14
       try have c14n0 := c14b0
       try (push_cast [ByteArray.size_append, show (⟨#[32]⟩ : ByteArray).size = 1 from rfl] at c14n0)
       try have c14n1 := c14b1
       try (push_cast [ByteArray.size_append, show (⟨#[32]⟩ : ByteArray).size = 1 from rfl] at c14n1)
       try have c14b2 : (9223372036854775807 < ((t104 ++ (⟨#[32]⟩ : ByteArray)) ++ a1_0).size + 1) = False := eq_false (Nat.not_lt.2 c14)
       try have c14b3 := c14b2
       try simp only [ByteArray.size_append, show (⟨#[32]⟩ : ByteArray).size = 1 from rfl] at c14b3
       by_cases c15 : (((t104 ++ (⟨#[32]⟩ : ByteArray)) ++ a1_0) ++ (⟨#[64]⟩ : ByteArray)).size + a1_1.size ≤ 9223372036854775807
       ·rw [if_pos c15] at H
        have c15b0 := eq_true c15
        have c15b1 : decide ((((t104 ++ (⟨#[32]⟩ : ByteArray)) ++ a1_0) ++ (⟨#[64]⟩ : ByteArray)).size + a1_1.size ≤ 9223372036854775807) = true := decide_eq_true c15
        try have c15n0 := c15b0
        try (push_cast [ByteArray.size_append, show (⟨#[32]⟩ : ByteArray).size = 1 from rfl, show (⟨#[64]⟩ : ByteArray).size = 1 from rfl] at c15n0)
        try have c15n1 := c15b1
        try (push_cast [ByteArray.size_append, show (⟨#[32]⟩ : ByteArray).size = 1 from rfl, show (⟨#[64]⟩ : ByteArray).size = 1 from rfl] at c15n1)
        try have c15b2 : (9223372036854775807 < (((t104 ++ (⟨#[32]⟩ : ByteArray)) ++ a1_0) ++ (⟨#[64]⟩ : ByteArray)).size + a1_1.size) = False := eq_false (Nat.not_lt.2 c15)
        try have c15b3 := c15b2
        try simp only [ByteArray.size_append, show (⟨#[32]⟩ : ByteArray).size = 1 from rfl, show (⟨#[64]⟩ : ByteArray).size = 1 from rfl] at c15b3
        replace H := Option.bind_eq_some_iff.mp H
        obtain ⟨⟨t105, t106⟩, A160, H⟩ := H
        replace H : (if t105.size + 1 ≤ 9223372036854775807 then (some (t105 ++ (⟨#[10]⟩ : ByteArray), true)) else (none)) = some (r1, r2) := H
        have A16 := Aside0.mk A160
        clear A160
        by_cases c17 : t105.size + 1 ≤ 9223372036854775807
        ·rw [if_pos c17] at H
         have c17b0 := eq_true c17
         have c17b1 : decide (t105.size + 1 ≤ 9223372036854775807) = true := decide_eq_true c17
         try have c17b2 : (9223372036854775807 < t105.size + 1) = False := eq_false (Nat.not_lt.2 c17)
         simp only [Option.some.injEq, Prod.mk.injEq] at H
         obtain ⟨rfl, rfl⟩ := H
         try go_wp2
         have n0_ := Aside0.mk (blk_drew BK101.out)
         have n1_ := Aside0.mk (below_drew1 HB.out)
         clear BK101
         clear HB
         have BK101 := n0_
         have HB := n1_
         clear n0_ n1_
         refine start_ (n := 16) (S := fun w' => w'.cell? ⟨gb101, 0, none⟩ = some (.string a1_0) ∧ w'.cell? ⟨gb101, 1, none⟩ = some (.string a1_1)) (ds := []) #[false, false, false, false, false, false, false, false, false, false, false, false, false, false, false, false] (by kernel_rfl) rfl rfl ⟨(blk_cell BK101.out 0).trans rfl, (blk_cell BK101.out 1).trans rfl⟩ (fun hHeld => ?_); refine with_tabW impl_EncodeRecord.tab3 impl_EncodeRecord.bits3 (fun HT_ HW_ => ?_)
         generalize wc.drew = w18 at BK101 HB hHeld ⊢
         refine pure_ (i := 0) (N := some 17) (v := ?_) (a' := ?_) #[true, false, false, false, false, false, false, false, false, false, false, false, false, false, false, false] rfl rfl (any_of HT_.out (by kernel_rfl)) (fun _ _ _ h => h) (Or.inl ⟨by rfl, ?_⟩) ?_ ?_
         rotate_left
         ·intro w'
          go_simp
          with_reducible rfl
         rotate_left
         ·simp only [Act.put, aS1, aS2, aS3, i64_w, i32_w]
          rfl
         refine pure_ (i := 3) (N := some 20) (v := ?_) (a' := ?_) #[true, false, false, true, false, false, false, false, false, false, false, false, false, false, false, false] rfl rfl (any_of HT_.out (by kernel_rfl)) (fun _ _ _ h => h) (Or.inl ⟨by rfl, ?_⟩) ?_ ?_
         rotate_left
         ·intro w'
          go_simp
          with_reducible rfl
         rotate_left
         ·simp only [Act.put, aS1, aS2, aS3, i64_w, i32_w]
          rfl
         refine pure_ (i := 7) (N := some 24) (v := ?_) (a' := ?_) #[true, false, false, true, false, false, false, true, false, false, false, false, false, false, false, false] rfl rfl (any_of HT_.out (by kernel_rfl)) (fun _ _ _ h => h) (Or.inl ⟨by rfl, ?_⟩) ?_ ?_
         rotate_left
         ·intro w'
          go_simp
          with_reducible rfl
         rotate_left
         ·simp only [Act.put, aS1, aS2, aS3, i64_w, i32_w]
          rfl
         refine take_ (i := 4) (N := some 21) (v := ?_) (a' := ?_) #[true, false, false, true, true, false, false, true, false, false, false, false, false, false, false, false] rfl rfl (take_ofW HT_.out HW_.out (by kernel_rfl)) (fun _ _ _ h => h) (Or.inl ⟨by rfl, ?_⟩) hHeld ?_ ?_
         rotate_left
         ·rintro w' ⟨s0, s1⟩
          go_simp
          with_reducible rfl
         rotate_left
         ·simp only [Act.put, aS1, aS2, aS3, i64_w, i32_w]
          rfl
         refine take_ (i := 8) (N := some 25) (v := ?_) (a' := ?_) #[true, false, false, true, true, false, false, true, true, false, false, false, false, false, false, false] rfl rfl (take_ofW HT_.out HW_.out (by kernel_rfl)) (fun _ _ _ h => h) (Or.inl ⟨by rfl, ?_⟩) hHeld ?_ ?_
         rotate_left
         ·rintro w' ⟨s0, s1⟩
          go_simp
          with_reducible rfl
         rotate_left
         ·simp only [Act.put, aS1, aS2, aS3, i64_w, i32_w]
          rfl
         refine one_ (i := 1) (N := some 18) #[true, true, false, true, true, false, false, true, true, false, false, false, false, false, false, false] rfl rfl (one_of HT_.out (by kernel_rfl)) (by decide) (fun K hK => ?_)
         refine goes_ Tryd.func47 (by kernel_rfl) rfl #[.int .i64 a0] (by rfl) rfl rfl (by (try simp only [aM1, aM2, aM3]); first | done | rfl | (simp only [List.length_drop, List.length_take]; rfl)) ?_
         with_reducible refine (strconv_Itoa.calls a0 t104 _ ?side1 A11.out).mono ?_
         (case side1 => first | exact GT.below HG.out (by repeat (first | (with_reducible first | exact HB.out | apply below_alloc | apply pw_below_drewN | apply below_drew1 | refine below_set ?_ GE101.out) | exact HB.out)) | (repeat (first | exact HG.out | (with_reducible first | apply GT.drewN | apply GT.drew | apply GT.alloc))))
         rintro e w19 ⟨rfl, hb⟩
         refine ⟨_, rfl, ?_⟩
         have n0_ := Aside0.mk (blk_below (g := gb101) (o := .cells #[.string a1_0, .string a1_1] 27 (0, 0)) (by (with_reducible repeat (first | refine blk_drewN ?_ _ | refine blk_drew ?_ | refine blk_alloc ?_ _)); exact BK101.out) hb)
         have n1_ := Aside0.mk (below_step (by repeat (first | (with_reducible first | exact HB.out | apply below_alloc | apply pw_below_drewN | apply below_drew1 | refine below_set ?_ GE101.out) | exact HB.out)) hb)
         clear BK101
         clear HB
         have BK101 := n0_
         have HB := n1_
         clear n0_ n1_
         (try clear hb)
         (try clear hb2)
         (try clear hk)
         (try clear hi)
         refine hK.out _ _ ⟨(blk_cell BK101.out 0).trans rfl, (blk_cell BK101.out 1).trans rfl⟩ (fun hHeld => ?_)
         clear hK K
         refine norm_ (a' := ?_) ?_ ?_
         rotate_left
         ·show Act.put _ (some 18) _ = _
          simp only [Act.put, aS1, aS2, aS3, i64_w, i32_w]
          rfl
         refine pure_ (i := 2) (N := some 19) (v := ?_) (a' := ?_) #[true, true, true, true, true, false, false, true, true, false, false, false, false, false, false, false] rfl rfl (any_of HT_.out (by kernel_rfl)) (fun _ _ _ h => h) (Or.inl ⟨by rfl, ?_⟩) ?_ ?_
         rotate_left
         ·intro w'
          go_simp
          with_reducible rfl
         rotate_left
         ·simp only [Act.put, aS1, aS2, aS3, i64_w, i32_w]
          rfl
         refine pure_ (i := 5) (N := some 22) (v := ?_) (a' := ?_) #[true, true, true, true, true, true, false, true, true, false, false, false, false, false, false, false] rfl rfl (any_of HT_.out (by kernel_rfl)) (fun _ _ _ h => h) (Or.inl ⟨by rfl, ?_⟩) ?_ ?_
         rotate_left
         ·intro w'
          go_simp
          with_reducible rfl
         rotate_left
         ·simp only [Act.put, aS1, aS2, aS3, i64_w, i32_w]
          rfl
         refine pure_ (i := 6) (N := some 23) (v := ?_) (a' := ?_) #[true, true, true, true, true, true, true, true, true, false, false, false, false, false, false, false] rfl rfl (any_of HT_.out (by kernel_rfl)) (fun _ _ _ h => h) (Or.inl ⟨by rfl, ?_⟩) ?_ ?_
         rotate_left
         ·intro w'
          go_simp
          with_reducible rfl
         rotate_left
         ·simp only [Act.put, aS1, aS2, aS3, i64_w, i32_w]
          rfl
         refine pure_ (i := 9) (N := some 26) (v := ?_) (a' := ?_) #[true, true, true, true, true, true, true, true, true, true, false, false, false, false, false, false] rfl rfl (any_of HT_.out (by kernel_rfl)) (fun _ _ _ h => h) (Or.inl ⟨by rfl, ?_⟩) ?_ ?_
         rotate_left
         ·intro w'
          go_simp
          with_reducible rfl
         rotate_left
         ·simp only [Act.put, aS1, aS2, aS3, i64_w, i32_w]
          rfl
         refine one_ (i := 10) (N := some 27) #[true, true, true, true, true, true, true, true, true, true, true, false, false, false, false, false] rfl rfl (one_of HT_.out (by kernel_rfl)) (by decide) (fun K hK => ?_)
         refine goes_ Tryd.func46 (by kernel_rfl) rfl #[.string ((((t104 ++ (⟨#[32]⟩ : ByteArray)) ++ a1_0) ++ (⟨#[64]⟩ : ByteArray)) ++ a1_1)] (by rfl) rfl rfl (by (try simp only [aM1, aM2, aM3]); first | done | rfl | (simp only [List.length_drop, List.length_take]; rfl)) ?_
         with_reducible refine (impl_AppendChecksum.calls kj2 ((((t104 ++ (⟨#[32]⟩ : ByteArray)) ++ a1_0) ++ (⟨#[64]⟩ : ByteArray)) ++ a1_1) t105 t106 _ ?side1 A16.out).mono ?_
         (case side1 => first | exact GT.below HG.out (by repeat (first | (with_reducible first | exact HB.out | apply below_alloc | apply pw_below_drewN | apply below_drew1 | refine below_set ?_ GE101.out) | exact HB.out)) | (repeat (first | exact HG.out | (with_reducible first | apply GT.drewN | apply GT.drew | apply GT.alloc))))
         rintro e w20 ⟨rfl, hb⟩
         refine ⟨_, rfl, ?_⟩
         have n0_ := Aside0.mk (blk_below (g := gb101) (o := .cells #[.string a1_0, .string a1_1] 27 (0, 0)) (by (with_reducible repeat (first | refine blk_drewN ?_ _ | refine blk_drew ?_ | refine blk_alloc ?_ _)); exact BK101.out) hb)
         have n1_ := Aside0.mk (below_step (by repeat (first | (with_reducible first | exact HB.out | apply below_alloc | apply pw_below_drewN | apply below_drew1 | refine below_set ?_ GE101.out) | exact HB.out)) hb)
         clear BK101
         clear HB
         have BK101 := n0_
         have HB := n1_
         clear n0_ n1_
         (try clear hb)
         (try clear hb2)
         (try clear hk)
         (try clear hi)
         refine hK.out _ _ ⟨(blk_cell BK101.out 0).trans rfl, (blk_cell BK101.out 1).trans rfl⟩ (fun hHeld => ?_)
         clear hK K
         refine norm_ (a' := ?_) ?_ ?_
         rotate_left
         ·show Act.put _ (some 27) _ = _
          simp only [Act.put, aS1, aS2, aS3, i64_w, i32_w]
          rfl
         refine pure_ (i := 11) (N := some 16) (v := ?_) (a' := ?_) #[true, true, true, true, true, true, true, true, true, true, true, true, false, false, false, false] rfl rfl (any_of HT_.out (by kernel_rfl)) (fun _ _ _ h => h) (Or.inl ⟨by rfl, ?_⟩) ?_ ?_
         rotate_left
         ·intro w'
          go_simp
          with_reducible rfl
         rotate_left
         ·simp only [Act.put, aS1, aS2, aS3, i64_w, i32_w]
          rfl
         refine pure_ (i := 12) (N := some 28) (v := ?_) (a' := ?_) #[true, true, true, true, true, true, true, true, true, true, true, true, true, false, false, false] rfl rfl (any_of HT_.out (by kernel_rfl)) (fun _ _ _ h => h) (Or.inl ⟨by rfl, ?_⟩) ?_ ?_
         rotate_left
         ·intro w'
          go_simp
          with_reducible rfl
         rotate_left
         ·simp only [Act.put, aS1, aS2, aS3, i64_w, i32_w]
          rfl
         refine pure_ (i := 13) (N := some 29) (v := ?_) (a' := ?_) #[true, true, true, true, true, true, true, true, true, true, true, true, true, true, false, false] rfl rfl (any_of HT_.out (by kernel_rfl)) (fun _ _ _ h => h) (Or.inl ⟨by rfl, ?_⟩) ?_ ?_
         rotate_left
         ·intro w'
          go_simp
          with_reducible rfl
         rotate_left
         ·simp only [Act.put, aS1, aS2, aS3, i64_w, i32_w]
          rfl
         refine pure_ (i := 14) (N := some 6) (v := ?_) (a' := ?_) #[true, true, true, true, true, true, true, true, true, true, true, true, true, true, true, false] rfl rfl (any_of HT_.out (by kernel_rfl)) (fun _ _ _ h => h) (Or.inl ⟨by rfl, ?_⟩) ?_ ?_
         rotate_left
         ·intro w'
          go_simp
          with_reducible rfl
         rotate_left
         ·simp only [Act.put, aS1, aS2, aS3, i64_w, i32_w]
          rfl
         refine pure_ (i := 15) (N := some 7) (v := ?_) (a' := ?_) #[true, true, true, true, true, true, true, true, true, true, true, true, true, true, true, true] rfl rfl (any_of HT_.out (by kernel_rfl)) (fun _ _ _ h => h) (Or.inl ⟨by rfl, ?_⟩) ?_ ?_
         rotate_left
         ·intro w'
          go_simp
          with_reducible rfl
         rotate_left
         ·simp only [Act.put, aS1, aS2, aS3, i64_w, i32_w]
          rfl
         refine done_ (done_of HT_.out (by kernel_rfl)) ?_
         try go_wp2
         go_ret2
         exact ⟨by first | rfl | (simp [errW_none, errW_some] <;> rfl) | (simp [*, errW_none, errW_some] <;> rfl), by repeat (first | (with_reducible first | exact HB.out | apply below_alloc | apply pw_below_drewN | apply below_drew1 | refine below_set ?_ GE101.out) | exact HB.out)⟩
        ·rw [if_neg c17] at H
         exact absurd H (by simp)
       ·rw [if_neg c15] at H
        exact absurd H (by simp)
      ·rw [if_neg c14] at H
       exact absurd H (by simp)
     ·rw [if_neg c13] at H
      exact absurd H (by simp)
    ·rw [if_neg c12] at H
     exact absurd H (by simp)

end Go.Proofs.YtblgaejagebeoaaDoor.X
namespace Go.Proofs.YtblgaejagebeoaaDoor.X
open Go.RowKit Go.Proofs.YtblgaejagebeoaaDoorW.PrintWords Go.Proofs.YtblgaejagebeoaaDoorW.PrintLast Go.Proofs.YtblgaejagebeoaaDoorW.PrintMore
attribute [local go_sem] max2_int min2_int max_two min_two max_three min_three max_four min_four   -- for this text's walks alone
set_option linter.unusedVariables false
set_option linter.unusedSimpArgs false

/-! ### laws_FnExactEncodeRecord: function 3 -/
def laws_FnExactEncodeRecord.f (k : Nat) (a0 : Int) (a1_0 : ByteArray) (a1_1 : ByteArray) : Option (Bool) := (laws_szLogRecord.f a1_0 a1_1 1048576).bind fun t102 => (if t102 < 0 then (some true) else ((laws_toLogRecord.f a1_0 a1_1).bind fun bt103 => ((spec_EncodeRecord.f k a0 bt103.1 bt103.2).bind fun bt105 => ((laws_toLogRecord.f a1_0 a1_1).bind fun bt107 => ((impl_EncodeRecord.f k a0 bt107.1 bt107.2).bind fun bt109 => (if bt109.1.toList = bt105.1.toList then (if (bt109.2 != bt105.2) = true then (some false) else (some true)) else (some false)))))))
theorem laws_FnExactEncodeRecord.mono : ∀ a0 a1 a2 k, LeO (laws_FnExactEncodeRecord.f k a0 a1 a2) (laws_FnExactEncodeRecord.f (k + 1) a0 a1 a2) := by
 intro a0 a1 a2 k
 unfold laws_FnExactEncodeRecord.f
 repeat' first
   | (with_reducible exact impl_EncodeRecord.mono _ _ _ _)
   | (with_reducible exact spec_EncodeRecord.mono _ _ _ _)
   | (with_reducible exact LeO.refl _)
   | (with_reducible exact LeO.none _)
   | (with_reducible refine LeO.ite ?_ ?_)
   | (with_reducible refine LeO.bind ?_ (fun _ => ?_))
   | exact impl_EncodeRecord.mono _ _ _ _
   | exact spec_EncodeRecord.mono _ _ _ _
   | exact LeO.none _
   | refine LeO.ite ?_ ?_
   | refine LeO.bind ?_ (fun _ => ?_)
set_option maxHeartbeats 8000000 in
set_option maxRecDepth 100000 in
theorem laws_FnExactEncodeRecord.calls (k : Nat) (a0 : Int) (a1_0 : ByteArray) (a1_1 : ByteArray) (r : Bool) (w : World) (hG : GT w) (h : laws_FnExactEncodeRecord.f k a0 a1_0 a1_1 = some r) :
  Calls Tryd.prog 3 #[.int .i64 a0, .agg #[.string a1_0, .string a1_1]] w fun e w' => e = .returned (.bool r) ∧ Below w.heap.size w w' := by
 have hu23 := Tryd.underlying23
 have HG := Aside0.mk hG
 clear hG
 have HB := Aside0.mk (Below.refl w.heap.size w)
 have H : ((laws_szLogRecord.f a1_0 a1_1 1048576).bind fun t102 => (if t102 < 0 then (some true) else ((laws_toLogRecord.f a1_0 a1_1).bind fun bt103 => ((spec_EncodeRecord.f k a0 bt103.1 bt103.2).bind fun bt105 => ((laws_toLogRecord.f a1_0 a1_1).bind fun bt107 => ((impl_EncodeRecord.f k a0 bt107.1 bt107.2).bind fun bt109 => (if bt109.1.toList = bt105.1.toList then (if (bt109.2 != bt105.2) = true then (some false) else (some true)) else (some false)))))))) = some r := h
 clear h
 replace H := Option.bind_eq_some_iff.mp H
 obtain ⟨t102, A30, H⟩ := H
 replace H : (if t102 < 0 then (some true) else ((laws_toLogRecord.f a1_0 a1_1).bind fun bt103 => ((spec_EncodeRecord.f k a0 bt103.1 bt103.2).bind fun bt105 => ((laws_toLogRecord.f a1_0 a1_1).bind fun bt107 => ((impl_EncodeRecord.f k a0 bt107.1 bt107.2).bind fun bt109 => (if bt109.1.toList = bt105.1.toList then (if (bt109.2 != bt105.2) = true then (some false) else (some true)) else (some false))))))) = some r := H
 have A3 := Aside0.mk A30
 clear A30
 by_cases c4 : t102 < 0
 ·rw [if_pos c4] at H
  have c4b0 : decide (t102 < 0) = true := decide_eq_true c4
  clear c4
  obtain rfl := Option.some.inj H
  go_enter Tryd.func3, Tryd.ntmps3
  go_wp2_with (first | ((with_reducible refine gate_dst (N := 3) rfl ?_); refine box_event ?hg (N := 3) ?hd (cs := #[.string a1_0, .string a1_1]) (t := 23) ?hr ?_; (case hd => rfl); (case hg => rfl); (case hr => first | (go_simp; done) | (go_simp; rfl)); intro gb101 hg w5 hbox hb; have n0_ := Aside0.mk (below_step (by repeat (first | (with_reducible first | exact HB.out | apply below_alloc | apply pw_below_drewN | apply below_drew1) | exact HB.out)) hb); have n1_ := Aside0.mk (hbox); have n2_ := Aside0.mk ((by rw [hg]; exact (below_size (by repeat (first | (with_reducible first | exact HB.out | apply below_alloc | apply pw_below_drewN | apply below_drew1) | exact HB.out))) : w.heap.size ≤ gb101)); have n3_ := Aside0.mk ((by rw [hg]; exact (below_size (by repeat (first | (with_reducible first | exact HB.out | apply below_alloc | apply pw_below_drewN | apply below_drew1) | exact HB.out))) : w.heap.size ≤ gb101)); clear HB; have HB := n0_; have BK101 := n1_; have GW101 := n2_; have GE101 := n3_; clear n0_ n1_ n2_ n3_; clear hb hbox hg; have hcz6_0 : w5.cell? ⟨gb101, 0, none⟩ = some (.string a1_0) := (blk_cell BK101.out 0).trans rfl; have hcz6_1 : w5.cell? ⟨gb101, 1, none⟩ = some (.string a1_1) := (blk_cell BK101.out 1).trans rfl; have hfz6_0 := blk_frozen BK101.out 0; have hfz6_1 := blk_frozen BK101.out 1) | ((with_reducible refine gate_callee (f := 13) rfl ?_); refine goesL_ (some 12) rfl rfl Tryd.func13 (by kernel_rfl) rfl #[.agg #[.string a1_0, .string a1_1], .int .i64 1048576] rfl (by (try simp only [aM1, aM2, aM3]); first | done | rfl | (simp only [List.length_drop, List.length_take]; rfl)) ?_; (with_reducible refine (laws_szLogRecord.calls a1_0 a1_1 1048576 t102 _ A3.out).mono ?_); rintro e w7 ⟨rfl, hb⟩; refine ⟨_, rfl, ?_⟩; have n0_ := Aside0.mk (blk_below (g := gb101) (o := .cells #[.string a1_0, .string a1_1] 23 (0, 0)) (by (with_reducible repeat (first | refine blk_drewN ?_ _ | refine blk_drew ?_ | refine blk_alloc ?_ _)); exact BK101.out) hb); have n1_ := Aside0.mk (below_step (by repeat (first | (with_reducible first | exact HB.out | apply below_alloc | apply pw_below_drewN | apply below_drew1 | refine below_set ?_ GE101.out) | exact HB.out)) hb); clear BK101; clear HB; have BK101 := n0_; have HB := n1_; clear n0_ n1_; (try clear hb); (try clear hb2); (try clear hk); (try clear hi)))
  go_ret
  exact ⟨by first | rfl | (simp [errW_none, errW_some] <;> rfl) | (simp [*, errW_none, errW_some] <;> rfl), by repeat (first | (with_reducible first | exact HB.out | apply below_alloc | apply pw_below_drewN | apply below_drew1 | refine below_set ?_ GE101.out) | exact HB.out)⟩
 ·rw [if_neg c4] at H
  have c4b0 : decide (t102 < 0) = false := decide_eq_false c4
  clear c4
  replace H := Option.bind_eq_some_iff.mp H
  obtain ⟨⟨t103, t104⟩, A80, H⟩ := H
  replace H : ((spec_EncodeRecord.f k a0 t103 t104).bind fun bt105 => ((laws_toLogRecord.f a1_0 a1_1).bind fun bt107 => ((impl_EncodeRecord.f k a0 bt107.1 bt107.2).bind fun bt109 => (if bt109.1.toList = bt105.1.toList then (if (bt109.2 != bt105.2) = true then (some false) else (some true)) else (some false))))) = some r := H
  have A8 := Aside0.mk A80
  clear A80
  replace H := Option.bind_eq_some_iff.mp H
  obtain ⟨⟨t105, t106⟩, A90, H⟩ := H
  replace H : ((laws_toLogRecord.f a1_0 a1_1).bind fun bt107 => ((impl_EncodeRecord.f k a0 bt107.1 bt107.2).bind fun bt109 => (if bt109.1.toList = t105.toList then (if (bt109.2 != t106) = true then (some false) else (some true)) else (some false)))) = some r := H
  have A9 := Aside0.mk A90
  clear A90
  replace H := Option.bind_eq_some_iff.mp H
  obtain ⟨⟨t107, t108⟩, A100, H⟩ := H
  replace H : ((impl_EncodeRecord.f k a0 t107 t108).bind fun bt109 => (if bt109.1.toList = t105.toList then (if (bt109.2 != t106) = true then (some false) else (some true)) else (some false))) = some r := H
  have A10 := Aside0.mk A100
  clear A100
  replace H := Option.bind_eq_some_iff.mp H
  obtain ⟨⟨t109, t110⟩, A110, H⟩ := H
  replace H : (if t109.toList = t105.toList then (if (t110 != t106) = true then (some false) else (some true)) else (some false)) = some r := H
  have A11 := Aside0.mk A110
  clear A110
  by_cases c12 : t109.toList = t105.toList
  ·rw [if_pos c12] at H
   have c12b0 : (t109.toList == t105.toList) = true := beq_iff_eq.mpr c12
   have c12b1 : (t109.toList != t105.toList) = false := bne_eq_false_iff_eq.mpr c12
   clear c12
   by_cases c13 : (t110 != t106) = true
   ·rw [if_pos c13] at H
    have c13b0 : (t110 != t106) = true := c13
    (try (have c13b1 : decide (t110 = t106) = false := by simpa using c13))
    (try (have c13b2 : (t110 == t106) = false := by simpa using c13))
    (try (have c13b3 : ¬ (t110 = t106) := by simpa using c13))
    clear c13
    obtain rfl := Option.some.inj H
    go_enter Tryd.func3, Tryd.ntmps3
    go_wp2_with (first | ((with_reducible refine gate_dst (N := 3) rfl ?_); refine box_event ?hg (N := 3) ?hd (cs := #[.string a1_0, .string a1_1]) (t := 23) ?hr ?_; (case hd => rfl); (case hg => rfl); (case hr => first | (go_simp; done) | (go_simp; rfl)); intro gb101 hg w14 hbox hb; have n0_ := Aside0.mk (below_step (by repeat (first | (with_reducible first | exact HB.out | apply below_alloc | apply pw_below_drewN | apply below_drew1) | exact HB.out)) hb); have n1_ := Aside0.mk (hbox); have n2_ := Aside0.mk ((by rw [hg]; exact (below_size (by repeat (first | (with_reducible first | exact HB.out | apply below_alloc | apply pw_below_drewN | apply below_drew1) | exact HB.out))) : w.heap.size ≤ gb101)); have n3_ := Aside0.mk ((by rw [hg]; exact (below_size (by repeat (first | (with_reducible first | exact HB.out | apply below_alloc | apply pw_below_drewN | apply below_drew1) | exact HB.out))) : w.heap.size ≤ gb101)); clear HB; have HB := n0_; have BK101 := n1_; have GW101 := n2_; have GE101 := n3_; clear n0_ n1_ n2_ n3_; clear hb hbox hg; have hcz15_0 : w14.cell? ⟨gb101, 0, none⟩ = some (.string a1_0) := (blk_cell BK101.out 0).trans rfl; have hcz15_1 : w14.cell? ⟨gb101, 1, none⟩ = some (.string a1_1) := (blk_cell BK101.out 1).trans rfl; have hfz15_0 := blk_frozen BK101.out 0; have hfz15_1 := blk_frozen BK101.out 1) | ((with_reducible refine gate_callee (f := 13) rfl ?_); refine goesL_ (some 12) rfl rfl Tryd.func13 (by kernel_rfl) rfl #[.agg #[.string a1_0, .string a1_1], .int .i64 1048576] rfl (by (try simp only [aM1, aM2, aM3]); first | done | rfl | (simp only [List.length_drop, List.length_take]; rfl)) ?_; (with_reducible refine (laws_szLogRecord.calls a1_0 a1_1 1048576 t102 _ A3.out).mono ?_); rintro e w16 ⟨rfl, hb⟩; refine ⟨_, rfl, ?_⟩; have n0_ := Aside0.mk (blk_below (g := gb101) (o := .cells #[.string a1_0, .string a1_1] 23 (0, 0)) (by (with_reducible repeat (first | refine blk_drewN ?_ _ | refine blk_drew ?_ | refine blk_alloc ?_ _)); exact BK101.out) hb); have n1_ := Aside0.mk (below_step (by repeat (first | (with_reducible first | exact HB.out | apply below_alloc | apply pw_below_drewN | apply below_drew1 | refine below_set ?_ GE101.out) | exact HB.out)) hb); clear BK101; clear HB; have BK101 := n0_; have HB := n1_; clear n0_ n1_; (try clear hb); (try clear hb2); (try clear hk); (try clear hi); have hcz17_0 : w16.cell? ⟨gb101, 0, none⟩ = some (.string a1_0) := (blk_cell BK101.out 0).trans rfl; have hcz17_1 : w16.cell? ⟨gb101, 1, none⟩ = some (.string a1_1) := (blk_cell BK101.out 1).trans rfl; have hfz17_0 := blk_frozen BK101.out 0; have hfz17_1 := blk_frozen BK101.out 1) | ((with_reducible refine gate_callee (f := 15) rfl ?_); refine goesL_ (some 18) rfl rfl Tryd.func15 (by kernel_rfl) rfl #[.agg #[.string a1_0, .string a1_1]] rfl (by (try simp only [aM1, aM2, aM3]); first | done | rfl | (simp only [List.length_drop, List.length_take]; rfl)) ?_; (with_reducible refine (laws_toLogRecord.calls a1_0 a1_1 t103 t104 _ A8.out).mono ?_); rintro e w18 ⟨rfl, hb⟩; refine ⟨_, rfl, ?_⟩; have n0_ := Aside0.mk (blk_below (g := gb101) (o := .cells #[.string a1_0, .string a1_1] 23 (0, 0)) (by (with_reducible repeat (first | refine blk_drewN ?_ _ | refine blk_drew ?_ | refine blk_alloc ?_ _)); exact BK101.out) hb); have n1_ := Aside0.mk (below_step (by repeat (first | (with_reducible first | exact HB.out | apply below_alloc | apply pw_below_drewN | apply below_drew1 | refine below_set ?_ GE101.out) | exact HB.out)) hb); clear BK101; clear HB; have BK101 := n0_; have HB := n1_; clear n0_ n1_; (try clear hb); (try clear hb2); (try clear hk); (try clear hi)) | ((with_reducible refine gate_callee (f := 14) rfl ?_); refine goesL_ (some 19) rfl rfl Tryd.func14 (by kernel_rfl) rfl #[.int .i64 a0, .agg #[.string t103, .string t104]] rfl (by (try simp only [aM1, aM2, aM3]); first | done | rfl | (simp only [List.length_drop, List.length_take]; rfl)) ?_; (with_reducible refine (spec_EncodeRecord.calls k a0 t103 t104 t105 t106 _ A9.out).mono ?_); rintro e w19 ⟨rfl, hb⟩; refine ⟨_, rfl, ?_⟩; have n0_ := Aside0.mk (blk_below (g := gb101) (o := .cells #[.string a1_0, .string a1_1] 23 (0, 0)) (by (with_reducible repeat (first | refine blk_drewN ?_ _ | refine blk_drew ?_ | refine blk_alloc ?_ _)); exact BK101.out) hb); have n1_ := Aside0.mk (below_step (by repeat (first | (with_reducible first | exact HB.out | apply below_alloc | apply pw_below_drewN | apply below_drew1 | refine below_set ?_ GE101.out) | exact HB.out)) hb); clear BK101; clear HB; have BK101 := n0_; have HB := n1_; clear n0_ n1_; (try clear hb); (try clear hb2); (try clear hk); (try clear hi); have hcz20_0 : w19.cell? ⟨gb101, 0, none⟩ = some (.string a1_0) := (blk_cell BK101.out 0).trans rfl; have hcz20_1 : w19.cell? ⟨gb101, 1, none⟩ = some (.string a1_1) := (blk_cell BK101.out 1).trans rfl; have hfz20_0 := blk_frozen BK101.out 0; have hfz20_1 := blk_frozen BK101.out 1) | ((with_reducible refine gate_callee (f := 15) rfl ?_); refine goesL_ (some 25) rfl rfl Tryd.func15 (by kernel_rfl) rfl #[.agg #[.string a1_0, .string a1_1]] rfl (by (try simp only [aM1, aM2, aM3]); first | done | rfl | (simp only [List.length_drop, List.length_take]; rfl)) ?_; (with_reducible refine (laws_toLogRecord.calls a1_0 a1_1 t107 t108 _ A10.out).mono ?_); rintro e w21 ⟨rfl, hb⟩; refine ⟨_, rfl, ?_⟩; have n0_ := Aside0.mk (blk_below (g := gb101) (o := .cells #[.string a1_0, .string a1_1] 23 (0, 0)) (by (with_reducible repeat (first | refine blk_drewN ?_ _ | refine blk_drew ?_ | refine blk_alloc ?_ _)); exact BK101.out) hb); have n1_ := Aside0.mk (below_step (by repeat (first | (with_reducible first | exact HB.out | apply below_alloc | apply pw_below_drewN | apply below_drew1 | refine below_set ?_ GE101.out) | exact HB.out)) hb); clear BK101; clear HB; have BK101 := n0_; have HB := n1_; clear n0_ n1_; (try clear hb); (try clear hb2); (try clear hk); (try clear hi)) | ((with_reducible refine gate_callee (f := 16) rfl ?_); refine goesL_ (some 26) rfl rfl Tryd.func16 (by kernel_rfl) rfl #[.int .i64 a0, .agg #[.string t107, .string t108]] rfl (by (try simp only [aM1, aM2, aM3]); first | done | rfl | (simp only [List.length_drop, List.length_take]; rfl)) ?_; (with_reducible refine (impl_EncodeRecord.calls k a0 t107 t108 t109 t110 _ ?side1 A11.out).mono ?_); (case side1 => first | exact GT.below HG.out (by repeat (first | (with_reducible first | exact HB.out | apply below_alloc | apply pw_below_drewN | apply below_drew1 | refine below_set ?_ GE101.out) | exact HB.out)) | (repeat (first | exact HG.out | (with_reducible first | apply GT.drewN | apply GT.drew | apply GT.alloc)))); rintro e w22 ⟨rfl, hb⟩; refine ⟨_, rfl, ?_⟩; have n0_ := Aside0.mk (blk_below (g := gb101) (o := .cells #[.string a1_0, .string a1_1] 23 (0, 0)) (by (with_reducible repeat (first | refine blk_drewN ?_ _ | refine blk_drew ?_ | refine blk_alloc ?_ _)); exact BK101.out) hb); have n1_ := Aside0.mk (below_step (by repeat (first | (with_reducible first | exact HB.out | apply below_alloc | apply pw_below_drewN | apply below_drew1 | refine below_set ?_ GE101.out) | exact HB.out)) hb); clear BK101; clear HB; have BK101 := n0_; have HB := n1_; clear n0_ n1_; (try clear hb); (try clear hb2); (try clear hk); (try clear hi)))
    go_ret
    exact ⟨by first | rfl | (simp [errW_none, errW_some] <;> rfl) | (simp [*, errW_none, errW_some] <;> rfl), by repeat (first | (with_reducible first | exact HB.out | apply below_alloc | apply pw_below_drewN | apply below_drew1 | refine below_set ?_ GE101.out) | exact HB.out)⟩
   ·rw [if_neg c13] at H
    have c13b0 : (t110 != t106) = false := by simpa using c13
    (try (have c13b1 : decide (t110 = t106) = true := by simpa using c13))
    (try (have c13b2 : (t110 == t106) = true := by simpa using c13))
    clear c13
    obtain rfl := Option.some.inj H
    go_enter Tryd.func3, Tryd.ntmps3
    go_wp2_with (first | ((with_reducible refine gate_dst (N := 3) rfl ?_); refine box_event ?hg (N := 3) ?hd (cs := #[.string a1_0, .string a1_1]) (t := 23) ?hr ?_; (case hd => rfl); (case hg => rfl); (case hr => first | (go_simp; done) | (go_simp; rfl)); intro gb101 hg w23 hbox hb; have n0_ := Aside0.mk (below_step (by repeat (first | (with_reducible first | exact HB.out | apply below_alloc | apply pw_below_drewN | apply below_drew1) | exact HB.out)) hb); have n1_ := Aside0.mk (hbox); have n2_ := Aside0.mk ((by rw [hg]; exact (below_size (by repeat (first | (with_reducible first | exact HB.out | apply below_alloc | apply pw_below_drewN | apply below_drew1) | exact HB.out))) : w.heap.size ≤ gb101)); have n3_ := Aside0.mk ((by rw [hg]; exact (below_size (by repeat (first | (with_reducible first | exact HB.out | apply below_alloc | apply pw_below_drewN | apply below_drew1) | exact HB.out))) : w.heap.size ≤ gb101)); clear HB; have HB := n0_; have BK101 := n1_; have GW101 := n2_; have GE101 := n3_; clear n0_ n1_ n2_ n3_; clear hb hbox hg; have hcz24_0 : w23.cell? ⟨gb101, 0, none⟩ = some (.string a1_0) := (blk_cell BK101.out 0).trans rfl; have hcz24_1 : w23.cell? ⟨gb101, 1, none⟩ = some (.string a1_1) := (blk_cell BK101.out 1).trans rfl; have hfz24_0 := blk_frozen BK101.out 0; have hfz24_1 := blk_frozen BK101.out 1) | ((with_reducible refine gate_callee (f := 13) rfl ?_); refine goesL_ (some 12) rfl rfl Tryd.func13 (by kernel_rfl) rfl #[.agg #[.string a1_0, .string a1_1], .int .i64 1048576] rfl (by (try simp only [aM1, aM2, aM3]); first | done | rfl | (simp only [List.length_drop, List.length_take]; rfl)) ?_; (with_reducible refine (laws_szLogRecord.calls a1_0 a1_1 1048576 t102 _ A3.out).mono ?_); rintro e w25 ⟨rfl, hb⟩; refine ⟨_, rfl, ?_⟩; have n0_ := Aside0.mk (blk_below (g := gb101) (o := .cells #[.string a1_0, .string a1_1] 23 (0, 0)) (by (with_reducible repeat (first | refine blk_drewN ?_ _ | refine blk_drew ?_ | refine blk_alloc ?_ _)); exact BK101.out) hb); have n1_ := Aside0.mk (below_step (by repeat (first | (with_reducible first | exact HB.out | apply below_alloc | apply pw_below_drewN | apply below_drew1 | refine below_set ?_ GE101.out) | exact HB.out)) hb); clear BK101; clear HB; have BK101 := n0_; have HB := n1_; clear n0_ n1_; (try clear hb); (try clear hb2); (try clear hk); (try clear hi); have hcz26_0 : w25.cell? ⟨gb101, 0, none⟩ = some (.string a1_0) := (blk_cell BK101.out 0).trans rfl; have hcz26_1 : w25.cell? ⟨gb101, 1, none⟩ = some (.string a1_1) := (blk_cell BK101.out 1).trans rfl; have hfz26_0 := blk_frozen BK101.out 0; have hfz26_1 := blk_frozen BK101.out 1) | ((with_reducible refine gate_callee (f := 15) rfl ?_); refine goesL_ (some 18) rfl rfl Tryd.func15 (by kernel_rfl) rfl #[.agg #[.string a1_0, .string a1_1]] rfl (by (try simp only [aM1, aM2, aM3]); first | done | rfl | (simp only [List.length_drop, List.length_take]; rfl)) ?_; (with_reducible refine (laws_toLogRecord.calls a1_0 a1_1 t103 t104 _ A8.out).mono ?_); rintro e w27 ⟨rfl, hb⟩; refine ⟨_, rfl, ?_⟩; have n0_ := Aside0.mk (blk_below (g := gb101) (o := .cells #[.string a1_0, .string a1_1] 23 (0, 0)) (by (with_reducible repeat (first | refine blk_drewN ?_ _ | refine blk_drew ?_ | refine blk_alloc ?_ _)); exact BK101.out) hb); have n1_ := Aside0.mk (below_step (by repeat (first | (with_reducible first | exact HB.out | apply below_alloc | apply pw_below_drewN | apply below_drew1 | refine below_set ?_ GE101.out) | exact HB.out)) hb); clear BK101; clear HB; have BK101 := n0_; have HB := n1_; clear n0_ n1_; (try clear hb); (try clear hb2); (try clear hk); (try clear hi)) | ((with_reducible refine gate_callee (f := 14) rfl ?_); refine goesL_ (some 19) rfl rfl Tryd.func14 (by kernel_rfl) rfl #[.int .i64 a0, .agg #[.string t103, .string t104]] rfl (by (try simp only [aM1, aM2, aM3]); first | done | rfl | (simp only [List.length_drop, List.length_take]; rfl)) ?_; (with_reducible refine (spec_EncodeRecord.calls k a0 t103 t104 t105 t106 _ A9.out).mono ?_); rintro e w28 ⟨rfl, hb⟩; refine ⟨_, rfl, ?_⟩; have n0_ := Aside0.mk (blk_below (g := gb101) (o := .cells #[.string a1_0, .string a1_1] 23 (0, 0)) (by (with_reducible repeat (first | refine blk_drewN ?_ _ | refine blk_drew ?_ | refine blk_alloc ?_ _)); exact BK101.out) hb); have n1_ := Aside0.mk (below_step (by repeat (first | (with_reducible first | exact HB.out | apply below_alloc | apply pw_below_drewN | apply below_drew1 | refine below_set ?_ GE101.out) | exact HB.out)) hb); clear BK101; clear HB; have BK101 := n0_; have HB := n1_; clear n0_ n1_; (try clear hb); (try clear hb2); (try clear hk); (try clear hi); have hcz29_0 : w28.cell? ⟨gb101, 0, none⟩ = some (.string a1_0) := (blk_cell BK101.out 0).trans rfl; have hcz29_1 : w28.cell? ⟨gb101, 1, none⟩ = some (.string a1_1) := (blk_cell BK101.out 1).trans rfl; have hfz29_0 := blk_frozen BK101.out 0; have hfz29_1 := blk_frozen BK101.out 1) | ((with_reducible refine gate_callee (f := 15) rfl ?_); refine goesL_ (some 25) rfl rfl Tryd.func15 (by kernel_rfl) rfl #[.agg #[.string a1_0, .string a1_1]] rfl (by (try simp only [aM1, aM2, aM3]); first | done | rfl | (simp only [List.length_drop, List.length_take]; rfl)) ?_; (with_reducible refine (laws_toLogRecord.calls a1_0 a1_1 t107 t108 _ A10.out).mono ?_); rintro e w30 ⟨rfl, hb⟩; refine ⟨_, rfl, ?_⟩; have n0_ := Aside0.mk (blk_below (g := gb101) (o := .cells #[.string a1_0, .string a1_1] 23 (0, 0)) (by (with_reducible repeat (first | refine blk_drewN ?_ _ | refine blk_drew ?_ | refine blk_alloc ?_ _)); exact BK101.out) hb); have n1_ := Aside0.mk (below_step (by repeat (first | (with_reducible first | exact HB.out | apply below_alloc | apply pw_below_drewN | apply below_drew1 | refine below_set ?_ GE101.out) | exact HB.out)) hb); clear BK101; clear HB; have BK101 := n0_; have HB := n1_; clear n0_ n1_; (try clear hb); (try clear hb2); (try clear hk); (try clear hi)) | ((with_reducible refine gate_callee (f := 16) rfl ?_); refine goesL_ (some 26) rfl rfl Tryd.func16 (by kernel_rfl) rfl #[.int .i64 a0, .agg #[.string t107, .string t108]] rfl (by (try simp only [aM1, aM2, aM3]); first | done | rfl | (simp only [List.length_drop, List.length_take]; rfl)) ?_; (with_reducible refine (impl_EncodeRecord.calls k a0 t107 t108 t109 t110 _ ?side1 A11.out).mono ?_); (case side1 => first | exact GT.below HG.out (by repeat (first | (with_reducible first | exact HB.out | apply below_alloc | apply pw_below_drewN | apply below_drew1 | refine below_set ?_ GE101.out) | exact HB.out)) | (repeat (first | exact HG.out | (with_reducible first | apply GT.drewN | apply GT.drew | apply GT.alloc)))); rintro e w31 ⟨rfl, hb⟩; refine ⟨_, rfl, ?_⟩; have n0_ := Aside0.mk (blk_below (g := gb101) (o := .cells #[.string a1_0, .string a1_1] 23 (0, 0)) (by (with_reducible repeat (first | refine blk_drewN ?_ _ | refine blk_drew ?_ | refine blk_alloc ?_ _)); exact BK101.out) hb); have n1_ := Aside0.mk (below_step (by repeat (first | (with_reducible first | exact HB.out | apply below_alloc | apply pw_below_drewN | apply below_drew1 | refine below_set ?_ GE101.out) | exact HB.out)) hb); clear BK101; clear HB; have BK101 := n0_; have HB := n1_; clear n0_ n1_; (try clear hb); (try clear hb2); (try clear hk); (try clear hi)))
    go_ret
    exact ⟨by first | rfl | (simp [errW_none, errW_some] <;> rfl) | (simp [*, errW_none, errW_some] <;> rfl), by repeat (first | (with_reducible first | exact HB.out | apply below_alloc | apply pw_below_drewN | apply below_drew1 | refine below_set ?_ GE101.out) | exact HB.out)⟩
  ·rw [if_neg c12] at H
   have c12b0 : (t109.toList == t105.toList) = false := beq_eq_false_iff_ne.mpr c12
   have c12b1 : (t109.toList != t105.toList) = true := bne_iff_ne.mpr c12
   obtain rfl := Option.some.inj H
   go_enter Tryd.func3, Tryd.ntmps3
   go_wp2_with (first | ((with_reducible refine gate_dst (N := 3) rfl ?_); refine box_event ?hg (N := 3) ?hd (cs := #[.string a1_0, .string a1_1]) (t := 23) ?hr ?_; (case hd => rfl); (case hg => rfl); (case hr => first | (go_simp; done) | (go_simp; rfl)); intro gb101 hg w32 hbox hb; have n0_ := Aside0.mk (below_step (by repeat (first | (with_reducible first | exact HB.out | apply below_alloc | apply pw_below_drewN | apply below_drew1) | exact HB.out)) hb); have n1_ := Aside0.mk (hbox); have n2_ := Aside0.mk ((by rw [hg]; exact (below_size (by repeat (first | (with_reducible first | exact HB.out | apply below_alloc | apply pw_below_drewN | apply below_drew1) | exact HB.out))) : w.heap.size ≤ gb101)); have n3_ := Aside0.mk ((by rw [hg]; exact (below_size (by repeat (first | (with_reducible first | exact HB.out | apply below_alloc | apply pw_below_drewN | apply below_drew1) | exact HB.out))) : w.heap.size ≤ gb101)); clear HB; have HB := n0_; have BK101 := n1_; have GW101 := n2_; have GE101 := n3_; clear n0_ n1_ n2_ n3_; clear hb hbox hg; have hcz33_0 : w32.cell? ⟨gb101, 0, none⟩ = some (.string a1_0) := (blk_cell BK101.out 0).trans rfl; have hcz33_1 : w32.cell? ⟨gb101, 1, none⟩ = some (.string a1_1) := (blk_cell BK101.out 1).trans rfl; have hfz33_0 := blk_frozen BK101.out 0; have hfz33_1 := blk_frozen BK101.out 1) | ((with_reducible refine gate_callee (f := 13) rfl ?_); refine goesL_ (some 12) rfl rfl Tryd.func13 (by kernel_rfl) rfl #[.agg #[.string a1_0, .string a1_1], .int .i64 1048576] rfl (by (try simp only [aM1, aM2, aM3]); first | done | rfl | (simp only [List.length_drop, List.length_take]; rfl)) ?_; (with_reducible refine (laws_szLogRecord.calls a1_0 a1_1 1048576 t102 _ A3.out).mono ?_); rintro e w34 ⟨rfl, hb⟩; refine ⟨_, rfl, ?_⟩; have n0_ := Aside0.mk (blk_below (g := gb101) (o := .cells #[.string a1_0, .string a1_1] 23 (0, 0)) (by (with_reducible repeat (first | refine blk_drewN ?_ _ | refine blk_drew ?_ | refine blk_alloc ?_ _)); exact BK101.out) hb); have n1_ := Aside0.mk (below_step (by repeat (first | (with_reducible first | exact HB.out | apply below_alloc | apply pw_below_drewN | apply below_drew1 | refine below_set ?_ GE101.out) | exact HB.out)) hb); clear BK101; clear HB; have BK101 := n0_; have HB := n1_; clear n0_ n1_; (try clear hb); (try clear hb2); (try clear hk); (try clear hi); have hcz35_0 : w34.cell? ⟨gb101, 0, none⟩ = some (.string a1_0) := (blk_cell BK101.out 0).trans rfl; have hcz35_1 : w34.cell? ⟨gb101, 1, none⟩ = some (.string a1_1) := (blk_cell BK101.out 1).trans rfl; have hfz35_0 := blk_frozen BK101.out 0; have hfz35_1 := blk_frozen BK101.out 1) | ((with_reducible refine gate_callee (f := 15) rfl ?_); refine goesL_ (some 18) rfl rfl Tryd.func15 (by kernel_rfl) rfl #[.agg #[.string a1_0, .string a1_1]] rfl (by (try simp only [aM1, aM2, aM3]); first | done | rfl | (simp only [List.length_drop, List.length_take]; rfl)) ?_; (with_reducible refine (laws_toLogRecord.calls a1_0 a1_1 t103 t104 _ A8.out).mono ?_); rintro e w36 ⟨rfl, hb⟩; refine ⟨_, rfl, ?_⟩; have n0_ := Aside0.mk (blk_below (g := gb101) (o := .cells #[.string a1_0, .string a1_1] 23 (0, 0)) (by (with_reducible repeat (first | refine blk_drewN ?_ _ | refine blk_drew ?_ | refine blk_alloc ?_ _)); exact BK101.out) hb); have n1_ := Aside0.mk (below_step (by repeat (first | (with_reducible first | exact HB.out | apply below_alloc | apply pw_below_drewN | apply below_drew1 | refine below_set ?_ GE101.out) | exact HB.out)) hb); clear BK101; clear HB; have BK101 := n0_; have HB := n1_; clear n0_ n1_; (try clear hb); (try clear hb2); (try clear hk); (try clear hi)) | ((with_reducible refine gate_callee (f := 14) rfl ?_); refine goesL_ (some 19) rfl rfl Tryd.func14 (by kernel_rfl) rfl #[.int .i64 a0, .agg #[.string t103, .string t104]] rfl (by (try simp only [aM1, aM2, aM3]); first | done | rfl | (simp only [List.length_drop, List.length_take]; rfl)) ?_; (with_reducible refine (spec_EncodeRecord.calls k a0 t103 t104 t105 t106 _ A9.out).mono ?_); rintro e w37 ⟨rfl, hb⟩; refine ⟨_, rfl, ?_⟩; have n0_ := Aside0.mk (blk_below (g := gb101) (o := .cells #[.string a1_0, .string a1_1] 23 (0, 0)) (by (with_reducible repeat (first | refine blk_drewN ?_ _ | refine blk_drew ?_ | refine blk_alloc ?_ _)); exact BK101.out) hb); have n1_ := Aside0.mk (below_step (by repeat (first | (with_reducible first | exact HB.out | apply below_alloc | apply pw_below_drewN | apply below_drew1 | refine below_set ?_ GE101.out) | exact HB.out)) hb); clear BK101; clear HB; have BK101 := n0_; have HB := n1_; clear n0_ n1_; (try clear hb); (try clear hb2); (try clear hk); (try clear hi); have hcz38_0 : w37.cell? ⟨gb101, 0, none⟩ = some (.string a1_0) := (blk_cell BK101.out 0).trans rfl; have hcz38_1 : w37.cell? ⟨gb101, 1, none⟩ = some (.string a1_1) := (blk_cell BK101.out 1).trans rfl; have hfz38_0 := blk_frozen BK101.out 0; have hfz38_1 := blk_frozen BK101.out 1) | ((with_reducible refine gate_callee (f := 15) rfl ?_); refine goesL_ (some 25) rfl rfl Tryd.func15 (by kernel_rfl) rfl #[.agg #[.string a1_0, .string a1_1]] rfl (by (try simp only [aM1, aM2, aM3]); first | done | rfl | (simp only [List.length_drop, List.length_take]; rfl)) ?_; (with_reducible refine (laws_toLogRecord.calls a1_0 a1_1 t107 t108 _ A10.out).mono ?_); rintro e w39 ⟨rfl, hb⟩; refine ⟨_, rfl, ?_⟩; have n0_ := Aside0.mk (blk_below (g := gb101) (o := .cells #[.string a1_0, .string a1_1] 23 (0, 0)) (by (with_reducible repeat (first | refine blk_drewN ?_ _ | refine blk_drew ?_ | refine blk_alloc ?_ _)); exact BK101.out) hb); have n1_ := Aside0.mk (below_step (by repeat (first | (with_reducible first | exact HB.out | apply below_alloc | apply pw_below_drewN | apply below_drew1 | refine below_set ?_ GE101.out) | exact HB.out)) hb); clear BK101; clear HB; have BK101 := n0_; have HB := n1_; clear n0_ n1_; (try clear hb); (try clear hb2); (try clear hk); (try clear hi)) | ((with_reducible refine gate_callee (f := 16) rfl ?_); refine goesL_ (some 26) rfl rfl Tryd.func16 (by kernel_rfl) rfl #[.int .i64 a0, .agg #[.string t107, .string t108]] rfl (by (try simp only [aM1, aM2, aM3]); first | done | rfl | (simp only [List.length_drop, List.length_take]; rfl)) ?_; (with_reducible refine (impl_EncodeRecord.calls k a0 t107 t108 t109 t110 _ ?side1 A11.out).mono ?_); (case side1 => first | exact GT.below HG.out (by repeat (first | (with_reducible first | exact HB.out | apply below_alloc | apply pw_below_drewN | apply below_drew1 | refine below_set ?_ GE101.out) | exact HB.out)) | (repeat (first | exact HG.out | (with_reducible first | apply GT.drewN | apply GT.drew | apply GT.alloc)))); rintro e w40 ⟨rfl, hb⟩; refine ⟨_, rfl, ?_⟩; have n0_ := Aside0.mk (blk_below (g := gb101) (o := .cells #[.string a1_0, .string a1_1] 23 (0, 0)) (by (with_reducible repeat (first | refine blk_drewN ?_ _ | refine blk_drew ?_ | refine blk_alloc ?_ _)); exact BK101.out) hb); have n1_ := Aside0.mk (below_step (by repeat (first | (with_reducible first | exact HB.out | apply below_alloc | apply pw_below_drewN | apply below_drew1 | refine below_set ?_ GE101.out) | exact HB.out)) hb); clear BK101; clear HB; have BK101 := n0_; have HB := n1_; clear n0_ n1_; (try clear hb); (try clear hb2); (try clear hk); (try clear hi)))
   go_ret
   exact ⟨by first | rfl | (simp [errW_none, errW_some] <;> rfl) | (simp [*, errW_none, errW_some] <;> rfl), by repeat (first | (with_reducible first | exact HB.out | apply below_alloc | apply pw_below_drewN | apply below_drew1 | refine below_set ?_ GE101.out) | exact HB.out)⟩

end Go.Proofs.YtblgaejagebeoaaDoor.X
set_option linter.unusedVariables false
set_option linter.unusedSimpArgs false
namespace Go.Proofs.YtblgaejagebeoaaDoor.Open
open Go.RowKit Go.Proofs.YtblgaejagebeoaaDoorW.PrintWords

/-- What reads at type t is of kind d, and good. -/
def Opens (P : Program) (t : TypeId) {α : Type} (d : Kd α) (good : α → Prop) : Prop :=
  ∀ (H : Type) (enc : TypeId × Value → H) (w : World) (fuel : Nat) (cs : List Value) (x : DataW H × List MemPlace),
    DataW.trod enc P w 0 (fun _ => true) true fuel t cs = some x → ∃ a, d.K w a cs ∧ good a

theorem Opens.weak {P : Program} {t : TypeId} {α : Type} {d : Kd α} {good good' : α → Prop} (h : Opens P t d good) (hg : ∀ a, good a → good' a) : Opens P t d good' := by
  intro H enc w fuel cs x hx
  obtain ⟨a, h1, h2⟩ := h H enc w fuel cs x hx
  exact ⟨a, h1, hg a h2⟩

theorem opens_int {P : Program} {t : TypeId} {k : IntKind} (ht : P.underlying t = some (.int k)) : Opens P t (Kd.int k) (fun n => (Lit.int k n).wf = true) := by
  intro H enc w fuel cs x hx
  obtain ⟨n, rfl, _, hw⟩ := DataW.trod_int ht hx
  exact ⟨n, rfl, hw⟩
theorem opens_bool {P : Program} {t : TypeId} (ht : P.underlying t = some .bool) : Opens P t Kd.bool (fun _ => True) := by
  intro H enc w fuel cs x hx
  obtain ⟨n, rfl, _⟩ := DataW.trod_bool ht hx
  exact ⟨n, rfl, trivial⟩
theorem opens_string {P : Program} {t : TypeId} (ht : P.underlying t = some .string) : Opens P t Kd.string (fun s => s.size ≤ 9223372036854775807) := by
  intro H enc w fuel cs x hx
  obtain ⟨n, rfl, _, hw⟩ := DataW.trod_string ht hx
  exact ⟨n, rfl, by simpa [maxLen] using hw⟩

theorem cells_each {w : World} {a : Addr} {n : Nat} {cs : List Value} (h : w.cells? 0 a n = some cs) : cs.length = n ∧ ∀ i u, cs[i]? = some u → w.cell? (a.add i) = some u := by
  have h1 := World.cells?_some h
  refine ⟨h1.2.1, fun i u hu => ?_⟩
  have hi : i < n := by
    have := (List.getElem?_eq_some_iff.1 hu).1
    omega
  rw [h1.2.2 i hi, hu]

theorem opens_slice {P : Program} {t e : TypeId} {α : Type} {d : Kd α} {g : α → Prop} (ht : P.underlying t = some (.slice e)) (hsz : P.cellsOf e = d.sz) (h : Opens P e d g) :
    Opens P t (Kd.slice e d) (fun xs => xs.length ≤ 9223372036854775807 ∧ ∀ x ∈ xs, g x) := by
  intro H enc w fuel cs x hx
  rcases DataW.trod_slice ht hx with ⟨rfl, _⟩ | ⟨a, len, cap, elems, rest, n, rfl, rfl, _, _, hlc, hcap, hel, hget, _, _⟩
  · exact ⟨[], ⟨none, 0, rfl, Nat.le_refl _, Kd.C_nil d w⟩, by simp, by simp⟩
  · simp only [maxLen] at hcap
    have each : ∀ i, i < len → ∃ b : α, ∃ c : List Value, c.length = d.sz ∧ d.K w b c ∧ g b ∧ ∀ j u, c[j]? = some u → w.cell? (a.add (i * d.sz + j)) = some u := by
      intro i hi
      have h1 := hget i hi
      obtain ⟨y, hy⟩ : ∃ y, elems[i]? = some y := ⟨_, List.getElem?_eq_getElem (by omega)⟩
      rw [hy] at h1
      obtain ⟨c, hc, ht'⟩ := Option.bind_eq_some_iff.1 h1
      obtain ⟨b, hK, hg⟩ := h H enc w n c y ht'
      obtain ⟨hl, hcell⟩ := cells_each hc
      refine ⟨b, c, hl.trans hsz, hK, hg, fun j u hu => ?_⟩
      have := hcell j u hu
      rw [Deep.add_add, hsz] at this
      exact this
    have mk : ∀ m, m ≤ len → ∃ xs : List α, xs.length = m ∧ (∀ x ∈ xs, g x) ∧ ∀ j p, xs[j]? = some p → ∃ c, c.length = d.sz ∧ d.K w p c ∧ ∀ i u, c[i]? = some u → w.cell? (a.add (j * d.sz + i)) = some u := by
      intro m
      induction m with
      | zero => exact fun _ => ⟨[], rfl, by simp, by simp⟩
      | succ m ih =>
        intro hm
        obtain ⟨xs, hl, hg, hx⟩ := ih (by omega)
        obtain ⟨b, c, hc1, hc2, hc3, hc4⟩ := each m (by omega)
        refine ⟨xs ++ [b], by simp [hl], ?_, ?_⟩
        · intro x hx'
          rcases List.mem_append.1 hx' with hx' | hx'
          · exact hg x hx'
          · rw [List.mem_singleton.1 hx']; exact hc3
        · intro j p hj
          by_cases hjm : j < m
          · rw [List.getElem?_append_left (by omega)] at hj
            exact hx j p hj
          · have hlt := (List.getElem?_eq_some_iff.1 hj).1
            simp only [List.length_append, List.length_cons, List.length_nil] at hlt
            obtain rfl : j = m := by omega
            rw [List.getElem?_append_right (by omega), hl, Nat.sub_self] at hj
            simp only [List.getElem?_cons_zero, Option.some.injEq] at hj
            subst hj
            exact ⟨c, hc1, hc2, hc4⟩
    obtain ⟨ys, hl, hg, hy⟩ := mk len (Nat.le_refl _)
    subst hl
    exact ⟨ys, ⟨some a, cap, rfl, hlc, rfl, by omega, fun _ => ⟨a, rfl, hy⟩⟩, by omega, hg⟩

/-! A struct: its fields in line. -/
def offs (L : List (TypeId × Nat)) (i : Nat) : Nat := ((L.take i).map (·.2)).sum
def Sect (P : Program) (L : List (TypeId × Nat)) {α : Type} (d : Kd α) (good : α → Prop) : Prop :=
  ∀ (H : Type) (enc : TypeId × Value → H) (w : World) (n : Nat) (cs : List Value), cs.length = (L.map (·.2)).sum →
    (∀ i p, L[i]? = some p → ∃ y, DataW.trod enc P w 0 (fun _ => true) true n p.1 ((cs.drop (offs L i)).take p.2) = some y) → ∃ a, d.K w a cs ∧ good a
theorem sect_one {P : Program} {t : TypeId} {s : Nat} {α : Type} {d : Kd α} {g : α → Prop} (h : Opens P t d g) : Sect P [(t, s)] d g := by
  intro H enc w n cs hl hf
  obtain ⟨y, hy⟩ := hf 0 _ rfl
  simp only [offs, List.take_zero, List.map_nil, List.sum_nil, List.drop_zero] at hy
  rw [List.take_of_length_le (by simp at hl; omega)] at hy
  exact h H enc w n cs y hy
theorem sect_cons {P : Program} {t : TypeId} {s : Nat} {L : List (TypeId × Nat)} {α β : Type} {d : Kd α} {d' : Kd β} {g : α → Prop} {g' : β → Prop} (h : Opens P t d g) (h' : Sect P L d' g') :
    Sect P ((t, s) :: L) (Kd.pair d d') (fun x => g x.1 ∧ g' x.2) := by
  intro H enc w n cs hl hf
  obtain ⟨y, hy⟩ := hf 0 _ rfl
  simp only [offs, List.take_zero, List.map_nil, List.sum_nil, List.drop_zero] at hy
  obtain ⟨a, ha, hga⟩ := h H enc w n _ y hy
  obtain ⟨b, hb, hgb⟩ := h' H enc w n (cs.drop s) (by simp only [List.map_cons, List.sum_cons] at hl; rw [List.length_drop, hl]; omega) (by
    intro i p hp
    obtain ⟨z, hz⟩ := hf (i + 1) p (by simpa using hp)
    refine ⟨z, ?_⟩
    simp only [offs, List.take_succ_cons, List.map_cons, List.sum_cons] at hz
    rw [List.drop_drop]
    exact hz)
  exact ⟨(a, b), ⟨cs.take s, cs.drop s, (List.take_append_drop s cs).symm, ha, hb⟩, hga, hgb⟩
theorem opens_struct {P : Program} {t : TypeId} {fs : Array Field} {α β : Type} {d : Kd α} {g : α → Prop} (f : β → α) (k : α → β) (hk : ∀ x, f (k x) = x) (L : List (TypeId × Nat))
    (ht : P.underlying t = some (.struct fs)) (hL : L = fs.toList.map (fun f => (f.type, P.cellsOf f.type))) (ho : fs.toList.map (·.offset) = (List.range L.length).map (offs L)) (hc : P.cellsOf t = (L.map (·.2)).sum)
    (h : Sect P L d g) : Opens P t (Kd.iso d f) (fun x => g (f x)) := by
  intro H enc w fuel cs x hx
  obtain ⟨xs, n, rfl, rfl, hl, hxl, hf⟩ := DataW.trod_struct ht hx
  obtain ⟨a, ha, hg⟩ := h H enc w n cs (hl.trans hc) (by
    intro i p hp
    have hi : i < fs.size := by
      have := (List.getElem?_eq_some_iff.1 hp).1
      rw [hL] at this
      simpa using this
    have hfi : fs[i]? = some fs[i] := Array.getElem?_eq_getElem hi
    have h1 := hf i fs[i] hfi
    obtain ⟨y, hy⟩ : ∃ y, xs[i]? = some y := ⟨_, List.getElem?_eq_getElem (by omega)⟩
    rw [hy] at h1
    refine ⟨y, ?_⟩
    have hp' : p = (fs[i].type, P.cellsOf fs[i].type) := by
      rw [hL] at hp
      simp only [List.getElem?_map, Array.getElem?_toList, hfi, Option.map_some, Option.some.injEq] at hp
      exact hp.symm
    have hoi : fs[i].offset = offs L i := by
      have h2 : (fs.toList.map (·.offset))[i]? = ((List.range L.length).map (offs L))[i]? := by rw [ho]
      have hLl : L.length = fs.size := by rw [hL]; simp
      simp only [List.getElem?_map, Array.getElem?_toList, hfi, Option.map_some, List.getElem?_range (show i < L.length by omega)] at h2
      exact Option.some.inj h2
    rw [hp', ← hoi]
    exact h1)
  refine ⟨k a, ?_, ?_⟩
  · show d.K w (f (k a)) cs
    rw [hk]; exact ha
  · show g (f (k a))
    rw [hk]; exact hg

/-! The row: an argument opened. -/
theorem arg_slice {P : Program} {W : World} {H : Type} {enc : TypeId × Value → H} {t e : TypeId} {α : Type} {d : Kd α} {g : List α → Prop} {v : Value} {x : DataW H} {p : List MemPlace} (h : Opens P t (Kd.slice e d) g)
    (hs : ∃ a len cap, v = .slice a len cap) (hv : DataW.Trod enc P W 0 (fun _ => true) true t v x p) : ∃ A c xs, v = .slice A xs.length c ∧ xs.length ≤ c ∧ Kd.C d W A xs.length xs ∧ g xs := by
  obtain ⟨a, len, cap, rfl⟩ := hs
  obtain ⟨fuel, hf⟩ := hv
  obtain ⟨xs, ⟨A, c, he, hl, hc⟩, hg⟩ := h H enc W fuel _ _ hf
  simp [Value.cells] at he
  obtain ⟨rfl, rfl, rfl⟩ := he
  exact ⟨_, _, xs, rfl, hl, hc, hg⟩
theorem arg_agg {P : Program} {W : World} {H : Type} {enc : TypeId × Value → H} {t : TypeId} {α : Type} {d : Kd α} {g : α → Prop} {v : Value} {x : DataW H} {p : List MemPlace} (h : Opens P t d g)
    (hs : ∃ cs, v = .agg cs) (hv : DataW.Trod enc P W 0 (fun _ => true) true t v x p) : ∃ a cs, v = .agg cs ∧ d.K W a cs.toList ∧ g a := by
  obtain ⟨cs, rfl⟩ := hs
  obtain ⟨fuel, hf⟩ := hv
  obtain ⟨a, hK, hg⟩ := h H enc W fuel _ _ hf
  exact ⟨a, cs, rfl, hK, hg⟩
end Go.Proofs.YtblgaejagebeoaaDoor.Open
set_option linter.unusedVariables false
namespace Go.Proofs.YtblgaejagebeoaaDoor.X
open Go.RowKit Go.Proofs.YtblgaejagebeoaaDoorW.PrintWords Go.Proofs.YtblgaejagebeoaaDoor.Open
theorem op3 : Opens Tryd.prog 3 (Kd.int .i64) (fun n => (Lit.int .i64 n).wf = true) := opens_int Tryd.underlying3
theorem op9 : Opens Tryd.prog 9 Kd.string (fun s => s.size ≤ 9223372036854775807) := opens_string Tryd.underlying9
def good23 (x : S23) : Prop := x.f0.size ≤ 9223372036854775807 ∧ x.f1.size ≤ 9223372036854775807
theorem op23 : Opens Tryd.prog 23 k23 good23 :=
  opens_struct (fun x : S23 => (x.f0, x.f1)) (fun p => ⟨p.1, p.2⟩) (fun _ => rfl) [(9, 1), (9, 1)] Tryd.underlying23 (by kernel_rfl) (by decide) (by kernel_rfl) (sect_cons op9 (sect_one op9))
def good36 (x : S36) : Prop := x.f0.size ≤ 9223372036854775807 ∧ x.f1.size ≤ 9223372036854775807 ∧ (Lit.int .i64 x.f2).wf = true
theorem op36 : Opens Tryd.prog 36 k36 good36 :=
  opens_struct (fun x : S36 => (x.f0, x.f1, x.f2)) (fun p => ⟨p.1, p.2.1, p.2.2⟩) (fun _ => rfl) [(9, 1), (9, 1), (3, 1)] Tryd.underlying36 (by kernel_rfl) (by decide) (by kernel_rfl) (sect_cons op9 (sect_cons op9 (sect_one op3)))
end Go.Proofs.YtblgaejagebeoaaDoor.X
namespace Go.Proofs.YtblgaejagebeoaaDoor.X
open Go.RowKit Go.Proofs.YtblgaejagebeoaaDoorW.PrintWords
def PureFnExactEncodeRecord : Prop := ∀ (a0 : Int) (a1 : S23), (Lit.int .i64 a0).wf = true → good23 a1 → ∃ k, laws_FnExactEncodeRecord.f k a0 (a1.f0) (a1.f1) = some true
end Go.Proofs.YtblgaejagebeoaaDoor.X
set_option linter.unusedVariables false
set_option linter.unusedSimpArgs false
namespace Go.Proofs.YtblgaejagebeoaaDoor.X
open Go.RowKit Go.Proofs.YtblgaejagebeoaaDoorW.PrintWords Go.Proofs.YtblgaejagebeoaaDoor.E
def numB (n : Int) : ByteArray := ⟨(Lib.itoa n).toArray⟩
def decB (u : Nat) : ByteArray := ⟨(Lib.decDigits u).toArray⟩
theorem digit_fin : ∀ i : Fin 10, (⟨#[48, 49, 50, 51, 52, 53, 54, 55, 56, 57]⟩ : ByteArray).extract i.val (i.val + 1) = ⟨#[UInt8.ofNat (48 + i.val)]⟩ := by decide +kernel
theorem digit_at (i : Int) (j : Int) (h0 : 0 ≤ i) (h1 : i < 10) (hj : j = i + 1) : (⟨#[48, 49, 50, 51, 52, 53, 54, 55, 56, 57]⟩ : ByteArray).extract i.toNat j.toNat = ⟨#[UInt8.ofNat (48 + i.toNat)]⟩ := by
  rw [show j.toNat = i.toNat + 1 by omega]
  exact digit_fin ⟨i.toNat, by omega⟩
theorem ba_append (l m : List UInt8) : (⟨l.toArray⟩ : ByteArray) ++ (⟨m.toArray⟩ : ByteArray) = ⟨(l ++ m).toArray⟩ := by
  apply ByteArray.ext
  rw [ByteArray.data_append]
  simp
theorem ba_size (l : List UInt8) : (⟨l.toArray⟩ : ByteArray).size = l.length := rfl
theorem decB_size (u : Nat) (h : u < 18446744073709551616) : (decB u).size ≤ 20 := by
  unfold decB
  rw [ba_size, Lib.decDigits_length]
  exact Lib.nDigits_le20 u h
theorem numB_size (n : Int) (h0 : -9223372036854775808 ≤ n) (h1 : n ≤ 9223372036854775807) : (numB n).size ≤ 21 := by
  unfold numB
  rw [ba_size]
  exact Lib.itoa_length_le n h0 h1
theorem l1Num_nat : ∀ (u : Nat), u ≤ 9223372036854775807 → Ev (fun k => spec_l1Num.f k (u : Int)) (decB u) := by
  intro u
  induction u using Nat.strongRecOn with
  | _ u ih =>
    intro hu
    refine Ev.step (fun k => rfl) (ev_neg (by omega) ?_)
    by_cases h : u < 10
    · have hw : wrap64 ((u : Int) + 1) = (u : Int) + 1 := wrap_id (by omega) (by omega)
      rw [hw]
      refine ev_pos (by omega) (ev_pos (by omega) (ev_pos (by omega) (ev_pos (by omega) (ev_now ?_))))
      rw [digit_at (u : Int) _ (by omega) (by omega) rfl]
      unfold decB
      rw [Lib.decDigits, dif_pos h, Int.toNat_natCast]
    · refine ev_neg (by omega) ?_
      have hd : Int.tdiv (u : Int) 10 = ((u / 10 : Nat) : Int) := by rw [Int.tdiv_eq_ediv_of_nonneg (by omega)]; omega
      have hm : Int.tmod (u : Int) 10 = ((u % 10 : Nat) : Int) := by rw [Int.tmod_eq_emod_of_nonneg (by omega)]; omega
      have hw : wrap64 ((u / 10 : Nat) : Int) = ((u / 10 : Nat) : Int) := wrap_id (by omega) (by omega)
      have hw2 : wrap64 (((u % 10 : Nat) : Int) + 1) = ((u % 10 : Nat) : Int) + 1 := wrap_id (by omega) (by omega)
      rw [hd, hw, hm, hw2]
      refine Ev.bind (ih (u / 10) (by omega) (by omega)) ?_
      rw [digit_at ((u % 10 : Nat) : Int) _ (by omega) (by omega) rfl]
      have hs := decB_size (u / 10) (by omega)
      have h1 : (⟨#[UInt8.ofNat (48 + ((u % 10 : Nat) : Int).toNat)]⟩ : ByteArray).size = 1 := rfl
      refine ev_pos (by omega) (ev_pos (by omega) (ev_pos (by omega) (ev_pos (by omega) (ev_now ?_))))
      unfold decB
      rw [show (⟨#[UInt8.ofNat (48 + ((u % 10 : Nat) : Int).toNat)]⟩ : ByteArray) = ⟨[UInt8.ofNat (48 + u % 10)].toArray⟩ by rw [Int.toNat_natCast], ba_append]
      conv => rhs; rw [Lib.decDigits, dif_neg h]
theorem l1Num_ev (n : Int) (h0 : -9223372036854775807 ≤ n) (h1 : n ≤ 9223372036854775807) : Ev (fun k => spec_l1Num.f k n) (numB n) := by
  by_cases hn : n < 0
  · have hw : wrap64 (-n) = ((n.natAbs : Nat) : Int) := by rw [wrap_id (by omega) (by omega)]; omega
    refine Ev.step (fun k => rfl) (ev_pos hn ?_)
    rw [hw]
    have hs := decB_size n.natAbs (by omega)
    refine Ev.bind (l1Num_nat _ (by omega)) (ev_pos (by omega) (ev_now ?_))
    unfold numB decB
    rw [show (⟨#[45]⟩ : ByteArray) = ⟨[45].toArray⟩ from rfl, ba_append, Lib.itoa, if_pos hn]
    rfl
  · obtain ⟨u, rfl⟩ : ∃ u : Nat, n = u := ⟨n.toNat, by omega⟩
    refine ev_cast (l1Num_nat u (by omega)) ?_
    unfold numB decB
    rw [Lib.itoa, if_neg hn, Int.toNat_natCast]
end Go.Proofs.YtblgaejagebeoaaDoor.X
set_option linter.unusedVariables false
set_option linter.unusedSimpArgs false
namespace Go.Proofs.YtblgaejagebeoaaDoor.X
open Go.RowKit Go.Proofs.YtblgaejagebeoaaDoorW.PrintWords Go.Proofs.YtblgaejagebeoaaDoor.E
theorem l1In_eq (a l h : Int) : spec_l1In.f a l h = some (decide (l ≤ a ∧ a ≤ h)) := by
  unfold spec_l1In.f
  by_cases h1 : a ≥ l
  · rw [if_pos h1]; congr 1; simp [h1]
  · rw [if_neg h1]; congr 1; symm; simp; intro h2; omega
theorem within_eq (a l h : Int) : impl_within.f a l h = some (decide (l ≤ a ∧ a ≤ h)) := by
  unfold impl_within.f
  by_cases h1 : a ≥ l
  · rw [if_pos h1]; congr 1; simp [h1]
  · rw [if_neg h1]; congr 1; symm; simp; intro h2; omega
def logAt (s : ByteArray) (i : Nat) : Bool := decide (32 ≤ bt s i ∧ bt s i ≤ 126 ∧ bt s i ≠ 35)
def logB (s : ByteArray) : Bool := (List.range s.size).all (logAt s)
def hasB (s : ByteArray) (c : Int) : Bool := !((List.range s.size).all (fun i => decide (bt s i ≠ c)))
theorem isLogText_ev (s : ByteArray) (hs : s.size ≤ 9223372036854775807) : Ev (fun k => impl_isLogText.f k s) (logB s) := by
  have h := ev_all0 (L := fun k i => impl_isLogText.l0 k s (s.size : Int) i) s.size (logAt s) false true (fun _ => Ev.step (fun k => rfl) (ev_neg (by omega) (ev_now rfl))) ?h1 ?h2
  case h1 =>
    intro i hi _ hc y hy
    simp only [logAt, decide_eq_true_eq] at hc
    refine Ev.step (fun k => rfl) (ev_pos (by omega) (ev_pos (by omega) (ev_pos (by omega) ?_)))
    rw [wrap_succ hi hs]
    exact ev_neg (by omega) (ev_neg (by omega) (ev_neg (by omega) hy))
  case h2 =>
    intro i hi _ hc
    simp only [logAt, decide_eq_false_iff_not] at hc
    refine Ev.step (fun k => rfl) (ev_pos (by omega) (ev_pos (by omega) (ev_pos (by omega) ?_)))
    refine ev_ite (fun _ => ev_now rfl) (fun _ => ev_ite (fun _ => ev_now rfl) (fun _ => ev_ite (fun _ => ev_now rfl) (fun _ => ?_)))
    exfalso; omega
  refine ev_cast h ?_
  unfold logB
  cases (List.range s.size).all (logAt s) <;> rfl
theorem l27Plain_ev (s : ByteArray) (hs : s.size ≤ 9223372036854775807) (n : Int) : Ev (fun k => spec_l27Plain.f k s n) (logB s && decide ((s.size : Int) ≤ n)) := by
  have hw : ∀ i : Nat, wrap64 (bt s i) = bt s i := fun i => wrap_id (by have := bt_range s i; omega) (by have := bt_range s i; omega)
  have h := ev_all0 (L := fun k i => spec_l27Plain.l0 k s n i) s.size (logAt s) false (decide ((s.size : Int) ≤ n)) (fun _ => Ev.step (fun k => rfl) (ev_neg (by omega) (ev_now rfl))) ?h1 ?h2
  case h1 =>
    intro i hi _ hc y hy
    simp only [logAt, decide_eq_true_eq] at hc
    refine Ev.step (fun k => rfl) (ev_pos (by omega) (ev_pos (by omega) ?_))
    rw [wrap_succ hi hs, hw]
    refine ev_bind0 (l1In_eq _ _ _) ?_
    exact ev_pos (decide_eq_true (by omega)) (ev_neg (by omega) hy)
  case h2 =>
    intro i hi _ hc
    simp only [logAt, decide_eq_false_iff_not] at hc
    refine Ev.step (fun k => rfl) (ev_pos (by omega) (ev_pos (by omega) ?_))
    rw [hw]
    refine ev_bind0 (l1In_eq _ _ _) ?_
    refine ev_ite (fun c => ?_) (fun _ => ev_now rfl)
    have c' := of_decide_eq_true c
    exact ev_pos (by omega) (ev_now rfl)
  refine ev_cast h ?_
  unfold logB
  cases (List.range s.size).all (logAt s) <;> simp
theorem l1Stands_ev (s : ByteArray) (hs : s.size ≤ 9223372036854775807) (c : Int) : Ev (fun k => spec_l1Stands.f k s c) (hasB s c) := by
  have h := ev_all0 (L := fun k i => spec_l1Stands.l0 k s c i) s.size (fun i => decide (bt s i ≠ c)) true false (fun _ => Ev.step (fun k => rfl) (ev_neg (by omega) (ev_now rfl))) ?h1 ?h2
  case h1 =>
    intro i hi _ hc y hy
    have hc' := of_decide_eq_true hc
    refine Ev.step (fun k => rfl) (ev_pos (by omega) (ev_pos (by omega) ?_))
    rw [wrap_succ hi hs]
    exact ev_neg hc' hy
  case h2 =>
    intro i hi _ hc
    have hc' := of_decide_eq_false hc
    refine Ev.step (fun k => rfl) (ev_pos (by omega) (ev_pos (by omega) ?_))
    exact ev_pos (by omega) (ev_now rfl)
  refine ev_cast h ?_
  unfold hasB
  cases (List.range s.size).all (fun i => decide (bt s i ≠ c)) <;> rfl
theorem bt_get (s : ByteArray) (i : Nat) (h : i < s.data.toList.length) : bt s i = ((s.data.toList[i]).toNat : Int) := by
  have h' : i < s.size := by rw [Array.length_toList] at h; exact h
  unfold bt
  rw [dif_pos (by rw [Int.toNat_natCast]; exact h')]
  simp only [Int.toNat_natCast]
  rfl
theorem contains_at (s : ByteArray) : strings_Contains.f s (⟨#[64]⟩ : ByteArray) = some (hasB s 64) := by
  show some (decide (0 ≤ Lib.indexByte s.data.toList 64)) = some (hasB s 64)
  rw [← Lib.contains_iff_indexByte]
  congr 1
  have hl : s.data.toList.length = s.size := by rw [Array.length_toList]; rfl
  rw [Bool.eq_iff_iff, List.contains_iff_mem]
  unfold hasB
  rw [Bool.not_eq_true', Bool.eq_false_iff, Ne, all_range]
  constructor
  · intro hm hall
    obtain ⟨i, hi, e⟩ := List.getElem_of_mem hm
    have := of_decide_eq_true (hall i (by omega))
    rw [bt_get s i hi, e] at this
    exact this rfl
  · intro hn
    refine Classical.byContradiction fun hm => hn fun i hi => decide_eq_true fun e => hm ?_
    have hi' : i < s.data.toList.length := by omega
    rw [bt_get s i hi'] at e
    have e2 : s.data.toList[i] = 64 := UInt8.toNat_inj.1 (by have : (s.data.toList[i]).toNat = 64 := by omega
                                                             rw [this]; rfl)
    exact e2 ▸ List.getElem_mem hi'
theorem empty_iff (s : ByteArray) : s.data.toList = [] ↔ s.size = 0 := by
  have hl : s.data.toList.length = s.size := by rw [Array.length_toList]; rfl
  rw [← hl, List.length_eq_zero_iff]
def cmdB (s : ByteArray) : Bool := decide (1 ≤ (s.size : Int) ∧ (s.size : Int) ≤ 160) && logB s && !(hasB s 64)
def recB (s r : ByteArray) : Bool := cmdB s && (logB r && decide ((r.size : Int) ≤ 200))
theorem isCommand_ev (s : ByteArray) (hs : s.size ≤ 9223372036854775807) : Ev (fun k => impl_isCommand.f k s) (cmdB s) := by
  unfold impl_isCommand.f cmdB
  refine ev_bind0 (within_eq _ _ _) ?_
  refine ev_ite (fun c => ?_) (fun c => ev_now ?_)
  case refine_2 => rw [Bool.not_eq_true] at c; rw [c]; rfl
  rw [c]
  refine Ev.bind (isLogText_ev s hs) ?_
  refine ev_ite (fun c => ?_) (fun c => ev_now ?_)
  case refine_2 => rw [Bool.not_eq_true] at c; rw [c]; rfl
  rw [c]
  exact ev_bind0 (contains_at s) (ev_now (by simp))
theorem implRec_ev (s r : ByteArray) (hs : s.size ≤ 9223372036854775807) (hr : r.size ≤ 9223372036854775807) : Ev (fun k => impl_IsValidLogRecord.f k s r) (recB s r) := by
  unfold impl_IsValidLogRecord.f recB
  refine Ev.bind (isCommand_ev s hs) ?_
  refine ev_ite (fun c => ?_) (fun c => ev_now ?_)
  case refine_2 => rw [Bool.not_eq_true] at c; rw [c]; rfl
  rw [c]
  refine ev_ite (fun c => ?_) (fun c => ev_now ?_)
  case refine_2 => rw [decide_eq_false c]; simp
  rw [decide_eq_true c]
  exact Ev.bind (isLogText_ev r hr) (ev_now (by simp))
theorem goodRec_ev (s r : ByteArray) (hs : s.size ≤ 9223372036854775807) (hr : r.size ≤ 9223372036854775807) : Ev (fun k => spec_l27Good.f k s r) (recB s r) := by
  unfold spec_l27Good.f recB cmdB
  refine ev_ite (fun c => ev_now ?_) (fun c => ?_)
  case refine_1 =>
    have c : s.size = 0 := (empty_iff s).1 (by rw [← ByteArray.toList_eq]; exact c)
    rw [decide_eq_false (by omega)]; rfl
  have c : 1 ≤ s.size := by
    rcases Nat.eq_zero_or_pos s.size with e | e
    · exact absurd (by rw [ByteArray.toList_eq]; exact (empty_iff s).2 e) c
    · exact e
  refine Ev.bind (l27Plain_ev s hs 160) ?_
  refine ev_ite (fun c => ?_) (fun c => ev_now ?_)
  case refine_2 =>
    have e : decide (1 ≤ (s.size : Int) ∧ (s.size : Int) ≤ 160) = decide ((s.size : Int) ≤ 160) := by rw [decide_eq_decide]; omega
    rw [e]
    revert c
    cases logB s <;> cases decide ((s.size : Int) ≤ 160) <;> simp
  rw [Bool.and_eq_true] at c
  have c2 := of_decide_eq_true c.2
  rw [c.1, decide_eq_true (show 1 ≤ (s.size : Int) ∧ (s.size : Int) ≤ 160 by omega)]
  refine Ev.bind (l1Stands_ev s hs 64) ?_
  refine ev_ite (fun c => ev_now ?_) (fun c => ?_)
  case refine_1 => rw [c]; rfl
  rw [Bool.not_eq_true] at c; rw [c]
  exact Ev.bind (l27Plain_ev r hr 200) (ev_now (by simp))
end Go.Proofs.YtblgaejagebeoaaDoor.X
set_option linter.unusedVariables false
set_option linter.unusedSimpArgs false
namespace Go.Proofs.YtblgaejagebeoaaDoor.X
open Go.RowKit Go.Proofs.YtblgaejagebeoaaDoorW.PrintWords Go.Proofs.YtblgaejagebeoaaDoor.E
theorem Itoa_eq (n : Int) (h0 : -9223372036854775808 ≤ n) (h1 : n ≤ 9223372036854775807) : strconv_Itoa.f n = some (numB n) := by unfold strconv_Itoa.f; rw [if_pos ⟨h0, h1⟩]; rfl
def sumStep (s : ByteArray) (h : Int) (i : Nat) : Int := Int.tmod (wrap64 ((wrap64 ((wrap64 (41 * h)) + (wrap64 (bt s i)))) + 1)) 999979
def sumB (s : ByteArray) : Int := (List.range s.size).foldl (sumStep s) 7
theorem sumStep_in (s : ByteArray) (h : Int) (i : Nat) (h0 : 0 ≤ h ∧ h < 999979) : 0 ≤ sumStep s h i ∧ sumStep s h i < 999979 := by
  have hb := bt_range s i
  have e1 : wrap64 (41 * h) = 41 * h := wrap_id (by omega) (by omega)
  have e2 : wrap64 (bt s i) = bt s i := wrap_id (by omega) (by omega)
  have e3 : wrap64 (41 * h + bt s i) = 41 * h + bt s i := wrap_id (by omega) (by omega)
  have e4 : wrap64 (41 * h + bt s i + 1) = 41 * h + bt s i + 1 := wrap_id (by omega) (by omega)
  unfold sumStep
  rw [e1, e2, e3, e4, Int.tmod_eq_emod_of_nonneg (by omega)]
  omega
theorem fold_in (s : ByteArray) : ∀ (l : List Nat) (h : Int), 0 ≤ h ∧ h < 999979 → 0 ≤ l.foldl (sumStep s) h ∧ l.foldl (sumStep s) h < 999979
  | [], h, hh => hh
  | i :: l, h, hh => fold_in s l _ (sumStep_in s h i hh)
theorem sumB_in (s : ByteArray) : 0 ≤ sumB s ∧ sumB s < 999979 := fold_in s _ 7 (by omega)
theorem implSum_ev (s : ByteArray) (hs : s.size ≤ 9223372036854775807) : Ev (fun k => impl_checksum.f k s) (sumB s) := by
  have h := ev_scan0 (L := fun k (h : Int) i => impl_checksum.l0 k s h (s.size : Int) i) (G := fun h i (r : List Nat) => r.foldl (sumStep s) h) (fun _ _ _ => True) (List.range s.size) 7 trivial ?h1 ?h2
  case h1 =>
    intro h _
    rw [List.length_range]
    exact Ev.step (fun k => rfl) (ev_neg (by omega) (ev_now rfl))
  case h2 =>
    intro h i x r _ hi hd hg hr
    rw [List.length_range] at hi
    obtain rfl : x = i := by rw [← hg 0, List.getD_eq_getElem?_getD, List.getElem?_range hi]; rfl
    refine Ev.step (fun k => rfl) (ev_pos (by omega) (ev_pos (by omega) (ev_pos (by omega) ?_)))
    rw [wrap_succ hi hs]
    exact hr (sumStep s h x) trivial
  exact h
theorem specSum_ev (s : ByteArray) (hs : s.size ≤ 9223372036854775807) : Ev (fun k => spec_l1Sum.f k s) (sumB s) := by
  have h := ev_scan0 (L := fun k (h : Int) i => spec_l1Sum.l0 k s h i) (G := fun h i (r : List Nat) => r.foldl (sumStep s) h) (fun _ _ _ => True) (List.range s.size) 7 trivial ?h1 ?h2
  case h1 =>
    intro h _
    rw [List.length_range]
    exact Ev.step (fun k => rfl) (ev_neg (by omega) (ev_now rfl))
  case h2 =>
    intro h i x r _ hi hd hg hr
    rw [List.length_range] at hi
    obtain rfl : x = i := by rw [← hg 0, List.getD_eq_getElem?_getD, List.getElem?_range hi]; rfl
    refine Ev.step (fun k => rfl) (ev_pos (by omega) (ev_pos (by omega) ?_))
    rw [wrap_succ hi hs]
    exact hr (sumStep s h x) trivial
  exact h
theorem szl (c : UInt8) : (⟨#[c]⟩ : ByteArray).size = 1 := rfl
def sealB (x : ByteArray) : ByteArray := (x ++ (⟨#[35]⟩ : ByteArray)) ++ numB (sumB x)
theorem sum_size (x : ByteArray) : (numB (sumB x)).size ≤ 21 := by have := sumB_in x; exact numB_size _ (by omega) (by omega)
theorem l1Seal_ev (x : ByteArray) (hx : x.size ≤ 4611686018427387904) : Ev (fun k => spec_l1Seal.f k x) (sealB x) := by
  unfold spec_l1Seal.f sealB
  have h1 := sumB_in x
  have h2 := sum_size x
  exact ev_pos (by omega) (Ev.bind (specSum_ev x (by omega)) (Ev.bind (l1Num_ev _ (by omega) (by omega)) (ev_pos (by simp only [ByteArray.size_append, szl]; omega) (ev_now rfl))))
theorem contains35 (s : ByteArray) : strings_Contains.f s (⟨#[35]⟩ : ByteArray) = some (s.data.toList.contains 35) := by
  show some (decide (0 ≤ Lib.indexByte s.data.toList 35)) = _
  rw [← Lib.contains_iff_indexByte]
def appB (x : ByteArray) : ByteArray × Bool := if (decide ((x.size : Int) > 4000) || x.data.toList.contains 35) = true then (⟨#[]⟩, false) else if ((sealB x).size : Int) > 4000 then (⟨#[]⟩, false) else (sealB x, true)
theorem appendChecksum_ev (x : ByteArray) (hx : x.size ≤ 4611686018427387904) : Ev (fun k => impl_AppendChecksum.f k x) (appB x) := by
  have stop : ∀ b : Bool, b = (decide ((x.size : Int) > 4000) || x.data.toList.contains 35) → Ev (fun k => impl_AppendChecksum.j0 k x b) (appB x) := by
    intro b hb
    refine Ev.step (fun k => rfl) (ev_ite (fun c => ev_now ?_) (fun c => ?_))
    · unfold appB; rw [← hb, if_pos c]
    unfold appB
    rw [← hb, if_neg c]
    have h1 := sumB_in x
    have h2 := sum_size x
    refine ev_pos (by omega) (Ev.bind (implSum_ev x (by omega)) (ev_bind0 (Itoa_eq _ (by omega) (by omega)) (ev_pos (by simp only [ByteArray.size_append, szl]; omega) ?_)))
    refine ev_ite (fun c => ev_now ?_) (fun c => ev_now ?_)
    · exact (if_pos c).symm
    · exact (if_neg c).symm
  unfold impl_AppendChecksum.f
  refine ev_ite (fun c => stop _ ?_) (fun c => ?_)
  · rw [decide_eq_true c]; rfl
  · refine ev_bind0 (contains35 x) (stop _ ?_)
    rw [decide_eq_false c]; rfl
def lineB (k : Int) (s r : ByteArray) : ByteArray := (((numB k ++ (⟨#[32]⟩ : ByteArray)) ++ s) ++ (⟨#[64]⟩ : ByteArray)) ++ r
theorem num_no35 (k : Int) (h0 : 0 ≤ k) (h1 : k ≤ 59) : (35 : UInt8) ∉ (numB k).data.toList := by
  have d10 : ∀ i : Fin 10, (35 : UInt8) ≠ UInt8.ofNat (48 + i.val) := by decide
  unfold numB
  obtain ⟨u, rfl⟩ : ∃ u : Nat, k = u := ⟨k.toNat, by omega⟩
  rw [Lib.itoa, if_neg (by omega), Int.toNat_natCast]
  by_cases hu : u < 10
  · rw [Lib.decDigits_one hu]
    simpa using d10 ⟨u, hu⟩
  · rw [Lib.decDigits_two hu (by omega)]
    have a := d10 ⟨u / 10, by omega⟩
    have b := d10 ⟨u % 10, by omega⟩
    intro hm
    have hm : (35 : UInt8) ∈ [UInt8.ofNat (48 + u / 10), UInt8.ofNat (48 + u % 10)] := hm
    rcases List.mem_cons.1 hm with h | h
    · exact a h
    · exact b (List.mem_singleton.1 h)
theorem log_no35 (s : ByteArray) (h : logB s = true) : (35 : UInt8) ∉ s.data.toList := by
  intro hm
  obtain ⟨i, hi, e⟩ := List.getElem_of_mem hm
  have hl : s.data.toList.length = s.size := by rw [Array.length_toList]; rfl
  have := all_range.1 h i (by omega)
  simp only [logAt, decide_eq_true_eq] at this
  rw [bt_get s i hi, e] at this
  exact this.2.2 rfl
theorem line_no35 (k : Int) (s r : ByteArray) (h0 : 0 ≤ k) (h1 : k ≤ 59) (hs : logB s = true) (hr : logB r = true) : (lineB k s r).data.toList.contains 35 = false := by
  rw [Bool.eq_false_iff, Ne, List.contains_iff_mem]
  unfold lineB
  simp only [ByteArray.data_append, Array.toList_append, List.mem_append]
  have a := num_no35 k h0 h1
  have b := log_no35 s hs
  have c := log_no35 r hr
  rintro ((((h | h) | h) | h) | h)
  · exact a h
  · revert h; decide
  · exact b h
  · revert h; decide
  · exact c h
def encOk (k : Int) (s r : ByteArray) : Bool := decide (0 ≤ k ∧ k ≤ 59) && recB s r
def encE (k : Int) (s r : ByteArray) : ByteArray × Bool := if encOk k s r = true then (sealB (lineB k s r) ++ (⟨#[10]⟩ : ByteArray), true) else (⟨#[]⟩, false)
theorem recB_iff {s r : ByteArray} (h : recB s r = true) : (1 ≤ s.size ∧ s.size ≤ 160) ∧ logB s = true ∧ logB r = true ∧ r.size ≤ 200 := by
  unfold recB cmdB at h
  simp only [Bool.and_eq_true, decide_eq_true_eq] at h
  obtain ⟨⟨⟨h1, h2⟩, _⟩, h3, h4⟩ := h
  exact ⟨by omega, h2, h3, by omega⟩
theorem line_size (k : Int) (s r : ByteArray) (h0 : 0 ≤ k) (h1 : k ≤ 59) (hs : s.size ≤ 160) (hr : r.size ≤ 200) : (lineB k s r).size ≤ 400 := by
  unfold lineB
  have := numB_size k (by omega) (by omega)
  simp only [ByteArray.size_append, szl]
  omega
theorem l27Line_ev (k : Int) (s r : ByteArray) (h0 : 0 ≤ k) (h1 : k ≤ 59) (hs : s.size ≤ 160) (hr : r.size ≤ 200) : Ev (fun q => spec_l27Line.f q k s r) (sealB (lineB k s r) ++ (⟨#[10]⟩ : ByteArray)) := by
  unfold spec_l27Line.f
  have hn := numB_size k (by omega) (by omega)
  have hl := line_size k s r h0 h1 hs hr
  have h2 := sum_size (lineB k s r)
  refine Ev.bind (l1Num_ev k (by omega) (by omega)) (ev_pos (by omega) (ev_pos (by simp only [ByteArray.size_append, szl]; omega) (ev_pos (by simp only [ByteArray.size_append, szl]; omega) (ev_pos (by simp only [ByteArray.size_append, szl]; omega) (Ev.bind (l1Seal_ev (lineB k s r) (by omega)) (ev_pos ?_ (ev_now rfl)))))))
  unfold sealB
  simp only [ByteArray.size_append, szl]
  omega
theorem app_line (k : Int) (s r : ByteArray) (h0 : 0 ≤ k) (h1 : k ≤ 59) (h : recB s r = true) : appB (lineB k s r) = (sealB (lineB k s r), true) := by
  obtain ⟨hs, hls, hlr, hr⟩ := recB_iff h
  have hl := line_size k s r h0 h1 hs.2 hr
  have h2 := sum_size (lineB k s r)
  unfold appB
  rw [line_no35 k s r h0 h1 hls hlr, decide_eq_false (by omega)]
  rw [if_neg (by simp)]
  refine if_neg ?_
  unfold sealB
  simp only [ByteArray.size_append, szl]
  omega
theorem implEnc_ev (k : Int) (s r : ByteArray) (hs : s.size ≤ 9223372036854775807) (hr : r.size ≤ 9223372036854775807) : Ev (fun q => impl_EncodeRecord.f q k s r) (encE k s r) := by
  have go : ∀ b : Bool, b = !(encOk k s r) → Ev (fun q => impl_EncodeRecord.j0 q k b s r) (encE k s r) := by
    intro b hb
    refine Ev.step (fun k => rfl) (ev_ite (fun c => ev_now ?_) (fun c => ?_))
    · unfold encE; rw [if_neg (by rw [c] at hb; simp at hb; rw [hb]; simp)]
    have hok : encOk k s r = true := by cases h : encOk k s r <;> simp_all
    unfold encE
    rw [if_pos hok]
    unfold encOk at hok
    rw [Bool.and_eq_true] at hok
    obtain ⟨h0, h1⟩ := of_decide_eq_true hok.1
    obtain ⟨hs1, hls, hlr, hr1⟩ := recB_iff hok.2
    have hn := numB_size k (by omega) (by omega)
    have hl := line_size k s r h0 h1 hs1.2 hr1
    have h2 := sum_size (lineB k s r)
    refine ev_bind0 (Itoa_eq k (by omega) (by omega)) (ev_pos (by omega) (ev_pos (by simp only [ByteArray.size_append, szl]; omega) (ev_pos (by simp only [ByteArray.size_append, szl]; omega) (ev_pos (by simp only [ByteArray.size_append, szl]; omega) (Ev.bind (appendChecksum_ev (lineB k s r) (by omega)) ?_)))))
    rw [app_line k s r h0 h1 hok.2]
    refine ev_pos ?_ (ev_now rfl)
    unfold sealB
    simp only [ByteArray.size_append, szl]
    omega
  unfold impl_EncodeRecord.f
  refine ev_bind0 (within_eq _ _ _) ?_
  refine ev_ite (fun c => ?_) (fun c => go _ ?_)
  · refine Ev.bind (implRec_ev s r hs hr) (go _ ?_)
    unfold encOk
    rw [c, Bool.true_and]
  · unfold encOk
    rw [Bool.not_eq_true] at c
    rw [c]; rfl
theorem l27Good_ev (s r : ByteArray) (hs : s.size ≤ 9223372036854775807) (hr : r.size ≤ 9223372036854775807) : Ev (fun k => spec_l27Good.f k s r) (recB s r) := goodRec_ev s r hs hr
theorem specEnc_ev (k : Int) (s r : ByteArray) (hs : s.size ≤ 9223372036854775807) (hr : r.size ≤ 9223372036854775807) : Ev (fun q => spec_EncodeRecord.f q k s r) (encE k s r) := by
  unfold spec_EncodeRecord.f encE encOk
  refine ev_bind0 (l1In_eq _ _ _) ?_
  refine ev_ite (fun c => ?_) (fun c => ev_now ?_)
  · refine Ev.bind (l27Good_ev s r hs hr) ?_
    have c' := of_decide_eq_true c
    refine ev_ite (fun d => ?_) (fun d => ev_now ?_)
    · rw [if_pos (by rw [c, d]; rfl)]
      obtain ⟨hs1, hls, hlr, hr1⟩ := recB_iff d
      exact Ev.bind (l27Line_ev k s r c'.1 c'.2 hs1.2 hr1) (ev_now rfl)
    · rw [if_neg (by rw [c]; simpa using d)]
  · rw [if_neg (by rw [Bool.not_eq_true] at c; rw [c]; simp)]
end Go.Proofs.YtblgaejagebeoaaDoor.X
set_option linter.unusedVariables false
namespace Go.Proofs.YtblgaejagebeoaaDoor.X
open Go.RowKit Go.Proofs.YtblgaejagebeoaaDoorW.PrintWords Go.Proofs.YtblgaejagebeoaaDoor.E
def wt23 (x : S23) : Nat := x.f0.size + x.f1.size
def wt36 (x : S36) : Nat := x.f0.size + x.f1.size
end Go.Proofs.YtblgaejagebeoaaDoor.X
set_option linter.unusedVariables false
namespace Go.Proofs.YtblgaejagebeoaaDoor.X
open Go.RowKit Go.Proofs.YtblgaejagebeoaaDoorW.PrintWords Go.Proofs.YtblgaejagebeoaaDoor.E
theorem laws_szLogRecord_ev (x : S23) (g0 : x.f0.size ≤ 9223372036854775807) (g1 : x.f1.size ≤ 9223372036854775807) (left : Int) (h0 : 0 ≤ left) (h1 : left ≤ 4611686018427387904) :
    Ev (fun k => laws_szLogRecord.f (x.f0) (x.f1) left) (if (((wt23 x) : Nat) : Int) ≤ left then left - (((wt23 x) : Nat) : Int) else -1) := by
  unfold laws_szLogRecord.f
  unfold wt23
  have e0 : wrap64 (left - ((x.f0.size : Nat) : Int)) = left - ((x.f0.size : Nat) : Int) := wrap_id (by omega) (by omega)
  simp only [e0]
  by_cases c0 : ((x.f0.size : Nat) : Int) ≤ left
  case neg =>
    exact ev_pos (by omega) (ev_now (by first | rfl | rw [if_neg (by omega)]))
  refine ev_neg (by omega) ?_
  have e1 : wrap64 ((left - ((x.f0.size : Nat) : Int)) - ((x.f1.size : Nat) : Int)) = (left - ((x.f0.size : Nat) : Int)) - ((x.f1.size : Nat) : Int) := wrap_id (by omega) (by omega)
  simp only [e1]
  by_cases c1 : ((x.f1.size : Nat) : Int) ≤ (left - ((x.f0.size : Nat) : Int))
  case neg =>
    exact ev_pos (by omega) (ev_now (by first | rfl | rw [if_neg (by omega)]))
  refine ev_neg (by omega) ?_
  exact ev_now (by first | rfl | omega | (rw [if_pos (by omega)]; omega))
end Go.Proofs.YtblgaejagebeoaaDoor.X
set_option linter.unusedVariables false
namespace Go.Proofs.YtblgaejagebeoaaDoor.X
open Go.RowKit Go.Proofs.YtblgaejagebeoaaDoorW.PrintWords Go.Proofs.YtblgaejagebeoaaDoor.E
def conv23 (x : S23) : S27 := ⟨x.f0, x.f1⟩
theorem laws_toLogRecord_ev (x : S23) (hb : (wt23 x) ≤ 1048576) : Ev (fun k => laws_toLogRecord.f (x.f0) (x.f1)) ((conv23 x).f0, (conv23 x).f1) := by
  unfold laws_toLogRecord.f
  unfold wt23 at hb
  exact ev_now rfl
end Go.Proofs.YtblgaejagebeoaaDoor.X
set_option linter.unusedVariables false
set_option linter.unusedSimpArgs false
namespace Go.Proofs.YtblgaejagebeoaaDoor.Pure
open Go.RowKit Go.Proofs.YtblgaejagebeoaaDoor.X Go.Proofs.YtblgaejagebeoaaDoorW.PrintWords Go.Proofs.YtblgaejagebeoaaDoor.E
theorem FnExactEncodeRecord : PureFnExactEncodeRecord := by
  intro n x hn hx
  unfold laws_FnExactEncodeRecord.f
  refine ev_get (Ev.bind (laws_szLogRecord_ev x hx.1 hx.2 1048576 (by omega) (by omega)) ?_)
  by_cases c : (((wt23 x) : Nat) : Int) ≤ 1048576
  case neg => rw [if_neg c]; exact ev_pos (by omega) (ev_now rfl)
  rw [if_pos c]
  refine ev_neg (by omega) ?_
  refine ev_bind0 (show laws_toLogRecord.f x.f0 x.f1 = some (x.f0, x.f1) from rfl) ?_
  refine Ev.bind (specEnc_ev n x.f0 x.f1 hx.1 hx.2) ?_
  refine ev_bind0 (show laws_toLogRecord.f x.f0 x.f1 = some (x.f0, x.f1) from rfl) ?_
  refine Ev.bind (implEnc_ev n x.f0 x.f1 hx.1 hx.2) ?_
  exact ev_pos rfl (ev_neg (by simp) (ev_now rfl))
end Go.Proofs.YtblgaejagebeoaaDoor.Pure
namespace Go.Proofs.YtblgaejagebeoaaDoor.fnExactEncodeRecord
open Go.ChangeShapes Go.WideShapes Go.ChangeAt Go.RowKit Go.Joins Go.Proofs.YtblgaejagebeoaaDoorW.PrintWords Go.Proofs.YtblgaejagebeoaaDoor.Open Go.Proofs.YtblgaejagebeoaaDoor.X
open Go.ChangeMaps (open_string shut_string)
set_option linter.unusedVariables false
theorem own : ownKnob Tryd.prog.godebug = none := by kernel_rfl
def laid : List (String × DataW Unit) := [("math/bits.deBruijn32tab", Rows.laid_math_bits_deBruijn32tab), ("math/bits.deBruijn64tab", Rows.laid_math_bits_deBruijn64tab), ("internal/strconv.uint64pow10", Rows.laid_internal_strconv_uint64pow10)]
theorem door_met (os : Os) (args : Array Value) : laidMetH Tryd.prog laid ((World.doorLaid Tryd.prog 24 os).forCall (fun _ _ => 0) ⟨#[], args, []⟩).memory :=
  laidMetH_of_parts3 (fuel := 8) (laidMet_of_run' 8 (by kernel_rfl) (by kernel_rfl)) (by kernel_rfl) (by kernel_rfl)
theorem gTab : Tryd.prog.globalNamed "internal/strconv.uint64pow10" = some 1 := by kernel_rfl
theorem gTabType : (Tryd.prog.globals[1]?).map (·.type) = some 106 := by kernel_rfl
theorem cellsT : Tryd.prog.cellsOf 106 = 20 := by kernel_rfl
theorem cellsE : Tryd.prog.cellsOf 73 = 1 := by kernel_rfl
theorem only : laid.filter (fun x => x.1 == "internal/strconv.uint64pow10") = [("internal/strconv.uint64pow10", Lib.tabData .u64 Lib.pow10Tab)] := by kernel_rfl
theorem table {W : World} (h : laidMetH Tryd.prog laid W) : GT W := by
  have h2 := h.filter (fun x => x.1 == "internal/strconv.uint64pow10")
  rw [only] at h2
  rw [MakeChecks.laidMetH_plain _ _ _ (by kernel_rfl)] at h2
  exact Lib.tabIs_of_head (rest := []) gTab gTabType Tryd.underlying106 Tryd.underlying73 cellsE cellsT h2
theorem laidOut : laidOutB Tryd.prog = true := by kernel_rfl
set_option maxRecDepth 100000 in
theorem lifted (os : Os) (started : os.Started) (H : Type) (enc : TypeId × Value → H) :
    ReturnsInHanded {} Tryd.checked os 3 .any (fun w args => (Rows.fnExactEncodeRecordSpec.pre enc Tryd.prog Tryd.f3 [] false w args ∧ laidMetH Tryd.prog laid w) ∧ sizedMet enc Tryd.prog Tryd.f3 (OpenSpec.ofChange Rows.fnExactEncodeRecordSpec) false w args)
      (Rows.fnExactEncodeRecordSpec.post enc Tryd.prog Tryd.f3 false true false false) := by
  refine returnsInHanded_of_change_and (C := Tryd.checked) (X := fun w _ => laidMetH Tryd.prog laid w) (fun _ _ _ hh h => h.of_heap hh) own started (by kernel_rfl) Tryd.func3
    (ChangeSpec.witness_shaped (enc := enc) (C := Tryd.checked) (os := os) (X := fun w _ => laidMetH Tryd.prog laid w) false (World.doorLaid Tryd.prog 24 os) #[.int .i64 0, .agg #[.string ByteArray.empty, .string ByteArray.empty]] 8 rfl (World.shaped_of_RefB (by kernel_rfl) (by kernel_rfl)) (by kernel_rfl) (by kernel_rfl) (by kernel_rfl) (door_met os _)) ?_
  intro W base args ds gs before hval0 hW hcnd hsz0 hL _
  have hval : ∀ (j : Nat) t v, Tryd.f3.params[j]? = some t → args[j]? = some v → Value.okWide Tryd.prog W .any base t v := hval0
  have hW' := hW
  obtain ⟨p, q, hA0, hV, rfl, hfz, hnd⟩ := hW
  have hA : DataW.TrodAll enc Tryd.prog W 0 (fun _ => true) true Tryd.f3.params.toList args.toList ds p := hA0
  rw [Tryd.params3] at hA hval
  obtain ⟨v0, vs0, d0, ds0, p0, q0, hargs, rfl, rfl, h0, r0⟩ := trodAll_cons hA
  obtain ⟨v1, vs1, d1, ds1, p1, q1, rfl, rfl, rfl, h1, r1⟩ := trodAll_cons r0
  obtain ⟨rfl, rfl, rfl⟩ := trodAll_nil r1
  obtain rfl : args = #[v0, v1] := by cases args; simp_all
  obtain ⟨rfl, rfl⟩ := trodVars_none hV
  obtain ⟨a0, rfl, rfl, rfl, w0⟩ := open_int Tryd.underlying3 (hval 0 3 v0 rfl rfl) h0
  have kk1 := h1
  have lt1 : ∀ x ∈ p1, x.block < W.heap.size := by obtain ⟨m, hm⟩ := kk1; exact DataW.trod_lt m _ _ _ hm
  obtain ⟨a1, cs1, rfl, hK1, g1⟩ := arg_agg op23 (by obtain ⟨cs, e, _⟩ := okWide_struct Tryd.underlying23 (hval 1 23 v1 rfl rfl); exact ⟨cs, e⟩) h1
  have he1 := k23_open hK1
  obtain rfl : cs1 = #[.string a1.f0, .string a1.f1] := by cases cs1; simp_all
  clear hA0 hval0 hsz0
  obtain ⟨k, hk⟩ := Pure.FnExactEncodeRecord a0 a1 w0 g1
  refine (X.laws_FnExactEncodeRecord.calls k a0 _ _ true W (table hL) hk).mono ?_
  rintro e W' ⟨he, bel0⟩
  have bel : Below W.heap.size W W' := by first | exact bel0 | exact bel0.below
  subst he
  exact ⟨_, rfl, _, _, _, [], _, [], hW', trodAll_mk1 (shut_bool Tryd.underlying4 _), (trodAll_cons_mk (shut_int Tryd.underlying3 w0) (trodAll_cons_mk (Below.trod laidOut (by kernel_rfl) (of_decide_eq_true (by kernel_rfl)) kk1 bel lt1) trodAll_mk0)), rfl, bel.frame _, fun h => by cases h⟩
theorem over : Rows.fnExactEncodeRecordRow.holds Tryd.pinned (OpenSpec.ofChange Rows.fnExactEncodeRecordSpec) :=
  OpenClaim.holds_of_wide 3 Tryd.f3 rfl rfl rfl rfl rfl rfl rfl ⟨rfl, rfl, rfl, rfl, rfl⟩ rfl rfl rfl rfl rfl (by kernel_rfl) Tryd.func3 (by kernel_rfl)
    (of_decide_eq_true (by kernel_rfl)) (by unfold Func.isWrapper; first | (rw [if_pos (by decide +kernel)]; kernel_rfl) | (rw [if_neg (by decide +kernel)]; exact ⟨rfl, rfl⟩))
    (fun os started H enc _ => lifted os started H enc)
theorem proved : Rows.FnExactEncodeRecordSaid := over
#print axioms proved
theorem plain (f : FuncId) (fn : Func) (hf : Tryd.pinned.checked.prog.funcNamed "loop.example/g00876/laws.FnExactEncodeRecord" = some f) (hfn : Tryd.pinned.checked.prog.funcs[f]? = some fn) :
    false = Tryd.pinned.checked.prog.looks [] ∧ ∀ (j : Nat) t, fn.params[j]? = some t → Tryd.pinned.checked.prog.wantsStandIn t = false := by
  obtain rfl : f = 3 := Option.some.inj ((show Tryd.prog.funcNamed "loop.example/g00876/laws.FnExactEncodeRecord" = some 3 by kernel_rfl).symm.trans hf) |>.symm
  obtain rfl : fn = Tryd.f3 := (Option.some.inj (Tryd.func3.symm.trans hfn)).symm
  refine ⟨by kernel_rfl, fun j t ht => ?_⟩
  rw [Tryd.params3] at ht
  have hm := Array.mem_of_getElem? ht
  simp only [List.mem_toArray, List.mem_cons, List.not_mem_nil, or_false] at hm
  rcases hm with rfl | rfl
  · exact (show Tryd.prog.wantsStandIn 3 = false by kernel_rfl)
  · exact (show Tryd.prog.wantsStandIn 23 = false by kernel_rfl)
theorem card : Rows.FnExactEncodeRecordCardSaid :=
  Claim7.holds_tied_plain_at .later [] _ _ _ _ proved (fun _ h => by cases h) (by kernel_rfl) (fun _ h => by cases h) fnExactEncodeRecord_row_tie rfl ⟨rfl, rfl⟩ (by kernel_rfl) rfl plain (by kernel_rfl)
#print axioms card
end Go.Proofs.YtblgaejagebeoaaDoor.fnExactEncodeRecord
namespace Go.Proofs.YtblgaejagebeoaaDoor
/-- The row, under a short name, for the claim. -/
theorem fnExactEncodeRecord_holds : Rows.FnExactEncodeRecordSaid := fnExactEncodeRecord.proved
/-- The card, under a short name. -/
theorem fnExactEncodeRecordCard_holds : Rows.FnExactEncodeRecordCardSaid := fnExactEncodeRecord.card
end Go.Proofs.YtblgaejagebeoaaDoor
