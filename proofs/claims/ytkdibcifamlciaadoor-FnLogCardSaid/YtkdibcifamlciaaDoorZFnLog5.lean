/- For every row of bytes the law FnLog answers true: a record that is appended follows those that stand, unchanged, and recovery of the log's bytes gives the synchronized log. No condition.
This file (part 5 of 6) holds what the proof needs: plain functions with rounds and contracts written by programs of this work over the translation, and the lemmas. -/
import Derived.Test.YtkdibcifamlciaaDoorZFnLog2
import Derived.Test.YtkdibcifamlciaaDoorZFnLog4
import Derived.Test.YtkdibcifamlciaaDoorZFnLog3
import Derived.Test.YtkdibcifamlciaaDoorZFnLog1
import Derived.ChangeArms
import Derived.DataReads
import Derived.Deep.Slices
import Derived.ChangeOld
import Derived.OpenShut
import Derived.Laws.BitsAllLaws
import Derived.Lib.Strings
import Derived.Lib.ItoaNum
import Derived.Lib.ItoaLen
import Derived.Lib.IndexAny
import Derived.Laws.Strings
import Derived.Lib.ConvBytes
import Derived.Lib.SmallJoins
import Derived.Shelf.Abstract
namespace Go.Proofs.YtkdibcifamlciaaDoor.X
open Go.RowKit Go.Proofs.YtkdibcifamlciaaDoorW.PrintWords Go.Proofs.YtkdibcifamlciaaDoorW.PrintLast Go.Proofs.YtkdibcifamlciaaDoorW.PrintMore
attribute [local go_sem] max2_int min2_int max_two min_two max_three min_three max_four min_four   -- for this text's walks alone
set_option linter.unusedVariables false
set_option linter.unusedSimpArgs false
attribute [-simp] ByteArray.size_append ByteArray.size_extract
attribute [-go_sem] ByteArray.size_append'

attribute [local go_sem high] eqA25 eqA32
/-! ### laws_FnLog: function 4 -/
mutual
def laws_FnLog.j0 : Nat → Int → Bool → ByteArray → ByteArray → Int → ByteArray → ByteArray → ByteArray → ByteArray → Int → Option (Bool)
 | 0, _, _, _, _, _, _, _, _, _, _ => none
 | k + 1, x6, x59, x108000, x108001, x108002, x109000, x109001, x114000, x114001, x114002 => if x59 = true then (some false) else (if x6 = 0 then ((impl_LogRecords.f k x114000 x114001 x114002).bind fun bt123 => ((impl_LogRecords.f k x108000 x108001 x108002).bind fun bt127 => (if x114000.size + x114001.size ≤ 9223372036854775807 then ((impl_RecoverLog.f k (x114000 ++ x114001)).bind fun bt131 => ((impl_SyncLog.f k x114000 x114001 x114002).bind fun bt137 => (if bt123.2 = true then (if (bt123.1.length : Int) = (wrap64 ((bt127.1.length : Int) + 1)) then (laws_FnLog.j1 k bt123.1 bt127.1 bt131.2.2.2.1 bt131.2.2.2.2 bt137.2.2.2 (x114002 != (bt123.1.length : Int)) x109000 x109001 x114000 x114001 x114002 bt131.1 bt131.2.1 bt131.2.2.1 bt137.1 bt137.2.1 bt137.2.2.1) else (laws_FnLog.j1 k bt123.1 bt127.1 bt131.2.2.2.1 bt131.2.2.2.2 bt137.2.2.2 true x109000 x109001 x114000 x114001 x114002 bt131.1 bt131.2.1 bt131.2.2.1 bt137.1 bt137.2.1 bt137.2.2.1)) else (laws_FnLog.j1 k bt123.1 bt127.1 bt131.2.2.2.1 bt131.2.2.2.2 bt137.2.2.2 true x109000 x109001 x114000 x114001 x114002 bt131.1 bt131.2.1 bt131.2.2.1 bt137.1 bt137.2.1 bt137.2.2.1)))) else (none)))) else (some (x114000.toList == x108000.toList && (x114001.toList == x108001.toList && (x114002 == x108002)))))
def laws_FnLog.j1 : Nat → List (S25) → List (S25) → Int → Bool → Bool → Bool → ByteArray → ByteArray → ByteArray → ByteArray → Int → ByteArray → ByteArray → Int → ByteArray → ByteArray → Int → Option (Bool)
 | 0, _, _, _, _, _, _, _, _, _, _, _, _, _, _, _, _, _ => none
 | k + 1, x9, x11, x14, x15, x17, x106, x109000, x109001, x114000, x114001, x114002, x137000, x137001, x137002, x142000, x142001, x142002 => if x106 = true then (some false) else (laws_FnLog.l0 k x9 x11 x14 x15 x17 0 x109000 x109001 x114000 x114001 x114002 x137000 x137001 x137002 x142000 x142001 x142002)
def laws_FnLog.l0 : Nat → List (S25) → List (S25) → Int → Bool → Bool → Int → ByteArray → ByteArray → ByteArray → ByteArray → Int → ByteArray → ByteArray → Int → ByteArray → ByteArray → Int → Option (Bool)
 | 0, _, _, _, _, _, _, _, _, _, _, _, _, _, _, _, _, _ => none
 | k + 1, x9, x11, x14, x15, x17, x18, x109000, x109001, x114000, x114001, x114002, x137000, x137001, x137002, x142000, x142001, x142002 => if x18 < (x11.length : Int) then (if 0 ≤ x18 then (if x18 < (x9.length : Int) then (if (!((((rd_T25 x9 x18).f0).toList) == (((rd_T25 x11 x18).f0).toList)) || (!((((rd_T25 x9 x18).f1).toList) == (((rd_T25 x11 x18).f1).toList)))) = true then (some false) else (laws_FnLog.l0 k x9 x11 x14 x15 x17 (wrap64 (x18 + 1)) x109000 x109001 x114000 x114001 x114002 x137000 x137001 x137002 x142000 x142001 x142002)) else (none)) else (none)) else (if 0 ≤ (x11.length : Int) then (if (x11.length : Int) < (x9.length : Int) then (if ((((rd_T25 x9 (x11.length : Int)).f0).toList) == x109000.toList && ((((rd_T25 x9 (x11.length : Int)).f1).toList) == x109001.toList)) = true then (if x15 = true then (if x114000.size + x114001.size ≤ 9223372036854775807 then (if x14 = ((x114000 ++ x114001).size : Int) then (if x17 = true then (if (x142000.toList == x137000.toList && (x142001.toList == x137001.toList && (x142002 == x137002))) = true then ((impl_IsValidLog.f k x114000 x114001 x114002).bind fun t145 => (some t145)) else (some false)) else (some false)) else (some false)) else (none)) else (some false)) else (some false)) else (none)) else (none))
end
def laws_FnLog.f (k : Nat) (l0 : List Int) : Option (Bool) := (laws_vBig.f l0).bind fun t101 => (if t101 = true then (some true) else ((spec_DrawAppendRecord.f k l0).bind fun bt102 => ((impl_AppendRecord.f k bt102.1 bt102.2.1 bt102.2.2.1 bt102.2.2.2.1 bt102.2.2.2.2).bind fun bt109 => ((spec_AppendRecord.f k bt102.1 bt102.2.1 bt102.2.2.1 bt102.2.2.2.1 bt102.2.2.2.2).bind fun bt114 => (if (!(bt109.1.toList == bt114.1.toList) || (!(bt109.2.1.toList == bt114.2.1.toList) || (!(bt109.2.2.1 == bt114.2.2.1)))) = true then (laws_FnLog.j0 k bt109.2.2.2 true bt102.1 bt102.2.1 bt102.2.2.1 bt102.2.2.2.1 bt102.2.2.2.2 bt109.1 bt109.2.1 bt109.2.2.1) else (if bt109.2.2.2 = bt114.2.2.2 then ((impl_IsValidLog.f k bt102.1 bt102.2.1 bt102.2.2.1).bind fun t119 => ((spec_IsValidLog.f k bt102.1 bt102.2.1 bt102.2.2.1).bind fun t120 => (if (t119 != t120) = true then (laws_FnLog.j0 k bt109.2.2.2 true bt102.1 bt102.2.1 bt102.2.2.1 bt102.2.2.2.1 bt102.2.2.2.2 bt109.1 bt109.2.1 bt109.2.2.1) else ((impl_IsValidLogRecord.f k bt102.2.2.2.1 bt102.2.2.2.2).bind fun t121 => ((spec_IsValidLogRecord.f k bt102.2.2.2.1 bt102.2.2.2.2).bind fun t122 => (laws_FnLog.j0 k bt109.2.2.2 (t121 != t122) bt102.1 bt102.2.1 bt102.2.2.1 bt102.2.2.2.1 bt102.2.2.2.2 bt109.1 bt109.2.1 bt109.2.2.1)))))) else (laws_FnLog.j0 k bt109.2.2.2 true bt102.1 bt102.2.1 bt102.2.2.1 bt102.2.2.2.1 bt102.2.2.2.2 bt109.1 bt109.2.1 bt109.2.2.1)))))))
def laws_FnLog.T6 : Bool × List (List Nat × List Nat) := (true, [([], []), ([], []), ([0, 1], [0, 1]), ([2], [2]), ([3], [3]), ([3], [3]), ([4, 5, 3], [3, 4, 5]), ([3, 6], [3, 6]), ([7, 3], [7]), ([8], [8]), ([9, 8, 8], [8, 9]), ([8], [8]), ([11, 10, 8], [8, 11]), ([10, 12, 8], [8, 10, 12]), ([8, 13], [8, 13]), ([14, 12], [14]), ([15], [15]), ([16, 15, 15], [15, 16]), ([15], [15]), ([18, 17, 15], [15, 18]), ([17, 19, 15], [15, 17, 19]), ([15, 20], [15, 20])])
def laws_FnLog.B6 : List Nat := [0, 0, 3, 7, 15, 15, 63, 127, 255, 511, 1023, 511, 4095, 8191, 16383, 32767, 65535, 131071, 65535, 524287, 1048575, 2097151]
theorem laws_FnLog.tab6 : rtab .any (opsOf Tryd.f4 6) = laws_FnLog.T6 := by kernel_rfl
theorem laws_FnLog.bits6 : waitsOk laws_FnLog.T6.2 laws_FnLog.B6 = true := by kernel_rfl
def laws_FnLog.T19 : Bool × List (List Nat × List Nat) := (true, [([], []), ([], []), ([0, 1], [0, 1]), ([2], [2]), ([], []), ([], []), ([4, 5], [4, 5]), ([6], [6]), ([3, 7], [3, 7])])
def laws_FnLog.B19 : List Nat := [0, 0, 3, 7, 0, 0, 48, 112, 255]
theorem laws_FnLog.tab19 : rtab .any (opsOf Tryd.f4 19) = laws_FnLog.T19 := by kernel_rfl
theorem laws_FnLog.bits19 : waitsOk laws_FnLog.T19.2 laws_FnLog.B19 = true := by kernel_rfl
def laws_FnLog.T21 : Bool × List (List Nat × List Nat) := (true, [([], []), ([], []), ([1], [1]), ([0, 2], [0, 2]), ([3], [3]), ([], []), ([4, 5], [4, 5]), ([6], [6]), ([7], [7]), ([7, 8], [7, 8]), ([9, 7], [9]), ([10], [10]), ([10], [10]), ([12, 10], [10, 12]), ([10], [10]), ([14, 10], [10, 14]), ([13, 15, 10], [10, 13, 15]), ([16, 10], [10, 16]), ([11, 17, 10], [10, 11, 17]), ([10, 18], [10, 18]), ([19, 10], [19]), ([20], [20]), ([20, 21], [20, 21]), ([22, 20], [22]), ([23], [23]), ([23], [23]), ([24, 25, 23], [23, 24, 25]), ([23, 26], [23, 26]), ([27, 23], [27]), ([28], [28]), ([29, 28, 28], [28, 29]), ([28, 30], [28, 30]), ([31, 30, 0, 1, 2, 3, 4, 5, 6, 7, 8, 9, 10, 11, 12, 13, 14, 15, 16, 17, 18, 19, 20, 21, 22, 23, 24, 25, 26, 27, 28, 29, 30, 31], [31])])
def laws_FnLog.B21 : List Nat := [0, 0, 2, 7, 15, 0, 63, 127, 255, 511, 1023, 2047, 2047, 6143, 2047, 18431, 63487, 129023, 262143, 524287, 1048575, 2097151, 4194303, 8388607, 16777215, 16777215, 67108863, 134217727, 268435455, 536870911, 1073741823, 2147483647, 4294967295]
theorem laws_FnLog.tab21 : rtab .any (opsOf Tryd.f4 21) = laws_FnLog.T21 := by kernel_rfl
theorem laws_FnLog.bits21 : waitsOk laws_FnLog.T21.2 laws_FnLog.B21 = true := by kernel_rfl
set_option maxHeartbeats 8000000 in
set_option maxRecDepth 100000 in
theorem laws_FnLog.calls (k : Nat) (A0 : Option Addr) (c0 : Nat) (l0 : List Int) (r : Bool) (w : World) (hr0 : Kd.C (Kd.int .u8) w A0 l0.length l0) (hc0 : l0.length ≤ c0) (hG : GT w) (h : laws_FnLog.f k l0 = some r) (ht_ : Aside0 (r = true)) :
  Calls Tryd.prog 4 #[.slice A0 l0.length c0] w fun e w' => e = .returned (.bool r) ∧ Below w.heap.size w w' := by
 (have hu32 := Tryd.underlying32); (have hu25 := Tryd.underlying25); (have HR0 := Aside0.mk hr0); (have HC0 := Aside0.mk hc0); clear hr0 hc0; (have HG := Aside0.mk hG); clear hG; (have HB := Aside0.mk (Below.refl w.heap.size w)); (have H : ((laws_vBig.f l0).bind fun t101 => (if t101 = true then (some true) else ((spec_DrawAppendRecord.f k l0).bind fun bt102 => ((impl_AppendRecord.f k bt102.1 bt102.2.1 bt102.2.2.1 bt102.2.2.2.1 bt102.2.2.2.2).bind fun bt109 => ((spec_AppendRecord.f k bt102.1 bt102.2.1 bt102.2.2.1 bt102.2.2.2.1 bt102.2.2.2.2).bind fun bt114 => (if (!(bt109.1.toList == bt114.1.toList) || (!(bt109.2.1.toList == bt114.2.1.toList) || (!(bt109.2.2.1 == bt114.2.2.1)))) = true then (laws_FnLog.j0 k bt109.2.2.2 true bt102.1 bt102.2.1 bt102.2.2.1 bt102.2.2.2.1 bt102.2.2.2.2 bt109.1 bt109.2.1 bt109.2.2.1) else (if bt109.2.2.2 = bt114.2.2.2 then ((impl_IsValidLog.f k bt102.1 bt102.2.1 bt102.2.2.1).bind fun t119 => ((spec_IsValidLog.f k bt102.1 bt102.2.1 bt102.2.2.1).bind fun t120 => (if (t119 != t120) = true then (laws_FnLog.j0 k bt109.2.2.2 true bt102.1 bt102.2.1 bt102.2.2.1 bt102.2.2.2.1 bt102.2.2.2.2 bt109.1 bt109.2.1 bt109.2.2.1) else ((impl_IsValidLogRecord.f k bt102.2.2.2.1 bt102.2.2.2.2).bind fun t121 => ((spec_IsValidLogRecord.f k bt102.2.2.2.1 bt102.2.2.2.2).bind fun t122 => (laws_FnLog.j0 k bt109.2.2.2 (t121 != t122) bt102.1 bt102.2.1 bt102.2.2.1 bt102.2.2.2.1 bt102.2.2.2.2 bt109.1 bt109.2.1 bt109.2.2.1)))))) else (laws_FnLog.j0 k bt109.2.2.2 true bt102.1 bt102.2.1 bt102.2.2.1 bt102.2.2.2.1 bt102.2.2.2.2 bt109.1 bt109.2.1 bt109.2.2.1)))))))) = some r := h); clear h; (replace H := Option.bind_eq_some_iff.mp H); (obtain ⟨t101, A20, H⟩ := H); (have A2 := Aside0.mk A20); clear A20; (by_cases c3 : t101 = true); (· subst c3; (rw [if_pos rfl] at H); (obtain rfl := Option.some.inj H); (go_enter Tryd.func4, Tryd.ntmps4); (go_wp2_with (first | ((with_reducible refine gate_callee (f := 6) rfl ?_); refine gL (some 20) Tryd.func6 #[.slice A0 l0.length c0] ?_; (with_reducible refine (laws_vBig.calls _ _ l0 true _ ?side1 ?side2 A2.out).mono ?_); (case side1 => repeat (first | exact HR0.out | (with_reducible first | refine cA ?_ _ | refine cN ?_ _ | refine cD ?_))); (case side2 => exact HC0.out); rintro e w' ⟨rfl, ⟨nd, rfl⟩⟩; refine ⟨_, rfl, ?_⟩))); go_ret; (exact ⟨by first | rfl | (simp [errW_none, errW_some] <;> rfl) | (simp [*, errW_none, errW_some] <;> rfl), by repeat (first | (with_reducible first | exact HB.out | apply bA | apply bN | apply bD) | exact HB.out)⟩))
 ·replace c3 := Bool.eq_false_iff.mpr c3
  subst c3; (rw [if_neg (show ¬ (false = true) by decide)] at H); (replace H := Option.bind_eq_some_iff.mp H); (obtain ⟨⟨t102, t103, t104, t105, t106⟩, A40, H⟩ := H); (replace H : ((impl_AppendRecord.f k t102 t103 t104 t105 t106).bind fun bt109 => ((spec_AppendRecord.f k t102 t103 t104 t105 t106).bind fun bt114 => (if (!(bt109.1.toList == bt114.1.toList) || (!(bt109.2.1.toList == bt114.2.1.toList) || (!(bt109.2.2.1 == bt114.2.2.1)))) = true then (laws_FnLog.j0 k bt109.2.2.2 true t102 t103 t104 t105 t106 bt109.1 bt109.2.1 bt109.2.2.1) else (if bt109.2.2.2 = bt114.2.2.2 then ((impl_IsValidLog.f k t102 t103 t104).bind fun t119 => ((spec_IsValidLog.f k t102 t103 t104).bind fun t120 => (if (t119 != t120) = true then (laws_FnLog.j0 k bt109.2.2.2 true t102 t103 t104 t105 t106 bt109.1 bt109.2.1 bt109.2.2.1) else ((impl_IsValidLogRecord.f k t105 t106).bind fun t121 => ((spec_IsValidLogRecord.f k t105 t106).bind fun t122 => (laws_FnLog.j0 k bt109.2.2.2 (t121 != t122) t102 t103 t104 t105 t106 bt109.1 bt109.2.1 bt109.2.2.1)))))) else (laws_FnLog.j0 k bt109.2.2.2 true t102 t103 t104 t105 t106 bt109.1 bt109.2.1 bt109.2.2.1))))) = some r := H); (have A4 := Aside0.mk A40); clear A40; (replace H := Option.bind_eq_some_iff.mp H); (obtain ⟨⟨t109, t110, t111, t112⟩, A50, H⟩ := H); (replace H : ((spec_AppendRecord.f k t102 t103 t104 t105 t106).bind fun bt114 => (if (!(t109.toList == bt114.1.toList) || (!(t110.toList == bt114.2.1.toList) || (!(t111 == bt114.2.2.1)))) = true then (laws_FnLog.j0 k t112 true t102 t103 t104 t105 t106 t109 t110 t111) else (if t112 = bt114.2.2.2 then ((impl_IsValidLog.f k t102 t103 t104).bind fun t119 => ((spec_IsValidLog.f k t102 t103 t104).bind fun t120 => (if (t119 != t120) = true then (laws_FnLog.j0 k t112 true t102 t103 t104 t105 t106 t109 t110 t111) else ((impl_IsValidLogRecord.f k t105 t106).bind fun t121 => ((spec_IsValidLogRecord.f k t105 t106).bind fun t122 => (laws_FnLog.j0 k t112 (t121 != t122) t102 t103 t104 t105 t106 t109 t110 t111)))))) else (laws_FnLog.j0 k t112 true t102 t103 t104 t105 t106 t109 t110 t111)))) = some r := H); (have A5 := Aside0.mk A50); clear A50; (replace H := Option.bind_eq_some_iff.mp H); (obtain ⟨⟨t114, t115, t116, t117⟩, A60, H⟩ := H); (replace H : (if (!(t109.toList == t114.toList) || (!(t110.toList == t115.toList) || (!(t111 == t116)))) = true then (laws_FnLog.j0 k t112 true t102 t103 t104 t105 t106 t109 t110 t111) else (if t112 = t117 then ((impl_IsValidLog.f k t102 t103 t104).bind fun t119 => ((spec_IsValidLog.f k t102 t103 t104).bind fun t120 => (if (t119 != t120) = true then (laws_FnLog.j0 k t112 true t102 t103 t104 t105 t106 t109 t110 t111) else ((impl_IsValidLogRecord.f k t105 t106).bind fun t121 => ((spec_IsValidLogRecord.f k t105 t106).bind fun t122 => (laws_FnLog.j0 k t112 (t121 != t122) t102 t103 t104 t105 t106 t109 t110 t111)))))) else (laws_FnLog.j0 k t112 true t102 t103 t104 t105 t106 t109 t110 t111))) = some r := H); (have A6 := Aside0.mk A60); clear A60; (have HC7 := Aside0.mk H); clear H; (go_enter Tryd.func4, Tryd.ntmps4)
  go_upto_region 6 with (first | ((with_reducible refine gate_callee (f := 6) rfl ?_); refine gL (some 20) Tryd.func6 #[.slice A0 l0.length c0] ?_; (with_reducible refine (laws_vBig.calls _ _ l0 false _ ?side1 ?side2 A2.out).mono ?_); (case side1 => repeat (first | exact HR0.out | (with_reducible first | refine cA ?_ _ | refine cN ?_ _ | refine cD ?_))); (case side2 => exact HC0.out); rintro e w' ⟨rfl, ⟨nd, rfl⟩⟩; refine ⟨_, rfl, ?_⟩) | ((with_reducible refine gate_callee (f := 15) rfl ?_); refine gL (some 23) Tryd.func15 #[.slice A0 l0.length c0] ?_; (with_reducible refine (spec_DrawAppendRecord.calls k _ _ l0 t102 t103 t104 t105 t106 _ ?side1 ?side2 A4.out).mono ?_); (case side1 => repeat (first | exact HR0.out | (with_reducible first | refine cA ?_ _ | refine cN ?_ _ | refine cD ?_))); (case side2 => exact HC0.out); rintro e w8 ⟨rfl, hb⟩; refine ⟨_, rfl, ?_⟩; have n0_ := Aside0.mk (below_step (by repeat (first | (with_reducible first | exact HB.out | apply bA | apply bN | apply bD) | exact HB.out)) hb); clear HB; have HB := n0_; clear n0_; (try clear hb); (try clear hb2); (try clear hk); (try clear hi)) | ((with_reducible refine gate_dst (N := 3) rfl ?_); refine box_event ?hg (N := 3) ?hd (cs := #[.string (⟨#[]⟩ : ByteArray), .string (⟨#[]⟩ : ByteArray), .int .i64 0]) (t := 32) ?hr ?_; (case hd => rfl); (case hg => rfl); (case hr => first | (go_simp; done) | (go_simp; rfl)); intro gb107 hg w9 hbox hb; have hB_ := bz (by repeat (first | (with_reducible first | exact HB.out | apply bA | apply bN | apply bD) | exact HB.out)) hb; have n0_ := Aside0.mk (below_step hB_ hb); have n1_ := Aside0.mk (hbox); have n2_ := Aside0.mk ((by rw [hg]; exact (below_size hB_) : w.heap.size ≤ gb107)); have n3_ := n2_; clear HB; have HB := n0_; have BK107 := n1_; have GW107 := n2_; have GE107 := n3_; clear n0_ n1_ n2_ n3_ hB_ hb hbox hg) | ((with_reducible refine gate_dst (N := 4) rfl ?_); refine box_event ?hg (N := 4) ?hd (cs := #[.string (⟨#[]⟩ : ByteArray), .string (⟨#[]⟩ : ByteArray)]) (t := 25) ?hr ?_; (case hd => rfl); (case hg => rfl); (case hr => first | (go_simp; done) | (go_simp; rfl)); intro gb108 hg w10 hbox hb; have n0_ := Aside0.mk (blk_below (by (with_reducible repeat (first | refine kN ?_ _ | refine kD ?_ | refine kA ?_ _)); exact BK107.out) hb); have hB_ := bz (by repeat (first | (with_reducible first | exact HB.out | apply bA | apply bN | apply bD | refine below_set ?_ GE107.out) | exact HB.out)) hb; have n1_ := Aside0.mk (below_step hB_ hb); have n2_ := Aside0.mk (hbox); have n3_ := Aside0.mk ((by rw [hg]; exact (below_size hB_) : w.heap.size ≤ gb108)); have n4_ := n3_; have n5_ := Aside0.mk ((by rw [hg]; exact Nat.ne_of_lt (blk_lt (by (with_reducible repeat (first | refine kN ?_ _ | refine kD ?_ | refine kA ?_ _)); exact BK107.out)) : gb107 ≠ gb108)); have n6_ := Aside0.mk (Ne.symm n5_.out); clear BK107 HB; have BK107 := n0_; have HB := n1_; have BK108 := n2_; have GW108 := n3_; have GE108 := n4_; have NB107_108 := n5_; have NB108_107 := n6_; clear n0_ n1_ n2_ n3_ n4_ n5_ n6_ hB_ hb hbox hg; have hnb11 := NB107_108.out; have hnc11 := NB108_107.out; have hcz12_0 := cz BK107.out 0; have hcz12_1 := cz BK107.out 1; have hcz12_2 := cz BK107.out 2; have hfz12_0 := blk_frozen BK107.out 0; have hfz12_1 := blk_frozen BK107.out 1; have hfz12_2 := blk_frozen BK107.out 2; have hcz13_0 := cz BK108.out 0; have hcz13_1 := cz BK108.out 1; have hfz13_0 := blk_frozen BK108.out 0; have hfz13_1 := blk_frozen BK108.out 1) | ((with_reducible refine gate_callee (f := 16) rfl ?_); refine gL (some 29) Tryd.func16 #[.agg #[.string t102, .string t103, .int .i64 t104], .agg #[.string t105, .string t106]] ?_; (with_reducible refine (impl_AppendRecord.calls k t102 t103 t104 t105 t106 t109 t110 t111 t112 _ ?side1 A5.out).mono ?_); (case side1 => first | exact GT.below HG.out (by repeat (first | (with_reducible first | exact HB.out | apply bA | apply bN | apply bD | refine below_set ?_ GE107.out | refine below_set ?_ GE108.out) | exact HB.out)) | (repeat (first | exact HG.out | (with_reducible first | apply GT.drewN | apply GT.drew | apply GT.alloc)))); rintro e w14 ⟨rfl, hb⟩; refine ⟨_, rfl, ?_⟩; have n0_ := Aside0.mk (blk_below (g := gb107) (o := .cells #[.string t102, .string t103, .int .i64 t104] 32 (0, 0)) (by (with_reducible repeat (first | refine kN ?_ _ | refine kD ?_ | refine kA ?_ _)); refine blk_far ?_ NB107_108.out _; (with_reducible repeat (first | refine kN ?_ _ | refine kD ?_ | refine kA ?_ _)); refine blk_far ?_ NB107_108.out _; (with_reducible repeat (first | refine kN ?_ _ | refine kD ?_ | refine kA ?_ _)); refine blk_put (cs := #[.string t102, .string t103, .int .i64 0]) ?_ 2 _ rfl; (with_reducible repeat (first | refine kN ?_ _ | refine kD ?_ | refine kA ?_ _)); refine blk_put (cs := #[.string t102, .string (⟨#[]⟩ : ByteArray), .int .i64 0]) ?_ 1 _ rfl; (with_reducible repeat (first | refine kN ?_ _ | refine kD ?_ | refine kA ?_ _)); refine blk_put (cs := #[.string (⟨#[]⟩ : ByteArray), .string (⟨#[]⟩ : ByteArray), .int .i64 0]) ?_ 0 _ rfl; (with_reducible repeat (first | refine kN ?_ _ | refine kD ?_ | refine kA ?_ _)); exact BK107.out) hb); have n1_ := Aside0.mk (blk_below (g := gb108) (o := .cells #[.string t105, .string t106] 25 (0, 0)) (by (with_reducible repeat (first | refine kN ?_ _ | refine kD ?_ | refine kA ?_ _)); refine blk_put (cs := #[.string t105, .string (⟨#[]⟩ : ByteArray)]) ?_ 1 _ rfl; (with_reducible repeat (first | refine kN ?_ _ | refine kD ?_ | refine kA ?_ _)); refine blk_put (cs := #[.string (⟨#[]⟩ : ByteArray), .string (⟨#[]⟩ : ByteArray)]) ?_ 0 _ rfl; (with_reducible repeat (first | refine kN ?_ _ | refine kD ?_ | refine kA ?_ _)); refine blk_far ?_ NB108_107.out _; (with_reducible repeat (first | refine kN ?_ _ | refine kD ?_ | refine kA ?_ _)); refine blk_far ?_ NB108_107.out _; (with_reducible repeat (first | refine kN ?_ _ | refine kD ?_ | refine kA ?_ _)); refine blk_far ?_ NB108_107.out _; (with_reducible repeat (first | refine kN ?_ _ | refine kD ?_ | refine kA ?_ _)); exact BK108.out) hb); have n2_ := Aside0.mk (below_step (by repeat (first | (with_reducible first | exact HB.out | apply bA | apply bN | apply bD | refine below_set ?_ GE107.out | refine below_set ?_ GE108.out) | exact HB.out)) hb); clear BK107 BK108 HB; have BK107 := n0_; have BK108 := n1_; have HB := n2_; clear n0_ n1_ n2_; (try clear hb); (try clear hb2); (try clear hk); (try clear hi)) | ((with_reducible refine gate_dst (N := 5) rfl ?_); refine box_event ?hg (N := 5) ?hd (cs := #[.string (⟨#[]⟩ : ByteArray), .string (⟨#[]⟩ : ByteArray), .int .i64 0]) (t := 32) ?hr ?_; (case hd => rfl); (case hg => rfl); (case hr => first | (go_simp; done) | (go_simp; rfl)); intro gb113 hg w15 hbox hb; have n0_ := Aside0.mk (blk_below (by (with_reducible repeat (first | refine kN ?_ _ | refine kD ?_ | refine kA ?_ _)); exact BK107.out) hb); have n1_ := Aside0.mk (blk_below (by (with_reducible repeat (first | refine kN ?_ _ | refine kD ?_ | refine kA ?_ _)); exact BK108.out) hb); have hB_ := bz (by repeat (first | (with_reducible first | exact HB.out | apply bA | apply bN | apply bD | refine below_set ?_ GE107.out | refine below_set ?_ GE108.out) | exact HB.out)) hb; have n2_ := Aside0.mk (below_step hB_ hb); have n3_ := Aside0.mk (hbox); have n4_ := Aside0.mk ((by rw [hg]; exact (below_size hB_) : w.heap.size ≤ gb113)); have n5_ := n4_; have n6_ := Aside0.mk ((by rw [hg]; exact Nat.ne_of_lt (blk_lt (by (with_reducible repeat (first | refine kN ?_ _ | refine kD ?_ | refine kA ?_ _)); exact BK107.out)) : gb107 ≠ gb113)); have n7_ := Aside0.mk (Ne.symm n6_.out); have n8_ := Aside0.mk ((by rw [hg]; exact Nat.ne_of_lt (blk_lt (by (with_reducible repeat (first | refine kN ?_ _ | refine kD ?_ | refine kA ?_ _)); exact BK108.out)) : gb108 ≠ gb113)); have n9_ := Aside0.mk (Ne.symm n8_.out); clear BK107 BK108 HB; have BK107 := n0_; have BK108 := n1_; have HB := n2_; have BK113 := n3_; have GW113 := n4_; have GE113 := n5_; have NB107_113 := n6_; have NB113_107 := n7_; have NB108_113 := n8_; have NB113_108 := n9_; clear n0_ n1_ n2_ n3_ n4_ n5_ n6_ n7_ n8_ n9_ hB_ hb hbox hg; have hnb16 := NB113_107.out; have hnc16 := NB107_113.out; have hnb17 := NB113_108.out; have hnc17 := NB108_113.out; have hcz18_0 := cz BK113.out 0; have hcz18_1 := cz BK113.out 1; have hcz18_2 := cz BK113.out 2; have hfz18_0 := blk_frozen BK113.out 0; have hfz18_1 := blk_frozen BK113.out 1; have hfz18_2 := blk_frozen BK113.out 2; have hcz19_0 := cz BK107.out 0; have hcz19_1 := cz BK107.out 1; have hcz19_2 := cz BK107.out 2; have hfz19_0 := blk_frozen BK107.out 0; have hfz19_1 := blk_frozen BK107.out 1; have hfz19_2 := blk_frozen BK107.out 2; have hcz20_0 := cz BK108.out 0; have hcz20_1 := cz BK108.out 1; have hfz20_0 := blk_frozen BK108.out 0; have hfz20_1 := blk_frozen BK108.out 1) | ((with_reducible refine gate_callee (f := 17) rfl ?_); refine gL (some 35) Tryd.func17 #[.agg #[.string t102, .string t103, .int .i64 t104], .agg #[.string t105, .string t106]] ?_; (with_reducible refine (spec_AppendRecord.calls k t102 t103 t104 t105 t106 t114 t115 t116 t117 _ A6.out).mono ?_); rintro e w21 ⟨rfl, hb⟩; refine ⟨_, rfl, ?_⟩; have n0_ := Aside0.mk (blk_below (g := gb107) (o := .cells #[.string t102, .string t103, .int .i64 t104] 32 (0, 0)) (by (with_reducible repeat (first | refine kN ?_ _ | refine kD ?_ | refine kA ?_ _)); refine blk_far ?_ NB107_113.out _; (with_reducible repeat (first | refine kN ?_ _ | refine kD ?_ | refine kA ?_ _)); refine blk_far ?_ NB107_113.out _; (with_reducible repeat (first | refine kN ?_ _ | refine kD ?_ | refine kA ?_ _)); refine blk_far ?_ NB107_113.out _; (with_reducible repeat (first | refine kN ?_ _ | refine kD ?_ | refine kA ?_ _)); exact BK107.out) hb); have n1_ := Aside0.mk (blk_below (g := gb108) (o := .cells #[.string t105, .string t106] 25 (0, 0)) (by (with_reducible repeat (first | refine kN ?_ _ | refine kD ?_ | refine kA ?_ _)); refine blk_far ?_ NB108_113.out _; (with_reducible repeat (first | refine kN ?_ _ | refine kD ?_ | refine kA ?_ _)); refine blk_far ?_ NB108_113.out _; (with_reducible repeat (first | refine kN ?_ _ | refine kD ?_ | refine kA ?_ _)); refine blk_far ?_ NB108_113.out _; (with_reducible repeat (first | refine kN ?_ _ | refine kD ?_ | refine kA ?_ _)); exact BK108.out) hb); have n2_ := Aside0.mk (blk_below (g := gb113) (o := .cells #[.string t109, .string t110, .int .i64 t111] 32 (0, 0)) (by (with_reducible repeat (first | refine kN ?_ _ | refine kD ?_ | refine kA ?_ _)); refine blk_put (cs := #[.string t109, .string t110, .int .i64 0]) ?_ 2 _ rfl; (with_reducible repeat (first | refine kN ?_ _ | refine kD ?_ | refine kA ?_ _)); refine blk_put (cs := #[.string t109, .string (⟨#[]⟩ : ByteArray), .int .i64 0]) ?_ 1 _ rfl; (with_reducible repeat (first | refine kN ?_ _ | refine kD ?_ | refine kA ?_ _)); refine blk_put (cs := #[.string (⟨#[]⟩ : ByteArray), .string (⟨#[]⟩ : ByteArray), .int .i64 0]) ?_ 0 _ rfl; (with_reducible repeat (first | refine kN ?_ _ | refine kD ?_ | refine kA ?_ _)); exact BK113.out) hb); have n3_ := Aside0.mk (below_step (by repeat (first | (with_reducible first | exact HB.out | apply bA | apply bN | apply bD | refine below_set ?_ GE107.out | refine below_set ?_ GE108.out | refine below_set ?_ GE113.out) | exact HB.out)) hb); clear BK107 BK108 BK113 HB; have BK107 := n0_; have BK108 := n1_; have BK113 := n2_; have HB := n3_; clear n0_ n1_ n2_ n3_; (try clear hb); (try clear hb2); (try clear hk); (try clear hi)) | ((with_reducible refine gate_dst (N := 7) rfl ?_); refine box_event ?hg (N := 7) ?hd (cs := #[.string (⟨#[]⟩ : ByteArray), .string (⟨#[]⟩ : ByteArray), .int .i64 0]) (t := 32) ?hr ?_; (case hd => rfl); (case hg => rfl); (case hr => first | (go_simp; done) | (go_simp; rfl)); intro gb118 hg w22 hbox hb; have n0_ := Aside0.mk (blk_below (by (with_reducible repeat (first | refine kN ?_ _ | refine kD ?_ | refine kA ?_ _)); exact BK107.out) hb); have n1_ := Aside0.mk (blk_below (by (with_reducible repeat (first | refine kN ?_ _ | refine kD ?_ | refine kA ?_ _)); exact BK108.out) hb); have n2_ := Aside0.mk (blk_below (by (with_reducible repeat (first | refine kN ?_ _ | refine kD ?_ | refine kA ?_ _)); exact BK113.out) hb); have hB_ := bz (by repeat (first | (with_reducible first | exact HB.out | apply bA | apply bN | apply bD | refine below_set ?_ GE107.out | refine below_set ?_ GE108.out | refine below_set ?_ GE113.out) | exact HB.out)) hb; have n3_ := Aside0.mk (below_step hB_ hb); have n4_ := Aside0.mk (hbox); have n5_ := Aside0.mk ((by rw [hg]; exact (below_size hB_) : w.heap.size ≤ gb118)); have n6_ := n5_; have n7_ := Aside0.mk ((by rw [hg]; exact Nat.ne_of_lt (blk_lt (by (with_reducible repeat (first | refine kN ?_ _ | refine kD ?_ | refine kA ?_ _)); exact BK107.out)) : gb107 ≠ gb118)); have n8_ := Aside0.mk (Ne.symm n7_.out); have n9_ := Aside0.mk ((by rw [hg]; exact Nat.ne_of_lt (blk_lt (by (with_reducible repeat (first | refine kN ?_ _ | refine kD ?_ | refine kA ?_ _)); exact BK108.out)) : gb108 ≠ gb118)); have n10_ := Aside0.mk (Ne.symm n9_.out); have n11_ := Aside0.mk ((by rw [hg]; exact Nat.ne_of_lt (blk_lt (by (with_reducible repeat (first | refine kN ?_ _ | refine kD ?_ | refine kA ?_ _)); exact BK113.out)) : gb113 ≠ gb118)); have n12_ := Aside0.mk (Ne.symm n11_.out); clear BK107 BK108 BK113 HB; have BK107 := n0_; have BK108 := n1_; have BK113 := n2_; have HB := n3_; have BK118 := n4_; have GW118 := n5_; have GE118 := n6_; have NB107_118 := n7_; have NB118_107 := n8_; have NB108_118 := n9_; have NB118_108 := n10_; have NB113_118 := n11_; have NB118_113 := n12_; clear n0_ n1_ n2_ n3_ n4_ n5_ n6_ n7_ n8_ n9_ n10_ n11_ n12_ hB_ hb hbox hg; have hnb23 := NB118_107.out; have hnc23 := NB107_118.out; have hnb24 := NB118_108.out; have hnc24 := NB108_118.out; have hnb25 := NB118_113.out; have hnc25 := NB113_118.out; have hcz26_0 := cz BK118.out 0; have hcz26_1 := cz BK118.out 1; have hcz26_2 := cz BK118.out 2; have hfz26_0 := blk_frozen BK118.out 0; have hfz26_1 := blk_frozen BK118.out 1; have hfz26_2 := blk_frozen BK118.out 2))
  ((try simp only [Act.put, aS1, aS2, aS3])); (go_cut [59] (fun v59 wc => ∃ (kq : Nat) (x59_6 : Bool), v59 = .bool x59_6 ∧ Aside0 (laws_FnLog.j0 kq t112 x59_6 t102 t103 t104 t105 t106 t109 t110 t111 = some r) ∧ Aside0 (kq ≤ k) ∧ Aside0 (wc.heap[gb107]? = some (.cells #[.string t102, .string t103, .int .i64 t104] 32 (0, 0))) ∧ Aside0 (wc.heap[gb108]? = some (.cells #[.string t105, .string t106] 25 (0, 0))) ∧ Aside0 (wc.heap[gb113]? = some (.cells #[.string t109, .string t110, .int .i64 t111] 32 (0, 0))) ∧ Aside0 (wc.heap[gb118]? = some (.cells #[.string t114, .string t115, .int .i64 t116] 32 (0, 0))) ∧ Aside0 (Below w.heap.size w wc)))
  case first =>
   (have H := HC7.out); clear HC7; (by_cases c27 : (!(t109.toList == t114.toList) || (!(t110.toList == t115.toList) || (!(t111 == t116)))) = true)
   ·rw [if_pos c27] at H
    (have c27b0 : (!(t109.toList == t114.toList) || (!(t110.toList == t115.toList) || (!(t111 == t116)))) = true := c27); clear c27; ((first | rw [c27b0] | (simp only [i64_w, i32_w]; rw [c27b0]) | skip)); (have H' := Aside0.mk H); clear H; (try go_wp2); (have n0_ : Aside0 ((((w22.setCell ⟨gb118, 0, none⟩ (.string t114)).setCell ⟨gb118, 1, none⟩ (.string t115)).setCell ⟨gb118, 2, none⟩ (.int .i64 t116)).heap[gb107]? = some (.cells #[.string t102, .string t103, .int .i64 t104] 32 (0, 0))) := ⟨by (with_reducible repeat (first | refine kN ?_ _ | refine kD ?_ | refine kA ?_ _)); refine blk_far ?_ NB107_118.out _; (with_reducible repeat (first | refine kN ?_ _ | refine kD ?_ | refine kA ?_ _)); refine blk_far ?_ NB107_118.out _; (with_reducible repeat (first | refine kN ?_ _ | refine kD ?_ | refine kA ?_ _)); refine blk_far ?_ NB107_118.out _; (with_reducible repeat (first | refine kN ?_ _ | refine kD ?_ | refine kA ?_ _)); exact BK107.out⟩); (have n1_ : Aside0 ((((w22.setCell ⟨gb118, 0, none⟩ (.string t114)).setCell ⟨gb118, 1, none⟩ (.string t115)).setCell ⟨gb118, 2, none⟩ (.int .i64 t116)).heap[gb108]? = some (.cells #[.string t105, .string t106] 25 (0, 0))) := ⟨by (with_reducible repeat (first | refine kN ?_ _ | refine kD ?_ | refine kA ?_ _)); refine blk_far ?_ NB108_118.out _; (with_reducible repeat (first | refine kN ?_ _ | refine kD ?_ | refine kA ?_ _)); refine blk_far ?_ NB108_118.out _; (with_reducible repeat (first | refine kN ?_ _ | refine kD ?_ | refine kA ?_ _)); refine blk_far ?_ NB108_118.out _; (with_reducible repeat (first | refine kN ?_ _ | refine kD ?_ | refine kA ?_ _)); exact BK108.out⟩); (have n2_ : Aside0 ((((w22.setCell ⟨gb118, 0, none⟩ (.string t114)).setCell ⟨gb118, 1, none⟩ (.string t115)).setCell ⟨gb118, 2, none⟩ (.int .i64 t116)).heap[gb113]? = some (.cells #[.string t109, .string t110, .int .i64 t111] 32 (0, 0))) := ⟨by (with_reducible repeat (first | refine kN ?_ _ | refine kD ?_ | refine kA ?_ _)); refine blk_far ?_ NB113_118.out _; (with_reducible repeat (first | refine kN ?_ _ | refine kD ?_ | refine kA ?_ _)); refine blk_far ?_ NB113_118.out _; (with_reducible repeat (first | refine kN ?_ _ | refine kD ?_ | refine kA ?_ _)); refine blk_far ?_ NB113_118.out _; (with_reducible repeat (first | refine kN ?_ _ | refine kD ?_ | refine kA ?_ _)); exact BK113.out⟩); (have n3_ : Aside0 ((((w22.setCell ⟨gb118, 0, none⟩ (.string t114)).setCell ⟨gb118, 1, none⟩ (.string t115)).setCell ⟨gb118, 2, none⟩ (.int .i64 t116)).heap[gb118]? = some (.cells #[.string t114, .string t115, .int .i64 t116] 32 (0, 0))) := ⟨by (with_reducible repeat (first | refine kN ?_ _ | refine kD ?_ | refine kA ?_ _)); refine blk_put (cs := #[.string t114, .string t115, .int .i64 0]) ?_ 2 _ rfl; (with_reducible repeat (first | refine kN ?_ _ | refine kD ?_ | refine kA ?_ _)); refine blk_put (cs := #[.string t114, .string (⟨#[]⟩ : ByteArray), .int .i64 0]) ?_ 1 _ rfl; (with_reducible repeat (first | refine kN ?_ _ | refine kD ?_ | refine kA ?_ _)); refine blk_put (cs := #[.string (⟨#[]⟩ : ByteArray), .string (⟨#[]⟩ : ByteArray), .int .i64 0]) ?_ 0 _ rfl; (with_reducible repeat (first | refine kN ?_ _ | refine kD ?_ | refine kA ?_ _)); exact BK118.out⟩); (have n4_ : Aside0 (Below w.heap.size w (((w22.setCell ⟨gb118, 0, none⟩ (.string t114)).setCell ⟨gb118, 1, none⟩ (.string t115)).setCell ⟨gb118, 2, none⟩ (.int .i64 t116))) := ⟨by repeat (first | (with_reducible first | exact HB.out | apply bA | apply bN | apply bD | refine below_set ?_ GE107.out | refine below_set ?_ GE108.out | refine below_set ?_ GE113.out | refine below_set ?_ GE118.out) | exact HB.out)⟩); ((try clear BK107)); ((try clear BK108)); ((try clear BK113)); ((try clear BK118)); ((try clear HB)); (generalize (((w22.setCell ⟨gb118, 0, none⟩ (.string t114)).setCell ⟨gb118, 1, none⟩ (.string t115)).setCell ⟨gb118, 2, none⟩ (.int .i64 t116)) = w28 at n0_ n1_ n2_ n3_ n4_ ⊢); (have BK107 := n0_); (have BK108 := n1_); (have BK113 := n2_); (have BK118 := n3_); (have HB := n4_); clear n0_ n1_ n2_ n3_ n4_; (have n0_ := Aside0.mk (blk_drew BK107.out)); (have n1_ := Aside0.mk (blk_drew BK108.out)); (have n2_ := Aside0.mk (blk_drew BK113.out)); (have n3_ := Aside0.mk (blk_drew BK118.out)); (have n4_ := Aside0.mk (below_drew1 HB.out)); clear BK107 BK108 BK113 BK118 HB; (have BK107 := n0_); (have BK108 := n1_); (have BK113 := n2_); (have BK118 := n3_); (have HB := n4_); clear n0_ n1_ n2_ n3_ n4_; (refine start_ (n := 22) (S := fun w' => w'.cell? ⟨gb113, 0, none⟩ = some (.string t109) ∧ w'.cell? ⟨gb113, 1, none⟩ = some (.string t110) ∧ w'.cell? ⟨gb113, 2, none⟩ = some (.int .i64 t111) ∧ w'.cell? ⟨gb118, 0, none⟩ = some (.string t114) ∧ w'.cell? ⟨gb118, 1, none⟩ = some (.string t115) ∧ w'.cell? ⟨gb118, 2, none⟩ = some (.int .i64 t116)) (ds := []) (cn 22 0) (by kernel_rfl) rfl (by kernel_rfl) ⟨(blk_cell BK113.out 0).trans rfl, (blk_cell BK113.out 1).trans rfl, (blk_cell BK113.out 2).trans rfl, (blk_cell BK118.out 0).trans rfl, (blk_cell BK118.out 1).trans rfl, (blk_cell BK118.out 2).trans rfl⟩ (fun hHeld => ?_); refine with_tabW laws_FnLog.tab6 laws_FnLog.bits6 (fun HT_ HW_ => ?_)); (generalize w28.drew = w29 at BK107 BK108 BK113 BK118 HB hHeld ⊢); (refine tB 0 (cn 22 1) (some 38) HT_ HW_ hHeld (h := ?_))
    (refine tB 1 (cn 22 2) (some 39) HT_ HW_ hHeld (h := ?_)); (refine pB 2 (cn 22 3) (some 40) HT_ (h := ?_)); (refine pB 3 (cn 22 4) (some 41) HT_ (h := ?_)); (refine pU 4 (cn 22 5) (some 42) HT_ (h := ?_)); (refine pU 5 (cn 22 6) (some 43) HT_ (h := ?_)); (refine pU 6 (cn 22 7) (some 44) HT_ (h := ?_)); (refine pB 7 (cn 22 8) (some 45) HT_ (h := ?_)); (refine pB 8 (cn 22 9) (some 46) HT_ (h := ?_)); (refine pU 9 (cn 22 10) (some 47) HT_ (h := ?_)); (refine pU 10 (cn 22 11) (some 48) HT_ (h := ?_)); (refine pU 11 (cn 22 12) (some 49) HT_ (h := ?_)); (refine pU 12 (cn 22 13) (some 50) HT_ (h := ?_)); (refine pU 13 (cn 22 14) (some 51) HT_ (h := ?_)); (refine pB 14 (cn 22 15) (some 52) HT_ (h := ?_)); (refine pB 15 (cn 22 16) (some 53) HT_ (h := ?_)); (refine pU 16 (cn 22 17) (some 54) HT_ (h := ?_)); (refine pU 17 (cn 22 18) (some 55) HT_ (h := ?_)); (refine pU 18 (cn 22 19) (some 56) HT_ (h := ?_)); (refine pU 19 (cn 22 20) (some 57) HT_ (h := ?_)); (refine pU 20 (cn 22 21) (some 58) HT_ (h := ?_)); (refine pB 21 (cn 22 22) (some 59) HT_ (h := ?_))
    (refine done_ (done_of HT_.out (by kernel_rfl)) ?_); (try go_wp2); (go_meet)
    case rel => exact ⟨_, (true), (by first | rfl | (simp; done) | (simp [*]; done)), H', ⟨by first | omega | exact Nat.le_refl _⟩, ⟨by (with_reducible repeat (first | refine kN ?_ _ | refine kD ?_ | refine kA ?_ _)); exact BK107.out⟩, ⟨by (with_reducible repeat (first | refine kN ?_ _ | refine kD ?_ | refine kA ?_ _)); exact BK108.out⟩, ⟨by (with_reducible repeat (first | refine kN ?_ _ | refine kD ?_ | refine kA ?_ _)); exact BK113.out⟩, ⟨by (with_reducible repeat (first | refine kN ?_ _ | refine kD ?_ | refine kA ?_ _)); exact BK118.out⟩, ⟨by repeat (first | (with_reducible first | exact HB.out | apply bA | apply bN | apply bD | refine below_set ?_ GE107.out | refine below_set ?_ GE108.out | refine below_set ?_ GE113.out | refine below_set ?_ GE118.out) | exact HB.out)⟩⟩
   ·rw [if_neg c27] at H
    (have c27b0 : (!(t109.toList == t114.toList) || (!(t110.toList == t115.toList) || (!(t111 == t116)))) = false := by simpa using c27); clear c27; ((first | rw [c27b0] | (simp only [i64_w, i32_w]; rw [c27b0]) | skip)); (by_cases c30 : t112 = t117)
    ·rw [if_pos c30] at H
     (have c30b0 : (t112 == t117) = true := beq_iff_eq.mpr c30); (have c30b1 : (t112 != t117) = false := bne_eq_false_iff_eq.mpr c30); clear c30; (replace H := Option.bind_eq_some_iff.mp H); (obtain ⟨t119, A310, H⟩ := H); (have A31 := Aside0.mk A310); clear A310; (replace H := Option.bind_eq_some_iff.mp H); (obtain ⟨t120, A320, H⟩ := H); (have A32 := Aside0.mk A320); clear A320; (by_cases c33 : (t119 != t120) = true)
     ·rw [if_pos c33] at H
      (have c33b0 : (t119 != t120) = true := c33); ((try (have c33b1 : decide (t119 = t120) = false := by simpa using c33))); ((try (have c33b2 : (t119 == t120) = false := by simpa using c33))); ((try (have c33b3 : ¬ (t119 = t120) := by simpa using c33))); clear c33; (have H' := Aside0.mk H); clear H; (try go_wp2); (have n0_ : Aside0 ((((w22.setCell ⟨gb118, 0, none⟩ (.string t114)).setCell ⟨gb118, 1, none⟩ (.string t115)).setCell ⟨gb118, 2, none⟩ (.int .i64 t116)).heap[gb107]? = some (.cells #[.string t102, .string t103, .int .i64 t104] 32 (0, 0))) := ⟨by (with_reducible repeat (first | refine kN ?_ _ | refine kD ?_ | refine kA ?_ _)); refine blk_far ?_ NB107_118.out _; (with_reducible repeat (first | refine kN ?_ _ | refine kD ?_ | refine kA ?_ _)); refine blk_far ?_ NB107_118.out _; (with_reducible repeat (first | refine kN ?_ _ | refine kD ?_ | refine kA ?_ _)); refine blk_far ?_ NB107_118.out _; (with_reducible repeat (first | refine kN ?_ _ | refine kD ?_ | refine kA ?_ _)); exact BK107.out⟩); (have n1_ : Aside0 ((((w22.setCell ⟨gb118, 0, none⟩ (.string t114)).setCell ⟨gb118, 1, none⟩ (.string t115)).setCell ⟨gb118, 2, none⟩ (.int .i64 t116)).heap[gb108]? = some (.cells #[.string t105, .string t106] 25 (0, 0))) := ⟨by (with_reducible repeat (first | refine kN ?_ _ | refine kD ?_ | refine kA ?_ _)); refine blk_far ?_ NB108_118.out _; (with_reducible repeat (first | refine kN ?_ _ | refine kD ?_ | refine kA ?_ _)); refine blk_far ?_ NB108_118.out _; (with_reducible repeat (first | refine kN ?_ _ | refine kD ?_ | refine kA ?_ _)); refine blk_far ?_ NB108_118.out _; (with_reducible repeat (first | refine kN ?_ _ | refine kD ?_ | refine kA ?_ _)); exact BK108.out⟩); (have n2_ : Aside0 ((((w22.setCell ⟨gb118, 0, none⟩ (.string t114)).setCell ⟨gb118, 1, none⟩ (.string t115)).setCell ⟨gb118, 2, none⟩ (.int .i64 t116)).heap[gb113]? = some (.cells #[.string t109, .string t110, .int .i64 t111] 32 (0, 0))) := ⟨by (with_reducible repeat (first | refine kN ?_ _ | refine kD ?_ | refine kA ?_ _)); refine blk_far ?_ NB113_118.out _; (with_reducible repeat (first | refine kN ?_ _ | refine kD ?_ | refine kA ?_ _)); refine blk_far ?_ NB113_118.out _; (with_reducible repeat (first | refine kN ?_ _ | refine kD ?_ | refine kA ?_ _)); refine blk_far ?_ NB113_118.out _; (with_reducible repeat (first | refine kN ?_ _ | refine kD ?_ | refine kA ?_ _)); exact BK113.out⟩); (have n3_ : Aside0 ((((w22.setCell ⟨gb118, 0, none⟩ (.string t114)).setCell ⟨gb118, 1, none⟩ (.string t115)).setCell ⟨gb118, 2, none⟩ (.int .i64 t116)).heap[gb118]? = some (.cells #[.string t114, .string t115, .int .i64 t116] 32 (0, 0))) := ⟨by (with_reducible repeat (first | refine kN ?_ _ | refine kD ?_ | refine kA ?_ _)); refine blk_put (cs := #[.string t114, .string t115, .int .i64 0]) ?_ 2 _ rfl; (with_reducible repeat (first | refine kN ?_ _ | refine kD ?_ | refine kA ?_ _)); refine blk_put (cs := #[.string t114, .string (⟨#[]⟩ : ByteArray), .int .i64 0]) ?_ 1 _ rfl; (with_reducible repeat (first | refine kN ?_ _ | refine kD ?_ | refine kA ?_ _)); refine blk_put (cs := #[.string (⟨#[]⟩ : ByteArray), .string (⟨#[]⟩ : ByteArray), .int .i64 0]) ?_ 0 _ rfl; (with_reducible repeat (first | refine kN ?_ _ | refine kD ?_ | refine kA ?_ _)); exact BK118.out⟩); (have n4_ : Aside0 (Below w.heap.size w (((w22.setCell ⟨gb118, 0, none⟩ (.string t114)).setCell ⟨gb118, 1, none⟩ (.string t115)).setCell ⟨gb118, 2, none⟩ (.int .i64 t116))) := ⟨by repeat (first | (with_reducible first | exact HB.out | apply bA | apply bN | apply bD | refine below_set ?_ GE107.out | refine below_set ?_ GE108.out | refine below_set ?_ GE113.out | refine below_set ?_ GE118.out) | exact HB.out)⟩); ((try clear BK107)); ((try clear BK108)); ((try clear BK113)); ((try clear BK118)); ((try clear HB)); (generalize (((w22.setCell ⟨gb118, 0, none⟩ (.string t114)).setCell ⟨gb118, 1, none⟩ (.string t115)).setCell ⟨gb118, 2, none⟩ (.int .i64 t116)) = w34 at n0_ n1_ n2_ n3_ n4_ ⊢); (have BK107 := n0_); (have BK108 := n1_); (have BK113 := n2_); (have BK118 := n3_); (have HB := n4_); clear n0_ n1_ n2_ n3_ n4_; (have n0_ := Aside0.mk (blk_drew BK107.out)); (have n1_ := Aside0.mk (blk_drew BK108.out)); (have n2_ := Aside0.mk (blk_drew BK113.out)); (have n3_ := Aside0.mk (blk_drew BK118.out)); (have n4_ := Aside0.mk (below_drew1 HB.out)); clear BK107 BK108 BK113 BK118 HB; (have BK107 := n0_); (have BK108 := n1_); (have BK113 := n2_); (have BK118 := n3_); (have HB := n4_); clear n0_ n1_ n2_ n3_ n4_; (refine start_ (n := 22) (S := fun w' => w'.cell? ⟨gb113, 0, none⟩ = some (.string t109) ∧ w'.cell? ⟨gb113, 1, none⟩ = some (.string t110) ∧ w'.cell? ⟨gb113, 2, none⟩ = some (.int .i64 t111) ∧ w'.cell? ⟨gb118, 0, none⟩ = some (.string t114) ∧ w'.cell? ⟨gb118, 1, none⟩ = some (.string t115) ∧ w'.cell? ⟨gb118, 2, none⟩ = some (.int .i64 t116) ∧ w'.cell? ⟨gb107, 0, none⟩ = some (.string t102) ∧ w'.cell? ⟨gb107, 1, none⟩ = some (.string t103) ∧ w'.cell? ⟨gb107, 2, none⟩ = some (.int .i64 t104)) (ds := []) (cn 22 0) (by kernel_rfl) rfl (by kernel_rfl) ⟨(blk_cell BK113.out 0).trans rfl, (blk_cell BK113.out 1).trans rfl, (blk_cell BK113.out 2).trans rfl, (blk_cell BK118.out 0).trans rfl, (blk_cell BK118.out 1).trans rfl, (blk_cell BK118.out 2).trans rfl, (blk_cell BK107.out 0).trans rfl, (blk_cell BK107.out 1).trans rfl, (blk_cell BK107.out 2).trans rfl⟩ (fun hHeld => ?_); refine with_tabW laws_FnLog.tab6 laws_FnLog.bits6 (fun HT_ HW_ => ?_)); (generalize w34.drew = w35 at BK107 BK108 BK113 BK118 HB hHeld ⊢)
      (refine tB 0 (cn 22 1) (some 38) HT_ HW_ hHeld (h := ?_)); (refine tB 1 (cn 22 2) (some 39) HT_ HW_ hHeld (h := ?_)); (refine pB 2 (cn 22 3) (some 40) HT_ (h := ?_)); (refine pB 3 (cn 22 4) (some 41) HT_ (h := ?_)); (refine pB 4 (cn 22 5) (some 42) HT_ (h := ?_)); (refine pB 5 (cn 22 6) (some 43) HT_ (h := ?_)); (refine pB 6 (cn 22 7) (some 44) HT_ (h := ?_)); (refine pB 7 (cn 22 8) (some 45) HT_ (h := ?_)); (refine pB 8 (cn 22 9) (some 46) HT_ (h := ?_)); (refine tB 9 (cn 22 10) (some 47) HT_ HW_ hHeld (h := ?_)); (refine tB 11 (cb 22 3071) (some 49) HT_ HW_ hHeld (h := ?_)); (refine one_ (i := 10) (N := some 48) (cn 22 12) rfl rfl (one_of HT_.out (by kernel_rfl)) (by decide) (fun K hK => ?_)); (refine goes_ Tryd.func14 (by kernel_rfl) rfl #[.agg #[.string t102, .string t103, .int .i64 t104]] (by rfl) rfl rfl (by (try simp only [aM1, aM2, aM3]); first | done | rfl | (simp only [List.length_drop, List.length_take]; rfl)) ?_); (with_reducible refine (impl_IsValidLog.calls k t102 t103 t104 t119 _ ?side1 A31.out).mono ?_); ((case side1 => first | exact GT.below HG.out (by repeat (first | (with_reducible first | exact HB.out | apply bA | apply bN | apply bD | refine below_set ?_ GE107.out | refine below_set ?_ GE108.out | refine below_set ?_ GE113.out | refine below_set ?_ GE118.out) | exact HB.out)) | (repeat (first | exact HG.out | (with_reducible first | apply GT.drewN | apply GT.drew | apply GT.alloc))))); (rintro e w36 ⟨rfl, hb⟩); (refine ⟨_, rfl, ?_⟩); (have n0_ := Aside0.mk (blk_below (by (with_reducible repeat (first | refine kN ?_ _ | refine kD ?_ | refine kA ?_ _)); exact BK107.out) hb)); (have n1_ := Aside0.mk (blk_below (by (with_reducible repeat (first | refine kN ?_ _ | refine kD ?_ | refine kA ?_ _)); exact BK108.out) hb)); (have n2_ := Aside0.mk (blk_below (by (with_reducible repeat (first | refine kN ?_ _ | refine kD ?_ | refine kA ?_ _)); exact BK113.out) hb)); (have n3_ := Aside0.mk (blk_below (by (with_reducible repeat (first | refine kN ?_ _ | refine kD ?_ | refine kA ?_ _)); exact BK118.out) hb)); (have n4_ := Aside0.mk (below_step (by repeat (first | (with_reducible first | exact HB.out | apply bA | apply bN | apply bD | refine below_set ?_ GE107.out | refine below_set ?_ GE108.out | refine below_set ?_ GE113.out | refine below_set ?_ GE118.out) | exact HB.out)) hb)); clear BK107 BK108 BK113 BK118 HB; (have BK107 := n0_); (have BK108 := n1_); (have BK113 := n2_); (have BK118 := n3_); (have HB := n4_); clear n0_ n1_ n2_ n3_ n4_; ((try clear hb)); ((try clear hb2)); ((try clear hk)); ((try clear hi))
      (refine hK.out _ _ ⟨(blk_cell BK113.out 0).trans rfl, (blk_cell BK113.out 1).trans rfl, (blk_cell BK113.out 2).trans rfl, (blk_cell BK118.out 0).trans rfl, (blk_cell BK118.out 1).trans rfl, (blk_cell BK118.out 2).trans rfl, (blk_cell BK107.out 0).trans rfl, (blk_cell BK107.out 1).trans rfl, (blk_cell BK107.out 2).trans rfl⟩ (fun hHeld => ?_)); clear hK K; (refine norm_ (a' := ?_) ?_ ?_); rotate_left; (· (show Act.put _ (some 48) _ = _); (simp only [Act.put, aS1, aS2, aS3, i64_w, i32_w]); rfl); (refine one_ (i := 12) (N := some 50) (cn 22 13) rfl rfl (one_of HT_.out (by kernel_rfl)) (by decide) (fun K hK => ?_)); (refine goes_ Tryd.func18 (by kernel_rfl) rfl #[.agg #[.string t102, .string t103, .int .i64 t104]] (by rfl) rfl rfl (by (try simp only [aM1, aM2, aM3]); first | done | rfl | (simp only [List.length_drop, List.length_take]; rfl)) ?_); (with_reducible refine (spec_IsValidLog.calls k t102 t103 t104 t120 _ A32.out).mono ?_); (rintro e w37 ⟨rfl, hb⟩); (refine ⟨_, rfl, ?_⟩); (have n0_ := Aside0.mk (blk_below (by (with_reducible repeat (first | refine kN ?_ _ | refine kD ?_ | refine kA ?_ _)); exact BK107.out) hb)); (have n1_ := Aside0.mk (blk_below (by (with_reducible repeat (first | refine kN ?_ _ | refine kD ?_ | refine kA ?_ _)); exact BK108.out) hb)); (have n2_ := Aside0.mk (blk_below (by (with_reducible repeat (first | refine kN ?_ _ | refine kD ?_ | refine kA ?_ _)); exact BK113.out) hb)); (have n3_ := Aside0.mk (blk_below (by (with_reducible repeat (first | refine kN ?_ _ | refine kD ?_ | refine kA ?_ _)); exact BK118.out) hb)); (have n4_ := Aside0.mk (below_step (by repeat (first | (with_reducible first | exact HB.out | apply bA | apply bN | apply bD | refine below_set ?_ GE107.out | refine below_set ?_ GE108.out | refine below_set ?_ GE113.out | refine below_set ?_ GE118.out) | exact HB.out)) hb)); clear BK107 BK108 BK113 BK118 HB; (have BK107 := n0_); (have BK108 := n1_); (have BK113 := n2_); (have BK118 := n3_); (have HB := n4_); clear n0_ n1_ n2_ n3_ n4_; ((try clear hb)); ((try clear hb2)); ((try clear hk)); ((try clear hi)); (refine hK.out _ _ ⟨(blk_cell BK113.out 0).trans rfl, (blk_cell BK113.out 1).trans rfl, (blk_cell BK113.out 2).trans rfl, (blk_cell BK118.out 0).trans rfl, (blk_cell BK118.out 1).trans rfl, (blk_cell BK118.out 2).trans rfl, (blk_cell BK107.out 0).trans rfl, (blk_cell BK107.out 1).trans rfl, (blk_cell BK107.out 2).trans rfl⟩ (fun hHeld => ?_)); clear hK K; (refine norm_ (a' := ?_) ?_ ?_); rotate_left; (· (show Act.put _ (some 50) _ = _); (simp only [Act.put, aS1, aS2, aS3, i64_w, i32_w]); rfl); (refine pB 13 (cn 22 14) (some 51) HT_ (h := ?_)); (refine pB 14 (cn 22 15) (some 52) HT_ (h := ?_)); (refine pB 15 (cn 22 16) (some 53) HT_ (h := ?_)); (refine pU 16 (cn 22 17) (some 54) HT_ (h := ?_)); (refine pU 17 (cn 22 18) (some 55) HT_ (h := ?_)); (refine pU 18 (cn 22 19) (some 56) HT_ (h := ?_)); (refine pU 19 (cn 22 20) (some 57) HT_ (h := ?_)); (refine pU 20 (cn 22 21) (some 58) HT_ (h := ?_)); (refine pB 21 (cn 22 22) (some 59) HT_ (h := ?_)); (refine done_ (done_of HT_.out (by kernel_rfl)) ?_); (try go_wp2); (go_meet)
      case rel => exact ⟨_, (true), (by first | rfl | (simp; done) | (simp [*]; done)), H', ⟨by first | omega | exact Nat.le_refl _⟩, ⟨by (with_reducible repeat (first | refine kN ?_ _ | refine kD ?_ | refine kA ?_ _)); exact BK107.out⟩, ⟨by (with_reducible repeat (first | refine kN ?_ _ | refine kD ?_ | refine kA ?_ _)); exact BK108.out⟩, ⟨by (with_reducible repeat (first | refine kN ?_ _ | refine kD ?_ | refine kA ?_ _)); exact BK113.out⟩, ⟨by (with_reducible repeat (first | refine kN ?_ _ | refine kD ?_ | refine kA ?_ _)); exact BK118.out⟩, ⟨by repeat (first | (with_reducible first | exact HB.out | apply bA | apply bN | apply bD | refine below_set ?_ GE107.out | refine below_set ?_ GE108.out | refine below_set ?_ GE113.out | refine below_set ?_ GE118.out) | exact HB.out)⟩⟩
     ·rw [if_neg c33] at H
      (have c33b0 : (t119 != t120) = false := by simpa using c33); ((try (have c33b1 : decide (t119 = t120) = true := by simpa using c33))); ((try (have c33b2 : (t119 == t120) = true := by simpa using c33))); clear c33; (replace H := Option.bind_eq_some_iff.mp H); (obtain ⟨t121, A380, H⟩ := H); (have A38 := Aside0.mk A380); clear A380; (replace H := Option.bind_eq_some_iff.mp H); (obtain ⟨t122, A390, H⟩ := H); (have A39 := Aside0.mk A390); clear A390; (have H' := Aside0.mk H); clear H; (try go_wp2); (have n0_ : Aside0 ((((w22.setCell ⟨gb118, 0, none⟩ (.string t114)).setCell ⟨gb118, 1, none⟩ (.string t115)).setCell ⟨gb118, 2, none⟩ (.int .i64 t116)).heap[gb107]? = some (.cells #[.string t102, .string t103, .int .i64 t104] 32 (0, 0))) := ⟨by (with_reducible repeat (first | refine kN ?_ _ | refine kD ?_ | refine kA ?_ _)); refine blk_far ?_ NB107_118.out _; (with_reducible repeat (first | refine kN ?_ _ | refine kD ?_ | refine kA ?_ _)); refine blk_far ?_ NB107_118.out _; (with_reducible repeat (first | refine kN ?_ _ | refine kD ?_ | refine kA ?_ _)); refine blk_far ?_ NB107_118.out _; (with_reducible repeat (first | refine kN ?_ _ | refine kD ?_ | refine kA ?_ _)); exact BK107.out⟩); (have n1_ : Aside0 ((((w22.setCell ⟨gb118, 0, none⟩ (.string t114)).setCell ⟨gb118, 1, none⟩ (.string t115)).setCell ⟨gb118, 2, none⟩ (.int .i64 t116)).heap[gb108]? = some (.cells #[.string t105, .string t106] 25 (0, 0))) := ⟨by (with_reducible repeat (first | refine kN ?_ _ | refine kD ?_ | refine kA ?_ _)); refine blk_far ?_ NB108_118.out _; (with_reducible repeat (first | refine kN ?_ _ | refine kD ?_ | refine kA ?_ _)); refine blk_far ?_ NB108_118.out _; (with_reducible repeat (first | refine kN ?_ _ | refine kD ?_ | refine kA ?_ _)); refine blk_far ?_ NB108_118.out _; (with_reducible repeat (first | refine kN ?_ _ | refine kD ?_ | refine kA ?_ _)); exact BK108.out⟩); (have n2_ : Aside0 ((((w22.setCell ⟨gb118, 0, none⟩ (.string t114)).setCell ⟨gb118, 1, none⟩ (.string t115)).setCell ⟨gb118, 2, none⟩ (.int .i64 t116)).heap[gb113]? = some (.cells #[.string t109, .string t110, .int .i64 t111] 32 (0, 0))) := ⟨by (with_reducible repeat (first | refine kN ?_ _ | refine kD ?_ | refine kA ?_ _)); refine blk_far ?_ NB113_118.out _; (with_reducible repeat (first | refine kN ?_ _ | refine kD ?_ | refine kA ?_ _)); refine blk_far ?_ NB113_118.out _; (with_reducible repeat (first | refine kN ?_ _ | refine kD ?_ | refine kA ?_ _)); refine blk_far ?_ NB113_118.out _; (with_reducible repeat (first | refine kN ?_ _ | refine kD ?_ | refine kA ?_ _)); exact BK113.out⟩); (have n3_ : Aside0 ((((w22.setCell ⟨gb118, 0, none⟩ (.string t114)).setCell ⟨gb118, 1, none⟩ (.string t115)).setCell ⟨gb118, 2, none⟩ (.int .i64 t116)).heap[gb118]? = some (.cells #[.string t114, .string t115, .int .i64 t116] 32 (0, 0))) := ⟨by (with_reducible repeat (first | refine kN ?_ _ | refine kD ?_ | refine kA ?_ _)); refine blk_put (cs := #[.string t114, .string t115, .int .i64 0]) ?_ 2 _ rfl; (with_reducible repeat (first | refine kN ?_ _ | refine kD ?_ | refine kA ?_ _)); refine blk_put (cs := #[.string t114, .string (⟨#[]⟩ : ByteArray), .int .i64 0]) ?_ 1 _ rfl; (with_reducible repeat (first | refine kN ?_ _ | refine kD ?_ | refine kA ?_ _)); refine blk_put (cs := #[.string (⟨#[]⟩ : ByteArray), .string (⟨#[]⟩ : ByteArray), .int .i64 0]) ?_ 0 _ rfl; (with_reducible repeat (first | refine kN ?_ _ | refine kD ?_ | refine kA ?_ _)); exact BK118.out⟩); (have n4_ : Aside0 (Below w.heap.size w (((w22.setCell ⟨gb118, 0, none⟩ (.string t114)).setCell ⟨gb118, 1, none⟩ (.string t115)).setCell ⟨gb118, 2, none⟩ (.int .i64 t116))) := ⟨by repeat (first | (with_reducible first | exact HB.out | apply bA | apply bN | apply bD | refine below_set ?_ GE107.out | refine below_set ?_ GE108.out | refine below_set ?_ GE113.out | refine below_set ?_ GE118.out) | exact HB.out)⟩); ((try clear BK107)); ((try clear BK108)); ((try clear BK113)); ((try clear BK118)); ((try clear HB)); (generalize (((w22.setCell ⟨gb118, 0, none⟩ (.string t114)).setCell ⟨gb118, 1, none⟩ (.string t115)).setCell ⟨gb118, 2, none⟩ (.int .i64 t116)) = w40 at n0_ n1_ n2_ n3_ n4_ ⊢); (have BK107 := n0_); (have BK108 := n1_); (have BK113 := n2_); (have BK118 := n3_); (have HB := n4_); clear n0_ n1_ n2_ n3_ n4_; (have n0_ := Aside0.mk (blk_drew BK107.out)); (have n1_ := Aside0.mk (blk_drew BK108.out)); (have n2_ := Aside0.mk (blk_drew BK113.out)); (have n3_ := Aside0.mk (blk_drew BK118.out)); (have n4_ := Aside0.mk (below_drew1 HB.out)); clear BK107 BK108 BK113 BK118 HB; (have BK107 := n0_); (have BK108 := n1_); (have BK113 := n2_); (have BK118 := n3_); (have HB := n4_); clear n0_ n1_ n2_ n3_ n4_
      (refine start_ (n := 22) (S := fun w' => w'.cell? ⟨gb113, 0, none⟩ = some (.string t109) ∧ w'.cell? ⟨gb113, 1, none⟩ = some (.string t110) ∧ w'.cell? ⟨gb113, 2, none⟩ = some (.int .i64 t111) ∧ w'.cell? ⟨gb118, 0, none⟩ = some (.string t114) ∧ w'.cell? ⟨gb118, 1, none⟩ = some (.string t115) ∧ w'.cell? ⟨gb118, 2, none⟩ = some (.int .i64 t116) ∧ w'.cell? ⟨gb107, 0, none⟩ = some (.string t102) ∧ w'.cell? ⟨gb107, 1, none⟩ = some (.string t103) ∧ w'.cell? ⟨gb107, 2, none⟩ = some (.int .i64 t104) ∧ w'.cell? ⟨gb108, 0, none⟩ = some (.string t105) ∧ w'.cell? ⟨gb108, 1, none⟩ = some (.string t106)) (ds := []) (cn 22 0) (by kernel_rfl) rfl (by kernel_rfl) ⟨(blk_cell BK113.out 0).trans rfl, (blk_cell BK113.out 1).trans rfl, (blk_cell BK113.out 2).trans rfl, (blk_cell BK118.out 0).trans rfl, (blk_cell BK118.out 1).trans rfl, (blk_cell BK118.out 2).trans rfl, (blk_cell BK107.out 0).trans rfl, (blk_cell BK107.out 1).trans rfl, (blk_cell BK107.out 2).trans rfl, (blk_cell BK108.out 0).trans rfl, (blk_cell BK108.out 1).trans rfl⟩ (fun hHeld => ?_); refine with_tabW laws_FnLog.tab6 laws_FnLog.bits6 (fun HT_ HW_ => ?_)); (generalize w40.drew = w41 at BK107 BK108 BK113 BK118 HB hHeld ⊢); (refine tB 0 (cn 22 1) (some 38) HT_ HW_ hHeld (h := ?_)); (refine tB 1 (cn 22 2) (some 39) HT_ HW_ hHeld (h := ?_)); (refine pB 2 (cn 22 3) (some 40) HT_ (h := ?_)); (refine pB 3 (cn 22 4) (some 41) HT_ (h := ?_)); (refine pB 4 (cn 22 5) (some 42) HT_ (h := ?_)); (refine pB 5 (cn 22 6) (some 43) HT_ (h := ?_)); (refine pB 6 (cn 22 7) (some 44) HT_ (h := ?_)); (refine pB 7 (cn 22 8) (some 45) HT_ (h := ?_)); (refine pB 8 (cn 22 9) (some 46) HT_ (h := ?_)); (refine tB 9 (cn 22 10) (some 47) HT_ HW_ hHeld (h := ?_)); (refine tB 11 (cb 22 3071) (some 49) HT_ HW_ hHeld (h := ?_)); (refine one_ (i := 10) (N := some 48) (cn 22 12) rfl rfl (one_of HT_.out (by kernel_rfl)) (by decide) (fun K hK => ?_)); (refine goes_ Tryd.func14 (by kernel_rfl) rfl #[.agg #[.string t102, .string t103, .int .i64 t104]] (by rfl) rfl rfl (by (try simp only [aM1, aM2, aM3]); first | done | rfl | (simp only [List.length_drop, List.length_take]; rfl)) ?_); (with_reducible refine (impl_IsValidLog.calls k t102 t103 t104 t119 _ ?side1 A31.out).mono ?_); ((case side1 => first | exact GT.below HG.out (by repeat (first | (with_reducible first | exact HB.out | apply bA | apply bN | apply bD | refine below_set ?_ GE107.out | refine below_set ?_ GE108.out | refine below_set ?_ GE113.out | refine below_set ?_ GE118.out) | exact HB.out)) | (repeat (first | exact HG.out | (with_reducible first | apply GT.drewN | apply GT.drew | apply GT.alloc))))); (rintro e w42 ⟨rfl, hb⟩); (refine ⟨_, rfl, ?_⟩); (have n0_ := Aside0.mk (blk_below (by (with_reducible repeat (first | refine kN ?_ _ | refine kD ?_ | refine kA ?_ _)); exact BK107.out) hb))
      (have n1_ := Aside0.mk (blk_below (by (with_reducible repeat (first | refine kN ?_ _ | refine kD ?_ | refine kA ?_ _)); exact BK108.out) hb)); (have n2_ := Aside0.mk (blk_below (by (with_reducible repeat (first | refine kN ?_ _ | refine kD ?_ | refine kA ?_ _)); exact BK113.out) hb)); (have n3_ := Aside0.mk (blk_below (by (with_reducible repeat (first | refine kN ?_ _ | refine kD ?_ | refine kA ?_ _)); exact BK118.out) hb)); (have n4_ := Aside0.mk (below_step (by repeat (first | (with_reducible first | exact HB.out | apply bA | apply bN | apply bD | refine below_set ?_ GE107.out | refine below_set ?_ GE108.out | refine below_set ?_ GE113.out | refine below_set ?_ GE118.out) | exact HB.out)) hb)); clear BK107 BK108 BK113 BK118 HB; (have BK107 := n0_); (have BK108 := n1_); (have BK113 := n2_); (have BK118 := n3_); (have HB := n4_); clear n0_ n1_ n2_ n3_ n4_; ((try clear hb)); ((try clear hb2)); ((try clear hk)); ((try clear hi)); (refine hK.out _ _ ⟨(blk_cell BK113.out 0).trans rfl, (blk_cell BK113.out 1).trans rfl, (blk_cell BK113.out 2).trans rfl, (blk_cell BK118.out 0).trans rfl, (blk_cell BK118.out 1).trans rfl, (blk_cell BK118.out 2).trans rfl, (blk_cell BK107.out 0).trans rfl, (blk_cell BK107.out 1).trans rfl, (blk_cell BK107.out 2).trans rfl, (blk_cell BK108.out 0).trans rfl, (blk_cell BK108.out 1).trans rfl⟩ (fun hHeld => ?_)); clear hK K; (refine norm_ (a' := ?_) ?_ ?_); rotate_left; (· (show Act.put _ (some 48) _ = _); (simp only [Act.put, aS1, aS2, aS3, i64_w, i32_w]); rfl); (refine one_ (i := 12) (N := some 50) (cn 22 13) rfl rfl (one_of HT_.out (by kernel_rfl)) (by decide) (fun K hK => ?_)); (refine goes_ Tryd.func18 (by kernel_rfl) rfl #[.agg #[.string t102, .string t103, .int .i64 t104]] (by rfl) rfl rfl (by (try simp only [aM1, aM2, aM3]); first | done | rfl | (simp only [List.length_drop, List.length_take]; rfl)) ?_); (with_reducible refine (spec_IsValidLog.calls k t102 t103 t104 t120 _ A32.out).mono ?_); (rintro e w43 ⟨rfl, hb⟩); (refine ⟨_, rfl, ?_⟩); (have n0_ := Aside0.mk (blk_below (by (with_reducible repeat (first | refine kN ?_ _ | refine kD ?_ | refine kA ?_ _)); exact BK107.out) hb)); (have n1_ := Aside0.mk (blk_below (by (with_reducible repeat (first | refine kN ?_ _ | refine kD ?_ | refine kA ?_ _)); exact BK108.out) hb)); (have n2_ := Aside0.mk (blk_below (by (with_reducible repeat (first | refine kN ?_ _ | refine kD ?_ | refine kA ?_ _)); exact BK113.out) hb)); (have n3_ := Aside0.mk (blk_below (by (with_reducible repeat (first | refine kN ?_ _ | refine kD ?_ | refine kA ?_ _)); exact BK118.out) hb)); (have n4_ := Aside0.mk (below_step (by repeat (first | (with_reducible first | exact HB.out | apply bA | apply bN | apply bD | refine below_set ?_ GE107.out | refine below_set ?_ GE108.out | refine below_set ?_ GE113.out | refine below_set ?_ GE118.out) | exact HB.out)) hb)); clear BK107 BK108 BK113 BK118 HB; (have BK107 := n0_); (have BK108 := n1_); (have BK113 := n2_); (have BK118 := n3_); (have HB := n4_); clear n0_ n1_ n2_ n3_ n4_; ((try clear hb)); ((try clear hb2)); ((try clear hk)); ((try clear hi)); (refine hK.out _ _ ⟨(blk_cell BK113.out 0).trans rfl, (blk_cell BK113.out 1).trans rfl, (blk_cell BK113.out 2).trans rfl, (blk_cell BK118.out 0).trans rfl, (blk_cell BK118.out 1).trans rfl, (blk_cell BK118.out 2).trans rfl, (blk_cell BK107.out 0).trans rfl, (blk_cell BK107.out 1).trans rfl, (blk_cell BK107.out 2).trans rfl, (blk_cell BK108.out 0).trans rfl, (blk_cell BK108.out 1).trans rfl⟩ (fun hHeld => ?_)); clear hK K; (refine norm_ (a' := ?_) ?_ ?_); rotate_left; (· (show Act.put _ (some 50) _ = _); (simp only [Act.put, aS1, aS2, aS3, i64_w, i32_w]); rfl); (refine pB 13 (cn 22 14) (some 51) HT_ (h := ?_)); (refine pB 14 (cn 22 15) (some 52) HT_ (h := ?_)); (refine pB 15 (cn 22 16) (some 53) HT_ (h := ?_)); (refine tB 16 (cn 22 17) (some 54) HT_ HW_ hHeld (h := ?_)); (refine tB 18 (cb 22 393215) (some 56) HT_ HW_ hHeld (h := ?_)); (refine one_ (i := 17) (N := some 55) (cn 22 19) rfl rfl (one_of HT_.out (by kernel_rfl)) (by decide) (fun K hK => ?_))
      (refine goes_ Tryd.func19 (by kernel_rfl) rfl #[.agg #[.string t105, .string t106]] (by rfl) rfl rfl (by (try simp only [aM1, aM2, aM3]); first | done | rfl | (simp only [List.length_drop, List.length_take]; rfl)) ?_); (with_reducible refine (impl_IsValidLogRecord.calls k t105 t106 t121 _ A38.out).mono ?_); (rintro e w44 ⟨rfl, hb⟩); (refine ⟨_, rfl, ?_⟩); (have n0_ := Aside0.mk (blk_below (by (with_reducible repeat (first | refine kN ?_ _ | refine kD ?_ | refine kA ?_ _)); exact BK107.out) hb)); (have n1_ := Aside0.mk (blk_below (by (with_reducible repeat (first | refine kN ?_ _ | refine kD ?_ | refine kA ?_ _)); exact BK108.out) hb)); (have n2_ := Aside0.mk (blk_below (by (with_reducible repeat (first | refine kN ?_ _ | refine kD ?_ | refine kA ?_ _)); exact BK113.out) hb)); (have n3_ := Aside0.mk (blk_below (by (with_reducible repeat (first | refine kN ?_ _ | refine kD ?_ | refine kA ?_ _)); exact BK118.out) hb)); (have n4_ := Aside0.mk (below_step (by repeat (first | (with_reducible first | exact HB.out | apply bA | apply bN | apply bD | refine below_set ?_ GE107.out | refine below_set ?_ GE108.out | refine below_set ?_ GE113.out | refine below_set ?_ GE118.out) | exact HB.out)) hb)); clear BK107 BK108 BK113 BK118 HB; (have BK107 := n0_); (have BK108 := n1_); (have BK113 := n2_); (have BK118 := n3_); (have HB := n4_); clear n0_ n1_ n2_ n3_ n4_; ((try clear hb)); ((try clear hb2)); ((try clear hk)); ((try clear hi)); (refine hK.out _ _ ⟨(blk_cell BK113.out 0).trans rfl, (blk_cell BK113.out 1).trans rfl, (blk_cell BK113.out 2).trans rfl, (blk_cell BK118.out 0).trans rfl, (blk_cell BK118.out 1).trans rfl, (blk_cell BK118.out 2).trans rfl, (blk_cell BK107.out 0).trans rfl, (blk_cell BK107.out 1).trans rfl, (blk_cell BK107.out 2).trans rfl, (blk_cell BK108.out 0).trans rfl, (blk_cell BK108.out 1).trans rfl⟩ (fun hHeld => ?_)); clear hK K; (refine norm_ (a' := ?_) ?_ ?_); rotate_left; (· (show Act.put _ (some 55) _ = _); (simp only [Act.put, aS1, aS2, aS3, i64_w, i32_w]); rfl); (refine one_ (i := 19) (N := some 57) (cn 22 20) rfl rfl (one_of HT_.out (by kernel_rfl)) (by decide) (fun K hK => ?_)); (refine goes_ Tryd.func20 (by kernel_rfl) rfl #[.agg #[.string t105, .string t106]] (by rfl) rfl rfl (by (try simp only [aM1, aM2, aM3]); first | done | rfl | (simp only [List.length_drop, List.length_take]; rfl)) ?_); (with_reducible refine (spec_IsValidLogRecord.calls k t105 t106 t122 _ A39.out).mono ?_); (rintro e w45 ⟨rfl, hb⟩); (refine ⟨_, rfl, ?_⟩); (have n0_ := Aside0.mk (blk_below (by (with_reducible repeat (first | refine kN ?_ _ | refine kD ?_ | refine kA ?_ _)); exact BK107.out) hb)); (have n1_ := Aside0.mk (blk_below (by (with_reducible repeat (first | refine kN ?_ _ | refine kD ?_ | refine kA ?_ _)); exact BK108.out) hb)); (have n2_ := Aside0.mk (blk_below (by (with_reducible repeat (first | refine kN ?_ _ | refine kD ?_ | refine kA ?_ _)); exact BK113.out) hb)); (have n3_ := Aside0.mk (blk_below (by (with_reducible repeat (first | refine kN ?_ _ | refine kD ?_ | refine kA ?_ _)); exact BK118.out) hb)); (have n4_ := Aside0.mk (below_step (by repeat (first | (with_reducible first | exact HB.out | apply bA | apply bN | apply bD | refine below_set ?_ GE107.out | refine below_set ?_ GE108.out | refine below_set ?_ GE113.out | refine below_set ?_ GE118.out) | exact HB.out)) hb)); clear BK107 BK108 BK113 BK118 HB; (have BK107 := n0_); (have BK108 := n1_); (have BK113 := n2_); (have BK118 := n3_); (have HB := n4_); clear n0_ n1_ n2_ n3_ n4_; ((try clear hb)); ((try clear hb2)); ((try clear hk)); ((try clear hi)); (refine hK.out _ _ ⟨(blk_cell BK113.out 0).trans rfl, (blk_cell BK113.out 1).trans rfl, (blk_cell BK113.out 2).trans rfl, (blk_cell BK118.out 0).trans rfl, (blk_cell BK118.out 1).trans rfl, (blk_cell BK118.out 2).trans rfl, (blk_cell BK107.out 0).trans rfl, (blk_cell BK107.out 1).trans rfl, (blk_cell BK107.out 2).trans rfl, (blk_cell BK108.out 0).trans rfl, (blk_cell BK108.out 1).trans rfl⟩ (fun hHeld => ?_)); clear hK K; (refine norm_ (a' := ?_) ?_ ?_); rotate_left; (· (show Act.put _ (some 57) _ = _); (simp only [Act.put, aS1, aS2, aS3, i64_w, i32_w]); rfl); (refine pB 20 (cn 22 21) (some 58) HT_ (h := ?_)); (refine pB 21 (cn 22 22) (some 59) HT_ (h := ?_)); (refine done_ (done_of HT_.out (by kernel_rfl)) ?_); (try go_wp2); (go_meet)
      case rel => exact ⟨_, ((t121 != t122)), (by first | rfl | (simp; done) | (simp [*]; done)), H', ⟨by first | omega | exact Nat.le_refl _⟩, ⟨by (with_reducible repeat (first | refine kN ?_ _ | refine kD ?_ | refine kA ?_ _)); exact BK107.out⟩, ⟨by (with_reducible repeat (first | refine kN ?_ _ | refine kD ?_ | refine kA ?_ _)); exact BK108.out⟩, ⟨by (with_reducible repeat (first | refine kN ?_ _ | refine kD ?_ | refine kA ?_ _)); exact BK113.out⟩, ⟨by (with_reducible repeat (first | refine kN ?_ _ | refine kD ?_ | refine kA ?_ _)); exact BK118.out⟩, ⟨by repeat (first | (with_reducible first | exact HB.out | apply bA | apply bN | apply bD | refine below_set ?_ GE107.out | refine below_set ?_ GE108.out | refine below_set ?_ GE113.out | refine below_set ?_ GE118.out) | exact HB.out)⟩⟩
    ·rw [if_neg c30] at H
     (have c30b0 : (t112 == t117) = false := beq_eq_false_iff_ne.mpr c30); (have c30b1 : (t112 != t117) = true := bne_iff_ne.mpr c30); (have H' := Aside0.mk H); clear H; (try go_wp2); (have n0_ : Aside0 ((((w22.setCell ⟨gb118, 0, none⟩ (.string t114)).setCell ⟨gb118, 1, none⟩ (.string t115)).setCell ⟨gb118, 2, none⟩ (.int .i64 t116)).heap[gb107]? = some (.cells #[.string t102, .string t103, .int .i64 t104] 32 (0, 0))) := ⟨by (with_reducible repeat (first | refine kN ?_ _ | refine kD ?_ | refine kA ?_ _)); refine blk_far ?_ NB107_118.out _; (with_reducible repeat (first | refine kN ?_ _ | refine kD ?_ | refine kA ?_ _)); refine blk_far ?_ NB107_118.out _; (with_reducible repeat (first | refine kN ?_ _ | refine kD ?_ | refine kA ?_ _)); refine blk_far ?_ NB107_118.out _; (with_reducible repeat (first | refine kN ?_ _ | refine kD ?_ | refine kA ?_ _)); exact BK107.out⟩); (have n1_ : Aside0 ((((w22.setCell ⟨gb118, 0, none⟩ (.string t114)).setCell ⟨gb118, 1, none⟩ (.string t115)).setCell ⟨gb118, 2, none⟩ (.int .i64 t116)).heap[gb108]? = some (.cells #[.string t105, .string t106] 25 (0, 0))) := ⟨by (with_reducible repeat (first | refine kN ?_ _ | refine kD ?_ | refine kA ?_ _)); refine blk_far ?_ NB108_118.out _; (with_reducible repeat (first | refine kN ?_ _ | refine kD ?_ | refine kA ?_ _)); refine blk_far ?_ NB108_118.out _; (with_reducible repeat (first | refine kN ?_ _ | refine kD ?_ | refine kA ?_ _)); refine blk_far ?_ NB108_118.out _; (with_reducible repeat (first | refine kN ?_ _ | refine kD ?_ | refine kA ?_ _)); exact BK108.out⟩); (have n2_ : Aside0 ((((w22.setCell ⟨gb118, 0, none⟩ (.string t114)).setCell ⟨gb118, 1, none⟩ (.string t115)).setCell ⟨gb118, 2, none⟩ (.int .i64 t116)).heap[gb113]? = some (.cells #[.string t109, .string t110, .int .i64 t111] 32 (0, 0))) := ⟨by (with_reducible repeat (first | refine kN ?_ _ | refine kD ?_ | refine kA ?_ _)); refine blk_far ?_ NB113_118.out _; (with_reducible repeat (first | refine kN ?_ _ | refine kD ?_ | refine kA ?_ _)); refine blk_far ?_ NB113_118.out _; (with_reducible repeat (first | refine kN ?_ _ | refine kD ?_ | refine kA ?_ _)); refine blk_far ?_ NB113_118.out _; (with_reducible repeat (first | refine kN ?_ _ | refine kD ?_ | refine kA ?_ _)); exact BK113.out⟩); (have n3_ : Aside0 ((((w22.setCell ⟨gb118, 0, none⟩ (.string t114)).setCell ⟨gb118, 1, none⟩ (.string t115)).setCell ⟨gb118, 2, none⟩ (.int .i64 t116)).heap[gb118]? = some (.cells #[.string t114, .string t115, .int .i64 t116] 32 (0, 0))) := ⟨by (with_reducible repeat (first | refine kN ?_ _ | refine kD ?_ | refine kA ?_ _)); refine blk_put (cs := #[.string t114, .string t115, .int .i64 0]) ?_ 2 _ rfl; (with_reducible repeat (first | refine kN ?_ _ | refine kD ?_ | refine kA ?_ _)); refine blk_put (cs := #[.string t114, .string (⟨#[]⟩ : ByteArray), .int .i64 0]) ?_ 1 _ rfl; (with_reducible repeat (first | refine kN ?_ _ | refine kD ?_ | refine kA ?_ _)); refine blk_put (cs := #[.string (⟨#[]⟩ : ByteArray), .string (⟨#[]⟩ : ByteArray), .int .i64 0]) ?_ 0 _ rfl; (with_reducible repeat (first | refine kN ?_ _ | refine kD ?_ | refine kA ?_ _)); exact BK118.out⟩); (have n4_ : Aside0 (Below w.heap.size w (((w22.setCell ⟨gb118, 0, none⟩ (.string t114)).setCell ⟨gb118, 1, none⟩ (.string t115)).setCell ⟨gb118, 2, none⟩ (.int .i64 t116))) := ⟨by repeat (first | (with_reducible first | exact HB.out | apply bA | apply bN | apply bD | refine below_set ?_ GE107.out | refine below_set ?_ GE108.out | refine below_set ?_ GE113.out | refine below_set ?_ GE118.out) | exact HB.out)⟩); ((try clear BK107)); ((try clear BK108)); ((try clear BK113)); ((try clear BK118)); ((try clear HB)); (generalize (((w22.setCell ⟨gb118, 0, none⟩ (.string t114)).setCell ⟨gb118, 1, none⟩ (.string t115)).setCell ⟨gb118, 2, none⟩ (.int .i64 t116)) = w46 at n0_ n1_ n2_ n3_ n4_ ⊢); (have BK107 := n0_); (have BK108 := n1_); (have BK113 := n2_); (have BK118 := n3_); (have HB := n4_); clear n0_ n1_ n2_ n3_ n4_; (have n0_ := Aside0.mk (blk_drew BK107.out)); (have n1_ := Aside0.mk (blk_drew BK108.out)); (have n2_ := Aside0.mk (blk_drew BK113.out)); (have n3_ := Aside0.mk (blk_drew BK118.out)); (have n4_ := Aside0.mk (below_drew1 HB.out)); clear BK107 BK108 BK113 BK118 HB; (have BK107 := n0_); (have BK108 := n1_); (have BK113 := n2_); (have BK118 := n3_); (have HB := n4_); clear n0_ n1_ n2_ n3_ n4_; (refine start_ (n := 22) (S := fun w' => w'.cell? ⟨gb113, 0, none⟩ = some (.string t109) ∧ w'.cell? ⟨gb113, 1, none⟩ = some (.string t110) ∧ w'.cell? ⟨gb113, 2, none⟩ = some (.int .i64 t111) ∧ w'.cell? ⟨gb118, 0, none⟩ = some (.string t114) ∧ w'.cell? ⟨gb118, 1, none⟩ = some (.string t115) ∧ w'.cell? ⟨gb118, 2, none⟩ = some (.int .i64 t116)) (ds := []) (cn 22 0) (by kernel_rfl) rfl (by kernel_rfl) ⟨(blk_cell BK113.out 0).trans rfl, (blk_cell BK113.out 1).trans rfl, (blk_cell BK113.out 2).trans rfl, (blk_cell BK118.out 0).trans rfl, (blk_cell BK118.out 1).trans rfl, (blk_cell BK118.out 2).trans rfl⟩ (fun hHeld => ?_); refine with_tabW laws_FnLog.tab6 laws_FnLog.bits6 (fun HT_ HW_ => ?_)); (generalize w46.drew = w47 at BK107 BK108 BK113 BK118 HB hHeld ⊢); (refine tB 0 (cn 22 1) (some 38) HT_ HW_ hHeld (h := ?_)); (refine tA 1 (cn 22 2) (some 39) HT_ HW_ (v := ?_) (a' := ?_) rfl rfl (by kernel_rfl) (fun _ _ _ h => h) (Or.inl ⟨by rfl, ?_⟩) hHeld ?_ ?_); rotate_left
     (· (rintro w' ⟨s0, s1, s2, s3, s4, s5⟩); go_simp; with_reducible rfl); rotate_left; (· (simp only [Act.put, aS1, aS2, aS3, i64_w, i32_w]); rfl); (refine pB 2 (cn 22 3) (some 40) HT_ (h := ?_)); (refine pB 3 (cn 22 4) (some 41) HT_ (h := ?_)); (refine pB 4 (cn 22 5) (some 42) HT_ (h := ?_)); (refine pB 5 (cn 22 6) (some 43) HT_ (h := ?_)); (refine pB 6 (cn 22 7) (some 44) HT_ (h := ?_)); (refine pB 7 (cn 22 8) (some 45) HT_ (h := ?_)); (refine pB 8 (cn 22 9) (some 46) HT_ (h := ?_)); (refine pU 9 (cn 22 10) (some 47) HT_ (h := ?_)); (refine pU 10 (cn 22 11) (some 48) HT_ (h := ?_)); (refine pU 11 (cn 22 12) (some 49) HT_ (h := ?_)); (refine pU 12 (cn 22 13) (some 50) HT_ (h := ?_)); (refine pU 13 (cn 22 14) (some 51) HT_ (h := ?_)); (refine pB 14 (cn 22 15) (some 52) HT_ (h := ?_)); (refine pB 15 (cn 22 16) (some 53) HT_ (h := ?_)); (refine pU 16 (cn 22 17) (some 54) HT_ (h := ?_)); (refine pU 17 (cn 22 18) (some 55) HT_ (h := ?_)); (refine pU 18 (cn 22 19) (some 56) HT_ (h := ?_)); (refine pU 19 (cn 22 20) (some 57) HT_ (h := ?_)); (refine pU 20 (cn 22 21) (some 58) HT_ (h := ?_)); (refine pB 21 (cn 22 22) (some 59) HT_ (h := ?_))
     (refine done_ (done_of HT_.out (by kernel_rfl)) ?_); (try go_wp2); (go_meet)
     case rel => exact ⟨_, (true), (by first | rfl | (simp; done) | (simp [*]; done)), H', ⟨by first | omega | exact Nat.le_refl _⟩, ⟨by (with_reducible repeat (first | refine kN ?_ _ | refine kD ?_ | refine kA ?_ _)); exact BK107.out⟩, ⟨by (with_reducible repeat (first | refine kN ?_ _ | refine kD ?_ | refine kA ?_ _)); exact BK108.out⟩, ⟨by (with_reducible repeat (first | refine kN ?_ _ | refine kD ?_ | refine kA ?_ _)); exact BK113.out⟩, ⟨by (with_reducible repeat (first | refine kN ?_ _ | refine kD ?_ | refine kA ?_ _)); exact BK118.out⟩, ⟨by repeat (first | (with_reducible first | exact HB.out | apply bA | apply bN | apply bD | refine below_set ?_ GE107.out | refine below_set ?_ GE108.out | refine below_set ?_ GE113.out | refine below_set ?_ GE118.out) | exact HB.out)⟩⟩
  case rest =>
   clear HC7; (try clear c1); (try clear c2); (try clear p2); (try clear c3); (try clear c14); (try clear c18); (try clear c19); (try clear c20); (try clear c30); (try clear c30b0); (try clear c30b1); (try clear c33); (try clear c33b0); (try clear c33b1); (try clear c33b2); (obtain ⟨kq, x59_6, rfl, HA, HJ6, BK107, BK108, BK113, BK118, HB⟩ := hcut)
   cases kq with
   | zero => exact absurd HA.out (by simp [laws_FnLog.j0])
   | succ kj6 =>
    (have H := HA.out); clear HA; (simp only [laws_FnLog.j0] at H); (by_cases c48 : x59_6 = true); (· subst c48; (rw [if_pos rfl] at H); (obtain rfl := Option.some.inj H); (exact absurd ht_.out (by decide)))
    ·replace c48 := Bool.eq_false_iff.mpr c48
     subst c48; (rw [if_neg (show ¬ (false = true) by decide)] at H); (by_cases c49 : t112 = 0)
     ·rw [if_pos c49] at H
      (have c49b0 : (t112 == 0) = true := beq_iff_eq.mpr c49); (have c49b1 : (t112 != 0) = false := bne_eq_false_iff_eq.mpr c49); clear c49; (replace H := Option.bind_eq_some_iff.mp H); (obtain ⟨⟨t123, t126⟩, A500, H⟩ := H); (replace H : ((impl_LogRecords.f kj6 t102 t103 t104).bind fun bt127 => (if t109.size + t110.size ≤ 9223372036854775807 then ((impl_RecoverLog.f kj6 (t109 ++ t110)).bind fun bt131 => ((impl_SyncLog.f kj6 t109 t110 t111).bind fun bt137 => (if t126 = true then (if (t123.length : Int) = (wrap64 ((bt127.1.length : Int) + 1)) then (laws_FnLog.j1 kj6 t123 bt127.1 bt131.2.2.2.1 bt131.2.2.2.2 bt137.2.2.2 (t111 != (t123.length : Int)) t105 t106 t109 t110 t111 bt131.1 bt131.2.1 bt131.2.2.1 bt137.1 bt137.2.1 bt137.2.2.1) else (laws_FnLog.j1 kj6 t123 bt127.1 bt131.2.2.2.1 bt131.2.2.2.2 bt137.2.2.2 true t105 t106 t109 t110 t111 bt131.1 bt131.2.1 bt131.2.2.1 bt137.1 bt137.2.1 bt137.2.2.1)) else (laws_FnLog.j1 kj6 t123 bt127.1 bt131.2.2.2.1 bt131.2.2.2.2 bt137.2.2.2 true t105 t106 t109 t110 t111 bt131.1 bt131.2.1 bt131.2.2.1 bt137.1 bt137.2.1 bt137.2.2.1)))) else (none))) = some r := H); (have A50 := Aside0.mk A500); clear A500; (replace H := Option.bind_eq_some_iff.mp H); (obtain ⟨⟨t127, t130⟩, A510, H⟩ := H); (replace H : (if t109.size + t110.size ≤ 9223372036854775807 then ((impl_RecoverLog.f kj6 (t109 ++ t110)).bind fun bt131 => ((impl_SyncLog.f kj6 t109 t110 t111).bind fun bt137 => (if t126 = true then (if (t123.length : Int) = (wrap64 ((t127.length : Int) + 1)) then (laws_FnLog.j1 kj6 t123 t127 bt131.2.2.2.1 bt131.2.2.2.2 bt137.2.2.2 (t111 != (t123.length : Int)) t105 t106 t109 t110 t111 bt131.1 bt131.2.1 bt131.2.2.1 bt137.1 bt137.2.1 bt137.2.2.1) else (laws_FnLog.j1 kj6 t123 t127 bt131.2.2.2.1 bt131.2.2.2.2 bt137.2.2.2 true t105 t106 t109 t110 t111 bt131.1 bt131.2.1 bt131.2.2.1 bt137.1 bt137.2.1 bt137.2.2.1)) else (laws_FnLog.j1 kj6 t123 t127 bt131.2.2.2.1 bt131.2.2.2.2 bt137.2.2.2 true t105 t106 t109 t110 t111 bt131.1 bt131.2.1 bt131.2.2.1 bt137.1 bt137.2.1 bt137.2.2.1)))) else (none)) = some r := H); (have A51 := Aside0.mk A510); clear A510; (by_cases c52 : t109.size + t110.size ≤ 9223372036854775807)
      ·rw [if_pos c52] at H
       (have c52b0 := eq_true c52); (have c52b1 : decide (t109.size + t110.size ≤ 9223372036854775807) = true := decide_eq_true c52); (try have c52b2 : (9223372036854775807 < t109.size + t110.size) = False := eq_false (Nat.not_lt.2 c52)); (replace H := Option.bind_eq_some_iff.mp H); (obtain ⟨⟨t131, t132, t133, t134, t135⟩, A530, H⟩ := H); (replace H : ((impl_SyncLog.f kj6 t109 t110 t111).bind fun bt137 => (if t126 = true then (if (t123.length : Int) = (wrap64 ((t127.length : Int) + 1)) then (laws_FnLog.j1 kj6 t123 t127 t134 t135 bt137.2.2.2 (t111 != (t123.length : Int)) t105 t106 t109 t110 t111 t131 t132 t133 bt137.1 bt137.2.1 bt137.2.2.1) else (laws_FnLog.j1 kj6 t123 t127 t134 t135 bt137.2.2.2 true t105 t106 t109 t110 t111 t131 t132 t133 bt137.1 bt137.2.1 bt137.2.2.1)) else (laws_FnLog.j1 kj6 t123 t127 t134 t135 bt137.2.2.2 true t105 t106 t109 t110 t111 t131 t132 t133 bt137.1 bt137.2.1 bt137.2.2.1))) = some r := H); (have A53 := Aside0.mk A530); clear A530; (replace H := Option.bind_eq_some_iff.mp H); (obtain ⟨⟨t137, t138, t139, t140⟩, A540, H⟩ := H); (replace H : (if t126 = true then (if (t123.length : Int) = (wrap64 ((t127.length : Int) + 1)) then (laws_FnLog.j1 kj6 t123 t127 t134 t135 t140 (t111 != (t123.length : Int)) t105 t106 t109 t110 t111 t131 t132 t133 t137 t138 t139) else (laws_FnLog.j1 kj6 t123 t127 t134 t135 t140 true t105 t106 t109 t110 t111 t131 t132 t133 t137 t138 t139)) else (laws_FnLog.j1 kj6 t123 t127 t134 t135 t140 true t105 t106 t109 t110 t111 t131 t132 t133 t137 t138 t139)) = some r := H); (have A54 := Aside0.mk A540); clear A540; (have HC55 := Aside0.mk H); clear H; (have hnb56 := NB113_107.out); (have hnc56 := NB107_113.out); (have hnb57 := NB113_108.out); (have hnc57 := NB108_113.out); (have hnb58 := NB113_118.out); (have hnc58 := NB118_113.out); (have hcz59_0 := cz BK113.out 0); (have hcz59_1 := cz BK113.out 1); (have hcz59_2 := cz BK113.out 2); (have hfz59_0 := blk_frozen BK113.out 0); (have hfz59_1 := blk_frozen BK113.out 1); (have hfz59_2 := blk_frozen BK113.out 2)
       go_upto_region 14 with (first | ((with_reducible refine gate_callee (f := 21) rfl ?_); refine gL (some 67) Tryd.func21 #[.agg #[.string t109, .string t110, .int .i64 t111]] ?_; (with_reducible refine (impl_LogRecords.calls kj6 t109 t110 t111 t123 t126 _ ?side1 A50.out).mono ?_); (case side1 => first | exact GT.below HG.out (by repeat (first | (with_reducible first | exact HB.out | apply bA | apply bN | apply bD | refine below_set ?_ GE107.out | refine below_set ?_ GE108.out | refine below_set ?_ GE113.out | refine below_set ?_ GE118.out) | exact HB.out)) | (repeat (first | exact HG.out | (with_reducible first | apply GT.drewN | apply GT.drew | apply GT.alloc)))); rintro e w60 ⟨v124, rfl, ho0, hb⟩; refine ⟨_, rfl, ?_⟩; have n0_ := Aside0.mk (Kd.R_lower (Kd.R_newB ho0 (g := gb108) (o := .cells #[.string t105, .string t106] 25 (0, 0)) (by (with_reducible repeat (first | refine kN ?_ _ | refine kD ?_ | refine kA ?_ _)); exact BK108.out)) (below_size (by repeat (first | (with_reducible first | exact HB.out | apply bA | apply bN | apply bD | refine below_set ?_ GE107.out | refine below_set ?_ GE108.out | refine below_set ?_ GE113.out | refine below_set ?_ GE118.out) | exact HB.out)))); have n1_ := Aside0.mk (blk_below (by (with_reducible repeat (first | refine kN ?_ _ | refine kD ?_ | refine kA ?_ _)); exact BK107.out) hb); have n2_ := Aside0.mk (blk_below (by (with_reducible repeat (first | refine kN ?_ _ | refine kD ?_ | refine kA ?_ _)); exact BK108.out) hb); have n3_ := Aside0.mk (blk_below (by (with_reducible repeat (first | refine kN ?_ _ | refine kD ?_ | refine kA ?_ _)); exact BK113.out) hb); have n4_ := Aside0.mk (blk_below (by (with_reducible repeat (first | refine kN ?_ _ | refine kD ?_ | refine kA ?_ _)); exact BK118.out) hb); have n5_ := Aside0.mk (below_step (by repeat (first | (with_reducible first | exact HB.out | apply bA | apply bN | apply bD | refine below_set ?_ GE107.out | refine below_set ?_ GE108.out | refine below_set ?_ GE113.out | refine below_set ?_ GE118.out) | exact HB.out)) hb); clear BK107 BK108 BK113 BK118 HB; have HO125 := n0_; have BK107 := n1_; have BK108 := n2_; have BK113 := n3_; have BK118 := n4_; have HB := n5_; clear n0_ n1_ n2_ n3_ n4_ n5_; (try clear hb); (try clear hb2); (try clear hk); (try clear hi); (try clear ho0); have hnb61 := NB107_108.out; have hnc61 := NB108_107.out; have hnb62 := NB107_118.out; have hnc62 := NB118_107.out; have hcz63_0 := cz BK107.out 0; have hcz63_1 := cz BK107.out 1; have hcz63_2 := cz BK107.out 2; have hfz63_0 := blk_frozen BK107.out 0; have hfz63_1 := blk_frozen BK107.out 1; have hfz63_2 := blk_frozen BK107.out 2) | ((with_reducible refine gate_callee (f := 21) rfl ?_); refine gL (some 72) Tryd.func21 #[.agg #[.string t102, .string t103, .int .i64 t104]] ?_; (with_reducible refine (impl_LogRecords.calls kj6 t102 t103 t104 t127 t130 _ ?side1 A51.out).mono ?_); (case side1 => first | exact GT.below HG.out (by repeat (first | (with_reducible first | exact HB.out | apply bA | apply bN | apply bD | refine below_set ?_ GE107.out | refine below_set ?_ GE108.out | refine below_set ?_ GE113.out | refine below_set ?_ GE118.out) | exact HB.out)) | (repeat (first | exact HG.out | (with_reducible first | apply GT.drewN | apply GT.drew | apply GT.alloc)))); rintro e w64 ⟨v128, rfl, ho0, hb⟩; refine ⟨_, rfl, ?_⟩; have n0_ := Aside0.mk (Kd.R_elder' (by (with_reducible repeat (first | apply rA | apply rN | apply rD)); exact HO125.out) (Kd.R_base ho0) hb); have n1_ := Aside0.mk (Kd.R_lower (Kd.R_newB (Kd.R_new' ho0 (Kd.R_lt (by (with_reducible repeat (first | apply rA | apply rN | apply rD)); exact HO125.out))) (g := gb108) (o := .cells #[.string t105, .string t106] 25 (0, 0)) (by (with_reducible repeat (first | refine kN ?_ _ | refine kD ?_ | refine kA ?_ _)); exact BK108.out)) (below_size (by repeat (first | (with_reducible first | exact HB.out | apply bA | apply bN | apply bD | refine below_set ?_ GE107.out | refine below_set ?_ GE108.out | refine below_set ?_ GE113.out | refine below_set ?_ GE118.out) | exact HB.out)))); have n2_ := Aside0.mk (blk_below (by (with_reducible repeat (first | refine kN ?_ _ | refine kD ?_ | refine kA ?_ _)); exact BK107.out) hb); have n3_ := Aside0.mk (blk_below (by (with_reducible repeat (first | refine kN ?_ _ | refine kD ?_ | refine kA ?_ _)); exact BK108.out) hb); have n4_ := Aside0.mk (blk_below (by (with_reducible repeat (first | refine kN ?_ _ | refine kD ?_ | refine kA ?_ _)); exact BK113.out) hb); have n5_ := Aside0.mk (blk_below (by (with_reducible repeat (first | refine kN ?_ _ | refine kD ?_ | refine kA ?_ _)); exact BK118.out) hb); have n6_ := Aside0.mk (below_step (by repeat (first | (with_reducible first | exact HB.out | apply bA | apply bN | apply bD | refine below_set ?_ GE107.out | refine below_set ?_ GE108.out | refine below_set ?_ GE113.out | refine below_set ?_ GE118.out) | exact HB.out)) hb); clear HO125 BK107 BK108 BK113 BK118 HB; have HO125 := n0_; have HO129 := n1_; have BK107 := n2_; have BK108 := n3_; have BK113 := n4_; have BK118 := n5_; have HB := n6_; clear n0_ n1_ n2_ n3_ n4_ n5_ n6_; (try clear hb); (try clear hb2); (try clear hk); (try clear hi); (try clear ho0); have hcz65_0 := cz BK113.out 0; have hcz65_1 := cz BK113.out 1; have hcz65_2 := cz BK113.out 2; have hfz65_0 := blk_frozen BK113.out 0; have hfz65_1 := blk_frozen BK113.out 1; have hfz65_2 := blk_frozen BK113.out 2) | ((with_reducible refine gate_callee (f := 11) rfl ?_); refine gL (some 81) Tryd.func11 #[.string (t109 ++ t110)] ?_; (with_reducible refine (impl_RecoverLog.calls kj6 (t109 ++ t110) t131 t132 t133 t134 t135 _ ?side1 A53.out).mono ?_); (case side1 => first | exact GT.below HG.out (by repeat (first | (with_reducible first | exact HB.out | apply bA | apply bN | apply bD | refine below_set ?_ GE107.out | refine below_set ?_ GE108.out | refine below_set ?_ GE113.out | refine below_set ?_ GE118.out) | exact HB.out)) | (repeat (first | exact HG.out | (with_reducible first | apply GT.drewN | apply GT.drew | apply GT.alloc)))); rintro e w66 ⟨rfl, hb⟩; refine ⟨_, rfl, ?_⟩; have n0_ := Aside0.mk (Kd.R_below (by (with_reducible repeat (first | apply rA | apply rN | apply rD)); exact HO125.out) hb); have n1_ := Aside0.mk (Kd.R_below (by (with_reducible repeat (first | apply rA | apply rN | apply rD)); exact HO129.out) hb); have n2_ := Aside0.mk (blk_below (by (with_reducible repeat (first | refine kN ?_ _ | refine kD ?_ | refine kA ?_ _)); exact BK107.out) hb); have n3_ := Aside0.mk (blk_below (by (with_reducible repeat (first | refine kN ?_ _ | refine kD ?_ | refine kA ?_ _)); exact BK108.out) hb); have n4_ := Aside0.mk (blk_below (by (with_reducible repeat (first | refine kN ?_ _ | refine kD ?_ | refine kA ?_ _)); exact BK113.out) hb); have n5_ := Aside0.mk (blk_below (by (with_reducible repeat (first | refine kN ?_ _ | refine kD ?_ | refine kA ?_ _)); exact BK118.out) hb); have n6_ := Aside0.mk (below_step (by repeat (first | (with_reducible first | exact HB.out | apply bA | apply bN | apply bD | refine below_set ?_ GE107.out | refine below_set ?_ GE108.out | refine below_set ?_ GE113.out | refine below_set ?_ GE118.out) | exact HB.out)) hb); clear HO125 HO129 BK107 BK108 BK113 BK118 HB; have HO125 := n0_; have HO129 := n1_; have BK107 := n2_; have BK108 := n3_; have BK113 := n4_; have BK118 := n5_; have HB := n6_; clear n0_ n1_ n2_ n3_ n4_ n5_ n6_; (try clear hb); (try clear hb2); (try clear hk); (try clear hi)) | ((with_reducible refine gate_dst (N := 13) rfl ?_); refine box_event ?hg (N := 13) ?hd (cs := #[.string (⟨#[]⟩ : ByteArray), .string (⟨#[]⟩ : ByteArray), .int .i64 0]) (t := 32) ?hr ?_; (case hd => rfl); (case hg => rfl); (case hr => first | (go_simp; done) | (go_simp; rfl)); intro gb136 hg w67 hbox hb; have n0_ := Aside0.mk (Kd.R_below (by (with_reducible repeat (first | apply rA | apply rN | apply rD)); exact HO125.out) hb); have n1_ := Aside0.mk (Kd.R_below (by (with_reducible repeat (first | apply rA | apply rN | apply rD)); exact HO129.out) hb); have n2_ := Aside0.mk (blk_below (by (with_reducible repeat (first | refine kN ?_ _ | refine kD ?_ | refine kA ?_ _)); exact BK107.out) hb); have n3_ := Aside0.mk (blk_below (by (with_reducible repeat (first | refine kN ?_ _ | refine kD ?_ | refine kA ?_ _)); exact BK108.out) hb); have n4_ := Aside0.mk (blk_below (by (with_reducible repeat (first | refine kN ?_ _ | refine kD ?_ | refine kA ?_ _)); exact BK113.out) hb); have n5_ := Aside0.mk (blk_below (by (with_reducible repeat (first | refine kN ?_ _ | refine kD ?_ | refine kA ?_ _)); exact BK118.out) hb); have hB_ := bz (by repeat (first | (with_reducible first | exact HB.out | apply bA | apply bN | apply bD | refine below_set ?_ GE107.out | refine below_set ?_ GE108.out | refine below_set ?_ GE113.out | refine below_set ?_ GE118.out) | exact HB.out)) hb; have n6_ := Aside0.mk (below_step hB_ hb); have n7_ := Aside0.mk (hbox); have n8_ := Aside0.mk ((by rw [hg]; exact (below_size hB_) : w.heap.size ≤ gb136)); have n9_ := n8_; have n10_ := Aside0.mk ((by rw [hg]; exact Nat.ne_of_lt (blk_lt (by (with_reducible repeat (first | refine kN ?_ _ | refine kD ?_ | refine kA ?_ _)); exact BK107.out)) : gb107 ≠ gb136)); have n11_ := Aside0.mk (Ne.symm n10_.out); have n12_ := Aside0.mk ((by rw [hg]; exact Nat.ne_of_lt (blk_lt (by (with_reducible repeat (first | refine kN ?_ _ | refine kD ?_ | refine kA ?_ _)); exact BK108.out)) : gb108 ≠ gb136)); have n13_ := Aside0.mk (Ne.symm n12_.out); have n14_ := Aside0.mk ((by rw [hg]; exact Nat.ne_of_lt (blk_lt (by (with_reducible repeat (first | refine kN ?_ _ | refine kD ?_ | refine kA ?_ _)); exact BK113.out)) : gb113 ≠ gb136)); have n15_ := Aside0.mk (Ne.symm n14_.out); have n16_ := Aside0.mk ((by rw [hg]; exact Nat.ne_of_lt (blk_lt (by (with_reducible repeat (first | refine kN ?_ _ | refine kD ?_ | refine kA ?_ _)); exact BK118.out)) : gb118 ≠ gb136)); have n17_ := Aside0.mk (Ne.symm n16_.out); clear HO125 HO129 BK107 BK108 BK113 BK118 HB; have HO125 := n0_; have HO129 := n1_; have BK107 := n2_; have BK108 := n3_; have BK113 := n4_; have BK118 := n5_; have HB := n6_; have BK136 := n7_; have GW136 := n8_; have GE136 := n9_; have NB107_136 := n10_; have NB136_107 := n11_; have NB108_136 := n12_; have NB136_108 := n13_; have NB113_136 := n14_; have NB136_113 := n15_; have NB118_136 := n16_; have NB136_118 := n17_; clear n0_ n1_ n2_ n3_ n4_ n5_ n6_ n7_ n8_ n9_ n10_ n11_ n12_ n13_ n14_ n15_ n16_ n17_ hB_ hb hbox hg; have hnb68 := NB136_107.out; have hnc68 := NB107_136.out; have hnb69 := NB136_108.out; have hnc69 := NB108_136.out; have hnb70 := NB136_113.out; have hnc70 := NB113_136.out; have hnb71 := NB136_118.out; have hnc71 := NB118_136.out; have hcz72_0 := cz BK136.out 0; have hcz72_1 := cz BK136.out 1; have hcz72_2 := cz BK136.out 2; have hfz72_0 := blk_frozen BK136.out 0; have hfz72_1 := blk_frozen BK136.out 1; have hfz72_2 := blk_frozen BK136.out 2; have hcz73_0 := cz BK113.out 0; have hcz73_1 := cz BK113.out 1; have hcz73_2 := cz BK113.out 2; have hfz73_0 := blk_frozen BK113.out 0; have hfz73_1 := blk_frozen BK113.out 1; have hfz73_2 := blk_frozen BK113.out 2) | ((with_reducible refine gate_callee (f := 13) rfl ?_); refine gL (some 87) Tryd.func13 #[.agg #[.string t109, .string t110, .int .i64 t111]] ?_; (with_reducible refine (impl_SyncLog.calls kj6 t109 t110 t111 t137 t138 t139 t140 _ ?side1 A54.out).mono ?_); (case side1 => first | exact GT.below HG.out (by repeat (first | (with_reducible first | exact HB.out | apply bA | apply bN | apply bD | refine below_set ?_ GE107.out | refine below_set ?_ GE108.out | refine below_set ?_ GE113.out | refine below_set ?_ GE118.out | refine below_set ?_ GE136.out) | exact HB.out)) | (repeat (first | exact HG.out | (with_reducible first | apply GT.drewN | apply GT.drew | apply GT.alloc)))); rintro e w74 ⟨rfl, hb⟩; refine ⟨_, rfl, ?_⟩; have n0_ := Aside0.mk (Kd.R_below (by (with_reducible repeat (first | apply rA | apply rN | apply rD)); exact (Kd.R_mono (Kd.R_far (p := ⟨gb136, 2, none⟩) (Kd.R_far (p := ⟨gb136, 1, none⟩) (Kd.R_far (p := ⟨gb136, 0, none⟩) (Kd.R_types HO125.out BK136.out (by decide)) (fun _ hk => hk.2) (.string t131)) (fun _ hk => hk.2) (.string t132)) (fun _ hk => hk.2) (.int .i64 t133)) (fun _ h_ => h_.1))) hb); have n1_ := Aside0.mk (Kd.R_below (by (with_reducible repeat (first | apply rA | apply rN | apply rD)); exact (Kd.R_mono (Kd.R_far (p := ⟨gb136, 2, none⟩) (Kd.R_far (p := ⟨gb136, 1, none⟩) (Kd.R_far (p := ⟨gb136, 0, none⟩) (Kd.R_types HO129.out BK136.out (by decide)) (fun _ hk => hk.2) (.string t131)) (fun _ hk => hk.2) (.string t132)) (fun _ hk => hk.2) (.int .i64 t133)) (fun _ h_ => h_.1))) hb); have n2_ := Aside0.mk (blk_below (g := gb107) (o := .cells #[.string t102, .string t103, .int .i64 t104] 32 (0, 0)) (by (with_reducible repeat (first | refine kN ?_ _ | refine kD ?_ | refine kA ?_ _)); refine blk_far ?_ NB107_136.out _; (with_reducible repeat (first | refine kN ?_ _ | refine kD ?_ | refine kA ?_ _)); refine blk_far ?_ NB107_136.out _; (with_reducible repeat (first | refine kN ?_ _ | refine kD ?_ | refine kA ?_ _)); refine blk_far ?_ NB107_136.out _; (with_reducible repeat (first | refine kN ?_ _ | refine kD ?_ | refine kA ?_ _)); exact BK107.out) hb); have n3_ := Aside0.mk (blk_below (g := gb108) (o := .cells #[.string t105, .string t106] 25 (0, 0)) (by (with_reducible repeat (first | refine kN ?_ _ | refine kD ?_ | refine kA ?_ _)); refine blk_far ?_ NB108_136.out _; (with_reducible repeat (first | refine kN ?_ _ | refine kD ?_ | refine kA ?_ _)); refine blk_far ?_ NB108_136.out _; (with_reducible repeat (first | refine kN ?_ _ | refine kD ?_ | refine kA ?_ _)); refine blk_far ?_ NB108_136.out _; (with_reducible repeat (first | refine kN ?_ _ | refine kD ?_ | refine kA ?_ _)); exact BK108.out) hb); have n4_ := Aside0.mk (blk_below (g := gb113) (o := .cells #[.string t109, .string t110, .int .i64 t111] 32 (0, 0)) (by (with_reducible repeat (first | refine kN ?_ _ | refine kD ?_ | refine kA ?_ _)); refine blk_far ?_ NB113_136.out _; (with_reducible repeat (first | refine kN ?_ _ | refine kD ?_ | refine kA ?_ _)); refine blk_far ?_ NB113_136.out _; (with_reducible repeat (first | refine kN ?_ _ | refine kD ?_ | refine kA ?_ _)); refine blk_far ?_ NB113_136.out _; (with_reducible repeat (first | refine kN ?_ _ | refine kD ?_ | refine kA ?_ _)); exact BK113.out) hb); have n5_ := Aside0.mk (blk_below (g := gb118) (o := .cells #[.string t114, .string t115, .int .i64 t116] 32 (0, 0)) (by (with_reducible repeat (first | refine kN ?_ _ | refine kD ?_ | refine kA ?_ _)); refine blk_far ?_ NB118_136.out _; (with_reducible repeat (first | refine kN ?_ _ | refine kD ?_ | refine kA ?_ _)); refine blk_far ?_ NB118_136.out _; (with_reducible repeat (first | refine kN ?_ _ | refine kD ?_ | refine kA ?_ _)); refine blk_far ?_ NB118_136.out _; (with_reducible repeat (first | refine kN ?_ _ | refine kD ?_ | refine kA ?_ _)); exact BK118.out) hb); have n6_ := Aside0.mk (blk_below (g := gb136) (o := .cells #[.string t131, .string t132, .int .i64 t133] 32 (0, 0)) (by (with_reducible repeat (first | refine kN ?_ _ | refine kD ?_ | refine kA ?_ _)); refine blk_put (cs := #[.string t131, .string t132, .int .i64 0]) ?_ 2 _ rfl; (with_reducible repeat (first | refine kN ?_ _ | refine kD ?_ | refine kA ?_ _)); refine blk_put (cs := #[.string t131, .string (⟨#[]⟩ : ByteArray), .int .i64 0]) ?_ 1 _ rfl; (with_reducible repeat (first | refine kN ?_ _ | refine kD ?_ | refine kA ?_ _)); refine blk_put (cs := #[.string (⟨#[]⟩ : ByteArray), .string (⟨#[]⟩ : ByteArray), .int .i64 0]) ?_ 0 _ rfl; (with_reducible repeat (first | refine kN ?_ _ | refine kD ?_ | refine kA ?_ _)); exact BK136.out) hb); have n7_ := Aside0.mk (below_step (by repeat (first | (with_reducible first | exact HB.out | apply bA | apply bN | apply bD | refine below_set ?_ GE107.out | refine below_set ?_ GE108.out | refine below_set ?_ GE113.out | refine below_set ?_ GE118.out | refine below_set ?_ GE136.out) | exact HB.out)) hb); clear HO125 HO129 BK107 BK108 BK113 BK118 BK136 HB; have HO125 := n0_; have HO129 := n1_; have BK107 := n2_; have BK108 := n3_; have BK113 := n4_; have BK118 := n5_; have BK136 := n6_; have HB := n7_; clear n0_ n1_ n2_ n3_ n4_ n5_ n6_ n7_; (try clear hb); (try clear hb2); (try clear hk); (try clear hi)) | ((with_reducible refine gate_dst (N := 16) rfl ?_); refine box_event ?hg (N := 16) ?hd (cs := #[.string (⟨#[]⟩ : ByteArray), .string (⟨#[]⟩ : ByteArray), .int .i64 0]) (t := 32) ?hr ?_; (case hd => rfl); (case hg => rfl); (case hr => first | (go_simp; done) | (go_simp; rfl)); intro gb141 hg w75 hbox hb; have n0_ := Aside0.mk (Kd.R_below (by (with_reducible repeat (first | apply rA | apply rN | apply rD)); exact HO125.out) hb); have n1_ := Aside0.mk (Kd.R_below (by (with_reducible repeat (first | apply rA | apply rN | apply rD)); exact HO129.out) hb); have n2_ := Aside0.mk (blk_below (by (with_reducible repeat (first | refine kN ?_ _ | refine kD ?_ | refine kA ?_ _)); exact BK107.out) hb); have n3_ := Aside0.mk (blk_below (by (with_reducible repeat (first | refine kN ?_ _ | refine kD ?_ | refine kA ?_ _)); exact BK108.out) hb); have n4_ := Aside0.mk (blk_below (by (with_reducible repeat (first | refine kN ?_ _ | refine kD ?_ | refine kA ?_ _)); exact BK113.out) hb); have n5_ := Aside0.mk (blk_below (by (with_reducible repeat (first | refine kN ?_ _ | refine kD ?_ | refine kA ?_ _)); exact BK118.out) hb); have n6_ := Aside0.mk (blk_below (by (with_reducible repeat (first | refine kN ?_ _ | refine kD ?_ | refine kA ?_ _)); exact BK136.out) hb); have hB_ := bz (by repeat (first | (with_reducible first | exact HB.out | apply bA | apply bN | apply bD | refine below_set ?_ GE107.out | refine below_set ?_ GE108.out | refine below_set ?_ GE113.out | refine below_set ?_ GE118.out | refine below_set ?_ GE136.out) | exact HB.out)) hb; have n7_ := Aside0.mk (below_step hB_ hb); have n8_ := Aside0.mk (hbox); have n9_ := Aside0.mk ((by rw [hg]; exact (below_size hB_) : w.heap.size ≤ gb141)); have n10_ := n9_; have n11_ := Aside0.mk ((by rw [hg]; exact Nat.ne_of_lt (blk_lt (by (with_reducible repeat (first | refine kN ?_ _ | refine kD ?_ | refine kA ?_ _)); exact BK107.out)) : gb107 ≠ gb141)); have n12_ := Aside0.mk (Ne.symm n11_.out); have n13_ := Aside0.mk ((by rw [hg]; exact Nat.ne_of_lt (blk_lt (by (with_reducible repeat (first | refine kN ?_ _ | refine kD ?_ | refine kA ?_ _)); exact BK108.out)) : gb108 ≠ gb141)); have n14_ := Aside0.mk (Ne.symm n13_.out); have n15_ := Aside0.mk ((by rw [hg]; exact Nat.ne_of_lt (blk_lt (by (with_reducible repeat (first | refine kN ?_ _ | refine kD ?_ | refine kA ?_ _)); exact BK113.out)) : gb113 ≠ gb141)); have n16_ := Aside0.mk (Ne.symm n15_.out); have n17_ := Aside0.mk ((by rw [hg]; exact Nat.ne_of_lt (blk_lt (by (with_reducible repeat (first | refine kN ?_ _ | refine kD ?_ | refine kA ?_ _)); exact BK118.out)) : gb118 ≠ gb141)); have n18_ := Aside0.mk (Ne.symm n17_.out); have n19_ := Aside0.mk ((by rw [hg]; exact Nat.ne_of_lt (blk_lt (by (with_reducible repeat (first | refine kN ?_ _ | refine kD ?_ | refine kA ?_ _)); exact BK136.out)) : gb136 ≠ gb141)); have n20_ := Aside0.mk (Ne.symm n19_.out); clear HO125 HO129 BK107 BK108 BK113 BK118 BK136 HB; have HO125 := n0_; have HO129 := n1_; have BK107 := n2_; have BK108 := n3_; have BK113 := n4_; have BK118 := n5_; have BK136 := n6_; have HB := n7_; have BK141 := n8_; have GW141 := n9_; have GE141 := n10_; have NB107_141 := n11_; have NB141_107 := n12_; have NB108_141 := n13_; have NB141_108 := n14_; have NB113_141 := n15_; have NB141_113 := n16_; have NB118_141 := n17_; have NB141_118 := n18_; have NB136_141 := n19_; have NB141_136 := n20_; clear n0_ n1_ n2_ n3_ n4_ n5_ n6_ n7_ n8_ n9_ n10_ n11_ n12_ n13_ n14_ n15_ n16_ n17_ n18_ n19_ n20_ hB_ hb hbox hg; have hnb76 := NB141_107.out; have hnc76 := NB107_141.out; have hnb77 := NB141_108.out; have hnc77 := NB108_141.out; have hnb78 := NB141_113.out; have hnc78 := NB113_141.out; have hnb79 := NB141_118.out; have hnc79 := NB118_141.out; have hnb80 := NB141_136.out; have hnc80 := NB136_141.out; have hcz81_0 := cz BK141.out 0; have hcz81_1 := cz BK141.out 1; have hcz81_2 := cz BK141.out 2; have hfz81_0 := blk_frozen BK141.out 0; have hfz81_1 := blk_frozen BK141.out 1; have hfz81_2 := blk_frozen BK141.out 2))
       ((try simp only [Act.put, aS1, aS2, aS3])); (go_cut [106] (fun v106 wc => ∃ (kq : Nat) (x106_54 : Bool), v106 = .bool x106_54 ∧ Aside0 (laws_FnLog.j1 kq t123 t127 t134 t135 t140 x106_54 t105 t106 t109 t110 t111 t131 t132 t133 t137 t138 t139 = some r) ∧ Aside0 (kq ≤ kj6) ∧ Aside0 (Kd.R k25 25 wc w.heap.size (fun k_ => some k_ ≠ (v128 : Value).ownBlock ∧ k_ ≠ gb108) v124 t123) ∧ Aside0 (Kd.R k25 25 wc w.heap.size (fun k_ => some k_ ≠ (v124 : Value).ownBlock ∧ k_ ≠ gb108) v128 t127) ∧ Aside0 (wc.heap[gb107]? = some (.cells #[.string t102, .string t103, .int .i64 t104] 32 (0, 0))) ∧ Aside0 (wc.heap[gb108]? = some (.cells #[.string t105, .string t106] 25 (0, 0))) ∧ Aside0 (wc.heap[gb113]? = some (.cells #[.string t109, .string t110, .int .i64 t111] 32 (0, 0))) ∧ Aside0 (wc.heap[gb118]? = some (.cells #[.string t114, .string t115, .int .i64 t116] 32 (0, 0))) ∧ Aside0 (wc.heap[gb136]? = some (.cells #[.string t131, .string t132, .int .i64 t133] 32 (0, 0))) ∧ Aside0 (wc.heap[gb141]? = some (.cells #[.string t137, .string t138, .int .i64 t139] 32 (0, 0))) ∧ Aside0 (Below w.heap.size w wc)))
       case first =>
        (have H := HC55.out); clear HC55; (by_cases c82 : t126 = true)
        ·subst c82
         (rw [if_pos rfl] at H); (by_cases c83 : (t123.length : Int) = (wrap64 ((t127.length : Int) + 1)))
         ·rw [if_pos c83] at H
          (have c83b0 : ((t123.length : Int) == (wrap64 ((t127.length : Int) + 1))) = true := beq_iff_eq.mpr c83); (have c83b1 : ((t123.length : Int) != (wrap64 ((t127.length : Int) + 1))) = false := bne_eq_false_iff_eq.mpr c83); clear c83; ((first | rw [c83b0] | (simp only [i64_w, i32_w]; rw [c83b0]) | skip)); (have H' := Aside0.mk H); clear H; (obtain ⟨Ao84, co84, eo84⟩ := Kd.R_slice HO125.out); subst eo84; (obtain ⟨Ao85, co85, eo85⟩ := Kd.R_slice HO129.out); subst eo85; (have hnb86 := NB113_107.out); (have hnc86 := NB107_113.out); (have hnb87 := NB113_108.out); (have hnc87 := NB108_113.out); (have hnb88 := NB113_118.out); (have hnc88 := NB118_113.out); (have hnb89 := NB113_136.out); (have hnc89 := NB136_113.out); (have hnb90 := NB113_141.out); (have hnc90 := NB141_113.out); (have hcz91_0 := cz BK113.out 0); (have hcz91_1 := cz BK113.out 1); (have hcz91_2 := cz BK113.out 2); (have hfz91_0 := blk_frozen BK113.out 0); (have hfz91_1 := blk_frozen BK113.out 1); (have hfz91_2 := blk_frozen BK113.out 2); (go_wp2); (go_meet)
          case rel => exact ⟨_, ((t111 != (t123.length : Int))), (by first | rfl | (simp; done) | (simp [*]; done)), H', ⟨by have := HJ6.out; first | omega | exact Nat.le_refl _⟩, ⟨by (with_reducible repeat (first | apply rA | apply rN | apply rD)); exact Kd.R_mono (Kd.R_far (p := ⟨gb141, 2, none⟩) (Kd.R_far (p := ⟨gb141, 1, none⟩) (Kd.R_far (p := ⟨gb141, 0, none⟩) (Kd.R_types HO125.out BK141.out (by decide)) (fun _ hk => hk.2) (.string t137)) (fun _ hk => hk.2) (.string t138)) (fun _ hk => hk.2) (.int .i64 t139)) (fun _ hk => ⟨hk.1.2, hk.1.1.2⟩)⟩, ⟨by (with_reducible repeat (first | apply rA | apply rN | apply rD)); exact Kd.R_mono (Kd.R_far (p := ⟨gb141, 2, none⟩) (Kd.R_far (p := ⟨gb141, 1, none⟩) (Kd.R_far (p := ⟨gb141, 0, none⟩) (Kd.R_types HO129.out BK141.out (by decide)) (fun _ hk => hk.2) (.string t137)) (fun _ hk => hk.2) (.string t138)) (fun _ hk => hk.2) (.int .i64 t139)) (fun _ hk => ⟨hk.1.1.2, hk.1.2⟩)⟩, ⟨by (with_reducible repeat (first | refine kN ?_ _ | refine kD ?_ | refine kA ?_ _)); refine blk_far ?_ NB107_141.out _; (with_reducible repeat (first | refine kN ?_ _ | refine kD ?_ | refine kA ?_ _)); refine blk_far ?_ NB107_141.out _; (with_reducible repeat (first | refine kN ?_ _ | refine kD ?_ | refine kA ?_ _)); refine blk_far ?_ NB107_141.out _; (with_reducible repeat (first | refine kN ?_ _ | refine kD ?_ | refine kA ?_ _)); exact BK107.out⟩, ⟨by (with_reducible repeat (first | refine kN ?_ _ | refine kD ?_ | refine kA ?_ _)); refine blk_far ?_ NB108_141.out _; (with_reducible repeat (first | refine kN ?_ _ | refine kD ?_ | refine kA ?_ _)); refine blk_far ?_ NB108_141.out _; (with_reducible repeat (first | refine kN ?_ _ | refine kD ?_ | refine kA ?_ _)); refine blk_far ?_ NB108_141.out _; (with_reducible repeat (first | refine kN ?_ _ | refine kD ?_ | refine kA ?_ _)); exact BK108.out⟩, ⟨by (with_reducible repeat (first | refine kN ?_ _ | refine kD ?_ | refine kA ?_ _)); refine blk_far ?_ NB113_141.out _; (with_reducible repeat (first | refine kN ?_ _ | refine kD ?_ | refine kA ?_ _)); refine blk_far ?_ NB113_141.out _; (with_reducible repeat (first | refine kN ?_ _ | refine kD ?_ | refine kA ?_ _)); refine blk_far ?_ NB113_141.out _; (with_reducible repeat (first | refine kN ?_ _ | refine kD ?_ | refine kA ?_ _)); exact BK113.out⟩, ⟨by (with_reducible repeat (first | refine kN ?_ _ | refine kD ?_ | refine kA ?_ _)); refine blk_far ?_ NB118_141.out _; (with_reducible repeat (first | refine kN ?_ _ | refine kD ?_ | refine kA ?_ _)); refine blk_far ?_ NB118_141.out _; (with_reducible repeat (first | refine kN ?_ _ | refine kD ?_ | refine kA ?_ _)); refine blk_far ?_ NB118_141.out _; (with_reducible repeat (first | refine kN ?_ _ | refine kD ?_ | refine kA ?_ _)); exact BK118.out⟩, ⟨by (with_reducible repeat (first | refine kN ?_ _ | refine kD ?_ | refine kA ?_ _)); refine blk_far ?_ NB136_141.out _; (with_reducible repeat (first | refine kN ?_ _ | refine kD ?_ | refine kA ?_ _)); refine blk_far ?_ NB136_141.out _; (with_reducible repeat (first | refine kN ?_ _ | refine kD ?_ | refine kA ?_ _)); refine blk_far ?_ NB136_141.out _; (with_reducible repeat (first | refine kN ?_ _ | refine kD ?_ | refine kA ?_ _)); exact BK136.out⟩, ⟨by (with_reducible repeat (first | refine kN ?_ _ | refine kD ?_ | refine kA ?_ _)); refine blk_put (cs := #[.string t137, .string t138, .int .i64 0]) ?_ 2 _ rfl; (with_reducible repeat (first | refine kN ?_ _ | refine kD ?_ | refine kA ?_ _)); refine blk_put (cs := #[.string t137, .string (⟨#[]⟩ : ByteArray), .int .i64 0]) ?_ 1 _ rfl; (with_reducible repeat (first | refine kN ?_ _ | refine kD ?_ | refine kA ?_ _)); refine blk_put (cs := #[.string (⟨#[]⟩ : ByteArray), .string (⟨#[]⟩ : ByteArray), .int .i64 0]) ?_ 0 _ rfl; (with_reducible repeat (first | refine kN ?_ _ | refine kD ?_ | refine kA ?_ _)); exact BK141.out⟩, ⟨by repeat (first | (with_reducible first | exact HB.out | apply bA | apply bN | apply bD | refine below_set ?_ GE107.out | refine below_set ?_ GE108.out | refine below_set ?_ GE113.out | refine below_set ?_ GE118.out | refine below_set ?_ GE136.out | refine below_set ?_ GE141.out) | exact HB.out)⟩⟩
         ·rw [if_neg c83] at H
          (have c83b0 : ((t123.length : Int) == (wrap64 ((t127.length : Int) + 1))) = false := beq_eq_false_iff_ne.mpr c83); (have c83b1 : ((t123.length : Int) != (wrap64 ((t127.length : Int) + 1))) = true := bne_iff_ne.mpr c83); ((first | rw [c83b0] | (simp only [i64_w, i32_w]; rw [c83b0]) | skip)); (have H' := Aside0.mk H); clear H; (obtain ⟨Ao92, co92, eo92⟩ := Kd.R_slice HO125.out); subst eo92; (obtain ⟨Ao93, co93, eo93⟩ := Kd.R_slice HO129.out); subst eo93; (go_wp2); (go_meet)
          case rel => exact ⟨_, (true), (by first | rfl | (simp; done) | (simp [*]; done)), H', ⟨by have := HJ6.out; first | omega | exact Nat.le_refl _⟩, ⟨by (with_reducible repeat (first | apply rA | apply rN | apply rD)); exact Kd.R_mono (Kd.R_far (p := ⟨gb141, 2, none⟩) (Kd.R_far (p := ⟨gb141, 1, none⟩) (Kd.R_far (p := ⟨gb141, 0, none⟩) (Kd.R_types HO125.out BK141.out (by decide)) (fun _ hk => hk.2) (.string t137)) (fun _ hk => hk.2) (.string t138)) (fun _ hk => hk.2) (.int .i64 t139)) (fun _ hk => ⟨hk.1.2, hk.1.1.2⟩)⟩, ⟨by (with_reducible repeat (first | apply rA | apply rN | apply rD)); exact Kd.R_mono (Kd.R_far (p := ⟨gb141, 2, none⟩) (Kd.R_far (p := ⟨gb141, 1, none⟩) (Kd.R_far (p := ⟨gb141, 0, none⟩) (Kd.R_types HO129.out BK141.out (by decide)) (fun _ hk => hk.2) (.string t137)) (fun _ hk => hk.2) (.string t138)) (fun _ hk => hk.2) (.int .i64 t139)) (fun _ hk => ⟨hk.1.1.2, hk.1.2⟩)⟩, ⟨by (with_reducible repeat (first | refine kN ?_ _ | refine kD ?_ | refine kA ?_ _)); refine blk_far ?_ NB107_141.out _; (with_reducible repeat (first | refine kN ?_ _ | refine kD ?_ | refine kA ?_ _)); refine blk_far ?_ NB107_141.out _; (with_reducible repeat (first | refine kN ?_ _ | refine kD ?_ | refine kA ?_ _)); refine blk_far ?_ NB107_141.out _; (with_reducible repeat (first | refine kN ?_ _ | refine kD ?_ | refine kA ?_ _)); exact BK107.out⟩, ⟨by (with_reducible repeat (first | refine kN ?_ _ | refine kD ?_ | refine kA ?_ _)); refine blk_far ?_ NB108_141.out _; (with_reducible repeat (first | refine kN ?_ _ | refine kD ?_ | refine kA ?_ _)); refine blk_far ?_ NB108_141.out _; (with_reducible repeat (first | refine kN ?_ _ | refine kD ?_ | refine kA ?_ _)); refine blk_far ?_ NB108_141.out _; (with_reducible repeat (first | refine kN ?_ _ | refine kD ?_ | refine kA ?_ _)); exact BK108.out⟩, ⟨by (with_reducible repeat (first | refine kN ?_ _ | refine kD ?_ | refine kA ?_ _)); refine blk_far ?_ NB113_141.out _; (with_reducible repeat (first | refine kN ?_ _ | refine kD ?_ | refine kA ?_ _)); refine blk_far ?_ NB113_141.out _; (with_reducible repeat (first | refine kN ?_ _ | refine kD ?_ | refine kA ?_ _)); refine blk_far ?_ NB113_141.out _; (with_reducible repeat (first | refine kN ?_ _ | refine kD ?_ | refine kA ?_ _)); exact BK113.out⟩, ⟨by (with_reducible repeat (first | refine kN ?_ _ | refine kD ?_ | refine kA ?_ _)); refine blk_far ?_ NB118_141.out _; (with_reducible repeat (first | refine kN ?_ _ | refine kD ?_ | refine kA ?_ _)); refine blk_far ?_ NB118_141.out _; (with_reducible repeat (first | refine kN ?_ _ | refine kD ?_ | refine kA ?_ _)); refine blk_far ?_ NB118_141.out _; (with_reducible repeat (first | refine kN ?_ _ | refine kD ?_ | refine kA ?_ _)); exact BK118.out⟩, ⟨by (with_reducible repeat (first | refine kN ?_ _ | refine kD ?_ | refine kA ?_ _)); refine blk_far ?_ NB136_141.out _; (with_reducible repeat (first | refine kN ?_ _ | refine kD ?_ | refine kA ?_ _)); refine blk_far ?_ NB136_141.out _; (with_reducible repeat (first | refine kN ?_ _ | refine kD ?_ | refine kA ?_ _)); refine blk_far ?_ NB136_141.out _; (with_reducible repeat (first | refine kN ?_ _ | refine kD ?_ | refine kA ?_ _)); exact BK136.out⟩, ⟨by (with_reducible repeat (first | refine kN ?_ _ | refine kD ?_ | refine kA ?_ _)); refine blk_put (cs := #[.string t137, .string t138, .int .i64 0]) ?_ 2 _ rfl; (with_reducible repeat (first | refine kN ?_ _ | refine kD ?_ | refine kA ?_ _)); refine blk_put (cs := #[.string t137, .string (⟨#[]⟩ : ByteArray), .int .i64 0]) ?_ 1 _ rfl; (with_reducible repeat (first | refine kN ?_ _ | refine kD ?_ | refine kA ?_ _)); refine blk_put (cs := #[.string (⟨#[]⟩ : ByteArray), .string (⟨#[]⟩ : ByteArray), .int .i64 0]) ?_ 0 _ rfl; (with_reducible repeat (first | refine kN ?_ _ | refine kD ?_ | refine kA ?_ _)); exact BK141.out⟩, ⟨by repeat (first | (with_reducible first | exact HB.out | apply bA | apply bN | apply bD | refine below_set ?_ GE107.out | refine below_set ?_ GE108.out | refine below_set ?_ GE113.out | refine below_set ?_ GE118.out | refine below_set ?_ GE136.out | refine below_set ?_ GE141.out) | exact HB.out)⟩⟩
        ·replace c82 := Bool.eq_false_iff.mpr c82
         subst c82; (rw [if_neg (show ¬ (false = true) by decide)] at H); (have H' := Aside0.mk H); clear H; (go_wp2); (go_meet)
         case rel => exact ⟨_, (true), (by first | rfl | (simp; done) | (simp [*]; done)), H', ⟨by have := HJ6.out; first | omega | exact Nat.le_refl _⟩, ⟨by (with_reducible repeat (first | apply rA | apply rN | apply rD)); exact Kd.R_mono (Kd.R_far (p := ⟨gb141, 2, none⟩) (Kd.R_far (p := ⟨gb141, 1, none⟩) (Kd.R_far (p := ⟨gb141, 0, none⟩) (Kd.R_types HO125.out BK141.out (by decide)) (fun _ hk => hk.2) (.string t137)) (fun _ hk => hk.2) (.string t138)) (fun _ hk => hk.2) (.int .i64 t139)) (fun _ hk => ⟨hk.1.2, hk.1.1.2⟩)⟩, ⟨by (with_reducible repeat (first | apply rA | apply rN | apply rD)); exact Kd.R_mono (Kd.R_far (p := ⟨gb141, 2, none⟩) (Kd.R_far (p := ⟨gb141, 1, none⟩) (Kd.R_far (p := ⟨gb141, 0, none⟩) (Kd.R_types HO129.out BK141.out (by decide)) (fun _ hk => hk.2) (.string t137)) (fun _ hk => hk.2) (.string t138)) (fun _ hk => hk.2) (.int .i64 t139)) (fun _ hk => ⟨hk.1.1.2, hk.1.2⟩)⟩, ⟨by (with_reducible repeat (first | refine kN ?_ _ | refine kD ?_ | refine kA ?_ _)); refine blk_far ?_ NB107_141.out _; (with_reducible repeat (first | refine kN ?_ _ | refine kD ?_ | refine kA ?_ _)); refine blk_far ?_ NB107_141.out _; (with_reducible repeat (first | refine kN ?_ _ | refine kD ?_ | refine kA ?_ _)); refine blk_far ?_ NB107_141.out _; (with_reducible repeat (first | refine kN ?_ _ | refine kD ?_ | refine kA ?_ _)); exact BK107.out⟩, ⟨by (with_reducible repeat (first | refine kN ?_ _ | refine kD ?_ | refine kA ?_ _)); refine blk_far ?_ NB108_141.out _; (with_reducible repeat (first | refine kN ?_ _ | refine kD ?_ | refine kA ?_ _)); refine blk_far ?_ NB108_141.out _; (with_reducible repeat (first | refine kN ?_ _ | refine kD ?_ | refine kA ?_ _)); refine blk_far ?_ NB108_141.out _; (with_reducible repeat (first | refine kN ?_ _ | refine kD ?_ | refine kA ?_ _)); exact BK108.out⟩, ⟨by (with_reducible repeat (first | refine kN ?_ _ | refine kD ?_ | refine kA ?_ _)); refine blk_far ?_ NB113_141.out _; (with_reducible repeat (first | refine kN ?_ _ | refine kD ?_ | refine kA ?_ _)); refine blk_far ?_ NB113_141.out _; (with_reducible repeat (first | refine kN ?_ _ | refine kD ?_ | refine kA ?_ _)); refine blk_far ?_ NB113_141.out _; (with_reducible repeat (first | refine kN ?_ _ | refine kD ?_ | refine kA ?_ _)); exact BK113.out⟩, ⟨by (with_reducible repeat (first | refine kN ?_ _ | refine kD ?_ | refine kA ?_ _)); refine blk_far ?_ NB118_141.out _; (with_reducible repeat (first | refine kN ?_ _ | refine kD ?_ | refine kA ?_ _)); refine blk_far ?_ NB118_141.out _; (with_reducible repeat (first | refine kN ?_ _ | refine kD ?_ | refine kA ?_ _)); refine blk_far ?_ NB118_141.out _; (with_reducible repeat (first | refine kN ?_ _ | refine kD ?_ | refine kA ?_ _)); exact BK118.out⟩, ⟨by (with_reducible repeat (first | refine kN ?_ _ | refine kD ?_ | refine kA ?_ _)); refine blk_far ?_ NB136_141.out _; (with_reducible repeat (first | refine kN ?_ _ | refine kD ?_ | refine kA ?_ _)); refine blk_far ?_ NB136_141.out _; (with_reducible repeat (first | refine kN ?_ _ | refine kD ?_ | refine kA ?_ _)); refine blk_far ?_ NB136_141.out _; (with_reducible repeat (first | refine kN ?_ _ | refine kD ?_ | refine kA ?_ _)); exact BK136.out⟩, ⟨by (with_reducible repeat (first | refine kN ?_ _ | refine kD ?_ | refine kA ?_ _)); refine blk_put (cs := #[.string t137, .string t138, .int .i64 0]) ?_ 2 _ rfl; (with_reducible repeat (first | refine kN ?_ _ | refine kD ?_ | refine kA ?_ _)); refine blk_put (cs := #[.string t137, .string (⟨#[]⟩ : ByteArray), .int .i64 0]) ?_ 1 _ rfl; (with_reducible repeat (first | refine kN ?_ _ | refine kD ?_ | refine kA ?_ _)); refine blk_put (cs := #[.string (⟨#[]⟩ : ByteArray), .string (⟨#[]⟩ : ByteArray), .int .i64 0]) ?_ 0 _ rfl; (with_reducible repeat (first | refine kN ?_ _ | refine kD ?_ | refine kA ?_ _)); exact BK141.out⟩, ⟨by repeat (first | (with_reducible first | exact HB.out | apply bA | apply bN | apply bD | refine below_set ?_ GE107.out | refine below_set ?_ GE108.out | refine below_set ?_ GE113.out | refine below_set ?_ GE118.out | refine below_set ?_ GE136.out | refine below_set ?_ GE141.out) | exact HB.out)⟩⟩
       case rest =>
        clear HC55; (try clear c1); (try clear c2); (try clear p2); (try clear c3); (try clear c4); (try clear c5); (try clear c6); (try clear p6); (try clear c7); (try clear c8); (try clear c9); (try clear c11); (try clear c13); (try clear c14); (try clear c18); (try clear c19); (try clear c20); (try clear c21); (try clear c30); (try clear c30b0); (try clear c30b1); (try clear c33); (try clear c33b0); (try clear c33b1); (try clear c33b2); (try clear c48); (try clear c49); (try clear c49b0); (try clear c49b1); (try clear c52); (try clear c52b0); (try clear c52b1); (try clear c52b2); (try clear c56); (try clear c57); (try clear c58); (try clear c61); (try clear c62); (try clear p64); (try clear c68); (try clear c69); (try clear c70); (try clear c71); (try clear c76); (try clear c77); (try clear c78); (try clear c79); (try clear c80); (try clear c82); (try clear c83); (try clear c83b0); (try clear c83b1); (try clear c86); (try clear c87); (try clear c88); (try clear c89); (try clear c90); (try clear hcz59_0); (try clear hcz59_1); (try clear hcz59_2); (try clear hcz63_0); (try clear hcz63_1); (try clear hcz63_2); (try clear hcz65_0); (try clear hcz65_1); (try clear hcz65_2); (try clear hcz72_0); (try clear hcz72_1); (try clear hcz72_2); (try clear hcz73_0); (try clear hcz73_1); (try clear hcz73_2); (try clear hcz81_0); (try clear hcz81_1); (try clear hcz81_2); (try clear hcz91_0); (try clear hcz91_1); (try clear hcz91_2); (try clear hfz59_0); (try clear hfz59_1); (try clear hfz59_2); (try clear hfz63_0); (try clear hfz63_1); (try clear hfz63_2); (try clear hfz65_0); (try clear hfz65_1); (try clear hfz65_2); (try clear hfz72_0); (try clear hfz72_1); (try clear hfz72_2); (try clear hfz73_0); (try clear hfz73_1); (try clear hfz73_2); (try clear hfz81_0); (try clear hfz81_1); (try clear hfz81_2); (try clear hfz91_0); (try clear hfz91_1); (try clear hfz91_2); (try clear p2); (obtain ⟨kq, x106_54, rfl, HA, HJ54, HO_9, HO_11, BK107, BK108, BK113, BK118, BK136, BK141, HB⟩ := hcut)
        cases kq with
        | zero => exact absurd HA.out (by simp [laws_FnLog.j1])
        | succ kj54 =>
         (have H := HA.out); clear HA; (simp only [laws_FnLog.j1] at H); (by_cases c94 : x106_54 = true); (· subst c94; (rw [if_pos rfl] at H); (obtain rfl := Option.some.inj H); (exact absurd ht_.out (by decide)))
         ·replace c94 := Bool.eq_false_iff.mpr c94
          subst c94; (rw [if_neg (show ¬ (false = true) by decide)] at H); (have H' := Aside0.mk H); clear H; (go_wp2); (go_loopg [18] kj54 (fun kq v18 w' => ∃ (x18_3 : Int), v18 = .int .i64 x18_3 ∧ Aside0 (laws_FnLog.l0 kq t123 t127 t134 t135 t140 x18_3 t105 t106 t109 t110 t111 t131 t132 t133 t137 t138 t139 = some r) ∧ Aside0 (kq ≤ kj54) ∧ Aside0 (Kd.R k25 25 w' w.heap.size (fun k_ => some k_ ≠ (v128 : Value).ownBlock ∧ k_ ≠ gb108) v124 t123) ∧ Aside0 (Kd.R k25 25 w' w.heap.size (fun k_ => some k_ ≠ (v124 : Value).ownBlock ∧ k_ ≠ gb108) v128 t127) ∧ Aside0 (w'.heap[gb107]? = some (.cells #[.string t102, .string t103, .int .i64 t104] 32 (0, 0))) ∧ Aside0 (w'.heap[gb108]? = some (.cells #[.string t105, .string t106] 25 (0, 0))) ∧ Aside0 (w'.heap[gb113]? = some (.cells #[.string t109, .string t110, .int .i64 t111] 32 (0, 0))) ∧ Aside0 (w'.heap[gb118]? = some (.cells #[.string t114, .string t115, .int .i64 t116] 32 (0, 0))) ∧ Aside0 (w'.heap[gb136]? = some (.cells #[.string t131, .string t132, .int .i64 t133] 32 (0, 0))) ∧ Aside0 (w'.heap[gb141]? = some (.cells #[.string t137, .string t138, .int .i64 t139] 32 (0, 0))) ∧ Aside0 (Below w.heap.size w w')))
          case atStart => exact ⟨(0), (by first | rfl | (simp; done) | (simp [*]; done)), H', ⟨Nat.le_refl _⟩, ⟨by (with_reducible repeat (first | apply rA | apply rN | apply rD)); exact HO_9.out⟩, ⟨by (with_reducible repeat (first | apply rA | apply rN | apply rD)); exact HO_11.out⟩, ⟨by (with_reducible repeat (first | refine kN ?_ _ | refine kD ?_ | refine kA ?_ _)); exact BK107.out⟩, ⟨by (with_reducible repeat (first | refine kN ?_ _ | refine kD ?_ | refine kA ?_ _)); exact BK108.out⟩, ⟨by (with_reducible repeat (first | refine kN ?_ _ | refine kD ?_ | refine kA ?_ _)); exact BK113.out⟩, ⟨by (with_reducible repeat (first | refine kN ?_ _ | refine kD ?_ | refine kA ?_ _)); exact BK118.out⟩, ⟨by (with_reducible repeat (first | refine kN ?_ _ | refine kD ?_ | refine kA ?_ _)); exact BK136.out⟩, ⟨by (with_reducible repeat (first | refine kN ?_ _ | refine kD ?_ | refine kA ?_ _)); exact BK141.out⟩, ⟨by repeat (first | (with_reducible first | exact HB.out | apply bA | apply bN | apply bD | refine below_set ?_ GE107.out | refine below_set ?_ GE108.out | refine below_set ?_ GE113.out | refine below_set ?_ GE118.out | refine below_set ?_ GE136.out | refine below_set ?_ GE141.out) | exact HB.out)⟩⟩
          case round =>
           (clear H'); (try clear c1); (try clear c2); (try clear p2); (try clear c3); (try clear c4); (try clear c5); (try clear c6); (try clear p6); (try clear c7); (try clear c8); (try clear c9); (try clear c11); (try clear c13); (try clear c14); (try clear c18); (try clear c19); (try clear c20); (try clear c21); (try clear c30); (try clear c30b0); (try clear c30b1); (try clear c33); (try clear c33b0); (try clear c33b1); (try clear c33b2); (try clear c48); (try clear c49); (try clear c49b0); (try clear c49b1); (try clear c52); (try clear c52b0); (try clear c52b1); (try clear c52b2); (try clear c56); (try clear c57); (try clear c58); (try clear c61); (try clear c62); (try clear p64); (try clear c68); (try clear c69); (try clear c70); (try clear c71); (try clear c76); (try clear c77); (try clear c78); (try clear c79); (try clear c80); (try clear c82); (try clear c83); (try clear c83b0); (try clear c83b1); (try clear c86); (try clear c87); (try clear c88); (try clear c89); (try clear c90); (try clear c94); (try clear hcz59_0); (try clear hcz59_1); (try clear hcz59_2); (try clear hcz63_0); (try clear hcz63_1); (try clear hcz63_2); (try clear hcz65_0); (try clear hcz65_1); (try clear hcz65_2); (try clear hcz72_0); (try clear hcz72_1); (try clear hcz72_2); (try clear hcz73_0); (try clear hcz73_1); (try clear hcz73_2); (try clear hcz81_0); (try clear hcz81_1); (try clear hcz81_2); (try clear hcz91_0); (try clear hcz91_1); (try clear hcz91_2); (try clear hfz59_0); (try clear hfz59_1); (try clear hfz59_2); (try clear hfz63_0); (try clear hfz63_1); (try clear hfz63_2); (try clear hfz65_0); (try clear hfz65_1); (try clear hfz65_2); (try clear hfz72_0); (try clear hfz72_1); (try clear hfz72_2); (try clear hfz73_0); (try clear hfz73_1); (try clear hfz73_2); (try clear hfz81_0); (try clear hfz81_1); (try clear hfz81_2); (try clear hfz91_0); (try clear hfz91_1); (try clear hfz91_2); (try clear p2); (try clear p6); (try clear p64); (obtain ⟨x18_3, rfl, HA, HK3, HO_9, HO_11, BK107, BK108, BK113, BK118, BK136, BK141, HB⟩ := hrel)
           cases gk with
           | zero => exact absurd HA.out (by simp [laws_FnLog.l0])
           | succ k3 =>
            (have H := HA.out); clear HA; (simp only [laws_FnLog.l0] at H); (by_cases c95 : x18_3 < (t127.length : Int))
            ·rw [if_pos c95] at H
             (have c95b0 : decide (x18_3 < (t127.length : Int)) = true := decide_eq_true c95); clear c95; (by_cases c96 : 0 ≤ x18_3)
             ·rw [if_pos c96] at H
              (have c96b0 : decide (0 ≤ x18_3) = true := decide_eq_true c96); clear c96; (by_cases c97 : x18_3 < (t123.length : Int))
              ·rw [if_pos c97] at H
               (have c97b0 : decide (x18_3 < (t123.length : Int)) = true := decide_eq_true c97); clear c97; (by_cases c98 : (!((((rd_T25 t123 x18_3).f0).toList) == (((rd_T25 t127 x18_3).f0).toList)) || (!((((rd_T25 t123 x18_3).f1).toList) == (((rd_T25 t127 x18_3).f1).toList)))) = true)
               ·rw [if_pos c98] at H
                (have c98b0 : (!((((rd_T25 t123 x18_3).f0).toList) == (((rd_T25 t127 x18_3).f0).toList)) || (!((((rd_T25 t123 x18_3).f1).toList) == (((rd_T25 t127 x18_3).f1).toList)))) = true := c98); clear c98; (obtain rfl := Option.some.inj H); (obtain ⟨Ao99, co99, eo99⟩ := Kd.R_slice HO_11.out); subst eo99; (try go_wp2); (have n0_ := Aside0.mk (Kd.R_drew HO_9.out)); (have n1_ := Aside0.mk (Kd.R_drew HO_11.out)); (have n2_ := Aside0.mk (blk_drew BK107.out)); (have n3_ := Aside0.mk (blk_drew BK108.out)); (have n4_ := Aside0.mk (blk_drew BK113.out)); (have n5_ := Aside0.mk (blk_drew BK118.out)); (have n6_ := Aside0.mk (blk_drew BK136.out)); (have n7_ := Aside0.mk (blk_drew BK141.out)); (have n8_ := Aside0.mk (below_drew1 HB.out)); clear HO_9 HO_11 BK107 BK108 BK113 BK118 BK136 BK141 HB; (have HO_9 := n0_); (have HO_11 := n1_); (have BK107 := n2_); (have BK108 := n3_); (have BK113 := n4_); (have BK118 := n5_); (have BK136 := n6_); (have BK141 := n7_); (have HB := n8_); clear n0_ n1_ n2_ n3_ n4_ n5_ n6_ n7_ n8_; (obtain ⟨Ao101, co101, eo101⟩ := Kd.R_slice HO_9.out); ((first | subst eo101 | (injection eo101 with f1_ f2_ f3_; have f4_ := f1_.symm; have f5_ := f3_.symm; clear f1_ f2_ f3_; subst f4_; subst f5_))); (have p142 : 0 ≤ (x18_3 : Int) := of_decide_eq_true (by first | (with_reducible assumption) | assumption)); (have q142 : x18_3 < (t123.length : Int) := of_decide_eq_true (by first | (with_reducible assumption) | assumption)); (obtain ⟨ad142, e142, hx142_0, hx142_1⟩ := at_T25 (Kd.R_reads' HO_9.out).2.2 x18_3 p142 q142); (cases e142); (replace p142 := eq_true p142); (replace q142 := eq_true q142); (have p143 : 0 ≤ (x18_3 : Int) := of_decide_eq_true (by first | (with_reducible assumption) | assumption)); (have q143 : x18_3 < (t127.length : Int) := of_decide_eq_true (by first | (with_reducible assumption) | assumption)); (obtain ⟨ad143, e143, hx143_0, hx143_1⟩ := at_T25 (Kd.R_reads' HO_11.out).2.2 x18_3 p143 q143); (cases e143); (replace p143 := eq_true p143); (replace q143 := eq_true q143); (refine start_ (n := 9) (S := fun w' => w'.cell? (ad142.add ((x18_3).toNat * 2)) = some (.string ((rd_T25 t123 x18_3).f0)) ∧ w'.cell? ⟨(ad142.add ((x18_3).toNat * 2)).block, (ad142.add ((x18_3).toNat * 2)).off + 1, none⟩ = some (.string ((rd_T25 t123 x18_3).f1)) ∧ w'.cell? (ad143.add ((x18_3).toNat * 2)) = some (.string ((rd_T25 t127 x18_3).f0)) ∧ w'.cell? ⟨(ad143.add ((x18_3).toNat * 2)).block, (ad143.add ((x18_3).toNat * 2)).off + 1, none⟩ = some (.string ((rd_T25 t127 x18_3).f1))) (ds := []) (cn 9 0) (by kernel_rfl) rfl (by kernel_rfl) ⟨hx142_0, hx142_1, hx143_0, hx143_1⟩ (fun hHeld => ?_); refine with_tabW laws_FnLog.tab19 laws_FnLog.bits19 (fun HT_ HW_ => ?_)); (generalize wr.drew = w100 at HO_9 HO_11 BK107 BK108 BK113 BK118 BK136 BK141 HB hx142_0 hx142_1 hx143_0 hx143_1 hHeld ⊢); (refine pB 0 (cn 9 1) (some 113) HT_ (h := ?_)); (refine pB 1 (cn 9 2) (some 114) HT_ (h := ?_)); (refine pB 2 (cn 9 3) (some 115) HT_ (h := ?_)); (refine pB 4 (cb 9 23) (some 117) HT_ (h := ?_)); (refine pB 5 (cb 9 55) (some 118) HT_ (h := ?_)); (refine pB 6 (cb 9 119) (some 119) HT_ (h := ?_)); (refine tB 3 (cn 9 7) (some 116) HT_ HW_ hHeld (h := ?_)); (refine tB 7 (cn 9 8) (some 120) HT_ HW_ hHeld (h := ?_)); (refine pB 8 (cn 9 9) (some 121) HT_ (h := ?_)); (refine done_ (done_of HT_.out (by kernel_rfl)) ?_); (try go_wp2); go_ret
                exact ⟨by first | rfl | (simp [errW_none, errW_some] <;> rfl) | (simp [*, errW_none, errW_some] <;> rfl), by repeat (first | (with_reducible first | exact HB.out | apply bA | apply bN | apply bD | refine below_set ?_ GE107.out | refine below_set ?_ GE108.out | refine below_set ?_ GE113.out | refine below_set ?_ GE118.out | refine below_set ?_ GE136.out | refine below_set ?_ GE141.out) | exact HB.out)⟩
               ·rw [if_neg c98] at H
                (have c98b0 : (!((((rd_T25 t123 x18_3).f0).toList) == (((rd_T25 t127 x18_3).f0).toList)) || (!((((rd_T25 t123 x18_3).f1).toList) == (((rd_T25 t127 x18_3).f1).toList)))) = false := by simpa using c98); clear c98; (have H' := Aside0.mk H); clear H; (obtain ⟨Ao102, co102, eo102⟩ := Kd.R_slice HO_11.out); subst eo102; (try go_wp2); (have n0_ := Aside0.mk (Kd.R_drew HO_9.out)); (have n1_ := Aside0.mk (Kd.R_drew HO_11.out)); (have n2_ := Aside0.mk (blk_drew BK107.out)); (have n3_ := Aside0.mk (blk_drew BK108.out)); (have n4_ := Aside0.mk (blk_drew BK113.out)); (have n5_ := Aside0.mk (blk_drew BK118.out)); (have n6_ := Aside0.mk (blk_drew BK136.out)); (have n7_ := Aside0.mk (blk_drew BK141.out)); (have n8_ := Aside0.mk (below_drew1 HB.out)); clear HO_9 HO_11 BK107 BK108 BK113 BK118 BK136 BK141 HB; (have HO_9 := n0_); (have HO_11 := n1_); (have BK107 := n2_); (have BK108 := n3_); (have BK113 := n4_); (have BK118 := n5_); (have BK136 := n6_); (have BK141 := n7_); (have HB := n8_); clear n0_ n1_ n2_ n3_ n4_ n5_ n6_ n7_ n8_; (obtain ⟨Ao104, co104, eo104⟩ := Kd.R_slice HO_9.out); ((first | subst eo104 | (injection eo104 with f1_ f2_ f3_; have f4_ := f1_.symm; have f5_ := f3_.symm; clear f1_ f2_ f3_; subst f4_; subst f5_))); (have p142 : 0 ≤ (x18_3 : Int) := of_decide_eq_true (by first | (with_reducible assumption) | assumption)); (have q142 : x18_3 < (t123.length : Int) := of_decide_eq_true (by first | (with_reducible assumption) | assumption)); (obtain ⟨ad142, e142, hx142_0, hx142_1⟩ := at_T25 (Kd.R_reads' HO_9.out).2.2 x18_3 p142 q142); (cases e142); (replace p142 := eq_true p142); (replace q142 := eq_true q142); (have p143 : 0 ≤ (x18_3 : Int) := of_decide_eq_true (by first | (with_reducible assumption) | assumption)); (have q143 : x18_3 < (t127.length : Int) := of_decide_eq_true (by first | (with_reducible assumption) | assumption)); (obtain ⟨ad143, e143, hx143_0, hx143_1⟩ := at_T25 (Kd.R_reads' HO_11.out).2.2 x18_3 p143 q143); (cases e143); (replace p143 := eq_true p143); (replace q143 := eq_true q143); (refine start_ (n := 9) (S := fun w' => w'.cell? (ad142.add ((x18_3).toNat * 2)) = some (.string ((rd_T25 t123 x18_3).f0)) ∧ w'.cell? ⟨(ad142.add ((x18_3).toNat * 2)).block, (ad142.add ((x18_3).toNat * 2)).off + 1, none⟩ = some (.string ((rd_T25 t123 x18_3).f1)) ∧ w'.cell? (ad143.add ((x18_3).toNat * 2)) = some (.string ((rd_T25 t127 x18_3).f0)) ∧ w'.cell? ⟨(ad143.add ((x18_3).toNat * 2)).block, (ad143.add ((x18_3).toNat * 2)).off + 1, none⟩ = some (.string ((rd_T25 t127 x18_3).f1))) (ds := []) (cn 9 0) (by kernel_rfl) rfl (by kernel_rfl) ⟨hx142_0, hx142_1, hx143_0, hx143_1⟩ (fun hHeld => ?_); refine with_tabW laws_FnLog.tab19 laws_FnLog.bits19 (fun HT_ HW_ => ?_)); (generalize wr.drew = w103 at HO_9 HO_11 BK107 BK108 BK113 BK118 BK136 BK141 HB hx142_0 hx142_1 hx143_0 hx143_1 hHeld ⊢); (refine pB 0 (cn 9 1) (some 113) HT_ (h := ?_)); (refine pB 1 (cn 9 2) (some 114) HT_ (h := ?_)); (refine pB 2 (cn 9 3) (some 115) HT_ (h := ?_)); (refine pB 4 (cb 9 23) (some 117) HT_ (h := ?_)); (refine pB 5 (cb 9 55) (some 118) HT_ (h := ?_)); (refine pB 6 (cb 9 119) (some 119) HT_ (h := ?_)); (refine tB 3 (cn 9 7) (some 116) HT_ HW_ hHeld (h := ?_)); (refine tB 7 (cn 9 8) (some 120) HT_ HW_ hHeld (h := ?_)); (refine pB 8 (cn 9 9) (some 121) HT_ (h := ?_)); (refine done_ (done_of HT_.out (by kernel_rfl)) ?_); (try go_wp2); go_roundg k3
                case measure => have := HJ6.out; have := HJ54.out; have := HK3.out; omega
                case rel => exact ⟨(wrap64 (x18_3 + 1)), (by first | rfl | (simp; done) | (simp [*]; done)), H', ⟨by have := HJ6.out; have := HJ54.out; have := HK3.out; omega⟩, ⟨by (with_reducible repeat (first | apply rA | apply rN | apply rD)); exact HO_9.out⟩, ⟨by (with_reducible repeat (first | apply rA | apply rN | apply rD)); exact HO_11.out⟩, ⟨by (with_reducible repeat (first | refine kN ?_ _ | refine kD ?_ | refine kA ?_ _)); exact BK107.out⟩, ⟨by (with_reducible repeat (first | refine kN ?_ _ | refine kD ?_ | refine kA ?_ _)); exact BK108.out⟩, ⟨by (with_reducible repeat (first | refine kN ?_ _ | refine kD ?_ | refine kA ?_ _)); exact BK113.out⟩, ⟨by (with_reducible repeat (first | refine kN ?_ _ | refine kD ?_ | refine kA ?_ _)); exact BK118.out⟩, ⟨by (with_reducible repeat (first | refine kN ?_ _ | refine kD ?_ | refine kA ?_ _)); exact BK136.out⟩, ⟨by (with_reducible repeat (first | refine kN ?_ _ | refine kD ?_ | refine kA ?_ _)); exact BK141.out⟩, ⟨by repeat (first | (with_reducible first | exact HB.out | apply bA | apply bN | apply bD | refine below_set ?_ GE107.out | refine below_set ?_ GE108.out | refine below_set ?_ GE113.out | refine below_set ?_ GE118.out | refine below_set ?_ GE136.out | refine below_set ?_ GE141.out) | exact HB.out)⟩⟩
              ·rw [if_neg c97] at H
               exact absurd H (by simp)
             ·rw [if_neg c96] at H
              exact absurd H (by simp)
            ·rw [if_neg c95] at H
             (have c95b0 : decide (x18_3 < (t127.length : Int)) = false := decide_eq_false c95); clear c95; (by_cases c105 : 0 ≤ (t127.length : Int))
             ·rw [if_pos c105] at H
              (have c105b0 : decide (0 ≤ (t127.length : Int)) = true := decide_eq_true c105); (have c105b1 : decide (0 ≤ t127.length) = true := decide_eq_true (by omega)); clear c105; (by_cases c106 : (t127.length : Int) < (t123.length : Int))
              ·rw [if_pos c106] at H
               (have c106b0 : decide ((t127.length : Int) < (t123.length : Int)) = true := decide_eq_true c106); (have c106b1 : decide (t127.length < t123.length) = true := decide_eq_true (Int.ofNat_lt.mp c106)); clear c106; (by_cases c107 : ((((rd_T25 t123 (t127.length : Int)).f0).toList) == t105.toList && ((((rd_T25 t123 (t127.length : Int)).f1).toList) == t106.toList)) = true)
               ·rw [if_pos c107] at H
                (have c107b0 : ((((rd_T25 t123 (t127.length : Int)).f0).toList) == t105.toList && ((((rd_T25 t123 (t127.length : Int)).f1).toList) == t106.toList)) = true := c107); ((try (have c107b1 : decide ((((rd_T25 t123 (t127.length : Int)).f0).toList) = t105.toList && ((((rd_T25 t123 (t127.length : Int)).f1).toList) == t106.toList)) = true := by simpa using c107))); ((try (have c107b2 : ((((rd_T25 t123 (t127.length : Int)).f0).toList) == t105.toList && ((((rd_T25 t123 (t127.length : Int)).f1).toList) == t106.toList)) = true := by simpa using c107))); clear c107; (by_cases c108 : t135 = true)
                ·subst c108
                 (rw [if_pos rfl] at H); (by_cases c109 : t109.size + t110.size ≤ 9223372036854775807)
                 ·rw [if_pos c109] at H
                  (have c109b0 := eq_true c109); (have c109b1 : decide (t109.size + t110.size ≤ 9223372036854775807) = true := decide_eq_true c109); (try have c109b2 : (9223372036854775807 < t109.size + t110.size) = False := eq_false (Nat.not_lt.2 c109)); (by_cases c110 : t134 = ((t109 ++ t110).size : Int))
                  ·rw [if_pos c110] at H
                   (have c110b0 : (t134 == ((t109 ++ t110).size : Int)) = true := beq_iff_eq.mpr c110); (have c110b1 : (t134 != ((t109 ++ t110).size : Int)) = false := bne_eq_false_iff_eq.mpr c110); (try have c110n0 := c110b0); (try (push_cast [Int.toNat_natCast, ByteArray.size_append] at c110n0)); (try have c110n1 := c110b1); (try (push_cast [Int.toNat_natCast, ByteArray.size_append] at c110n1)); clear c110; (by_cases c111 : t140 = true)
                   ·subst c111
                    (rw [if_pos rfl] at H); (by_cases c112 : (t137.toList == t131.toList && (t138.toList == t132.toList && (t139 == t133))) = true)
                    ·rw [if_pos c112] at H
                     (have c112b0 : (t137.toList == t131.toList && (t138.toList == t132.toList && (t139 == t133))) = true := c112); ((try (have c112b1 : decide (t137.toList = t131.toList && (t138.toList == t132.toList && (t139 == t133))) = true := by simpa using c112))); ((try (have c112b2 : (t137.toList == t131.toList && (t138.toList == t132.toList && (t139 == t133))) = true := by simpa using c112))); clear c112; (replace H := Option.bind_eq_some_iff.mp H); (obtain ⟨t145, A1130, H⟩ := H); (have A113 := Aside0.mk A1130); clear A1130; (obtain rfl := Option.some.inj H); (obtain ⟨Ao114, co114, eo114⟩ := Kd.R_slice HO_11.out); subst eo114; (try go_wp2); (have n0_ := Aside0.mk (Kd.R_drew HO_9.out)); (have n1_ := Aside0.mk (Kd.R_drew HO_11.out)); (have n2_ := Aside0.mk (blk_drew BK107.out)); (have n3_ := Aside0.mk (blk_drew BK108.out)); (have n4_ := Aside0.mk (blk_drew BK113.out)); (have n5_ := Aside0.mk (blk_drew BK118.out)); (have n6_ := Aside0.mk (blk_drew BK136.out)); (have n7_ := Aside0.mk (blk_drew BK141.out)); (have n8_ := Aside0.mk (below_drew1 HB.out)); clear HO_9 HO_11 BK107 BK108 BK113 BK118 BK136 BK141 HB; (have HO_9 := n0_); (have HO_11 := n1_); (have BK107 := n2_); (have BK108 := n3_); (have BK113 := n4_); (have BK118 := n5_); (have BK136 := n6_); (have BK141 := n7_); (have HB := n8_); clear n0_ n1_ n2_ n3_ n4_ n5_ n6_ n7_ n8_; (obtain ⟨Ao116, co116, eo116⟩ := Kd.R_slice HO_9.out); ((first | subst eo116 | (injection eo116 with f1_ f2_ f3_; have f4_ := f1_.symm; have f5_ := f3_.symm; clear f1_ f2_ f3_; subst f4_; subst f5_))); (have p144 : 0 ≤ ((t127.length : Int) : Int) := of_decide_eq_true (by first | (with_reducible assumption) | assumption)); (have q144 : (t127.length : Int) < (t123.length : Int) := of_decide_eq_true (by first | (with_reducible assumption) | assumption)); (obtain ⟨ad144, e144, hx144_0, hx144_1⟩ := at_T25 (Kd.R_reads' HO_9.out).2.2 (t127.length : Int) p144 q144); (cases e144); ((try simp only [Go.IntWalk.toNatUp, Int.toNat_natCast] at hx144_0)); ((try simp only [Go.IntWalk.toNatUp, Int.toNat_natCast] at hx144_1)); (replace p144 := eq_true p144); (replace q144 := eq_true q144); (refine start_ (n := 33) (S := fun w' => w'.cell? ⟨gb108, 0, none⟩ = some (.string t105) ∧ w'.cell? ⟨gb108, 1, none⟩ = some (.string t106) ∧ w'.cell? ⟨gb113, 0, none⟩ = some (.string t109) ∧ w'.cell? ⟨gb113, 1, none⟩ = some (.string t110) ∧ w'.cell? ⟨gb113, 2, none⟩ = some (.int .i64 t111) ∧ w'.cell? ⟨gb141, 0, none⟩ = some (.string t137) ∧ w'.cell? ⟨gb141, 1, none⟩ = some (.string t138) ∧ w'.cell? ⟨gb141, 2, none⟩ = some (.int .i64 t139) ∧ w'.cell? ⟨gb136, 0, none⟩ = some (.string t131) ∧ w'.cell? ⟨gb136, 1, none⟩ = some (.string t132) ∧ w'.cell? ⟨gb136, 2, none⟩ = some (.int .i64 t133) ∧ w'.cell? (ad144.add (t127.length * 2)) = some (.string ((rd_T25 t123 (t127.length : Int)).f0)) ∧ w'.cell? ⟨(ad144.add (t127.length * 2)).block, (ad144.add (t127.length * 2)).off + 1, none⟩ = some (.string ((rd_T25 t123 (t127.length : Int)).f1))) (ds := []) (cn 33 0) (by kernel_rfl) rfl (by kernel_rfl) ⟨(blk_cell BK108.out 0).trans rfl, (blk_cell BK108.out 1).trans rfl, (blk_cell BK113.out 0).trans rfl, (blk_cell BK113.out 1).trans rfl, (blk_cell BK113.out 2).trans rfl, (blk_cell BK141.out 0).trans rfl, (blk_cell BK141.out 1).trans rfl, (blk_cell BK141.out 2).trans rfl, (blk_cell BK136.out 0).trans rfl, (blk_cell BK136.out 1).trans rfl, (blk_cell BK136.out 2).trans rfl, hx144_0, hx144_1⟩ (fun hHeld => ?_); refine with_tabW laws_FnLog.tab21 laws_FnLog.bits21 (fun HT_ HW_ => ?_)); (generalize wr.drew = w115 at HO_9 HO_11 BK107 BK108 BK113 BK118 BK136 BK141 HB hx144_0 hx144_1 hHeld ⊢); (refine pB 0 (cn 33 1) (some 122) HT_ (h := ?_)); (refine pB 1 (cn 33 2) (some 123) HT_ (h := ?_)); (refine pB 2 (cn 33 3) (some 124) HT_ (h := ?_)); (refine pB 3 (cn 33 4) (some 125) HT_ (h := ?_)); (refine tB 4 (cn 33 5) (some 126) HT_ HW_ hHeld (h := ?_)); (refine tB 5 (cn 33 6) (some 127) HT_ HW_ hHeld (h := ?_)); (refine pA 6 (cn 33 7) (some 128) HT_ (v := ?_) (a' := ?_) rfl rfl (by kernel_rfl) (fun _ _ _ h => h) (Or.inl ⟨by rfl, ?_⟩) ?_ ?_); rotate_left; (· intro w'; go_simp; with_reducible rfl); rotate_left
                     (· (simp only [Act.put, aS1, aS2, aS3, i64_w, i32_w]); rfl); (refine pB 7 (cn 33 8) (some 129) HT_ (h := ?_)); (refine pB 8 (cn 33 9) (some 130) HT_ (h := ?_)); (refine pB 9 (cn 33 10) (some 131) HT_ (h := ?_)); (refine pB 10 (cn 33 11) (some 132) HT_ (h := ?_)); (refine pB 11 (cn 33 12) (some 133) HT_ (h := ?_)); (refine pB 12 (cn 33 13) (some 134) HT_ (h := ?_)); (refine pB 14 (cb 33 24575) (some 136) HT_ (h := ?_)); (refine tB 13 (cn 33 15) (some 135) HT_ HW_ hHeld (h := ?_)); (refine tB 15 (cn 33 16) (some 137) HT_ HW_ hHeld (h := ?_)); (refine pB 16 (cn 33 17) (some 138) HT_ (h := ?_)); (refine pB 17 (cn 33 18) (some 139) HT_ (h := ?_)); (refine pB 18 (cn 33 19) (some 140) HT_ (h := ?_)); (refine pB 19 (cn 33 20) (some 141) HT_ (h := ?_)); (refine pB 20 (cn 33 21) (some 142) HT_ (h := ?_)); (refine pB 21 (cn 33 22) (some 143) HT_ (h := ?_)); (refine pB 22 (cn 33 23) (some 144) HT_ (h := ?_)); (refine pB 23 (cn 33 24) (some 145) HT_ (h := ?_)); (refine tA 24 (cn 33 25) (some 146) HT_ HW_ (v := ?_) (a' := ?_) rfl rfl (by kernel_rfl) (fun _ _ _ h => h) (Or.inl ⟨by rfl, ?_⟩) hHeld ?_ ?_); rotate_left; (· (rintro w' ⟨s0, s1, s2, s3, s4, s5, s6, s7, s8, s9, s10, s11, s12⟩); go_simp; with_reducible rfl); rotate_left
                     (· (simp only [Act.put, aS1, aS2, aS3, i64_w, i32_w]); rfl); (refine tB 25 (cn 33 26) (some 147) HT_ HW_ hHeld (h := ?_)); (refine pB 26 (cn 33 27) (some 148) HT_ (h := ?_)); (refine pB 27 (cn 33 28) (some 149) HT_ (h := ?_)); (refine pB 28 (cn 33 29) (some 150) HT_ (h := ?_)); (refine tB 29 (cn 33 30) (some 151) HT_ HW_ hHeld (h := ?_)); (refine one_ (i := 30) (N := some 152) (cn 33 31) rfl rfl (one_of HT_.out (by kernel_rfl)) (by decide) (fun K hK => ?_)); (refine goes_ Tryd.func14 (by kernel_rfl) rfl #[.agg #[.string t109, .string t110, .int .i64 t111]] (by rfl) rfl rfl (by (try simp only [aM1, aM2, aM3]); first | done | rfl | (simp only [List.length_drop, List.length_take]; rfl)) ?_); (with_reducible refine (impl_IsValidLog.calls k3 t109 t110 t111 t145 _ ?side1 A113.out).mono ?_); ((case side1 => first | exact GT.below HG.out (by repeat (first | (with_reducible first | exact HB.out | apply bA | apply bN | apply bD | refine below_set ?_ GE107.out | refine below_set ?_ GE108.out | refine below_set ?_ GE113.out | refine below_set ?_ GE118.out | refine below_set ?_ GE136.out | refine below_set ?_ GE141.out) | exact HB.out)) | (repeat (first | exact HG.out | (with_reducible first | apply GT.drewN | apply GT.drew | apply GT.alloc))))); (rintro e w117 ⟨rfl, hb⟩); (have HS11_ := (hb.cell (bltc _ _ (hHeld.2.2.2.2.2.2.2.2.2.2.2.1))).trans (hHeld.2.2.2.2.2.2.2.2.2.2.2.1)); (have HS12_ := (hb.cell (bltc _ _ (hHeld.2.2.2.2.2.2.2.2.2.2.2.2))).trans (hHeld.2.2.2.2.2.2.2.2.2.2.2.2)); (refine ⟨_, rfl, ?_⟩); (have n0_ := Aside0.mk (Kd.R_below (by (with_reducible repeat (first | apply rA | apply rN | apply rD)); exact HO_9.out) hb)); (have n1_ := Aside0.mk (Kd.R_below (by (with_reducible repeat (first | apply rA | apply rN | apply rD)); exact HO_11.out) hb)); (have n2_ := Aside0.mk (blk_below (by (with_reducible repeat (first | refine kN ?_ _ | refine kD ?_ | refine kA ?_ _)); exact BK107.out) hb)); (have n3_ := Aside0.mk (blk_below (by (with_reducible repeat (first | refine kN ?_ _ | refine kD ?_ | refine kA ?_ _)); exact BK108.out) hb)); (have n4_ := Aside0.mk (blk_below (by (with_reducible repeat (first | refine kN ?_ _ | refine kD ?_ | refine kA ?_ _)); exact BK113.out) hb)); (have n5_ := Aside0.mk (blk_below (by (with_reducible repeat (first | refine kN ?_ _ | refine kD ?_ | refine kA ?_ _)); exact BK118.out) hb)); (have n6_ := Aside0.mk (blk_below (by (with_reducible repeat (first | refine kN ?_ _ | refine kD ?_ | refine kA ?_ _)); exact BK136.out) hb)); (have n7_ := Aside0.mk (blk_below (by (with_reducible repeat (first | refine kN ?_ _ | refine kD ?_ | refine kA ?_ _)); exact BK141.out) hb)); (have n8_ := Aside0.mk (below_step (by repeat (first | (with_reducible first | exact HB.out | apply bA | apply bN | apply bD | refine below_set ?_ GE107.out | refine below_set ?_ GE108.out | refine below_set ?_ GE113.out | refine below_set ?_ GE118.out | refine below_set ?_ GE136.out | refine below_set ?_ GE141.out) | exact HB.out)) hb)); clear HO_9 HO_11 BK107 BK108 BK113 BK118 BK136 BK141 HB; (have HO_9 := n0_); (have HO_11 := n1_); (have BK107 := n2_); (have BK108 := n3_); (have BK113 := n4_); (have BK118 := n5_); (have BK136 := n6_); (have BK141 := n7_); (have HB := n8_); clear n0_ n1_ n2_ n3_ n4_ n5_ n6_ n7_ n8_; ((try clear hb)); ((try clear hb2)); ((try clear hk)); ((try clear hi)); (refine hK.out _ _ ⟨(blk_cell BK108.out 0).trans rfl, (blk_cell BK108.out 1).trans rfl, (blk_cell BK113.out 0).trans rfl, (blk_cell BK113.out 1).trans rfl, (blk_cell BK113.out 2).trans rfl, (blk_cell BK141.out 0).trans rfl, (blk_cell BK141.out 1).trans rfl, (blk_cell BK141.out 2).trans rfl, (blk_cell BK136.out 0).trans rfl, (blk_cell BK136.out 1).trans rfl, (blk_cell BK136.out 2).trans rfl, HS11_, HS12_⟩ (fun hHeld => ?_)); clear hK K; (refine norm_ (a' := ?_) ?_ ?_); rotate_left; (· (show Act.put _ (some 152) _ = _); (simp only [Act.put, aS1, aS2, aS3, i64_w, i32_w]); rfl); (refine pA 31 (cn 33 32) (some 153) HT_ (v := ?_) (a' := ?_) rfl rfl (by kernel_rfl) (fun _ _ _ h => h) (Or.inl ⟨by rfl, ?_⟩) ?_ ?_); rotate_left
                     (· intro w'; go_simp; with_reducible rfl); rotate_left; (· (simp only [Act.put, aS1, aS2, aS3, i64_w, i32_w]); rfl); (refine pB 32 (cn 33 33) (some 2) HT_ (h := ?_)); (refine done_ (done_of HT_.out (by kernel_rfl)) ?_); (try go_wp2); go_ret; (exact ⟨by first | rfl | (simp [errW_none, errW_some] <;> rfl) | (simp [*, errW_none, errW_some] <;> rfl), by repeat (first | (with_reducible first | exact HB.out | apply bA | apply bN | apply bD | refine below_set ?_ GE107.out | refine below_set ?_ GE108.out | refine below_set ?_ GE113.out | refine below_set ?_ GE118.out | refine below_set ?_ GE136.out | refine below_set ?_ GE141.out) | exact HB.out)⟩)
                    ·rw [if_neg c112] at H
                     (have c112b0 : (t137.toList == t131.toList && (t138.toList == t132.toList && (t139 == t133))) = false := by simpa using c112); ((try (have c112b1 : decide (t137.toList = t131.toList && (t138.toList == t132.toList && (t139 == t133))) = false := by simpa using c112))); ((try (have c112b2 : (t137.toList == t131.toList && (t138.toList == t132.toList && (t139 == t133))) = false := by simpa using c112))); ((try (have c112b3 : ¬ (t137.toList = t131.toList && (t138.toList == t132.toList && (t139 == t133))) := by simpa using c112))); clear c112; (obtain rfl := Option.some.inj H); (exact absurd ht_.out (by decide))
                   ·replace c111 := Bool.eq_false_iff.mpr c111
                    subst c111; (rw [if_neg (show ¬ (false = true) by decide)] at H); (obtain rfl := Option.some.inj H); (exact absurd ht_.out (by decide))
                  ·rw [if_neg c110] at H
                   (have c110b0 : (t134 == ((t109 ++ t110).size : Int)) = false := beq_eq_false_iff_ne.mpr c110); (have c110b1 : (t134 != ((t109 ++ t110).size : Int)) = true := bne_iff_ne.mpr c110); (try have c110n0 := c110b0); (try (push_cast [Int.toNat_natCast, ByteArray.size_append] at c110n0)); (try have c110n1 := c110b1); (try (push_cast [Int.toNat_natCast, ByteArray.size_append] at c110n1)); (obtain rfl := Option.some.inj H); (exact absurd ht_.out (by decide))
                 ·rw [if_neg c109] at H
                  exact absurd H (by simp)
                ·replace c108 := Bool.eq_false_iff.mpr c108
                 subst c108; (rw [if_neg (show ¬ (false = true) by decide)] at H); (obtain rfl := Option.some.inj H); (exact absurd ht_.out (by decide))
               ·rw [if_neg c107] at H
                (have c107b0 : ((((rd_T25 t123 (t127.length : Int)).f0).toList) == t105.toList && ((((rd_T25 t123 (t127.length : Int)).f1).toList) == t106.toList)) = false := by simpa using c107); ((try (have c107b1 : decide ((((rd_T25 t123 (t127.length : Int)).f0).toList) = t105.toList && ((((rd_T25 t123 (t127.length : Int)).f1).toList) == t106.toList)) = false := by simpa using c107))); ((try (have c107b2 : ((((rd_T25 t123 (t127.length : Int)).f0).toList) == t105.toList && ((((rd_T25 t123 (t127.length : Int)).f1).toList) == t106.toList)) = false := by simpa using c107))); ((try (have c107b3 : ¬ ((((rd_T25 t123 (t127.length : Int)).f0).toList) = t105.toList && ((((rd_T25 t123 (t127.length : Int)).f1).toList) == t106.toList)) := by simpa using c107))); clear c107; (obtain rfl := Option.some.inj H); (obtain ⟨Ao130, co130, eo130⟩ := Kd.R_slice HO_11.out); subst eo130; (try go_wp2); (have n0_ := Aside0.mk (Kd.R_drew HO_9.out)); (have n1_ := Aside0.mk (Kd.R_drew HO_11.out)); (have n2_ := Aside0.mk (blk_drew BK107.out)); (have n3_ := Aside0.mk (blk_drew BK108.out)); (have n4_ := Aside0.mk (blk_drew BK113.out)); (have n5_ := Aside0.mk (blk_drew BK118.out)); (have n6_ := Aside0.mk (blk_drew BK136.out)); (have n7_ := Aside0.mk (blk_drew BK141.out)); (have n8_ := Aside0.mk (below_drew1 HB.out)); clear HO_9 HO_11 BK107 BK108 BK113 BK118 BK136 BK141 HB; (have HO_9 := n0_); (have HO_11 := n1_); (have BK107 := n2_); (have BK108 := n3_); (have BK113 := n4_); (have BK118 := n5_); (have BK136 := n6_); (have BK141 := n7_); (have HB := n8_); clear n0_ n1_ n2_ n3_ n4_ n5_ n6_ n7_ n8_; (obtain ⟨Ao132, co132, eo132⟩ := Kd.R_slice HO_9.out); ((first | subst eo132 | (injection eo132 with f1_ f2_ f3_; have f4_ := f1_.symm; have f5_ := f3_.symm; clear f1_ f2_ f3_; subst f4_; subst f5_))); (have p144 : 0 ≤ ((t127.length : Int) : Int) := of_decide_eq_true (by first | (with_reducible assumption) | assumption)); (have q144 : (t127.length : Int) < (t123.length : Int) := of_decide_eq_true (by first | (with_reducible assumption) | assumption)); (obtain ⟨ad144, e144, hx144_0, hx144_1⟩ := at_T25 (Kd.R_reads' HO_9.out).2.2 (t127.length : Int) p144 q144); (cases e144); ((try simp only [Go.IntWalk.toNatUp, Int.toNat_natCast] at hx144_0)); ((try simp only [Go.IntWalk.toNatUp, Int.toNat_natCast] at hx144_1)); (replace p144 := eq_true p144); (replace q144 := eq_true q144); (refine start_ (n := 33) (S := fun w' => w'.cell? ⟨gb108, 0, none⟩ = some (.string t105) ∧ w'.cell? ⟨gb108, 1, none⟩ = some (.string t106) ∧ w'.cell? (ad144.add (t127.length * 2)) = some (.string ((rd_T25 t123 (t127.length : Int)).f0)) ∧ w'.cell? ⟨(ad144.add (t127.length * 2)).block, (ad144.add (t127.length * 2)).off + 1, none⟩ = some (.string ((rd_T25 t123 (t127.length : Int)).f1))) (ds := []) (cn 33 0) (by kernel_rfl) rfl (by kernel_rfl) ⟨(blk_cell BK108.out 0).trans rfl, (blk_cell BK108.out 1).trans rfl, hx144_0, hx144_1⟩ (fun hHeld => ?_); refine with_tabW laws_FnLog.tab21 laws_FnLog.bits21 (fun HT_ HW_ => ?_)); (generalize wr.drew = w131 at HO_9 HO_11 BK107 BK108 BK113 BK118 BK136 BK141 HB hx144_0 hx144_1 hHeld ⊢); (refine pB 0 (cn 33 1) (some 122) HT_ (h := ?_)); (refine pB 1 (cn 33 2) (some 123) HT_ (h := ?_)); (refine pB 2 (cn 33 3) (some 124) HT_ (h := ?_)); (refine pB 3 (cn 33 4) (some 125) HT_ (h := ?_)); (refine tB 4 (cn 33 5) (some 126) HT_ HW_ hHeld (h := ?_)); (refine tB 5 (cn 33 6) (some 127) HT_ HW_ hHeld (h := ?_)); (refine pB 6 (cn 33 7) (some 128) HT_ (h := ?_)); (refine pB 7 (cn 33 8) (some 129) HT_ (h := ?_)); (refine pU 8 (cn 33 9) (some 130) HT_ (h := ?_))
                (refine pB 9 (cn 33 10) (some 131) HT_ (h := ?_)); (refine pB 10 (cn 33 11) (some 132) HT_ (h := ?_)); (refine pU 11 (cn 33 12) (some 133) HT_ (h := ?_)); (refine pU 12 (cn 33 13) (some 134) HT_ (h := ?_)); (refine pU 13 (cn 33 14) (some 135) HT_ (h := ?_)); (refine pU 14 (cn 33 15) (some 136) HT_ (h := ?_)); (refine pU 15 (cn 33 16) (some 137) HT_ (h := ?_)); (refine pU 16 (cn 33 17) (some 138) HT_ (h := ?_)); (refine pU 17 (cn 33 18) (some 139) HT_ (h := ?_)); (refine pU 18 (cn 33 19) (some 140) HT_ (h := ?_)); (refine pB 19 (cn 33 20) (some 141) HT_ (h := ?_)); (refine pB 20 (cn 33 21) (some 142) HT_ (h := ?_)); (refine pU 21 (cn 33 22) (some 143) HT_ (h := ?_)); (refine pB 22 (cn 33 23) (some 144) HT_ (h := ?_)); (refine pB 23 (cn 33 24) (some 145) HT_ (h := ?_)); (refine pU 24 (cn 33 25) (some 146) HT_ (h := ?_)); (refine pU 25 (cn 33 26) (some 147) HT_ (h := ?_)); (refine pU 26 (cn 33 27) (some 148) HT_ (h := ?_)); (refine pB 27 (cn 33 28) (some 149) HT_ (h := ?_)); (refine pB 28 (cn 33 29) (some 150) HT_ (h := ?_)); (refine pU 29 (cn 33 30) (some 151) HT_ (h := ?_))
                (refine pU 30 (cn 33 31) (some 152) HT_ (h := ?_)); (refine pB 31 (cn 33 32) (some 153) HT_ (h := ?_)); (refine pB 32 (cn 33 33) (some 2) HT_ (h := ?_)); (refine done_ (done_of HT_.out (by kernel_rfl)) ?_); (try go_wp2); go_ret; (exact ⟨by first | rfl | (simp [errW_none, errW_some] <;> rfl) | (simp [*, errW_none, errW_some] <;> rfl), by repeat (first | (with_reducible first | exact HB.out | apply bA | apply bN | apply bD | refine below_set ?_ GE107.out | refine below_set ?_ GE108.out | refine below_set ?_ GE113.out | refine below_set ?_ GE118.out | refine below_set ?_ GE136.out | refine below_set ?_ GE141.out) | exact HB.out)⟩)
              ·rw [if_neg c106] at H
               exact absurd H (by simp)
             ·rw [if_neg c105] at H
              exact absurd H (by simp)
      ·rw [if_neg c52] at H
       exact absurd H (by simp)
     ·rw [if_neg c49] at H
      (have c49b0 : (t112 == 0) = false := beq_eq_false_iff_ne.mpr c49); (have c49b1 : (t112 != 0) = true := bne_iff_ne.mpr c49); (obtain rfl := Option.some.inj H); (have hnb133 := NB113_107.out); (have hnc133 := NB107_113.out); (have hnb134 := NB113_108.out); (have hnc134 := NB108_113.out); (have hnb135 := NB113_118.out); (have hnc135 := NB118_113.out); (have hcz136_0 := cz BK113.out 0); (have hcz136_1 := cz BK113.out 1); (have hcz136_2 := cz BK113.out 2); (have hfz136_0 := blk_frozen BK113.out 0); (have hfz136_1 := blk_frozen BK113.out 1); (have hfz136_2 := blk_frozen BK113.out 2); (have hnb137 := NB107_108.out); (have hnc137 := NB108_107.out); (have hnb138 := NB107_118.out); (have hnc138 := NB118_107.out); (have hcz139_0 := cz BK107.out 0); (have hcz139_1 := cz BK107.out 1); (have hcz139_2 := cz BK107.out 2); (have hfz139_0 := blk_frozen BK107.out 0); (have hfz139_1 := blk_frozen BK107.out 1); (have hfz139_2 := blk_frozen BK107.out 2); (go_wp2); go_ret; (exact ⟨by first | rfl | (simp [errW_none, errW_some] <;> rfl) | (simp [*, errW_none, errW_some] <;> rfl), by repeat (first | (with_reducible first | exact HB.out | apply bA | apply bN | apply bD | refine below_set ?_ GE107.out | refine below_set ?_ GE108.out | refine below_set ?_ GE113.out | refine below_set ?_ GE118.out) | exact HB.out)⟩)

end Go.Proofs.YtkdibcifamlciaaDoor.X
set_option linter.unusedVariables false
set_option linter.unusedSimpArgs false
namespace Go.Proofs.YtkdibcifamlciaaDoor.Open
open Go.RowKit Go.Proofs.YtkdibcifamlciaaDoorW.PrintWords

/-- What reads at type t is of kind d, and good. -/
def Opens (P : Program) (t : TypeId) {α : Type} (d : Kd α) (good : α → Prop) : Prop :=
  ∀ (H : Type) (enc : TypeId × Value → H) (w : World) (fuel : Nat) (cs : List Value) (x : DataW H × List MemPlace),
    DataW.trod enc P w 0 (fun _ => true) true fuel t cs = some x → ∃ a, d.K w a cs ∧ good a

theorem opens_int {P : Program} {t : TypeId} {k : IntKind} (ht : P.underlying t = some (.int k)) : Opens P t (Kd.int k) (fun n => (Lit.int k n).wf = true) := by
  intro H enc w fuel cs x hx
  obtain ⟨n, rfl, _, hw⟩ := DataW.trod_int ht hx
  exact ⟨n, rfl, hw⟩
theorem cells_each {w : World} {a : Addr} {n : Nat} {cs : List Value} (h : w.cells? 0 a n = some cs) : cs.length = n ∧ ∀ i u, cs[i]? = some u → w.cell? (a.add i) = some u := by
  have h1 := World.cells?_some h
  refine ⟨h1.2.1, fun i u hu => ?_⟩
  have hi : i < n := by
    have := (List.getElem?_eq_some_iff.1 hu).1
    omega
  rw [h1.2.2 i hi, hu]

theorem opens_slice {P : Program} {t e : TypeId} {α : Type} {d : Kd α} {g : α → Prop} (ht : P.underlying t = some (.slice e)) (hsz : P.cellsOf e = d.sz) (h : Opens P e d g) :
    Opens P t (Kd.slice e d) (fun xs => xs.length ≤ 9223372036854775807 ∧ ∀ x ∈ xs, g x) := by
  intro H enc w fuel cs x hx
  rcases DataW.trod_slice ht hx with ⟨rfl, _⟩ | ⟨a, len, cap, elems, rest, n, rfl, rfl, _, _, hlc, hcap, hel, hget, _, _⟩
  · exact ⟨[], ⟨none, 0, rfl, Nat.le_refl _, Kd.C_nil d w⟩, by simp, by simp⟩
  · simp only [maxLen] at hcap
    have each : ∀ i, i < len → ∃ b : α, ∃ c : List Value, c.length = d.sz ∧ d.K w b c ∧ g b ∧ ∀ j u, c[j]? = some u → w.cell? (a.add (i * d.sz + j)) = some u := by
      intro i hi
      have h1 := hget i hi
      obtain ⟨y, hy⟩ : ∃ y, elems[i]? = some y := ⟨_, List.getElem?_eq_getElem (by omega)⟩
      rw [hy] at h1
      obtain ⟨c, hc, ht'⟩ := Option.bind_eq_some_iff.1 h1
      obtain ⟨b, hK, hg⟩ := h H enc w n c y ht'
      obtain ⟨hl, hcell⟩ := cells_each hc
      refine ⟨b, c, hl.trans hsz, hK, hg, fun j u hu => ?_⟩
      have := hcell j u hu
      rw [Deep.add_add, hsz] at this
      exact this
    have mk : ∀ m, m ≤ len → ∃ xs : List α, xs.length = m ∧ (∀ x ∈ xs, g x) ∧ ∀ j p, xs[j]? = some p → ∃ c, c.length = d.sz ∧ d.K w p c ∧ ∀ i u, c[i]? = some u → w.cell? (a.add (j * d.sz + i)) = some u := by
      intro m
      induction m with
      | zero => exact fun _ => ⟨[], rfl, by simp, by simp⟩
      | succ m ih =>
        intro hm
        obtain ⟨xs, hl, hg, hx⟩ := ih (by omega)
        obtain ⟨b, c, hc1, hc2, hc3, hc4⟩ := each m (by omega)
        refine ⟨xs ++ [b], by simp [hl], ?_, ?_⟩
        · intro x hx'
          rcases List.mem_append.1 hx' with hx' | hx'
          · exact hg x hx'
          · rw [List.mem_singleton.1 hx']; exact hc3
        · intro j p hj
          by_cases hjm : j < m
          · rw [List.getElem?_append_left (by omega)] at hj
            exact hx j p hj
          · have hlt := (List.getElem?_eq_some_iff.1 hj).1
            simp only [List.length_append, List.length_cons, List.length_nil] at hlt
            obtain rfl : j = m := by omega
            rw [List.getElem?_append_right (by omega), hl, Nat.sub_self] at hj
            simp only [List.getElem?_cons_zero, Option.some.injEq] at hj
            subst hj
            exact ⟨c, hc1, hc2, hc4⟩
    obtain ⟨ys, hl, hg, hy⟩ := mk len (Nat.le_refl _)
    subst hl
    exact ⟨ys, ⟨some a, cap, rfl, hlc, rfl, by omega, fun _ => ⟨a, rfl, hy⟩⟩, by omega, hg⟩

theorem arg_slice {P : Program} {W : World} {H : Type} {enc : TypeId × Value → H} {t e : TypeId} {α : Type} {d : Kd α} {g : List α → Prop} {v : Value} {x : DataW H} {p : List MemPlace} (h : Opens P t (Kd.slice e d) g)
    (hs : ∃ a len cap, v = .slice a len cap) (hv : DataW.Trod enc P W 0 (fun _ => true) true t v x p) : ∃ A c xs, v = .slice A xs.length c ∧ xs.length ≤ c ∧ Kd.C d W A xs.length xs ∧ g xs := by
  obtain ⟨a, len, cap, rfl⟩ := hs
  obtain ⟨fuel, hf⟩ := hv
  obtain ⟨xs, ⟨A, c, he, hl, hc⟩, hg⟩ := h H enc W fuel _ _ hf
  simp [Value.cells] at he
  obtain ⟨rfl, rfl, rfl⟩ := he
  exact ⟨_, _, xs, rfl, hl, hc, hg⟩
end Go.Proofs.YtkdibcifamlciaaDoor.Open
set_option linter.unusedVariables false
namespace Go.Proofs.YtkdibcifamlciaaDoor.X
open Go.RowKit Go.Proofs.YtkdibcifamlciaaDoorW.PrintWords Go.Proofs.YtkdibcifamlciaaDoor.Open
theorem op5 : Opens Tryd.prog 5 (Kd.int .u8) (fun n => (Lit.int .u8 n).wf = true) := opens_int Tryd.underlying5
theorem op22 : Opens Tryd.prog 22 (Kd.slice 5 (Kd.int .u8)) (fun xs => (xs.length ≤ 9223372036854775807 ∧ ∀ y ∈ xs, (Lit.int .u8 y).wf = true)) := opens_slice Tryd.underlying22 (by kernel_rfl) op5
end Go.Proofs.YtkdibcifamlciaaDoor.X
namespace Go.Proofs.YtkdibcifamlciaaDoor.X
open Go.RowKit Go.Proofs.YtkdibcifamlciaaDoorW.PrintWords
def PureFnLog : Prop := ∀ (a0 : List (Int)), (a0.length ≤ 9223372036854775807 ∧ ∀ y ∈ a0, (Lit.int .u8 y).wf = true) → ∃ k, laws_FnLog.f k a0 = some true
end Go.Proofs.YtkdibcifamlciaaDoor.X
set_option linter.unusedVariables false
set_option linter.unusedSimpArgs false
namespace Go.Proofs.YtkdibcifamlciaaDoor.X
open Go.RowKit Go.Proofs.YtkdibcifamlciaaDoorW.PrintWords Go.Proofs.YtkdibcifamlciaaDoor.E
/-- The cursor's bytes and place. -/
def Cu (l : List Int) (a : Int) : Prop := l.length ≤ 9223372036854775807 ∧ (∀ y ∈ l, 0 ≤ y ∧ y ≤ 255) ∧ 0 ≤ a ∧ a ≤ 1000000
theorem u64w (x : Int) : 0 ≤ IntKind.u64.wrap x ∧ IntKind.u64.wrap x < 18446744073709551616 := by
  have h : IntKind.u64.wrap x = x % 18446744073709551616 := by simp [IntKind.wrap, IntKind.bits, IntKind.signed]
  rw [h]
  omega
theorem and255 (x : Int) : 0 ≤ wrap64 (Go.bits .and .u64 (IntKind.u64.wrap x / 1099511627776) 255) ∧ wrap64 (Go.bits .and .u64 (IntKind.u64.wrap x / 1099511627776) 255) ≤ 255 := by
  have h := u64w x
  have h2 : 0 ≤ IntKind.u64.wrap x / 1099511627776 ∧ IntKind.u64.wrap x / 1099511627776 < 18446744073709551616 := by omega
  rw [u64_and _ _ h2.1 h2.2 (by omega) (by omega)]
  have h3 : (IntKind.u64.wrap x / 1099511627776).toNat &&& (255 : Int).toNat ≤ 255 := Nat.and_le_right
  generalize (IntKind.u64.wrap x / 1099511627776).toNat &&& (255 : Int).toNat = q at h3
  rw [wrap_id (by omega) (by omega)]
  omega
theorem next_tot {l : List Int} {a : Int} (s : Int) (h : Cu l a) (hb : a ≤ 999999) : ∃ v a' s', spec_l1Cur_next.f l a s = some (v, a', s') ∧ (0 ≤ v ∧ v ≤ 255) ∧ Cu l a' ∧ a' = a + 1 := by
  obtain ⟨h1, h2, h3, h4⟩ := h
  have hw : wrap64 (a + 1) = a + 1 := wrap_id (by omega) (by omega)
  have hc : Cu l (a + 1) := ⟨h1, h2, by omega, by omega⟩
  unfold spec_l1Cur_next.f
  rw [hw]
  by_cases c : a < (l.length : Int)
  · have hr : 0 ≤ rd l a ∧ rd l a ≤ 255 := by
      have e : rd l a = l[a.toNat]'(by omega) := by show l.getD a.toNat 0 = _; rw [getD_in (by omega)]
      rw [e]
      exact h2 _ (List.getElem_mem _)
    rw [if_pos c, if_pos h3]
    by_cases d : a + 1 ≤ (l.length : Int)
    · rw [if_pos d]
      exact ⟨_, _, _, rfl, by rw [wrap_id (by omega) (by omega)]; exact hr, hc, rfl⟩
    · rw [if_neg d]
      exact ⟨_, _, _, rfl, and255 _, hc, rfl⟩
  · rw [if_neg c]
    by_cases d : a + 1 ≤ (l.length : Int)
    · rw [if_pos d]
      exact ⟨_, _, _, rfl, by omega, hc, rfl⟩
    · rw [if_neg d]
      exact ⟨_, _, _, rfl, and255 _, hc, rfl⟩
theorem tmod_in {x n : Int} (hx : 0 ≤ x) (hn : 0 < n) : 0 ≤ Int.tmod x n ∧ Int.tmod x n < n := by
  rw [Int.tmod_eq_emod_of_nonneg hx]
  exact ⟨Int.emod_nonneg _ (by omega), Int.emod_lt_of_pos _ hn⟩
theorem pick_tot {l : List Int} {a : Int} (s n : Int) (h : Cu l a) (hb : a ≤ 999990) : ∃ v a' s', spec_l1Cur_pick.f l a s n = some (v, a', s') ∧ 0 ≤ v ∧ (v < n ∨ v = 0) ∧ Cu l a' ∧ (a ≤ a' ∧ a' ≤ a + 2) := by
  unfold spec_l1Cur_pick.f
  by_cases c : n ≤ 1
  · rw [if_pos c]
    exact ⟨0, a, s, rfl, by omega, .inr rfl, h, by omega, by omega⟩
  rw [if_neg c]
  obtain ⟨v1, a1, s1, e1, hv1, hc1, ha1⟩ := next_tot s h (by omega)
  rw [e1, Option.bind_some]
  by_cases d : n > 200
  · obtain ⟨v2, a2, s2, e2, hv2, hc2, ha2⟩ := next_tot s1 hc1 (by omega)
    have hw : wrap64 ((wrap64 (v1 * 256)) + v2) = v1 * 256 + v2 := by rw [wrap_id (x := v1 * 256) (by omega) (by omega), wrap_id (by omega) (by omega)]
    rw [if_pos d]
    dsimp only
    rw [e2, Option.bind_some, if_neg (by omega)]
    have ht := tmod_in (x := wrap64 ((wrap64 (v1 * 256)) + v2)) (n := n) (by rw [hw]; omega) (by omega)
    exact ⟨_, _, _, rfl, ht.1, .inl ht.2, hc2, by dsimp only; omega, by dsimp only; omega⟩
  · rw [if_neg d, if_neg (by omega)]
    have ht := tmod_in (x := v1) (n := n) (by omega) (by omega)
    exact ⟨_, _, _, rfl, ht.1, .inl ht.2, hc1, by dsimp only; omega, by dsimp only; omega⟩
theorem pick_in {l : List Int} {a : Int} (s n : Int) (hn : 1 ≤ n) (h : Cu l a) (hb : a ≤ 999990) : ∃ v a' s', spec_l1Cur_pick.f l a s n = some (v, a', s') ∧ (0 ≤ v ∧ v < n) ∧ Cu l a' ∧ (a ≤ a' ∧ a' ≤ a + 2) := by
  obtain ⟨v, a', s', e, h0, h1, h2, h3⟩ := pick_tot s n h hb
  refine ⟨v, a', s', e, ⟨h0, ?_⟩, h2, h3⟩
  rcases h1 with h1 | h1
  · exact h1
  · omega
end Go.Proofs.YtkdibcifamlciaaDoor.X
set_option linter.unusedVariables false
set_option linter.unusedSimpArgs false
namespace Go.Proofs.YtkdibcifamlciaaDoor.X
open Go.RowKit Go.Proofs.YtkdibcifamlciaaDoorW.PrintWords Go.Proofs.YtkdibcifamlciaaDoor.E
theorem one_tot {l : List Int} {a : Int} (s n : Int) (h : Cu l a) (hb : a ≤ 999990) : ∃ v a' s', spec_l1Cur_one.f l a s n = some (v, a', s') ∧ Cu l a' ∧ (a ≤ a' ∧ a' ≤ a + 2) := by
  obtain ⟨v, a', s', e, h0, h1, h2, h3⟩ := pick_tot s n h hb
  unfold spec_l1Cur_one.f
  rw [e]
  exact ⟨_, _, _, rfl, h2, h3⟩
theorem of_tot {l : List Int} {a : Int} (s : Int) (ts : List ByteArray) (ht : 1 ≤ ts.length) (h : Cu l a) (hb : a ≤ 999990) : ∃ v a' s', spec_l1Cur_of.f l a s ts = some (v, a', s') ∧ v ∈ ts ∧ Cu l a' ∧ (a ≤ a' ∧ a' ≤ a + 2) := by
  obtain ⟨v, a', s', e, h0, h1, h2⟩ := pick_in s (ts.length : Int) (by omega) h hb
  unfold spec_l1Cur_of.f
  rw [e, Option.bind_some, if_pos h0.1, if_pos h0.2]
  refine ⟨_, _, _, rfl, ?_, h1, h2⟩
  dsimp only
  unfold rdOf
  rw [getD_in (by omega)]
  exact List.getElem_mem _
theorem spoilt_tot {l : List Int} {a : Int} (s : Int) (t w : ByteArray) (hw : 1 ≤ w.size) (ht : t.size ≤ 1000000) (hw2 : w.size ≤ 1000000) (h : Cu l a) (hb : a ≤ 999900) : ∃ v a' s', spec_l1Cur_spoilt.f l a s t w = some (v, a', s') ∧ v.size ≤ t.size + 1 ∧ Cu l a' ∧ (a ≤ a' ∧ a' ≤ a + 6) := by
  unfold spec_l1Cur_spoilt.f
  by_cases c : t.toList = ([] : List UInt8)
  · rw [if_pos c, if_pos (by omega), if_pos (by omega)]
    exact ⟨_, _, _, rfl, by rw [ByteArray.size_extract]; omega, h, by omega, by omega⟩
  rw [if_neg c]
  have htz : 1 ≤ t.size := by
    rcases Nat.eq_zero_or_pos t.size with e | e
    · exact absurd (by rw [Lib.toList_data]; exact List.eq_nil_of_length_eq_zero (by rw [Array.length_toList]; exact e)) c
    · exact e
  obtain ⟨i, a1, s1, e1, hi, hc1, ha1⟩ := pick_in s (t.size : Int) (by omega) h (by omega)
  obtain ⟨j, a2, s2, e2, hj, hc2, ha2⟩ := pick_in s1 (w.size : Int) (by omega) hc1 (by omega)
  obtain ⟨m, a3, s3, e3, hm, hc3, ha3⟩ := pick_in s2 3 (by omega) hc2 (by omega)
  have hx : (w.extract j.toNat w.size).size = w.size - j.toNat := by rw [ByteArray.size_extract]; omega
  have hw1 : wrap64 (i + 1) = i + 1 := wrap_id (by omega) (by omega)
  have z1 : (t.extract 0 i.toNat).size = i.toNat := by rw [ByteArray.size_extract]; omega
  have z2 : ((w.extract j.toNat w.size).extract 0 1).size = 1 := by rw [ByteArray.size_extract]; omega
  have z3 : (t.extract i.toNat t.size).size = t.size - i.toNat := by rw [ByteArray.size_extract]; omega
  have z4 : (t.extract (i + 1).toNat t.size).size = t.size - (i + 1).toNat := by rw [ByteArray.size_extract]; omega
  rw [e1, Option.bind_some]
  dsimp only
  rw [e2, Option.bind_some]
  dsimp only
  rw [if_pos (by omega), if_pos (by omega), if_pos (by omega), if_pos (by omega), e3, Option.bind_some]
  dsimp only
  rw [hw1]
  have z5 : ((t.extract 0 i.toNat) ++ ((w.extract j.toNat w.size).extract 0 1)).size = i.toNat + 1 := by rw [ByteArray.size_append]; omega
  by_cases m0 : m = 0
  · rw [if_pos m0, if_pos (by omega), if_pos (by omega), if_pos (by omega), if_pos (by omega)]
    exact ⟨_, _, _, rfl, by rw [ByteArray.size_append]; omega, hc3, by omega, by omega⟩
  rw [if_neg m0]
  by_cases m1 : m = 1
  · rw [if_pos m1]
    repeat rw [if_pos (by omega)]
    exact ⟨_, _, _, rfl, by rw [ByteArray.size_append]; omega, hc3, by omega, by omega⟩
  rw [if_neg m1]
  repeat rw [if_pos (by omega)]
  exact ⟨_, _, _, rfl, by rw [ByteArray.size_append]; omega, hc3, by omega, by omega⟩
end Go.Proofs.YtkdibcifamlciaaDoor.X
set_option linter.unusedVariables false
set_option linter.unusedSimpArgs false
namespace Go.Proofs.YtkdibcifamlciaaDoor.X
open Go.RowKit Go.Proofs.YtkdibcifamlciaaDoorW.PrintWords Go.Proofs.YtkdibcifamlciaaDoor.E
def numB (n : Int) : ByteArray := ⟨(Lib.itoa n).toArray⟩
def decB (u : Nat) : ByteArray := ⟨(Lib.decDigits u).toArray⟩
theorem digit_fin : ∀ i : Fin 10, (⟨#[48, 49, 50, 51, 52, 53, 54, 55, 56, 57]⟩ : ByteArray).extract i.val (i.val + 1) = ⟨#[UInt8.ofNat (48 + i.val)]⟩ := by decide +kernel
theorem digit_at (i : Int) (j : Int) (h0 : 0 ≤ i) (h1 : i < 10) (hj : j = i + 1) : (⟨#[48, 49, 50, 51, 52, 53, 54, 55, 56, 57]⟩ : ByteArray).extract i.toNat j.toNat = ⟨#[UInt8.ofNat (48 + i.toNat)]⟩ := by
  rw [show j.toNat = i.toNat + 1 by omega]
  exact digit_fin ⟨i.toNat, by omega⟩
theorem ba_append (l m : List UInt8) : (⟨l.toArray⟩ : ByteArray) ++ (⟨m.toArray⟩ : ByteArray) = ⟨(l ++ m).toArray⟩ := by
  apply ByteArray.ext
  rw [ByteArray.data_append]
  simp
theorem ba_size (l : List UInt8) : (⟨l.toArray⟩ : ByteArray).size = l.length := rfl
theorem decB_size (u : Nat) (h : u < 18446744073709551616) : (decB u).size ≤ 20 := by
  unfold decB
  rw [ba_size, Lib.decDigits_length]
  exact Lib.nDigits_le20 u h
theorem numB_size (n : Int) (h0 : -9223372036854775808 ≤ n) (h1 : n ≤ 9223372036854775807) : (numB n).size ≤ 21 := by
  unfold numB
  rw [ba_size]
  exact Lib.itoa_length_le n h0 h1
theorem l1Num_nat : ∀ (u : Nat), u ≤ 9223372036854775807 → Ev (fun k => spec_l1Num.f k (u : Int)) (decB u) := by
  intro u
  induction u using Nat.strongRecOn with
  | _ u ih =>
    intro hu
    refine Ev.step (fun k => rfl) (ev_neg (by omega) ?_)
    by_cases h : u < 10
    · have hw : wrap64 ((u : Int) + 1) = (u : Int) + 1 := wrap_id (by omega) (by omega)
      rw [hw]
      refine ev_pos (by omega) (ev_pos (by omega) (ev_pos (by omega) (ev_pos (by omega) (ev_now ?_))))
      rw [digit_at (u : Int) _ (by omega) (by omega) rfl]
      unfold decB
      rw [Lib.decDigits, dif_pos h, Int.toNat_natCast]
    · refine ev_neg (by omega) ?_
      have hd : Int.tdiv (u : Int) 10 = ((u / 10 : Nat) : Int) := by rw [Int.tdiv_eq_ediv_of_nonneg (by omega)]; omega
      have hm : Int.tmod (u : Int) 10 = ((u % 10 : Nat) : Int) := by rw [Int.tmod_eq_emod_of_nonneg (by omega)]; omega
      have hw : wrap64 ((u / 10 : Nat) : Int) = ((u / 10 : Nat) : Int) := wrap_id (by omega) (by omega)
      have hw2 : wrap64 (((u % 10 : Nat) : Int) + 1) = ((u % 10 : Nat) : Int) + 1 := wrap_id (by omega) (by omega)
      rw [hd, hw, hm, hw2]
      refine Ev.bind (ih (u / 10) (by omega) (by omega)) ?_
      rw [digit_at ((u % 10 : Nat) : Int) _ (by omega) (by omega) rfl]
      have hs := decB_size (u / 10) (by omega)
      have h1 : (⟨#[UInt8.ofNat (48 + ((u % 10 : Nat) : Int).toNat)]⟩ : ByteArray).size = 1 := rfl
      refine ev_pos (by omega) (ev_pos (by omega) (ev_pos (by omega) (ev_pos (by omega) (ev_now ?_))))
      unfold decB
      rw [show (⟨#[UInt8.ofNat (48 + ((u % 10 : Nat) : Int).toNat)]⟩ : ByteArray) = ⟨[UInt8.ofNat (48 + u % 10)].toArray⟩ by rw [Int.toNat_natCast], ba_append]
      conv => rhs; rw [Lib.decDigits, dif_neg h]
theorem l1Num_ev (n : Int) (h0 : -9223372036854775807 ≤ n) (h1 : n ≤ 9223372036854775807) : Ev (fun k => spec_l1Num.f k n) (numB n) := by
  by_cases hn : n < 0
  · have hw : wrap64 (-n) = ((n.natAbs : Nat) : Int) := by rw [wrap_id (by omega) (by omega)]; omega
    refine Ev.step (fun k => rfl) (ev_pos hn ?_)
    rw [hw]
    have hs := decB_size n.natAbs (by omega)
    refine Ev.bind (l1Num_nat _ (by omega)) (ev_pos (by omega) (ev_now ?_))
    unfold numB decB
    rw [show (⟨#[45]⟩ : ByteArray) = ⟨[45].toArray⟩ from rfl, ba_append, Lib.itoa, if_pos hn]
    rfl
  · obtain ⟨u, rfl⟩ : ∃ u : Nat, n = u := ⟨n.toNat, by omega⟩
    refine ev_cast (l1Num_nat u (by omega)) ?_
    unfold numB decB
    rw [Lib.itoa, if_neg hn, Int.toNat_natCast]
end Go.Proofs.YtkdibcifamlciaaDoor.X
set_option linter.unusedVariables false
set_option linter.unusedSimpArgs false
namespace Go.Proofs.YtkdibcifamlciaaDoor.X
open Go.RowKit Go.Proofs.YtkdibcifamlciaaDoorW.PrintWords Go.Proofs.YtkdibcifamlciaaDoor.E
theorem l1In_eq (a l h : Int) : spec_l1In.f a l h = some (decide (l ≤ a ∧ a ≤ h)) := by
  unfold spec_l1In.f
  by_cases h1 : a ≥ l
  · rw [if_pos h1]; congr 1; simp [h1]
  · rw [if_neg h1]; congr 1; symm; simp; intro h2; omega
theorem within_eq (a l h : Int) : impl_within.f a l h = some (decide (l ≤ a ∧ a ≤ h)) := by
  unfold impl_within.f
  by_cases h1 : a ≥ l
  · rw [if_pos h1]; congr 1; simp [h1]
  · rw [if_neg h1]; congr 1; symm; simp; intro h2; omega
def logAt (s : ByteArray) (i : Nat) : Bool := decide (32 ≤ bt s i ∧ bt s i ≤ 126 ∧ bt s i ≠ 35)
def logB (s : ByteArray) : Bool := (List.range s.size).all (logAt s)
def hasB (s : ByteArray) (c : Int) : Bool := !((List.range s.size).all (fun i => decide (bt s i ≠ c)))
theorem isLogText_ev (s : ByteArray) (hs : s.size ≤ 9223372036854775807) : Ev (fun k => impl_isLogText.f k s) (logB s) := by
  have h := ev_all0 (L := fun k i => impl_isLogText.l0 k s (s.size : Int) i) s.size (logAt s) false true (fun _ => Ev.step (fun k => rfl) (ev_neg (by omega) (ev_now rfl))) ?h1 ?h2
  case h1 =>
    intro i hi _ hc y hy
    simp only [logAt, decide_eq_true_eq] at hc
    refine Ev.step (fun k => rfl) (ev_pos (by omega) (ev_pos (by omega) (ev_pos (by omega) ?_)))
    rw [wrap_succ hi hs]
    exact ev_neg (by omega) (ev_neg (by omega) (ev_neg (by omega) hy))
  case h2 =>
    intro i hi _ hc
    simp only [logAt, decide_eq_false_iff_not] at hc
    refine Ev.step (fun k => rfl) (ev_pos (by omega) (ev_pos (by omega) (ev_pos (by omega) ?_)))
    refine ev_ite (fun _ => ev_now rfl) (fun _ => ev_ite (fun _ => ev_now rfl) (fun _ => ev_ite (fun _ => ev_now rfl) (fun _ => ?_)))
    exfalso; omega
  refine ev_cast h ?_
  unfold logB
  cases (List.range s.size).all (logAt s) <;> rfl
theorem l27Plain_ev (s : ByteArray) (hs : s.size ≤ 9223372036854775807) (n : Int) : Ev (fun k => spec_l27Plain.f k s n) (logB s && decide ((s.size : Int) ≤ n)) := by
  have hw : ∀ i : Nat, wrap64 (bt s i) = bt s i := fun i => wrap_id (by have := bt_range s i; omega) (by have := bt_range s i; omega)
  have h := ev_all0 (L := fun k i => spec_l27Plain.l0 k s n i) s.size (logAt s) false (decide ((s.size : Int) ≤ n)) (fun _ => Ev.step (fun k => rfl) (ev_neg (by omega) (ev_now rfl))) ?h1 ?h2
  case h1 =>
    intro i hi _ hc y hy
    simp only [logAt, decide_eq_true_eq] at hc
    refine Ev.step (fun k => rfl) (ev_pos (by omega) (ev_pos (by omega) ?_))
    rw [wrap_succ hi hs, hw]
    refine ev_bind0 (l1In_eq _ _ _) ?_
    exact ev_pos (decide_eq_true (by omega)) (ev_neg (by omega) hy)
  case h2 =>
    intro i hi _ hc
    simp only [logAt, decide_eq_false_iff_not] at hc
    refine Ev.step (fun k => rfl) (ev_pos (by omega) (ev_pos (by omega) ?_))
    rw [hw]
    refine ev_bind0 (l1In_eq _ _ _) ?_
    refine ev_ite (fun c => ?_) (fun _ => ev_now rfl)
    have c' := of_decide_eq_true c
    exact ev_pos (by omega) (ev_now rfl)
  refine ev_cast h ?_
  unfold logB
  cases (List.range s.size).all (logAt s) <;> simp
theorem l1Stands_ev (s : ByteArray) (hs : s.size ≤ 9223372036854775807) (c : Int) : Ev (fun k => spec_l1Stands.f k s c) (hasB s c) := by
  have h := ev_all0 (L := fun k i => spec_l1Stands.l0 k s c i) s.size (fun i => decide (bt s i ≠ c)) true false (fun _ => Ev.step (fun k => rfl) (ev_neg (by omega) (ev_now rfl))) ?h1 ?h2
  case h1 =>
    intro i hi _ hc y hy
    have hc' := of_decide_eq_true hc
    refine Ev.step (fun k => rfl) (ev_pos (by omega) (ev_pos (by omega) ?_))
    rw [wrap_succ hi hs]
    exact ev_neg hc' hy
  case h2 =>
    intro i hi _ hc
    have hc' := of_decide_eq_false hc
    refine Ev.step (fun k => rfl) (ev_pos (by omega) (ev_pos (by omega) ?_))
    exact ev_pos (by omega) (ev_now rfl)
  refine ev_cast h ?_
  unfold hasB
  cases (List.range s.size).all (fun i => decide (bt s i ≠ c)) <;> rfl
theorem bt_get (s : ByteArray) (i : Nat) (h : i < s.data.toList.length) : bt s i = ((s.data.toList[i]).toNat : Int) := by
  have h' : i < s.size := by rw [Array.length_toList] at h; exact h
  unfold bt
  rw [dif_pos (by rw [Int.toNat_natCast]; exact h')]
  simp only [Int.toNat_natCast]
  rfl
theorem contains_at (s : ByteArray) : strings_Contains.f s (⟨#[64]⟩ : ByteArray) = some (hasB s 64) := by
  show some (decide (0 ≤ Lib.indexByte s.data.toList 64)) = some (hasB s 64)
  rw [← Lib.contains_iff_indexByte]
  congr 1
  have hl : s.data.toList.length = s.size := by rw [Array.length_toList]; rfl
  rw [Bool.eq_iff_iff, List.contains_iff_mem]
  unfold hasB
  rw [Bool.not_eq_true', Bool.eq_false_iff, Ne, all_range]
  constructor
  · intro hm hall
    obtain ⟨i, hi, e⟩ := List.getElem_of_mem hm
    have := of_decide_eq_true (hall i (by omega))
    rw [bt_get s i hi, e] at this
    exact this rfl
  · intro hn
    refine Classical.byContradiction fun hm => hn fun i hi => decide_eq_true fun e => hm ?_
    have hi' : i < s.data.toList.length := by omega
    rw [bt_get s i hi'] at e
    have e2 : s.data.toList[i] = 64 := UInt8.toNat_inj.1 (by have : (s.data.toList[i]).toNat = 64 := by omega
                                                             rw [this]; rfl)
    exact e2 ▸ List.getElem_mem hi'
theorem empty_iff (s : ByteArray) : s.data.toList = [] ↔ s.size = 0 := by
  have hl : s.data.toList.length = s.size := by rw [Array.length_toList]; rfl
  rw [← hl, List.length_eq_zero_iff]
def cmdB (s : ByteArray) : Bool := decide (1 ≤ (s.size : Int) ∧ (s.size : Int) ≤ 160) && logB s && !(hasB s 64)
def recB (s r : ByteArray) : Bool := cmdB s && (logB r && decide ((r.size : Int) ≤ 200))
theorem isCommand_ev (s : ByteArray) (hs : s.size ≤ 9223372036854775807) : Ev (fun k => impl_isCommand.f k s) (cmdB s) := by
  unfold impl_isCommand.f cmdB
  refine ev_bind0 (within_eq _ _ _) ?_
  refine ev_ite (fun c => ?_) (fun c => ev_now ?_)
  case refine_2 => rw [Bool.not_eq_true] at c; rw [c]; rfl
  rw [c]
  refine Ev.bind (isLogText_ev s hs) ?_
  refine ev_ite (fun c => ?_) (fun c => ev_now ?_)
  case refine_2 => rw [Bool.not_eq_true] at c; rw [c]; rfl
  rw [c]
  exact ev_bind0 (contains_at s) (ev_now (by simp))
theorem implRec_ev (s r : ByteArray) (hs : s.size ≤ 9223372036854775807) (hr : r.size ≤ 9223372036854775807) : Ev (fun k => impl_IsValidLogRecord.f k s r) (recB s r) := by
  unfold impl_IsValidLogRecord.f recB
  refine Ev.bind (isCommand_ev s hs) ?_
  refine ev_ite (fun c => ?_) (fun c => ev_now ?_)
  case refine_2 => rw [Bool.not_eq_true] at c; rw [c]; rfl
  rw [c]
  refine ev_ite (fun c => ?_) (fun c => ev_now ?_)
  case refine_2 => rw [decide_eq_false c]; simp
  rw [decide_eq_true c]
  exact Ev.bind (isLogText_ev r hr) (ev_now (by simp))
theorem goodRec_ev (s r : ByteArray) (hs : s.size ≤ 9223372036854775807) (hr : r.size ≤ 9223372036854775807) : Ev (fun k => spec_l27Good.f k s r) (recB s r) := by
  unfold spec_l27Good.f recB cmdB
  refine ev_ite (fun c => ev_now ?_) (fun c => ?_)
  case refine_1 =>
    have c : s.size = 0 := (empty_iff s).1 (by rw [← ByteArray.toList_eq]; exact c)
    rw [decide_eq_false (by omega)]; rfl
  have c : 1 ≤ s.size := by
    rcases Nat.eq_zero_or_pos s.size with e | e
    · exact absurd (by rw [ByteArray.toList_eq]; exact (empty_iff s).2 e) c
    · exact e
  refine Ev.bind (l27Plain_ev s hs 160) ?_
  refine ev_ite (fun c => ?_) (fun c => ev_now ?_)
  case refine_2 =>
    have e : decide (1 ≤ (s.size : Int) ∧ (s.size : Int) ≤ 160) = decide ((s.size : Int) ≤ 160) := by rw [decide_eq_decide]; omega
    rw [e]
    revert c
    cases logB s <;> cases decide ((s.size : Int) ≤ 160) <;> simp
  rw [Bool.and_eq_true] at c
  have c2 := of_decide_eq_true c.2
  rw [c.1, decide_eq_true (show 1 ≤ (s.size : Int) ∧ (s.size : Int) ≤ 160 by omega)]
  refine Ev.bind (l1Stands_ev s hs 64) ?_
  refine ev_ite (fun c => ev_now ?_) (fun c => ?_)
  case refine_1 => rw [c]; rfl
  rw [Bool.not_eq_true] at c; rw [c]
  exact Ev.bind (l27Plain_ev r hr 200) (ev_now (by simp))
end Go.Proofs.YtkdibcifamlciaaDoor.X
set_option linter.unusedVariables false
set_option linter.unusedSimpArgs false
namespace Go.Proofs.YtkdibcifamlciaaDoor.X
open Go.RowKit Go.Proofs.YtkdibcifamlciaaDoorW.PrintWords Go.Proofs.YtkdibcifamlciaaDoor.E
theorem Itoa_eq (n : Int) (h0 : -9223372036854775808 ≤ n) (h1 : n ≤ 9223372036854775807) : strconv_Itoa.f n = some (numB n) := by unfold strconv_Itoa.f; rw [if_pos ⟨h0, h1⟩]; rfl
def sumStep (s : ByteArray) (h : Int) (i : Nat) : Int := Int.tmod (wrap64 ((wrap64 ((wrap64 (41 * h)) + (wrap64 (bt s i)))) + 1)) 999979
def sumB (s : ByteArray) : Int := (List.range s.size).foldl (sumStep s) 7
theorem sumStep_in (s : ByteArray) (h : Int) (i : Nat) (h0 : 0 ≤ h ∧ h < 999979) : 0 ≤ sumStep s h i ∧ sumStep s h i < 999979 := by
  have hb := bt_range s i
  have e1 : wrap64 (41 * h) = 41 * h := wrap_id (by omega) (by omega)
  have e2 : wrap64 (bt s i) = bt s i := wrap_id (by omega) (by omega)
  have e3 : wrap64 (41 * h + bt s i) = 41 * h + bt s i := wrap_id (by omega) (by omega)
  have e4 : wrap64 (41 * h + bt s i + 1) = 41 * h + bt s i + 1 := wrap_id (by omega) (by omega)
  unfold sumStep
  rw [e1, e2, e3, e4, Int.tmod_eq_emod_of_nonneg (by omega)]
  omega
theorem fold_in (s : ByteArray) : ∀ (l : List Nat) (h : Int), 0 ≤ h ∧ h < 999979 → 0 ≤ l.foldl (sumStep s) h ∧ l.foldl (sumStep s) h < 999979
  | [], h, hh => hh
  | i :: l, h, hh => fold_in s l _ (sumStep_in s h i hh)
theorem sumB_in (s : ByteArray) : 0 ≤ sumB s ∧ sumB s < 999979 := fold_in s _ 7 (by omega)
theorem implSum_ev (s : ByteArray) (hs : s.size ≤ 9223372036854775807) : Ev (fun k => impl_checksum.f k s) (sumB s) := by
  have h := ev_scan0 (L := fun k (h : Int) i => impl_checksum.l0 k s h (s.size : Int) i) (G := fun h i (r : List Nat) => r.foldl (sumStep s) h) (fun _ _ _ => True) (List.range s.size) 7 trivial ?h1 ?h2
  case h1 =>
    intro h _
    rw [List.length_range]
    exact Ev.step (fun k => rfl) (ev_neg (by omega) (ev_now rfl))
  case h2 =>
    intro h i x r _ hi hd hg hr
    rw [List.length_range] at hi
    obtain rfl : x = i := by rw [← hg 0, List.getD_eq_getElem?_getD, List.getElem?_range hi]; rfl
    refine Ev.step (fun k => rfl) (ev_pos (by omega) (ev_pos (by omega) (ev_pos (by omega) ?_)))
    rw [wrap_succ hi hs]
    exact hr (sumStep s h x) trivial
  exact h
theorem specSum_ev (s : ByteArray) (hs : s.size ≤ 9223372036854775807) : Ev (fun k => spec_l1Sum.f k s) (sumB s) := by
  have h := ev_scan0 (L := fun k (h : Int) i => spec_l1Sum.l0 k s h i) (G := fun h i (r : List Nat) => r.foldl (sumStep s) h) (fun _ _ _ => True) (List.range s.size) 7 trivial ?h1 ?h2
  case h1 =>
    intro h _
    rw [List.length_range]
    exact Ev.step (fun k => rfl) (ev_neg (by omega) (ev_now rfl))
  case h2 =>
    intro h i x r _ hi hd hg hr
    rw [List.length_range] at hi
    obtain rfl : x = i := by rw [← hg 0, List.getD_eq_getElem?_getD, List.getElem?_range hi]; rfl
    refine Ev.step (fun k => rfl) (ev_pos (by omega) (ev_pos (by omega) ?_))
    rw [wrap_succ hi hs]
    exact hr (sumStep s h x) trivial
  exact h
theorem szl (c : UInt8) : (⟨#[c]⟩ : ByteArray).size = 1 := rfl
def sealB (x : ByteArray) : ByteArray := (x ++ (⟨#[35]⟩ : ByteArray)) ++ numB (sumB x)
theorem sum_size (x : ByteArray) : (numB (sumB x)).size ≤ 21 := by have := sumB_in x; exact numB_size _ (by omega) (by omega)
theorem l1Seal_ev (x : ByteArray) (hx : x.size ≤ 4611686018427387904) : Ev (fun k => spec_l1Seal.f k x) (sealB x) := by
  unfold spec_l1Seal.f sealB
  have h1 := sumB_in x
  have h2 := sum_size x
  exact ev_pos (by omega) (Ev.bind (specSum_ev x (by omega)) (Ev.bind (l1Num_ev _ (by omega) (by omega)) (ev_pos (by simp only [ByteArray.size_append, szl]; omega) (ev_now rfl))))
theorem contains35 (s : ByteArray) : strings_Contains.f s (⟨#[35]⟩ : ByteArray) = some (s.data.toList.contains 35) := by
  show some (decide (0 ≤ Lib.indexByte s.data.toList 35)) = _
  rw [← Lib.contains_iff_indexByte]
def appB (x : ByteArray) : ByteArray × Bool := if (decide ((x.size : Int) > 4000) || x.data.toList.contains 35) = true then (⟨#[]⟩, false) else if ((sealB x).size : Int) > 4000 then (⟨#[]⟩, false) else (sealB x, true)
theorem appendChecksum_ev (x : ByteArray) (hx : x.size ≤ 4611686018427387904) : Ev (fun k => impl_AppendChecksum.f k x) (appB x) := by
  have stop : ∀ b : Bool, b = (decide ((x.size : Int) > 4000) || x.data.toList.contains 35) → Ev (fun k => impl_AppendChecksum.j0 k x b) (appB x) := by
    intro b hb
    refine Ev.step (fun k => rfl) (ev_ite (fun c => ev_now ?_) (fun c => ?_))
    · unfold appB; rw [← hb, if_pos c]
    unfold appB
    rw [← hb, if_neg c]
    have h1 := sumB_in x
    have h2 := sum_size x
    refine ev_pos (by omega) (Ev.bind (implSum_ev x (by omega)) (ev_bind0 (Itoa_eq _ (by omega) (by omega)) (ev_pos (by simp only [ByteArray.size_append, szl]; omega) ?_)))
    refine ev_ite (fun c => ev_now ?_) (fun c => ev_now ?_)
    · exact (if_pos c).symm
    · exact (if_neg c).symm
  unfold impl_AppendChecksum.f
  refine ev_ite (fun c => stop _ ?_) (fun c => ?_)
  · rw [decide_eq_true c]; rfl
  · refine ev_bind0 (contains35 x) (stop _ ?_)
    rw [decide_eq_false c]; rfl
def lineB (k : Int) (s r : ByteArray) : ByteArray := (((numB k ++ (⟨#[32]⟩ : ByteArray)) ++ s) ++ (⟨#[64]⟩ : ByteArray)) ++ r
theorem num_no35 (k : Int) (h0 : 0 ≤ k) (h1 : k ≤ 59) : (35 : UInt8) ∉ (numB k).data.toList := by
  have d10 : ∀ i : Fin 10, (35 : UInt8) ≠ UInt8.ofNat (48 + i.val) := by decide
  unfold numB
  obtain ⟨u, rfl⟩ : ∃ u : Nat, k = u := ⟨k.toNat, by omega⟩
  rw [Lib.itoa, if_neg (by omega), Int.toNat_natCast]
  by_cases hu : u < 10
  · rw [Lib.decDigits_one hu]
    simpa using d10 ⟨u, hu⟩
  · rw [Lib.decDigits_two hu (by omega)]
    have a := d10 ⟨u / 10, by omega⟩
    have b := d10 ⟨u % 10, by omega⟩
    intro hm
    have hm : (35 : UInt8) ∈ [UInt8.ofNat (48 + u / 10), UInt8.ofNat (48 + u % 10)] := hm
    rcases List.mem_cons.1 hm with h | h
    · exact a h
    · exact b (List.mem_singleton.1 h)
theorem log_no35 (s : ByteArray) (h : logB s = true) : (35 : UInt8) ∉ s.data.toList := by
  intro hm
  obtain ⟨i, hi, e⟩ := List.getElem_of_mem hm
  have hl : s.data.toList.length = s.size := by rw [Array.length_toList]; rfl
  have := all_range.1 h i (by omega)
  simp only [logAt, decide_eq_true_eq] at this
  rw [bt_get s i hi, e] at this
  exact this.2.2 rfl
theorem line_no35 (k : Int) (s r : ByteArray) (h0 : 0 ≤ k) (h1 : k ≤ 59) (hs : logB s = true) (hr : logB r = true) : (lineB k s r).data.toList.contains 35 = false := by
  rw [Bool.eq_false_iff, Ne, List.contains_iff_mem]
  unfold lineB
  simp only [ByteArray.data_append, Array.toList_append, List.mem_append]
  have a := num_no35 k h0 h1
  have b := log_no35 s hs
  have c := log_no35 r hr
  rintro ((((h | h) | h) | h) | h)
  · exact a h
  · revert h; decide
  · exact b h
  · revert h; decide
  · exact c h
def encOk (k : Int) (s r : ByteArray) : Bool := decide (0 ≤ k ∧ k ≤ 59) && recB s r
def encE (k : Int) (s r : ByteArray) : ByteArray × Bool := if encOk k s r = true then (sealB (lineB k s r) ++ (⟨#[10]⟩ : ByteArray), true) else (⟨#[]⟩, false)
theorem recB_iff {s r : ByteArray} (h : recB s r = true) : (1 ≤ s.size ∧ s.size ≤ 160) ∧ logB s = true ∧ logB r = true ∧ r.size ≤ 200 := by
  unfold recB cmdB at h
  simp only [Bool.and_eq_true, decide_eq_true_eq] at h
  obtain ⟨⟨⟨h1, h2⟩, _⟩, h3, h4⟩ := h
  exact ⟨by omega, h2, h3, by omega⟩
theorem line_size (k : Int) (s r : ByteArray) (h0 : 0 ≤ k) (h1 : k ≤ 59) (hs : s.size ≤ 160) (hr : r.size ≤ 200) : (lineB k s r).size ≤ 400 := by
  unfold lineB
  have := numB_size k (by omega) (by omega)
  simp only [ByteArray.size_append, szl]
  omega
theorem l27Line_ev (k : Int) (s r : ByteArray) (h0 : 0 ≤ k) (h1 : k ≤ 59) (hs : s.size ≤ 160) (hr : r.size ≤ 200) : Ev (fun q => spec_l27Line.f q k s r) (sealB (lineB k s r) ++ (⟨#[10]⟩ : ByteArray)) := by
  unfold spec_l27Line.f
  have hn := numB_size k (by omega) (by omega)
  have hl := line_size k s r h0 h1 hs hr
  have h2 := sum_size (lineB k s r)
  refine Ev.bind (l1Num_ev k (by omega) (by omega)) (ev_pos (by omega) (ev_pos (by simp only [ByteArray.size_append, szl]; omega) (ev_pos (by simp only [ByteArray.size_append, szl]; omega) (ev_pos (by simp only [ByteArray.size_append, szl]; omega) (Ev.bind (l1Seal_ev (lineB k s r) (by omega)) (ev_pos ?_ (ev_now rfl)))))))
  unfold sealB
  simp only [ByteArray.size_append, szl]
  omega
theorem app_line (k : Int) (s r : ByteArray) (h0 : 0 ≤ k) (h1 : k ≤ 59) (h : recB s r = true) : appB (lineB k s r) = (sealB (lineB k s r), true) := by
  obtain ⟨hs, hls, hlr, hr⟩ := recB_iff h
  have hl := line_size k s r h0 h1 hs.2 hr
  have h2 := sum_size (lineB k s r)
  unfold appB
  rw [line_no35 k s r h0 h1 hls hlr, decide_eq_false (by omega)]
  rw [if_neg (by simp)]
  refine if_neg ?_
  unfold sealB
  simp only [ByteArray.size_append, szl]
  omega
theorem implEnc_ev (k : Int) (s r : ByteArray) (hs : s.size ≤ 9223372036854775807) (hr : r.size ≤ 9223372036854775807) : Ev (fun q => impl_EncodeRecord.f q k s r) (encE k s r) := by
  have go : ∀ b : Bool, b = !(encOk k s r) → Ev (fun q => impl_EncodeRecord.j0 q k b s r) (encE k s r) := by
    intro b hb
    refine Ev.step (fun k => rfl) (ev_ite (fun c => ev_now ?_) (fun c => ?_))
    · unfold encE; rw [if_neg (by rw [c] at hb; simp at hb; rw [hb]; simp)]
    have hok : encOk k s r = true := by cases h : encOk k s r <;> simp_all
    unfold encE
    rw [if_pos hok]
    unfold encOk at hok
    rw [Bool.and_eq_true] at hok
    obtain ⟨h0, h1⟩ := of_decide_eq_true hok.1
    obtain ⟨hs1, hls, hlr, hr1⟩ := recB_iff hok.2
    have hn := numB_size k (by omega) (by omega)
    have hl := line_size k s r h0 h1 hs1.2 hr1
    have h2 := sum_size (lineB k s r)
    refine ev_bind0 (Itoa_eq k (by omega) (by omega)) (ev_pos (by omega) (ev_pos (by simp only [ByteArray.size_append, szl]; omega) (ev_pos (by simp only [ByteArray.size_append, szl]; omega) (ev_pos (by simp only [ByteArray.size_append, szl]; omega) (Ev.bind (appendChecksum_ev (lineB k s r) (by omega)) ?_)))))
    rw [app_line k s r h0 h1 hok.2]
    refine ev_pos ?_ (ev_now rfl)
    unfold sealB
    simp only [ByteArray.size_append, szl]
    omega
  unfold impl_EncodeRecord.f
  refine ev_bind0 (within_eq _ _ _) ?_
  refine ev_ite (fun c => ?_) (fun c => go _ ?_)
  · refine Ev.bind (implRec_ev s r hs hr) (go _ ?_)
    unfold encOk
    rw [c, Bool.true_and]
  · unfold encOk
    rw [Bool.not_eq_true] at c
    rw [c]; rfl
theorem l27Good_ev (s r : ByteArray) (hs : s.size ≤ 9223372036854775807) (hr : r.size ≤ 9223372036854775807) : Ev (fun k => spec_l27Good.f k s r) (recB s r) := goodRec_ev s r hs hr
end Go.Proofs.YtkdibcifamlciaaDoor.X
set_option linter.unusedVariables false
set_option linter.unusedSimpArgs false
namespace Go.Proofs.YtkdibcifamlciaaDoor.X
open Go.RowKit Go.Proofs.YtkdibcifamlciaaDoorW.PrintWords Go.Proofs.YtkdibcifamlciaaDoor.E
theorem l_len (s : ByteArray) : s.data.toList.length = s.size := by rw [Array.length_toList]; rfl
theorem ba_list {a b : ByteArray} (h : a.data.toList = b.data.toList) : a = b := ByteArray.ext (Array.toList_inj.1 h)
theorem ba_app (a b : ByteArray) : (a ++ b).data.toList = a.data.toList ++ b.data.toList := by rw [ByteArray.data_append, Array.toList_append]
theorem ba_cut {a a' b b' : ByteArray} (h : a ++ b = a' ++ b') (hs : a.size = a'.size) : a = a' ∧ b = b' := by
  have h1 := congrArg (fun x : ByteArray => x.data.toList) h
  simp only [ba_app] at h1
  obtain ⟨e1, e2⟩ := List.append_inj h1 (by rw [l_len, l_len, hs])
  exact ⟨ba_list e1, ba_list e2⟩
def one (c : UInt8) : ByteArray := ⟨#[c]⟩
def nob (c : UInt8) (a : ByteArray) : Prop := c ∉ a.data.toList
theorem one_size (c : UInt8) : (one c).size = 1 := rfl
theorem one_list (c : UInt8) : (one c).data.toList = [c] := rfl
def cat (a : ByteArray) (c : UInt8) (b : ByteArray) : ByteArray := (a ++ one c) ++ b
theorem cat_size (a : ByteArray) (c : UInt8) (b : ByteArray) : (cat a c b).size = a.size + 1 + b.size := by unfold cat; rw [ByteArray.size_append, ByteArray.size_append, one_size]
theorem cat_list (a : ByteArray) (c : UInt8) (b : ByteArray) : (cat a c b).data.toList = a.data.toList ++ c :: b.data.toList := by unfold cat; rw [ba_app, ba_app, one_list, List.append_assoc]; rfl
theorem split_or (c : UInt8) (x : ByteArray) : nob c x ∨ ∃ a b, x = cat a c b ∧ nob c a := by
  by_cases h : c ∈ x.data.toList
  · obtain ⟨a, b, e, hn⟩ := List.eq_append_cons_of_mem h
    refine Or.inr ⟨⟨a.toArray⟩, ⟨b.toArray⟩, ba_list ?_, hn⟩
    rw [cat_list, e]
  · exact Or.inl h
theorem idx_l0 : ∀ (l : List UInt8) (c : UInt8), c ∉ l → Lib.indexByte l c = -1
  | [], _, _ => rfl
  | b :: l, c, h => by
    have hb : (b == c) = false := by rw [beq_eq_false_iff_ne]; exact fun e => h (e ▸ List.mem_cons_self ..)
    rw [Lib.indexByte, hb, idx_l0 l c (fun m => h (List.mem_cons_of_mem _ m))]
    rfl
theorem idx_l1 : ∀ (l r : List UInt8) (c : UInt8), c ∉ l → Lib.indexByte (l ++ c :: r) c = (l.length : Int)
  | [], r, c, _ => by simp [Lib.indexByte]
  | b :: l, r, c, h => by
    have hb : (b == c) = false := by rw [beq_eq_false_iff_ne]; exact fun e => h (e ▸ List.mem_cons_self ..)
    rw [List.cons_append, Lib.indexByte, hb, idx_l1 l r c (fun m => h (List.mem_cons_of_mem _ m))]
    have : ((l.length : Int) == -1) = false := by rw [beq_eq_false_iff_ne]; omega
    rw [this]
    simp
theorem idx_no {c : UInt8} {x : ByteArray} (h : nob c x) : Lib.indexByte x.data.toList c = -1 := idx_l0 _ _ h
theorem idx_yes {c : UInt8} {a b : ByteArray} (h : nob c a) : Lib.indexByte (cat a c b).data.toList c = (a.size : Int) := by rw [cat_list, idx_l1 _ _ _ h, l_len]
theorem nob_cat {c d : UInt8} {a b : ByteArray} : nob c (cat a d b) ↔ nob c a ∧ c ≠ d ∧ nob c b := by unfold nob; rw [cat_list, List.mem_append, List.mem_cons]; constructor <;> (intro h; simp_all)
theorem split_uniq {c : UInt8} {a a' b b' : ByteArray} (h : cat a c b = cat a' c b') (ha : nob c a) (ha' : nob c a') : a = a' ∧ b = b' := by
  have h1 := idx_yes (b := b) ha
  rw [h, idx_yes ha'] at h1
  have hs : a.size = a'.size := by omega
  unfold cat at h
  have h2 := ba_cut h (by rw [ByteArray.size_append, ByteArray.size_append, hs])
  exact ⟨(ba_cut h2.1 hs).1, h2.2⟩
theorem not_nob (c : UInt8) (a b : ByteArray) : ¬ nob c (cat a c b) := fun h => (nob_cat.1 h).2.1 rfl
theorem cat_left (a : ByteArray) (c : UInt8) (b : ByteArray) : (cat a c b).extract 0 a.size = a := by unfold cat; rw [ByteArray.append_assoc]; exact ByteArray.extract_append_eq_left rfl
theorem cat_right (a : ByteArray) (c : UInt8) (b : ByteArray) : (cat a c b).extract (a.size + 1) (cat a c b).size = b := by
  rw [cat_size]; unfold cat; exact ByteArray.extract_append_eq_right (by rw [ByteArray.size_append, one_size]) (by rw [ByteArray.size_append, one_size])
theorem bt_no {c : UInt8} {x : ByteArray} (h : nob c x) (i : Nat) (hi : i < x.size) : bt x i ≠ (c.toNat : Int) := by
  have hi' : i < x.data.toList.length := by rw [l_len]; exact hi
  rw [bt_get x i hi']
  intro e
  have e2 : x.data.toList[i] = c := UInt8.toNat_inj.1 (by omega)
  exact h (e2 ▸ List.getElem_mem hi')
theorem bt_left {c : UInt8} {a b : ByteArray} (h : nob c a) (i : Nat) (hi : i < a.size) : bt (cat a c b) i ≠ (c.toNat : Int) := by
  have hl := l_len a
  have hi' : i < (cat a c b).data.toList.length := by rw [l_len, cat_size]; omega
  rw [bt_get _ i hi']
  have hh : (cat a c b).data.toList[i] = a.data.toList[i]'(by omega) := by
    have h1 : (cat a c b).data.toList[i]? = a.data.toList[i]? := by rw [cat_list, List.getElem?_append_left (by omega)]
    rw [List.getElem?_eq_getElem hi', List.getElem?_eq_getElem (by omega)] at h1
    exact Option.some.inj h1
  rw [hh]
  intro e
  have e2 : a.data.toList[i]'(by omega) = c := UInt8.toNat_inj.1 (by omega)
  exact h (e2 ▸ List.getElem_mem _)
theorem bt_at (a : ByteArray) (c : UInt8) (b : ByteArray) : bt (cat a c b) a.size = (c.toNat : Int) := by
  have hl := l_len a
  have hi' : a.size < (cat a c b).data.toList.length := by rw [l_len, cat_size]; omega
  rw [bt_get _ _ hi']
  have hh : (cat a c b).data.toList[a.size] = c := by
    have h1 : (cat a c b).data.toList[a.size]? = some c := by rw [cat_list, List.getElem?_append_right (by omega), hl, Nat.sub_self]; rfl
    rw [List.getElem?_eq_getElem hi'] at h1
    exact Option.some.inj h1
  rw [hh]
theorem split_any (x : ByteArray) (c : Int) (hx : x.size < 8796093022208) : ∀ (n i st : Nat) (out : List ByteArray), x.size - i = n → st ≤ i → i ≤ x.size → out.length ≤ st → ∃ y ys, Ev (fun k => spec_l1Split.l0 k x c out (st : Int) (i : Int)) (out ++ y :: ys) := by
  intro n
  induction n with
  | zero =>
    intro i st out hn hs hi ho
    exact ⟨x.extract ((st : Int)).toNat x.size, [], Ev.step (fun k => rfl) (ev_neg (by omega) (ev_pos (by omega) (ev_pos (by omega) (ev_pos (by omega) (ev_now rfl)))))⟩
  | succ n ih =>
    intro i st out hn hs hi ho
    by_cases hc : bt x i = c
    · obtain ⟨y, ys, h⟩ := ih (i + 1) (i + 1) (out ++ [x.extract ((st : Int)).toNat ((i : Int)).toNat]) (by omega) (Nat.le_refl _) (by omega) (by rw [List.length_append, List.length_singleton]; omega)
      refine ⟨x.extract ((st : Int)).toNat ((i : Int)).toNat, y :: ys, Ev.step (fun k => rfl) (ev_pos (by omega) (ev_pos (by omega) (ev_pos hc (ev_pos (by omega) (ev_pos (by omega) (ev_pos (by omega) (ev_pos (by omega) ?_)))))))⟩
      rw [wrap_succ (show i < x.size by omega) (by omega)]
      rw [List.append_assoc] at h
      exact h
    · obtain ⟨y, ys, h⟩ := ih (i + 1) st out (by omega) (by omega) (by omega) ho
      refine ⟨y, ys, Ev.step (fun k => rfl) (ev_pos (by omega) (ev_pos (by omega) (ev_neg hc ?_)))⟩
      rw [wrap_succ (show i < x.size by omega) (by omega)]
      exact h
theorem split_no {c : UInt8} {x : ByteArray} (h : nob c x) (hx : x.size < 8796093022208) (c' : Int) (hc : c' = (c.toNat : Int)) : Ev (fun k => spec_l1Split.f k x c') [x] := by
  have go : ∀ (n i : Nat), x.size - i = n → i ≤ x.size → Ev (fun k => spec_l1Split.l0 k x c' [] ((0 : Nat) : Int) (i : Int)) [x] := by
    intro n
    induction n with
    | zero =>
      intro i hn hi
      refine Ev.step (fun k => rfl) (ev_neg (by omega) (ev_pos (by omega) (ev_pos (by omega) (ev_pos (by simp) (ev_now ?_)))))
      rw [List.nil_append, Int.toNat_natCast, ByteArray.extract_zero_size]
    | succ n ih =>
      intro i hn hi
      refine Ev.step (fun k => rfl) (ev_pos (by omega) (ev_pos (by omega) (ev_neg (by rw [hc]; exact bt_no h i (by omega)) ?_)))
      rw [wrap_succ (show i < x.size by omega) (by omega)]
      exact ih (i + 1) (by omega) (by omega)
  exact go x.size 0 (by omega) (by omega)
theorem split_yes {c : UInt8} {a b : ByteArray} (h : nob c a) (hx : (cat a c b).size < 8796093022208) (c' : Int) (hc : c' = (c.toNat : Int)) : ∃ y ys, Ev (fun k => spec_l1Split.f k (cat a c b) c') (a :: y :: ys) := by
  have hz := cat_size a c b
  obtain ⟨y, ys, hA⟩ := split_any (cat a c b) c' hx ((cat a c b).size - (a.size + 1)) (a.size + 1) (a.size + 1) [a] rfl (Nat.le_refl _) (by omega) (by simp)
  refine ⟨y, ys, ?_⟩
  have go : ∀ (n i : Nat), a.size - i = n → i ≤ a.size → Ev (fun k => spec_l1Split.l0 k (cat a c b) c' [] ((0 : Nat) : Int) (i : Int)) (a :: y :: ys) := by
    intro n
    induction n with
    | zero =>
      intro i hn hi
      obtain rfl : i = a.size := by omega
      refine Ev.step (fun k => rfl) (ev_pos (by omega) (ev_pos (by omega) (ev_pos (by rw [hc]; exact bt_at a c b) (ev_pos (by omega) (ev_pos (by omega) (ev_pos (by omega) (ev_pos (by simp) ?_)))))))
      rw [wrap_succ (show a.size < (cat a c b).size by omega) (by omega), Int.toNat_natCast, Int.toNat_natCast, cat_left]
      exact hA
    | succ n ih =>
      intro i hn hi
      refine Ev.step (fun k => rfl) (ev_pos (by omega) (ev_pos (by omega) (ev_neg (by rw [hc]; exact bt_left h i (by omega)) ?_)))
      rw [wrap_succ (show i < (cat a c b).size by omega) (by omega)]
      exact ih (i + 1) (by omega) (by omega)
  exact go a.size 0 (by omega) (by omega)
theorem cut_no {c : UInt8} {x : ByteArray} (h : nob c x) : strings_Cut.f x (one c) = some (x, (⟨#[]⟩ : ByteArray), false) := by
  have h0 : stringslite_Index.f x (one c) = some (-1) := by show some (Lib.indexByte x.data.toList c) = _; rw [idx_no h]
  have h1 : stringslite_Cut.f x (one c) = some (x, (⟨#[]⟩ : ByteArray), false) := by unfold stringslite_Cut.f; rw [h0]; rfl
  unfold strings_Cut.f; rw [h1]; rfl
theorem cut_yes {c : UInt8} {a b : ByteArray} (h : nob c a) (hx : (cat a c b).size ≤ 4611686018427387904) : strings_Cut.f (cat a c b) (one c) = some (a, b, true) := by
  have hz := cat_size a c b
  have h0 : stringslite_Index.f (cat a c b) (one c) = some (a.size : Int) := by show some (Lib.indexByte (cat a c b).data.toList c) = _; rw [idx_yes h]
  have hw : wrap64 ((a.size : Int) + ((one c).size : Int)) = ((a.size + 1 : Nat) : Int) := by rw [one_size]; exact wrap_succ (show a.size < (cat a c b).size by omega) (by omega)
  have h1 : stringslite_Cut.f (cat a c b) (one c) = some (a, b, true) := by
    unfold stringslite_Cut.f
    rw [h0, Option.bind_some]
    rw [hw, if_pos (by omega), if_pos (by omega), if_pos (by omega), if_pos (by omega), if_pos (by omega), Int.toNat_natCast, Int.toNat_natCast, cat_left, cat_right]
  unfold strings_Cut.f; rw [h1]; rfl
theorem trim_yes (x : ByteArray) (c : UInt8) (hx : x.size ≤ 4611686018427387904) : strings_TrimSuffix.f (x ++ one c) (one c) = some x := by
  have hz : (x ++ one c).size = x.size + 1 := by rw [ByteArray.size_append]; rfl
  have hw : wrap64 (((x ++ one c).size : Int) - ((one c).size : Int)) = (x.size : Int) := by rw [hz, one_size, wrap_id (by omega) (by omega)]; omega
  have e1 : (x ++ one c).extract x.size (x ++ one c).size = one c := by rw [hz]; exact ByteArray.extract_append_eq_right rfl rfl
  have e2 : (x ++ one c).extract 0 x.size = x := ByteArray.extract_append_eq_left rfl
  have h0 : stringslite_HasSuffix.f (x ++ one c) (one c) = some true := by
    unfold stringslite_HasSuffix.f
    rw [hw, if_pos (by rw [hz, one_size]; omega), if_pos (by omega), if_pos (by omega), Int.toNat_natCast, e1, beq_self_eq_true]
  have h1 : stringslite_TrimSuffix.f (x ++ one c) (one c) = some x := by
    unfold stringslite_TrimSuffix.f
    rw [h0, Option.bind_some]
    rw [hw, if_pos rfl, if_pos (by omega), if_pos (by omega), Int.toNat_natCast, e2]
  unfold strings_TrimSuffix.f; rw [h1]; rfl
end Go.Proofs.YtkdibcifamlciaaDoor.X
set_option linter.unusedVariables false
set_option linter.unusedSimpArgs false
namespace Go.Proofs.YtkdibcifamlciaaDoor.X
open Go.RowKit Go.Proofs.YtkdibcifamlciaaDoorW.PrintWords Go.Proofs.YtkdibcifamlciaaDoor.E
theorem hasB_no (s : ByteArray) (h : hasB s 64 = false) : nob 64 s := by
  have h1 := contains_at s
  have h2 : strings_Contains.f s (⟨#[64]⟩ : ByteArray) = some (decide (0 ≤ Lib.indexByte s.data.toList 64)) := rfl
  rw [h1] at h2
  have h3 := Option.some.inj h2
  rw [← Lib.contains_iff_indexByte, h] at h3
  intro hm
  rw [List.contains_iff_mem.2 hm] at h3
  exact absurd h3 (by simp)
theorem rec_no64 {s r : ByteArray} (h : recB s r = true) : nob 64 s := by
  unfold recB cmdB at h
  simp only [Bool.and_eq_true, Bool.not_eq_true'] at h
  exact hasB_no s h.1.2
theorem num_no {c : UInt8} (hc : c.toNat < 48) (k : Int) (h0 : 0 ≤ k) (h1 : k ≤ 59) : nob c (numB k) := by
  have d : ∀ i : Fin 10, 48 ≤ (UInt8.ofNat (48 + i.val)).toNat := by decide
  have d10 : ∀ i : Fin 10, c ≠ UInt8.ofNat (48 + i.val) := fun i e => by have := d i; rw [← e] at this; omega
  unfold nob numB
  obtain ⟨u, rfl⟩ : ∃ u : Nat, k = u := ⟨k.toNat, by omega⟩
  rw [Lib.itoa, if_neg (by omega), Int.toNat_natCast]
  by_cases hu : u < 10
  · rw [Lib.decDigits_one hu]
    simpa using d10 ⟨u, hu⟩
  · rw [Lib.decDigits_two hu (by omega)]
    have a := d10 ⟨u / 10, by omega⟩
    have b := d10 ⟨u % 10, by omega⟩
    intro hm
    have hm : c ∈ [UInt8.ofNat (48 + u / 10), UInt8.ofNat (48 + u % 10)] := hm
    rcases List.mem_cons.1 hm with h | h
    · exact a h
    · exact b (List.mem_singleton.1 h)
theorem tl_inj {a b : ByteArray} : a.toList = b.toList ↔ a = b := ⟨fun h => ba_list (by rwa [ByteArray.toList_eq, ByteArray.toList_eq] at h), fun h => by rw [h]⟩
def Enc (k : Int) (x c r : ByteArray) : Prop := (0 ≤ k ∧ k ≤ 59) ∧ recB c r = true ∧ sealB (lineB k c r) = x
theorem line_cat (k : Int) (c r : ByteArray) : lineB k c r = cat (numB k) 32 (cat c 64 r) := by unfold lineB cat; simp only [ByteArray.append_assoc]; rfl
theorem line_pre (k : Int) (c r : ByteArray) : lineB k c r = (numB k ++ (⟨#[32]⟩ : ByteArray)) ++ cat c 64 r := by rw [line_cat]; rfl
theorem seal_cat (x : ByteArray) : sealB x = cat x 35 (numB (sumB x)) := rfl
theorem enc_nob {k : Int} {x c r : ByteArray} (h : Enc k x c r) : nob 35 (lineB k c r) := by
  obtain ⟨hs, hls, hlr, hr⟩ := recB_iff h.2.1
  have := line_no35 k c r h.1.1 h.1.2 hls hlr
  intro hm
  rw [List.contains_iff_mem.2 hm] at this
  exact absurd this (by simp)
theorem enc_has {k : Int} {x c r : ByteArray} (h : Enc k x c r) : ¬ nob 35 x := by rw [← h.2.2, seal_cat]; exact not_nob _ _ _
theorem enc_line {k : Int} {w z c r : ByteArray} (h : Enc k (cat w 35 z) c r) (hw : nob 35 w) : w = lineB k c r := by
  have e := h.2.2
  rw [seal_cat] at e
  exact (split_uniq e (enc_nob h) hw).1.symm
theorem enc_rest {k : Int} {c r a t : ByteArray} (e : lineB k c r = cat a 32 t) (h : nob 32 a) (hk : 0 ≤ k ∧ k ≤ 59) : t = cat c 64 r := by
  rw [line_cat] at e
  exact (split_uniq e (num_no (by decide) k hk.1 hk.2) h).2.symm
theorem enc_uniq {k : Int} {x c r c' r' : ByteArray} (h : Enc k x c r) (h' : Enc k x c' r') : c = c' ∧ r = r' := by
  have e := h.2.2.trans h'.2.2.symm
  rw [seal_cat, seal_cat] at e
  have e1 := (split_uniq e (enc_nob h) (enc_nob h')).1
  rw [line_cat, line_cat] at e1
  have n := num_no (c := 32) (by decide) k h.1.1 h.1.2
  exact split_uniq (split_uniq e1 n n).2 (rec_no64 h.2.1) (rec_no64 h'.2.1)
theorem idx35 (x : ByteArray) : strings_IndexByte.f x 35 = some (Lib.indexByte x.data.toList 35) := rfl
theorem verify_no {x : ByteArray} (h : nob 35 x) : Ev (fun k => impl_VerifyChecksum.f k x) ((⟨#[]⟩ : ByteArray), false) := by
  unfold impl_VerifyChecksum.f
  exact ev_bind0 ((idx35 x).trans (congrArg some (idx_no h))) (ev_pos (by omega) (ev_now rfl))
theorem verify_good {w z : ByteArray} (h : nob 35 w) (hx : (cat w 35 z).size ≤ 4194304) (ha : appB w = (cat w 35 z, true)) : Ev (fun k => impl_VerifyChecksum.f k (cat w 35 z)) (w, true) := by
  have hz := cat_size w 35 z
  unfold impl_VerifyChecksum.f
  refine ev_bind0 ((idx35 _).trans (congrArg some (idx_yes h))) (ev_neg (by omega) (ev_pos (by omega) (ev_pos (by omega) ?_)))
  rw [Int.toNat_natCast, cat_left]
  refine Ev.bind (appendChecksum_ev w (by omega)) ?_
  rw [ha]
  exact ev_pos rfl (ev_pos rfl (ev_now rfl))
theorem verify_bad {w z : ByteArray} (h : nob 35 w) (hx : (cat w 35 z).size ≤ 4194304) (ha : appB w ≠ (cat w 35 z, true)) : Ev (fun k => impl_VerifyChecksum.f k (cat w 35 z)) ((⟨#[]⟩ : ByteArray), false) := by
  have hz := cat_size w 35 z
  unfold impl_VerifyChecksum.f
  refine ev_bind0 ((idx35 _).trans (congrArg some (idx_yes h))) (ev_neg (by omega) (ev_pos (by omega) (ev_pos (by omega) ?_)))
  rw [Int.toNat_natCast, cat_left]
  refine Ev.bind (appendChecksum_ev w (by omega)) ?_
  exact ev_ite (fun c => ev_neg (fun e => ha (Prod.ext (tl_inj.1 e) c)) (ev_now rfl)) (fun _ => ev_now rfl)
theorem nob_nil (c : UInt8) : nob c (⟨#[]⟩ : ByteArray) := fun h => nomatch h
theorem dec_ev (k : Int) (x : ByteArray) (hx : x.size ≤ 4194304) : (∃ c r, Enc k x c r ∧ Ev (fun q => impl_decoded.f q k (x ++ one 10)) (c, r, true)) ∨ ((∀ c r, ¬ Enc k x c r) ∧ Ev (fun q => impl_decoded.f q k (x ++ one 10)) ((⟨#[]⟩ : ByteArray), (⟨#[]⟩ : ByteArray), false)) := by
  have htr := trim_yes x 10 (by omega)
  rcases split_or 35 x with h | ⟨w, z, rfl, hw⟩
  · refine Or.inr ⟨fun c r e => enc_has e h, ?_⟩
    unfold impl_decoded.f
    exact ev_bind0 htr (Ev.bind (verify_no h) (ev_neg (by simp) (ev_now rfl)))
  have hz := cat_size w 35 z
  by_cases ha : appB w = (cat w 35 z, true)
  case neg =>
    refine Or.inr ⟨fun c r e => ha ?_, ?_⟩
    · have h1 := app_line k c r e.1.1 e.1.2 e.2.1
      have h2 := e.2.2
      rw [← enc_line e hw] at h1 h2
      rw [h1, h2]
    · unfold impl_decoded.f
      exact ev_bind0 htr (Ev.bind (verify_bad hw hx ha) (ev_neg (by simp) (ev_now rfl)))
  obtain ⟨p, q, hp, hq, hcs, hrs, hun⟩ : ∃ p q : ByteArray × ByteArray × Bool, strings_Cut.f w (⟨#[32]⟩ : ByteArray) = some p ∧ strings_Cut.f p.2.1 (⟨#[64]⟩ : ByteArray) = some q ∧ q.1.size ≤ w.size ∧ q.2.1.size ≤ w.size ∧ ∀ c' r', lineB k c' r' = w → nob 64 c' → (0 ≤ k ∧ k ≤ 59) → c' = q.1 ∧ r' = q.2.1 := by
    rcases split_or 32 w with h32 | ⟨a, t, rfl, h32⟩
    · refine ⟨_, _, cut_no h32, cut_no (c := 64) (nob_nil 64), Nat.zero_le _, Nat.zero_le _, fun c' r' e _ _ => absurd h32 ?_⟩
      rw [← e, line_cat]; exact not_nob _ _ _
    · have hz2 := cat_size a 32 t
      rcases split_or 64 t with h64 | ⟨c, r, rfl, h64⟩
      · refine ⟨_, _, cut_yes h32 (by omega), cut_no (c := 64) h64, by show t.size ≤ _; omega, Nat.zero_le _, fun c' r' e _ hk => absurd h64 ?_⟩
        rw [enc_rest e h32 hk]; exact not_nob _ _ _
      · have hz3 := cat_size c 64 r
        refine ⟨_, _, cut_yes h32 (by omega), cut_yes (c := 64) h64 (by show (cat c 64 r).size ≤ _; omega), by show c.size ≤ _; omega, by show r.size ≤ _; omega, fun c' r' e h' hk => ?_⟩
        exact split_uniq (enc_rest e h32 hk).symm h' h64
  have henc := implEnc_ev k q.1 q.2.1 (by omega) (by omega)
  by_cases E : Enc k (cat w 35 z) q.1 q.2.1
  · refine Or.inl ⟨q.1, q.2.1, E, ?_⟩
    unfold impl_decoded.f
    refine ev_bind0 htr (Ev.bind (verify_good hw hx ha) (ev_pos rfl (ev_bind0 hp (ev_bind0 hq (Ev.bind henc ?_)))))
    have hok : encOk k q.1 q.2.1 = true := by unfold encOk; rw [decide_eq_true E.1, E.2.1]; rfl
    unfold encE
    rw [if_pos hok, E.2.2]
    exact ev_pos rfl (ev_pos rfl (ev_now rfl))
  · refine Or.inr ⟨fun c' r' e' => E ?_, ?_⟩
    · obtain ⟨e1, e2⟩ := hun c' r' (enc_line e' hw).symm (rec_no64 e'.2.1) e'.1
      rw [← e1, ← e2]; exact e'
    · unfold impl_decoded.f
      refine ev_bind0 htr (Ev.bind (verify_good hw hx ha) (ev_pos rfl (ev_bind0 hp (ev_bind0 hq (Ev.bind henc ?_)))))
      unfold encE
      by_cases hok : encOk k q.1 q.2.1 = true
      · rw [if_pos hok]
        refine ev_pos rfl (ev_neg (fun e => E ?_) (ev_now rfl))
        unfold encOk at hok
        rw [Bool.and_eq_true] at hok
        exact ⟨of_decide_eq_true hok.1, hok.2, (ba_cut (tl_inj.1 e) (by have := congrArg ByteArray.size (tl_inj.1 e); rw [ByteArray.size_append, ByteArray.size_append, one_size, szl] at this; omega)).1⟩
      · rw [if_neg hok]
        exact ev_neg (by simp) (ev_now rfl)
theorem ba_halves (t : ByteArray) (n : Nat) (hn : n ≤ t.size) : t = t.extract 0 n ++ t.extract n t.size := by
  apply ba_list
  have hl := l_len t
  rw [ba_app, ByteArray.data_extract, ByteArray.data_extract, Array.toList_extract, Array.toList_extract, List.extract_eq_take_drop, List.extract_eq_take_drop, List.drop_zero, Nat.sub_zero, List.take_of_length_le (l := List.drop n _) (by rw [List.length_drop]; omega), List.take_append_drop]
theorem read_ev (k : Int) (hk : 0 ≤ k ∧ k ≤ 59) (x : ByteArray) (hx : x.size ≤ 4194304) : (∃ c r, Enc k x c r ∧ Ev (fun q => spec_l27Read.f q x k) (c, r, true)) ∨ ((∀ c r, ¬ Enc k x c r) ∧ ∃ c r, Ev (fun q => spec_l27Read.f q x k) (c, r, false)) := by
  have hn := numB_size k (by omega) (by omega)
  obtain ⟨t, ts, hsp, hts, hE⟩ : ∃ t ts, Ev (fun q => spec_l1Split.f q x 35) (t :: ts) ∧ t.size ≤ x.size ∧ ∀ c r, Enc k x c r → t = lineB k c r := by
    rcases split_or 35 x with h | ⟨w, z, rfl, hw⟩
    · exact ⟨x, [], split_no h (by omega) 35 rfl, Nat.le_refl _, fun c r e => absurd h (enc_has e)⟩
    · obtain ⟨y, ys, hs⟩ := split_yes (b := z) hw (by omega) 35 rfl
      exact ⟨w, y :: ys, hs, by rw [cat_size]; omega, fun c r e => enc_line e hw⟩
  have hrd : rdOf ByteArray.empty (t :: ts) 0 = t := rfl
  have hah : (numB k ++ (⟨#[32]⟩ : ByteArray)).size = (numB k).size + 1 := by rw [ByteArray.size_append]; rfl
  have open_ : ∀ {r : ByteArray × ByteArray × Bool}, (((t.size : Int) < ((numB k ++ (⟨#[32]⟩ : ByteArray)).size : Int)) → Ev (fun q => spec_l27Read.j0 q x k (numB k ++ (⟨#[32]⟩ : ByteArray)) t true) r) → (¬ ((t.size : Int) < ((numB k ++ (⟨#[32]⟩ : ByteArray)).size : Int)) → Ev (fun q => spec_l27Read.j0 q x k (numB k ++ (⟨#[32]⟩ : ByteArray)) t ((t.extract 0 (numB k ++ (⟨#[32]⟩ : ByteArray)).size).toList != (numB k ++ (⟨#[32]⟩ : ByteArray)).toList)) r) → Ev (fun q => spec_l27Read.f q x k) r := by
    intro r h1 h2
    unfold spec_l27Read.f
    refine Ev.bind (l1Num_ev k (by omega) (by omega)) (ev_pos (by omega) (Ev.bind hsp (ev_pos (by simp) ?_)))
    rw [hrd]
    exact ev_ite h1 (fun c => ev_pos (by omega) (ev_pos (by omega) (h2 c)))
  by_cases hp : ∃ rest, t = (numB k ++ (⟨#[32]⟩ : ByteArray)) ++ rest
  case neg =>
    refine Or.inr ⟨fun c r e => hp ⟨cat c 64 r, by rw [hE c r e, line_pre]⟩, (⟨#[]⟩ : ByteArray), (⟨#[]⟩ : ByteArray), open_ (fun _ => Ev.step (fun k => rfl) (ev_now rfl)) (fun c => ?_)⟩
    refine Ev.step (fun k => rfl) (ev_pos ?_ (ev_now rfl))
    rw [bne_iff_ne]
    intro e
    refine hp ⟨t.extract (numB k ++ (⟨#[32]⟩ : ByteArray)).size t.size, ?_⟩
    conv => lhs; rw [ba_halves t (numB k ++ (⟨#[32]⟩ : ByteArray)).size (by omega)]
    rw [tl_inj.1 e]
  obtain ⟨rest, ht⟩ := hp
  have htz : t.size = (numB k ++ (⟨#[32]⟩ : ByteArray)).size + rest.size := by rw [ht, ByteArray.size_append]
  have e0 : t.extract 0 (numB k ++ (⟨#[32]⟩ : ByteArray)).size = numB k ++ (⟨#[32]⟩ : ByteArray) := by rw [ht]; exact ByteArray.extract_append_eq_left rfl
  have e1 : t.extract (numB k ++ (⟨#[32]⟩ : ByteArray)).size t.size = rest := by rw [htz, ht]; exact ByteArray.extract_append_eq_right rfl rfl
  have go : ∀ {r : ByteArray × ByteArray × Bool}, (∀ b, b = false → Ev (fun q => spec_l27Read.j0 q x k (numB k ++ (⟨#[32]⟩ : ByteArray)) t b) r) → Ev (fun q => spec_l27Read.f q x k) r := by
    intro r h
    refine open_ (fun c => absurd c (by omega)) (fun c => h _ ?_)
    rw [e0, bne_self_eq_false]
  have hrest : ∀ c r, Enc k x c r → rest = cat c 64 r := by
    intro c r e
    have h1 := hE c r e
    rw [ht, line_pre] at h1
    exact (ba_cut h1 rfl).2
  rcases split_or 64 rest with h64 | ⟨c, r, hc, h64⟩
  · refine Or.inr ⟨fun c r e => not_nob 64 c r (hrest c r e ▸ h64), (⟨#[]⟩ : ByteArray), (⟨#[]⟩ : ByteArray), go (fun bb hbb => ?_)⟩
    refine Ev.step (fun k => rfl) (ev_neg (by rw [hbb]; simp) (ev_pos (by omega) (ev_pos (by omega) ?_)))
    rw [e1]
    exact Ev.bind (split_no h64 (by omega) 64 rfl) (ev_pos (by simp) (ev_pos rfl (ev_now rfl)))
  have hcz := cat_size c 64 r
  rw [← hc] at hcz
  obtain ⟨y, ys, hs⟩ := split_yes (b := r) h64 (by rw [← hc]; omega) 64 rfl
  rw [← hc] at hs
  have hw : wrap64 ((c.size : Int) + 1) = ((c.size + 1 : Nat) : Int) := wrap_succ (show c.size < rest.size by omega) (by omega)
  have e2 : rest.extract (c.size + 1) rest.size = r := by rw [hc]; exact cat_right c 64 r
  have hrd2 : rdOf ByteArray.empty (c :: y :: ys) 0 = c := rfl
  have hgood := l27Good_ev c r (by omega) (by omega)
  have go2 : ∀ {o : ByteArray × ByteArray × Bool}, (recB c r = true → Ev (fun q => (spec_l27Line.f q k c r).bind fun t113 => if x.size + 1 ≤ 9223372036854775807 then some (c, r, t113.toList == (x ++ (⟨#[10]⟩ : ByteArray)).toList) else none) o) → (¬ recB c r = true → o = (c, r, false)) → Ev (fun q => spec_l27Read.f q x k) o := by
    intro o h1 h2
    refine go (fun bb hbb => Ev.step (fun k => rfl) (ev_neg (by rw [hbb]; simp) (ev_pos (by omega) (ev_pos (by omega) ?_))))
    rw [e1]
    refine Ev.bind hs ?_
    rw [hrd2, hw, Int.toNat_natCast, e2]
    refine ev_pos (by rw [List.length_cons]; omega) (ev_neg (by omega) (ev_pos (by omega) (ev_pos (by omega) (Ev.bind hgood (ev_ite h1 (fun c => ev_now (h2 c).symm))))))
  by_cases E : Enc k x c r
  · refine Or.inl ⟨c, r, E, go2 (fun h => ?_) (fun h => absurd E.2.1 h)⟩
    obtain ⟨hs1, hls, hlr, hr1⟩ := recB_iff h
    refine Ev.bind (l27Line_ev k c r hk.1 hk.2 hs1.2 hr1) (ev_pos (by omega) (ev_now ?_))
    rw [E.2.2, beq_self_eq_true]
  · refine Or.inr ⟨fun c' r' e' => E ?_, c, r, go2 (fun h => ?_) (fun _ => rfl)⟩
    · have h1 := hrest c' r' e'
      rw [hc] at h1
      obtain ⟨rfl, rfl⟩ := split_uniq h1 h64 (rec_no64 e'.2.1)
      exact e'
    · obtain ⟨hs1, hls, hlr, hr1⟩ := recB_iff h
      refine Ev.bind (l27Line_ev k c r hk.1 hk.2 hs1.2 hr1) (ev_pos (by omega) (ev_now ?_))
      have : ((sealB (lineB k c r) ++ (⟨#[10]⟩ : ByteArray)).toList == (x ++ (⟨#[10]⟩ : ByteArray)).toList) = false := by
        rw [beq_eq_false_iff_ne]
        intro e
        exact E ⟨hk, h, (ba_cut (tl_inj.1 e) (by have := congrArg ByteArray.size (tl_inj.1 e); rw [ByteArray.size_append, ByteArray.size_append, szl] at this; omega)).1⟩
      rw [this]
end Go.Proofs.YtkdibcifamlciaaDoor.X
set_option linter.unusedVariables false
set_option linter.unusedSimpArgs false
namespace Go.Proofs.YtkdibcifamlciaaDoor.X
open Go.RowKit Go.Proofs.YtkdibcifamlciaaDoorW.PrintWords Go.Proofs.YtkdibcifamlciaaDoor.E
def Stop (k : Nat) (t : ByteArray) : Prop := ∀ a b, t = cat a 10 b → nob 10 a → ∀ c r, ¬ Enc (k : Int) a c r
def Parse : Nat → ByteArray → List S25 → ByteArray → Prop
  | k, s, [], t => s = t ∧ Stop k t
  | k, s, e :: L, t => ∃ a b, s = cat a 10 b ∧ nob 10 a ∧ Enc (k : Int) a e.f0 e.f1 ∧ Parse (k + 1) b L t
theorem parse_ex : ∀ (n : Nat) (s : ByteArray) (k : Nat), s.size ≤ n → ∃ L t, Parse k s L t := by
  intro n
  induction n with
  | zero =>
    intro s k hs
    refine ⟨[], s, rfl, fun a b e _ => ?_⟩
    rw [e, cat_size] at hs; omega
  | succ n ih =>
    intro s k hs
    rcases split_or 10 s with h | ⟨a, b, rfl, ha⟩
    · exact ⟨[], s, rfl, fun a b e _ => absurd h (by rw [e]; exact not_nob _ _ _)⟩
    by_cases hE : ∃ c r, Enc (k : Int) a c r
    · obtain ⟨c, r, hE⟩ := hE
      rw [cat_size] at hs
      obtain ⟨L, t, h⟩ := ih b (k + 1) (by omega)
      exact ⟨⟨c, r⟩ :: L, t, a, b, rfl, ha, hE, h⟩
    · refine ⟨[], cat a 10 b, rfl, fun a' b' e ha' c r h => hE ⟨c, r, ?_⟩⟩
      rw [(split_uniq e ha ha').1]; exact h
theorem parse_uniq : ∀ (L L' : List S25) (k : Nat) (s t t' : ByteArray), Parse k s L t → Parse k s L' t' → L = L' ∧ t = t'
  | [], [], k, s, t, t', h, h' => ⟨rfl, h.1.symm.trans h'.1⟩
  | [], e :: L', k, s, t, t', h, h' => by
    obtain ⟨a, b, e1, e2, e3, _⟩ := h'
    exact absurd e3 (h.2 a b (h.1.symm.trans e1) e2 _ _)
  | e :: L, [], k, s, t, t', h, h' => by
    obtain ⟨a, b, e1, e2, e3, _⟩ := h
    exact absurd e3 (h'.2 a b (h'.1.symm.trans e1) e2 _ _)
  | e :: L, e' :: L', k, s, t, t', h, h' => by
    obtain ⟨a, b, e1, e2, e3, e4⟩ := h
    obtain ⟨a', b', f1, f2, f3, f4⟩ := h'
    obtain ⟨rfl, rfl⟩ := split_uniq (e1.symm.trans f1) e2 f2
    obtain ⟨g1, g2⟩ := enc_uniq e3 f3
    obtain ⟨rfl, rfl⟩ := parse_uniq L L' (k + 1) b t t' e4 f4
    obtain ⟨x0, x1⟩ := e
    obtain ⟨y0, y1⟩ := e'
    obtain rfl : x0 = y0 := g1
    obtain rfl : x1 = y1 := g2
    exact ⟨rfl, rfl⟩
def lsz (k : Nat) (e : S25) : Nat := (sealB (lineB (k : Int) e.f0 e.f1)).size + 1
def sizeL : Nat → List S25 → Nat
  | _, [] => 0
  | k, e :: L => lsz k e + sizeL (k + 1) L
def endsL : Nat → Nat → List S25 → List Int
  | _, _, [] => []
  | k, p, e :: L => ((p + lsz k e : Nat) : Int) :: endsL (k + 1) (p + lsz k e) L
theorem enc_lsz {k : Nat} {a : ByteArray} {e : S25} (h : Enc (k : Int) a e.f0 e.f1) : a.size + 1 = lsz k e := by unfold lsz; rw [h.2.2]
theorem enc_small {k : Nat} {a : ByteArray} {e : S25} (h : Enc (k : Int) a e.f0 e.f1) : lsz k e ≤ 425 ∧ k ≤ 59 := by
  obtain ⟨hs, hls, hlr, hr⟩ := recB_iff h.2.1
  have h1 := line_size k e.f0 e.f1 h.1.1 h.1.2 hs.2 hr
  have h2 := sum_size (lineB k e.f0 e.f1)
  have h3 := h.1.2
  refine ⟨?_, by omega⟩
  unfold lsz sealB
  rw [ByteArray.size_append, ByteArray.size_append, szl]
  omega
theorem parse_size : ∀ (L : List S25) (k : Nat) (s t : ByteArray), Parse k s L t → s.size = sizeL k L + t.size
  | [], k, s, t, h => by rw [h.1, sizeL, Nat.zero_add]
  | e :: L, k, s, t, h => by
    obtain ⟨a, b, e1, e2, e3, e4⟩ := h
    have := parse_size L (k + 1) b t e4
    rw [e1, cat_size, sizeL, ← enc_lsz e3]
    omega
theorem parse_len : ∀ (L : List S25) (k : Nat) (s t : ByteArray), Parse k s L t → k ≤ 60 → k + L.length ≤ 60 ∧ sizeL k L ≤ 425 * L.length
  | [], k, s, t, h, hk => ⟨hk, Nat.zero_le _⟩
  | e :: L, k, s, t, h, hk => by
    obtain ⟨a, b, e1, e2, e3, e4⟩ := h
    have h1 := enc_small e3
    have := parse_len L (k + 1) b t e4 (by omega)
    rw [sizeL, List.length_cons]
    omega
theorem ends_len : ∀ (L : List S25) (k p : Nat), (endsL k p L).length = L.length
  | [], _, _ => rfl
  | e :: L, k, p => by rw [endsL, List.length_cons, List.length_cons, ends_len L]
theorem ends_last : ∀ (L : List S25) (k p : Nat), L ≠ [] → (endsL k p L).getD (L.length - 1) 0 = ((p + sizeL k L : Nat) : Int)
  | [], _, _, h => absurd rfl h
  | [e], k, p, _ => rfl
  | e :: e' :: L, k, p, _ => by
    have := ends_last (e' :: L) (k + 1) (p + lsz k e) (by simp)
    rw [endsL, sizeL, ← Nat.add_assoc, ← this]
    rfl
theorem ext_mid (p m b : ByteArray) : ((p ++ m) ++ b).extract p.size (p.size + m.size) = m := by
  apply ba_list
  have h1 := l_len p
  have h2 := l_len m
  rw [ByteArray.data_extract, Array.toList_extract, List.extract_eq_take_drop, ba_app, ba_app, List.append_assoc, List.drop_left' h1, List.take_left' (by omega)]
theorem ext_end (p b : ByteArray) : (p ++ b).extract p.size (p ++ b).size = b := by rw [ByteArray.size_append]; exact ByteArray.extract_append_eq_right rfl rfl
theorem idx10 (x : ByteArray) : strings_IndexByte.f x 10 = some (Lib.indexByte x.data.toList 10) := rfl
theorem impl_loop : ∀ (L : List S25) (k : Nat) (b t : ByteArray), Parse k b L t → ∀ (x pre : ByteArray) (L0 : List S25) (E0 : List Int), x = pre ++ b → x.size ≤ 4194304 → L0.length = k → E0.length ≤ k → k ≤ 60 → Ev (fun q => impl_readRecords.l0 q x L0 E0 (pre.size : Int)) (L0 ++ L, E0 ++ endsL k pre.size L) := by
  have start : ∀ (a b x pre : ByteArray) (L0 : List S25) (E0 : List Int), nob 10 a → x = pre ++ cat a 10 b → x.size ≤ 4194304 → ∀ {o : List S25 × List Int}, Ev (fun q => (impl_decoded.f q (L0.length : Int) (a ++ one 10)).bind fun bt108 => (if bt108.2.2 = true then (if L0.length < 4398046511104 then (if E0.length < 17592186044416 then (impl_readRecords.l0 q x (L0 ++ [(⟨bt108.1, bt108.2.1⟩ : S25)]) (E0 ++ [((pre.size + (a.size + 1) : Nat) : Int)]) ((pre.size + (a.size + 1) : Nat) : Int)) else (none)) else (none)) else (some (L0, E0)))) o → Ev (fun q => impl_readRecords.l0 q x L0 E0 (pre.size : Int)) o := by
    intro a b x pre L0 E0 ha hx hs o h
    have hz : x.size = pre.size + (a.size + 1 + b.size) := by rw [hx, ByteArray.size_append, cat_size]
    have e1 : x.extract pre.size x.size = cat a 10 b := by rw [hx]; exact ext_end _ _
    have w1 : wrap64 ((pre.size : Int) + (a.size : Int)) = (pre.size : Int) + (a.size : Int) := wrap_id (by omega) (by omega)
    have w2 : wrap64 ((pre.size : Int) + (a.size : Int) + 1) = ((pre.size + (a.size + 1) : Nat) : Int) := by rw [wrap_id (by omega) (by omega)]; omega
    have w3 : wrap64 ((a.size : Int) + 1) = ((a.size + 1 : Nat) : Int) := wrap_succ (show a.size < x.size by omega) (by omega)
    have w4 : wrap64 ((pre.size : Int) + ((a.size + 1 : Nat) : Int)) = ((pre.size + (a.size + 1) : Nat) : Int) := by rw [wrap_id (by omega) (by omega)]; omega
    have e2 : x.extract pre.size (pre.size + (a.size + 1)) = a ++ one 10 := by
      rw [hx]
      have := ext_mid pre (a ++ one 10) b
      rw [ByteArray.append_assoc, ByteArray.size_append, one_size] at this
      exact this
    refine Ev.step (fun k => rfl) (ev_pos (by omega) (ev_pos (by omega) ?_))
    rw [Int.toNat_natCast, e1]
    refine ev_bind0 ((idx10 _).trans (congrArg some (idx_yes ha))) (ev_neg (by omega) ?_)
    rw [w1, w2, w3, w4]
    refine ev_pos (by omega) (ev_pos (by omega) ?_)
    rw [Int.toNat_natCast, e2]
    exact h
  intro L
  induction L with
  | nil =>
    intro k b t hP x pre L0 E0 hx hs hL hE hk
    obtain ⟨rfl, hst⟩ := hP
    rw [endsL, List.append_nil, List.append_nil]
    have hz : x.size = pre.size + b.size := by rw [hx, ByteArray.size_append]
    rcases split_or 10 b with h | ⟨a, b', rfl, ha⟩
    · have e1 : x.extract pre.size x.size = b := by rw [hx]; exact ext_end _ _
      refine Ev.step (fun k => rfl) (ev_pos (by omega) (ev_pos (by omega) ?_))
      rw [Int.toNat_natCast, e1]
      exact ev_bind0 ((idx10 _).trans (congrArg some (idx_no h))) (ev_pos (by omega) (ev_now rfl))
    · refine start a b' x pre L0 E0 ha hx hs ?_
      have hz2 := cat_size a 10 b'
      rcases dec_ev (L0.length : Int) a (by omega) with ⟨c, r, he, _⟩ | ⟨_, hv⟩
      · rw [hL] at he
        exact absurd he (hst a b' rfl ha c r)
      · exact Ev.bind hv (ev_neg (by simp) (ev_now rfl))
  | cons e L ih =>
    intro k b t hP x pre L0 E0 hx hs hL hE hk
    obtain ⟨a, b', rfl, ha, he, hP'⟩ := hP
    have hz2 := cat_size a 10 b'
    have hz : x.size = pre.size + (cat a 10 b').size := by rw [hx, ByteArray.size_append]
    have hsm := enc_small he
    refine start a b' x pre L0 E0 ha hx hs ?_
    rcases dec_ev (L0.length : Int) a (by omega) with ⟨c, r, he', hv⟩ | ⟨hno, _⟩
    · rw [hL] at he'
      obtain ⟨rfl, rfl⟩ := enc_uniq he' he
      refine Ev.bind hv (ev_pos rfl (ev_pos (by omega) (ev_pos (by omega) ?_)))
      have h := ih (k + 1) b' t hP' x (pre ++ (a ++ one 10)) (L0 ++ [e]) (E0 ++ [((pre.size + (a.size + 1) : Nat) : Int)]) (by rw [hx]; unfold cat; rw [ByteArray.append_assoc, ByteArray.append_assoc, ByteArray.append_assoc]) hs (by rw [List.length_append, hL]; rfl) (by rw [List.length_append, List.length_singleton]; omega) (by omega)
      have hps : (pre ++ (a ++ one 10)).size = pre.size + (a.size + 1) := by rw [ByteArray.size_append, ByteArray.size_append, one_size]
      rw [hps, List.append_assoc, List.append_assoc] at h
      rw [endsL, ← enc_lsz he]
      exact h
    · rw [hL] at hno
      exact absurd he (hno _ _)
theorem spec_loop : ∀ (L : List S25) (k : Nat) (b t : ByteArray), Parse k b L t → ∀ (x pre : ByteArray) (L0 : List S25), x = pre ++ b → x.size ≤ 4194304 → L0.length = k → k ≤ 60 → Ev (fun q => spec_l27Open.l0 q x L0 (pre.size : Int)) (L0 ++ L, ((pre.size + sizeL k L : Nat) : Int)) := by
  have stop : ∀ (x pre : ByteArray) (L0 : List S25), Ev (fun q => spec_l27Open.j1 q x L0 (pre.size : Int) false) (L0, (pre.size : Int)) := fun x pre L0 => Ev.step (fun k => rfl) (ev_now rfl)
  intro L
  induction L with
  | nil =>
    intro k b t hP x pre L0 hx hs hL hk
    obtain ⟨rfl, hst⟩ := hP
    rw [sizeL, List.append_nil, Nat.add_zero]
    have hz : x.size = pre.size + b.size := by rw [hx, ByteArray.size_append]
    have e1 : x.extract pre.size x.size = b := by rw [hx]; exact ext_end _ _
    refine Ev.step (fun k => rfl) (ev_ite (fun c => ?_) (fun _ => stop _ _ _))
    by_cases h60 : L0.length < 60
    case neg => rw [decide_eq_false (by omega)]; exact stop _ _ _
    refine Ev.step (fun k => rfl) (ev_pos (decide_eq_true (by omega)) (ev_pos (by omega) (ev_pos (by omega) ?_)))
    rw [Int.toNat_natCast, e1]
    rcases split_or 10 b with h | ⟨a, b', rfl, ha⟩
    · obtain ⟨c, r, o, hv⟩ : ∃ c r o, Ev (fun q => spec_l27Read.f q b (L0.length : Int)) (c, r, o) := by
        rcases read_ev (L0.length : Int) (by omega) b (by omega) with ⟨c, r, _, hv⟩ | ⟨_, c, r, hv⟩
        · exact ⟨c, r, _, hv⟩
        · exact ⟨c, r, _, hv⟩
      exact Ev.bind (split_no h (by omega) 10 rfl) (ev_pos (by simp) (Ev.bind hv (ev_pos (by simp) (ev_now rfl))))
    · have hz2 := cat_size a 10 b'
      obtain ⟨y, ys, hsp⟩ := split_yes (b := b') ha (by omega) 10 rfl
      refine Ev.bind hsp (ev_pos (by rw [List.length_cons]; omega) ?_)
      rcases read_ev (L0.length : Int) (by omega) a (by omega) with ⟨c, r, he, _⟩ | ⟨_, c, r, hv⟩
      · rw [hL] at he
        exact absurd he (hst a b' rfl ha c r)
      · exact Ev.bind hv (ev_neg (by rw [List.length_cons, List.length_cons]; omega) (ev_neg (by simp) (ev_now rfl)))
  | cons e L ih =>
    intro k b t hP x pre L0 hx hs hL hk
    obtain ⟨a, b', rfl, ha, he, hP'⟩ := hP
    have hz2 := cat_size a 10 b'
    have hz : x.size = pre.size + (cat a 10 b').size := by rw [hx, ByteArray.size_append]
    have e1 : x.extract pre.size x.size = cat a 10 b' := by rw [hx]; exact ext_end _ _
    have hsm := enc_small he
    have w1 : wrap64 ((pre.size : Int) + (a.size : Int)) = (pre.size : Int) + (a.size : Int) := wrap_id (by omega) (by omega)
    have w2 : wrap64 ((pre.size : Int) + (a.size : Int) + 1) = ((pre.size + (a.size + 1) : Nat) : Int) := by rw [wrap_id (by omega) (by omega)]; omega
    refine Ev.step (fun k => rfl) (ev_pos (by omega) ?_)
    refine Ev.step (fun k => rfl) (ev_pos (decide_eq_true (by omega)) (ev_pos (by omega) (ev_pos (by omega) ?_)))
    rw [Int.toNat_natCast, e1]
    obtain ⟨y, ys, hsp⟩ := split_yes (b := b') ha (by omega) 10 rfl
    have hrd : rdOf ByteArray.empty (a :: y :: ys) 0 = a := rfl
    refine Ev.bind hsp (ev_pos (by rw [List.length_cons]; omega) ?_)
    rw [hrd, w1, w2]
    rcases read_ev (L0.length : Int) (by omega) a (by omega) with ⟨c, r, he', hv⟩ | ⟨hno, _⟩
    · rw [hL] at he'
      obtain ⟨rfl, rfl⟩ := enc_uniq he' he
      refine Ev.bind hv (ev_neg (by rw [List.length_cons, List.length_cons]; omega) (ev_pos rfl (ev_pos (by omega) ?_)))
      have h := ih (k + 1) b' t hP' x (pre ++ (a ++ one 10)) (L0 ++ [e]) (by rw [hx]; unfold cat; rw [ByteArray.append_assoc, ByteArray.append_assoc, ByteArray.append_assoc]) hs (by rw [List.length_append, hL]; rfl) (by omega)
      have hps : (pre ++ (a ++ one 10)).size = pre.size + (a.size + 1) := by rw [ByteArray.size_append, ByteArray.size_append, one_size]
      rw [hps, List.append_assoc, Nat.add_assoc pre.size (a.size + 1)] at h
      rw [sizeL, ← enc_lsz he]
      exact h
    · rw [hL] at hno
      exact absurd he (hno _ _)
theorem nil_app (s : ByteArray) : s = (⟨#[]⟩ : ByteArray) ++ s := ba_list (by rw [ba_app]; rfl)
theorem implRead_ev (s : ByteArray) (L : List S25) (t : ByteArray) (h : Parse 0 s L t) (hs : s.size ≤ 4194304) : Ev (fun q => impl_readRecords.f q s) (L, endsL 0 0 L) := impl_loop L 0 s t h s (⟨#[]⟩ : ByteArray) [] [] (nil_app s) hs rfl (Nat.le_refl _) (by omega)
theorem specOpen_ev (s : ByteArray) (L : List S25) (t : ByteArray) (h : Parse 0 s L t) (hs : s.size ≤ 4194304) : Ev (fun q => spec_l27Open.f q s) (L, (sizeL 0 L : Int)) := by
  have h := spec_loop L 0 s t h s (⟨#[]⟩ : ByteArray) [] (nil_app s) hs rfl (by omega)
  rw [show (⟨#[]⟩ : ByteArray).size = 0 from rfl, Nat.zero_add, List.nil_append] at h
  exact h
end Go.Proofs.YtkdibcifamlciaaDoor.X
set_option linter.unusedVariables false
set_option linter.unusedSimpArgs false
namespace Go.Proofs.YtkdibcifamlciaaDoor.X
open Go.RowKit Go.Proofs.YtkdibcifamlciaaDoorW.PrintWords Go.Proofs.YtkdibcifamlciaaDoor.E
theorem app_cat (a : ByteArray) (c : UInt8) (b P : ByteArray) : cat a c b ++ P = cat a c (b ++ P) := by unfold cat; rw [ByteArray.append_assoc]
theorem stop_nil (k : Nat) : Stop k (⟨#[]⟩ : ByteArray) := by
  intro a b e _
  have := congrArg ByteArray.size e
  rw [cat_size, show (⟨#[]⟩ : ByteArray).size = 0 from rfl] at this
  omega
theorem size_nil {t : ByteArray} (h : t.size = 0) : t = (⟨#[]⟩ : ByteArray) := ba_list (by
  have := l_len t
  rw [List.eq_nil_of_length_eq_zero (by omega : t.data.toList.length = 0)])
theorem parse_app : ∀ (L1 : List S25) (k : Nat) (D P : ByteArray) (L2 : List S25) (t : ByteArray), Parse k D L1 (⟨#[]⟩ : ByteArray) → Parse (k + L1.length) P L2 t → Parse k (D ++ P) (L1 ++ L2) t
  | [], k, D, P, L2, t, h, h' => by rw [h.1, ← nil_app]; exact h'
  | e :: L1, k, D, P, L2, t, h, h' => by
    obtain ⟨a, b, e1, e2, e3, e4⟩ := h
    refine ⟨a, b ++ P, by rw [e1, app_cat], e2, e3, parse_app L1 (k + 1) b P L2 t e4 ?_⟩
    rw [List.length_cons] at h'
    rw [show k + 1 + L1.length = k + (L1.length + 1) by omega]
    exact h'
theorem ends_gt : ∀ (L : List S25) (k p : Nat) (x : Int), x ∈ endsL k p L → (p : Int) < x
  | [], _, _, x, h => nomatch h
  | e :: L, k, p, x, h => by
    rw [endsL] at h
    have hl : 0 < lsz k e := Nat.succ_pos _
    rcases List.mem_cons.1 h with rfl | h
    · omega
    · have := ends_gt L (k + 1) (p + lsz k e) x h
      omega
theorem ends_has : ∀ (L1 L2 : List S25) (k p : Nat), L1 ≠ [] → ((p + sizeL k L1 : Nat) : Int) ∈ endsL k p (L1 ++ L2)
  | [], _, _, _, h => absurd rfl h
  | [e], L2, k, p, _ => by
    rw [List.cons_append, endsL, sizeL, sizeL, Nat.add_zero]
    exact List.mem_cons_self ..
  | e :: e' :: L1, L2, k, p, _ => by
    have := ends_has (e' :: L1) L2 (k + 1) (p + lsz k e) (by simp)
    rw [List.cons_append, endsL, sizeL, ← Nat.add_assoc]
    exact List.mem_cons_of_mem _ this
theorem ends_cut : ∀ (L : List S25) (k p : Nat) (D P t : ByteArray), Parse k (D ++ P) L t → ((p + D.size : Nat) : Int) ∈ endsL k p L → ∃ L1, Parse k D L1 (⟨#[]⟩ : ByteArray)
  | [], _, _, _, _, _, _, h => nomatch h
  | e :: L, k, p, D, P, t, hP, h => by
    obtain ⟨a, b, e1, e2, e3, e4⟩ := hP
    have hz := enc_lsz e3
    have hsp : (a ++ one 10).size = a.size + 1 := by rw [ByteArray.size_append]; rfl
    rw [endsL] at h
    rcases List.mem_cons.1 h with h | h
    · have hD : D = a ++ one 10 := (ba_cut (b := P) (b' := b) e1 (by omega)).1
      refine ⟨[e], a, (⟨#[]⟩ : ByteArray), ?_, e2, e3, rfl, stop_nil _⟩
      rw [hD]; unfold cat; apply ba_list; rw [ba_app (a ++ one 10)]; simp
    · have h1 := ends_gt L (k + 1) (p + lsz k e) _ h
      have hh := ba_halves D (a.size + 1) (by omega)
      have hs1 : (D.extract 0 (a.size + 1)).size = a.size + 1 := by rw [ByteArray.size_extract]; omega
      have hs2 : (D.extract (a.size + 1) D.size).size = D.size - (a.size + 1) := by rw [ByteArray.size_extract]; omega
      have e5 : D.extract 0 (a.size + 1) ++ (D.extract (a.size + 1) D.size ++ P) = (a ++ one 10) ++ b := by
        rw [← ByteArray.append_assoc, ← hh]; exact e1
      obtain ⟨f1, f2⟩ := ba_cut e5 (by omega)
      rw [← f2] at e4
      obtain ⟨L1, hL⟩ := ends_cut L (k + 1) (p + lsz k e) (D.extract (a.size + 1) D.size) P t e4 (by
        rw [hs2, show p + lsz k e + (D.size - (a.size + 1)) = p + D.size by omega]; exact h)
      refine ⟨e :: L1, a, D.extract (a.size + 1) D.size, ?_, e2, e3, hL⟩
      unfold cat
      rw [← f1]; exact hh
def foldG (d : Int) (s : Bool × Int) (e : Int) : Bool × Int := (s.1 || e == d, e)
theorem fold1 (d : Int) : ∀ (r : List Int) (b : Bool) (v : Int), (r.foldl (foldG d) (b, v)).1 = (b || r.any (fun e => e == d))
  | [], b, v => by simp
  | e :: r, b, v => by
    rw [List.foldl_cons, foldG, fold1 d r, List.any_cons, Bool.or_assoc]
theorem fold2 (d : Int) : ∀ (r : List Int) (b : Bool) (v : Int), (r.foldl (foldG d) (b, v)).2 = r.getD (r.length - 1) v
  | [], b, v => rfl
  | [e], b, v => rfl
  | e :: e' :: r, b, v => by
    rw [List.foldl_cons, foldG, fold2 d (e' :: r)]
    show (e' :: r).getD r.length e = (e :: e' :: r).getD (r.length + 1) v
    rw [getD_in (by simp) e, getD_in (by simp) v]
    rfl
theorem readLoop (x4 : ByteArray) (x5 : List S25) (D P : ByteArray) (n : Int) (en : List Int) (hen : en.length ≤ 9223372036854775807) : ∀ (m i : Nat) (b : Bool) (v : Int), en.length - i = m → i ≤ en.length → Ev (fun q => impl_readLog.l0 q x4 x5 b v en (en.length : Int) (i : Int) D P n) (x5, ((en.drop i).foldl (foldG D.size) (b, v)).1 && (decide (((en.drop i).foldl (foldG D.size) (b, v)).2 = (x4.size : Int)) && ((x5.length : Int) == n))) := by
  intro m
  induction m with
  | zero =>
    intro i b v hm hi
    obtain rfl : i = en.length := by omega
    rw [List.drop_length, List.foldl_nil]
    refine Ev.step (fun k => rfl) (ev_neg (by omega) (ev_ite (fun c => ev_ite (fun d => ev_now ?_) (fun d => ev_now ?_)) (fun c => ev_now ?_)))
    · rw [c, decide_eq_true d]; rfl
    · rw [c, decide_eq_false d]; rfl
    · rw [Bool.not_eq_true] at c; rw [c]; rfl
  | succ m ih =>
    intro i b v hm hi
    have hlt : i < en.length := by omega
    have hrd : rd en (i : Int) = en[i] := by rw [rd_nat]; exact getD_in hlt 0
    rw [List.drop_eq_getElem_cons hlt, List.foldl_cons]
    have h1 := ih (i + 1) (b || en[i] == (D.size : Int)) en[i] (by omega) (by omega)
    refine Ev.step (fun k => rfl) (ev_pos (by omega) (ev_pos (by omega) (ev_pos (by omega) ?_)))
    rw [wrap_succ hlt hen, hrd]
    refine ev_ite (fun c => ?_) (fun c => ?_)
    · rw [c, Bool.true_or] at h1
      rw [foldG, c, Bool.true_or]
      exact h1
    · rw [Bool.not_eq_true] at c
      rw [c, Bool.false_or] at h1
      rw [foldG, c, Bool.false_or]
      exact h1
theorem log_ev (D P : ByteArray) (n : Int) (hs : D.size + P.size ≤ 4194304) : ∃ b L, Ev (fun k => spec_l27Log.f k D P n) b ∧ Ev (fun k => impl_readLog.f k D P n) (L, b) ∧ (b = true → Parse 0 (D ++ P) L (⟨#[]⟩ : ByteArray) ∧ (L.length : Int) = n) := by
  obtain ⟨L, t, hL⟩ := parse_ex (D ++ P).size (D ++ P) 0 (Nat.le_refl _)
  obtain ⟨L1, t1, hL1⟩ := parse_ex D.size D 0 (Nat.le_refl _)
  have hz : (D ++ P).size = D.size + P.size := ByteArray.size_append
  have hzL := parse_size L 0 _ t hL
  have hzL1 := parse_size L1 0 _ t1 hL1
  have hn := parse_len L 0 _ t hL (by omega)
  have hel := ends_len L 0 0
  have hw : wrap64 ((D.size : Int) + (P.size : Int)) = (D.size : Int) + (P.size : Int) := wrap_id (by omega) (by omega)
  have himpl : Ev (fun k => impl_readLog.f k D P n) (L, (((D.size : Int) == 0) || (endsL 0 0 L).any (fun e => e == (D.size : Int))) && (decide ((sizeL 0 L : Int) = ((D ++ P).size : Int)) && ((L.length : Int) == n))) := by
    unfold impl_readLog.f
    refine ev_pos (by omega) (Ev.bind (implRead_ev (D ++ P) L t hL (by omega)) ?_)
    have h := readLoop (D ++ P) L D P n (endsL 0 0 L) (by omega) _ 0 ((D.size : Int) == 0) 0 rfl (Nat.zero_le _)
    rw [List.drop_zero, fold1, fold2] at h
    have hl : (endsL 0 0 L).getD ((endsL 0 0 L).length - 1) 0 = (sizeL 0 L : Int) := by
      rcases L with _ | ⟨e, L⟩
      · rfl
      · rw [ends_len, ends_last _ 0 0 (by simp), Nat.zero_add]
    rw [hl] at h
    exact h
  by_cases hA : sizeL 0 L = D.size + P.size
  case neg =>
    refine ⟨false, L, ?_, ?_, fun h => nomatch h⟩
    · unfold spec_l27Log.f
      rw [hw]
      refine ev_ite (fun _ => ev_now rfl) (fun _ => ev_pos (by omega) (Ev.bind (specOpen_ev _ L t hL (by omega)) (Ev.bind (specOpen_ev _ L1 t1 hL1 (by omega)) (ev_neg (by omega) (ev_now rfl)))))
    · refine ev_cast himpl ?_
      rw [decide_eq_false (by omega)]; simp
  have ht : t = (⟨#[]⟩ : ByteArray) := size_nil (by omega)
  subst ht
  have key : sizeL 0 L1 = D.size ↔ (((D.size : Int) == 0) || (endsL 0 0 L).any (fun e => e == (D.size : Int))) = true := by
    rw [Bool.or_eq_true, beq_iff_eq, List.any_eq_true]
    constructor
    · intro h
      have ht1 : t1 = (⟨#[]⟩ : ByteArray) := size_nil (by omega)
      subst ht1
      obtain ⟨L2, t2, hL2⟩ := parse_ex P.size P (0 + L1.length) (Nat.le_refl _)
      have h3 := parse_app L1 0 D P L2 t2 hL1 hL2
      obtain ⟨rfl, _⟩ := parse_uniq _ _ 0 _ _ _ hL h3
      rcases L1 with _ | ⟨e, L1⟩
      · left
        rw [sizeL] at h
        omega
      · right
        have := ends_has (e :: L1) L2 0 0 (by simp)
        rw [h, Nat.zero_add] at this
        exact ⟨_, this, beq_self_eq_true _⟩
    · rintro (h | ⟨x, hx, e⟩)
      · have hD : D.size = 0 := by omega
        rw [hD] at hzL1
        omega
      · rw [beq_iff_eq] at e
        subst e
        obtain ⟨L3, h3⟩ := ends_cut L 0 0 D P _ hL (by rw [Nat.zero_add]; exact hx)
        obtain ⟨rfl, rfl⟩ := parse_uniq _ _ 0 _ _ _ hL1 h3
        rw [show (⟨#[]⟩ : ByteArray).size = 0 from rfl] at hzL1
        omega
  refine ⟨_, L, ?_, himpl, fun h => ⟨hL, ?_⟩⟩
  · unfold spec_l27Log.f
    rw [hw]
    refine ev_neg (by omega) (ev_pos (by omega) (Ev.bind (specOpen_ev _ L _ hL (by omega)) (Ev.bind (specOpen_ev _ L1 t1 hL1 (by omega)) (ev_pos (by omega) ?_))))
    rw [decide_eq_true (show (sizeL 0 L : Int) = ((D ++ P).size : Int) by omega), Bool.true_and]
    refine ev_ite (fun c => ev_now ?_) (fun c => ev_now ?_)
    · rw [key.1 (by omega), Bool.true_and]
    · have : (((D.size : Int) == 0) || (endsL 0 0 L).any (fun e => e == (D.size : Int))) = false := by
        rw [Bool.eq_false_iff]; intro h; have := key.2 h; omega
      rw [this]; rfl
  · rw [Bool.and_eq_true, Bool.and_eq_true] at h
    exact beq_iff_eq.1 h.2.2
end Go.Proofs.YtkdibcifamlciaaDoor.X
namespace Go.Proofs.YtkdibcifamlciaaDoor.X
open Go.RowKit Go.Proofs.YtkdibcifamlciaaDoorW.PrintWords Go.Proofs.YtkdibcifamlciaaDoorW.PrintLast Go.Proofs.YtkdibcifamlciaaDoorW.PrintMore
attribute [local go_sem] max2_int min2_int max_two min_two max_three min_three max_four min_four   -- for this text's walks alone
set_option linter.unusedVariables false
set_option linter.unusedSimpArgs false
attribute [-simp] ByteArray.size_append ByteArray.size_extract
attribute [-go_sem] ByteArray.size_append'

/-! ### spec_RecoverLog: function 12 -/
def spec_RecoverLog.f (k : Nat) (a0 : ByteArray) : Option (ByteArray × ByteArray × Int × Int × Bool) := if (a0.size : Int) > 30000 then (some ((⟨#[]⟩ : ByteArray), (⟨#[]⟩ : ByteArray), 0, 0, false)) else ((spec_l27Open.f k a0).bind fun bt102 => (if 0 ≤ bt102.2 then (if bt102.2 ≤ (a0.size : Int) then (some (a0.extract 0 (bt102.2 : Int).toNat, (⟨#[]⟩ : ByteArray), (bt102.1.length : Int), bt102.2, true)) else (none)) else (none)))
set_option maxHeartbeats 8000000 in
set_option maxRecDepth 100000 in
theorem spec_RecoverLog.calls (k : Nat) (a0 : ByteArray) (r1 : ByteArray) (r2 : ByteArray) (r3 : Int) (r4 : Int) (r5 : Bool) (w : World) (h : spec_RecoverLog.f k a0 = some (r1, r2, r3, r4, r5)) :
  Calls Tryd.prog 12 #[.string a0] w fun e w' => e = .returned (.tuple #[.agg #[.string r1, .string r2, .int .i64 r3], .int .i64 r4, .bool r5]) ∧ Below w.heap.size w w' := by
 (have hu32 := Tryd.underlying32); (have HB := Aside0.mk (Below.refl w.heap.size w)); (unfold spec_RecoverLog.f at h); (have H := h); clear h; (by_cases c2 : (a0.size : Int) > 30000); (· (rw [if_pos c2] at H); (have c2b0 : decide (30000 < (a0.size : Int)) = true := decide_eq_true c2); (have c2b1 : decide (30000 < a0.size) = true := decide_eq_true (by omega)); clear c2; (simp only [Option.some.injEq, Prod.mk.injEq] at H); (obtain ⟨rfl, rfl, rfl, rfl, rfl⟩ := H); (go_enter Tryd.func12, Tryd.ntmps12); (go_wp2_with (first | ((with_reducible refine gate_dst (N := 2) rfl ?_); refine box_event ?hg (N := 2) ?hd (cs := #[.string (⟨#[]⟩ : ByteArray), .string (⟨#[]⟩ : ByteArray), .int .i64 0]) (t := 32) ?hr ?_; (case hd => rfl); (case hg => rfl); (case hr => first | (go_simp; done) | (go_simp; rfl)); intro gb101 hg w3 hbox hb; have hB_ := zI hb HB; have n0_ := Aside0.mk (below_step hB_ hb); have n1_ := Aside0.mk (hbox); have n2_ := Aside0.mk (bx0 hg hB_); have n3_ := n2_; clear HB; have HB := n0_; have BK101 := n1_; have GW101 := n2_; have GE101 := n3_; clear n0_ n1_ n2_ n3_ hB_ hb hbox hg; have hcz4_0 := cz BK101.out 0; have hcz4_1 := cz BK101.out 1; have hcz4_2 := cz BK101.out 2; have hfz4_0 := blk_frozen BK101.out 0; have hfz4_1 := blk_frozen BK101.out 1; have hfz4_2 := blk_frozen BK101.out 2))); (refine bodyPost_ret (results_ctt rfl _ _ gb101 32 #[.string (⟨#[]⟩ : ByteArray), .string (⟨#[]⟩ : ByteArray), .int .i64 0] (0, 0) _ rfl (by (with_reducible repeat (first | refine kN ?_ _ | refine kD ?_ | refine kA ?_ _)); refine blk_put (cs := #[.string (⟨#[]⟩ : ByteArray), .string (⟨#[]⟩ : ByteArray), .int .i64 0]) ?_ 2 _ rfl; (with_reducible repeat (first | refine kN ?_ _ | refine kD ?_ | refine kA ?_ _)); refine blk_put (cs := #[.string (⟨#[]⟩ : ByteArray), .string (⟨#[]⟩ : ByteArray), .int .i64 0]) ?_ 1 _ rfl; (with_reducible repeat (first | refine kN ?_ _ | refine kD ?_ | refine kA ?_ _)); refine blk_put (cs := #[.string (⟨#[]⟩ : ByteArray), .string (⟨#[]⟩ : ByteArray), .int .i64 0]) ?_ 0 _ rfl; (with_reducible repeat (first | refine kN ?_ _ | refine kD ?_ | refine kA ?_ _)); exact BK101.out) Tryd.underlying32 rfl (by kernel_rfl)) rfl ?_); (exact ⟨by first | rfl | (simp [errW_none, errW_some] <;> rfl) | (simp [*, errW_none, errW_some] <;> rfl), by repeat (first | (with_reducible first | exact HB.out | apply bA | apply bN | apply bD | refine below_set ?_ GE101.out) | exact HB.out)⟩))
 ·rw [if_neg c2] at H
  (have c2b0 : decide (30000 < (a0.size : Int)) = false := decide_eq_false c2); (have c2b1 : decide (30000 < a0.size) = false := decide_eq_false (by omega)); clear c2; (replace H := obS H); (obtain ⟨⟨t102, t103⟩, A5, H⟩ := H); (replace H : (if 0 ≤ t103 then (if t103 ≤ (a0.size : Int) then (some (a0.extract 0 (t103 : Int).toNat, (⟨#[]⟩ : ByteArray), (t102.length : Int), t103, true)) else (none)) else (none)) = some (r1, r2, r3, r4, r5) := H); (by_cases c6 : 0 ≤ t103)
  ·rw [if_pos c6] at H
   (have c6b0 := eq_true c6); (have c6b1 := decide_eq_true c6); clear c6; (by_cases c7 : t103 ≤ (a0.size : Int)); (· (rw [if_pos c7] at H); (have c7b0 := eq_true c7); (have c7b1 := decide_eq_true c7); clear c7; (simp only [Option.some.injEq, Prod.mk.injEq] at H); (obtain ⟨rfl, rfl, rfl, rfl, rfl⟩ := H); (go_enter Tryd.func12, Tryd.ntmps12); (go_wp2_with (first | ((with_reducible refine gate_dst (N := 2) rfl ?_); refine box_event ?hg (N := 2) ?hd (cs := #[.string (⟨#[]⟩ : ByteArray), .string (⟨#[]⟩ : ByteArray), .int .i64 0]) (t := 32) ?hr ?_; (case hd => rfl); (case hg => rfl); (case hr => first | (go_simp; done) | (go_simp; rfl)); intro gb101 hg w8 hbox hb; have hB_ := zI hb HB; have n0_ := Aside0.mk (below_step hB_ hb); have n1_ := Aside0.mk (hbox); have n2_ := Aside0.mk (bx0 hg hB_); have n3_ := n2_; clear HB; have HB := n0_; have BK101 := n1_; have GW101 := n2_; have GE101 := n3_; clear n0_ n1_ n2_ n3_ hB_ hb hbox hg) | ((with_reducible refine gate_callee (f := 39) rfl ?_); refine gL (some 13) Tryd.func39 #[.string a0] ?_; (with_reducible refine (spec_l27Open.calls k a0 t102 t103 _ A5.out).mono ?_); rintro e w9 ⟨v104, rfl, ho0, hb⟩; refine ⟨_, rfl, ?_⟩; have n0_ := Aside0.mk (Kd.R_lower ho0 (below_size (eI HB))); have n1_ := Aside0.mk (kbI hb BK101); have n2_ := Aside0.mk (sI hb HB); clear BK101 HB; have HO105 := n0_; have BK101 := n1_; have HB := n2_; clear n0_ n1_ n2_; (try clear hb); (try clear hb2); (try clear hk); (try clear hi); (try clear ho0); obtain ⟨Ao10, co10, eo10⟩ := Kd.R_slice HO105.out; subst eo10; have hcz11_0 := cz BK101.out 0; have hcz11_1 := cz BK101.out 1; have hcz11_2 := cz BK101.out 2; have hfz11_0 := blk_frozen BK101.out 0; have hfz11_1 := blk_frozen BK101.out 1; have hfz11_2 := blk_frozen BK101.out 2))); (refine bodyPost_ret (results_ctt rfl _ _ gb101 32 #[.string (a0.extract 0 (t103 : Int).toNat), .string (⟨#[]⟩ : ByteArray), .int .i64 (t102.length : Int)] (0, 0) _ rfl (by (with_reducible repeat (first | refine kN ?_ _ | refine kD ?_ | refine kA ?_ _)); refine blk_put (cs := #[.string (a0.extract 0 (t103 : Int).toNat), .string (⟨#[]⟩ : ByteArray), .int .i64 0]) ?_ 2 _ rfl; (with_reducible repeat (first | refine kN ?_ _ | refine kD ?_ | refine kA ?_ _)); refine blk_put (cs := #[.string (a0.extract 0 (t103 : Int).toNat), .string (⟨#[]⟩ : ByteArray), .int .i64 0]) ?_ 1 _ rfl; (with_reducible repeat (first | refine kN ?_ _ | refine kD ?_ | refine kA ?_ _)); refine blk_put (cs := #[.string (⟨#[]⟩ : ByteArray), .string (⟨#[]⟩ : ByteArray), .int .i64 0]) ?_ 0 _ rfl; (with_reducible repeat (first | refine kN ?_ _ | refine kD ?_ | refine kA ?_ _)); exact BK101.out) Tryd.underlying32 rfl (by kernel_rfl)) rfl ?_); (exact ⟨by first | rfl | (simp [errW_none, errW_some] <;> rfl) | (simp [*, errW_none, errW_some] <;> rfl), by repeat (first | (with_reducible first | exact HB.out | apply bA | apply bN | apply bD | refine below_set ?_ GE101.out) | exact HB.out)⟩)); (· (rw [if_neg c7] at H); (exact absurd H (by simp)))
  ·rw [if_neg c6] at H
   exact absurd H (by simp)

end Go.Proofs.YtkdibcifamlciaaDoor.X
set_option linter.unusedVariables false
set_option linter.unusedSimpArgs false
namespace Go.Proofs.YtkdibcifamlciaaDoor.X
open Go.RowKit Go.Proofs.YtkdibcifamlciaaDoorW.PrintWords Go.Proofs.YtkdibcifamlciaaDoor.E
abbrev LR := S25
abbrev nilB : ByteArray := ⟨#[]⟩
structure GoodL (D P : ByteArray) (n : Int) (L : List LR) : Prop where
  small : D.size + P.size ≤ 30000
  dur : ∃ L1, Parse 0 D L1 nilB
  all : Parse 0 (D ++ P) L nilB
  count : (L.length : Int) = n
theorem goodL_count {D P : ByteArray} {n : Int} {L : List LR} (h : GoodL D P n L) : 0 ≤ n ∧ n ≤ 60 := by
  have := (parse_len L 0 _ _ h.all (by omega)).1
  have := h.count
  omega
theorem log_iff (D P : ByteArray) (n : Int) (hs : D.size + P.size ≤ 4194304) : ∃ b L, Ev (fun k => spec_l27Log.f k D P n) b ∧ Ev (fun k => impl_readLog.f k D P n) (L, b) ∧ (b = true → GoodL D P n L) ∧ (∀ L', GoodL D P n L' → b = true ∧ L' = L) := by
  obtain ⟨b, L0, h1, h2, h3⟩ := log_ev D P n hs
  obtain ⟨L, t, hL⟩ := parse_ex (D ++ P).size (D ++ P) 0 (Nat.le_refl _)
  obtain ⟨L1, t1, hL1⟩ := parse_ex D.size D 0 (Nat.le_refl _)
  have hz : (D ++ P).size = D.size + P.size := ByteArray.size_append
  have hzL := parse_size L 0 _ t hL
  have hzL1 := parse_size L1 0 _ t1 hL1
  have hw : wrap64 ((D.size : Int) + (P.size : Int)) = (D.size : Int) + (P.size : Int) := wrap_id (by omega) (by omega)
  have hnz : (nilB).size = 0 := rfl
  have hspec : Ev (fun k => spec_l27Log.f k D P n) (if D.size + P.size ≤ 30000 then (if sizeL 0 L = D.size + P.size then (if sizeL 0 L1 = D.size then ((L.length : Int) == n) else false) else false) else false) := by
    unfold spec_l27Log.f
    rw [hw]
    by_cases c : D.size + P.size ≤ 30000
    · rw [if_pos c]
      refine ev_neg (by omega) (ev_pos (by omega) (Ev.bind (specOpen_ev _ L t hL (by omega)) (Ev.bind (specOpen_ev _ L1 t1 hL1 (by omega)) ?_)))
      by_cases c1 : sizeL 0 L = D.size + P.size
      · rw [if_pos c1]
        refine ev_pos (by omega) ?_
        by_cases c2 : sizeL 0 L1 = D.size
        · rw [if_pos c2]
          exact ev_pos (by omega) (ev_now rfl)
        · rw [if_neg c2]
          exact ev_neg (by omega) (ev_now rfl)
      · rw [if_neg c1]
        exact ev_neg (by omega) (ev_now rfl)
    · rw [if_neg c]
      exact ev_pos (by omega) (ev_now rfl)
  have hb := ev_unique h1 hspec
  refine ⟨b, L0, h1, h2, fun e => ?_, fun L' g => ?_⟩
  · obtain ⟨g1, g2⟩ := h3 e
    rw [e] at hb
    by_cases c : D.size + P.size ≤ 30000
    · rw [if_pos c] at hb
      by_cases c1 : sizeL 0 L = D.size + P.size
      · rw [if_pos c1] at hb
        by_cases c2 : sizeL 0 L1 = D.size
        · refine ⟨c, ⟨L1, ?_⟩, g1, g2⟩
          have : t1 = nilB := size_nil (by omega)
          rw [← this]
          exact hL1
        · rw [if_neg c2] at hb; cases hb
      · rw [if_neg c1] at hb; cases hb
    · rw [if_neg c] at hb; cases hb
  · obtain ⟨g1, ⟨M1, g2⟩, g3, g4⟩ := g
    obtain ⟨rfl, rfl⟩ := parse_uniq _ _ 0 _ _ _ hL g3
    obtain ⟨rfl, rfl⟩ := parse_uniq _ _ 0 _ _ _ hL1 g2
    rw [if_pos g1, if_pos (by omega), if_pos (by omega), g4, beq_self_eq_true] at hb
    refine ⟨hb, ?_⟩
    exact (parse_uniq _ _ 0 _ _ _ (h3 hb).1 g3).1.symm
theorem valid_iff (D P : ByteArray) (n : Int) (hs : D.size + P.size ≤ 4194304) : ∃ b L, Ev (fun k => spec_l27Log.f k D P n) b ∧ Ev (fun k => impl_IsValidLog.f k D P n) b ∧ Ev (fun k => impl_readLog.f k D P n) (L, b) ∧ (b = true → GoodL D P n L) ∧ (∀ L', GoodL D P n L' → b = true ∧ L' = L) := by
  obtain ⟨b, L, h1, h2, h3, h4⟩ := log_iff D P n hs
  exact ⟨b, L, h1, Ev.bind h2 (ev_now rfl), h2, h3, h4⟩
/-- A record's line. -/
def lnN (n : Int) (s r : ByteArray) : ByteArray := sealB (lineB n s r) ++ (⟨#[10]⟩ : ByteArray)
theorem lnN_size (n : Int) (s r : ByteArray) (h : 0 ≤ n ∧ n ≤ 59) (hr : recB s r = true) : (lnN n s r).size ≤ 425 := by
  obtain ⟨hs1, _, _, hr1⟩ := recB_iff hr
  have hl := line_size n s r h.1 h.2 hs1.2 hr1
  have h2 := sum_size (lineB n s r)
  unfold lnN sealB
  simp only [ByteArray.size_append, szl]
  omega
theorem append_cases (D P : ByteArray) (n : Int) (s r : ByteArray) (hz : D.size + P.size ≤ 4194304) (hs : s.size ≤ 9223372036854775807) (hr : r.size ≤ 9223372036854775807) : ∃ v, Ev (fun k => spec_AppendRecord.f k D P n s r) v ∧ Ev (fun k => impl_AppendRecord.f k D P n s r) v ∧ (v = (D, P, n, 1) ∨ v = (D, P, n, 2) ∨ ∃ L, GoodL D P n L ∧ recB s r = true ∧ (0 ≤ n ∧ n ≤ 59) ∧ v = (D, P ++ lnN n s r, n + 1, 0)) := by
  obtain ⟨b, L, h1, h2', h2, h3, h4⟩ := valid_iff D P n hz
  cases b
  · exact ⟨(D, P, n, 1), Ev.bind h1 (ev_neg (by simp) (Ev.step (fun k => rfl) (ev_now rfl))), Ev.bind h2' (ev_neg (by simp) (Ev.step (fun k => rfl) (ev_now rfl))), .inl rfl⟩
  have G := h3 rfl
  have hcn := goodL_count G
  have g1 := l27Good_ev s r hs hr
  have g2 := implRec_ev s r hs hr
  have henc := implEnc_ev n s r hs hr
  by_cases hrec : recB s r = true
  case neg =>
    rw [Bool.not_eq_true] at hrec
    exact ⟨(D, P, n, 1), Ev.bind h1 (ev_pos rfl (Ev.bind g1 (Ev.step (fun k => rfl) (ev_pos (by rw [hrec]; rfl) (ev_now rfl))))), Ev.bind h2' (ev_pos rfl (Ev.bind g2 (Ev.step (fun k => rfl) (ev_pos (by rw [hrec]; rfl) (ev_now rfl))))), .inl rfl⟩
  by_cases h60 : n = 60
  · have hno : encOk n s r = false := by unfold encOk; rw [decide_eq_false (by omega)]; rfl
    rw [encE, if_neg (by rw [hno]; simp)] at henc
    exact ⟨(D, P, n, 2), Ev.bind h1 (ev_pos rfl (Ev.bind g1 (Ev.step (fun k => rfl) (ev_neg (by rw [hrec]; simp) (ev_pos h60 (ev_now rfl)))))), Ev.bind h2' (ev_pos rfl (Ev.bind g2 (Ev.step (fun k => rfl) (ev_neg (by rw [hrec]; simp) (Ev.bind henc (ev_neg (by simp) (ev_now rfl))))))), .inr (.inl rfl)⟩
  · have hok : encOk n s r = true := by unfold encOk; rw [decide_eq_true (by omega), hrec]; rfl
    obtain ⟨hs1, hls, hlr, hr1⟩ := recB_iff hrec
    have hl := lnN_size n s r (by omega) hrec
    have hb : P.size + (sealB (lineB n s r) ++ (⟨#[10]⟩ : ByteArray)).size ≤ 9223372036854775807 := by unfold lnN at hl; omega
    have hw : wrap64 (n + 1) = n + 1 := wrap_id (by omega) (by omega)
    rw [encE, if_pos hok] at henc
    exact ⟨(D, P ++ lnN n s r, n + 1, 0), Ev.bind h1 (ev_pos rfl (Ev.bind g1 (Ev.step (fun k => rfl) (ev_neg (by rw [hrec]; simp) (ev_neg h60 (Ev.bind (l27Line_ev n s r (by omega) (by omega) hs1.2 hr1) (ev_pos hb (ev_now (by rw [hw]; rfl))))))))), Ev.bind h2' (ev_pos rfl (Ev.bind g2 (Ev.step (fun k => rfl) (ev_neg (by rw [hrec]; simp) (Ev.bind henc (ev_pos rfl (ev_pos hb (ev_now (by rw [hw]; rfl))))))))), .inr (.inr ⟨L, G, hrec, by omega, rfl⟩)⟩
theorem sync_cases (D P : ByteArray) (n : Int) (hz : D.size + P.size ≤ 4194304) : (∃ L, GoodL D P n L ∧ Ev (fun k => spec_SyncLog.f k D P n) (D ++ P, nilB, n, true) ∧ Ev (fun k => impl_SyncLog.f k D P n) (D ++ P, nilB, n, true)) ∨ ((∀ L, ¬ GoodL D P n L) ∧ Ev (fun k => spec_SyncLog.f k D P n) (nilB, nilB, 0, false) ∧ Ev (fun k => impl_SyncLog.f k D P n) (nilB, nilB, 0, false)) := by
  obtain ⟨b, L, h1, h2', h2, h3, h4⟩ := valid_iff D P n hz
  cases b
  · exact .inr ⟨fun L' g => (by cases (h4 L' g).1), Ev.bind h1 (ev_neg (by simp) (ev_now rfl)), Ev.bind h2' (ev_neg (by simp) (ev_now rfl))⟩
  · exact .inl ⟨L, h3 rfl, Ev.bind h1 (ev_pos rfl (ev_pos (by omega) (ev_now rfl))), Ev.bind h2' (ev_pos rfl (ev_pos (by omega) (ev_now rfl)))⟩
theorem ext_nil0 (s : ByteArray) : s.extract 0 0 = nilB := by
  apply ba_list
  rw [ByteArray.data_extract, Array.toList_extract, List.extract_eq_take_drop]
  rfl
theorem implRec_ev2 (s : ByteArray) (L : List LR) (t : ByteArray) (h : Parse 0 s L t) (hs : ¬ (s.size : Int) > 30000) : Ev (fun k => impl_RecoverLog.f k s) (s.extract 0 (sizeL 0 L), nilB, (L.length : Int), (sizeL 0 L : Int), true) := by
  have hz := parse_size L 0 s t h
  unfold impl_RecoverLog.f
  refine ev_neg hs (Ev.bind (implRead_ev s L t h (by omega)) ?_)
  rcases L with _ | ⟨e, L⟩
  · refine ev_neg (by simp [endsL]) (ev_pos (by omega) (ev_pos (by omega) (ev_now ?_)))
    rw [show sizeL 0 ([] : List LR) = 0 from rfl, ext_nil0]
    rfl
  · have hl := ends_len (e :: L) 0 0
    have hla := ends_last (e :: L) 0 0 (by simp)
    have hlen : (e :: L).length = L.length + 1 := rfl
    have hb := (parse_len (e :: L) 0 s t h (by omega)).1
    have hw : wrap64 (((endsL 0 0 (e :: L)).length : Int) - 1) = (((e :: L).length - 1 : Nat) : Int) := by rw [hl]; exact wrap_pred (by omega) (by omega)
    have hr : rd (endsL 0 0 (e :: L)) (((e :: L).length - 1 : Nat) : Int) = (sizeL 0 (e :: L) : Int) := by rw [rd_nat, hla, Nat.zero_add]
    refine ev_pos (by simp only [hl]; omega) ?_
    simp only [hw, hr, Int.toNat_natCast]
    refine ev_pos (by omega) (ev_pos (by omega) (ev_pos (by omega) (ev_pos (by omega) (ev_now rfl))))
end Go.Proofs.YtkdibcifamlciaaDoor.X
set_option linter.unusedVariables false
set_option linter.unusedSimpArgs false
namespace Go.Proofs.YtkdibcifamlciaaDoor.X
open Go.RowKit Go.Proofs.YtkdibcifamlciaaDoorW.PrintWords Go.Proofs.YtkdibcifamlciaaDoor.E
theorem rep3 : (strOfNums (List.replicate 3 0)).size ≤ 12 := by
  unfold strOfNums
  first | decide | simp
theorem logRecord_tot {l : List Int} {a : Int} (s : Int) (h : Cu l a) (hb : a ≤ 999900) : ∃ c r a' s', spec_l1Cur_logRecord.f l a s = some (c, r, a', s') ∧ c.size ≤ 12 ∧ r.size ≤ 12 ∧ Cu l a' ∧ (a ≤ a' ∧ a' ≤ a + 8) := by
  unfold spec_l1Cur_logRecord.f
  obtain ⟨v1, a1, s1, e1, m1, c1, b1⟩ := of_tot s [(⟨#[99, 111, 117, 110, 116]⟩ : ByteArray), (⟨#[115, 111, 114, 116, 32, 109, 101, 114, 103, 101]⟩ : ByteArray), (⟨#[120]⟩ : ByteArray), (⟨#[115, 101, 108, 101, 99, 116, 32, 50]⟩ : ByteArray), (⟨#[48, 32, 49]⟩ : ByteArray)] (by decide) h (by omega)
  obtain ⟨v2, a2, s2, e2, m2, c2, b2⟩ := of_tot s1 [(⟨#[]⟩ : ByteArray), (⟨#[51]⟩ : ByteArray), (⟨#[63]⟩ : ByteArray), (⟨#[97, 64, 98]⟩ : ByteArray), (⟨#[51, 32, 49, 32, 50]⟩ : ByteArray)] (by decide) c1 (by omega)
  obtain ⟨v3, a3, s3, e3, n3, c3, b3⟩ := pick_in s2 24 (by omega) c2 (by omega)
  have z1 : v1.size ≤ 12 := by
    simp only [List.mem_cons, List.mem_nil_iff, or_false] at m1
    rcases m1 with rfl | rfl | rfl | rfl | rfl <;> decide
  have z2 : v2.size ≤ 12 := by
    simp only [List.mem_cons, List.mem_nil_iff, or_false] at m2
    rcases m2 with rfl | rfl | rfl | rfl | rfl <;> decide
  rw [e1, Option.bind_some]
  dsimp only
  rw [e2, Option.bind_some]
  dsimp only
  rw [e3, Option.bind_some]
  dsimp only
  by_cases d0 : v3 = 0
  · obtain ⟨v4, a4, s4, e4, m4, c4, b4⟩ := of_tot s3 [(⟨#[]⟩ : ByteArray), (⟨#[97, 64, 98]⟩ : ByteArray), (⟨#[97, 35]⟩ : ByteArray), (⟨#[10]⟩ : ByteArray), strOfNums (List.replicate 3 0)] (by decide) c3 (by omega)
    have z4 : v4.size ≤ 12 := by
      simp only [List.mem_cons, List.mem_nil_iff, or_false] at m4
      rcases m4 with rfl | rfl | rfl | rfl | rfl
      · decide
      · decide
      · decide
      · decide
      · exact rep3
    rw [if_pos d0, if_pos (by omega), e4, Option.bind_some]
    exact ⟨_, _, _, _, rfl, z4, z2, c4, by dsimp only; omega, by dsimp only; omega⟩
  rw [if_neg d0]
  by_cases d1 : v3 = 1
  · obtain ⟨v4, a4, s4, e4, m4, c4, b4⟩ := of_tot s3 [(⟨#[35]⟩ : ByteArray), (⟨#[10]⟩ : ByteArray), (⟨#[127]⟩ : ByteArray)] (by decide) c3 (by omega)
    have z4 : v4.size ≤ 12 := by
      simp only [List.mem_cons, List.mem_nil_iff, or_false] at m4
      rcases m4 with rfl | rfl | rfl <;> decide
    rw [if_pos d1, e4, Option.bind_some]
    exact ⟨_, _, _, _, rfl, z1, z4, c4, by dsimp only; omega, by dsimp only; omega⟩
  rw [if_neg d1]
  exact ⟨_, _, _, _, rfl, z1, z2, c3, by omega, by omega⟩
theorem append_tot (D P : ByteArray) (n : Int) (s r : ByteArray) (hz : D.size + P.size ≤ 4194304) (hs : s.size ≤ 1000) (hr : r.size ≤ 1000) : ∃ P' n' co, Ev (fun k => spec_AppendRecord.f k D P n s r) (D, P', n', co) ∧ P'.size ≤ P.size + 425 := by
  obtain ⟨v, h, _, c⟩ := append_cases D P n s r hz (by omega) (by omega)
  rcases c with rfl | rfl | ⟨L, g, hrec, hn, rfl⟩
  · exact ⟨_, _, _, h, by omega⟩
  · exact ⟨_, _, _, h, by omega⟩
  · have := lnN_size n s r hn hrec
    exact ⟨_, _, _, h, by rw [ByteArray.size_append]; omega⟩
theorem sync_tot (D P : ByteArray) (n : Int) (hz : D.size + P.size ≤ 4194304) : ∃ D' n' o, Ev (fun k => spec_SyncLog.f k D P n) (D', nilB, n', o) ∧ D'.size ≤ D.size + P.size := by
  rcases sync_cases D P n hz with ⟨L, g, h, _⟩ | ⟨_, h, _⟩
  · exact ⟨_, _, _, h, by rw [ByteArray.size_append]; omega⟩
  · have hnz : (nilB).size = 0 := rfl
    exact ⟨_, _, _, h, by omega⟩
theorem log_tot {l : List Int} (m : Nat) : ∀ (a s : Int) (D P : ByteArray) (n : Int), m ≤ 10 → Cu l a → a + 20 * m ≤ 999000 → D.size + P.size ≤ 425 * (10 - m) → ∃ D' P' n' a' s', Ev (fun k => spec_l1Cur_log.l0 k (m : Int) l a s D P n) (D', P', n', a', s') ∧ D'.size + P'.size ≤ 4250 ∧ Cu l a' ∧ (a ≤ a' ∧ a' ≤ a + 20 * m) := by
  induction m with
  | zero =>
    intro a s D P n hm hc ha hz
    exact ⟨_, _, _, _, _, Ev.step (fun k => rfl) (ev_neg (by omega) (ev_now rfl)), by omega, hc, by omega, by omega⟩
  | succ m ih =>
    intro a s D P n hm hc ha hz
    obtain ⟨c, r, a1, s1, e1, z1, z2, c1, b1⟩ := logRecord_tot s hc (by omega)
    obtain ⟨P1, n1, co, h1, hp1⟩ := append_tot D P n c r (by omega) (by omega) (by omega)
    obtain ⟨b, a2, s2, e2, c2, b2⟩ := one_tot s1 4 c1 (by omega)
    have hw : wrap64 (((m + 1 : Nat) : Int) - 1) = (m : Int) := by rw [wrap_id (by omega) (by omega)]; omega
    cases b
    · obtain ⟨D', P', n', a', s', h, hz', c', b'⟩ := ih a2 s2 D P1 n1 (by omega) c2 (by omega) (by omega)
      refine ⟨D', P', n', a', s', Ev.step (fun k => rfl) (ev_pos (by omega) (ev_bind0 e1 (Ev.bind h1 (ev_bind0 e2 (ev_neg (by simp) ?_))))), hz', c', by omega, by omega⟩
      rw [hw]
      exact h
    · obtain ⟨D2, n2, o, h2, hp2⟩ := sync_tot D P1 n1 (by omega)
      have hnz : (nilB).size = 0 := rfl
      obtain ⟨D', P', n', a', s', h, hz', c', b'⟩ := ih a2 s2 D2 nilB n2 (by omega) c2 (by omega) (by omega)
      refine ⟨D', P', n', a', s', Ev.step (fun k => rfl) (ev_pos (by omega) (ev_bind0 e1 (Ev.bind h1 (ev_bind0 e2 (ev_pos rfl (Ev.bind h2 ?_)))))), hz', c', by omega, by omega⟩
      rw [hw]
      exact h
theorem logF_tot {l : List Int} {a : Int} (s : Int) (h : Cu l a) (hb : a ≤ 900000) : ∃ D P n a' s', Ev (fun k => spec_l1Cur_log.f k l a s) (D, P, n, a', s') ∧ D.size + P.size ≤ 4250 ∧ Cu l a' ∧ (a ≤ a' ∧ a' ≤ a + 300) := by
  obtain ⟨v, a1, s1, e1, h0, c1, b1⟩ := pick_in s 7 (by omega) h (by omega)
  obtain ⟨m, rfl⟩ : ∃ m : Nat, v = (m : Int) := ⟨v.toNat, by omega⟩
  have hnz : (nilB).size = 0 := rfl
  obtain ⟨D, P, n, a', s', h1, h2, h3, h4⟩ := log_tot (l := l) m a1 s1 nilB nilB 0 (by omega) c1 (by omega) (by omega)
  exact ⟨D, P, n, a', s', ev_bind0 e1 h1, h2, h3, by omega, by omega⟩
theorem anyLog_tot {l : List Int} {a : Int} (s : Int) (h : Cu l a) (hb : a ≤ 900000) : ∃ D P n a' s', Ev (fun k => spec_l1Cur_anyLog.f k l a s) (D, P, n, a', s') ∧ D.size + P.size ≤ 20000 ∧ Cu l a' ∧ (a ≤ a' ∧ a' ≤ a + 400) := by
  obtain ⟨D, P, n, a1, s1, h1, z1, c1, b1⟩ := logF_tot s h hb
  obtain ⟨v, a2, s2, e2, h0, c2, b2⟩ := pick_in s1 24 (by omega) c1 (by omega)
  unfold spec_l1Cur_anyLog.f
  by_cases d0 : v = 0
  · exact ⟨D, P, wrap64 (n + 1), a2, s2, Ev.bind h1 (ev_bind0 e2 (ev_pos d0 (ev_now rfl))), by omega, c2, by omega, by omega⟩
  by_cases d1 : v = 1
  · obtain ⟨t, a3, s3, e3, z3, c3, b3⟩ := spoilt_tot s2 P (⟨#[35, 64, 10, 48, 49]⟩ : ByteArray) (by decide) (by omega) (by decide) c2 (by omega)
    exact ⟨D, t, n, a3, s3, Ev.bind h1 (ev_bind0 e2 (ev_neg d0 (ev_pos d1 (ev_bind0 e3 (ev_now rfl))))), by omega, c3, by omega, by omega⟩
  by_cases d2 : v = 2
  · exact ⟨D ++ P, P, n, a2, s2, Ev.bind h1 (ev_bind0 e2 (ev_neg d0 (ev_neg d1 (ev_pos d2 (ev_pos (by dsimp only; omega) (ev_now rfl)))))), by rw [ByteArray.size_append]; omega, c2, by omega, by omega⟩
  · exact ⟨D, P, n, a2, s2, Ev.bind h1 (ev_bind0 e2 (ev_neg d0 (ev_neg d1 (ev_neg d2 (ev_now rfl))))), by omega, c2, by omega, by omega⟩
/-- The cursor at the start. -/
theorem cu_start {l : List Int} (h : l.length ≤ 9223372036854775807 ∧ ∀ y ∈ l, (Lit.int .u8 y).wf = true) : Cu l 0 := by
  refine ⟨h.1, fun y hy => ?_, by omega, by omega⟩
  have := h.2 y hy
  simp only [Lit.wf, Bool.and_eq_true, decide_eq_true_eq] at this
  exact this
end Go.Proofs.YtkdibcifamlciaaDoor.X
namespace Go.Proofs.YtkdibcifamlciaaDoor.X
open Go.RowKit Go.Proofs.YtkdibcifamlciaaDoorW.PrintWords Go.Proofs.YtkdibcifamlciaaDoorW.PrintLast Go.Proofs.YtkdibcifamlciaaDoorW.PrintMore Go.Proofs.YtkdibcifamlciaaDoor.E
attribute [local go_sem] max2_int min2_int max_two min_two max_three min_three max_four min_four   -- for this text's walks alone
set_option linter.unusedVariables false
set_option linter.unusedSimpArgs false
attribute [-simp] ByteArray.size_append ByteArray.size_extract
attribute [-go_sem] ByteArray.size_append'

/-! ### impl_CrashLog: function 23 -/
/-- What lies in the row that a conversion of a text makes. -/
theorem impl_bw_frozen (w : World) (e : TypeId) (s : ByteArray) (j : Nat) (hj : j < s.size) : (Lib.bytesWorld w e s).frozen? ⟨w.heap.size, j, none⟩ = false := by
 (have hz : s.size ≤ (Lib.bytesCells w e s).size := by unfold Lib.bytesCells; rw [Array.size_append, Array.size_map]; exact Nat.le_add_right _ _); (simp [World.frozen?, Lib.bytesWorld_at_new]); (omega)
theorem impl_bw_below (w : World) (e : TypeId) (s : ByteArray) : Below w.heap.size w (Lib.bytesWorld w e s) := Joins.below_bytesWorld _ _ _ _ (Nat.le_refl _)
/-- The last byte of a row of bytes turned around. -/
def impl_tornB (s : ByteArray) : ByteArray := ⟨(s.data.toList.set (s.size - 1) (255 - s.data.toList.getD (s.size - 1) 0)).toArray⟩
theorem impl_add0 (b j : Nat) : (⟨b, 0, none⟩ : Addr).add j = ⟨b, j, none⟩ := by unfold Addr.add; split <;> simp_all
theorem impl_conv_plain (w : World) (s : ByteArray) (cap : Nat) : (convert 22 9 (.slice (some ⟨w.heap.size, 0, none⟩) s.size cap)).run Tryd.prog (Lib.bytesWorld w 5 s) = .ok (.string s) (Lib.bytesWorld w 5 s) := by
 have h := run_convert_bytes_back (P := Tryd.prog) (Lib.bytesWorld w 5 s) 22 9 5 ⟨w.heap.size, 0, none⟩ cap s.data.toList Tryd.underlying22 Tryd.underlying5 Tryd.underlying9 (fun j hj => by
  rw [impl_add0, Lib.bytesWorld_cell _ _ _ _ (by rw [Array.length_toList] at hj; exact hj), List.getD_eq_getElem?_getD, List.getElem?_eq_getElem hj, Option.getD_some])
 (rw [Array.length_toList] at h); (exact h)
theorem impl_turn (b : UInt8) : ((255 - b : UInt8).toNat : Int) = 255 - (b.toNat : Int) := by
 (have := b.toNat_lt); (rw [UInt8.toNat_sub]); (have : (255 : UInt8).toNat = 255 := rfl); (omega)
theorem impl_conv_torn (w : World) (s : ByteArray) (cap : Nat) (h0 : 0 < s.size) (bv : Int) (hbv : bv = ((s.data.toList.getD (s.size - 1) 0).toNat : Int)) : (convert 22 9 (.slice (some ⟨w.heap.size, 0, none⟩) s.size cap)).run Tryd.prog ((Lib.bytesWorld w 5 s).setCell ⟨w.heap.size, s.size - 1, none⟩ (.int .u8 (255 - bv))) = .ok (.string (impl_tornB s)) ((Lib.bytesWorld w 5 s).setCell ⟨w.heap.size, s.size - 1, none⟩ (.int .u8 (255 - bv))) := by
 have hsz : s.data.toList.length = s.size := Array.length_toList
 have h := run_convert_bytes_back (P := Tryd.prog) ((Lib.bytesWorld w 5 s).setCell ⟨w.heap.size, s.size - 1, none⟩ (.int .u8 (255 - bv))) 22 9 5 ⟨w.heap.size, 0, none⟩ cap (s.data.toList.set (s.size - 1) (255 - s.data.toList.getD (s.size - 1) 0)) Tryd.underlying22 Tryd.underlying5 Tryd.underlying9 (fun j hj => by
  (rw [List.length_set, hsz] at hj); (rw [impl_add0]); (by_cases e : j = s.size - 1); (· subst e; (rw [List.getElem_set_self, impl_turn, ← hbv]); (exact World.cell?_setCell_same' _ _ _ (by rw [Lib.bytesWorld_cell _ _ _ _ hj]; rfl))); (· (rw [World.cell?_setCell_other _ _ _ _ (by intro e2; injection e2 with _ e3; omega), Lib.bytesWorld_cell _ _ _ _ hj, List.getElem_set_ne (by omega), List.getD_eq_getElem?_getD, List.getElem?_eq_getElem (by omega), Option.getD_some])))
 (rw [List.length_set, hsz] at h); (exact h)
theorem impl_torn_size (s : ByteArray) : (impl_tornB s).size = s.size := by
 (show (s.data.toList.set _ _).toArray.size = s.size); (rw [List.size_toArray, List.length_set, Array.length_toList]); rfl
def impl_CrashLog.f (k : Nat) (a0_0 : ByteArray) (a0_1 : ByteArray) (a0_2 : Int) (a1 : Int) (a2 : Bool) : Option (ByteArray × Bool) := (impl_IsValidLog.f k a0_0 a0_1 a0_2).bind fun t => (if t = true then (if 0 ≤ a1 ∧ a1 ≤ (a0_1.size : Int) then (if a0_0.size + a0_1.size ≤ 4398046511104 then some (a0_0 ++ (if a2 = true ∧ 0 < a1 then impl_tornB (a0_1.extract 0 a1.toNat) else a0_1.extract 0 a1.toNat), true) else none) else some (⟨#[]⟩, false)) else some (⟨#[]⟩, false))
theorem impl_in_eq (a l h : Int) : impl_within.f a l h = some (decide (l ≤ a ∧ a ≤ h)) := by
 (unfold impl_within.f); (by_cases c1 : l ≤ a <;> by_cases c2 : a ≤ h <;> simp [*] <;> omega)
set_option maxHeartbeats 4000000 in
set_option maxRecDepth 100000 in
theorem impl_CrashLog.calls (k : Nat) (a0_0 : ByteArray) (a0_1 : ByteArray) (a0_2 : Int) (a1 : Int) (a2 : Bool) (r1 : ByteArray) (r2 : Bool) (w : World) (hG : GT w) (h : impl_CrashLog.f k a0_0 a0_1 a0_2 a1 a2 = some (r1, r2)) :
  Calls Tryd.prog 23 #[.agg #[.string a0_0, .string a0_1, .int .i64 a0_2], .int .i64 a1, .bool a2] w fun e w' => e = .returned (.tuple #[.string r1, .bool r2]) ∧ Below w.heap.size w w' := by
 (have hu27 := Tryd.underlying32); (have HG := Aside0.mk hG); clear hG; (have HB := Aside0.mk (Below.refl w.heap.size w)); (unfold impl_CrashLog.f at h); (have H := h); clear h; (replace H := obS H; obtain ⟨t101, A3, H⟩ := H); (by_cases c4 : t101 = true)
 ·subst c4
  (rw [if_pos rfl] at H); (by_cases c5 : 0 ≤ a1 ∧ a1 ≤ (a0_1.size : Int))
  ·rw [if_pos c5] at H
   by_cases c6 : a0_0.size + a0_1.size ≤ 4398046511104
   case neg => rw [if_neg c6] at H; exact absurd H (by simp)
   (rw [if_pos c6] at H); (simp only [Option.some.injEq, Prod.mk.injEq] at H); (obtain ⟨HQ, rfl⟩ := H); (have HH := Aside0.mk HQ); clear HQ; (obtain ⟨p1, q1⟩ := c5); (have A4 : impl_within.f a1 0 (a0_1.size : Int) = some true := by rw [impl_in_eq, decide_eq_true ⟨p1, q1⟩]); (have HA4 := Aside0.mk A4); clear A4; (have hs : (a0_1.extract 0 a1.toNat).size = a1.toNat := by rw [ByteArray.size_extract]; omega); (have hcv := fun (w : World) => Lib.run_convert_string_bytes (P := Tryd.prog) w 9 22 5 (a0_1.extract 0 a1.toNat) Tryd.underlying9 Tryd.underlying22 Tryd.underlying5); (have HSZ := Aside0.mk hs); (by_cases ct : a2 = true ∧ 0 < a1); (· (rw [if_pos ct] at HH); (obtain rfl := HH.out); (obtain ⟨rfl, ht0⟩ := ct); (have hgt : decide (a1 > 0) = true := decide_eq_true ht0); (have hz1 : ¬ 9223372036854775807 < a0_0.size + (impl_tornB (a0_1.extract 0 a1.toNat)).size := by rw [impl_torn_size, hs]; omega); (have hgt2 : decide (0 < a1) = true := decide_eq_true ht0); (go_enter Tryd.func23, Tryd.ntmps23); (go_wp2_with (first | (go_at_call 14; (refine (impl_IsValidLog.calls k a0_0 a0_1 a0_2 true _ (GT.below HG.out (by repeat (first | exact HB.out | apply bA | apply bN | apply bD))) A3.out).mono ?_; rintro e w6 ⟨rfl, hb⟩; have HB6 := Aside0.mk (below_step (by repeat (first | exact HB.out | apply bA | apply bN | apply bD)) hb); have g0 : w6.cell? ⟨w.heap.size, 0, none⟩ = some (.string a0_0) := (hb.cell (p := ⟨w.heap.size, 0, none⟩) (by simp)).trans (by simp); have g1 : w6.cell? ⟨w.heap.size, 1, none⟩ = some (.string a0_1) := (hb.cell (p := ⟨w.heap.size, 1, none⟩) (by simp)).trans (by simp); have S6 := Aside0.mk (Nat.lt_of_lt_of_le (by simp : w.heap.size < _) hb.size); clear hb)) | (go_at_call 28; (refine (impl_within.calls a1 0 (a0_1.size : Int) true _ HA4.out).mono ?_; rintro e w7 ⟨rfl, hdr⟩; have hb7 : Below w6.heap.size w6 w7 := (by obtain ⟨nd, e⟩ := hdr; rw [e]; exact pw_below_drewN (Below.refl _ _) nd); clear hdr; replace g0 := (hb7.cell (p := ⟨w.heap.size, 0, none⟩) S6.out).trans g0; replace g1 := (hb7.cell (p := ⟨w.heap.size, 1, none⟩) S6.out).trans g1; have S7 := Aside0.mk (Nat.lt_of_lt_of_le S6.out hb7.size); have HB7 := Aside0.mk (below_step HB6.out hb7); clear hb7; have b0 := (Lib.bytesWorld_old w7 5 (a0_1.extract 0 a1.toNat) ⟨w.heap.size, 0, none⟩ S7.out).trans g0; obtain ⟨bv, hbv⟩ : ∃ bv : Int, bv = (((a0_1.extract 0 a1.toNat).data.toList.getD (a1.toNat - 1) 0).toNat : Int) := ⟨_, rfl⟩; have b2 : 0 < a1 → (Lib.bytesWorld w7 5 (a0_1.extract 0 a1.toNat)).cell? ⟨w7.heap.size, a1.toNat - 1, none⟩ = some (.int .u8 bv) := (fun h0 => by rw [hbv]; exact Lib.bytesWorld_cell _ _ _ _ (by rw [hs]; omega)); have b3 : 0 < a1 → (Lib.bytesWorld w7 5 (a0_1.extract 0 a1.toNat)).frozen? ⟨w7.heap.size, a1.toNat - 1, none⟩ = false := (fun h0 => impl_bw_frozen _ _ _ _ (by rw [hs]; omega)); have v0 : 0 ≤ bv := (by omega); have v1 : bv ≤ 255 := (by rw [hbv]; have := ((a0_1.extract 0 a1.toNat).data.toList.getD (a1.toNat - 1) 0).toNat_lt; omega); have hne : ¬ w7.heap.size = w.heap.size := (by have := S7.out; omega); have n2 : ((Lib.bytesWorld w7 5 (a0_1.extract 0 a1.toNat)).setCell ⟨w7.heap.size, a1.toNat - 1, none⟩ (.int .u8 (255 - bv))).cell? ⟨w.heap.size, 0, none⟩ = some (.string a0_0) := (World.cell?_setCell_other _ _ _ _ (by intro e2; injection e2 with e3; exact hne e3)).trans b0; have hcb := impl_conv_torn w7 (a0_1.extract 0 a1.toNat) (grownCap w7 a1.toNat 0 5) (by rw [hs]; omega) bv (by rw [hs]; exact hbv); rw [hs] at hcb; replace b2 := b2 ht0; replace b3 := b3 ht0; clear hbv)))); (go_ret2); (refine ⟨rfl, ?_⟩); (exact (HB7.out.trans ((impl_bw_below _ _ _).mono HB7.out.size)).setCell (by have := S7.out; show w.heap.size ≤ w7.heap.size; omega) _))
   ·rw [if_neg ct] at HH
    (obtain rfl := HH.out); (have hz1 : ¬ 9223372036854775807 < a0_0.size + (a0_1.extract 0 a1.toNat).size := by rw [hs]; omega); (have hz2 : ¬ 9223372036854775807 < a0_0.size + a1.toNat := by omega)
    have hcond : a2 = false ∨ (a2 = true ∧ a1 = 0) := by
     (cases a2); (· (exact .inl rfl)); (· (exact .inr ⟨rfl, by have : ¬ 0 < a1 := fun h => ct ⟨rfl, h⟩; omega⟩))
    (rcases hcond with rfl | ⟨rfl, ha⟩); (· (go_enter Tryd.func23, Tryd.ntmps23); (go_wp2_with (first | (go_at_call 14; (refine (impl_IsValidLog.calls k a0_0 a0_1 a0_2 true _ (GT.below HG.out (by repeat (first | exact HB.out | apply bA | apply bN | apply bD))) A3.out).mono ?_; rintro e w6 ⟨rfl, hb⟩; have HB6 := Aside0.mk (below_step (by repeat (first | exact HB.out | apply bA | apply bN | apply bD)) hb); have g0 : w6.cell? ⟨w.heap.size, 0, none⟩ = some (.string a0_0) := (hb.cell (p := ⟨w.heap.size, 0, none⟩) (by simp)).trans (by simp); have g1 : w6.cell? ⟨w.heap.size, 1, none⟩ = some (.string a0_1) := (hb.cell (p := ⟨w.heap.size, 1, none⟩) (by simp)).trans (by simp); have S6 := Aside0.mk (Nat.lt_of_lt_of_le (by simp : w.heap.size < _) hb.size); clear hb)) | (go_at_call 28; (refine (impl_within.calls a1 0 (a0_1.size : Int) true _ HA4.out).mono ?_; rintro e w7 ⟨rfl, hdr⟩; have hb7 : Below w6.heap.size w6 w7 := (by obtain ⟨nd, e⟩ := hdr; rw [e]; exact pw_below_drewN (Below.refl _ _) nd); clear hdr; replace g0 := (hb7.cell (p := ⟨w.heap.size, 0, none⟩) S6.out).trans g0; replace g1 := (hb7.cell (p := ⟨w.heap.size, 1, none⟩) S6.out).trans g1; have S7 := Aside0.mk (Nat.lt_of_lt_of_le S6.out hb7.size); have HB7 := Aside0.mk (below_step HB6.out hb7); clear hb7; have b0 := (Lib.bytesWorld_old w7 5 (a0_1.extract 0 a1.toNat) ⟨w.heap.size, 0, none⟩ S7.out).trans g0; obtain ⟨bv, hbv⟩ : ∃ bv : Int, bv = (((a0_1.extract 0 a1.toNat).data.toList.getD (a1.toNat - 1) 0).toNat : Int) := ⟨_, rfl⟩; have b2 : 0 < a1 → (Lib.bytesWorld w7 5 (a0_1.extract 0 a1.toNat)).cell? ⟨w7.heap.size, a1.toNat - 1, none⟩ = some (.int .u8 bv) := (fun h0 => by rw [hbv]; exact Lib.bytesWorld_cell _ _ _ _ (by rw [hs]; omega)); have b3 : 0 < a1 → (Lib.bytesWorld w7 5 (a0_1.extract 0 a1.toNat)).frozen? ⟨w7.heap.size, a1.toNat - 1, none⟩ = false := (fun h0 => impl_bw_frozen _ _ _ _ (by rw [hs]; omega)); have v0 : 0 ≤ bv := (by omega); have v1 : bv ≤ 255 := (by rw [hbv]; have := ((a0_1.extract 0 a1.toNat).data.toList.getD (a1.toNat - 1) 0).toNat_lt; omega); have hcb := impl_conv_plain w7 (a0_1.extract 0 a1.toNat) (grownCap w7 a1.toNat 0 5); rw [hs] at hcb; clear hbv b2 b3)))); (go_ret2); (refine ⟨rfl, ?_⟩); (exact HB7.out.trans ((impl_bw_below _ _ _).mono HB7.out.size))); (· (have hgt : decide (a1 > 0) = false := decide_eq_false (by omega)); (have hgt2 : decide (0 < a1) = false := decide_eq_false (by omega)); (have hgt3 : ¬ 0 < a1 := by omega); clear ha; (go_enter Tryd.func23, Tryd.ntmps23); (go_wp2_with (first | (go_at_call 14; (refine (impl_IsValidLog.calls k a0_0 a0_1 a0_2 true _ (GT.below HG.out (by repeat (first | exact HB.out | apply bA | apply bN | apply bD))) A3.out).mono ?_; rintro e w6 ⟨rfl, hb⟩; have HB6 := Aside0.mk (below_step (by repeat (first | exact HB.out | apply bA | apply bN | apply bD)) hb); have g0 : w6.cell? ⟨w.heap.size, 0, none⟩ = some (.string a0_0) := (hb.cell (p := ⟨w.heap.size, 0, none⟩) (by simp)).trans (by simp); have g1 : w6.cell? ⟨w.heap.size, 1, none⟩ = some (.string a0_1) := (hb.cell (p := ⟨w.heap.size, 1, none⟩) (by simp)).trans (by simp); have S6 := Aside0.mk (Nat.lt_of_lt_of_le (by simp : w.heap.size < _) hb.size); clear hb)) | (go_at_call 28; (refine (impl_within.calls a1 0 (a0_1.size : Int) true _ HA4.out).mono ?_; rintro e w7 ⟨rfl, hdr⟩; have hb7 : Below w6.heap.size w6 w7 := (by obtain ⟨nd, e⟩ := hdr; rw [e]; exact pw_below_drewN (Below.refl _ _) nd); clear hdr; replace g0 := (hb7.cell (p := ⟨w.heap.size, 0, none⟩) S6.out).trans g0; replace g1 := (hb7.cell (p := ⟨w.heap.size, 1, none⟩) S6.out).trans g1; have S7 := Aside0.mk (Nat.lt_of_lt_of_le S6.out hb7.size); have HB7 := Aside0.mk (below_step HB6.out hb7); clear hb7; have b0 := (Lib.bytesWorld_old w7 5 (a0_1.extract 0 a1.toNat) ⟨w.heap.size, 0, none⟩ S7.out).trans g0; obtain ⟨bv, hbv⟩ : ∃ bv : Int, bv = (((a0_1.extract 0 a1.toNat).data.toList.getD (a1.toNat - 1) 0).toNat : Int) := ⟨_, rfl⟩; have b2 : 0 < a1 → (Lib.bytesWorld w7 5 (a0_1.extract 0 a1.toNat)).cell? ⟨w7.heap.size, a1.toNat - 1, none⟩ = some (.int .u8 bv) := (fun h0 => by rw [hbv]; exact Lib.bytesWorld_cell _ _ _ _ (by rw [hs]; omega)); have b3 : 0 < a1 → (Lib.bytesWorld w7 5 (a0_1.extract 0 a1.toNat)).frozen? ⟨w7.heap.size, a1.toNat - 1, none⟩ = false := (fun h0 => impl_bw_frozen _ _ _ _ (by rw [hs]; omega)); have v0 : 0 ≤ bv := (by omega); have v1 : bv ≤ 255 := (by rw [hbv]; have := ((a0_1.extract 0 a1.toNat).data.toList.getD (a1.toNat - 1) 0).toNat_lt; omega); have hcb := impl_conv_plain w7 (a0_1.extract 0 a1.toNat) (grownCap w7 a1.toNat 0 5); rw [hs] at hcb; clear hbv b2 b3)))); (go_ret2); (refine ⟨rfl, ?_⟩); (exact HB7.out.trans ((impl_bw_below _ _ _).mono HB7.out.size)))
  ·rw [if_neg c5] at H
   (simp only [Option.some.injEq, Prod.mk.injEq] at H); (obtain ⟨rfl, rfl⟩ := H); (have A4 : impl_within.f a1 0 (a0_1.size : Int) = some false := by rw [impl_in_eq, decide_eq_false c5]); (have HA4 := Aside0.mk A4); clear A4 c5; (go_enter Tryd.func23, Tryd.ntmps23); (go_wp2_with (first | (go_at_call 14; (refine (impl_IsValidLog.calls k a0_0 a0_1 a0_2 true _ (GT.below HG.out (by repeat (first | exact HB.out | apply bA | apply bN | apply bD))) A3.out).mono ?_; rintro e w6 ⟨rfl, hb⟩; have HB6 := Aside0.mk (below_step (by repeat (first | exact HB.out | apply bA | apply bN | apply bD)) hb); have g0 : w6.cell? ⟨w.heap.size, 0, none⟩ = some (.string a0_0) := (hb.cell (p := ⟨w.heap.size, 0, none⟩) (by simp)).trans (by simp); have g1 : w6.cell? ⟨w.heap.size, 1, none⟩ = some (.string a0_1) := (hb.cell (p := ⟨w.heap.size, 1, none⟩) (by simp)).trans (by simp); have S6 := Aside0.mk (Nat.lt_of_lt_of_le (by simp : w.heap.size < _) hb.size); clear hb)) | (go_at_call 28; (refine (impl_within.calls a1 0 (a0_1.size : Int) false _ HA4.out).mono ?_; rintro e w7 ⟨rfl, hdr⟩; have hb7 : Below w6.heap.size w6 w7 := (by obtain ⟨nd, e⟩ := hdr; rw [e]; exact pw_below_drewN (Below.refl _ _) nd); clear hdr; replace g0 := (hb7.cell (p := ⟨w.heap.size, 0, none⟩) S6.out).trans g0; replace g1 := (hb7.cell (p := ⟨w.heap.size, 1, none⟩) S6.out).trans g1; have S7 := Aside0.mk (Nat.lt_of_lt_of_le S6.out hb7.size); have HB7 := Aside0.mk (below_step HB6.out hb7))))); (go_ret2); (exact ⟨rfl, HB7.out⟩)
 ·replace c4 := Bool.eq_false_iff.mpr c4
  subst c4; (rw [if_neg (show ¬ (false = true) by decide)] at H); (simp only [Option.some.injEq, Prod.mk.injEq] at H); (obtain ⟨rfl, rfl⟩ := H); (go_enter Tryd.func23, Tryd.ntmps23); (go_wp2_with ((go_at_call 14; (refine (impl_IsValidLog.calls k a0_0 a0_1 a0_2 false _ (GT.below HG.out (by repeat (first | exact HB.out | apply bA | apply bN | apply bD))) A3.out).mono ?_; rintro e w6 ⟨rfl, hb⟩; have HB6 := Aside0.mk (below_step (by repeat (first | exact HB.out | apply bA | apply bN | apply bD)) hb); have g0 : w6.cell? ⟨w.heap.size, 0, none⟩ = some (.string a0_0) := (hb.cell (p := ⟨w.heap.size, 0, none⟩) (by simp)).trans (by simp); have g1 : w6.cell? ⟨w.heap.size, 1, none⟩ = some (.string a0_1) := (hb.cell (p := ⟨w.heap.size, 1, none⟩) (by simp)).trans (by simp); have S6 := Aside0.mk (Nat.lt_of_lt_of_le (by simp : w.heap.size < _) hb.size); clear hb)))); (go_ret2); (exact ⟨rfl, HB6.out⟩)

end Go.Proofs.YtkdibcifamlciaaDoor.X
