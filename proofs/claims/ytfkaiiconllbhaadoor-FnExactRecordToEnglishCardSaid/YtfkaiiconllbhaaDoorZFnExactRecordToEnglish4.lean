/- For every record the law FnExactRecordToEnglish answers true. No condition beyond what a reading tells.
This file (part 4 of 4) holds what the proof needs: plain functions with rounds and contracts written by programs of this work over the translation, and the lemmas. -/
import Derived.Test.YtfkaiiconllbhaaDoorZFnExactRecordToEnglish2
import Derived.Test.YtfkaiiconllbhaaDoorZFnExactRecordToEnglish3
import Derived.Test.YtfkaiiconllbhaaDoorZFnExactRecordToEnglish1
import Derived.ChangeArms
import Derived.DataReads
import Derived.Deep.Slices
import Derived.ChangeOld
import Derived.OpenShut
import Derived.Lib.ItoaNum
import Derived.Lib.ItoaLen
import Derived.Test.YtfkaiiconllbhaaDoorTie
import Derived.Test.YtfkaiiconllbhaaDoorCards
import Derived.Test.YtfkaiiconllbhaaDoorRows
import Derived.WalkKit
import Derived.ProofKit
import Derived.ShutString
import Derived.Below
import Derived.SizedLaws
import Derived.Lib.SmallJoins
import Derived.LaidMore
import Derived.Stop.Joined
import Derived.Lib.LaidTab
import Derived.LaidSub
import Derived.Handed
import Derived.SevenTiedAt
namespace Go.Proofs.YtfkaiiconllbhaaDoor.X
open Go.RowKit Go.Proofs.YtfkaiiconllbhaaDoorW.PrintWords Go.Proofs.YtfkaiiconllbhaaDoorW.PrintLast Go.Proofs.YtfkaiiconllbhaaDoorW.PrintMore
attribute [local go_sem] max2_int min2_int max_two min_two max_three min_three max_four min_four   -- for this text's walks alone
set_option linter.unusedVariables false
set_option linter.unusedSimpArgs false
attribute [-simp] ByteArray.size_append ByteArray.size_extract
attribute [-go_sem] ByteArray.size_append'

/-! ### laws_eqRecord: function 18 -/
def laws_eqRecord.f (k : Nat) (l0_0 : List (S68)) (l0_1 : List (S70)) (l1_0 : List (S68)) (l1_1 : List (S70)) : Option (Bool) := (laws_eqContextS.f k l0_0 l1_0).bind fun t103 => (if t103 = true then ((laws_eqRelationS.f k l0_1 l1_1).bind fun t104 => (if t104 = true then (some true) else (some false))) else (some false))
set_option maxHeartbeats 8000000 in
set_option maxRecDepth 100000 in
theorem laws_eqRecord.calls (k : Nat) (A0_0 : Option Addr) (c0_0 : Nat) (l0_0 : List (S68)) (A0_1 : Option Addr) (c0_1 : Nat) (l0_1 : List (S70)) (A1_0 : Option Addr) (c1_0 : Nat) (l1_0 : List (S68)) (A1_1 : Option Addr) (c1_1 : Nat) (l1_1 : List (S70)) (r : Bool) (w : World) (hr0_0 : Kd.C k68 w A0_0 l0_0.length l0_0) (hc0_0 : l0_0.length ≤ c0_0) (hr0_1 : Kd.C k70 w A0_1 l0_1.length l0_1) (hc0_1 : l0_1.length ≤ c0_1) (hr1_0 : Kd.C k68 w A1_0 l1_0.length l1_0) (hc1_0 : l1_0.length ≤ c1_0) (hr1_1 : Kd.C k70 w A1_1 l1_1.length l1_1) (hc1_1 : l1_1.length ≤ c1_1) (h : laws_eqRecord.f k l0_0 l0_1 l1_0 l1_1 = some r) (ht_ : Aside0 (r = true)) :
  Calls Tryd.prog 18 #[.agg #[.slice A0_0 l0_0.length c0_0, .slice A0_1 l0_1.length c0_1], .agg #[.slice A1_0 l1_0.length c1_0, .slice A1_1 l1_1.length c1_1]] w fun e w' => e = .returned (.bool r) ∧ Below w.heap.size w w' := by
 (have hu40 := Tryd.underlying40); (have HR0_0 := Aside0.mk hr0_0); (have HC0_0 := Aside0.mk hc0_0); clear hr0_0 hc0_0; (have HR0_1 := Aside0.mk hr0_1); (have HC0_1 := Aside0.mk hc0_1); clear hr0_1 hc0_1; (have HR1_0 := Aside0.mk hr1_0); (have HC1_0 := Aside0.mk hc1_0); clear hr1_0 hc1_0; (have HR1_1 := Aside0.mk hr1_1); (have HC1_1 := Aside0.mk hc1_1); clear hr1_1 hc1_1; (have HB := Aside0.mk (Below.refl w.heap.size w)); (have H : ((laws_eqContextS.f k l0_0 l1_0).bind fun t103 => (if t103 = true then ((laws_eqRelationS.f k l0_1 l1_1).bind fun t104 => (if t104 = true then (some true) else (some false))) else (some false))) = some r := h); clear h; (replace H := Option.bind_eq_some_iff.mp H); (obtain ⟨t103, A30, H⟩ := H); (have A3 := Aside0.mk A30); clear A30; (by_cases c4 : t103 = true)
 ·subst c4
  (rw [if_pos rfl] at H); (replace H := Option.bind_eq_some_iff.mp H); (obtain ⟨t104, A50, H⟩ := H); (have A5 := Aside0.mk A50); clear A50; (by_cases c6 : t104 = true)
  ·subst c6
   (rw [if_pos rfl] at H); (obtain rfl := Option.some.inj H); (go_enter Tryd.func18, Tryd.ntmps18); (go_wp2_with (first | ((with_reducible refine gate_dst (N := 2) rfl ?_); refine box_event ?hg (N := 2) ?hd (cs := #[.slice A0_0 l0_0.length c0_0, .slice A0_1 l0_1.length c0_1]) (t := 40) ?hr ?_; (case hd => rfl); (case hg => rfl); (case hr => first | (go_simp; done) | (go_simp; rfl)); intro gb101 hg w7 hbox hb; have hB_ := bz (by repeat (first | (with_reducible first | exact HB.out | apply bA | apply bN | apply bD) | exact HB.out)) hb; have n0_ := Aside0.mk (below_step hB_ hb); have n1_ := Aside0.mk (hbox); have n2_ := Aside0.mk ((by rw [hg]; exact (below_size hB_) : w.heap.size ≤ gb101)); have n3_ := n2_; clear HB; have HB := n0_; have BK101 := n1_; have GW101 := n2_; have GE101 := n3_; clear n0_ n1_ n2_ n3_ hB_ hb hbox hg) | ((with_reducible refine gate_dst (N := 3) rfl ?_); refine box_event ?hg (N := 3) ?hd (cs := #[.slice A1_0 l1_0.length c1_0, .slice A1_1 l1_1.length c1_1]) (t := 40) ?hr ?_; (case hd => rfl); (case hg => rfl); (case hr => first | (go_simp; done) | (go_simp; rfl)); intro gb102 hg w8 hbox hb; have n0_ := Aside0.mk (blk_below (by (with_reducible repeat (first | refine kN ?_ _ | refine kD ?_ | refine kA ?_ _)); exact BK101.out) hb); have hB_ := bz (by repeat (first | (with_reducible first | exact HB.out | apply bA | apply bN | apply bD | refine below_set ?_ GE101.out) | exact HB.out)) hb; have n1_ := Aside0.mk (below_step hB_ hb); have n2_ := Aside0.mk (hbox); have n3_ := Aside0.mk ((by rw [hg]; exact (below_size hB_) : w.heap.size ≤ gb102)); have n4_ := n3_; have n5_ := Aside0.mk ((by rw [hg]; exact Nat.ne_of_lt (blk_lt (by (with_reducible repeat (first | refine kN ?_ _ | refine kD ?_ | refine kA ?_ _)); exact BK101.out)) : gb101 ≠ gb102)); have n6_ := Aside0.mk (Ne.symm n5_.out); clear BK101 HB; have BK101 := n0_; have HB := n1_; have BK102 := n2_; have GW102 := n3_; have GE102 := n4_; have NB101_102 := n5_; have NB102_101 := n6_; clear n0_ n1_ n2_ n3_ n4_ n5_ n6_ hB_ hb hbox hg; have hnb9 := NB101_102.out; have hnc9 := NB102_101.out; have hcz10_0 := cz BK101.out 0; have hcz10_1 := cz BK101.out 1; have hfz10_0 := blk_frozen BK101.out 0; have hfz10_1 := blk_frozen BK101.out 1; have hcz11_0 := cz BK102.out 0; have hcz11_1 := cz BK102.out 1; have hfz11_0 := blk_frozen BK102.out 0; have hfz11_1 := blk_frozen BK102.out 1) | ((with_reducible refine gate_callee (f := 47) rfl ?_); refine gL (some 9) Tryd.func47 #[.slice A0_0 l0_0.length c0_0, .slice A1_0 l1_0.length c1_0] ?_; (with_reducible refine (laws_eqContextS.calls k _ _ l0_0 _ _ l1_0 true _ ?side1 ?side2 ?side3 ?side4 A3.out ⟨rfl⟩).mono ?_); (case side1 => repeat (first | exact (Kd.C_below HR0_0.out HB.out) | (with_reducible first | refine cA ?_ _ | refine cN ?_ _ | refine cD ?_))); (case side2 => exact HC0_0.out); (case side3 => repeat (first | exact (Kd.C_below HR1_0.out HB.out) | (with_reducible first | refine cA ?_ _ | refine cN ?_ _ | refine cD ?_))); (case side4 => exact HC1_0.out); rintro e w12 ⟨rfl, hb⟩; refine ⟨_, rfl, ?_⟩; have n0_ := Aside0.mk (blk_below (by (with_reducible repeat (first | refine kN ?_ _ | refine kD ?_ | refine kA ?_ _)); exact BK101.out) hb); have n1_ := Aside0.mk (blk_below (by (with_reducible repeat (first | refine kN ?_ _ | refine kD ?_ | refine kA ?_ _)); exact BK102.out) hb); have n2_ := Aside0.mk (below_step (by repeat (first | (with_reducible first | exact HB.out | apply bA | apply bN | apply bD | refine below_set ?_ GE101.out | refine below_set ?_ GE102.out) | exact HB.out)) hb); clear BK101 BK102 HB; have BK101 := n0_; have BK102 := n1_; have HB := n2_; clear n0_ n1_ n2_; (try clear hb); (try clear hb2); (try clear hk); (try clear hi); have hcz13_0 := cz BK101.out 0; have hcz13_1 := cz BK101.out 1; have hfz13_0 := blk_frozen BK101.out 0; have hfz13_1 := blk_frozen BK101.out 1; have hcz14_0 := cz BK102.out 0; have hcz14_1 := cz BK102.out 1; have hfz14_0 := blk_frozen BK102.out 0; have hfz14_1 := blk_frozen BK102.out 1) | ((with_reducible refine gate_callee (f := 48) rfl ?_); refine gL (some 15) Tryd.func48 #[.slice A0_1 l0_1.length c0_1, .slice A1_1 l1_1.length c1_1] ?_; (with_reducible refine (laws_eqRelationS.calls k _ _ l0_1 _ _ l1_1 true _ ?side1 ?side2 ?side3 ?side4 A5.out ⟨rfl⟩).mono ?_); (case side1 => repeat (first | exact (Kd.C_below HR0_1.out HB.out) | (with_reducible first | refine cA ?_ _ | refine cN ?_ _ | refine cD ?_))); (case side2 => exact HC0_1.out); (case side3 => repeat (first | exact (Kd.C_below HR1_1.out HB.out) | (with_reducible first | refine cA ?_ _ | refine cN ?_ _ | refine cD ?_))); (case side4 => exact HC1_1.out); rintro e w15 ⟨rfl, hb⟩; refine ⟨_, rfl, ?_⟩; have n0_ := Aside0.mk (blk_below (by (with_reducible repeat (first | refine kN ?_ _ | refine kD ?_ | refine kA ?_ _)); exact BK101.out) hb); have n1_ := Aside0.mk (blk_below (by (with_reducible repeat (first | refine kN ?_ _ | refine kD ?_ | refine kA ?_ _)); exact BK102.out) hb); have n2_ := Aside0.mk (below_step (by repeat (first | (with_reducible first | exact HB.out | apply bA | apply bN | apply bD | refine below_set ?_ GE101.out | refine below_set ?_ GE102.out) | exact HB.out)) hb); clear BK101 BK102 HB; have BK101 := n0_; have BK102 := n1_; have HB := n2_; clear n0_ n1_ n2_; (try clear hb); (try clear hb2); (try clear hk); (try clear hi)))); go_ret
   exact ⟨by first | rfl | (simp [errW_none, errW_some] <;> rfl) | (simp [*, errW_none, errW_some] <;> rfl), by repeat (first | (with_reducible first | exact HB.out | apply bA | apply bN | apply bD | refine below_set ?_ GE101.out | refine below_set ?_ GE102.out) | exact HB.out)⟩
  ·replace c6 := Bool.eq_false_iff.mpr c6
   subst c6; (rw [if_neg (show ¬ (false = true) by decide)] at H); (obtain rfl := Option.some.inj H); (exact absurd ht_.out (by decide))
 ·replace c4 := Bool.eq_false_iff.mpr c4
  subst c4; (rw [if_neg (show ¬ (false = true) by decide)] at H); (obtain rfl := Option.some.inj H); (exact absurd ht_.out (by decide))

end Go.Proofs.YtfkaiiconllbhaaDoor.X
namespace Go.Proofs.YtfkaiiconllbhaaDoor.X
open Go.RowKit Go.Proofs.YtfkaiiconllbhaaDoorW.PrintWords Go.Proofs.YtfkaiiconllbhaaDoorW.PrintLast Go.Proofs.YtfkaiiconllbhaaDoorW.PrintMore
attribute [local go_sem] max2_int min2_int max_two min_two max_three min_three max_four min_four   -- for this text's walks alone
set_option linter.unusedVariables false
set_option linter.unusedSimpArgs false
attribute [-simp] ByteArray.size_append ByteArray.size_extract
attribute [-go_sem] ByteArray.size_append'

/-! ### laws_FnExactRecordToEnglish: function 5 -/
def laws_FnExactRecordToEnglish.j0 : Nat → Bool → List (S92) → List (S94) → List (S68) → List (S70) → Option (Bool)
 | 0, _, _, _, _, _ => none
 | k + 1, x34, x102000, x102001, x118000, x118001 => if x34 = true then (some false) else ((laws_toRecord.f k x102000 x102001).bind fun bt120 => ((laws_eqRecord.f k x118000 x118001 bt120.1 bt120.2).bind fun t126 => (if t126 = true then (some true) else (some false))))
def laws_FnExactRecordToEnglish.f (k : Nat) (l0_0 : List (S92)) (l0_1 : List (S94)) : Option (Bool) := (laws_szRecord.f l0_0 l0_1 1048576).bind fun t102 => (if t102 < 0 then (some true) else ((laws_toRecord.f k l0_0 l0_1).bind fun bt103 => ((spec_RecordToEnglish.f k bt103.1 bt103.2).bind fun bt109 => ((laws_toRecord.f k l0_0 l0_1).bind fun bt111 => ((impl_RecordToEnglish.f k bt111.1 bt111.2).bind fun bt118 => (if bt118.1.toList = bt109.1.toList then (laws_FnExactRecordToEnglish.j0 k (bt118.2 != bt109.2) l0_0 l0_1 bt111.1 bt111.2) else (laws_FnExactRecordToEnglish.j0 k true l0_0 l0_1 bt111.1 bt111.2)))))))
set_option maxHeartbeats 8000000 in
set_option maxRecDepth 100000 in
theorem laws_FnExactRecordToEnglish.calls (k : Nat) (A0_0 : Option Addr) (c0_0 : Nat) (l0_0 : List (S92)) (A0_1 : Option Addr) (c0_1 : Nat) (l0_1 : List (S94)) (r : Bool) (w : World) (hr0_0 : Kd.C k92 w A0_0 l0_0.length l0_0) (hc0_0 : l0_0.length ≤ c0_0) (hr0_1 : Kd.C k94 w A0_1 l0_1.length l0_1) (hc0_1 : l0_1.length ≤ c0_1) (hG : GT w) (h : laws_FnExactRecordToEnglish.f k l0_0 l0_1 = some r) (ht_ : Aside0 (r = true)) :
  Calls Tryd.prog 5 #[.agg #[.slice A0_0 l0_0.length c0_0, .slice A0_1 l0_1.length c0_1]] w fun e w' => e = .returned (.bool r) ∧ Below w.heap.size w w' := by
 (have hu34 := Tryd.underlying34); (have hu40 := Tryd.underlying40); (have HR0_0 := Aside0.mk hr0_0); (have HC0_0 := Aside0.mk hc0_0); clear hr0_0 hc0_0; (have HR0_1 := Aside0.mk hr0_1); (have HC0_1 := Aside0.mk hc0_1); clear hr0_1 hc0_1; (have HG := Aside0.mk hG); clear hG; (have HB := Aside0.mk (Below.refl w.heap.size w)); (have H : ((laws_szRecord.f l0_0 l0_1 1048576).bind fun t102 => (if t102 < 0 then (some true) else ((laws_toRecord.f k l0_0 l0_1).bind fun bt103 => ((spec_RecordToEnglish.f k bt103.1 bt103.2).bind fun bt109 => ((laws_toRecord.f k l0_0 l0_1).bind fun bt111 => ((impl_RecordToEnglish.f k bt111.1 bt111.2).bind fun bt118 => (if bt118.1.toList = bt109.1.toList then (laws_FnExactRecordToEnglish.j0 k (bt118.2 != bt109.2) l0_0 l0_1 bt111.1 bt111.2) else (laws_FnExactRecordToEnglish.j0 k true l0_0 l0_1 bt111.1 bt111.2)))))))) = some r := h); clear h; (replace H := Option.bind_eq_some_iff.mp H); (obtain ⟨t102, A20, H⟩ := H); (have A2 := Aside0.mk A20); clear A20; (by_cases c3 : t102 < 0); (· (rw [if_pos c3] at H); (have c3b0 : decide (t102 < 0) = true := decide_eq_true c3); clear c3; (obtain rfl := Option.some.inj H); (go_enter Tryd.func5, Tryd.ntmps5); (go_wp2_with (first | ((with_reducible refine gate_dst (N := 1) rfl ?_); refine box_event ?hg (N := 1) ?hd (cs := #[.slice A0_0 l0_0.length c0_0, .slice A0_1 l0_1.length c0_1]) (t := 34) ?hr ?_; (case hd => rfl); (case hg => rfl); (case hr => first | (go_simp; done) | (go_simp; rfl)); intro gb101 hg w4 hbox hb; have hB_ := bz (by repeat (first | (with_reducible first | exact HB.out | apply bA | apply bN | apply bD) | exact HB.out)) hb; have n0_ := Aside0.mk (below_step hB_ hb); have n1_ := Aside0.mk (hbox); have n2_ := Aside0.mk ((by rw [hg]; exact (below_size hB_) : w.heap.size ≤ gb101)); have n3_ := n2_; clear HB; have HB := n0_; have BK101 := n1_; have GW101 := n2_; have GE101 := n3_; clear n0_ n1_ n2_ n3_ hB_ hb hbox hg; have hcz5_0 := cz BK101.out 0; have hcz5_1 := cz BK101.out 1; have hfz5_0 := blk_frozen BK101.out 0; have hfz5_1 := blk_frozen BK101.out 1) | ((with_reducible refine gate_callee (f := 14) rfl ?_); refine gL (some 11) Tryd.func14 #[.agg #[.slice A0_0 l0_0.length c0_0, .slice A0_1 l0_1.length c0_1], .int .i64 1048576] ?_; (with_reducible refine (laws_szRecord.calls _ _ l0_0 _ _ l0_1 1048576 t102 _ ?side1 ?side2 ?side3 ?side4 A2.out).mono ?_); (case side1 => repeat (first | exact (Kd.C_below HR0_0.out HB.out) | (with_reducible first | refine cA ?_ _ | refine cN ?_ _ | refine cD ?_))); (case side2 => exact HC0_0.out); (case side3 => repeat (first | exact (Kd.C_below HR0_1.out HB.out) | (with_reducible first | refine cA ?_ _ | refine cN ?_ _ | refine cD ?_))); (case side4 => exact HC0_1.out); rintro e w6 ⟨rfl, hb⟩; refine ⟨_, rfl, ?_⟩; have n0_ := Aside0.mk (blk_below (by (with_reducible repeat (first | refine kN ?_ _ | refine kD ?_ | refine kA ?_ _)); exact BK101.out) hb); have n1_ := Aside0.mk (below_step (by repeat (first | (with_reducible first | exact HB.out | apply bA | apply bN | apply bD | refine below_set ?_ GE101.out) | exact HB.out)) hb); clear BK101 HB; have BK101 := n0_; have HB := n1_; clear n0_ n1_; (try clear hb); (try clear hb2); (try clear hk); (try clear hi)))); go_ret; (exact ⟨by first | rfl | (simp [errW_none, errW_some] <;> rfl) | (simp [*, errW_none, errW_some] <;> rfl), by repeat (first | (with_reducible first | exact HB.out | apply bA | apply bN | apply bD | refine below_set ?_ GE101.out) | exact HB.out)⟩))
 ·rw [if_neg c3] at H
  (have c3b0 : decide (t102 < 0) = false := decide_eq_false c3); clear c3; (replace H := Option.bind_eq_some_iff.mp H); (obtain ⟨⟨t103, t106⟩, A70, H⟩ := H); (replace H : ((spec_RecordToEnglish.f k t103 t106).bind fun bt109 => ((laws_toRecord.f k l0_0 l0_1).bind fun bt111 => ((impl_RecordToEnglish.f k bt111.1 bt111.2).bind fun bt118 => (if bt118.1.toList = bt109.1.toList then (laws_FnExactRecordToEnglish.j0 k (bt118.2 != bt109.2) l0_0 l0_1 bt111.1 bt111.2) else (laws_FnExactRecordToEnglish.j0 k true l0_0 l0_1 bt111.1 bt111.2))))) = some r := H); (have A7 := Aside0.mk A70); clear A70; (replace H := Option.bind_eq_some_iff.mp H); (obtain ⟨⟨t109, t110⟩, A80, H⟩ := H); (replace H : ((laws_toRecord.f k l0_0 l0_1).bind fun bt111 => ((impl_RecordToEnglish.f k bt111.1 bt111.2).bind fun bt118 => (if bt118.1.toList = t109.toList then (laws_FnExactRecordToEnglish.j0 k (bt118.2 != t110) l0_0 l0_1 bt111.1 bt111.2) else (laws_FnExactRecordToEnglish.j0 k true l0_0 l0_1 bt111.1 bt111.2)))) = some r := H); (have A8 := Aside0.mk A80); clear A80; (replace H := Option.bind_eq_some_iff.mp H); (obtain ⟨⟨t111, t114⟩, A90, H⟩ := H); (replace H : ((impl_RecordToEnglish.f k t111 t114).bind fun bt118 => (if bt118.1.toList = t109.toList then (laws_FnExactRecordToEnglish.j0 k (bt118.2 != t110) l0_0 l0_1 t111 t114) else (laws_FnExactRecordToEnglish.j0 k true l0_0 l0_1 t111 t114))) = some r := H); (have A9 := Aside0.mk A90); clear A90; (replace H := Option.bind_eq_some_iff.mp H); (obtain ⟨⟨t118, t119⟩, A100, H⟩ := H); (replace H : (if t118.toList = t109.toList then (laws_FnExactRecordToEnglish.j0 k (t119 != t110) l0_0 l0_1 t111 t114) else (laws_FnExactRecordToEnglish.j0 k true l0_0 l0_1 t111 t114)) = some r := H); (have A10 := Aside0.mk A100); clear A100; (have HC11 := Aside0.mk H); clear H; (go_enter Tryd.func5, Tryd.ntmps5)
  go_upto_region 8 with (first | ((with_reducible refine gate_dst (N := 1) rfl ?_); refine box_event ?hg (N := 1) ?hd (cs := #[.slice A0_0 l0_0.length c0_0, .slice A0_1 l0_1.length c0_1]) (t := 34) ?hr ?_; (case hd => rfl); (case hg => rfl); (case hr => first | (go_simp; done) | (go_simp; rfl)); intro gb101 hg w12 hbox hb; have hB_ := bz (by repeat (first | (with_reducible first | exact HB.out | apply bA | apply bN | apply bD) | exact HB.out)) hb; have n0_ := Aside0.mk (below_step hB_ hb); have n1_ := Aside0.mk (hbox); have n2_ := Aside0.mk ((by rw [hg]; exact (below_size hB_) : w.heap.size ≤ gb101)); have n3_ := n2_; clear HB; have HB := n0_; have BK101 := n1_; have GW101 := n2_; have GE101 := n3_; clear n0_ n1_ n2_ n3_ hB_ hb hbox hg; have hcz13_0 := cz BK101.out 0; have hcz13_1 := cz BK101.out 1; have hfz13_0 := blk_frozen BK101.out 0; have hfz13_1 := blk_frozen BK101.out 1) | ((with_reducible refine gate_callee (f := 14) rfl ?_); refine gL (some 11) Tryd.func14 #[.agg #[.slice A0_0 l0_0.length c0_0, .slice A0_1 l0_1.length c0_1], .int .i64 1048576] ?_; (with_reducible refine (laws_szRecord.calls _ _ l0_0 _ _ l0_1 1048576 t102 _ ?side1 ?side2 ?side3 ?side4 A2.out).mono ?_); (case side1 => repeat (first | exact (Kd.C_below HR0_0.out HB.out) | (with_reducible first | refine cA ?_ _ | refine cN ?_ _ | refine cD ?_))); (case side2 => exact HC0_0.out); (case side3 => repeat (first | exact (Kd.C_below HR0_1.out HB.out) | (with_reducible first | refine cA ?_ _ | refine cN ?_ _ | refine cD ?_))); (case side4 => exact HC0_1.out); rintro e w14 ⟨rfl, hb⟩; refine ⟨_, rfl, ?_⟩; have n0_ := Aside0.mk (blk_below (by (with_reducible repeat (first | refine kN ?_ _ | refine kD ?_ | refine kA ?_ _)); exact BK101.out) hb); have n1_ := Aside0.mk (below_step (by repeat (first | (with_reducible first | exact HB.out | apply bA | apply bN | apply bD | refine below_set ?_ GE101.out) | exact HB.out)) hb); clear BK101 HB; have BK101 := n0_; have HB := n1_; clear n0_ n1_; (try clear hb); (try clear hb2); (try clear hk); (try clear hi); have hcz15_0 := cz BK101.out 0; have hcz15_1 := cz BK101.out 1; have hfz15_0 := blk_frozen BK101.out 0; have hfz15_1 := blk_frozen BK101.out 1) | ((with_reducible refine gate_callee (f := 16) rfl ?_); refine gL (some 16) Tryd.func16 #[.agg #[.slice A0_0 l0_0.length c0_0, .slice A0_1 l0_1.length c0_1]] ?_; (with_reducible refine (laws_toRecord.calls k _ _ l0_0 _ _ l0_1 t103 t106 _ ?side1 ?side2 ?side3 ?side4 A7.out).mono ?_); (case side1 => repeat (first | exact (Kd.C_below HR0_0.out HB.out) | (with_reducible first | refine cA ?_ _ | refine cN ?_ _ | refine cD ?_))); (case side2 => exact HC0_0.out); (case side3 => repeat (first | exact (Kd.C_below HR0_1.out HB.out) | (with_reducible first | refine cA ?_ _ | refine cN ?_ _ | refine cD ?_))); (case side4 => exact HC0_1.out); rintro e w16 ⟨v104, v107, rfl, ho0, ho1, hb⟩; refine ⟨_, rfl, ?_⟩; have n0_ := Aside0.mk (Kd.R_lower ho0 (below_size (by repeat (first | (with_reducible first | exact HB.out | apply bA | apply bN | apply bD | refine below_set ?_ GE101.out) | exact HB.out)))); have n1_ := Aside0.mk (Kd.R_lower ho1 (below_size (by repeat (first | (with_reducible first | exact HB.out | apply bA | apply bN | apply bD | refine below_set ?_ GE101.out) | exact HB.out)))); have n2_ := Aside0.mk (blk_below (by (with_reducible repeat (first | refine kN ?_ _ | refine kD ?_ | refine kA ?_ _)); exact BK101.out) hb); have n3_ := Aside0.mk (below_step (by repeat (first | (with_reducible first | exact HB.out | apply bA | apply bN | apply bD | refine below_set ?_ GE101.out) | exact HB.out)) hb); clear BK101 HB; have HO105 := n0_; have HO108 := n1_; have BK101 := n2_; have HB := n3_; clear n0_ n1_ n2_ n3_; (try clear hb); (try clear hb2); (try clear hk); (try clear hi); (try clear ho0); (try clear ho1); obtain ⟨Ao17, co17, eo17⟩ := Kd.R_slice HO105.out; subst eo17; obtain ⟨Ao18, co18, eo18⟩ := Kd.R_slice HO108.out; subst eo18) | ((with_reducible refine gate_callee (f := 15) rfl ?_); refine gL (some 17) Tryd.func15 #[.agg #[.slice Ao17 t103.length co17, .slice Ao18 t106.length co18]] ?_; (with_reducible refine (spec_RecordToEnglish.calls k _ _ t103 _ _ t106 t109 t110 _ ?side1 ?side2 ?side3 ?side4 A8.out).mono ?_); (case side1 => repeat (first | exact (Kd.R_reads' HO105.out).2.2 | (with_reducible first | refine cA ?_ _ | refine cN ?_ _ | refine cD ?_))); (case side2 => exact (Kd.R_reads' HO105.out).2.1); (case side3 => repeat (first | exact (Kd.R_reads' HO108.out).2.2 | (with_reducible first | refine cA ?_ _ | refine cN ?_ _ | refine cD ?_))); (case side4 => exact (Kd.R_reads' HO108.out).2.1); rintro e w19 ⟨rfl, hb⟩; refine ⟨_, rfl, ?_⟩; have n0_ := Aside0.mk (Kd.R_below (by (with_reducible repeat (first | apply rA | apply rN | apply rD)); exact HO105.out) hb); have n1_ := Aside0.mk (Kd.R_below (by (with_reducible repeat (first | apply rA | apply rN | apply rD)); exact HO108.out) hb); have n2_ := Aside0.mk (blk_below (by (with_reducible repeat (first | refine kN ?_ _ | refine kD ?_ | refine kA ?_ _)); exact BK101.out) hb); have n3_ := Aside0.mk (below_step (by repeat (first | (with_reducible first | exact HB.out | apply bA | apply bN | apply bD | refine below_set ?_ GE101.out) | exact HB.out)) hb); clear HO105 HO108 BK101 HB; have HO105 := n0_; have HO108 := n1_; have BK101 := n2_; have HB := n3_; clear n0_ n1_ n2_ n3_; (try clear hb); (try clear hb2); (try clear hk); (try clear hi); have hcz20_0 := cz BK101.out 0; have hcz20_1 := cz BK101.out 1; have hfz20_0 := blk_frozen BK101.out 0; have hfz20_1 := blk_frozen BK101.out 1) | ((with_reducible refine gate_callee (f := 16) rfl ?_); refine gL (some 21) Tryd.func16 #[.agg #[.slice A0_0 l0_0.length c0_0, .slice A0_1 l0_1.length c0_1]] ?_; (with_reducible refine (laws_toRecord.calls k _ _ l0_0 _ _ l0_1 t111 t114 _ ?side1 ?side2 ?side3 ?side4 A9.out).mono ?_); (case side1 => repeat (first | exact (Kd.C_below HR0_0.out HB.out) | (with_reducible first | refine cA ?_ _ | refine cN ?_ _ | refine cD ?_))); (case side2 => exact HC0_0.out); (case side3 => repeat (first | exact (Kd.C_below HR0_1.out HB.out) | (with_reducible first | refine cA ?_ _ | refine cN ?_ _ | refine cD ?_))); (case side4 => exact HC0_1.out); rintro e w21 ⟨v112, v115, rfl, ho0, ho1, hb⟩; refine ⟨_, rfl, ?_⟩; have n0_ := Aside0.mk (Kd.R_elder' (by (with_reducible repeat (first | apply rA | apply rN | apply rD)); exact HO105.out) (Kd.R_base ho0) hb); have n1_ := Aside0.mk (Kd.R_elder' (by (with_reducible repeat (first | apply rA | apply rN | apply rD)); exact HO108.out) (Kd.R_base ho1) hb); have n2_ := Aside0.mk (Kd.R_lower (Kd.R_new' ho0 (Kd.R_lt (by (with_reducible repeat (first | apply rA | apply rN | apply rD)); exact HO105.out))) (below_size (by repeat (first | (with_reducible first | exact HB.out | apply bA | apply bN | apply bD | refine below_set ?_ GE101.out) | exact HB.out)))); have n3_ := Aside0.mk (Kd.R_lower (Kd.R_new' ho1 (Kd.R_lt (by (with_reducible repeat (first | apply rA | apply rN | apply rD)); exact HO108.out))) (below_size (by repeat (first | (with_reducible first | exact HB.out | apply bA | apply bN | apply bD | refine below_set ?_ GE101.out) | exact HB.out)))); have n4_ := Aside0.mk (blk_below (by (with_reducible repeat (first | refine kN ?_ _ | refine kD ?_ | refine kA ?_ _)); exact BK101.out) hb); have n5_ := Aside0.mk (below_step (by repeat (first | (with_reducible first | exact HB.out | apply bA | apply bN | apply bD | refine below_set ?_ GE101.out) | exact HB.out)) hb); clear HO105 HO108 BK101 HB; have HO105 := n0_; have HO108 := n1_; have HO113 := n2_; have HO116 := n3_; have BK101 := n4_; have HB := n5_; clear n0_ n1_ n2_ n3_ n4_ n5_; (try clear hb); (try clear hb2); (try clear hk); (try clear hi); (try clear ho0); (try clear ho1)) | ((with_reducible refine gate_dst (N := 6) rfl ?_); refine box_event ?hg (N := 6) ?hd (cs := #[.slice none 0 0, .slice none 0 0]) (t := 40) ?hr ?_; (case hd => rfl); (case hg => rfl); (case hr => first | (go_simp; done) | (go_simp; rfl)); intro gb117 hg w22 hbox hb; have n0_ := Aside0.mk (Kd.R_below (by (with_reducible repeat (first | apply rA | apply rN | apply rD)); exact HO105.out) hb); have n1_ := Aside0.mk (Kd.R_below (by (with_reducible repeat (first | apply rA | apply rN | apply rD)); exact HO108.out) hb); have n2_ := Aside0.mk (Kd.R_below (by (with_reducible repeat (first | apply rA | apply rN | apply rD)); exact HO113.out) hb); have n3_ := Aside0.mk (Kd.R_below (by (with_reducible repeat (first | apply rA | apply rN | apply rD)); exact HO116.out) hb); have n4_ := Aside0.mk (blk_below (by (with_reducible repeat (first | refine kN ?_ _ | refine kD ?_ | refine kA ?_ _)); exact BK101.out) hb); have hB_ := bz (by repeat (first | (with_reducible first | exact HB.out | apply bA | apply bN | apply bD | refine below_set ?_ GE101.out) | exact HB.out)) hb; have n5_ := Aside0.mk (below_step hB_ hb); have n6_ := Aside0.mk (hbox); have n7_ := Aside0.mk ((by rw [hg]; exact (below_size hB_) : w.heap.size ≤ gb117)); have n8_ := n7_; have n9_ := Aside0.mk ((by rw [hg]; exact Nat.ne_of_lt (blk_lt (by (with_reducible repeat (first | refine kN ?_ _ | refine kD ?_ | refine kA ?_ _)); exact BK101.out)) : gb101 ≠ gb117)); have n10_ := Aside0.mk (Ne.symm n9_.out); clear HO105 HO108 HO113 HO116 BK101 HB; have HO105 := n0_; have HO108 := n1_; have HO113 := n2_; have HO116 := n3_; have BK101 := n4_; have HB := n5_; have BK117 := n6_; have GW117 := n7_; have GE117 := n8_; have NB101_117 := n9_; have NB117_101 := n10_; clear n0_ n1_ n2_ n3_ n4_ n5_ n6_ n7_ n8_ n9_ n10_ hB_ hb hbox hg; obtain ⟨Ao23, co23, eo23⟩ := Kd.R_slice HO113.out; subst eo23; have hnb24 := NB117_101.out; have hnc24 := NB101_117.out; have hcz25_0 := cz BK117.out 0; have hcz25_1 := cz BK117.out 1; have hfz25_0 := blk_frozen BK117.out 0; have hfz25_1 := blk_frozen BK117.out 1; obtain ⟨Ao26, co26, eo26⟩ := Kd.R_slice HO116.out; subst eo26) | ((with_reducible refine gate_callee (f := 17) rfl ?_); refine gL (some 24) Tryd.func17 #[.agg #[.slice Ao23 t111.length co23, .slice Ao26 t114.length co26]] ?_; (with_reducible refine (impl_RecordToEnglish.calls k _ _ t111 _ _ t114 t118 t119 _ ?side1 ?side2 ?side3 ?side4 ?side5 A10.out).mono ?_); (case side1 => refine (Kd.R_reads' (e := 68) (base := w.heap.size) (ok := fun k_ => (True ∧ some k_ ≠ (.slice Ao17 t103.length co17 : Value).ownBlock)) (n := t111.length) (c := co23) ?_).2.2; exact (by (with_reducible repeat (first | apply rA | apply rN | apply rD)); exact (Kd.R_mono (Kd.R_far (p := ⟨gb117, 1, none⟩) (Kd.R_far (p := ⟨gb117, 0, none⟩) (Kd.R_types HO113.out BK117.out (by decide)) (fun _ hk => hk.2) (.slice Ao23 t111.length co23)) (fun _ hk => hk.2) (.slice Ao26 t114.length co26)) (fun _ h_ => h_.1)))); (case side2 => exact (Kd.R_reads' HO113.out).2.1); (case side3 => refine (Kd.R_reads' (e := 70) (base := w.heap.size) (ok := fun k_ => (True ∧ some k_ ≠ (.slice Ao18 t106.length co18 : Value).ownBlock)) (n := t114.length) (c := co26) ?_).2.2; exact (by (with_reducible repeat (first | apply rA | apply rN | apply rD)); exact (Kd.R_mono (Kd.R_far (p := ⟨gb117, 1, none⟩) (Kd.R_far (p := ⟨gb117, 0, none⟩) (Kd.R_types HO116.out BK117.out (by decide)) (fun _ hk => hk.2) (.slice Ao23 t111.length co23)) (fun _ hk => hk.2) (.slice Ao26 t114.length co26)) (fun _ h_ => h_.1)))); (case side4 => exact (Kd.R_reads' HO116.out).2.1); (case side5 => first | exact GT.below HG.out (by repeat (first | (with_reducible first | exact HB.out | apply bA | apply bN | apply bD | refine below_set ?_ GE101.out | refine below_set ?_ GE117.out) | exact HB.out)) | (repeat (first | exact HG.out | (with_reducible first | apply GT.drewN | apply GT.drew | apply GT.alloc)))); rintro e w27 ⟨rfl, hb⟩; refine ⟨_, rfl, ?_⟩; have n0_ := Aside0.mk (Kd.R_below (by (with_reducible repeat (first | apply rA | apply rN | apply rD)); exact (Kd.R_mono (Kd.R_far (p := ⟨gb117, 1, none⟩) (Kd.R_far (p := ⟨gb117, 0, none⟩) (Kd.R_types HO105.out BK117.out (by decide)) (fun _ hk => hk.2) (.slice Ao23 t111.length co23)) (fun _ hk => hk.2) (.slice Ao26 t114.length co26)) (fun _ h_ => h_.1))) hb); have n1_ := Aside0.mk (Kd.R_below (by (with_reducible repeat (first | apply rA | apply rN | apply rD)); exact (Kd.R_mono (Kd.R_far (p := ⟨gb117, 1, none⟩) (Kd.R_far (p := ⟨gb117, 0, none⟩) (Kd.R_types HO108.out BK117.out (by decide)) (fun _ hk => hk.2) (.slice Ao23 t111.length co23)) (fun _ hk => hk.2) (.slice Ao26 t114.length co26)) (fun _ h_ => h_.1))) hb); have n2_ := Aside0.mk (Kd.R_below (by (with_reducible repeat (first | apply rA | apply rN | apply rD)); exact (Kd.R_mono (Kd.R_far (p := ⟨gb117, 1, none⟩) (Kd.R_far (p := ⟨gb117, 0, none⟩) (Kd.R_types HO113.out BK117.out (by decide)) (fun _ hk => hk.2) (.slice Ao23 t111.length co23)) (fun _ hk => hk.2) (.slice Ao26 t114.length co26)) (fun _ h_ => h_.1))) hb); have n3_ := Aside0.mk (Kd.R_below (by (with_reducible repeat (first | apply rA | apply rN | apply rD)); exact (Kd.R_mono (Kd.R_far (p := ⟨gb117, 1, none⟩) (Kd.R_far (p := ⟨gb117, 0, none⟩) (Kd.R_types HO116.out BK117.out (by decide)) (fun _ hk => hk.2) (.slice Ao23 t111.length co23)) (fun _ hk => hk.2) (.slice Ao26 t114.length co26)) (fun _ h_ => h_.1))) hb); have n4_ := Aside0.mk (blk_below (g := gb101) (o := .cells #[.slice A0_0 l0_0.length c0_0, .slice A0_1 l0_1.length c0_1] 34 (0, 0)) (by (with_reducible repeat (first | refine kN ?_ _ | refine kD ?_ | refine kA ?_ _)); refine blk_far ?_ NB101_117.out _; (with_reducible repeat (first | refine kN ?_ _ | refine kD ?_ | refine kA ?_ _)); refine blk_far ?_ NB101_117.out _; (with_reducible repeat (first | refine kN ?_ _ | refine kD ?_ | refine kA ?_ _)); exact BK101.out) hb); have n5_ := Aside0.mk (blk_below (g := gb117) (o := .cells #[.slice Ao23 t111.length co23, .slice Ao26 t114.length co26] 40 (0, 0)) (by (with_reducible repeat (first | refine kN ?_ _ | refine kD ?_ | refine kA ?_ _)); refine blk_put (cs := #[.slice Ao23 t111.length co23, .slice none 0 0]) ?_ 1 _ rfl; (with_reducible repeat (first | refine kN ?_ _ | refine kD ?_ | refine kA ?_ _)); refine blk_put (cs := #[.slice none 0 0, .slice none 0 0]) ?_ 0 _ rfl; (with_reducible repeat (first | refine kN ?_ _ | refine kD ?_ | refine kA ?_ _)); exact BK117.out) hb); have n6_ := Aside0.mk (below_step (by repeat (first | (with_reducible first | exact HB.out | apply bA | apply bN | apply bD | refine below_set ?_ GE101.out | refine below_set ?_ GE117.out) | exact HB.out)) hb); clear HO105 HO108 HO113 HO116 BK101 BK117 HB; have HO105 := n0_; have HO108 := n1_; have HO113 := n2_; have HO116 := n3_; have BK101 := n4_; have BK117 := n5_; have HB := n6_; clear n0_ n1_ n2_ n3_ n4_ n5_ n6_; (try clear hb); (try clear hb2); (try clear hk); (try clear hi)))
  ((try simp only [Act.put, aS1, aS2, aS3])); (go_cut [34] (fun v34 wc => ∃ (kq : Nat) (x34_10 : Bool), v34 = .bool x34_10 ∧ Aside0 (laws_FnExactRecordToEnglish.j0 kq x34_10 l0_0 l0_1 t111 t114 = some r) ∧ Aside0 (kq ≤ k) ∧ Aside0 (Kd.R k68 68 wc w.heap.size (fun _ => True) (.slice Ao23 t111.length co23) t111) ∧ Aside0 (Kd.R k70 70 wc w.heap.size (fun _ => True) (.slice Ao26 t114.length co26) t114) ∧ Aside0 (wc.heap[gb101]? = some (.cells #[(.slice A0_0 l0_0.length c0_0), (.slice A0_1 l0_1.length c0_1)] 34 (0, 0))) ∧ Aside0 (wc.heap[gb117]? = some (.cells #[(.slice Ao23 t111.length co23), (.slice Ao26 t114.length co26)] 40 (0, 0))) ∧ Aside0 (Below w.heap.size w wc)))
  case first =>
   (have H := HC11.out); clear HC11; (by_cases c28 : t118.toList = t109.toList)
   ·rw [if_pos c28] at H
    (have c28b0 : (t118.toList == t109.toList) = true := beq_iff_eq.mpr c28); (have c28b1 : (t118.toList != t109.toList) = false := bne_eq_false_iff_eq.mpr c28); clear c28; ((first | rw [c28b0] | (simp only [i64_w, i32_w]; rw [c28b0]) | skip)); (have H' := Aside0.mk H); clear H; (go_wp2); (go_meet)
    case rel => exact ⟨_, ((t119 != t110)), (by first | rfl | (simp; done) | (simp [*]; done)), H', ⟨by first | omega | exact Nat.le_refl _⟩, ⟨by (with_reducible repeat (first | apply rA | apply rN | apply rD)); exact Kd.R_mono HO113.out (fun _ hk => trivial)⟩, ⟨by (with_reducible repeat (first | apply rA | apply rN | apply rD)); exact Kd.R_mono HO116.out (fun _ hk => trivial)⟩, ⟨by (with_reducible repeat (first | refine kN ?_ _ | refine kD ?_ | refine kA ?_ _)); exact BK101.out⟩, ⟨by (with_reducible repeat (first | refine kN ?_ _ | refine kD ?_ | refine kA ?_ _)); exact BK117.out⟩, ⟨by repeat (first | (with_reducible first | exact HB.out | apply bA | apply bN | apply bD | refine below_set ?_ GE101.out | refine below_set ?_ GE117.out) | exact HB.out)⟩⟩
   ·rw [if_neg c28] at H
    (have c28b0 : (t118.toList == t109.toList) = false := beq_eq_false_iff_ne.mpr c28); (have c28b1 : (t118.toList != t109.toList) = true := bne_iff_ne.mpr c28); ((first | rw [c28b0] | (simp only [i64_w, i32_w]; rw [c28b0]) | skip)); (have H' := Aside0.mk H); clear H; (go_wp2); (go_meet)
    case rel => exact ⟨_, (true), (by first | rfl | (simp; done) | (simp [*]; done)), H', ⟨by first | omega | exact Nat.le_refl _⟩, ⟨by (with_reducible repeat (first | apply rA | apply rN | apply rD)); exact Kd.R_mono HO113.out (fun _ hk => trivial)⟩, ⟨by (with_reducible repeat (first | apply rA | apply rN | apply rD)); exact Kd.R_mono HO116.out (fun _ hk => trivial)⟩, ⟨by (with_reducible repeat (first | refine kN ?_ _ | refine kD ?_ | refine kA ?_ _)); exact BK101.out⟩, ⟨by (with_reducible repeat (first | refine kN ?_ _ | refine kD ?_ | refine kA ?_ _)); exact BK117.out⟩, ⟨by repeat (first | (with_reducible first | exact HB.out | apply bA | apply bN | apply bD | refine below_set ?_ GE101.out | refine below_set ?_ GE117.out) | exact HB.out)⟩⟩
  case rest =>
   clear HC11; (try clear c1); (try clear c2); (try clear p2); (try clear c3); (try clear c3b0); (try clear c5); (try clear c14); (try clear c15); (try clear c16); (try clear c17); (try clear c24); (try clear c28); (try clear c28b0); (try clear c28b1); (try clear hcz13_0); (try clear hcz13_1); (try clear hcz15_0); (try clear hcz15_1); (try clear hcz20_0); (try clear hcz20_1); (try clear hcz25_0); (try clear hcz25_1); (try clear hcz5_0); (try clear hcz5_1); (try clear hfz13_0); (try clear hfz13_1); (try clear hfz15_0); (try clear hfz15_1); (try clear hfz20_0); (try clear hfz20_1); (try clear hfz25_0); (try clear hfz25_1); (try clear hfz5_0); (try clear hfz5_1); (obtain ⟨kq, x34_10, rfl, HA, HJ10, HO_118000, HO_118001, BK101, BK117, HB⟩ := hcut)
   cases kq with
   | zero => exact absurd HA.out (by simp [laws_FnExactRecordToEnglish.j0])
   | succ kj10 =>
    (have H := HA.out); clear HA; (simp only [laws_FnExactRecordToEnglish.j0] at H); (by_cases c29 : x34_10 = true); (· subst c29; (rw [if_pos rfl] at H); (obtain rfl := Option.some.inj H); (exact absurd ht_.out (by decide)))
    ·replace c29 := Bool.eq_false_iff.mpr c29
     subst c29; (rw [if_neg (show ¬ (false = true) by decide)] at H); (replace H := Option.bind_eq_some_iff.mp H); (obtain ⟨⟨t120, t123⟩, A300, H⟩ := H); (replace H : ((laws_eqRecord.f kj10 t111 t114 t120 t123).bind fun t126 => (if t126 = true then (some true) else (some false))) = some r := H); (have A30 := Aside0.mk A300); clear A300; (replace H := Option.bind_eq_some_iff.mp H); (obtain ⟨t126, A310, H⟩ := H); (have A31 := Aside0.mk A310); clear A310; (by_cases c32 : t126 = true)
     ·subst c32
      (rw [if_pos rfl] at H); (obtain rfl := Option.some.inj H); (try go_wp2); (have n0_ := Aside0.mk (Kd.R_drew HO_118000.out)); (have n1_ := Aside0.mk (Kd.R_drew HO_118001.out)); (have n2_ := Aside0.mk (blk_drew BK101.out)); (have n3_ := Aside0.mk (blk_drew BK117.out)); (have n4_ := Aside0.mk (below_drew1 HB.out)); clear HO_118000 HO_118001 BK101 BK117 HB; (have HO_118000 := n0_); (have HO_118001 := n1_); (have BK101 := n2_); (have BK117 := n3_); (have HB := n4_); clear n0_ n1_ n2_ n3_ n4_; (refine start_ (n := 5) (S := fun w' => w'.cell? ⟨gb117, 0, none⟩ = some (.slice Ao23 t111.length co23) ∧ w'.cell? ⟨gb117, 1, none⟩ = some (.slice Ao26 t114.length co26) ∧ w'.cell? ⟨gb101, 0, none⟩ = some (.slice A0_0 l0_0.length c0_0) ∧ w'.cell? ⟨gb101, 1, none⟩ = some (.slice A0_1 l0_1.length c0_1)) (ds := []) (cn 5 0) (by kernel_rfl) rfl (by kernel_rfl) ⟨(blk_cell BK117.out 0).trans rfl, (blk_cell BK117.out 1).trans rfl, (blk_cell BK101.out 0).trans rfl, (blk_cell BK101.out 1).trans rfl⟩ (fun hHeld => ?_)); (generalize wc.drew = w33 at HO_118000 HO_118001 BK101 BK117 HB hHeld ⊢); (refine take_ (i := 0) (N := some 35) (v := ?_) (a' := ?_) (cn 5 1) rfl rfl (by kernel_rfl) (fun _ _ _ h => h) (Or.inl ⟨by rfl, ?_⟩) hHeld ?_ ?_); rotate_left; (· (rintro w' ⟨s0, s1, s2, s3⟩); go_simp; with_reducible rfl); rotate_left; (· (simp only [Act.put, aS1, aS2, aS3, i64_w, i32_w]); rfl); (refine take_ (i := 1) (N := some 36) (v := ?_) (a' := ?_) (cn 5 2) rfl rfl (by kernel_rfl) (fun _ _ _ h => h) (Or.inl ⟨by rfl, ?_⟩) hHeld ?_ ?_); rotate_left; (· (rintro w' ⟨s0, s1, s2, s3⟩); go_simp; with_reducible rfl); rotate_left; (· (simp only [Act.put, aS1, aS2, aS3, i64_w, i32_w]); rfl); (refine one_ (i := 2) (N := some 37) (cn 5 3) rfl rfl (by kernel_rfl) (by decide) (fun K hK => ?_)); (refine goes_ Tryd.func16 (by kernel_rfl) rfl #[.agg #[.slice A0_0 l0_0.length c0_0, .slice A0_1 l0_1.length c0_1]] (by rfl) rfl rfl (by (try simp only [aM1, aM2, aM3]); first | done | rfl | (simp only [List.length_drop, List.length_take]; rfl)) ?_); (with_reducible refine (laws_toRecord.calls kj10 _ _ l0_0 _ _ l0_1 t120 t123 _ ?side1 ?side2 ?side3 ?side4 A30.out).mono ?_); ((case side1 => repeat (first | exact (Kd.C_below HR0_0.out HB.out) | (with_reducible first | refine cA ?_ _ | refine cN ?_ _ | refine cD ?_)))); ((case side2 => exact HC0_0.out)); ((case side3 => repeat (first | exact (Kd.C_below HR0_1.out HB.out) | (with_reducible first | refine cA ?_ _ | refine cN ?_ _ | refine cD ?_)))); ((case side4 => exact HC0_1.out)); (rintro e w34 ⟨v121, v124, rfl, ho0, ho1, hb⟩); (refine ⟨_, rfl, ?_⟩); (have n0_ := Aside0.mk (Kd.R_elder' (by (with_reducible repeat (first | apply rA | apply rN | apply rD)); exact HO_118000.out) (Kd.R_base ho0) hb)); (have n1_ := Aside0.mk (Kd.R_elder' (by (with_reducible repeat (first | apply rA | apply rN | apply rD)); exact HO_118001.out) (Kd.R_base ho1) hb)); (have n2_ := Aside0.mk (Kd.R_lower (Kd.R_new' ho0 (Kd.R_lt (by (with_reducible repeat (first | apply rA | apply rN | apply rD)); exact HO_118000.out))) (below_size (by repeat (first | (with_reducible first | exact HB.out | apply bA | apply bN | apply bD | refine below_set ?_ GE101.out | refine below_set ?_ GE117.out) | exact HB.out))))); (have n3_ := Aside0.mk (Kd.R_lower (Kd.R_new' ho1 (Kd.R_lt (by (with_reducible repeat (first | apply rA | apply rN | apply rD)); exact HO_118001.out))) (below_size (by repeat (first | (with_reducible first | exact HB.out | apply bA | apply bN | apply bD | refine below_set ?_ GE101.out | refine below_set ?_ GE117.out) | exact HB.out))))); (have n4_ := Aside0.mk (blk_below (by (with_reducible repeat (first | refine kN ?_ _ | refine kD ?_ | refine kA ?_ _)); exact BK101.out) hb)); (have n5_ := Aside0.mk (blk_below (by (with_reducible repeat (first | refine kN ?_ _ | refine kD ?_ | refine kA ?_ _)); exact BK117.out) hb)); (have n6_ := Aside0.mk (below_step (by repeat (first | (with_reducible first | exact HB.out | apply bA | apply bN | apply bD | refine below_set ?_ GE101.out | refine below_set ?_ GE117.out) | exact HB.out)) hb)); clear HO_118000 HO_118001 BK101 BK117 HB; (have HO_118000 := n0_); (have HO_118001 := n1_); (have HO122 := n2_); (have HO125 := n3_); (have BK101 := n4_); (have BK117 := n5_); (have HB := n6_); clear n0_ n1_ n2_ n3_ n4_ n5_ n6_; ((try clear hb)); ((try clear hb2)); ((try clear hk)); ((try clear hi)); ((try clear ho0)); ((try clear ho1)); (obtain ⟨Ao35, co35, eo35⟩ := Kd.R_slice HO122.out); ((first | subst eo35 | (injection eo35 with f1_ f2_ f3_; have f4_ := f1_.symm; have f5_ := f3_.symm; clear f1_ f2_ f3_; subst f4_; subst f5_))); (obtain ⟨Ao36, co36, eo36⟩ := Kd.R_slice HO125.out); ((first | subst eo36 | (injection eo36 with f1_ f2_ f3_; have f4_ := f1_.symm; have f5_ := f3_.symm; clear f1_ f2_ f3_; subst f4_; subst f5_))); (refine hK.out _ _ ⟨(blk_cell BK117.out 0).trans rfl, (blk_cell BK117.out 1).trans rfl, (blk_cell BK101.out 0).trans rfl, (blk_cell BK101.out 1).trans rfl⟩ (fun hHeld => ?_)); clear hK K; (refine norm_ (a' := ?_) ?_ ?_); rotate_left; (· (show Act.put _ (some 37) _ = _); (simp only [Act.put, aS1, aS2, aS3, i64_w, i32_w]); rfl); (refine one_ (i := 3) (N := some 38) (cn 5 4) rfl rfl (by kernel_rfl) (by decide) (fun K hK => ?_))
      (refine goes_ Tryd.func18 (by kernel_rfl) rfl #[.agg #[.slice Ao23 t111.length co23, .slice Ao26 t114.length co26], .agg #[.slice Ao35 t120.length co35, .slice Ao36 t123.length co36]] (by rfl) rfl rfl (by (try simp only [aM1, aM2, aM3]); first | done | rfl | (simp only [List.length_drop, List.length_take]; rfl)) ?_); (with_reducible refine (laws_eqRecord.calls kj10 _ _ t111 _ _ t114 _ _ t120 _ _ t123 true _ ?side1 ?side2 ?side3 ?side4 ?side5 ?side6 ?side7 ?side8 A31.out ⟨rfl⟩).mono ?_); ((case side1 => repeat (first | exact (Kd.R_reads' HO_118000.out).2.2 | (with_reducible first | refine cA ?_ _ | refine cN ?_ _ | refine cD ?_)))); ((case side2 => exact (Kd.R_reads' HO_118000.out).2.1)); ((case side3 => repeat (first | exact (Kd.R_reads' HO_118001.out).2.2 | (with_reducible first | refine cA ?_ _ | refine cN ?_ _ | refine cD ?_)))); ((case side4 => exact (Kd.R_reads' HO_118001.out).2.1)); ((case side5 => repeat (first | exact (Kd.R_reads' HO122.out).2.2 | (with_reducible first | refine cA ?_ _ | refine cN ?_ _ | refine cD ?_)))); ((case side6 => exact (Kd.R_reads' HO122.out).2.1)); ((case side7 => repeat (first | exact (Kd.R_reads' HO125.out).2.2 | (with_reducible first | refine cA ?_ _ | refine cN ?_ _ | refine cD ?_)))); ((case side8 => exact (Kd.R_reads' HO125.out).2.1)); (rintro e w37 ⟨rfl, hb⟩); (refine ⟨_, rfl, ?_⟩); (have n0_ := Aside0.mk (Kd.R_below (by (with_reducible repeat (first | apply rA | apply rN | apply rD)); exact HO_118000.out) hb)); (have n1_ := Aside0.mk (Kd.R_below (by (with_reducible repeat (first | apply rA | apply rN | apply rD)); exact HO_118001.out) hb)); (have n2_ := Aside0.mk (Kd.R_below (by (with_reducible repeat (first | apply rA | apply rN | apply rD)); exact HO122.out) hb)); (have n3_ := Aside0.mk (Kd.R_below (by (with_reducible repeat (first | apply rA | apply rN | apply rD)); exact HO125.out) hb)); (have n4_ := Aside0.mk (blk_below (by (with_reducible repeat (first | refine kN ?_ _ | refine kD ?_ | refine kA ?_ _)); exact BK101.out) hb)); (have n5_ := Aside0.mk (blk_below (by (with_reducible repeat (first | refine kN ?_ _ | refine kD ?_ | refine kA ?_ _)); exact BK117.out) hb)); (have n6_ := Aside0.mk (below_step (by repeat (first | (with_reducible first | exact HB.out | apply bA | apply bN | apply bD | refine below_set ?_ GE101.out | refine below_set ?_ GE117.out) | exact HB.out)) hb)); clear HO_118000 HO_118001 HO122 HO125 BK101 BK117 HB; (have HO_118000 := n0_); (have HO_118001 := n1_); (have HO122 := n2_); (have HO125 := n3_); (have BK101 := n4_); (have BK117 := n5_); (have HB := n6_); clear n0_ n1_ n2_ n3_ n4_ n5_ n6_; ((try clear hb)); ((try clear hb2)); ((try clear hk)); ((try clear hi)); (refine hK.out _ _ ⟨(blk_cell BK117.out 0).trans rfl, (blk_cell BK117.out 1).trans rfl, (blk_cell BK101.out 0).trans rfl, (blk_cell BK101.out 1).trans rfl⟩ (fun hHeld => ?_)); clear hK K; (refine norm_ (a' := ?_) ?_ ?_); rotate_left; (· (show Act.put _ (some 38) _ = _); (simp only [Act.put, aS1, aS2, aS3, i64_w, i32_w]); rfl); (refine pure_ (i := 4) (N := some 39) (v := ?_) (a' := ?_) (cn 5 5) rfl rfl (by kernel_rfl) (fun _ _ _ h => h) (Or.inl ⟨by rfl, ?_⟩) ?_ ?_); rotate_left; (· intro w'; go_simp; with_reducible rfl); rotate_left; (· (simp only [Act.put, aS1, aS2, aS3, i64_w, i32_w]); rfl); (refine done_ (by kernel_rfl) ?_); (try go_wp2); go_ret; (exact ⟨by first | rfl | (simp [errW_none, errW_some] <;> rfl) | (simp [*, errW_none, errW_some] <;> rfl), by repeat (first | (with_reducible first | exact HB.out | apply bA | apply bN | apply bD | refine below_set ?_ GE101.out | refine below_set ?_ GE117.out) | exact HB.out)⟩)
     ·replace c32 := Bool.eq_false_iff.mpr c32
      subst c32; (rw [if_neg (show ¬ (false = true) by decide)] at H); (obtain rfl := Option.some.inj H); (exact absurd ht_.out (by decide))

end Go.Proofs.YtfkaiiconllbhaaDoor.X
set_option linter.unusedVariables false
set_option linter.unusedSimpArgs false
namespace Go.Proofs.YtfkaiiconllbhaaDoor.Open
open Go.RowKit Go.Proofs.YtfkaiiconllbhaaDoorW.PrintWords

/-- What reads at type t is of kind d, and good. -/
def Opens (P : Program) (t : TypeId) {α : Type} (d : Kd α) (good : α → Prop) : Prop :=
  ∀ (H : Type) (enc : TypeId × Value → H) (w : World) (fuel : Nat) (cs : List Value) (x : DataW H × List MemPlace),
    DataW.trod enc P w 0 (fun _ => true) true fuel t cs = some x → ∃ a, d.K w a cs ∧ good a

theorem opens_int {P : Program} {t : TypeId} {k : IntKind} (ht : P.underlying t = some (.int k)) : Opens P t (Kd.int k) (fun n => (Lit.int k n).wf = true) := by
  intro H enc w fuel cs x hx
  obtain ⟨n, rfl, _, hw⟩ := DataW.trod_int ht hx
  exact ⟨n, rfl, hw⟩
theorem cells_each {w : World} {a : Addr} {n : Nat} {cs : List Value} (h : w.cells? 0 a n = some cs) : cs.length = n ∧ ∀ i u, cs[i]? = some u → w.cell? (a.add i) = some u := by
  have h1 := World.cells?_some h
  refine ⟨h1.2.1, fun i u hu => ?_⟩
  have hi : i < n := by
    have := (List.getElem?_eq_some_iff.1 hu).1
    omega
  rw [h1.2.2 i hi, hu]

theorem opens_slice {P : Program} {t e : TypeId} {α : Type} {d : Kd α} {g : α → Prop} (ht : P.underlying t = some (.slice e)) (hsz : P.cellsOf e = d.sz) (h : Opens P e d g) :
    Opens P t (Kd.slice e d) (fun xs => xs.length ≤ 9223372036854775807 ∧ ∀ x ∈ xs, g x) := by
  intro H enc w fuel cs x hx
  rcases DataW.trod_slice ht hx with ⟨rfl, _⟩ | ⟨a, len, cap, elems, rest, n, rfl, rfl, _, _, hlc, hcap, hel, hget, _, _⟩
  · exact ⟨[], ⟨none, 0, rfl, Nat.le_refl _, Kd.C_nil d w⟩, by simp, by simp⟩
  · simp only [maxLen] at hcap
    have each : ∀ i, i < len → ∃ b : α, ∃ c : List Value, c.length = d.sz ∧ d.K w b c ∧ g b ∧ ∀ j u, c[j]? = some u → w.cell? (a.add (i * d.sz + j)) = some u := by
      intro i hi
      have h1 := hget i hi
      obtain ⟨y, hy⟩ : ∃ y, elems[i]? = some y := ⟨_, List.getElem?_eq_getElem (by omega)⟩
      rw [hy] at h1
      obtain ⟨c, hc, ht'⟩ := Option.bind_eq_some_iff.1 h1
      obtain ⟨b, hK, hg⟩ := h H enc w n c y ht'
      obtain ⟨hl, hcell⟩ := cells_each hc
      refine ⟨b, c, hl.trans hsz, hK, hg, fun j u hu => ?_⟩
      have := hcell j u hu
      rw [Deep.add_add, hsz] at this
      exact this
    have mk : ∀ m, m ≤ len → ∃ xs : List α, xs.length = m ∧ (∀ x ∈ xs, g x) ∧ ∀ j p, xs[j]? = some p → ∃ c, c.length = d.sz ∧ d.K w p c ∧ ∀ i u, c[i]? = some u → w.cell? (a.add (j * d.sz + i)) = some u := by
      intro m
      induction m with
      | zero => exact fun _ => ⟨[], rfl, by simp, by simp⟩
      | succ m ih =>
        intro hm
        obtain ⟨xs, hl, hg, hx⟩ := ih (by omega)
        obtain ⟨b, c, hc1, hc2, hc3, hc4⟩ := each m (by omega)
        refine ⟨xs ++ [b], by simp [hl], ?_, ?_⟩
        · intro x hx'
          rcases List.mem_append.1 hx' with hx' | hx'
          · exact hg x hx'
          · rw [List.mem_singleton.1 hx']; exact hc3
        · intro j p hj
          by_cases hjm : j < m
          · rw [List.getElem?_append_left (by omega)] at hj
            exact hx j p hj
          · have hlt := (List.getElem?_eq_some_iff.1 hj).1
            simp only [List.length_append, List.length_cons, List.length_nil] at hlt
            obtain rfl : j = m := by omega
            rw [List.getElem?_append_right (by omega), hl, Nat.sub_self] at hj
            simp only [List.getElem?_cons_zero, Option.some.injEq] at hj
            subst hj
            exact ⟨c, hc1, hc2, hc4⟩
    obtain ⟨ys, hl, hg, hy⟩ := mk len (Nat.le_refl _)
    subst hl
    exact ⟨ys, ⟨some a, cap, rfl, hlc, rfl, by omega, fun _ => ⟨a, rfl, hy⟩⟩, by omega, hg⟩

def offs (L : List (TypeId × Nat)) (i : Nat) : Nat := ((L.take i).map (·.2)).sum
def Sect (P : Program) (L : List (TypeId × Nat)) {α : Type} (d : Kd α) (good : α → Prop) : Prop :=
  ∀ (H : Type) (enc : TypeId × Value → H) (w : World) (n : Nat) (cs : List Value), cs.length = (L.map (·.2)).sum →
    (∀ i p, L[i]? = some p → ∃ y, DataW.trod enc P w 0 (fun _ => true) true n p.1 ((cs.drop (offs L i)).take p.2) = some y) → ∃ a, d.K w a cs ∧ good a
theorem sect_one {P : Program} {t : TypeId} {s : Nat} {α : Type} {d : Kd α} {g : α → Prop} (h : Opens P t d g) : Sect P [(t, s)] d g := by
  intro H enc w n cs hl hf
  obtain ⟨y, hy⟩ := hf 0 _ rfl
  simp only [offs, List.take_zero, List.map_nil, List.sum_nil, List.drop_zero] at hy
  rw [List.take_of_length_le (by simp at hl; omega)] at hy
  exact h H enc w n cs y hy
theorem sect_cons {P : Program} {t : TypeId} {s : Nat} {L : List (TypeId × Nat)} {α β : Type} {d : Kd α} {d' : Kd β} {g : α → Prop} {g' : β → Prop} (h : Opens P t d g) (h' : Sect P L d' g') :
    Sect P ((t, s) :: L) (Kd.pair d d') (fun x => g x.1 ∧ g' x.2) := by
  intro H enc w n cs hl hf
  obtain ⟨y, hy⟩ := hf 0 _ rfl
  simp only [offs, List.take_zero, List.map_nil, List.sum_nil, List.drop_zero] at hy
  obtain ⟨a, ha, hga⟩ := h H enc w n _ y hy
  obtain ⟨b, hb, hgb⟩ := h' H enc w n (cs.drop s) (by simp only [List.map_cons, List.sum_cons] at hl; rw [List.length_drop, hl]; omega) (by
    intro i p hp
    obtain ⟨z, hz⟩ := hf (i + 1) p (by simpa using hp)
    refine ⟨z, ?_⟩
    simp only [offs, List.take_succ_cons, List.map_cons, List.sum_cons] at hz
    rw [List.drop_drop]
    exact hz)
  exact ⟨(a, b), ⟨cs.take s, cs.drop s, (List.take_append_drop s cs).symm, ha, hb⟩, hga, hgb⟩
theorem opens_struct {P : Program} {t : TypeId} {fs : Array Field} {α β : Type} {d : Kd α} {g : α → Prop} (f : β → α) (k : α → β) (hk : ∀ x, f (k x) = x) (L : List (TypeId × Nat))
    (ht : P.underlying t = some (.struct fs)) (hL : L = fs.toList.map (fun f => (f.type, P.cellsOf f.type))) (ho : fs.toList.map (·.offset) = (List.range L.length).map (offs L)) (hc : P.cellsOf t = (L.map (·.2)).sum)
    (h : Sect P L d g) : Opens P t (Kd.iso d f) (fun x => g (f x)) := by
  intro H enc w fuel cs x hx
  obtain ⟨xs, n, rfl, rfl, hl, hxl, hf⟩ := DataW.trod_struct ht hx
  obtain ⟨a, ha, hg⟩ := h H enc w n cs (hl.trans hc) (by
    intro i p hp
    have hi : i < fs.size := by
      have := (List.getElem?_eq_some_iff.1 hp).1
      rw [hL] at this
      simpa using this
    have hfi : fs[i]? = some fs[i] := Array.getElem?_eq_getElem hi
    have h1 := hf i fs[i] hfi
    obtain ⟨y, hy⟩ : ∃ y, xs[i]? = some y := ⟨_, List.getElem?_eq_getElem (by omega)⟩
    rw [hy] at h1
    refine ⟨y, ?_⟩
    have hp' : p = (fs[i].type, P.cellsOf fs[i].type) := by
      rw [hL] at hp
      simp only [List.getElem?_map, Array.getElem?_toList, hfi, Option.map_some, Option.some.injEq] at hp
      exact hp.symm
    have hoi : fs[i].offset = offs L i := by
      have h2 : (fs.toList.map (·.offset))[i]? = ((List.range L.length).map (offs L))[i]? := by rw [ho]
      have hLl : L.length = fs.size := by rw [hL]; simp
      simp only [List.getElem?_map, Array.getElem?_toList, hfi, Option.map_some, List.getElem?_range (show i < L.length by omega)] at h2
      exact Option.some.inj h2
    rw [hp', ← hoi]
    exact h1)
  refine ⟨k a, ?_, ?_⟩
  · show d.K w (f (k a)) cs
    rw [hk]; exact ha
  · show g (f (k a))
    rw [hk]; exact hg

theorem arg_agg {P : Program} {W : World} {H : Type} {enc : TypeId × Value → H} {t : TypeId} {α : Type} {d : Kd α} {g : α → Prop} {v : Value} {x : DataW H} {p : List MemPlace} (h : Opens P t d g)
    (hs : ∃ cs, v = .agg cs) (hv : DataW.Trod enc P W 0 (fun _ => true) true t v x p) : ∃ a cs, v = .agg cs ∧ d.K W a cs.toList ∧ g a := by
  obtain ⟨cs, rfl⟩ := hs
  obtain ⟨fuel, hf⟩ := hv
  obtain ⟨a, hK, hg⟩ := h H enc W fuel _ _ hf
  exact ⟨a, cs, rfl, hK, hg⟩
end Go.Proofs.YtfkaiiconllbhaaDoor.Open
set_option linter.unusedVariables false
namespace Go.Proofs.YtfkaiiconllbhaaDoor.X
open Go.RowKit Go.Proofs.YtfkaiiconllbhaaDoorW.PrintWords Go.Proofs.YtfkaiiconllbhaaDoor.Open
theorem op3 : Opens Tryd.prog 3 (Kd.int .i64) (fun n => (Lit.int .i64 n).wf = true) := opens_int Tryd.underlying3
def good92 (x : S92) : Prop := (Lit.int .i64 x.f0).wf = true ∧ (Lit.int .i64 x.f1).wf = true
theorem op92 : Opens Tryd.prog 92 k92 good92 :=
  opens_struct (fun x : S92 => (x.f0, x.f1)) (fun p => ⟨p.1, p.2⟩) (fun _ => rfl) [(3, 1), (3, 1)] Tryd.underlying92 (by kernel_rfl) (by decide) (by kernel_rfl) (sect_cons op3 (sect_one op3))
theorem op31 : Opens Tryd.prog 31 (Kd.slice 92 k92) (fun xs => (xs.length ≤ 9223372036854775807 ∧ ∀ y ∈ xs, good92 y)) := opens_slice Tryd.underlying31 (by kernel_rfl) op92
def good94 (x : S94) : Prop := (Lit.int .i64 x.f0).wf = true ∧ (Lit.int .i64 x.f1).wf = true
theorem op94 : Opens Tryd.prog 94 k94 good94 :=
  opens_struct (fun x : S94 => (x.f0, x.f1)) (fun p => ⟨p.1, p.2⟩) (fun _ => rfl) [(3, 1), (3, 1)] Tryd.underlying94 (by kernel_rfl) (by decide) (by kernel_rfl) (sect_cons op3 (sect_one op3))
theorem op32 : Opens Tryd.prog 32 (Kd.slice 94 k94) (fun xs => (xs.length ≤ 9223372036854775807 ∧ ∀ y ∈ xs, good94 y)) := opens_slice Tryd.underlying32 (by kernel_rfl) op94
def good34 (x : S34) : Prop := (x.f0.length ≤ 9223372036854775807 ∧ ∀ y ∈ x.f0, good92 y) ∧ (x.f1.length ≤ 9223372036854775807 ∧ ∀ y ∈ x.f1, good94 y)
theorem op34 : Opens Tryd.prog 34 k34 good34 :=
  opens_struct (fun x : S34 => (x.f0, x.f1)) (fun p => ⟨p.1, p.2⟩) (fun _ => rfl) [(31, 1), (32, 1)] Tryd.underlying34 (by kernel_rfl) (by decide) (by kernel_rfl) (sect_cons op31 (sect_one op32))
end Go.Proofs.YtfkaiiconllbhaaDoor.X
namespace Go.Proofs.YtfkaiiconllbhaaDoor.X
open Go.RowKit Go.Proofs.YtfkaiiconllbhaaDoorW.PrintWords
def PureFnExactRecordToEnglish : Prop := ∀ (a0 : S34), good34 a0 → ∃ k, laws_FnExactRecordToEnglish.f k (a0.f0) (a0.f1) = some true
end Go.Proofs.YtfkaiiconllbhaaDoor.X
set_option linter.unusedVariables false
set_option linter.unusedSimpArgs false
namespace Go.Proofs.YtfkaiiconllbhaaDoor.X
open Go.RowKit Go.Proofs.YtfkaiiconllbhaaDoorW.PrintWords Go.Proofs.YtfkaiiconllbhaaDoor.E
theorem specIn_eq (a l h : Int) : spec_l1In.f a l h = some (decide (l ≤ a ∧ a ≤ h)) := by
  unfold spec_l1In.f
  by_cases h1 : a ≥ l
  · rw [if_pos h1]; congr 1; simp [h1]
  · rw [if_neg h1]; congr 1; symm; simp; intro h2; omega
theorem implIn_eq (a l h : Int) : impl_within.f a l h = some (decide (l ≤ a ∧ a ≤ h)) := by
  unfold impl_within.f
  by_cases h1 : a ≥ l
  · rw [if_pos h1]; congr 1; simp [h1]
  · rw [if_neg h1]; congr 1; symm; simp; intro h2; omega
theorem isNumber_eq (a : Int) : impl_isNumber.f a = some (decide (1 ≤ a ∧ a ≤ 999)) := by unfold impl_isNumber.f; rw [implIn_eq]; rfl
theorem isKind_eq (a : Int) : impl_isKind.f a = some (decide (1 ≤ a ∧ a ≤ 4)) := by unfold impl_isKind.f; rw [implIn_eq]; rfl
def findC (cs : List S68) (n : Int) : Int := idxG (fun x : S68 => x.f0 == n) 0 cs
theorem indexOf_eq (cs : List S68) (rs : List S70) (n : Int) : impl_indexOf.f cs rs n = some (findC cs n) := rfl
theorem l2Find_ev (cs : List S68) (rs : List S70) (n : Int) (hl : cs.length ≤ 9223372036854775807) : Ev (fun k => spec_l2Find.f k cs rs n) (findC cs n) := by
  have h := ev_walk (L := fun k i => spec_l2Find.l0 k n i cs rs) (G := fun i r => idxG (fun x : S68 => x.f0 == n) i r) cs (Ev.step (fun k => rfl) (ev_neg (by omega) (ev_now rfl))) ?step
  case step =>
    intro i x r hi hd hx hk
    refine Ev.step (fun k => rfl) (ev_pos (by omega) (ev_pos (by omega) ?_))
    simp only [rd_T68, Int.toNat_natCast, hx]
    by_cases c : x.f0 = n
    · exact ev_pos c (ev_now (by simp [idxG, c]))
    · refine ev_neg c ?_
      rw [wrap_succ hi hl]
      exact ev_cast hk (by simp [idxG, c])
  exact h
def CtxP (cs : List S68) (i : Nat) : Prop := (1 ≤ (rd_T68 cs i).f0 ∧ (rd_T68 cs i).f0 ≤ 999) ∧ (1 ≤ (rd_T68 cs i).f1 ∧ (rd_T68 cs i).f1 ≤ 4) ∧ (0 < i → (rd_T68 cs ((i - 1 : Nat) : Int)).f0 < (rd_T68 cs i).f0)
def befP (x y : S70) : Prop := x.f0 < y.f0 ∨ (x.f0 = y.f0 ∧ x.f1 < y.f1)
def RelP (cs : List S68) (rs : List S70) (i : Nat) : Prop := (rd_T70 rs i).f0 ≠ (rd_T70 rs i).f1 ∧ 0 ≤ findC cs (rd_T70 rs i).f0 ∧ 0 ≤ findC cs (rd_T70 rs i).f1 ∧ (0 < i → befP (rd_T70 rs ((i - 1 : Nat) : Int)) (rd_T70 rs i))
instance (x y : S70) : Decidable (befP x y) := by unfold befP; exact inferInstance
instance (cs : List S68) (i : Nat) : Decidable (CtxP cs i) := by unfold CtxP; exact inferInstance
instance (cs : List S68) (rs : List S70) (i : Nat) : Decidable (RelP cs rs i) := by unfold RelP; exact inferInstance
def relsB (cs : List S68) (rs : List S70) : Bool := (List.range rs.length).all (fun i => decide (RelP cs rs i))
def recOk (cs : List S68) (rs : List S70) : Bool := decide (cs.length ≤ 10 ∧ rs.length ≤ 24) && ((List.range cs.length).all (fun i => decide (CtxP cs i)) && relsB cs rs)
def sg (a b : Int) : Int := if a < b then -1 else if a > b then 1 else 0
theorem compare_eq (a b : Int) : cmp_Compare_int.f a b = some (sg a b) := by
  have hn : ∀ z : Int, cmp_isNaN_int.f z = some false := fun z => by unfold cmp_isNaN_int.f; simp
  unfold cmp_Compare_int.f sg
  rw [hn, hn]
  simp only [Option.bind_some, Bool.false_eq_true, if_false]
  by_cases h : a < b
  · rw [if_pos h, if_pos h]
  · rw [if_neg h, if_neg h]
    by_cases h2 : a > b
    · rw [if_pos h2, if_pos h2]
    · rw [if_neg h2, if_neg h2]
theorem or_ev (a b : Int) : Ev (fun k => cmp_Or_int.f k [a, b]) (if a = 0 then b else a) := by
  have r0 : rd [a, b] 0 = a := rfl
  have r1 : rd [a, b] 1 = b := rfl
  have w1 : wrap64 (0 + 1) = 1 := by rw [wrap_id (by omega) (by omega)]; rfl
  have w2 : wrap64 (1 + 1) = 2 := by rw [wrap_id (by omega) (by omega)]; rfl
  unfold cmp_Or_int.f
  refine Ev.step (fun k => rfl) (ev_pos (by simp) (ev_pos (by omega) (ev_pos (by simp) ?_)))
  rw [r0, w1]
  by_cases h : a = 0
  · rw [if_pos h]
    refine ev_pos h (Ev.step (fun k => rfl) (ev_pos (by simp) (ev_pos (by omega) (ev_pos (by simp) ?_))))
    rw [r1, w2]
    by_cases h2 : b = 0
    · exact ev_pos h2 (Ev.step (fun k => rfl) (ev_neg (by simp) (ev_now h2.symm)))
    · exact ev_neg h2 (ev_now rfl)
  · rw [if_neg h]
    exact ev_neg h (ev_now rfl)
theorem compareRel_ev (x y : S70) : ∃ c, Ev (fun k => impl_compareRelations.f k x.f0 x.f1 y.f0 y.f1) c ∧ (c ≥ 0 ↔ ¬ befP x y) := by
  refine ⟨if sg x.f0 y.f0 = 0 then sg x.f1 y.f1 else sg x.f0 y.f0, ?_, ?_⟩
  · unfold impl_compareRelations.f
    exact ev_bind0 (compare_eq _ _) (ev_bind0 (compare_eq _ _) (Ev.bind (or_ev _ _) (ev_now rfl)))
  · unfold sg befP
    repeat' split
    all_goals omega
theorem before_eq (x y : S70) : spec_l2Before.f x.f0 x.f1 y.f0 y.f1 = some (decide (befP x y)) := by
  have hb : befP x y ↔ (x.f0 < y.f0 ∨ (x.f0 = y.f0 ∧ x.f1 < y.f1)) := Iff.rfl
  unfold spec_l2Before.f
  by_cases h1 : x.f0 < y.f0
  · rw [if_pos h1, decide_eq_true (hb.2 (Or.inl h1))]
  · rw [if_neg h1]
    by_cases h2 : x.f0 = y.f0
    · rw [if_pos h2]; congr 1; rw [decide_eq_decide, hb]; omega
    · rw [if_neg h2, decide_eq_false (fun h => by have := hb.1 h; omega)]
theorem implRels_ev (cs : List S68) (rs : List S70) (hr : rs.length ≤ 24) : Ev (fun k => impl_IsValidRecord.l1 k rs (rs.length : Int) 0 cs rs) (relsB cs rs) := by
  have h := ev_all0 (L := fun k i => impl_IsValidRecord.l1 k rs (rs.length : Int) i cs rs) rs.length (fun i => decide (RelP cs rs i)) false true (fun _ => Ev.step (fun k => rfl) (ev_neg (by omega) (ev_now rfl))) ?h1 ?h2
  case h1 =>
    intro i hi _ hc y hy
    obtain ⟨c1, c2, c3, c4⟩ := of_decide_eq_true hc
    refine Ev.step (fun k => rfl) (ev_pos (by omega) (ev_pos (by omega) (ev_pos (by omega) (ev_neg c1 (ev_bind0 (indexOf_eq _ _ _) (ev_neg (by omega) (ev_bind0 (indexOf_eq _ _ _) (Ev.step (fun k => rfl) (ev_neg (by rw [decide_eq_true_eq]; omega) ?_)))))))))
    rw [wrap_succ hi (by omega)]
    rcases Nat.eq_zero_or_pos i with h0 | h0
    · exact ev_neg (by omega) hy
    · rw [wrap_pred h0 (by omega)]
      obtain ⟨c, hv, hcc⟩ := compareRel_ev (rd_T70 rs ((i - 1 : Nat) : Int)) (rd_T70 rs i)
      exact ev_pos (by omega) (ev_pos (by omega) (ev_pos (by omega) (Ev.bind hv (ev_neg (fun e => hcc.1 e (c4 h0)) hy))))
  case h2 =>
    intro i hi _ hc
    have hc' := of_decide_eq_false hc
    refine Ev.step (fun k => rfl) (ev_pos (by omega) (ev_pos (by omega) (ev_pos (by omega) (ev_ite (fun _ => Ev.step (fun k => rfl) (ev_now rfl)) (fun c1 => ev_bind0 (indexOf_eq _ _ _) (ev_ite (fun _ => Ev.step (fun k => rfl) (ev_now rfl)) (fun c2 => ev_bind0 (indexOf_eq _ _ _) (Ev.step (fun k => rfl) (ev_ite (fun _ => ev_now rfl) (fun c3 => ?_))))))))))
    rw [decide_eq_true_eq] at c3
    rcases Nat.eq_zero_or_pos i with h0 | h0
    · exact absurd ⟨c1, by omega, by omega, fun h => by omega⟩ hc'
    · rw [wrap_pred h0 (by omega)]
      obtain ⟨c, hv, hcc⟩ := compareRel_ev (rd_T70 rs ((i - 1 : Nat) : Int)) (rd_T70 rs i)
      exact ev_pos (by omega) (ev_pos (by omega) (ev_pos (by omega) (Ev.bind hv (ev_pos (hcc.2 (fun e => hc' ⟨c1, by omega, by omega, fun _ => e⟩)) (ev_now rfl)))))
  refine ev_cast h ?_
  unfold relsB
  cases (List.range rs.length).all (fun i => decide (RelP cs rs i)) <;> rfl
theorem specRels_ev (cs : List S68) (rs : List S70) (hcl : cs.length ≤ 10) (hr : rs.length ≤ 24) : Ev (fun k => spec_l2Good.l1 k 0 cs rs) (relsB cs rs) := by
  have hf : ∀ n, Ev (fun k => spec_l2Find.f k cs rs n) (findC cs n) := fun n => l2Find_ev cs rs n (by omega)
  have h := ev_all0 (L := fun k i => spec_l2Good.l1 k i cs rs) rs.length (fun i => decide (RelP cs rs i)) false true (fun _ => Ev.step (fun k => rfl) (ev_neg (by omega) (ev_now rfl))) ?h1 ?h2
  case h1 =>
    intro i hi _ hc y hy
    obtain ⟨c1, c2, c3, c4⟩ := of_decide_eq_true hc
    refine Ev.step (fun k => rfl) (ev_pos (by omega) (ev_pos (by omega) (ev_neg c1 (Ev.bind (hf _) (ev_neg (by omega) (Ev.bind (hf _) (ev_neg (by omega) ?_)))))))
    rw [wrap_succ hi (by omega)]
    rcases Nat.eq_zero_or_pos i with h0 | h0
    · exact ev_neg (by omega) hy
    · rw [wrap_pred h0 (by omega)]
      exact ev_pos (by omega) (ev_pos (by omega) (ev_pos (by omega) (ev_bind0 (before_eq _ _) (ev_pos (decide_eq_true (c4 h0)) hy))))
  case h2 =>
    intro i hi _ hc
    have hc' := of_decide_eq_false hc
    refine Ev.step (fun k => rfl) (ev_pos (by omega) (ev_pos (by omega) (ev_ite (fun _ => ev_now rfl) (fun c1 => Ev.bind (hf _) (ev_ite (fun _ => ev_now rfl) (fun c2 => Ev.bind (hf _) (ev_ite (fun _ => ev_now rfl) (fun c3 => ?_))))))))
    rcases Nat.eq_zero_or_pos i with h0 | h0
    · exact absurd ⟨c1, by omega, by omega, fun h => by omega⟩ hc'
    · rw [wrap_pred h0 (by omega)]
      exact ev_pos (by omega) (ev_pos (by omega) (ev_pos (by omega) (ev_bind0 (before_eq _ _) (ev_neg (fun e => hc' ⟨c1, by omega, by omega, fun _ => of_decide_eq_true e⟩) (ev_now rfl)))))
  refine ev_cast h ?_
  unfold relsB
  cases (List.range rs.length).all (fun i => decide (RelP cs rs i)) <;> rfl
theorem implRecord_ev (cs : List S68) (rs : List S70) : Ev (fun k => impl_IsValidRecord.f k cs rs) (recOk cs rs) := by
  unfold impl_IsValidRecord.f recOk
  refine ev_ite (fun c => ?_) (fun c => Ev.step (fun k => rfl) (ev_ite (fun d => ev_now ?_) (fun d => ?_)))
  · rw [decide_eq_false (by omega), Bool.false_and]
    exact Ev.step (fun k => rfl) (ev_now rfl)
  · rw [decide_eq_true_eq] at d
    rw [decide_eq_false (by omega), Bool.false_and]
  rw [decide_eq_true_eq] at d
  rw [decide_eq_true (by omega), Bool.true_and]
  have h := ev_all0 (L := fun k i => impl_IsValidRecord.l0 k cs (cs.length : Int) i cs rs) cs.length (fun i => decide (CtxP cs i)) false (relsB cs rs) (fun _ => Ev.step (fun k => rfl) (ev_neg (by omega) (implRels_ev cs rs (by omega)))) ?h1 ?h2
  case h1 =>
    intro i hi _ hc y hy
    obtain ⟨c1, c2, c3⟩ := of_decide_eq_true hc
    refine Ev.step (fun k => rfl) (ev_pos (by omega) (ev_pos (by omega) (ev_pos (by omega) (ev_bind0 (isNumber_eq _) (ev_pos (decide_eq_true c1) (ev_bind0 (isKind_eq _) (ev_pos (decide_eq_true c2) ?_)))))))
    rw [wrap_succ hi (by omega)]
    rcases Nat.eq_zero_or_pos i with h0 | h0
    · exact ev_neg (by omega) hy
    · rw [wrap_pred h0 (by omega)]
      exact ev_pos (by omega) (ev_pos (by omega) (ev_pos (by omega) (ev_neg (by have := c3 h0; omega) hy)))
  case h2 =>
    intro i hi _ hc
    have hc' := of_decide_eq_false hc
    refine Ev.step (fun k => rfl) (ev_pos (by omega) (ev_pos (by omega) (ev_pos (by omega) (ev_bind0 (isNumber_eq _) (ev_ite (fun c1 => ev_bind0 (isKind_eq _) (ev_ite (fun c2 => ?_) (fun _ => ev_now rfl))) (fun _ => ev_now rfl))))))
    rcases Nat.eq_zero_or_pos i with h0 | h0
    · exact absurd ⟨of_decide_eq_true c1, of_decide_eq_true c2, fun h => by omega⟩ hc'
    · rw [wrap_pred h0 (by omega)]
      exact ev_pos (by omega) (ev_pos (by omega) (ev_pos (by omega) (ev_pos (Classical.byContradiction fun e => hc' ⟨of_decide_eq_true c1, of_decide_eq_true c2, fun _ => by omega⟩) (ev_now rfl))))
  refine ev_cast h ?_
  cases (List.range cs.length).all (fun i => decide (CtxP cs i)) <;> simp
theorem specRecord_ev (cs : List S68) (rs : List S70) : Ev (fun k => spec_l2Good.f k cs rs) (recOk cs rs) := by
  unfold spec_l2Good.f recOk
  refine ev_ite (fun c => ?_) (fun c => Ev.step (fun k => rfl) (ev_ite (fun d => ev_now ?_) (fun d => ?_)))
  · rw [decide_eq_false (by omega), Bool.false_and]
    exact Ev.step (fun k => rfl) (ev_now rfl)
  · rw [decide_eq_true_eq] at d
    rw [decide_eq_false (by omega), Bool.false_and]
  rw [decide_eq_true_eq] at d
  rw [decide_eq_true (by omega), Bool.true_and]
  have h := ev_all0 (L := fun k i => spec_l2Good.l0 k i cs rs) cs.length (fun i => decide (CtxP cs i)) false (relsB cs rs) (fun _ => Ev.step (fun k => rfl) (ev_neg (by omega) (specRels_ev cs rs (by omega) (by omega)))) ?h1 ?h2
  case h1 =>
    intro i hi _ hc y hy
    obtain ⟨c1, c2, c3⟩ := of_decide_eq_true hc
    refine Ev.step (fun k => rfl) (ev_pos (by omega) (ev_pos (by omega) (ev_bind0 (specIn_eq _ _ _) (ev_pos (decide_eq_true c1) (ev_bind0 (specIn_eq _ _ _) (ev_pos (decide_eq_true c2) ?_))))))
    rw [wrap_succ hi (by omega)]
    rcases Nat.eq_zero_or_pos i with h0 | h0
    · exact ev_neg (by omega) hy
    · rw [wrap_pred h0 (by omega)]
      exact ev_pos (by omega) (ev_pos (by omega) (ev_pos (by omega) (ev_neg (by have := c3 h0; omega) hy)))
  case h2 =>
    intro i hi _ hc
    have hc' := of_decide_eq_false hc
    refine Ev.step (fun k => rfl) (ev_pos (by omega) (ev_pos (by omega) (ev_bind0 (specIn_eq _ _ _) (ev_ite (fun c1 => ev_bind0 (specIn_eq _ _ _) (ev_ite (fun c2 => ?_) (fun _ => ev_now rfl))) (fun _ => ev_now rfl)))))
    rcases Nat.eq_zero_or_pos i with h0 | h0
    · exact absurd ⟨of_decide_eq_true c1, of_decide_eq_true c2, fun h => by omega⟩ hc'
    · rw [wrap_pred h0 (by omega)]
      exact ev_pos (by omega) (ev_pos (by omega) (ev_pos (by omega) (ev_pos (Classical.byContradiction fun e => hc' ⟨of_decide_eq_true c1, of_decide_eq_true c2, fun _ => by omega⟩) (ev_now rfl))))
  refine ev_cast h ?_
  cases (List.range cs.length).all (fun i => decide (CtxP cs i)) <;> simp
end Go.Proofs.YtfkaiiconllbhaaDoor.X
set_option linter.unusedVariables false
set_option linter.unusedSimpArgs false
namespace Go.Proofs.YtfkaiiconllbhaaDoor.X
open Go.RowKit Go.Proofs.YtfkaiiconllbhaaDoorW.PrintWords Go.Proofs.YtfkaiiconllbhaaDoor.E
def numB (n : Int) : ByteArray := ⟨(Lib.itoa n).toArray⟩
def decB (u : Nat) : ByteArray := ⟨(Lib.decDigits u).toArray⟩
theorem digit_fin : ∀ i : Fin 10, (⟨#[48, 49, 50, 51, 52, 53, 54, 55, 56, 57]⟩ : ByteArray).extract i.val (i.val + 1) = ⟨#[UInt8.ofNat (48 + i.val)]⟩ := by decide +kernel
theorem digit_at (i : Int) (j : Int) (h0 : 0 ≤ i) (h1 : i < 10) (hj : j = i + 1) : (⟨#[48, 49, 50, 51, 52, 53, 54, 55, 56, 57]⟩ : ByteArray).extract i.toNat j.toNat = ⟨#[UInt8.ofNat (48 + i.toNat)]⟩ := by
  rw [show j.toNat = i.toNat + 1 by omega]
  exact digit_fin ⟨i.toNat, by omega⟩
theorem ba_append (l m : List UInt8) : (⟨l.toArray⟩ : ByteArray) ++ (⟨m.toArray⟩ : ByteArray) = ⟨(l ++ m).toArray⟩ := by
  apply ByteArray.ext
  rw [ByteArray.data_append]
  simp
theorem ba_size (l : List UInt8) : (⟨l.toArray⟩ : ByteArray).size = l.length := rfl
theorem decB_size (u : Nat) (h : u < 18446744073709551616) : (decB u).size ≤ 20 := by
  unfold decB
  rw [ba_size, Lib.decDigits_length]
  exact Lib.nDigits_le20 u h
theorem numB_size (n : Int) (h0 : -9223372036854775808 ≤ n) (h1 : n ≤ 9223372036854775807) : (numB n).size ≤ 21 := by
  unfold numB
  rw [ba_size]
  exact Lib.itoa_length_le n h0 h1
theorem l1Num_nat : ∀ (u : Nat), u ≤ 9223372036854775807 → Ev (fun k => spec_l1Num.f k (u : Int)) (decB u) := by
  intro u
  induction u using Nat.strongRecOn with
  | _ u ih =>
    intro hu
    refine Ev.step (fun k => rfl) (ev_neg (by omega) ?_)
    by_cases h : u < 10
    · have hw : wrap64 ((u : Int) + 1) = (u : Int) + 1 := wrap_id (by omega) (by omega)
      rw [hw]
      refine ev_pos (by omega) (ev_pos (by omega) (ev_pos (by omega) (ev_pos (by omega) (ev_now ?_))))
      rw [digit_at (u : Int) _ (by omega) (by omega) rfl]
      unfold decB
      rw [Lib.decDigits, dif_pos h, Int.toNat_natCast]
    · refine ev_neg (by omega) ?_
      have hd : Int.tdiv (u : Int) 10 = ((u / 10 : Nat) : Int) := by rw [Int.tdiv_eq_ediv_of_nonneg (by omega)]; omega
      have hm : Int.tmod (u : Int) 10 = ((u % 10 : Nat) : Int) := by rw [Int.tmod_eq_emod_of_nonneg (by omega)]; omega
      have hw : wrap64 ((u / 10 : Nat) : Int) = ((u / 10 : Nat) : Int) := wrap_id (by omega) (by omega)
      have hw2 : wrap64 (((u % 10 : Nat) : Int) + 1) = ((u % 10 : Nat) : Int) + 1 := wrap_id (by omega) (by omega)
      rw [hd, hw, hm, hw2]
      refine Ev.bind (ih (u / 10) (by omega) (by omega)) ?_
      rw [digit_at ((u % 10 : Nat) : Int) _ (by omega) (by omega) rfl]
      have hs := decB_size (u / 10) (by omega)
      have h1 : (⟨#[UInt8.ofNat (48 + ((u % 10 : Nat) : Int).toNat)]⟩ : ByteArray).size = 1 := rfl
      refine ev_pos (by omega) (ev_pos (by omega) (ev_pos (by omega) (ev_pos (by omega) (ev_now ?_))))
      unfold decB
      rw [show (⟨#[UInt8.ofNat (48 + ((u % 10 : Nat) : Int).toNat)]⟩ : ByteArray) = ⟨[UInt8.ofNat (48 + u % 10)].toArray⟩ by rw [Int.toNat_natCast], ba_append]
      conv => rhs; rw [Lib.decDigits, dif_neg h]
theorem l1Num_ev (n : Int) (h0 : -9223372036854775807 ≤ n) (h1 : n ≤ 9223372036854775807) : Ev (fun k => spec_l1Num.f k n) (numB n) := by
  by_cases hn : n < 0
  · have hw : wrap64 (-n) = ((n.natAbs : Nat) : Int) := by rw [wrap_id (by omega) (by omega)]; omega
    refine Ev.step (fun k => rfl) (ev_pos hn ?_)
    rw [hw]
    have hs := decB_size n.natAbs (by omega)
    refine Ev.bind (l1Num_nat _ (by omega)) (ev_pos (by omega) (ev_now ?_))
    unfold numB decB
    rw [show (⟨#[45]⟩ : ByteArray) = ⟨[45].toArray⟩ from rfl, ba_append, Lib.itoa, if_pos hn]
    rfl
  · obtain ⟨u, rfl⟩ : ∃ u : Nat, n = u := ⟨n.toNat, by omega⟩
    refine ev_cast (l1Num_nat u (by omega)) ?_
    unfold numB decB
    rw [Lib.itoa, if_neg hn, Int.toNat_natCast]
end Go.Proofs.YtfkaiiconllbhaaDoor.X
set_option linter.unusedVariables false
set_option linter.unusedSimpArgs false
namespace Go.Proofs.YtfkaiiconllbhaaDoor.X
open Go.RowKit Go.Proofs.YtfkaiiconllbhaaDoorW.PrintWords Go.Proofs.YtfkaiiconllbhaaDoor.E
theorem itoaE (n : Int) (h0 : -9223372036854775808 ≤ n) (h1 : n ≤ 9223372036854775807) : strconv_Itoa.f n = some (numB n) := by unfold strconv_Itoa.f; rw [if_pos ⟨h0, h1⟩]; rfl
def eC : ByteArray := ⟨#[67, 111, 110, 116, 101, 120, 116, 32]⟩
def eIs : ByteArray := ⟨#[32, 105, 115, 32]⟩
def eLies : ByteArray := ⟨#[32, 108, 105, 101, 115, 32, 97, 98, 111, 118, 101, 32, 99, 111, 110, 116, 101, 120, 116, 32]⟩
def kT (k : Int) : ByteArray := if k = 1 then ⟨#[97, 32, 100, 101, 112, 111, 115, 105, 116]⟩ else if k = 2 then ⟨#[97, 32, 99, 117, 116]⟩ else if k = 3 then ⟨#[97, 32, 115, 116, 114, 117, 99, 116, 117, 114, 101]⟩ else ⟨#[110, 97, 116, 117, 114, 97, 108]⟩
def ctxLine (x : S68) : ByteArray := (((eC ++ numB x.f0) ++ eIs) ++ kT x.f1) ++ ⟨#[46]⟩
def relLine (x : S70) : ByteArray := (((eC ++ numB x.f0) ++ eLies) ++ numB x.f1) ++ ⟨#[46]⟩
def nlStep (s l : ByteArray) : ByteArray := s ++ (l ++ ⟨#[10]⟩)
def recText (cs : List S68) (rs : List S70) : ByteArray := (cs.map ctxLine ++ rs.map relLine).foldl nlStep ⟨#[]⟩
theorem kT_eq (k : Int) (h : 1 ≤ k ∧ k ≤ 4) : impl_kindText.f k = some (kT k) ∧ (⟨#[32]⟩ : ByteArray) ++ rdOf ByteArray.empty [(⟨#[]⟩ : ByteArray), (⟨#[105, 115, 32, 97, 32, 100, 101, 112, 111, 115, 105, 116, 46]⟩ : ByteArray), (⟨#[105, 115, 32, 97, 32, 99, 117, 116, 46]⟩ : ByteArray), (⟨#[105, 115, 32, 97, 32, 115, 116, 114, 117, 99, 116, 117, 114, 101, 46]⟩ : ByteArray), (⟨#[105, 115, 32, 110, 97, 116, 117, 114, 97, 108, 46]⟩ : ByteArray)] k = (eIs ++ kT k) ++ ⟨#[46]⟩ ∧ (kT k).size ≤ 11 ∧ (rdOf ByteArray.empty [(⟨#[]⟩ : ByteArray), (⟨#[105, 115, 32, 97, 32, 100, 101, 112, 111, 115, 105, 116, 46]⟩ : ByteArray), (⟨#[105, 115, 32, 97, 32, 99, 117, 116, 46]⟩ : ByteArray), (⟨#[105, 115, 32, 97, 32, 115, 116, 114, 117, 99, 116, 117, 114, 101, 46]⟩ : ByteArray), (⟨#[105, 115, 32, 110, 97, 116, 117, 114, 97, 108, 46]⟩ : ByteArray)] k).size ≤ 15 := by
  have hk : k = 1 ∨ k = 2 ∨ k = 3 ∨ k = 4 := by omega
  rcases hk with rfl | rfl | rfl | rfl <;> exact ⟨by decide +kernel, by decide +kernel, by decide +kernel, by decide +kernel⟩
theorem withNl_ev (ls : List ByteArray) (hb : ∀ l ∈ ls, l.size ≤ 1000) (hl : ls.length ≤ 1000000) : Ev (fun k => impl_withNewlines.f k ls) (ls.foldl nlStep ⟨#[]⟩) := by
  have h := ev_scan0 (L := fun k (s : ByteArray) i => impl_withNewlines.l0 k s ls (ls.length : Int) i) (G := fun s i (r : List ByteArray) => r.foldl nlStep s) (fun s i r => s.size ≤ 1001 * i) ls (⟨#[]⟩ : ByteArray) (Nat.le_refl _) ?h1 ?h2
  case h1 =>
    intro s _
    exact Ev.step (fun k => rfl) (ev_neg (by omega) (ev_now rfl))
  case h2 =>
    intro s i x r hI hi hd hg hr
    have hx : x.size ≤ 1000 := hb x (List.mem_of_mem_drop (hd ▸ List.mem_cons_self ..))
    have hrd : rdOf ByteArray.empty ls (i : Int) = x := by unfold rdOf; rw [Int.toNat_natCast]; exact hg _
    have hz : (x ++ (⟨#[10]⟩ : ByteArray)).size = x.size + 1 := by rw [ByteArray.size_append]; rfl
    refine Ev.step (fun k => rfl) (ev_pos (by omega) (ev_pos (by omega) (ev_pos (by omega) ?_)))
    rw [hrd, wrap_succ hi (by omega)]
    refine ev_pos (by omega) (ev_pos (by omega) ?_)
    exact hr (nlStep s x) (by unfold nlStep; rw [ByteArray.size_append, hz]; omega)
  exact h
def in64 (n : Int) : Prop := -9223372036854775808 ≤ n ∧ n ≤ 9223372036854775807
theorem sz8 : eC.size = 8 := rfl
theorem sz4 : eIs.size = 4 := rfl
theorem sz20 : eLies.size = 20 := rfl
theorem sz1 : (⟨#[46]⟩ : ByteArray).size = 1 := rfl
theorem relLine_size (x : S70) (h0 : in64 x.f0) (h1 : in64 x.f1) : (relLine x).size ≤ 71 := by
  have a := numB_size x.f0 h0.1 h0.2
  have b := numB_size x.f1 h1.1 h1.2
  unfold relLine
  simp only [ByteArray.size_append, sz8, sz20, sz1]
  omega
theorem ctxLine_size (x : S68) (h0 : in64 x.f0) (h1 : 1 ≤ x.f1 ∧ x.f1 ≤ 4) : (ctxLine x).size ≤ 45 := by
  have a := numB_size x.f0 h0.1 h0.2
  have b := (kT_eq x.f1 h1).2.2.1
  unfold ctxLine
  simp only [ByteArray.size_append, sz8, sz4, sz1]
  omega
theorem implRelText_ev (rs : List S70) (hr : ∀ x ∈ rs, in64 x.f0 ∧ in64 x.f1) (hl : rs.length ≤ 24) (out : List ByteArray) (ho : out.length ≤ 10) (hb : ∀ l ∈ out, l.size ≤ 1000) : Ev (fun k => impl_RecordToEnglish.l1 k out rs (rs.length : Int) 0) ((out ++ rs.map relLine).foldl nlStep ⟨#[]⟩, true) := by
  have h := ev_scan0 (L := fun k (o : List ByteArray) i => impl_RecordToEnglish.l1 k o rs (rs.length : Int) i) (G := fun o i (r : List S70) => ((o ++ r.map relLine).foldl nlStep ⟨#[]⟩, true)) (fun o i r => o.length ≤ 10 + i ∧ ∀ l ∈ o, l.size ≤ 1000) rs out ⟨by omega, hb⟩ ?h1 ?h2
  case h1 =>
    intro o ho
    rw [List.map_nil, List.append_nil]
    exact Ev.step (fun k => rfl) (ev_neg (by omega) (Ev.bind (withNl_ev o ho.2 (by omega)) (ev_now rfl)))
  case h2 =>
    intro o i x r hI hi hd hg hk
    have hx := hr x (List.mem_of_mem_drop (hd ▸ List.mem_cons_self ..))
    have a := numB_size x.f0 hx.1.1 hx.1.2
    have b := numB_size x.f1 hx.2.1 hx.2.2
    have hrd : rd_T70 rs (i : Int) = x := by unfold rd_T70; rw [Int.toNat_natCast]; exact hg _
    refine Ev.step (fun k => rfl) (ev_pos (by omega) (ev_pos (by omega) (ev_pos (by omega) ?_)))
    rw [hrd, wrap_succ hi (by omega)]
    refine ev_bind0 (itoaE x.f0 hx.1.1 hx.1.2) (ev_pos (by omega) (ev_pos ?_ (ev_bind0 (itoaE x.f1 hx.2.1 hx.2.2) (ev_pos ?_ (ev_pos ?_ (ev_pos (by omega) ?_))))))
    · show (eC ++ numB x.f0).size + 20 ≤ _
      rw [ByteArray.size_append, sz8]; omega
    · show ((eC ++ numB x.f0) ++ eLies).size + (numB x.f1).size ≤ _
      rw [ByteArray.size_append, ByteArray.size_append, sz8, sz20]; omega
    · show (((eC ++ numB x.f0) ++ eLies) ++ numB x.f1).size + 1 ≤ _
      rw [ByteArray.size_append, ByteArray.size_append, ByteArray.size_append, sz8, sz20]; omega
    · have h3 := hk (o ++ [relLine x]) ⟨by rw [List.length_append, List.length_singleton]; omega, fun l hl' => by
        rcases List.mem_append.1 hl' with h4 | h4
        · exact hI.2 l h4
        · have := relLine_size x hx.1 hx.2
          rw [List.mem_singleton.1 h4]; omega⟩
      rw [List.append_assoc] at h3
      exact h3
  exact h
theorem implCtxText_ev (cs : List S68) (rs : List S70) (hc : ∀ x ∈ cs, in64 x.f0 ∧ (1 ≤ x.f1 ∧ x.f1 ≤ 4)) (hcl : cs.length ≤ 10) (hr : ∀ x ∈ rs, in64 x.f0 ∧ in64 x.f1) (hl : rs.length ≤ 24) : Ev (fun k => impl_RecordToEnglish.l0 k [] cs (cs.length : Int) 0 cs rs) (recText cs rs, true) := by
  have h := ev_scan0 (L := fun k (o : List ByteArray) i => impl_RecordToEnglish.l0 k o cs (cs.length : Int) i cs rs) (G := fun o i (r : List S68) => ((o ++ (r.map ctxLine ++ rs.map relLine)).foldl nlStep ⟨#[]⟩, true)) (fun o i r => o.length ≤ i ∧ ∀ l ∈ o, l.size ≤ 1000) cs [] ⟨Nat.le_refl _, fun l hl => nomatch hl⟩ ?h1 ?h2
  case h1 =>
    intro o ho
    rw [List.map_nil, List.nil_append]
    exact Ev.step (fun k => rfl) (ev_neg (by omega) (implRelText_ev rs hr hl o (by omega) ho.2))
  case h2 =>
    intro o i x r hI hi hd hg hk
    have hx := hc x (List.mem_of_mem_drop (hd ▸ List.mem_cons_self ..))
    have a := numB_size x.f0 hx.1.1 hx.1.2
    have hkT := kT_eq x.f1 hx.2
    have hrd : rd_T68 cs (i : Int) = x := by unfold rd_T68; rw [Int.toNat_natCast]; exact hg _
    refine Ev.step (fun k => rfl) (ev_pos (by omega) (ev_pos (by omega) (ev_pos (by omega) ?_)))
    rw [hrd, wrap_succ hi (by omega)]
    refine ev_bind0 (itoaE x.f0 hx.1.1 hx.1.2) (ev_pos (by omega) (ev_pos ?_ (ev_bind0 hkT.1 (ev_pos ?_ (ev_pos ?_ (ev_pos (by omega) ?_))))))
    · show (eC ++ numB x.f0).size + 4 ≤ _
      rw [ByteArray.size_append, sz8]; omega
    · show ((eC ++ numB x.f0) ++ eIs).size + (kT x.f1).size ≤ _
      rw [ByteArray.size_append, ByteArray.size_append, sz8, sz4]; omega
    · show (((eC ++ numB x.f0) ++ eIs) ++ kT x.f1).size + 1 ≤ _
      rw [ByteArray.size_append, ByteArray.size_append, ByteArray.size_append, sz8, sz4]; omega
    · have h3 := hk (o ++ [ctxLine x]) ⟨by rw [List.length_append, List.length_singleton]; omega, fun l hl' => by
        rcases List.mem_append.1 hl' with h4 | h4
        · exact hI.2 l h4
        · have := ctxLine_size x hx.1 hx.2
          rw [List.mem_singleton.1 h4]; omega⟩
      rw [List.append_assoc] at h3
      exact h3
  exact h
end Go.Proofs.YtfkaiiconllbhaaDoor.X
set_option linter.unusedVariables false
set_option linter.unusedSimpArgs false
namespace Go.Proofs.YtfkaiiconllbhaaDoor.X
open Go.RowKit Go.Proofs.YtfkaiiconllbhaaDoorW.PrintWords Go.Proofs.YtfkaiiconllbhaaDoor.E
theorem rdC_mem {cs : List S68} {x : S68} (hx : x ∈ cs) : ∃ i, i < cs.length ∧ rd_T68 cs (i : Int) = x := by
  obtain ⟨i, hi, rfl⟩ := List.getElem_of_mem hx
  exact ⟨i, hi, by unfold rd_T68; rw [Int.toNat_natCast]; exact getD_in hi _⟩
theorem rdR_mem {rs : List S70} {x : S70} (hx : x ∈ rs) : ∃ i, i < rs.length ∧ rd_T70 rs (i : Int) = x := by
  obtain ⟨i, hi, rfl⟩ := List.getElem_of_mem hx
  exact ⟨i, hi, by unfold rd_T70; rw [Int.toNat_natCast]; exact getD_in hi _⟩
theorem recOk_spec {cs : List S68} {rs : List S70} (h : recOk cs rs = true) : cs.length ≤ 10 ∧ rs.length ≤ 24 ∧ (∀ x ∈ cs, (1 ≤ x.f0 ∧ x.f0 ≤ 999) ∧ (1 ≤ x.f1 ∧ x.f1 ≤ 4)) ∧ (∀ x ∈ rs, (1 ≤ x.f0 ∧ x.f0 ≤ 999) ∧ (1 ≤ x.f1 ∧ x.f1 ≤ 999)) := by
  unfold recOk relsB at h
  rw [Bool.and_eq_true, Bool.and_eq_true, decide_eq_true_eq, all_range, all_range] at h
  obtain ⟨⟨h1, h2⟩, h3, h4⟩ := h
  have hc : ∀ x ∈ cs, (1 ≤ x.f0 ∧ x.f0 ≤ 999) ∧ (1 ≤ x.f1 ∧ x.f1 ≤ 4) := by
    intro x hx
    obtain ⟨i, hi, e⟩ := rdC_mem hx
    obtain ⟨a, b, _⟩ := of_decide_eq_true (h3 i hi)
    rw [e] at a b
    exact ⟨a, b⟩
  have hf : ∀ n : Int, 0 ≤ findC cs n → 1 ≤ n ∧ n ≤ 999 := by
    intro n hn
    unfold findC at hn
    rcases idxG_spec (fun x : S68 => x.f0 == n) cs 0 with ⟨g, _⟩ | ⟨j, x, hj, g, g2, g3, _⟩
    · rw [g] at hn; omega
    · have e : x.f0 = n := by simpa using g3
      have := (hc x (List.mem_of_getElem? g2)).1
      omega
  refine ⟨h1, h2, hc, fun x hx => ?_⟩
  obtain ⟨i, hi, e⟩ := rdR_mem hx
  obtain ⟨_, a, b, _⟩ := of_decide_eq_true (h4 i hi)
  rw [e] at a b
  exact ⟨hf _ a, hf _ b⟩
theorem ctxStep (s n t k : ByteArray) (h : (⟨#[32]⟩ : ByteArray) ++ t = (eIs ++ k) ++ ⟨#[46]⟩) : ((((s ++ eC) ++ n) ++ (⟨#[32]⟩ : ByteArray)) ++ t) ++ (⟨#[10]⟩ : ByteArray) = s ++ (((((eC ++ n) ++ eIs) ++ k) ++ (⟨#[46]⟩ : ByteArray)) ++ (⟨#[10]⟩ : ByteArray)) := by
  have e : ((((s ++ eC) ++ n) ++ (⟨#[32]⟩ : ByteArray)) ++ t) = ((s ++ eC) ++ n) ++ ((⟨#[32]⟩ : ByteArray) ++ t) := ByteArray.append_assoc
  rw [e, h]
  simp only [ByteArray.append_assoc]
theorem e2 : (⟨#[46, 10]⟩ : ByteArray) = (⟨#[46]⟩ : ByteArray) ++ (⟨#[10]⟩ : ByteArray) := by decide +kernel
theorem relStep (s n m : ByteArray) : ((((s ++ eC) ++ n) ++ eLies) ++ m) ++ (⟨#[46, 10]⟩ : ByteArray) = s ++ (((((eC ++ n) ++ eLies) ++ m) ++ (⟨#[46]⟩ : ByteArray)) ++ (⟨#[10]⟩ : ByteArray)) := by
  rw [e2]
  simp only [ByteArray.append_assoc]
theorem specRelText_ev (cs : List S68) (rs : List S70) (hr : ∀ x ∈ rs, (1 ≤ x.f0 ∧ x.f0 ≤ 999) ∧ (1 ≤ x.f1 ∧ x.f1 ≤ 999)) (hl : rs.length ≤ 24) (s : ByteArray) (hs : s.size ≤ 10000) : Ev (fun k => spec_l25Record.l1 k s 0 cs rs) ((rs.map relLine).foldl nlStep s) := by
  have h := ev_scan0 (L := fun k (s : ByteArray) i => spec_l25Record.l1 k s i cs rs) (G := fun s i (r : List S70) => (r.map relLine).foldl nlStep s) (fun s i r => s.size ≤ 10000 + 100 * i) rs s (by omega) ?h1 ?h2
  case h1 =>
    intro s _
    exact Ev.step (fun k => rfl) (ev_neg (by omega) (ev_now rfl))
  case h2 =>
    intro s i x r hI hi hd hg hk
    have hx := hr x (List.mem_of_mem_drop (hd ▸ List.mem_cons_self ..))
    have a := numB_size x.f0 (by omega) (by omega)
    have b := numB_size x.f1 (by omega) (by omega)
    have hrd : rd_T70 rs (i : Int) = x := by unfold rd_T70; rw [Int.toNat_natCast]; exact hg _
    refine Ev.step (fun k => rfl) (ev_pos (by omega) (ev_pos (by omega) (ev_pos (by omega) ?_)))
    rw [hrd, wrap_succ hi (by omega)]
    have z1 : ∀ t : ByteArray, (t ++ eC).size = t.size + 8 := fun t => by rw [ByteArray.size_append, sz8]
    have z2 : ∀ t : ByteArray, (t ++ eLies).size = t.size + 20 := fun t => by rw [ByteArray.size_append, sz20]
    refine Ev.bind (l1Num_ev x.f0 (by omega) (by omega)) (ev_pos ?_ (ev_pos ?_ (Ev.bind (l1Num_ev x.f1 (by omega) (by omega)) (ev_pos ?_ (ev_pos ?_ ?_)))))
    · show (s ++ eC).size + _ ≤ _
      rw [z1]; omega
    · show ((s ++ eC) ++ numB x.f0).size + _ ≤ _
      rw [ByteArray.size_append, z1]; omega
    · show (((s ++ eC) ++ numB x.f0) ++ eLies).size + _ ≤ _
      rw [z2, ByteArray.size_append, z1]; omega
    · show ((((s ++ eC) ++ numB x.f0) ++ eLies) ++ numB x.f1).size + _ ≤ _
      rw [ByteArray.size_append, z2, ByteArray.size_append, z1]; omega
    · have h3 := hk (nlStep s (relLine x)) (by
        have c := relLine_size x ⟨by omega, by omega⟩ ⟨by omega, by omega⟩
        unfold nlStep
        rw [ByteArray.size_append, ByteArray.size_append]
        have : (⟨#[10]⟩ : ByteArray).size = 1 := rfl
        omega)
      have e := relStep s (numB x.f0) (numB x.f1)
      rw [show nlStep s (relLine x) = _ from e.symm] at h3
      rw [List.map_cons, List.foldl_cons, show nlStep s (relLine x) = _ from e.symm]
      exact h3
  exact h
theorem specCtxText_ev (cs : List S68) (rs : List S70) (hc : ∀ x ∈ cs, (1 ≤ x.f0 ∧ x.f0 ≤ 999) ∧ (1 ≤ x.f1 ∧ x.f1 ≤ 4)) (hcl : cs.length ≤ 10) (hr : ∀ x ∈ rs, (1 ≤ x.f0 ∧ x.f0 ≤ 999) ∧ (1 ≤ x.f1 ∧ x.f1 ≤ 999)) (hl : rs.length ≤ 24) : Ev (fun k => spec_l25Record.f k cs rs) (recText cs rs) := by
  have h := ev_scan0 (L := fun k (s : ByteArray) i => spec_l25Record.l0 k s i cs rs) (G := fun s i (r : List S68) => (r.map ctxLine ++ rs.map relLine).foldl nlStep s) (fun s i r => s.size ≤ 100 * i) cs (⟨#[]⟩ : ByteArray) (Nat.le_refl _) ?h1 ?h2
  case h1 =>
    intro s hs
    rw [List.map_nil, List.nil_append]
    exact Ev.step (fun k => rfl) (ev_neg (by omega) (specRelText_ev cs rs hr hl s (by omega)))
  case h2 =>
    intro s i x r hI hi hd hg hk
    have hx := hc x (List.mem_of_mem_drop (hd ▸ List.mem_cons_self ..))
    have a := numB_size x.f0 (by omega) (by omega)
    obtain ⟨hk1, hk2, hk3, hk4⟩ := kT_eq x.f1 hx.2
    have hrd : rd_T68 cs (i : Int) = x := by unfold rd_T68; rw [Int.toNat_natCast]; exact hg _
    refine Ev.step (fun k => rfl) (ev_pos (by omega) (ev_pos (by omega) (ev_pos (by omega) ?_)))
    rw [hrd, wrap_succ hi (by omega)]
    have z1 : ∀ t : ByteArray, (t ++ eC).size = t.size + 8 := fun t => by rw [ByteArray.size_append, sz8]
    have z2 : ∀ t : ByteArray, (t ++ (⟨#[32]⟩ : ByteArray)).size = t.size + 1 := fun t => by rw [ByteArray.size_append]; rfl
    refine Ev.bind (l1Num_ev x.f0 (by omega) (by omega)) (ev_pos ?_ (ev_pos ?_ (ev_bind0 (show spec_l25Kinds.f = some _ from rfl) (ev_pos (by omega) (ev_pos ?_ (ev_pos ?_ (ev_pos ?_ ?_)))))))
    · show (s ++ eC).size + _ ≤ _
      rw [z1]; omega
    · show ((s ++ eC) ++ numB x.f0).size + _ ≤ _
      rw [ByteArray.size_append, z1]; omega
    · show x.f1 < (5 : Int)
      omega
    · show (((s ++ eC) ++ numB x.f0) ++ (⟨#[32]⟩ : ByteArray)).size + _ ≤ _
      rw [z2, ByteArray.size_append, z1]; omega
    · show ((((s ++ eC) ++ numB x.f0) ++ (⟨#[32]⟩ : ByteArray)) ++ rdOf ByteArray.empty _ x.f1).size + _ ≤ _
      rw [ByteArray.size_append, z2, ByteArray.size_append, z1]; omega
    · have h3 := hk (nlStep s (ctxLine x)) (by
        have c := ctxLine_size x ⟨by omega, by omega⟩ hx.2
        unfold nlStep
        rw [ByteArray.size_append, ByteArray.size_append]
        have : (⟨#[10]⟩ : ByteArray).size = 1 := rfl
        omega)
      have e := ctxStep s (numB x.f0) _ (kT x.f1) hk2
      rw [show nlStep s (ctxLine x) = _ from e.symm] at h3
      rw [List.map_cons, List.cons_append, List.foldl_cons, show nlStep s (ctxLine x) = _ from e.symm]
      exact h3
  exact h
theorem recText_ev (cs : List S68) (rs : List S70) : ∃ v, Ev (fun k => spec_RecordToEnglish.f k cs rs) v ∧ Ev (fun k => impl_RecordToEnglish.f k cs rs) v := by
  have h1 := specRecord_ev cs rs
  have h2 := implRecord_ev cs rs
  cases hr : recOk cs rs
  · rw [hr] at h1 h2
    exact ⟨((⟨#[]⟩ : ByteArray), false), Ev.bind h1 (ev_neg (by simp) (ev_now rfl)), Ev.bind h2 (ev_neg (by simp) (ev_now rfl))⟩
  · rw [hr] at h1 h2
    obtain ⟨a, b, c, d⟩ := recOk_spec hr
    exact ⟨(recText cs rs, true), Ev.bind h1 (ev_pos rfl (Ev.bind (specCtxText_ev cs rs c a d b) (ev_now rfl))), Ev.bind h2 (ev_pos rfl (implCtxText_ev cs rs (fun x hx => ⟨⟨by have := c x hx; omega, by have := c x hx; omega⟩, (c x hx).2⟩) a (fun x hx => ⟨⟨by have := d x hx; omega, by have := d x hx; omega⟩, ⟨by have := d x hx; omega, by have := d x hx; omega⟩⟩) b))⟩
end Go.Proofs.YtfkaiiconllbhaaDoor.X
set_option linter.unusedVariables false
namespace Go.Proofs.YtfkaiiconllbhaaDoor.X
open Go.RowKit Go.Proofs.YtfkaiiconllbhaaDoorW.PrintWords Go.Proofs.YtfkaiiconllbhaaDoor.E
def wt34 (x : S34) : Nat := x.f0.length + x.f1.length
end Go.Proofs.YtfkaiiconllbhaaDoor.X
set_option linter.unusedVariables false
namespace Go.Proofs.YtfkaiiconllbhaaDoor.X
open Go.RowKit Go.Proofs.YtfkaiiconllbhaaDoorW.PrintWords Go.Proofs.YtfkaiiconllbhaaDoor.E
theorem laws_szContextS_ev (x : List (S92)) (g0 : x.length ≤ 9223372036854775807) (left : Int) (h0 : 0 ≤ left) (h1 : left ≤ 4611686018427387904) :
    Ev (fun k => laws_szContextS.f x left) (if ((x.length : Nat) : Int) ≤ left then left - ((x.length : Nat) : Int) else -1) := by
  unfold laws_szContextS.f
  have e0 : wrap64 (left - ((x.length : Nat) : Int)) = left - ((x.length : Nat) : Int) := wrap_id (by omega) (by omega)
  simp only [e0]
  by_cases c : ((x.length : Nat) : Int) ≤ left
  case neg => exact ev_pos (by omega) (ev_now (by first | rfl | rw [if_neg (by omega)]))
  refine ev_neg (by omega) ?_
  exact ev_now (by first | rfl | rw [if_pos (by omega)])
end Go.Proofs.YtfkaiiconllbhaaDoor.X
set_option linter.unusedVariables false
namespace Go.Proofs.YtfkaiiconllbhaaDoor.X
open Go.RowKit Go.Proofs.YtfkaiiconllbhaaDoorW.PrintWords Go.Proofs.YtfkaiiconllbhaaDoor.E
theorem laws_szRelationS_ev (x : List (S94)) (g0 : x.length ≤ 9223372036854775807) (left : Int) (h0 : 0 ≤ left) (h1 : left ≤ 4611686018427387904) :
    Ev (fun k => laws_szRelationS.f x left) (if ((x.length : Nat) : Int) ≤ left then left - ((x.length : Nat) : Int) else -1) := by
  unfold laws_szRelationS.f
  have e0 : wrap64 (left - ((x.length : Nat) : Int)) = left - ((x.length : Nat) : Int) := wrap_id (by omega) (by omega)
  simp only [e0]
  by_cases c : ((x.length : Nat) : Int) ≤ left
  case neg => exact ev_pos (by omega) (ev_now (by first | rfl | rw [if_neg (by omega)]))
  refine ev_neg (by omega) ?_
  exact ev_now (by first | rfl | rw [if_pos (by omega)])
end Go.Proofs.YtfkaiiconllbhaaDoor.X
set_option linter.unusedVariables false
namespace Go.Proofs.YtfkaiiconllbhaaDoor.X
open Go.RowKit Go.Proofs.YtfkaiiconllbhaaDoorW.PrintWords Go.Proofs.YtfkaiiconllbhaaDoor.E
theorem laws_szRecord_ev (x : S34) (g0 : x.f0.length ≤ 9223372036854775807) (g1 : x.f1.length ≤ 9223372036854775807) (left : Int) (h0 : 0 ≤ left) (h1 : left ≤ 4611686018427387904) :
    Ev (fun k => laws_szRecord.f (x.f0) (x.f1) left) (if (((wt34 x) : Nat) : Int) ≤ left then left - (((wt34 x) : Nat) : Int) else -1) := by
  unfold laws_szRecord.f
  unfold wt34
  refine Ev.bind (laws_szContextS_ev _ (by assumption) _ (by omega) (by omega)) ?_
  by_cases c0 : ((x.f0.length : Nat) : Int) ≤ left
  case neg =>
    rw [if_neg c0]
    exact ev_pos (by omega) (ev_now (by first | rfl | rw [if_neg (by omega)]))
  rw [if_pos c0]
  refine ev_neg (by omega) ?_
  refine Ev.bind (laws_szRelationS_ev _ (by assumption) _ (by omega) (by omega)) ?_
  by_cases c1 : ((x.f1.length : Nat) : Int) ≤ (left - ((x.f0.length : Nat) : Int))
  case neg =>
    rw [if_neg c1]
    exact ev_pos (by omega) (ev_now (by first | rfl | rw [if_neg (by omega)]))
  rw [if_pos c1]
  refine ev_neg (by omega) ?_
  exact ev_now (by first | rfl | omega | (rw [if_pos (by omega)]; omega))
end Go.Proofs.YtfkaiiconllbhaaDoor.X
set_option linter.unusedVariables false
namespace Go.Proofs.YtfkaiiconllbhaaDoor.X
open Go.RowKit Go.Proofs.YtfkaiiconllbhaaDoorW.PrintWords Go.Proofs.YtfkaiiconllbhaaDoor.E
def conv92 (x : S92) : S68 := ⟨x.f0, x.f1⟩
theorem laws_toContext_ev (x : S92) : Ev (fun k => laws_toContext.f (x.f0) (x.f1)) ((conv92 x).f0, (conv92 x).f1) := by
  unfold laws_toContext.f
  exact ev_now rfl
end Go.Proofs.YtfkaiiconllbhaaDoor.X
set_option linter.unusedVariables false
namespace Go.Proofs.YtfkaiiconllbhaaDoor.X
open Go.RowKit Go.Proofs.YtfkaiiconllbhaaDoorW.PrintWords Go.Proofs.YtfkaiiconllbhaaDoor.E
theorem laws_toContextS_ev (x : List (S92)) (hb : x.length ≤ 1048576) : Ev (fun k => laws_toContextS.f k x) (x.map conv92) := by
  unfold laws_toContextS.f
  refine ev_pos (by omega) (ev_pos (by simp only [Int.toNat_natCast]; omega) ?_)
  simp only [Int.toNat_natCast]
  refine ev_fill (L := fun k o i => laws_toContextS.l0 k x o i) x conv92 _ (fun o => Ev.step (fun k => rfl) (ev_neg (by omega) (ev_now rfl))) ?_
  intro o i y r hi hx hd hl hk
  refine Ev.step (fun k => rfl) (ev_pos (by omega) (ev_pos (by omega) ?_))
  simp only [rd_T92, Int.toNat_natCast, hd]
  refine Ev.bind (laws_toContext_ev y) ?_
  refine ev_pos (by omega) ?_
  rw [wrap_succ hi (by omega)]
  exact hk
end Go.Proofs.YtfkaiiconllbhaaDoor.X
set_option linter.unusedVariables false
namespace Go.Proofs.YtfkaiiconllbhaaDoor.X
open Go.RowKit Go.Proofs.YtfkaiiconllbhaaDoorW.PrintWords Go.Proofs.YtfkaiiconllbhaaDoor.E
def conv94 (x : S94) : S70 := ⟨x.f0, x.f1⟩
theorem laws_toRelation_ev (x : S94) : Ev (fun k => laws_toRelation.f (x.f0) (x.f1)) ((conv94 x).f0, (conv94 x).f1) := by
  unfold laws_toRelation.f
  exact ev_now rfl
end Go.Proofs.YtfkaiiconllbhaaDoor.X
set_option linter.unusedVariables false
namespace Go.Proofs.YtfkaiiconllbhaaDoor.X
open Go.RowKit Go.Proofs.YtfkaiiconllbhaaDoorW.PrintWords Go.Proofs.YtfkaiiconllbhaaDoor.E
theorem laws_toRelationS_ev (x : List (S94)) (hb : x.length ≤ 1048576) : Ev (fun k => laws_toRelationS.f k x) (x.map conv94) := by
  unfold laws_toRelationS.f
  refine ev_pos (by omega) (ev_pos (by simp only [Int.toNat_natCast]; omega) ?_)
  simp only [Int.toNat_natCast]
  refine ev_fill (L := fun k o i => laws_toRelationS.l0 k x o i) x conv94 _ (fun o => Ev.step (fun k => rfl) (ev_neg (by omega) (ev_now rfl))) ?_
  intro o i y r hi hx hd hl hk
  refine Ev.step (fun k => rfl) (ev_pos (by omega) (ev_pos (by omega) ?_))
  simp only [rd_T94, Int.toNat_natCast, hd]
  refine Ev.bind (laws_toRelation_ev y) ?_
  refine ev_pos (by omega) ?_
  rw [wrap_succ hi (by omega)]
  exact hk
end Go.Proofs.YtfkaiiconllbhaaDoor.X
set_option linter.unusedVariables false
namespace Go.Proofs.YtfkaiiconllbhaaDoor.X
open Go.RowKit Go.Proofs.YtfkaiiconllbhaaDoorW.PrintWords Go.Proofs.YtfkaiiconllbhaaDoor.E
def conv34 (x : S34) : S40 := ⟨(x.f0.map conv92), (x.f1.map conv94)⟩
theorem laws_toRecord_ev (x : S34) (hb : (wt34 x) ≤ 1048576) : Ev (fun k => laws_toRecord.f k (x.f0) (x.f1)) ((conv34 x).f0, (conv34 x).f1) := by
  unfold laws_toRecord.f
  unfold wt34 at hb
  refine Ev.bind (laws_toContextS_ev x.f0 (by omega)) ?_
  refine Ev.bind (laws_toRelationS_ev x.f1 (by omega)) ?_
  exact ev_now rfl
end Go.Proofs.YtfkaiiconllbhaaDoor.X
set_option linter.unusedVariables false
namespace Go.Proofs.YtfkaiiconllbhaaDoor.X
open Go.RowKit Go.Proofs.YtfkaiiconllbhaaDoorW.PrintWords Go.Proofs.YtfkaiiconllbhaaDoor.E
theorem laws_eqContext_ev (x : S68) : Ev (fun k => laws_eqContext.f (x.f0) (x.f1) (x.f0) (x.f1)) true := by
  unfold laws_eqContext.f
  repeat' (first | exact ev_now rfl | refine ev_pos rfl ?_ | refine ev_neg (by simp) ?_)
end Go.Proofs.YtfkaiiconllbhaaDoor.X
set_option linter.unusedVariables false
namespace Go.Proofs.YtfkaiiconllbhaaDoor.X
open Go.RowKit Go.Proofs.YtfkaiiconllbhaaDoorW.PrintWords Go.Proofs.YtfkaiiconllbhaaDoor.E
theorem laws_eqContextS_ev (x : List (S68)) (hl0 : x.length ≤ 9223372036854775807) : Ev (fun k => laws_eqContextS.f k x x) true := by
  unfold laws_eqContextS.f
  refine ev_pos rfl ?_
  refine ev_same (L := fun k i => laws_eqContextS.l0 k x x i) x.length (Ev.step (fun k => rfl) (ev_neg (by omega) (ev_now rfl))) ?_
  intro i hi hk
  refine Ev.step (fun k => rfl) (ev_pos (by omega) (ev_pos (by omega) (ev_pos (by omega) ?_)))
  refine Ev.bind (laws_eqContext_ev _) ?_
  refine ev_pos rfl ?_
  rw [wrap_succ hi (by omega)]
  exact hk
end Go.Proofs.YtfkaiiconllbhaaDoor.X
set_option linter.unusedVariables false
namespace Go.Proofs.YtfkaiiconllbhaaDoor.X
open Go.RowKit Go.Proofs.YtfkaiiconllbhaaDoorW.PrintWords Go.Proofs.YtfkaiiconllbhaaDoor.E
theorem laws_eqRelation_ev (x : S70) : Ev (fun k => laws_eqRelation.f (x.f0) (x.f1) (x.f0) (x.f1)) true := by
  unfold laws_eqRelation.f
  repeat' (first | exact ev_now rfl | refine ev_pos rfl ?_ | refine ev_neg (by simp) ?_)
end Go.Proofs.YtfkaiiconllbhaaDoor.X
set_option linter.unusedVariables false
namespace Go.Proofs.YtfkaiiconllbhaaDoor.X
open Go.RowKit Go.Proofs.YtfkaiiconllbhaaDoorW.PrintWords Go.Proofs.YtfkaiiconllbhaaDoor.E
theorem laws_eqRelationS_ev (x : List (S70)) (hl0 : x.length ≤ 9223372036854775807) : Ev (fun k => laws_eqRelationS.f k x x) true := by
  unfold laws_eqRelationS.f
  refine ev_pos rfl ?_
  refine ev_same (L := fun k i => laws_eqRelationS.l0 k x x i) x.length (Ev.step (fun k => rfl) (ev_neg (by omega) (ev_now rfl))) ?_
  intro i hi hk
  refine Ev.step (fun k => rfl) (ev_pos (by omega) (ev_pos (by omega) (ev_pos (by omega) ?_)))
  refine Ev.bind (laws_eqRelation_ev _) ?_
  refine ev_pos rfl ?_
  rw [wrap_succ hi (by omega)]
  exact hk
end Go.Proofs.YtfkaiiconllbhaaDoor.X
set_option linter.unusedVariables false
namespace Go.Proofs.YtfkaiiconllbhaaDoor.X
open Go.RowKit Go.Proofs.YtfkaiiconllbhaaDoorW.PrintWords Go.Proofs.YtfkaiiconllbhaaDoor.E
theorem laws_eqRecord_ev (x : S40) (hl0 : x.f0.length ≤ 9223372036854775807) (hl1 : x.f1.length ≤ 9223372036854775807) : Ev (fun k => laws_eqRecord.f k (x.f0) (x.f1) (x.f0) (x.f1)) true := by
  unfold laws_eqRecord.f
  repeat' (first | exact ev_now rfl | refine ev_pos rfl ?_ | refine ev_neg (by simp) ?_ | refine Ev.bind (laws_eqContextS_ev _ (by assumption)) ?_ | refine Ev.bind (laws_eqRelationS_ev _ (by assumption)) ?_)
end Go.Proofs.YtfkaiiconllbhaaDoor.X
set_option linter.unusedVariables false
set_option linter.unusedSimpArgs false
namespace Go.Proofs.YtfkaiiconllbhaaDoor.Pure
open Go.RowKit Go.Proofs.YtfkaiiconllbhaaDoor.X Go.Proofs.YtfkaiiconllbhaaDoorW.PrintWords Go.Proofs.YtfkaiiconllbhaaDoor.E
theorem FnExactRecordToEnglish : PureFnExactRecordToEnglish := by
  intro x hx
  unfold laws_FnExactRecordToEnglish.f
  refine ev_get (Ev.bind (laws_szRecord_ev x hx.1.1 hx.2.1 1048576 (by omega) (by omega)) ?_)
  by_cases c : (((wt34 x) : Nat) : Int) ≤ 1048576
  case neg => rw [if_neg c]; exact ev_pos (by omega) (ev_now rfl)
  rw [if_pos c]
  refine ev_neg (by omega) ?_
  have hwt : wt34 x = x.f0.length + x.f1.length := rfl
  have htr := laws_toRecord_ev x (by omega)
  have hl0 : (conv34 x).f0.length = x.f0.length := List.length_map ..
  have hl1 : (conv34 x).f1.length = x.f1.length := List.length_map ..
  have heq := laws_eqRecord_ev (conv34 x) (by omega) (by omega)
  obtain ⟨v, hsp, him⟩ := recText_ev (conv34 x).f0 (conv34 x).f1
  refine Ev.bind htr (Ev.bind hsp (Ev.bind htr (Ev.bind him (ev_pos rfl ?_))))
  exact Ev.step (fun k => rfl) (ev_neg (by simp) (Ev.bind htr (Ev.bind heq (ev_pos rfl (ev_now rfl)))))
end Go.Proofs.YtfkaiiconllbhaaDoor.Pure
namespace Go.Proofs.YtfkaiiconllbhaaDoor.fnExactRecordToEnglish
open Go.ChangeShapes Go.WideShapes Go.ChangeAt Go.RowKit Go.Joins Go.Proofs.YtfkaiiconllbhaaDoorW.PrintWords Go.Proofs.YtfkaiiconllbhaaDoor.Open Go.Proofs.YtfkaiiconllbhaaDoor.X
open Go.ChangeMaps (open_string shut_string)
set_option linter.unusedVariables false
theorem own : ownKnob Tryd.prog.godebug = none := by kernel_rfl
def laid : List (String × DataW Unit) := [("math/bits.deBruijn32tab", Rows.laid_math_bits_deBruijn32tab), ("math/bits.deBruijn64tab", Rows.laid_math_bits_deBruijn64tab), ("internal/strconv.uint64pow10", Rows.laid_internal_strconv_uint64pow10)]
theorem door_met (os : Os) (args : Array Value) : laidMetH Tryd.prog laid ((World.doorLaid Tryd.prog 62 os).forCall (fun _ _ => 0) ⟨#[], args, []⟩).memory :=
  laidMetH_of_parts3 (fuel := 8) (laidMet_of_run' 8 (by kernel_rfl) (by kernel_rfl)) (by kernel_rfl) (by kernel_rfl)
theorem gTab : Tryd.prog.globalNamed "internal/strconv.uint64pow10" = some 1 := by kernel_rfl
theorem gTabType : (Tryd.prog.globals[1]?).map (·.type) = some 145 := by kernel_rfl
theorem cellsT : Tryd.prog.cellsOf 145 = 20 := by kernel_rfl
theorem cellsE : Tryd.prog.cellsOf 123 = 1 := by kernel_rfl
theorem only : laid.filter (fun x => x.1 == "internal/strconv.uint64pow10") = [("internal/strconv.uint64pow10", Lib.tabData .u64 Lib.pow10Tab)] := by kernel_rfl
theorem table {W : World} (h : laidMetH Tryd.prog laid W) : GT W := by
  have h2 := h.filter (fun x => x.1 == "internal/strconv.uint64pow10")
  rw [only] at h2
  rw [MakeChecks.laidMetH_plain _ _ _ (by kernel_rfl)] at h2
  exact Lib.tabIs_of_head (rest := []) gTab gTabType Tryd.underlying145 Tryd.underlying123 cellsE cellsT h2
theorem laidOut : laidOutB Tryd.prog = true := by kernel_rfl
set_option maxRecDepth 100000 in
theorem lifted (os : Os) (started : os.Started) (H : Type) (enc : TypeId × Value → H) :
    ReturnsInHanded {} Tryd.checked os 5 .any (fun w args => (Rows.fnExactRecordToEnglishSpec.pre enc Tryd.prog Tryd.f5 [] false w args ∧ laidMetH Tryd.prog laid w) ∧ sizedMet enc Tryd.prog Tryd.f5 (OpenSpec.ofChange Rows.fnExactRecordToEnglishSpec) false w args)
      (Rows.fnExactRecordToEnglishSpec.post enc Tryd.prog Tryd.f5 false true false false) := by
  refine returnsInHanded_of_change_and (C := Tryd.checked) (X := fun w _ => laidMetH Tryd.prog laid w) (fun _ _ _ hh h => h.of_heap hh) own started (by kernel_rfl) Tryd.func5
    (ChangeSpec.witness_shaped (enc := enc) (C := Tryd.checked) (os := os) (X := fun w _ => laidMetH Tryd.prog laid w) false (World.doorLaid Tryd.prog 62 os) #[.agg #[.slice none 0 0, .slice none 0 0]] 8 rfl (World.shaped_of_RefB (by kernel_rfl) (by kernel_rfl)) (by kernel_rfl) (by kernel_rfl) (by kernel_rfl) (door_met os _)) ?_
  intro W base args ds gs before hval0 hW hcnd hsz0 hL _
  have hval : ∀ (j : Nat) t v, Tryd.f5.params[j]? = some t → args[j]? = some v → Value.okWide Tryd.prog W .any base t v := hval0
  have hW' := hW
  obtain ⟨p, q, hA0, hV, rfl, hfz, hnd⟩ := hW
  have hA : DataW.TrodAll enc Tryd.prog W 0 (fun _ => true) true Tryd.f5.params.toList args.toList ds p := hA0
  rw [Tryd.params5] at hA hval
  obtain ⟨v0, vs0, d0, ds0, p0, q0, hargs, rfl, rfl, h0, r0⟩ := trodAll_cons hA
  obtain ⟨rfl, rfl, rfl⟩ := trodAll_nil r0
  obtain rfl : args = #[v0] := by cases args; simp_all
  obtain ⟨rfl, rfl⟩ := trodVars_none hV
  have kk0 := h0
  have lt0 : ∀ x ∈ p0, x.block < W.heap.size := by obtain ⟨m, hm⟩ := kk0; exact DataW.trod_lt m _ _ _ hm
  obtain ⟨a0, cs0, rfl, hK0, g0⟩ := arg_agg op34 (by obtain ⟨cs, e, _⟩ := okWide_struct Tryd.underlying34 (hval 0 34 v0 rfl rfl); exact ⟨cs, e⟩) h0
  obtain ⟨A0_0, c0_0, A0_1, c0_1, he0, hc0_0, hr0_0, hc0_1, hr0_1⟩ := k34_open hK0
  obtain rfl : cs0 = #[.slice A0_0 a0.f0.length c0_0, .slice A0_1 a0.f1.length c0_1] := by cases cs0; simp_all
  clear hA0 hval0 hsz0
  obtain ⟨k, hk⟩ := Pure.FnExactRecordToEnglish a0 g0
  refine (X.laws_FnExactRecordToEnglish.calls k _ _ a0.f0 _ _ a0.f1 true W hr0_0 hc0_0 hr0_1 hc0_1 (table hL) hk (Aside0.mk rfl)).mono ?_
  rintro e W' ⟨he, bel0⟩
  have bel : Below W.heap.size W W' := by first | exact bel0 | exact bel0.below
  subst he
  exact ⟨_, rfl, _, _, _, [], _, [], hW', trodAll_mk1 (shut_bool Tryd.underlying4 _), (trodAll_cons_mk (Below.trod laidOut (by kernel_rfl) (of_decide_eq_true (by kernel_rfl)) kk0 bel lt0) trodAll_mk0), rfl, bel.frame _, fun h => by cases h⟩
theorem over : Rows.fnExactRecordToEnglishRow.holds Tryd.pinned (OpenSpec.ofChange Rows.fnExactRecordToEnglishSpec) :=
  OpenClaim.holds_of_wide 5 Tryd.f5 rfl rfl rfl rfl rfl rfl rfl ⟨rfl, rfl, rfl, rfl, rfl⟩ rfl rfl rfl rfl rfl (by kernel_rfl) Tryd.func5 (by kernel_rfl)
    (of_decide_eq_true (by kernel_rfl)) (by unfold Func.isWrapper; first | (rw [if_pos (by decide +kernel)]; kernel_rfl) | (rw [if_neg (by decide +kernel)]; exact ⟨rfl, rfl⟩))
    (fun os started H enc _ => lifted os started H enc)
theorem proved : Rows.FnExactRecordToEnglishSaid := over
#print axioms proved
theorem plain (f : FuncId) (fn : Func) (hf : Tryd.pinned.checked.prog.funcNamed "loop.example/g00876/laws.FnExactRecordToEnglish" = some f) (hfn : Tryd.pinned.checked.prog.funcs[f]? = some fn) :
    true = Tryd.pinned.checked.prog.looks [] ∧ ∀ (j : Nat) t, fn.params[j]? = some t → Tryd.pinned.checked.prog.wantsStandIn t = false := by
  obtain rfl : f = 5 := Option.some.inj ((show Tryd.prog.funcNamed "loop.example/g00876/laws.FnExactRecordToEnglish" = some 5 by kernel_rfl).symm.trans hf) |>.symm
  obtain rfl : fn = Tryd.f5 := (Option.some.inj (Tryd.func5.symm.trans hfn)).symm
  refine ⟨by kernel_rfl, fun j t ht => ?_⟩
  rw [Tryd.params5] at ht
  have hm := Array.mem_of_getElem? ht
  simp only [List.mem_toArray, List.mem_cons, List.not_mem_nil, or_false] at hm
  rcases hm with rfl
  exact (show Tryd.prog.wantsStandIn 34 = false by kernel_rfl)
theorem card : Rows.FnExactRecordToEnglishCardSaid :=
  Claim7.holds_tied_plain_at .later [] _ _ _ _ proved (fun _ h => by cases h) (by kernel_rfl) (fun _ h => by cases h) fnExactRecordToEnglish_row_tie rfl ⟨rfl, rfl⟩ (by kernel_rfl) rfl plain (by kernel_rfl)
#print axioms card
end Go.Proofs.YtfkaiiconllbhaaDoor.fnExactRecordToEnglish
namespace Go.Proofs.YtfkaiiconllbhaaDoor
/-- The row, under a short name, for the claim. -/
theorem fnExactRecordToEnglish_holds : Rows.FnExactRecordToEnglishSaid := fnExactRecordToEnglish.proved
/-- The card, under a short name. -/
theorem fnExactRecordToEnglishCard_holds : Rows.FnExactRecordToEnglishCardSaid := fnExactRecordToEnglish.card
end Go.Proofs.YtfkaiiconllbhaaDoor
