/- For every text the law FnExactEnglishToInterval answers true. No condition beyond what a reading tells.
This file (part 3 of 3) holds what the proof needs: plain functions with rounds and contracts written by programs of this work over the translation, and the lemmas. -/
import Derived.Test.YtfkaiiconllbhaaDoorZFnExactEnglishToInterval2
import Derived.Test.YtfkaiiconllbhaaDoorZFnExactEnglishToInterval1
import Derived.ChangeArms
import Derived.DataReads
import Derived.Deep.Slices
import Derived.ChangeOld
import Derived.OpenShut
import Derived.Lib.ItoaNum
import Derived.Lib.ItoaLen
import Derived.Lib.AtoiAllCases
import Derived.Lib.Strings
import Derived.Lib.IndexLaws
import Derived.Lib.IndexMore
import Derived.Test.YtfkaiiconllbhaaDoorTie
import Derived.Test.YtfkaiiconllbhaaDoorCards
import Derived.Test.YtfkaiiconllbhaaDoorRows
import Derived.WalkKit
import Derived.ProofKit
import Derived.ShutString
import Derived.Below
import Derived.SizedLaws
import Derived.Lib.SmallJoins
import Derived.LaidMore
import Derived.Stop.Joined
import Derived.Stop.LaidErr
import Derived.Lib.LaidTab
import Derived.LaidSub
import Derived.Handed
import Derived.SevenTiedAt
namespace Go.Proofs.YtfkaiiconllbhaaDoor.X
open Go.RowKit Go.Proofs.YtfkaiiconllbhaaDoorW.PrintWords Go.Proofs.YtfkaiiconllbhaaDoorW.PrintLast Go.Proofs.YtfkaiiconllbhaaDoorW.PrintMore
attribute [local go_sem] max2_int min2_int max_two min_two max_three min_three max_four min_four   -- for this text's walks alone
set_option linter.unusedVariables false
set_option linter.unusedSimpArgs false
attribute [-simp] ByteArray.size_append ByteArray.size_extract
attribute [-go_sem] ByteArray.size_append'

/-! ### impl_EnglishToInterval: function 27 -/
def impl_EnglishToInterval.f (a0 : ByteArray) : Option (Int × Int × Bool) := (strings_CutPrefix.f a0 (⟨#[105, 110, 32]⟩ : ByteArray)).bind fun bt103 => (if bt103.2 = true then ((impl_EnglishToYear.f bt103.1).bind fun bt105 => ((impl_IntervalToEnglish.f bt105.1 bt105.1).bind fun bt107 => (if bt107.2 = true then (if bt107.1.toList = a0.toList then (some (bt105.1, bt105.1, true)) else (some (0, 0, false))) else (some (0, 0, false))))) else ((strings_TrimPrefix.f a0 (⟨#[98, 101, 116, 119, 101, 101, 110, 32]⟩ : ByteArray)).bind fun t109 => ((strings_Cut.f t109 (⟨#[32, 97, 110, 100, 32]⟩ : ByteArray)).bind fun bt110 => ((impl_EnglishToYear.f bt110.1).bind fun bt113 => ((impl_EnglishToYear.f bt110.2.1).bind fun bt115 => ((impl_IntervalToEnglish.f bt113.1 bt115.1).bind fun bt117 => (if bt117.2 = true then (if bt117.1.toList = a0.toList then (some (bt113.1, bt115.1, true)) else (some (0, 0, false))) else (some (0, 0, false)))))))))
set_option maxHeartbeats 8000000 in
set_option maxRecDepth 100000 in
theorem impl_EnglishToInterval.calls (a0 : ByteArray) (r1 : Int) (r2 : Int) (r3 : Bool) (w : World) (hG : GE w) (h : impl_EnglishToInterval.f a0 = some (r1, r2, r3)) :
  Calls Tryd.prog 27 #[.string a0] w fun e w' => e = .returned (.tuple #[.agg #[.int .i64 r1, .int .i64 r2], .bool r3]) ∧ Below w.heap.size w w' := by
 (have hu28 := Tryd.underlying28); (have HG := Aside0.mk hG); clear hG; (have HB := Aside0.mk (Below.refl w.heap.size w)); (unfold impl_EnglishToInterval.f at h); (have H := h); clear h; (replace H := obS H); (obtain ⟨⟨t103, t104⟩, A2, H⟩ := H); (replace H : (if t104 = true then ((impl_EnglishToYear.f t103).bind fun bt105 => ((impl_IntervalToEnglish.f bt105.1 bt105.1).bind fun bt107 => (if bt107.2 = true then (if bt107.1.toList = a0.toList then (some (bt105.1, bt105.1, true)) else (some (0, 0, false))) else (some (0, 0, false))))) else ((strings_TrimPrefix.f a0 (⟨#[98, 101, 116, 119, 101, 101, 110, 32]⟩ : ByteArray)).bind fun t109 => ((strings_Cut.f t109 (⟨#[32, 97, 110, 100, 32]⟩ : ByteArray)).bind fun bt110 => ((impl_EnglishToYear.f bt110.1).bind fun bt113 => ((impl_EnglishToYear.f bt110.2.1).bind fun bt115 => ((impl_IntervalToEnglish.f bt113.1 bt115.1).bind fun bt117 => (if bt117.2 = true then (if bt117.1.toList = a0.toList then (some (bt113.1, bt115.1, true)) else (some (0, 0, false))) else (some (0, 0, false))))))))) = some (r1, r2, r3) := H); (by_cases c3 : t104 = true)
 ·subst c3
  (rw [if_pos rfl] at H); (replace H := obS H); (obtain ⟨⟨t105, t106⟩, A4, H⟩ := H); (replace H : ((impl_IntervalToEnglish.f t105 t105).bind fun bt107 => (if bt107.2 = true then (if bt107.1.toList = a0.toList then (some (t105, t105, true)) else (some (0, 0, false))) else (some (0, 0, false)))) = some (r1, r2, r3) := H); (replace H := obS H); (obtain ⟨⟨t107, t108⟩, A5, H⟩ := H); (replace H : (if t108 = true then (if t107.toList = a0.toList then (some (t105, t105, true)) else (some (0, 0, false))) else (some (0, 0, false))) = some (r1, r2, r3) := H); (by_cases c6 : t108 = true)
  ·subst c6
   (rw [if_pos rfl] at H); (by_cases c7 : t107.toList = a0.toList)
   ·rw [if_pos c7] at H
    (have c7b0 : (t107.toList == a0.toList) = true := beq_iff_eq.mpr c7); (have c7b1 : (t107.toList != a0.toList) = false := bne_eq_false_iff_eq.mpr c7); clear c7; (simp only [Option.some.injEq, Prod.mk.injEq] at H); (obtain ⟨rfl, rfl, rfl⟩ := H); (go_enter Tryd.func27, Tryd.ntmps27)
    go_wp2_with (first | ((with_reducible refine gate_dst (N := 2) rfl ?_); refine box_event ?hg (N := 2) ?hd (cs := #[.int .i64 0, .int .i64 0]) (t := 28) ?hr ?_; (case hd => rfl); (case hg => rfl); (case hr => first | (go_simp; done) | (go_simp; rfl)); intro gb101 hg w8 hbox hb; have hB_ := bz (by repeat (first | (with_reducible first | exact HB.out | apply bA | apply bN | apply bD) | exact HB.out)) hb; have n0_ := Aside0.mk (below_step hB_ hb); have n1_ := Aside0.mk (hbox); have n2_ := Aside0.mk ((by rw [hg]; exact (below_size hB_) : w.heap.size ≤ gb101)); have n3_ := n2_; clear HB; have HB := n0_; have BK101 := n1_; have GW101 := n2_; have GE101 := n3_; clear n0_ n1_ n2_ n3_ hB_ hb hbox hg) | ((with_reducible refine gate_dst (N := 4) rfl ?_); refine box_event ?hg (N := 4) ?hd (cs := #[.int .i64 0, .int .i64 0]) (t := 28) ?hr ?_; (case hd => rfl); (case hg => rfl); (case hr => first | (go_simp; done) | (go_simp; rfl)); intro gb102 hg w9 hbox hb; have n0_ := Aside0.mk (blk_below (kI BK101) hb); have hB_ := bz (by repeat (first | (with_reducible first | exact HB.out | apply bA | apply bN | apply bD | refine below_set ?_ GE101.out) | exact HB.out)) hb; have n1_ := Aside0.mk (below_step hB_ hb); have n2_ := Aside0.mk (hbox); have n3_ := Aside0.mk ((by rw [hg]; exact (below_size hB_) : w.heap.size ≤ gb102)); have n4_ := n3_; have n5_ := Aside0.mk ((by rw [hg]; exact Nat.ne_of_lt (blk_lt (kI BK101)) : gb101 ≠ gb102)); have n6_ := Aside0.mk (Ne.symm n5_.out); clear BK101 HB; have BK101 := n0_; have HB := n1_; have BK102 := n2_; have GW102 := n3_; have GE102 := n4_; have NB101_102 := n5_; have NB102_101 := n6_; clear n0_ n1_ n2_ n3_ n4_ n5_ n6_ hB_ hb hbox hg; have hnb10 := NB102_101.out; have hnc10 := NB101_102.out; have hcz11_0 := cz BK102.out 0; have hcz11_1 := cz BK102.out 1; have hfz11_0 := blk_frozen BK102.out 0; have hfz11_1 := blk_frozen BK102.out 1) | ((with_reducible refine gate_callee (f := 50) rfl ?_); refine gL (some 15) Tryd.func50 #[.string a0, .string (⟨#[105, 110, 32]⟩ : ByteArray)] ?_; (with_reducible refine (strings_CutPrefix.calls a0 (⟨#[105, 110, 32]⟩ : ByteArray) t103 true _ A2.out).mono ?_); rintro e w' ⟨rfl, ⟨nd, rfl⟩⟩; refine ⟨_, rfl, ?_⟩) | ((with_reducible refine gate_callee (f := 20) rfl ?_); refine gL (some 21) Tryd.func20 #[.string t103] ?_; (with_reducible refine (impl_EnglishToYear.calls t103 t105 t106 _ ?side1 A4.out).mono ?_); (case side1 => first | exact GE.below HG.out (by repeat (first | (with_reducible first | exact HB.out | apply bA | apply bN | apply bD | refine below_set ?_ GE101.out | refine below_set ?_ GE102.out) | exact HB.out)) | (repeat (first | exact HG.out | (with_reducible first | apply GE.drewN | apply GE.drew | apply GE.alloc)))); rintro e w12 ⟨rfl, hb⟩; refine ⟨_, rfl, ?_⟩; have n0_ := Aside0.mk (blk_below (g := gb101) (o := .cells #[.int .i64 0, .int .i64 0] 28 (0, 0)) (by (with_reducible repeat (first | refine kN ?_ _ | refine kD ?_ | refine kA ?_ _)); refine blk_far ?_ NB101_102.out _; (with_reducible repeat (first | refine kN ?_ _ | refine kD ?_ | refine kA ?_ _)); refine blk_far ?_ NB101_102.out _; (with_reducible repeat (first | refine kN ?_ _ | refine kD ?_ | refine kA ?_ _)); exact BK101.out) hb); have n1_ := Aside0.mk (blk_below (g := gb102) (o := .cells #[.int .i64 0, .int .i64 0] 28 (0, 0)) (by (with_reducible repeat (first | refine kN ?_ _ | refine kD ?_ | refine kA ?_ _)); refine blk_put (cs := #[.int .i64 0, .int .i64 0]) ?_ 1 _ rfl; (with_reducible repeat (first | refine kN ?_ _ | refine kD ?_ | refine kA ?_ _)); refine blk_put (cs := #[.int .i64 0, .int .i64 0]) ?_ 0 _ rfl; (with_reducible repeat (first | refine kN ?_ _ | refine kD ?_ | refine kA ?_ _)); exact BK102.out) hb); have n2_ := Aside0.mk (below_step (by repeat (first | (with_reducible first | exact HB.out | apply bA | apply bN | apply bD | refine below_set ?_ GE101.out | refine below_set ?_ GE102.out) | exact HB.out)) hb); clear BK101 BK102 HB; have BK101 := n0_; have BK102 := n1_; have HB := n2_; clear n0_ n1_ n2_; (try clear hb); (try clear hb2); (try clear hk); (try clear hi); have hcz13_0 := cz BK102.out 0; have hcz13_1 := cz BK102.out 1; have hfz13_0 := blk_frozen BK102.out 0; have hfz13_1 := blk_frozen BK102.out 1) | ((with_reducible refine gate_callee (f := 13) rfl ?_); refine gL (some 49) Tryd.func13 #[.agg #[.int .i64 t105, .int .i64 t105]] ?_; (with_reducible refine (impl_IntervalToEnglish.calls t105 t105 t107 true _ ?side1 A5.out).mono ?_); (case side1 => first | exact GT.below HG.out.gt (by repeat (first | (with_reducible first | exact HB.out | apply bA | apply bN | apply bD | refine below_set ?_ GE101.out | refine below_set ?_ GE102.out) | exact HB.out)) | (repeat (first | exact HG.out.gt | (with_reducible first | apply GT.drewN | apply GT.drew | apply GT.alloc)))); rintro e w14 ⟨rfl, hb⟩; refine ⟨_, rfl, ?_⟩; have n0_ := Aside0.mk (blk_below (g := gb101) (o := .cells #[.int .i64 0, .int .i64 0] 28 (0, 0)) (by (with_reducible repeat (first | refine kN ?_ _ | refine kD ?_ | refine kA ?_ _)); refine blk_far ?_ NB101_102.out _; (with_reducible repeat (first | refine kN ?_ _ | refine kD ?_ | refine kA ?_ _)); refine blk_far ?_ NB101_102.out _; (with_reducible repeat (first | refine kN ?_ _ | refine kD ?_ | refine kA ?_ _)); exact BK101.out) hb); have n1_ := Aside0.mk (blk_below (g := gb102) (o := .cells #[.int .i64 t105, .int .i64 t105] 28 (0, 0)) (by (with_reducible repeat (first | refine kN ?_ _ | refine kD ?_ | refine kA ?_ _)); refine blk_put (cs := #[.int .i64 t105, .int .i64 0]) ?_ 1 _ rfl; (with_reducible repeat (first | refine kN ?_ _ | refine kD ?_ | refine kA ?_ _)); refine blk_put (cs := #[.int .i64 0, .int .i64 0]) ?_ 0 _ rfl; (with_reducible repeat (first | refine kN ?_ _ | refine kD ?_ | refine kA ?_ _)); exact BK102.out) hb); have n2_ := Aside0.mk (below_step (by repeat (first | (with_reducible first | exact HB.out | apply bA | apply bN | apply bD | refine below_set ?_ GE101.out | refine below_set ?_ GE102.out) | exact HB.out)) hb); clear BK101 BK102 HB; have BK101 := n0_; have BK102 := n1_; have HB := n2_; clear n0_ n1_ n2_; (try clear hb); (try clear hb2); (try clear hk); (try clear hi); have hcz15_0 := cz BK102.out 0; have hcz15_1 := cz BK102.out 1; have hfz15_0 := blk_frozen BK102.out 0; have hfz15_1 := blk_frozen BK102.out 1; have hcz16_0 := cz BK101.out 0; have hcz16_1 := cz BK101.out 1; have hfz16_0 := blk_frozen BK101.out 0; have hfz16_1 := blk_frozen BK101.out 1))
    (refine bodyPost_ret (results_ct rfl _ _ gb101 28 #[.int .i64 t105, .int .i64 t105] (0, 0) _ rfl (by (with_reducible repeat (first | refine kN ?_ _ | refine kD ?_ | refine kA ?_ _)); refine blk_put (cs := #[.int .i64 t105, .int .i64 0]) ?_ 1 _ rfl; (with_reducible repeat (first | refine kN ?_ _ | refine kD ?_ | refine kA ?_ _)); refine blk_put (cs := #[.int .i64 0, .int .i64 0]) ?_ 0 _ rfl; (with_reducible repeat (first | refine kN ?_ _ | refine kD ?_ | refine kA ?_ _)); exact BK101.out) Tryd.underlying28 rfl (by kernel_rfl)) rfl ?_); (exact ⟨by first | rfl | (simp [errW_none, errW_some] <;> rfl) | (simp [*, errW_none, errW_some] <;> rfl), by repeat (first | (with_reducible first | exact HB.out | apply bA | apply bN | apply bD | refine below_set ?_ GE101.out | refine below_set ?_ GE102.out) | exact HB.out)⟩)
   ·rw [if_neg c7] at H
    (have c7b0 : (t107.toList == a0.toList) = false := beq_eq_false_iff_ne.mpr c7); (have c7b1 : (t107.toList != a0.toList) = true := bne_iff_ne.mpr c7); (simp only [Option.some.injEq, Prod.mk.injEq] at H); (obtain ⟨rfl, rfl, rfl⟩ := H); (go_enter Tryd.func27, Tryd.ntmps27)
    go_wp2_with (first | ((with_reducible refine gate_dst (N := 2) rfl ?_); refine box_event ?hg (N := 2) ?hd (cs := #[.int .i64 0, .int .i64 0]) (t := 28) ?hr ?_; (case hd => rfl); (case hg => rfl); (case hr => first | (go_simp; done) | (go_simp; rfl)); intro gb101 hg w17 hbox hb; have hB_ := bz (by repeat (first | (with_reducible first | exact HB.out | apply bA | apply bN | apply bD) | exact HB.out)) hb; have n0_ := Aside0.mk (below_step hB_ hb); have n1_ := Aside0.mk (hbox); have n2_ := Aside0.mk ((by rw [hg]; exact (below_size hB_) : w.heap.size ≤ gb101)); have n3_ := n2_; clear HB; have HB := n0_; have BK101 := n1_; have GW101 := n2_; have GE101 := n3_; clear n0_ n1_ n2_ n3_ hB_ hb hbox hg) | ((with_reducible refine gate_dst (N := 4) rfl ?_); refine box_event ?hg (N := 4) ?hd (cs := #[.int .i64 0, .int .i64 0]) (t := 28) ?hr ?_; (case hd => rfl); (case hg => rfl); (case hr => first | (go_simp; done) | (go_simp; rfl)); intro gb102 hg w18 hbox hb; have n0_ := Aside0.mk (blk_below (by (with_reducible repeat (first | refine kN ?_ _ | refine kD ?_ | refine kA ?_ _)); exact BK101.out) hb); have hB_ := bz (by repeat (first | (with_reducible first | exact HB.out | apply bA | apply bN | apply bD | refine below_set ?_ GE101.out) | exact HB.out)) hb; have n1_ := Aside0.mk (below_step hB_ hb); have n2_ := Aside0.mk (hbox); have n3_ := Aside0.mk ((by rw [hg]; exact (below_size hB_) : w.heap.size ≤ gb102)); have n4_ := n3_; have n5_ := Aside0.mk ((by rw [hg]; exact Nat.ne_of_lt (blk_lt (by (with_reducible repeat (first | refine kN ?_ _ | refine kD ?_ | refine kA ?_ _)); exact BK101.out)) : gb101 ≠ gb102)); have n6_ := Aside0.mk (Ne.symm n5_.out); clear BK101 HB; have BK101 := n0_; have HB := n1_; have BK102 := n2_; have GW102 := n3_; have GE102 := n4_; have NB101_102 := n5_; have NB102_101 := n6_; clear n0_ n1_ n2_ n3_ n4_ n5_ n6_ hB_ hb hbox hg; have hnb19 := NB102_101.out; have hnc19 := NB101_102.out; have hcz20_0 := cz BK102.out 0; have hcz20_1 := cz BK102.out 1; have hfz20_0 := blk_frozen BK102.out 0; have hfz20_1 := blk_frozen BK102.out 1) | ((with_reducible refine gate_callee (f := 50) rfl ?_); refine gL (some 15) Tryd.func50 #[.string a0, .string (⟨#[105, 110, 32]⟩ : ByteArray)] ?_; (with_reducible refine (strings_CutPrefix.calls a0 (⟨#[105, 110, 32]⟩ : ByteArray) t103 true _ A2.out).mono ?_); rintro e w' ⟨rfl, ⟨nd, rfl⟩⟩; refine ⟨_, rfl, ?_⟩) | ((with_reducible refine gate_callee (f := 20) rfl ?_); refine gL (some 21) Tryd.func20 #[.string t103] ?_; (with_reducible refine (impl_EnglishToYear.calls t103 t105 t106 _ ?side1 A4.out).mono ?_); (case side1 => first | exact GE.below HG.out (by repeat (first | (with_reducible first | exact HB.out | apply bA | apply bN | apply bD | refine below_set ?_ GE101.out | refine below_set ?_ GE102.out) | exact HB.out)) | (repeat (first | exact HG.out | (with_reducible first | apply GE.drewN | apply GE.drew | apply GE.alloc)))); rintro e w21 ⟨rfl, hb⟩; refine ⟨_, rfl, ?_⟩; have n0_ := Aside0.mk (blk_below (g := gb101) (o := .cells #[.int .i64 0, .int .i64 0] 28 (0, 0)) (by (with_reducible repeat (first | refine kN ?_ _ | refine kD ?_ | refine kA ?_ _)); refine blk_far ?_ NB101_102.out _; (with_reducible repeat (first | refine kN ?_ _ | refine kD ?_ | refine kA ?_ _)); refine blk_far ?_ NB101_102.out _; (with_reducible repeat (first | refine kN ?_ _ | refine kD ?_ | refine kA ?_ _)); exact BK101.out) hb); have n1_ := Aside0.mk (blk_below (g := gb102) (o := .cells #[.int .i64 0, .int .i64 0] 28 (0, 0)) (by (with_reducible repeat (first | refine kN ?_ _ | refine kD ?_ | refine kA ?_ _)); refine blk_put (cs := #[.int .i64 0, .int .i64 0]) ?_ 1 _ rfl; (with_reducible repeat (first | refine kN ?_ _ | refine kD ?_ | refine kA ?_ _)); refine blk_put (cs := #[.int .i64 0, .int .i64 0]) ?_ 0 _ rfl; (with_reducible repeat (first | refine kN ?_ _ | refine kD ?_ | refine kA ?_ _)); exact BK102.out) hb); have n2_ := Aside0.mk (below_step (by repeat (first | (with_reducible first | exact HB.out | apply bA | apply bN | apply bD | refine below_set ?_ GE101.out | refine below_set ?_ GE102.out) | exact HB.out)) hb); clear BK101 BK102 HB; have BK101 := n0_; have BK102 := n1_; have HB := n2_; clear n0_ n1_ n2_; (try clear hb); (try clear hb2); (try clear hk); (try clear hi); have hcz22_0 := cz BK102.out 0; have hcz22_1 := cz BK102.out 1; have hfz22_0 := blk_frozen BK102.out 0; have hfz22_1 := blk_frozen BK102.out 1) | ((with_reducible refine gate_callee (f := 13) rfl ?_); refine gL (some 49) Tryd.func13 #[.agg #[.int .i64 t105, .int .i64 t105]] ?_; (with_reducible refine (impl_IntervalToEnglish.calls t105 t105 t107 true _ ?side1 A5.out).mono ?_); (case side1 => first | exact GT.below HG.out.gt (by repeat (first | (with_reducible first | exact HB.out | apply bA | apply bN | apply bD | refine below_set ?_ GE101.out | refine below_set ?_ GE102.out) | exact HB.out)) | (repeat (first | exact HG.out.gt | (with_reducible first | apply GT.drewN | apply GT.drew | apply GT.alloc)))); rintro e w23 ⟨rfl, hb⟩; refine ⟨_, rfl, ?_⟩; have n0_ := Aside0.mk (blk_below (g := gb101) (o := .cells #[.int .i64 0, .int .i64 0] 28 (0, 0)) (by (with_reducible repeat (first | refine kN ?_ _ | refine kD ?_ | refine kA ?_ _)); refine blk_far ?_ NB101_102.out _; (with_reducible repeat (first | refine kN ?_ _ | refine kD ?_ | refine kA ?_ _)); refine blk_far ?_ NB101_102.out _; (with_reducible repeat (first | refine kN ?_ _ | refine kD ?_ | refine kA ?_ _)); exact BK101.out) hb); have n1_ := Aside0.mk (blk_below (g := gb102) (o := .cells #[.int .i64 t105, .int .i64 t105] 28 (0, 0)) (by (with_reducible repeat (first | refine kN ?_ _ | refine kD ?_ | refine kA ?_ _)); refine blk_put (cs := #[.int .i64 t105, .int .i64 0]) ?_ 1 _ rfl; (with_reducible repeat (first | refine kN ?_ _ | refine kD ?_ | refine kA ?_ _)); refine blk_put (cs := #[.int .i64 0, .int .i64 0]) ?_ 0 _ rfl; (with_reducible repeat (first | refine kN ?_ _ | refine kD ?_ | refine kA ?_ _)); exact BK102.out) hb); have n2_ := Aside0.mk (below_step (by repeat (first | (with_reducible first | exact HB.out | apply bA | apply bN | apply bD | refine below_set ?_ GE101.out | refine below_set ?_ GE102.out) | exact HB.out)) hb); clear BK101 BK102 HB; have BK101 := n0_; have BK102 := n1_; have HB := n2_; clear n0_ n1_ n2_; (try clear hb); (try clear hb2); (try clear hk); (try clear hi); have hcz24_0 := cz BK101.out 0; have hcz24_1 := cz BK101.out 1; have hfz24_0 := blk_frozen BK101.out 0; have hfz24_1 := blk_frozen BK101.out 1))
    (refine bodyPost_ret (results_ct rfl _ _ gb101 28 #[.int .i64 0, .int .i64 0] (0, 0) _ rfl (by (with_reducible repeat (first | refine kN ?_ _ | refine kD ?_ | refine kA ?_ _)); refine blk_put (cs := #[.int .i64 0, .int .i64 0]) ?_ 1 _ rfl; (with_reducible repeat (first | refine kN ?_ _ | refine kD ?_ | refine kA ?_ _)); refine blk_put (cs := #[.int .i64 0, .int .i64 0]) ?_ 0 _ rfl; (with_reducible repeat (first | refine kN ?_ _ | refine kD ?_ | refine kA ?_ _)); exact BK101.out) Tryd.underlying28 rfl (by kernel_rfl)) rfl ?_); (exact ⟨by first | rfl | (simp [errW_none, errW_some] <;> rfl) | (simp [*, errW_none, errW_some] <;> rfl), by repeat (first | (with_reducible first | exact HB.out | apply bA | apply bN | apply bD | refine below_set ?_ GE101.out | refine below_set ?_ GE102.out) | exact HB.out)⟩)
  ·replace c6 := Bool.eq_false_iff.mpr c6
   subst c6; (rw [if_neg (show ¬ (false = true) by decide)] at H); (simp only [Option.some.injEq, Prod.mk.injEq] at H); (obtain ⟨rfl, rfl, rfl⟩ := H); (go_enter Tryd.func27, Tryd.ntmps27)
   go_wp2_with (first | ((with_reducible refine gate_dst (N := 2) rfl ?_); refine box_event ?hg (N := 2) ?hd (cs := #[.int .i64 0, .int .i64 0]) (t := 28) ?hr ?_; (case hd => rfl); (case hg => rfl); (case hr => first | (go_simp; done) | (go_simp; rfl)); intro gb101 hg w25 hbox hb; have hB_ := bz (by repeat (first | (with_reducible first | exact HB.out | apply bA | apply bN | apply bD) | exact HB.out)) hb; have n0_ := Aside0.mk (below_step hB_ hb); have n1_ := Aside0.mk (hbox); have n2_ := Aside0.mk ((by rw [hg]; exact (below_size hB_) : w.heap.size ≤ gb101)); have n3_ := n2_; clear HB; have HB := n0_; have BK101 := n1_; have GW101 := n2_; have GE101 := n3_; clear n0_ n1_ n2_ n3_ hB_ hb hbox hg) | ((with_reducible refine gate_dst (N := 4) rfl ?_); refine box_event ?hg (N := 4) ?hd (cs := #[.int .i64 0, .int .i64 0]) (t := 28) ?hr ?_; (case hd => rfl); (case hg => rfl); (case hr => first | (go_simp; done) | (go_simp; rfl)); intro gb102 hg w26 hbox hb; have n0_ := Aside0.mk (blk_below (by (with_reducible repeat (first | refine kN ?_ _ | refine kD ?_ | refine kA ?_ _)); exact BK101.out) hb); have hB_ := bz (by repeat (first | (with_reducible first | exact HB.out | apply bA | apply bN | apply bD | refine below_set ?_ GE101.out) | exact HB.out)) hb; have n1_ := Aside0.mk (below_step hB_ hb); have n2_ := Aside0.mk (hbox); have n3_ := Aside0.mk ((by rw [hg]; exact (below_size hB_) : w.heap.size ≤ gb102)); have n4_ := n3_; have n5_ := Aside0.mk ((by rw [hg]; exact Nat.ne_of_lt (blk_lt (by (with_reducible repeat (first | refine kN ?_ _ | refine kD ?_ | refine kA ?_ _)); exact BK101.out)) : gb101 ≠ gb102)); have n6_ := Aside0.mk (Ne.symm n5_.out); clear BK101 HB; have BK101 := n0_; have HB := n1_; have BK102 := n2_; have GW102 := n3_; have GE102 := n4_; have NB101_102 := n5_; have NB102_101 := n6_; clear n0_ n1_ n2_ n3_ n4_ n5_ n6_ hB_ hb hbox hg; have hnb27 := NB102_101.out; have hnc27 := NB101_102.out; have hcz28_0 := cz BK102.out 0; have hcz28_1 := cz BK102.out 1; have hfz28_0 := blk_frozen BK102.out 0; have hfz28_1 := blk_frozen BK102.out 1) | ((with_reducible refine gate_callee (f := 50) rfl ?_); refine gL (some 15) Tryd.func50 #[.string a0, .string (⟨#[105, 110, 32]⟩ : ByteArray)] ?_; (with_reducible refine (strings_CutPrefix.calls a0 (⟨#[105, 110, 32]⟩ : ByteArray) t103 true _ A2.out).mono ?_); rintro e w' ⟨rfl, ⟨nd, rfl⟩⟩; refine ⟨_, rfl, ?_⟩) | ((with_reducible refine gate_callee (f := 20) rfl ?_); refine gL (some 21) Tryd.func20 #[.string t103] ?_; (with_reducible refine (impl_EnglishToYear.calls t103 t105 t106 _ ?side1 A4.out).mono ?_); (case side1 => first | exact GE.below HG.out (by repeat (first | (with_reducible first | exact HB.out | apply bA | apply bN | apply bD | refine below_set ?_ GE101.out | refine below_set ?_ GE102.out) | exact HB.out)) | (repeat (first | exact HG.out | (with_reducible first | apply GE.drewN | apply GE.drew | apply GE.alloc)))); rintro e w29 ⟨rfl, hb⟩; refine ⟨_, rfl, ?_⟩; have n0_ := Aside0.mk (blk_below (g := gb101) (o := .cells #[.int .i64 0, .int .i64 0] 28 (0, 0)) (by (with_reducible repeat (first | refine kN ?_ _ | refine kD ?_ | refine kA ?_ _)); refine blk_far ?_ NB101_102.out _; (with_reducible repeat (first | refine kN ?_ _ | refine kD ?_ | refine kA ?_ _)); refine blk_far ?_ NB101_102.out _; (with_reducible repeat (first | refine kN ?_ _ | refine kD ?_ | refine kA ?_ _)); exact BK101.out) hb); have n1_ := Aside0.mk (blk_below (g := gb102) (o := .cells #[.int .i64 0, .int .i64 0] 28 (0, 0)) (by (with_reducible repeat (first | refine kN ?_ _ | refine kD ?_ | refine kA ?_ _)); refine blk_put (cs := #[.int .i64 0, .int .i64 0]) ?_ 1 _ rfl; (with_reducible repeat (first | refine kN ?_ _ | refine kD ?_ | refine kA ?_ _)); refine blk_put (cs := #[.int .i64 0, .int .i64 0]) ?_ 0 _ rfl; (with_reducible repeat (first | refine kN ?_ _ | refine kD ?_ | refine kA ?_ _)); exact BK102.out) hb); have n2_ := Aside0.mk (below_step (by repeat (first | (with_reducible first | exact HB.out | apply bA | apply bN | apply bD | refine below_set ?_ GE101.out | refine below_set ?_ GE102.out) | exact HB.out)) hb); clear BK101 BK102 HB; have BK101 := n0_; have BK102 := n1_; have HB := n2_; clear n0_ n1_ n2_; (try clear hb); (try clear hb2); (try clear hk); (try clear hi); have hcz30_0 := cz BK102.out 0; have hcz30_1 := cz BK102.out 1; have hfz30_0 := blk_frozen BK102.out 0; have hfz30_1 := blk_frozen BK102.out 1) | ((with_reducible refine gate_callee (f := 13) rfl ?_); refine gL (some 49) Tryd.func13 #[.agg #[.int .i64 t105, .int .i64 t105]] ?_; (with_reducible refine (impl_IntervalToEnglish.calls t105 t105 t107 false _ ?side1 A5.out).mono ?_); (case side1 => first | exact GT.below HG.out.gt (by repeat (first | (with_reducible first | exact HB.out | apply bA | apply bN | apply bD | refine below_set ?_ GE101.out | refine below_set ?_ GE102.out) | exact HB.out)) | (repeat (first | exact HG.out.gt | (with_reducible first | apply GT.drewN | apply GT.drew | apply GT.alloc)))); rintro e w31 ⟨rfl, hb⟩; refine ⟨_, rfl, ?_⟩; have n0_ := Aside0.mk (blk_below (g := gb101) (o := .cells #[.int .i64 0, .int .i64 0] 28 (0, 0)) (by (with_reducible repeat (first | refine kN ?_ _ | refine kD ?_ | refine kA ?_ _)); refine blk_far ?_ NB101_102.out _; (with_reducible repeat (first | refine kN ?_ _ | refine kD ?_ | refine kA ?_ _)); refine blk_far ?_ NB101_102.out _; (with_reducible repeat (first | refine kN ?_ _ | refine kD ?_ | refine kA ?_ _)); exact BK101.out) hb); have n1_ := Aside0.mk (blk_below (g := gb102) (o := .cells #[.int .i64 t105, .int .i64 t105] 28 (0, 0)) (by (with_reducible repeat (first | refine kN ?_ _ | refine kD ?_ | refine kA ?_ _)); refine blk_put (cs := #[.int .i64 t105, .int .i64 0]) ?_ 1 _ rfl; (with_reducible repeat (first | refine kN ?_ _ | refine kD ?_ | refine kA ?_ _)); refine blk_put (cs := #[.int .i64 0, .int .i64 0]) ?_ 0 _ rfl; (with_reducible repeat (first | refine kN ?_ _ | refine kD ?_ | refine kA ?_ _)); exact BK102.out) hb); have n2_ := Aside0.mk (below_step (by repeat (first | (with_reducible first | exact HB.out | apply bA | apply bN | apply bD | refine below_set ?_ GE101.out | refine below_set ?_ GE102.out) | exact HB.out)) hb); clear BK101 BK102 HB; have BK101 := n0_; have BK102 := n1_; have HB := n2_; clear n0_ n1_ n2_; (try clear hb); (try clear hb2); (try clear hk); (try clear hi); have hcz32_0 := cz BK101.out 0; have hcz32_1 := cz BK101.out 1; have hfz32_0 := blk_frozen BK101.out 0; have hfz32_1 := blk_frozen BK101.out 1))
   (refine bodyPost_ret (results_ct rfl _ _ gb101 28 #[.int .i64 0, .int .i64 0] (0, 0) _ rfl (by (with_reducible repeat (first | refine kN ?_ _ | refine kD ?_ | refine kA ?_ _)); refine blk_put (cs := #[.int .i64 0, .int .i64 0]) ?_ 1 _ rfl; (with_reducible repeat (first | refine kN ?_ _ | refine kD ?_ | refine kA ?_ _)); refine blk_put (cs := #[.int .i64 0, .int .i64 0]) ?_ 0 _ rfl; (with_reducible repeat (first | refine kN ?_ _ | refine kD ?_ | refine kA ?_ _)); exact BK101.out) Tryd.underlying28 rfl (by kernel_rfl)) rfl ?_); (exact ⟨by first | rfl | (simp [errW_none, errW_some] <;> rfl) | (simp [*, errW_none, errW_some] <;> rfl), by repeat (first | (with_reducible first | exact HB.out | apply bA | apply bN | apply bD | refine below_set ?_ GE101.out | refine below_set ?_ GE102.out) | exact HB.out)⟩)
 ·replace c3 := Bool.eq_false_iff.mpr c3
  subst c3; (rw [if_neg (show ¬ (false = true) by decide)] at H); (replace H := Option.bind_eq_some_iff.mp H); (obtain ⟨t109, A330, H⟩ := H); (have A33 := Aside0.mk A330); clear A330; (replace H := Option.bind_eq_some_iff.mp H); (obtain ⟨⟨t110, t111, t112⟩, A340, H⟩ := H); (replace H : ((impl_EnglishToYear.f t110).bind fun bt113 => ((impl_EnglishToYear.f t111).bind fun bt115 => ((impl_IntervalToEnglish.f bt113.1 bt115.1).bind fun bt117 => (if bt117.2 = true then (if bt117.1.toList = a0.toList then (some (bt113.1, bt115.1, true)) else (some (0, 0, false))) else (some (0, 0, false)))))) = some (r1, r2, r3) := H); (have A34 := Aside0.mk A340); clear A340; (replace H := Option.bind_eq_some_iff.mp H); (obtain ⟨⟨t113, t114⟩, A350, H⟩ := H); (replace H : ((impl_EnglishToYear.f t111).bind fun bt115 => ((impl_IntervalToEnglish.f t113 bt115.1).bind fun bt117 => (if bt117.2 = true then (if bt117.1.toList = a0.toList then (some (t113, bt115.1, true)) else (some (0, 0, false))) else (some (0, 0, false))))) = some (r1, r2, r3) := H); (have A35 := Aside0.mk A350); clear A350; (replace H := Option.bind_eq_some_iff.mp H); (obtain ⟨⟨t115, t116⟩, A360, H⟩ := H); (replace H : ((impl_IntervalToEnglish.f t113 t115).bind fun bt117 => (if bt117.2 = true then (if bt117.1.toList = a0.toList then (some (t113, t115, true)) else (some (0, 0, false))) else (some (0, 0, false)))) = some (r1, r2, r3) := H); (have A36 := Aside0.mk A360); clear A360; (replace H := Option.bind_eq_some_iff.mp H); (obtain ⟨⟨t117, t118⟩, A370, H⟩ := H); (replace H : (if t118 = true then (if t117.toList = a0.toList then (some (t113, t115, true)) else (some (0, 0, false))) else (some (0, 0, false))) = some (r1, r2, r3) := H); (have A37 := Aside0.mk A370); clear A370; (by_cases c38 : t118 = true)
  ·subst c38
   (rw [if_pos rfl] at H); (by_cases c39 : t117.toList = a0.toList)
   ·rw [if_pos c39] at H
    (have c39b0 : (t117.toList == a0.toList) = true := beq_iff_eq.mpr c39); (have c39b1 : (t117.toList != a0.toList) = false := bne_eq_false_iff_eq.mpr c39); clear c39; (simp only [Option.some.injEq, Prod.mk.injEq] at H); (obtain ⟨rfl, rfl, rfl⟩ := H); (go_enter Tryd.func27, Tryd.ntmps27)
    go_wp2_with (first | ((with_reducible refine gate_dst (N := 2) rfl ?_); refine box_event ?hg (N := 2) ?hd (cs := #[.int .i64 0, .int .i64 0]) (t := 28) ?hr ?_; (case hd => rfl); (case hg => rfl); (case hr => first | (go_simp; done) | (go_simp; rfl)); intro gb101 hg w40 hbox hb; have hB_ := bz (by repeat (first | (with_reducible first | exact HB.out | apply bA | apply bN | apply bD) | exact HB.out)) hb; have n0_ := Aside0.mk (below_step hB_ hb); have n1_ := Aside0.mk (hbox); have n2_ := Aside0.mk ((by rw [hg]; exact (below_size hB_) : w.heap.size ≤ gb101)); have n3_ := n2_; clear HB; have HB := n0_; have BK101 := n1_; have GW101 := n2_; have GE101 := n3_; clear n0_ n1_ n2_ n3_ hB_ hb hbox hg) | ((with_reducible refine gate_dst (N := 4) rfl ?_); refine box_event ?hg (N := 4) ?hd (cs := #[.int .i64 0, .int .i64 0]) (t := 28) ?hr ?_; (case hd => rfl); (case hg => rfl); (case hr => first | (go_simp; done) | (go_simp; rfl)); intro gb102 hg w41 hbox hb; have n0_ := Aside0.mk (blk_below (by (with_reducible repeat (first | refine kN ?_ _ | refine kD ?_ | refine kA ?_ _)); exact BK101.out) hb); have hB_ := bz (by repeat (first | (with_reducible first | exact HB.out | apply bA | apply bN | apply bD | refine below_set ?_ GE101.out) | exact HB.out)) hb; have n1_ := Aside0.mk (below_step hB_ hb); have n2_ := Aside0.mk (hbox); have n3_ := Aside0.mk ((by rw [hg]; exact (below_size hB_) : w.heap.size ≤ gb102)); have n4_ := n3_; have n5_ := Aside0.mk ((by rw [hg]; exact Nat.ne_of_lt (blk_lt (by (with_reducible repeat (first | refine kN ?_ _ | refine kD ?_ | refine kA ?_ _)); exact BK101.out)) : gb101 ≠ gb102)); have n6_ := Aside0.mk (Ne.symm n5_.out); clear BK101 HB; have BK101 := n0_; have HB := n1_; have BK102 := n2_; have GW102 := n3_; have GE102 := n4_; have NB101_102 := n5_; have NB102_101 := n6_; clear n0_ n1_ n2_ n3_ n4_ n5_ n6_ hB_ hb hbox hg; have hnb42 := NB102_101.out; have hnc42 := NB101_102.out; have hcz43_0 := cz BK102.out 0; have hcz43_1 := cz BK102.out 1; have hfz43_0 := blk_frozen BK102.out 0; have hfz43_1 := blk_frozen BK102.out 1) | ((with_reducible refine gate_callee (f := 50) rfl ?_); refine gL (some 15) Tryd.func50 #[.string a0, .string (⟨#[105, 110, 32]⟩ : ByteArray)] ?_; (with_reducible refine (strings_CutPrefix.calls a0 (⟨#[105, 110, 32]⟩ : ByteArray) t103 false _ A2.out).mono ?_); rintro e w' ⟨rfl, ⟨nd, rfl⟩⟩; refine ⟨_, rfl, ?_⟩) | ((with_reducible refine gate_callee (f := 61) rfl ?_); refine gL (some 30) Tryd.func61 #[.string a0, .string (⟨#[98, 101, 116, 119, 101, 101, 110, 32]⟩ : ByteArray)] ?_; (with_reducible refine (strings_TrimPrefix.calls a0 (⟨#[98, 101, 116, 119, 101, 101, 110, 32]⟩ : ByteArray) t109 _ A33.out).mono ?_); rintro e w' ⟨rfl, ⟨nd, rfl⟩⟩; refine ⟨_, rfl, ?_⟩) | ((with_reducible refine gate_callee (f := 60) rfl ?_); refine gL (some 31) Tryd.func60 #[.string t109, .string (⟨#[32, 97, 110, 100, 32]⟩ : ByteArray)] ?_; (with_reducible refine (strings_Cut.calls t109 (⟨#[32, 97, 110, 100, 32]⟩ : ByteArray) t110 t111 t112 _ ?side1 A34.out).mono ?_); (case side1 => first | exact GE.below HG.out (by repeat (first | (with_reducible first | exact HB.out | apply bA | apply bN | apply bD | refine below_set ?_ GE101.out | refine below_set ?_ GE102.out) | exact HB.out)) | (repeat (first | exact HG.out | (with_reducible first | apply GE.drewN | apply GE.drew | apply GE.alloc)))); rintro e w44 ⟨rfl, hb⟩; refine ⟨_, rfl, ?_⟩; have n0_ := Aside0.mk (blk_below (g := gb101) (o := .cells #[.int .i64 0, .int .i64 0] 28 (0, 0)) (by (with_reducible repeat (first | refine kN ?_ _ | refine kD ?_ | refine kA ?_ _)); refine blk_far ?_ NB101_102.out _; (with_reducible repeat (first | refine kN ?_ _ | refine kD ?_ | refine kA ?_ _)); refine blk_far ?_ NB101_102.out _; (with_reducible repeat (first | refine kN ?_ _ | refine kD ?_ | refine kA ?_ _)); exact BK101.out) hb); have n1_ := Aside0.mk (blk_below (g := gb102) (o := .cells #[.int .i64 0, .int .i64 0] 28 (0, 0)) (by (with_reducible repeat (first | refine kN ?_ _ | refine kD ?_ | refine kA ?_ _)); refine blk_put (cs := #[.int .i64 0, .int .i64 0]) ?_ 1 _ rfl; (with_reducible repeat (first | refine kN ?_ _ | refine kD ?_ | refine kA ?_ _)); refine blk_put (cs := #[.int .i64 0, .int .i64 0]) ?_ 0 _ rfl; (with_reducible repeat (first | refine kN ?_ _ | refine kD ?_ | refine kA ?_ _)); exact BK102.out) hb); have n2_ := Aside0.mk (below_step (by repeat (first | (with_reducible first | exact HB.out | apply bA | apply bN | apply bD | refine below_set ?_ GE101.out | refine below_set ?_ GE102.out) | exact HB.out)) hb); clear BK101 BK102 HB; have BK101 := n0_; have BK102 := n1_; have HB := n2_; clear n0_ n1_ n2_; (try clear hb); (try clear hb2); (try clear hk); (try clear hi)) | ((with_reducible refine gate_callee (f := 20) rfl ?_); refine gL (some 37) Tryd.func20 #[.string t110] ?_; (with_reducible refine (impl_EnglishToYear.calls t110 t113 t114 _ ?side1 A35.out).mono ?_); (case side1 => first | exact GE.below HG.out (by repeat (first | (with_reducible first | exact HB.out | apply bA | apply bN | apply bD | refine below_set ?_ GE101.out | refine below_set ?_ GE102.out) | exact HB.out)) | (repeat (first | exact HG.out | (with_reducible first | apply GE.drewN | apply GE.drew | apply GE.alloc)))); rintro e w45 ⟨rfl, hb⟩; refine ⟨_, rfl, ?_⟩; have n0_ := Aside0.mk (blk_below (by (with_reducible repeat (first | refine kN ?_ _ | refine kD ?_ | refine kA ?_ _)); exact BK101.out) hb); have n1_ := Aside0.mk (blk_below (by (with_reducible repeat (first | refine kN ?_ _ | refine kD ?_ | refine kA ?_ _)); exact BK102.out) hb); have n2_ := Aside0.mk (below_step (by repeat (first | (with_reducible first | exact HB.out | apply bA | apply bN | apply bD | refine below_set ?_ GE101.out | refine below_set ?_ GE102.out) | exact HB.out)) hb); clear BK101 BK102 HB; have BK101 := n0_; have BK102 := n1_; have HB := n2_; clear n0_ n1_ n2_; (try clear hb); (try clear hb2); (try clear hk); (try clear hi); have hcz46_0 := cz BK102.out 0; have hcz46_1 := cz BK102.out 1; have hfz46_0 := blk_frozen BK102.out 0; have hfz46_1 := blk_frozen BK102.out 1) | ((with_reducible refine gate_callee (f := 20) rfl ?_); refine gL (some 43) Tryd.func20 #[.string t111] ?_; (with_reducible refine (impl_EnglishToYear.calls t111 t115 t116 _ ?side1 A36.out).mono ?_); (case side1 => first | exact GE.below HG.out (by repeat (first | (with_reducible first | exact HB.out | apply bA | apply bN | apply bD | refine below_set ?_ GE101.out | refine below_set ?_ GE102.out) | exact HB.out)) | (repeat (first | exact HG.out | (with_reducible first | apply GE.drewN | apply GE.drew | apply GE.alloc)))); rintro e w47 ⟨rfl, hb⟩; refine ⟨_, rfl, ?_⟩; have n0_ := Aside0.mk (blk_below (g := gb101) (o := .cells #[.int .i64 0, .int .i64 0] 28 (0, 0)) (by (with_reducible repeat (first | refine kN ?_ _ | refine kD ?_ | refine kA ?_ _)); refine blk_far ?_ NB101_102.out _; (with_reducible repeat (first | refine kN ?_ _ | refine kD ?_ | refine kA ?_ _)); exact BK101.out) hb); have n1_ := Aside0.mk (blk_below (g := gb102) (o := .cells #[.int .i64 t113, .int .i64 0] 28 (0, 0)) (by (with_reducible repeat (first | refine kN ?_ _ | refine kD ?_ | refine kA ?_ _)); refine blk_put (cs := #[.int .i64 0, .int .i64 0]) ?_ 0 _ rfl; (with_reducible repeat (first | refine kN ?_ _ | refine kD ?_ | refine kA ?_ _)); exact BK102.out) hb); have n2_ := Aside0.mk (below_step (by repeat (first | (with_reducible first | exact HB.out | apply bA | apply bN | apply bD | refine below_set ?_ GE101.out | refine below_set ?_ GE102.out) | exact HB.out)) hb); clear BK101 BK102 HB; have BK101 := n0_; have BK102 := n1_; have HB := n2_; clear n0_ n1_ n2_; (try clear hb); (try clear hb2); (try clear hk); (try clear hi); have hcz48_0 := cz BK102.out 0; have hcz48_1 := cz BK102.out 1; have hfz48_0 := blk_frozen BK102.out 0; have hfz48_1 := blk_frozen BK102.out 1) | ((with_reducible refine gate_callee (f := 13) rfl ?_); refine gL (some 49) Tryd.func13 #[.agg #[.int .i64 t113, .int .i64 t115]] ?_; (with_reducible refine (impl_IntervalToEnglish.calls t113 t115 t117 true _ ?side1 A37.out).mono ?_); (case side1 => first | exact GT.below HG.out.gt (by repeat (first | (with_reducible first | exact HB.out | apply bA | apply bN | apply bD | refine below_set ?_ GE101.out | refine below_set ?_ GE102.out) | exact HB.out)) | (repeat (first | exact HG.out.gt | (with_reducible first | apply GT.drewN | apply GT.drew | apply GT.alloc)))); rintro e w49 ⟨rfl, hb⟩; refine ⟨_, rfl, ?_⟩; have n0_ := Aside0.mk (blk_below (g := gb101) (o := .cells #[.int .i64 0, .int .i64 0] 28 (0, 0)) (by (with_reducible repeat (first | refine kN ?_ _ | refine kD ?_ | refine kA ?_ _)); refine blk_far ?_ NB101_102.out _; (with_reducible repeat (first | refine kN ?_ _ | refine kD ?_ | refine kA ?_ _)); exact BK101.out) hb); have n1_ := Aside0.mk (blk_below (g := gb102) (o := .cells #[.int .i64 t113, .int .i64 t115] 28 (0, 0)) (by (with_reducible repeat (first | refine kN ?_ _ | refine kD ?_ | refine kA ?_ _)); refine blk_put (cs := #[.int .i64 t113, .int .i64 0]) ?_ 1 _ rfl; (with_reducible repeat (first | refine kN ?_ _ | refine kD ?_ | refine kA ?_ _)); exact BK102.out) hb); have n2_ := Aside0.mk (below_step (by repeat (first | (with_reducible first | exact HB.out | apply bA | apply bN | apply bD | refine below_set ?_ GE101.out | refine below_set ?_ GE102.out) | exact HB.out)) hb); clear BK101 BK102 HB; have BK101 := n0_; have BK102 := n1_; have HB := n2_; clear n0_ n1_ n2_; (try clear hb); (try clear hb2); (try clear hk); (try clear hi); have hcz50_0 := cz BK102.out 0; have hcz50_1 := cz BK102.out 1; have hfz50_0 := blk_frozen BK102.out 0; have hfz50_1 := blk_frozen BK102.out 1; have hcz51_0 := cz BK101.out 0; have hcz51_1 := cz BK101.out 1; have hfz51_0 := blk_frozen BK101.out 0; have hfz51_1 := blk_frozen BK101.out 1))
    (refine bodyPost_ret (results_ct rfl _ _ gb101 28 #[.int .i64 t113, .int .i64 t115] (0, 0) _ rfl (by (with_reducible repeat (first | refine kN ?_ _ | refine kD ?_ | refine kA ?_ _)); refine blk_put (cs := #[.int .i64 t113, .int .i64 0]) ?_ 1 _ rfl; (with_reducible repeat (first | refine kN ?_ _ | refine kD ?_ | refine kA ?_ _)); refine blk_put (cs := #[.int .i64 0, .int .i64 0]) ?_ 0 _ rfl; (with_reducible repeat (first | refine kN ?_ _ | refine kD ?_ | refine kA ?_ _)); exact BK101.out) Tryd.underlying28 rfl (by kernel_rfl)) rfl ?_); (exact ⟨by first | rfl | (simp [errW_none, errW_some] <;> rfl) | (simp [*, errW_none, errW_some] <;> rfl), by repeat (first | (with_reducible first | exact HB.out | apply bA | apply bN | apply bD | refine below_set ?_ GE101.out | refine below_set ?_ GE102.out) | exact HB.out)⟩)
   ·rw [if_neg c39] at H
    (have c39b0 : (t117.toList == a0.toList) = false := beq_eq_false_iff_ne.mpr c39); (have c39b1 : (t117.toList != a0.toList) = true := bne_iff_ne.mpr c39); (simp only [Option.some.injEq, Prod.mk.injEq] at H); (obtain ⟨rfl, rfl, rfl⟩ := H); (go_enter Tryd.func27, Tryd.ntmps27)
    go_wp2_with (first | ((with_reducible refine gate_dst (N := 2) rfl ?_); refine box_event ?hg (N := 2) ?hd (cs := #[.int .i64 0, .int .i64 0]) (t := 28) ?hr ?_; (case hd => rfl); (case hg => rfl); (case hr => first | (go_simp; done) | (go_simp; rfl)); intro gb101 hg w52 hbox hb; have hB_ := bz (by repeat (first | (with_reducible first | exact HB.out | apply bA | apply bN | apply bD) | exact HB.out)) hb; have n0_ := Aside0.mk (below_step hB_ hb); have n1_ := Aside0.mk (hbox); have n2_ := Aside0.mk ((by rw [hg]; exact (below_size hB_) : w.heap.size ≤ gb101)); have n3_ := n2_; clear HB; have HB := n0_; have BK101 := n1_; have GW101 := n2_; have GE101 := n3_; clear n0_ n1_ n2_ n3_ hB_ hb hbox hg) | ((with_reducible refine gate_dst (N := 4) rfl ?_); refine box_event ?hg (N := 4) ?hd (cs := #[.int .i64 0, .int .i64 0]) (t := 28) ?hr ?_; (case hd => rfl); (case hg => rfl); (case hr => first | (go_simp; done) | (go_simp; rfl)); intro gb102 hg w53 hbox hb; have n0_ := Aside0.mk (kbI hb BK101); have hB_ := bz (by repeat (first | (with_reducible first | exact HB.out | apply bA | apply bN | apply bD | refine below_set ?_ GE101.out) | exact HB.out)) hb; have n1_ := Aside0.mk (below_step hB_ hb); have n2_ := Aside0.mk (hbox); have n3_ := Aside0.mk ((by rw [hg]; exact (below_size hB_) : w.heap.size ≤ gb102)); have n4_ := n3_; have n5_ := Aside0.mk ((by rw [hg]; exact Nat.ne_of_lt (blk_lt (by (with_reducible repeat (first | refine kN ?_ _ | refine kD ?_ | refine kA ?_ _)); exact BK101.out)) : gb101 ≠ gb102)); have n6_ := Aside0.mk (Ne.symm n5_.out); clear BK101 HB; have BK101 := n0_; have HB := n1_; have BK102 := n2_; have GW102 := n3_; have GE102 := n4_; have NB101_102 := n5_; have NB102_101 := n6_; clear n0_ n1_ n2_ n3_ n4_ n5_ n6_ hB_ hb hbox hg; have hnb54 := NB102_101.out; have hnc54 := NB101_102.out; have hcz55_0 := cz BK102.out 0; have hcz55_1 := cz BK102.out 1; have hfz55_0 := blk_frozen BK102.out 0; have hfz55_1 := blk_frozen BK102.out 1) | ((with_reducible refine gate_callee (f := 50) rfl ?_); refine gL (some 15) Tryd.func50 #[.string a0, .string (⟨#[105, 110, 32]⟩ : ByteArray)] ?_; (with_reducible refine (strings_CutPrefix.calls a0 (⟨#[105, 110, 32]⟩ : ByteArray) t103 false _ A2.out).mono ?_); rintro e w' ⟨rfl, ⟨nd, rfl⟩⟩; refine ⟨_, rfl, ?_⟩) | ((with_reducible refine gate_callee (f := 61) rfl ?_); refine gL (some 30) Tryd.func61 #[.string a0, .string (⟨#[98, 101, 116, 119, 101, 101, 110, 32]⟩ : ByteArray)] ?_; (with_reducible refine (strings_TrimPrefix.calls a0 (⟨#[98, 101, 116, 119, 101, 101, 110, 32]⟩ : ByteArray) t109 _ A33.out).mono ?_); rintro e w' ⟨rfl, ⟨nd, rfl⟩⟩; refine ⟨_, rfl, ?_⟩) | ((with_reducible refine gate_callee (f := 60) rfl ?_); refine gL (some 31) Tryd.func60 #[.string t109, .string (⟨#[32, 97, 110, 100, 32]⟩ : ByteArray)] ?_; (with_reducible refine (strings_Cut.calls t109 (⟨#[32, 97, 110, 100, 32]⟩ : ByteArray) t110 t111 t112 _ ?side1 A34.out).mono ?_); (case side1 => first | exact GE.below HG.out (by repeat (first | (with_reducible first | exact HB.out | apply bA | apply bN | apply bD | refine below_set ?_ GE101.out | refine below_set ?_ GE102.out) | exact HB.out)) | (repeat (first | exact HG.out | (with_reducible first | apply GE.drewN | apply GE.drew | apply GE.alloc)))); rintro e w56 ⟨rfl, hb⟩; refine ⟨_, rfl, ?_⟩; have n0_ := Aside0.mk (blk_below (g := gb101) (o := .cells #[.int .i64 0, .int .i64 0] 28 (0, 0)) (by (with_reducible repeat (first | refine kN ?_ _ | refine kD ?_ | refine kA ?_ _)); refine blk_far ?_ NB101_102.out _; (with_reducible repeat (first | refine kN ?_ _ | refine kD ?_ | refine kA ?_ _)); refine blk_far ?_ NB101_102.out _; (with_reducible repeat (first | refine kN ?_ _ | refine kD ?_ | refine kA ?_ _)); exact BK101.out) hb); have n1_ := Aside0.mk (blk_below (g := gb102) (o := .cells #[.int .i64 0, .int .i64 0] 28 (0, 0)) (by (with_reducible repeat (first | refine kN ?_ _ | refine kD ?_ | refine kA ?_ _)); refine blk_put (cs := #[.int .i64 0, .int .i64 0]) ?_ 1 _ rfl; (with_reducible repeat (first | refine kN ?_ _ | refine kD ?_ | refine kA ?_ _)); refine blk_put (cs := #[.int .i64 0, .int .i64 0]) ?_ 0 _ rfl; (with_reducible repeat (first | refine kN ?_ _ | refine kD ?_ | refine kA ?_ _)); exact BK102.out) hb); have n2_ := Aside0.mk (below_step (by repeat (first | (with_reducible first | exact HB.out | apply bA | apply bN | apply bD | refine below_set ?_ GE101.out | refine below_set ?_ GE102.out) | exact HB.out)) hb); clear BK101 BK102 HB; have BK101 := n0_; have BK102 := n1_; have HB := n2_; clear n0_ n1_ n2_; (try clear hb); (try clear hb2); (try clear hk); (try clear hi)) | ((with_reducible refine gate_callee (f := 20) rfl ?_); refine gL (some 37) Tryd.func20 #[.string t110] ?_; (with_reducible refine (impl_EnglishToYear.calls t110 t113 t114 _ ?side1 A35.out).mono ?_); (case side1 => first | exact GE.below HG.out (by repeat (first | (with_reducible first | exact HB.out | apply bA | apply bN | apply bD | refine below_set ?_ GE101.out | refine below_set ?_ GE102.out) | exact HB.out)) | (repeat (first | exact HG.out | (with_reducible first | apply GE.drewN | apply GE.drew | apply GE.alloc)))); rintro e w57 ⟨rfl, hb⟩; refine ⟨_, rfl, ?_⟩; have n0_ := Aside0.mk (kbI hb BK101); have n1_ := Aside0.mk (kbI hb BK102); have n2_ := Aside0.mk (below_step (by repeat (first | (with_reducible first | exact HB.out | apply bA | apply bN | apply bD | refine below_set ?_ GE101.out | refine below_set ?_ GE102.out) | exact HB.out)) hb); clear BK101 BK102 HB; have BK101 := n0_; have BK102 := n1_; have HB := n2_; clear n0_ n1_ n2_; (try clear hb); (try clear hb2); (try clear hk); (try clear hi); have hcz58_0 := cz BK102.out 0; have hcz58_1 := cz BK102.out 1; have hfz58_0 := blk_frozen BK102.out 0; have hfz58_1 := blk_frozen BK102.out 1) | ((with_reducible refine gate_callee (f := 20) rfl ?_); refine gL (some 43) Tryd.func20 #[.string t111] ?_; (with_reducible refine (impl_EnglishToYear.calls t111 t115 t116 _ ?side1 A36.out).mono ?_); (case side1 => first | exact GE.below HG.out (by repeat (first | (with_reducible first | exact HB.out | apply bA | apply bN | apply bD | refine below_set ?_ GE101.out | refine below_set ?_ GE102.out) | exact HB.out)) | (repeat (first | exact HG.out | (with_reducible first | apply GE.drewN | apply GE.drew | apply GE.alloc)))); rintro e w59 ⟨rfl, hb⟩; refine ⟨_, rfl, ?_⟩; have n0_ := Aside0.mk (blk_below (g := gb101) (o := .cells #[.int .i64 0, .int .i64 0] 28 (0, 0)) (by (with_reducible repeat (first | refine kN ?_ _ | refine kD ?_ | refine kA ?_ _)); refine blk_far ?_ NB101_102.out _; (with_reducible repeat (first | refine kN ?_ _ | refine kD ?_ | refine kA ?_ _)); exact BK101.out) hb); have n1_ := Aside0.mk (blk_below (g := gb102) (o := .cells #[.int .i64 t113, .int .i64 0] 28 (0, 0)) (by (with_reducible repeat (first | refine kN ?_ _ | refine kD ?_ | refine kA ?_ _)); refine blk_put (cs := #[.int .i64 0, .int .i64 0]) ?_ 0 _ rfl; (with_reducible repeat (first | refine kN ?_ _ | refine kD ?_ | refine kA ?_ _)); exact BK102.out) hb); have n2_ := Aside0.mk (below_step (by repeat (first | (with_reducible first | exact HB.out | apply bA | apply bN | apply bD | refine below_set ?_ GE101.out | refine below_set ?_ GE102.out) | exact HB.out)) hb); clear BK101 BK102 HB; have BK101 := n0_; have BK102 := n1_; have HB := n2_; clear n0_ n1_ n2_; (try clear hb); (try clear hb2); (try clear hk); (try clear hi); have hcz60_0 := cz BK102.out 0; have hcz60_1 := cz BK102.out 1; have hfz60_0 := blk_frozen BK102.out 0; have hfz60_1 := blk_frozen BK102.out 1) | ((with_reducible refine gate_callee (f := 13) rfl ?_); refine gL (some 49) Tryd.func13 #[.agg #[.int .i64 t113, .int .i64 t115]] ?_; (with_reducible refine (impl_IntervalToEnglish.calls t113 t115 t117 true _ ?side1 A37.out).mono ?_); (case side1 => first | exact GT.below HG.out.gt (by repeat (first | (with_reducible first | exact HB.out | apply bA | apply bN | apply bD | refine below_set ?_ GE101.out | refine below_set ?_ GE102.out) | exact HB.out)) | (repeat (first | exact HG.out.gt | (with_reducible first | apply GT.drewN | apply GT.drew | apply GT.alloc)))); rintro e w61 ⟨rfl, hb⟩; refine ⟨_, rfl, ?_⟩; have n0_ := Aside0.mk (blk_below (g := gb101) (o := .cells #[.int .i64 0, .int .i64 0] 28 (0, 0)) (by (with_reducible repeat (first | refine kN ?_ _ | refine kD ?_ | refine kA ?_ _)); refine blk_far ?_ NB101_102.out _; (with_reducible repeat (first | refine kN ?_ _ | refine kD ?_ | refine kA ?_ _)); exact BK101.out) hb); have n1_ := Aside0.mk (blk_below (g := gb102) (o := .cells #[.int .i64 t113, .int .i64 t115] 28 (0, 0)) (by (with_reducible repeat (first | refine kN ?_ _ | refine kD ?_ | refine kA ?_ _)); refine blk_put (cs := #[.int .i64 t113, .int .i64 0]) ?_ 1 _ rfl; (with_reducible repeat (first | refine kN ?_ _ | refine kD ?_ | refine kA ?_ _)); exact BK102.out) hb); have n2_ := Aside0.mk (below_step (by repeat (first | (with_reducible first | exact HB.out | apply bA | apply bN | apply bD | refine below_set ?_ GE101.out | refine below_set ?_ GE102.out) | exact HB.out)) hb); clear BK101 BK102 HB; have BK101 := n0_; have BK102 := n1_; have HB := n2_; clear n0_ n1_ n2_; (try clear hb); (try clear hb2); (try clear hk); (try clear hi); have hcz62_0 := cz BK101.out 0; have hcz62_1 := cz BK101.out 1; have hfz62_0 := blk_frozen BK101.out 0; have hfz62_1 := blk_frozen BK101.out 1))
    (refine bodyPost_ret (results_ct rfl _ _ gb101 28 #[.int .i64 0, .int .i64 0] (0, 0) _ rfl (by (with_reducible repeat (first | refine kN ?_ _ | refine kD ?_ | refine kA ?_ _)); refine blk_put (cs := #[.int .i64 0, .int .i64 0]) ?_ 1 _ rfl; (with_reducible repeat (first | refine kN ?_ _ | refine kD ?_ | refine kA ?_ _)); refine blk_put (cs := #[.int .i64 0, .int .i64 0]) ?_ 0 _ rfl; (with_reducible repeat (first | refine kN ?_ _ | refine kD ?_ | refine kA ?_ _)); exact BK101.out) Tryd.underlying28 rfl (by kernel_rfl)) rfl ?_); (exact ⟨by first | rfl | (simp [errW_none, errW_some] <;> rfl) | (simp [*, errW_none, errW_some] <;> rfl), by repeat (first | (with_reducible first | exact HB.out | apply bA | apply bN | apply bD | refine below_set ?_ GE101.out | refine below_set ?_ GE102.out) | exact HB.out)⟩)
  ·replace c38 := Bool.eq_false_iff.mpr c38
   subst c38; (rw [if_neg (show ¬ (false = true) by decide)] at H); (simp only [Option.some.injEq, Prod.mk.injEq] at H); (obtain ⟨rfl, rfl, rfl⟩ := H); (go_enter Tryd.func27, Tryd.ntmps27)
   go_wp2_with (first | ((with_reducible refine gate_dst (N := 2) rfl ?_); refine box_event ?hg (N := 2) ?hd (cs := #[.int .i64 0, .int .i64 0]) (t := 28) ?hr ?_; (case hd => rfl); (case hg => rfl); (case hr => first | (go_simp; done) | (go_simp; rfl)); intro gb101 hg w63 hbox hb; have hB_ := bz (by repeat (first | (with_reducible first | exact HB.out | apply bA | apply bN | apply bD) | exact HB.out)) hb; have n0_ := Aside0.mk (below_step hB_ hb); have n1_ := Aside0.mk (hbox); have n2_ := Aside0.mk ((by rw [hg]; exact (below_size hB_) : w.heap.size ≤ gb101)); have n3_ := n2_; clear HB; have HB := n0_; have BK101 := n1_; have GW101 := n2_; have GE101 := n3_; clear n0_ n1_ n2_ n3_ hB_ hb hbox hg) | ((with_reducible refine gate_dst (N := 4) rfl ?_); refine box_event ?hg (N := 4) ?hd (cs := #[.int .i64 0, .int .i64 0]) (t := 28) ?hr ?_; (case hd => rfl); (case hg => rfl); (case hr => first | (go_simp; done) | (go_simp; rfl)); intro gb102 hg w64 hbox hb; have n0_ := Aside0.mk (blk_below (by (with_reducible repeat (first | refine kN ?_ _ | refine kD ?_ | refine kA ?_ _)); exact BK101.out) hb); have hB_ := bz (by repeat (first | (with_reducible first | exact HB.out | apply bA | apply bN | apply bD | refine below_set ?_ GE101.out) | exact HB.out)) hb; have n1_ := Aside0.mk (below_step hB_ hb); have n2_ := Aside0.mk (hbox); have n3_ := Aside0.mk ((by rw [hg]; exact (below_size hB_) : w.heap.size ≤ gb102)); have n4_ := n3_; have n5_ := Aside0.mk ((by rw [hg]; exact Nat.ne_of_lt (blk_lt (by (with_reducible repeat (first | refine kN ?_ _ | refine kD ?_ | refine kA ?_ _)); exact BK101.out)) : gb101 ≠ gb102)); have n6_ := Aside0.mk (Ne.symm n5_.out); clear BK101 HB; have BK101 := n0_; have HB := n1_; have BK102 := n2_; have GW102 := n3_; have GE102 := n4_; have NB101_102 := n5_; have NB102_101 := n6_; clear n0_ n1_ n2_ n3_ n4_ n5_ n6_ hB_ hb hbox hg; have hnb65 := NB102_101.out; have hnc65 := NB101_102.out; have hcz66_0 := cz BK102.out 0; have hcz66_1 := cz BK102.out 1; have hfz66_0 := blk_frozen BK102.out 0; have hfz66_1 := blk_frozen BK102.out 1) | ((with_reducible refine gate_callee (f := 50) rfl ?_); refine gL (some 15) Tryd.func50 #[.string a0, .string (⟨#[105, 110, 32]⟩ : ByteArray)] ?_; (with_reducible refine (strings_CutPrefix.calls a0 (⟨#[105, 110, 32]⟩ : ByteArray) t103 false _ A2.out).mono ?_); rintro e w' ⟨rfl, ⟨nd, rfl⟩⟩; refine ⟨_, rfl, ?_⟩) | ((with_reducible refine gate_callee (f := 61) rfl ?_); refine gL (some 30) Tryd.func61 #[.string a0, .string (⟨#[98, 101, 116, 119, 101, 101, 110, 32]⟩ : ByteArray)] ?_; (with_reducible refine (strings_TrimPrefix.calls a0 (⟨#[98, 101, 116, 119, 101, 101, 110, 32]⟩ : ByteArray) t109 _ A33.out).mono ?_); rintro e w' ⟨rfl, ⟨nd, rfl⟩⟩; refine ⟨_, rfl, ?_⟩) | ((with_reducible refine gate_callee (f := 60) rfl ?_); refine gL (some 31) Tryd.func60 #[.string t109, .string (⟨#[32, 97, 110, 100, 32]⟩ : ByteArray)] ?_; (with_reducible refine (strings_Cut.calls t109 (⟨#[32, 97, 110, 100, 32]⟩ : ByteArray) t110 t111 t112 _ ?side1 A34.out).mono ?_); (case side1 => first | exact GE.below HG.out (by repeat (first | (with_reducible first | exact HB.out | apply bA | apply bN | apply bD | refine below_set ?_ GE101.out | refine below_set ?_ GE102.out) | exact HB.out)) | (repeat (first | exact HG.out | (with_reducible first | apply GE.drewN | apply GE.drew | apply GE.alloc)))); rintro e w67 ⟨rfl, hb⟩; refine ⟨_, rfl, ?_⟩; have n0_ := Aside0.mk (blk_below (g := gb101) (o := .cells #[.int .i64 0, .int .i64 0] 28 (0, 0)) (by (with_reducible repeat (first | refine kN ?_ _ | refine kD ?_ | refine kA ?_ _)); refine blk_far ?_ NB101_102.out _; (with_reducible repeat (first | refine kN ?_ _ | refine kD ?_ | refine kA ?_ _)); refine blk_far ?_ NB101_102.out _; (with_reducible repeat (first | refine kN ?_ _ | refine kD ?_ | refine kA ?_ _)); exact BK101.out) hb); have n1_ := Aside0.mk (blk_below (g := gb102) (o := .cells #[.int .i64 0, .int .i64 0] 28 (0, 0)) (by (with_reducible repeat (first | refine kN ?_ _ | refine kD ?_ | refine kA ?_ _)); refine blk_put (cs := #[.int .i64 0, .int .i64 0]) ?_ 1 _ rfl; (with_reducible repeat (first | refine kN ?_ _ | refine kD ?_ | refine kA ?_ _)); refine blk_put (cs := #[.int .i64 0, .int .i64 0]) ?_ 0 _ rfl; (with_reducible repeat (first | refine kN ?_ _ | refine kD ?_ | refine kA ?_ _)); exact BK102.out) hb); have n2_ := Aside0.mk (below_step (by repeat (first | (with_reducible first | exact HB.out | apply bA | apply bN | apply bD | refine below_set ?_ GE101.out | refine below_set ?_ GE102.out) | exact HB.out)) hb); clear BK101 BK102 HB; have BK101 := n0_; have BK102 := n1_; have HB := n2_; clear n0_ n1_ n2_; (try clear hb); (try clear hb2); (try clear hk); (try clear hi)) | ((with_reducible refine gate_callee (f := 20) rfl ?_); refine gL (some 37) Tryd.func20 #[.string t110] ?_; (with_reducible refine (impl_EnglishToYear.calls t110 t113 t114 _ ?side1 A35.out).mono ?_); (case side1 => first | exact GE.below HG.out (by repeat (first | (with_reducible first | exact HB.out | apply bA | apply bN | apply bD | refine below_set ?_ GE101.out | refine below_set ?_ GE102.out) | exact HB.out)) | (repeat (first | exact HG.out | (with_reducible first | apply GE.drewN | apply GE.drew | apply GE.alloc)))); rintro e w68 ⟨rfl, hb⟩; refine ⟨_, rfl, ?_⟩; have n0_ := Aside0.mk (blk_below (by (with_reducible repeat (first | refine kN ?_ _ | refine kD ?_ | refine kA ?_ _)); exact BK101.out) hb); have n1_ := Aside0.mk (blk_below (by (with_reducible repeat (first | refine kN ?_ _ | refine kD ?_ | refine kA ?_ _)); exact BK102.out) hb); have n2_ := Aside0.mk (below_step (by repeat (first | (with_reducible first | exact HB.out | apply bA | apply bN | apply bD | refine below_set ?_ GE101.out | refine below_set ?_ GE102.out) | exact HB.out)) hb); clear BK101 BK102 HB; have BK101 := n0_; have BK102 := n1_; have HB := n2_; clear n0_ n1_ n2_; (try clear hb); (try clear hb2); (try clear hk); (try clear hi); have hcz69_0 := cz BK102.out 0; have hcz69_1 := cz BK102.out 1; have hfz69_0 := blk_frozen BK102.out 0; have hfz69_1 := blk_frozen BK102.out 1) | ((with_reducible refine gate_callee (f := 20) rfl ?_); refine gL (some 43) Tryd.func20 #[.string t111] ?_; (with_reducible refine (impl_EnglishToYear.calls t111 t115 t116 _ ?side1 A36.out).mono ?_); (case side1 => first | exact GE.below HG.out (by repeat (first | (with_reducible first | exact HB.out | apply bA | apply bN | apply bD | refine below_set ?_ GE101.out | refine below_set ?_ GE102.out) | exact HB.out)) | (repeat (first | exact HG.out | (with_reducible first | apply GE.drewN | apply GE.drew | apply GE.alloc)))); rintro e w70 ⟨rfl, hb⟩; refine ⟨_, rfl, ?_⟩; have n0_ := Aside0.mk (blk_below (g := gb101) (o := .cells #[.int .i64 0, .int .i64 0] 28 (0, 0)) (by (with_reducible repeat (first | refine kN ?_ _ | refine kD ?_ | refine kA ?_ _)); refine blk_far ?_ NB101_102.out _; (with_reducible repeat (first | refine kN ?_ _ | refine kD ?_ | refine kA ?_ _)); exact BK101.out) hb); have n1_ := Aside0.mk (blk_below (g := gb102) (o := .cells #[.int .i64 t113, .int .i64 0] 28 (0, 0)) (by (with_reducible repeat (first | refine kN ?_ _ | refine kD ?_ | refine kA ?_ _)); refine blk_put (cs := #[.int .i64 0, .int .i64 0]) ?_ 0 _ rfl; (with_reducible repeat (first | refine kN ?_ _ | refine kD ?_ | refine kA ?_ _)); exact BK102.out) hb); have n2_ := Aside0.mk (below_step (by repeat (first | (with_reducible first | exact HB.out | apply bA | apply bN | apply bD | refine below_set ?_ GE101.out | refine below_set ?_ GE102.out) | exact HB.out)) hb); clear BK101 BK102 HB; have BK101 := n0_; have BK102 := n1_; have HB := n2_; clear n0_ n1_ n2_; (try clear hb); (try clear hb2); (try clear hk); (try clear hi); have hcz71_0 := cz BK102.out 0; have hcz71_1 := cz BK102.out 1; have hfz71_0 := blk_frozen BK102.out 0; have hfz71_1 := blk_frozen BK102.out 1) | ((with_reducible refine gate_callee (f := 13) rfl ?_); refine gL (some 49) Tryd.func13 #[.agg #[.int .i64 t113, .int .i64 t115]] ?_; (with_reducible refine (impl_IntervalToEnglish.calls t113 t115 t117 false _ ?side1 A37.out).mono ?_); (case side1 => first | exact GT.below HG.out.gt (by repeat (first | (with_reducible first | exact HB.out | apply bA | apply bN | apply bD | refine below_set ?_ GE101.out | refine below_set ?_ GE102.out) | exact HB.out)) | (repeat (first | exact HG.out.gt | (with_reducible first | apply GT.drewN | apply GT.drew | apply GT.alloc)))); rintro e w72 ⟨rfl, hb⟩; refine ⟨_, rfl, ?_⟩; have n0_ := Aside0.mk (blk_below (g := gb101) (o := .cells #[.int .i64 0, .int .i64 0] 28 (0, 0)) (by (with_reducible repeat (first | refine kN ?_ _ | refine kD ?_ | refine kA ?_ _)); refine blk_far ?_ NB101_102.out _; (with_reducible repeat (first | refine kN ?_ _ | refine kD ?_ | refine kA ?_ _)); exact BK101.out) hb); have n1_ := Aside0.mk (blk_below (g := gb102) (o := .cells #[.int .i64 t113, .int .i64 t115] 28 (0, 0)) (by (with_reducible repeat (first | refine kN ?_ _ | refine kD ?_ | refine kA ?_ _)); refine blk_put (cs := #[.int .i64 t113, .int .i64 0]) ?_ 1 _ rfl; (with_reducible repeat (first | refine kN ?_ _ | refine kD ?_ | refine kA ?_ _)); exact BK102.out) hb); have n2_ := Aside0.mk (below_step (by repeat (first | (with_reducible first | exact HB.out | apply bA | apply bN | apply bD | refine below_set ?_ GE101.out | refine below_set ?_ GE102.out) | exact HB.out)) hb); clear BK101 BK102 HB; have BK101 := n0_; have BK102 := n1_; have HB := n2_; clear n0_ n1_ n2_; (try clear hb); (try clear hb2); (try clear hk); (try clear hi); have hcz73_0 := cz BK101.out 0; have hcz73_1 := cz BK101.out 1; have hfz73_0 := blk_frozen BK101.out 0; have hfz73_1 := blk_frozen BK101.out 1))
   (refine bodyPost_ret (results_ct rfl _ _ gb101 28 #[.int .i64 0, .int .i64 0] (0, 0) _ rfl (by (with_reducible repeat (first | refine kN ?_ _ | refine kD ?_ | refine kA ?_ _)); refine blk_put (cs := #[.int .i64 0, .int .i64 0]) ?_ 1 _ rfl; (with_reducible repeat (first | refine kN ?_ _ | refine kD ?_ | refine kA ?_ _)); refine blk_put (cs := #[.int .i64 0, .int .i64 0]) ?_ 0 _ rfl; (with_reducible repeat (first | refine kN ?_ _ | refine kD ?_ | refine kA ?_ _)); exact BK101.out) Tryd.underlying28 rfl (by kernel_rfl)) rfl ?_); (exact ⟨by first | rfl | (simp [errW_none, errW_some] <;> rfl) | (simp [*, errW_none, errW_some] <;> rfl), by repeat (first | (with_reducible first | exact HB.out | apply bA | apply bN | apply bD | refine below_set ?_ GE101.out | refine below_set ?_ GE102.out) | exact HB.out)⟩)
/-! ### laws_eqInterval: function 28 -/
def laws_eqInterval.f (a0_0 : Int) (a0_1 : Int) (a1_0 : Int) (a1_1 : Int) : Option (Bool) := if a0_0 = a1_0 then (if a0_1 = a1_1 then (some true) else (some false)) else (some false)
set_option maxHeartbeats 8000000 in
set_option maxRecDepth 100000 in
theorem laws_eqInterval.calls (a0_0 : Int) (a0_1 : Int) (a1_0 : Int) (a1_1 : Int) (r : Bool) (w : World) (h : laws_eqInterval.f a0_0 a0_1 a1_0 a1_1 = some r) (ht_ : Aside0 (r = true)) :
  Calls Tryd.prog 28 #[.agg #[.int .i64 a0_0, .int .i64 a0_1], .agg #[.int .i64 a1_0, .int .i64 a1_1]] w fun e w' => e = .returned (.bool r) ∧ Below w.heap.size w w' := by
 (have hu28 := Tryd.underlying28); (have HB := Aside0.mk (Below.refl w.heap.size w)); (unfold laws_eqInterval.f at h); (have H := h); clear h; (by_cases c3 : a0_0 = a1_0)
 ·rw [if_pos c3] at H
  (have c3b0 : (a0_0 == a1_0) = true := beq_iff_eq.mpr c3); (have c3b1 : (a0_0 != a1_0) = false := bne_eq_false_iff_eq.mpr c3); clear c3; (by_cases c4 : a0_1 = a1_1); (· (rw [if_pos c4] at H); (have c4b0 : (a0_1 == a1_1) = true := beq_iff_eq.mpr c4); (have c4b1 : (a0_1 != a1_1) = false := bne_eq_false_iff_eq.mpr c4); clear c4; (obtain rfl := Option.some.inj H); (go_enter Tryd.func28, Tryd.ntmps28); (go_wp2_with (first | ((with_reducible refine gate_dst (N := 2) rfl ?_); refine box_event ?hg (N := 2) ?hd (cs := #[.int .i64 a0_0, .int .i64 a0_1]) (t := 28) ?hr ?_; (case hd => rfl); (case hg => rfl); (case hr => first | (go_simp; done) | (go_simp; rfl)); intro gb101 hg w5 hbox hb; have hB_ := zI hb HB; have n0_ := Aside0.mk (below_step hB_ hb); have n1_ := Aside0.mk (hbox); have n2_ := Aside0.mk (bx0 hg hB_); have n3_ := n2_; clear HB; have HB := n0_; have BK101 := n1_; have GW101 := n2_; have GE101 := n3_; clear n0_ n1_ n2_ n3_ hB_ hb hbox hg) | ((with_reducible refine gate_dst (N := 3) rfl ?_); refine box_event ?hg (N := 3) ?hd (cs := #[.int .i64 a1_0, .int .i64 a1_1]) (t := 28) ?hr ?_; (case hd => rfl); (case hg => rfl); (case hr => first | (go_simp; done) | (go_simp; rfl)); intro gb102 hg w6 hbox hb; have n0_ := Aside0.mk (kbI hb BK101); have hB_ := zI hb HB; have n1_ := Aside0.mk (below_step hB_ hb); have n2_ := Aside0.mk (hbox); have n3_ := Aside0.mk (bx0 hg hB_); have n4_ := n3_; have n5_ := Aside0.mk ((by rw [hg]; exact Nat.ne_of_lt (blk_lt (kI BK101)) : gb101 ≠ gb102)); have n6_ := Aside0.mk (Ne.symm n5_.out); clear BK101 HB; have BK101 := n0_; have HB := n1_; have BK102 := n2_; have GW102 := n3_; have GE102 := n4_; have NB101_102 := n5_; have NB102_101 := n6_; clear n0_ n1_ n2_ n3_ n4_ n5_ n6_ hB_ hb hbox hg; have hnb7 := NB101_102.out; have hnc7 := NB102_101.out; have hcz8_0 := cz BK101.out 0; have hcz8_1 := cz BK101.out 1; have hfz8_0 := blk_frozen BK101.out 0; have hfz8_1 := blk_frozen BK101.out 1; have hcz9_0 := cz BK102.out 0; have hcz9_1 := cz BK102.out 1; have hfz9_0 := blk_frozen BK102.out 0; have hfz9_1 := blk_frozen BK102.out 1))); go_ret; (exact ⟨rfl, eI HB⟩)); (· (rw [if_neg c4] at H); (have c4b0 : (a0_1 == a1_1) = false := beq_eq_false_iff_ne.mpr c4); (have c4b1 : (a0_1 != a1_1) = true := bne_iff_ne.mpr c4); (obtain rfl := Option.some.inj H); (exact absurd ht_.out (by decide)))
 ·rw [if_neg c3] at H
  (have c3b0 : (a0_0 == a1_0) = false := beq_eq_false_iff_ne.mpr c3); (have c3b1 : (a0_0 != a1_0) = true := bne_iff_ne.mpr c3); (obtain rfl := Option.some.inj H); (exact absurd ht_.out (by decide))
/-! ### laws_FnExactEnglishToInterval: function 8 -/
def laws_FnExactEnglishToInterval.f (k : Nat) (a0 : ByteArray) : Option (Bool) := if (a0.size : Int) > 1048576 then (some true) else ((spec_EnglishToInterval.f k a0).bind fun bt101 => ((impl_EnglishToInterval.f a0).bind fun bt105 => ((laws_eqInterval.f bt105.1 bt105.2.1 bt101.1 bt101.2.1).bind fun t109 => (if t109 = true then (if (bt105.2.2 != bt101.2.2) = true then (some false) else (some true)) else (some false)))))
set_option maxHeartbeats 8000000 in
set_option maxRecDepth 100000 in
theorem laws_FnExactEnglishToInterval.calls (k : Nat) (a0 : ByteArray) (r : Bool) (w : World) (hG : GE w) (h : laws_FnExactEnglishToInterval.f k a0 = some r) (ht_ : Aside0 (r = true)) :
  Calls Tryd.prog 8 #[.string a0] w fun e w' => e = .returned (.bool r) ∧ Below w.heap.size w w' := by
 (have hu28 := Tryd.underlying28); (have HG := Aside0.mk hG); clear hG; (have HB := Aside0.mk (Below.refl w.heap.size w)); (unfold laws_FnExactEnglishToInterval.f at h); (have H := h); clear h; (by_cases c2 : (a0.size : Int) > 1048576); (· (rw [if_pos c2] at H); (have c2b0 : decide (1048576 < (a0.size : Int)) = true := decide_eq_true c2); (have c2b1 : decide (1048576 < a0.size) = true := decide_eq_true (by omega)); clear c2; (obtain rfl := Option.some.inj H); (go_enter Tryd.func8, Tryd.ntmps8); (go_wp2); go_ret; (exact ⟨rfl, eI HB⟩))
 ·rw [if_neg c2] at H
  (have c2b0 : decide (1048576 < (a0.size : Int)) = false := decide_eq_false c2); (have c2b1 : decide (1048576 < a0.size) = false := decide_eq_false (by omega)); clear c2; (replace H := obS H); (obtain ⟨⟨t101, t102, t103⟩, A3, H⟩ := H); (replace H : ((impl_EnglishToInterval.f a0).bind fun bt105 => ((laws_eqInterval.f bt105.1 bt105.2.1 t101 t102).bind fun t109 => (if t109 = true then (if (bt105.2.2 != t103) = true then (some false) else (some true)) else (some false)))) = some r := H); (replace H := obS H); (obtain ⟨⟨t105, t106, t107⟩, A4, H⟩ := H); (replace H : ((laws_eqInterval.f t105 t106 t101 t102).bind fun t109 => (if t109 = true then (if (t107 != t103) = true then (some false) else (some true)) else (some false))) = some r := H); (replace H := obS H); (obtain ⟨t109, A5, H⟩ := H); (by_cases c6 : t109 = true)
  ·subst c6
   (rw [if_pos rfl] at H); (by_cases c7 : (t107 != t103) = true); (· (rw [if_pos c7] at H); (have c7b0 : (t107 != t103) = true := c7); ((try (have c7b1 : decide (t107 = t103) = false := by simpa using c7))); ((try (have c7b2 : (t107 == t103) = false := by simpa using c7))); ((try (have c7b3 : ¬ (t107 = t103) := by simpa using c7))); clear c7; (obtain rfl := Option.some.inj H); (exact absurd ht_.out (by decide)))
   ·rw [if_neg c7] at H
    (have c7b0 : (t107 != t103) = false := by simpa using c7); ((try (have c7b1 : decide (t107 = t103) = true := by simpa using c7))); ((try (have c7b2 : (t107 == t103) = true := by simpa using c7))); clear c7; (obtain rfl := Option.some.inj H); (go_enter Tryd.func8, Tryd.ntmps8)
    go_wp2_with (first | ((with_reducible refine gate_callee (f := 26) rfl ?_); refine gL (some 12) Tryd.func26 #[.string a0] ?_; (with_reducible refine (spec_EnglishToInterval.calls k a0 t101 t102 t103 _ A3.out).mono ?_); rintro e w17 ⟨rfl, hb⟩; refine ⟨_, rfl, ?_⟩; have n0_ := Aside0.mk (below_step (by repeat (first | (with_reducible first | exact HB.out | apply bA | apply bN | apply bD) | exact HB.out)) hb); clear HB; have HB := n0_; clear n0_; (try clear hb); (try clear hb2); (try clear hk); (try clear hi)) | ((with_reducible refine gate_dst (N := 3) rfl ?_); refine box_event ?hg (N := 3) ?hd (cs := #[.int .i64 0, .int .i64 0]) (t := 28) ?hr ?_; (case hd => rfl); (case hg => rfl); (case hr => first | (go_simp; done) | (go_simp; rfl)); intro gb104 hg w18 hbox hb; have hB_ := bz (by repeat (first | (with_reducible first | exact HB.out | apply bA | apply bN | apply bD) | exact HB.out)) hb; have n0_ := Aside0.mk (below_step hB_ hb); have n1_ := Aside0.mk (hbox); have n2_ := Aside0.mk ((by rw [hg]; exact (below_size hB_) : w.heap.size ≤ gb104)); have n3_ := n2_; clear HB; have HB := n0_; have BK104 := n1_; have GW104 := n2_; have GE104 := n3_; clear n0_ n1_ n2_ n3_ hB_ hb hbox hg; have hcz19_0 := cz BK104.out 0; have hcz19_1 := cz BK104.out 1; have hfz19_0 := blk_frozen BK104.out 0; have hfz19_1 := blk_frozen BK104.out 1) | ((with_reducible refine gate_callee (f := 27) rfl ?_); refine gL (some 17) Tryd.func27 #[.string a0] ?_; (with_reducible refine (impl_EnglishToInterval.calls a0 t105 t106 t107 _ ?side1 A4.out).mono ?_); (case side1 => first | exact GE.below HG.out (by repeat (first | (with_reducible first | exact HB.out | apply bA | apply bN | apply bD | refine below_set ?_ GE104.out) | exact HB.out)) | (repeat (first | exact HG.out | (with_reducible first | apply GE.drewN | apply GE.drew | apply GE.alloc)))); rintro e w20 ⟨rfl, hb⟩; refine ⟨_, rfl, ?_⟩; have n0_ := Aside0.mk (blk_below (g := gb104) (o := .cells #[.int .i64 t101, .int .i64 t102] 28 (0, 0)) (by (with_reducible repeat (first | refine kN ?_ _ | refine kD ?_ | refine kA ?_ _)); refine blk_put (cs := #[.int .i64 t101, .int .i64 0]) ?_ 1 _ rfl; (with_reducible repeat (first | refine kN ?_ _ | refine kD ?_ | refine kA ?_ _)); refine blk_put (cs := #[.int .i64 0, .int .i64 0]) ?_ 0 _ rfl; (with_reducible repeat (first | refine kN ?_ _ | refine kD ?_ | refine kA ?_ _)); exact BK104.out) hb); have n1_ := Aside0.mk (below_step (by repeat (first | (with_reducible first | exact HB.out | apply bA | apply bN | apply bD | refine below_set ?_ GE104.out) | exact HB.out)) hb); clear BK104 HB; have BK104 := n0_; have HB := n1_; clear n0_ n1_; (try clear hb); (try clear hb2); (try clear hk); (try clear hi)) | ((with_reducible refine gate_dst (N := 5) rfl ?_); refine box_event ?hg (N := 5) ?hd (cs := #[.int .i64 0, .int .i64 0]) (t := 28) ?hr ?_; (case hd => rfl); (case hg => rfl); (case hr => first | (go_simp; done) | (go_simp; rfl)); intro gb108 hg w21 hbox hb; have n0_ := Aside0.mk (blk_below (by (with_reducible repeat (first | refine kN ?_ _ | refine kD ?_ | refine kA ?_ _)); exact BK104.out) hb); have hB_ := bz (by repeat (first | (with_reducible first | exact HB.out | apply bA | apply bN | apply bD | refine below_set ?_ GE104.out) | exact HB.out)) hb; have n1_ := Aside0.mk (below_step hB_ hb); have n2_ := Aside0.mk (hbox); have n3_ := Aside0.mk ((by rw [hg]; exact (below_size hB_) : w.heap.size ≤ gb108)); have n4_ := n3_; have n5_ := Aside0.mk ((by rw [hg]; exact Nat.ne_of_lt (blk_lt (by (with_reducible repeat (first | refine kN ?_ _ | refine kD ?_ | refine kA ?_ _)); exact BK104.out)) : gb104 ≠ gb108)); have n6_ := Aside0.mk (Ne.symm n5_.out); clear BK104 HB; have BK104 := n0_; have HB := n1_; have BK108 := n2_; have GW108 := n3_; have GE108 := n4_; have NB104_108 := n5_; have NB108_104 := n6_; clear n0_ n1_ n2_ n3_ n4_ n5_ n6_ hB_ hb hbox hg; have hnb22 := NB108_104.out; have hnc22 := NB104_108.out; have hcz23_0 := cz BK108.out 0; have hcz23_1 := cz BK108.out 1; have hfz23_0 := blk_frozen BK108.out 0; have hfz23_1 := blk_frozen BK108.out 1; have hcz24_0 := cz BK104.out 0; have hcz24_1 := cz BK104.out 1; have hfz24_0 := blk_frozen BK104.out 0; have hfz24_1 := blk_frozen BK104.out 1) | ((with_reducible refine gate_callee (f := 28) rfl ?_); refine gL (some 22) Tryd.func28 #[.agg #[.int .i64 t105, .int .i64 t106], .agg #[.int .i64 t101, .int .i64 t102]] ?_; (with_reducible refine (laws_eqInterval.calls t105 t106 t101 t102 true _ A5.out ⟨rfl⟩).mono ?_); rintro e w25 ⟨rfl, hb⟩; refine ⟨_, rfl, ?_⟩; have n0_ := Aside0.mk (blk_below (g := gb104) (o := .cells #[.int .i64 t101, .int .i64 t102] 28 (0, 0)) (by (with_reducible repeat (first | refine kN ?_ _ | refine kD ?_ | refine kA ?_ _)); refine blk_far ?_ NB104_108.out _; (with_reducible repeat (first | refine kN ?_ _ | refine kD ?_ | refine kA ?_ _)); refine blk_far ?_ NB104_108.out _; (with_reducible repeat (first | refine kN ?_ _ | refine kD ?_ | refine kA ?_ _)); exact BK104.out) hb); have n1_ := Aside0.mk (blk_below (g := gb108) (o := .cells #[.int .i64 t105, .int .i64 t106] 28 (0, 0)) (by (with_reducible repeat (first | refine kN ?_ _ | refine kD ?_ | refine kA ?_ _)); refine blk_put (cs := #[.int .i64 t105, .int .i64 0]) ?_ 1 _ rfl; (with_reducible repeat (first | refine kN ?_ _ | refine kD ?_ | refine kA ?_ _)); refine blk_put (cs := #[.int .i64 0, .int .i64 0]) ?_ 0 _ rfl; (with_reducible repeat (first | refine kN ?_ _ | refine kD ?_ | refine kA ?_ _)); exact BK108.out) hb); have n2_ := Aside0.mk (below_step (by repeat (first | (with_reducible first | exact HB.out | apply bA | apply bN | apply bD | refine below_set ?_ GE104.out | refine below_set ?_ GE108.out) | exact HB.out)) hb); clear BK104 BK108 HB; have BK104 := n0_; have BK108 := n1_; have HB := n2_; clear n0_ n1_ n2_; (try clear hb); (try clear hb2); (try clear hk); (try clear hi)))
    go_ret; (exact ⟨by first | rfl | (simp [errW_none, errW_some] <;> rfl) | (simp [*, errW_none, errW_some] <;> rfl), by repeat (first | (with_reducible first | exact HB.out | apply bA | apply bN | apply bD | refine below_set ?_ GE104.out | refine below_set ?_ GE108.out) | exact HB.out)⟩)
  ·replace c6 := Bool.eq_false_iff.mpr c6
   subst c6; (rw [if_neg (show ¬ (false = true) by decide)] at H); (obtain rfl := Option.some.inj H); (exact absurd ht_.out (by decide))

end Go.Proofs.YtfkaiiconllbhaaDoor.X
set_option linter.unusedVariables false
set_option linter.unusedSimpArgs false
namespace Go.Proofs.YtfkaiiconllbhaaDoor.Open
open Go.RowKit Go.Proofs.YtfkaiiconllbhaaDoorW.PrintWords

end Go.Proofs.YtfkaiiconllbhaaDoor.Open
set_option linter.unusedVariables false
namespace Go.Proofs.YtfkaiiconllbhaaDoor.X
open Go.RowKit Go.Proofs.YtfkaiiconllbhaaDoorW.PrintWords Go.Proofs.YtfkaiiconllbhaaDoor.Open
end Go.Proofs.YtfkaiiconllbhaaDoor.X
namespace Go.Proofs.YtfkaiiconllbhaaDoor.X
open Go.RowKit Go.Proofs.YtfkaiiconllbhaaDoorW.PrintWords
def PureFnExactEnglishToInterval : Prop := ∀ (a0 : ByteArray), a0.size ≤ 9223372036854775807 → ∃ k, laws_FnExactEnglishToInterval.f k a0 = some true
end Go.Proofs.YtfkaiiconllbhaaDoor.X
namespace Go.Proofs.YtfkaiiconllbhaaDoor.X
open Go.RowKit Go.Proofs.YtfkaiiconllbhaaDoorW.PrintWords Go.Proofs.YtfkaiiconllbhaaDoorW.PrintLast Go.Proofs.YtfkaiiconllbhaaDoorW.PrintMore
attribute [local go_sem] max2_int min2_int max_two min_two max_three min_three max_four min_four   -- for this text's walks alone
set_option linter.unusedVariables false
set_option linter.unusedSimpArgs false
attribute [-simp] ByteArray.size_append ByteArray.size_extract
attribute [-go_sem] ByteArray.size_append'

/-! ### spec_YearToEnglish: function 9 -/
def spec_YearToEnglish.f (k : Nat) (a0 : Int) : Option (ByteArray × Bool) := (spec_l9Year.f a0).bind fun t101 => (if t101 = true then ((spec_l25Year.f k a0).bind fun t102 => (some (t102, true))) else (some ((⟨#[]⟩ : ByteArray), false)))
set_option maxHeartbeats 8000000 in
set_option maxRecDepth 100000 in
theorem spec_YearToEnglish.calls (k : Nat) (a0 : Int) (r1 : ByteArray) (r2 : Bool) (w : World) (h : spec_YearToEnglish.f k a0 = some (r1, r2)) :
  Calls Tryd.prog 9 #[.int .i64 a0] w fun e w' => e = .returned (.tuple #[.string r1, .bool r2]) ∧ Below w.heap.size w w' := by
 (have HB := Aside0.mk (Below.refl w.heap.size w)); (unfold spec_YearToEnglish.f at h); (have H := h); clear h; (replace H := obS H); (obtain ⟨t101, A2, H⟩ := H); (by_cases c3 : t101 = true)
 ·subst c3
  (rw [if_pos rfl] at H); (replace H := obS H); (obtain ⟨t102, A4, H⟩ := H); (simp only [Option.some.injEq, Prod.mk.injEq] at H); (obtain ⟨rfl, rfl⟩ := H); (go_enter Tryd.func9, Tryd.ntmps9); (go_wp2_with (first | ((with_reducible refine gate_callee (f := 29) rfl ?_); refine gL (some 5) Tryd.func29 #[.int .i64 a0] ?_; (with_reducible refine (spec_l9Year.calls a0 true _ A2.out).mono ?_); rintro e w' ⟨rfl, ⟨nd, rfl⟩⟩; refine ⟨_, rfl, ?_⟩) | ((with_reducible refine gate_callee (f := 30) rfl ?_); refine gL (some 8) Tryd.func30 #[.int .i64 a0] ?_; (with_reducible refine (spec_l25Year.calls k a0 t102 _ A4.out).mono ?_); rintro e w5 ⟨rfl, hb⟩; refine ⟨_, rfl, ?_⟩; have n0_ := Aside0.mk (sI hb HB); clear HB; have HB := n0_; clear n0_; (try clear hb); (try clear hb2); (try clear hk); (try clear hi)))); (go_ret2); (exact ⟨rfl, eI HB⟩)
 ·replace c3 := Bool.eq_false_iff.mpr c3
  subst c3; (rw [if_neg (show ¬ (false = true) by decide)] at H); (simp only [Option.some.injEq, Prod.mk.injEq] at H); (obtain ⟨rfl, rfl⟩ := H); (go_enter Tryd.func9, Tryd.ntmps9); (go_wp2_with (first | ((with_reducible refine gate_callee (f := 29) rfl ?_); refine gL (some 5) Tryd.func29 #[.int .i64 a0] ?_; (with_reducible refine (spec_l9Year.calls a0 false _ A2.out).mono ?_); rintro e w' ⟨rfl, ⟨nd, rfl⟩⟩; refine ⟨_, rfl, ?_⟩))); (go_ret2); (exact ⟨rfl, eI HB⟩)
/-! ### spec_IntervalToEnglish: function 11 -/
def spec_IntervalToEnglish.f (k : Nat) (a0_0 : Int) (a0_1 : Int) : Option (ByteArray × Bool) := (spec_l9Interval.f a0_0 a0_1).bind fun t102 => (if t102 = true then ((spec_l25Interval.f k a0_0 a0_1).bind fun t103 => (some (t103, true))) else (some ((⟨#[]⟩ : ByteArray), false)))
set_option maxHeartbeats 8000000 in
set_option maxRecDepth 100000 in
theorem spec_IntervalToEnglish.calls (k : Nat) (a0_0 : Int) (a0_1 : Int) (r1 : ByteArray) (r2 : Bool) (w : World) (h : spec_IntervalToEnglish.f k a0_0 a0_1 = some (r1, r2)) :
  Calls Tryd.prog 11 #[.agg #[.int .i64 a0_0, .int .i64 a0_1]] w fun e w' => e = .returned (.tuple #[.string r1, .bool r2]) ∧ Below w.heap.size w w' := by
 (have hu28 := Tryd.underlying28); (have HB := Aside0.mk (Below.refl w.heap.size w)); (unfold spec_IntervalToEnglish.f at h); (have H := h); clear h; (replace H := obS H); (obtain ⟨t102, A2, H⟩ := H); (by_cases c3 : t102 = true)
 ·subst c3
  (rw [if_pos rfl] at H); (replace H := obS H); (obtain ⟨t103, A4, H⟩ := H); (simp only [Option.some.injEq, Prod.mk.injEq] at H); (obtain ⟨rfl, rfl⟩ := H); (go_enter Tryd.func11, Tryd.ntmps11); (go_wp2_with (first | ((with_reducible refine gate_dst (N := 1) rfl ?_); refine box_event ?hg (N := 1) ?hd (cs := #[.int .i64 a0_0, .int .i64 a0_1]) (t := 28) ?hr ?_; (case hd => rfl); (case hg => rfl); (case hr => first | (go_simp; done) | (go_simp; rfl)); intro gb101 hg w5 hbox hb; have hB_ := zI hb HB; have n0_ := Aside0.mk (below_step hB_ hb); have n1_ := Aside0.mk (hbox); have n2_ := Aside0.mk (bx0 hg hB_); have n3_ := n2_; clear HB; have HB := n0_; have BK101 := n1_; have GW101 := n2_; have GE101 := n3_; clear n0_ n1_ n2_ n3_ hB_ hb hbox hg; have hcz6_0 := cz BK101.out 0; have hcz6_1 := cz BK101.out 1; have hfz6_0 := blk_frozen BK101.out 0; have hfz6_1 := blk_frozen BK101.out 1) | ((with_reducible refine gate_callee (f := 33) rfl ?_); refine gL (some 5) Tryd.func33 #[.agg #[.int .i64 a0_0, .int .i64 a0_1]] ?_; (with_reducible refine (spec_l9Interval.calls a0_0 a0_1 true _ A2.out).mono ?_); rintro e w7 ⟨rfl, hb⟩; refine ⟨_, rfl, ?_⟩; have n0_ := Aside0.mk (kbI hb BK101); have n1_ := Aside0.mk (sI hb HB); clear BK101 HB; have BK101 := n0_; have HB := n1_; clear n0_ n1_; (try clear hb); (try clear hb2); (try clear hk); (try clear hi); have hcz8_0 := cz BK101.out 0; have hcz8_1 := cz BK101.out 1; have hfz8_0 := blk_frozen BK101.out 0; have hfz8_1 := blk_frozen BK101.out 1) | ((with_reducible refine gate_callee (f := 34) rfl ?_); refine gL (some 8) Tryd.func34 #[.agg #[.int .i64 a0_0, .int .i64 a0_1]] ?_; (with_reducible refine (spec_l25Interval.calls k a0_0 a0_1 t103 _ A4.out).mono ?_); rintro e w9 ⟨rfl, hb⟩; refine ⟨_, rfl, ?_⟩; have n0_ := Aside0.mk (kbI hb BK101); have n1_ := Aside0.mk (sI hb HB); clear BK101 HB; have BK101 := n0_; have HB := n1_; clear n0_ n1_; (try clear hb); (try clear hb2); (try clear hk); (try clear hi)))); (go_ret2); (exact ⟨rfl, eI HB⟩)
 ·replace c3 := Bool.eq_false_iff.mpr c3
  subst c3; (rw [if_neg (show ¬ (false = true) by decide)] at H); (simp only [Option.some.injEq, Prod.mk.injEq] at H); (obtain ⟨rfl, rfl⟩ := H); (go_enter Tryd.func11, Tryd.ntmps11); (go_wp2_with (first | ((with_reducible refine gate_dst (N := 1) rfl ?_); refine box_event ?hg (N := 1) ?hd (cs := #[.int .i64 a0_0, .int .i64 a0_1]) (t := 28) ?hr ?_; (case hd => rfl); (case hg => rfl); (case hr => first | (go_simp; done) | (go_simp; rfl)); intro gb101 hg w10 hbox hb; have hB_ := zI hb HB; have n0_ := Aside0.mk (below_step hB_ hb); have n1_ := Aside0.mk (hbox); have n2_ := Aside0.mk (bx0 hg hB_); have n3_ := n2_; clear HB; have HB := n0_; have BK101 := n1_; have GW101 := n2_; have GE101 := n3_; clear n0_ n1_ n2_ n3_ hB_ hb hbox hg; have hcz11_0 := cz BK101.out 0; have hcz11_1 := cz BK101.out 1; have hfz11_0 := blk_frozen BK101.out 0; have hfz11_1 := blk_frozen BK101.out 1) | ((with_reducible refine gate_callee (f := 33) rfl ?_); refine gL (some 5) Tryd.func33 #[.agg #[.int .i64 a0_0, .int .i64 a0_1]] ?_; (with_reducible refine (spec_l9Interval.calls a0_0 a0_1 false _ A2.out).mono ?_); rintro e w12 ⟨rfl, hb⟩; refine ⟨_, rfl, ?_⟩; have n0_ := Aside0.mk (kbI hb BK101); have n1_ := Aside0.mk (sI hb HB); clear BK101 HB; have BK101 := n0_; have HB := n1_; clear n0_ n1_; (try clear hb); (try clear hb2); (try clear hk); (try clear hi)))); (go_ret2); (exact ⟨rfl, eI HB⟩)

end Go.Proofs.YtfkaiiconllbhaaDoor.X
set_option linter.unusedVariables false
set_option linter.unusedSimpArgs false
namespace Go.Proofs.YtfkaiiconllbhaaDoor.X
open Go.RowKit Go.Proofs.YtfkaiiconllbhaaDoorW.PrintWords Go.Proofs.YtfkaiiconllbhaaDoor.E
def numB (n : Int) : ByteArray := ⟨(Lib.itoa n).toArray⟩
def decB (u : Nat) : ByteArray := ⟨(Lib.decDigits u).toArray⟩
theorem digit_fin : ∀ i : Fin 10, (⟨#[48, 49, 50, 51, 52, 53, 54, 55, 56, 57]⟩ : ByteArray).extract i.val (i.val + 1) = ⟨#[UInt8.ofNat (48 + i.val)]⟩ := by decide +kernel
theorem digit_at (i : Int) (j : Int) (h0 : 0 ≤ i) (h1 : i < 10) (hj : j = i + 1) : (⟨#[48, 49, 50, 51, 52, 53, 54, 55, 56, 57]⟩ : ByteArray).extract i.toNat j.toNat = ⟨#[UInt8.ofNat (48 + i.toNat)]⟩ := by
  rw [show j.toNat = i.toNat + 1 by omega]
  exact digit_fin ⟨i.toNat, by omega⟩
theorem ba_append (l m : List UInt8) : (⟨l.toArray⟩ : ByteArray) ++ (⟨m.toArray⟩ : ByteArray) = ⟨(l ++ m).toArray⟩ := by
  apply ByteArray.ext
  rw [ByteArray.data_append]
  simp
theorem ba_size (l : List UInt8) : (⟨l.toArray⟩ : ByteArray).size = l.length := rfl
theorem decB_size (u : Nat) (h : u < 18446744073709551616) : (decB u).size ≤ 20 := by
  unfold decB
  rw [ba_size, Lib.decDigits_length]
  exact Lib.nDigits_le20 u h
theorem numB_size (n : Int) (h0 : -9223372036854775808 ≤ n) (h1 : n ≤ 9223372036854775807) : (numB n).size ≤ 21 := by
  unfold numB
  rw [ba_size]
  exact Lib.itoa_length_le n h0 h1
theorem l1Num_nat : ∀ (u : Nat), u ≤ 9223372036854775807 → Ev (fun k => spec_l1Num.f k (u : Int)) (decB u) := by
  intro u
  induction u using Nat.strongRecOn with
  | _ u ih =>
    intro hu
    refine Ev.step (fun k => rfl) (ev_neg (by omega) ?_)
    by_cases h : u < 10
    · have hw : wrap64 ((u : Int) + 1) = (u : Int) + 1 := wrap_id (by omega) (by omega)
      rw [hw]
      refine ev_pos (by omega) (ev_pos (by omega) (ev_pos (by omega) (ev_pos (by omega) (ev_now ?_))))
      rw [digit_at (u : Int) _ (by omega) (by omega) rfl]
      unfold decB
      rw [Lib.decDigits, dif_pos h, Int.toNat_natCast]
    · refine ev_neg (by omega) ?_
      have hd : Int.tdiv (u : Int) 10 = ((u / 10 : Nat) : Int) := by rw [Int.tdiv_eq_ediv_of_nonneg (by omega)]; omega
      have hm : Int.tmod (u : Int) 10 = ((u % 10 : Nat) : Int) := by rw [Int.tmod_eq_emod_of_nonneg (by omega)]; omega
      have hw : wrap64 ((u / 10 : Nat) : Int) = ((u / 10 : Nat) : Int) := wrap_id (by omega) (by omega)
      have hw2 : wrap64 (((u % 10 : Nat) : Int) + 1) = ((u % 10 : Nat) : Int) + 1 := wrap_id (by omega) (by omega)
      rw [hd, hw, hm, hw2]
      refine Ev.bind (ih (u / 10) (by omega) (by omega)) ?_
      rw [digit_at ((u % 10 : Nat) : Int) _ (by omega) (by omega) rfl]
      have hs := decB_size (u / 10) (by omega)
      have h1 : (⟨#[UInt8.ofNat (48 + ((u % 10 : Nat) : Int).toNat)]⟩ : ByteArray).size = 1 := rfl
      refine ev_pos (by omega) (ev_pos (by omega) (ev_pos (by omega) (ev_pos (by omega) (ev_now ?_))))
      unfold decB
      rw [show (⟨#[UInt8.ofNat (48 + ((u % 10 : Nat) : Int).toNat)]⟩ : ByteArray) = ⟨[UInt8.ofNat (48 + u % 10)].toArray⟩ by rw [Int.toNat_natCast], ba_append]
      conv => rhs; rw [Lib.decDigits, dif_neg h]
theorem l1Num_ev (n : Int) (h0 : -9223372036854775807 ≤ n) (h1 : n ≤ 9223372036854775807) : Ev (fun k => spec_l1Num.f k n) (numB n) := by
  by_cases hn : n < 0
  · have hw : wrap64 (-n) = ((n.natAbs : Nat) : Int) := by rw [wrap_id (by omega) (by omega)]; omega
    refine Ev.step (fun k => rfl) (ev_pos hn ?_)
    rw [hw]
    have hs := decB_size n.natAbs (by omega)
    refine Ev.bind (l1Num_nat _ (by omega)) (ev_pos (by omega) (ev_now ?_))
    unfold numB decB
    rw [show (⟨#[45]⟩ : ByteArray) = ⟨[45].toArray⟩ from rfl, ba_append, Lib.itoa, if_pos hn]
    rfl
  · obtain ⟨u, rfl⟩ : ∃ u : Nat, n = u := ⟨n.toNat, by omega⟩
    refine ev_cast (l1Num_nat u (by omega)) ?_
    unfold numB decB
    rw [Lib.itoa, if_neg hn, Int.toNat_natCast]
end Go.Proofs.YtfkaiiconllbhaaDoor.X
set_option linter.unusedVariables false
set_option linter.unusedSimpArgs false
namespace Go.Proofs.YtfkaiiconllbhaaDoor.X
open Go.RowKit Go.Proofs.YtfkaiiconllbhaaDoorW.PrintWords Go.Proofs.YtfkaiiconllbhaaDoor.E
theorem l1In_eq (a l h : Int) : spec_l1In.f a l h = some (decide (l ≤ a ∧ a ≤ h)) := by
  unfold spec_l1In.f
  by_cases h1 : a ≥ l
  · rw [if_pos h1]; congr 1; simp [h1]
  · rw [if_neg h1]; congr 1; symm; simp; intro h2; omega
theorem within_eq (a l h : Int) : impl_within.f a l h = some (decide (l ≤ a ∧ a ≤ h)) := by
  unfold impl_within.f
  by_cases h1 : a ≥ l
  · rw [if_pos h1]; congr 1; simp [h1]
  · rw [if_neg h1]; congr 1; symm; simp; intro h2; omega
def yearOk (y : Int) : Bool := decide (-20000 ≤ y ∧ y ≤ 2100)
theorem l9Year_eq (y : Int) : spec_l9Year.f y = some (yearOk y) := by unfold spec_l9Year.f; rw [l1In_eq]; rfl
theorem isYear_eq (y : Int) : impl_isYear.f y = some (yearOk y) := by unfold impl_isYear.f; rw [within_eq]; rfl
theorem Itoa_eq (n : Int) (h0 : -9223372036854775808 ≤ n) (h1 : n ≤ 9223372036854775807) : strconv_Itoa.f n = some (numB n) := by unfold strconv_Itoa.f; rw [if_pos ⟨h0, h1⟩]; rfl
def yearB (y : Int) : ByteArray := if y > 0 then (⟨#[65, 68, 32]⟩ : ByteArray) ++ numB y else numB (1 - y) ++ (⟨#[32, 66, 67]⟩ : ByteArray)
theorem yearB_size (y : Int) (h0 : -20000 ≤ y) (h1 : y ≤ 2100) : (yearB y).size ≤ 24 := by
  unfold yearB
  split
  · rw [ByteArray.size_append]
    have := numB_size y (by omega) (by omega)
    have h3 : (⟨#[65, 68, 32]⟩ : ByteArray).size = 3 := rfl
    omega
  · rw [ByteArray.size_append]
    have := numB_size (1 - y) (by omega) (by omega)
    have h3 : (⟨#[32, 66, 67]⟩ : ByteArray).size = 3 := rfl
    omega
theorem yearText_eq (y : Int) (h0 : -20000 ≤ y) (h1 : y ≤ 2100) : impl_yearText.f y = some (yearB y) := by
  unfold impl_yearText.f yearB
  have e : wrap64 (1 - y) = 1 - y := wrap_id (by omega) (by omega)
  rw [e]
  by_cases c : y > 0
  · rw [if_pos c, if_pos c, Itoa_eq _ (by omega) (by omega)]
    have := numB_size y (by omega) (by omega)
    exact if_pos (by omega)
  · rw [if_neg c, if_neg c, Itoa_eq _ (by omega) (by omega)]
    have := numB_size (1 - y) (by omega) (by omega)
    exact if_pos (by omega)
theorem l25Year_ev (y : Int) (h0 : -20000 ≤ y) (h1 : y ≤ 2100) : Ev (fun k => spec_l25Year.f k y) (yearB y) := by
  unfold spec_l25Year.f yearB
  have e : wrap64 (1 - y) = 1 - y := wrap_id (by omega) (by omega)
  rw [e]
  by_cases c : y > 0
  · rw [if_pos c]
    have := numB_size y (by omega) (by omega)
    exact ev_pos c (Ev.bind (l1Num_ev _ (by omega) (by omega)) (ev_pos (by omega) (ev_now rfl)))
  · rw [if_neg c]
    have := numB_size (1 - y) (by omega) (by omega)
    exact ev_neg c (Ev.bind (l1Num_ev _ (by omega) (by omega)) (ev_pos (by omega) (ev_now rfl)))
def yearE (y : Int) : ByteArray × Bool := if yearOk y = true then (yearB y, true) else (⟨#[]⟩, false)
theorem implYear_eq (y : Int) : impl_YearToEnglish.f y = some (yearE y) := by
  unfold impl_YearToEnglish.f yearE
  rw [isYear_eq, Option.bind_some]
  by_cases c : yearOk y = true
  · have c' := of_decide_eq_true c
    rw [if_pos c, if_pos c, yearText_eq y c'.1 c'.2]; rfl
  · rw [if_neg c, if_neg c]
def ivOk (a b : Int) : Bool := yearOk a && yearOk b && decide (a ≤ b)
theorem l9Interval_eq (a b : Int) : spec_l9Interval.f a b = some (ivOk a b) := by
  unfold spec_l9Interval.f ivOk
  rw [l9Year_eq, l9Year_eq]
  cases yearOk a <;> cases yearOk b <;> rfl
theorem isInterval_eq (a b : Int) : impl_isInterval.f a b = some (ivOk a b) := by
  unfold impl_isInterval.f ivOk
  rw [isYear_eq, isYear_eq]
  cases yearOk a <;> cases yearOk b <;> rfl
theorem ivOk_iff {a b : Int} (h : ivOk a b = true) : (-20000 ≤ a ∧ a ≤ 2100) ∧ (-20000 ≤ b ∧ b ≤ 2100) ∧ a ≤ b := by
  unfold ivOk yearOk at h
  simpa [and_assoc] using h
def ivB (a b : Int) : ByteArray := if a = b then (⟨#[105, 110, 32]⟩ : ByteArray) ++ yearB a else (((⟨#[98, 101, 116, 119, 101, 101, 110, 32]⟩ : ByteArray) ++ yearB a) ++ (⟨#[32, 97, 110, 100, 32]⟩ : ByteArray)) ++ yearB b
theorem sz8 (x : ByteArray) : ((⟨#[98, 101, 116, 119, 101, 101, 110, 32]⟩ : ByteArray) ++ x).size = 8 + x.size := by rw [ByteArray.size_append]; rfl
theorem sz5 (x : ByteArray) : (x ++ (⟨#[32, 97, 110, 100, 32]⟩ : ByteArray)).size = x.size + 5 := by rw [ByteArray.size_append]; rfl
theorem intervalText_eq (a b : Int) (ha : -20000 ≤ a ∧ a ≤ 2100) (hb : -20000 ≤ b ∧ b ≤ 2100) : impl_intervalText.f a b = some (ivB a b) := by
  unfold impl_intervalText.f ivB
  have sa := yearB_size a ha.1 ha.2
  have sb := yearB_size b hb.1 hb.2
  rw [yearText_eq a ha.1 ha.2, yearText_eq b hb.1 hb.2]
  by_cases c : a = b
  · rw [if_pos c, if_pos c]
    exact if_pos (by omega)
  · rw [if_neg c, if_neg c]
    refine (if_pos (by omega)).trans ((if_pos (by rw [sz8]; omega)).trans (if_pos (by rw [sz5, sz8]; omega)))
theorem l25Interval_ev (a b : Int) (ha : -20000 ≤ a ∧ a ≤ 2100) (hb : -20000 ≤ b ∧ b ≤ 2100) : Ev (fun k => spec_l25Interval.f k a b) (ivB a b) := by
  unfold spec_l25Interval.f ivB
  have sa := yearB_size a ha.1 ha.2
  have sb := yearB_size b hb.1 hb.2
  by_cases c : a = b
  · rw [if_pos c]
    exact ev_pos c (Ev.bind (l25Year_ev a ha.1 ha.2) (ev_pos (by omega) (ev_now rfl)))
  · rw [if_neg c]
    exact ev_neg c (Ev.bind (l25Year_ev a ha.1 ha.2) (ev_pos (by omega) (ev_pos (by rw [sz8]; omega) (Ev.bind (l25Year_ev b hb.1 hb.2) (ev_pos (by rw [sz5, sz8]; omega) (ev_now rfl))))))
def ivE (a b : Int) : ByteArray × Bool := if ivOk a b = true then (ivB a b, true) else (⟨#[]⟩, false)
theorem implIv_eq (a b : Int) : impl_IntervalToEnglish.f a b = some (ivE a b) := by
  unfold impl_IntervalToEnglish.f ivE
  rw [isInterval_eq, Option.bind_some]
  by_cases c : ivOk a b = true
  · have c' := ivOk_iff c
    rw [if_pos c, if_pos c, intervalText_eq a b c'.1 c'.2.1]; rfl
  · rw [if_neg c, if_neg c]
end Go.Proofs.YtfkaiiconllbhaaDoor.X
set_option linter.unusedVariables false
set_option linter.unusedSimpArgs false
namespace Go.Proofs.YtfkaiiconllbhaaDoor.X
open Go.RowKit Go.Proofs.YtfkaiiconllbhaaDoorW.PrintWords Go.Proofs.YtfkaiiconllbhaaDoor.E
theorem dec_digit : ∀ (u : Nat), ∀ c ∈ Lib.decDigits u, 48 ≤ c.toNat ∧ c.toNat ≤ 57 := by
  intro u
  induction u using Nat.strongRecOn with
  | _ u ih =>
    intro c hc
    have one : ∀ d, d < 10 → 48 ≤ (UInt8.ofNat (48 + d)).toNat ∧ (UInt8.ofNat (48 + d)).toNat ≤ 57 := by
      intro d hd
      have : ∀ j : Fin 10, 48 ≤ (UInt8.ofNat (48 + j.val)).toNat ∧ (UInt8.ofNat (48 + j.val)).toNat ≤ 57 := by decide +kernel
      exact this ⟨d, hd⟩
    rw [Lib.decDigits] at hc
    split at hc
    · rw [List.mem_singleton.1 hc]; exact one u (by omega)
    · rcases List.mem_append.1 hc with h | h
      · exact ih (u / 10) (by omega) c h
      · rw [List.mem_singleton.1 h]; exact one _ (by omega)
theorem dec_one (d : Nat) (hd : d < 10) : (UInt8.ofNat (48 + d)).toNat = 48 + d := by
  have : ∀ j : Fin 10, (UInt8.ofNat (48 + j.val)).toNat = 48 + j.val := by decide +kernel
  exact this ⟨d, hd⟩
theorem dec_len : ∀ (k u : Nat), u < 10 ^ (k + 1) → 1 ≤ (Lib.decDigits u).length ∧ (Lib.decDigits u).length ≤ k + 1 := by
  intro k
  induction k with
  | zero =>
    intro u hu
    rw [Lib.decDigits, dif_pos (by simpa using hu)]
    simp
  | succ k ih =>
    intro u hu
    rw [Lib.decDigits]
    split
    · simp
    · have := ih (u / 10) (by rw [Nat.pow_succ] at hu; omega)
      rw [List.length_append, List.length_singleton]
      omega
def dv (l : List UInt8) : Int := l.foldl (fun a c => 10 * a + ((c.toNat : Int) - 48)) 0
theorem dv_snoc (l : List UInt8) (c : UInt8) : dv (l ++ [c]) = 10 * dv l + ((c.toNat : Int) - 48) := by unfold dv; rw [List.foldl_append]; rfl
theorem dv_dec : ∀ (u : Nat), dv (Lib.decDigits u) = (u : Int) := by
  intro u
  induction u using Nat.strongRecOn with
  | _ u ih =>
    rw [Lib.decDigits]
    split
    · rename_i h
      show dv ([] ++ [UInt8.ofNat (48 + u)]) = _
      rw [dv_snoc, dec_one u h]
      simp [dv]
      omega
    · rw [dv_snoc, ih (u / 10) (by omega), dec_one _ (by omega)]
      omega
theorem pu_snoc : ∀ (l : List UInt8) (acc m : Nat) (c : UInt8), Lib.parseUint10 acc l = .ok m → m < 1000000000000 → 48 ≤ c.toNat ∧ c.toNat ≤ 57 → Lib.parseUint10 acc (l ++ [c]) = .ok (m * 10 + (c.toNat - 48))
  | [], acc, m, c, h, hm, hc => by
    simp only [Lib.parseUint10] at h
    injection h with h
    subst h
    simp only [List.nil_append, Lib.parseUint10]
    rw [if_pos hc, if_neg (by omega), if_neg (by omega)]
  | b :: r, acc, m, c, h, hm, hc => by
    simp only [Lib.parseUint10] at h
    simp only [List.cons_append, Lib.parseUint10]
    split at h
    · rename_i h1
      rw [if_pos h1]
      split at h
      · cases h
      · rename_i h2
        rw [if_neg h2]
        split at h
        · cases h
        · rename_i h3
          rw [if_neg h3]
          exact pu_snoc r _ m c h hm hc
    · cases h
theorem pu_dec : ∀ (u : Nat), u < 1000000000000 → Lib.parseUint10 0 (Lib.decDigits u) = .ok u := by
  intro u
  induction u using Nat.strongRecOn with
  | _ u ih =>
    intro hu
    rw [Lib.decDigits]
    split
    · rename_i h
      have := pu_snoc [] 0 0 (UInt8.ofNat (48 + u)) rfl (by omega) (by rw [dec_one u h]; omega)
      rw [List.nil_append, dec_one u h] at this
      rw [this]
      congr 1
      omega
    · have := pu_snoc _ 0 (u / 10) (UInt8.ofNat (48 + u % 10)) (ih (u / 10) (by omega) (by omega)) (by omega) (by rw [dec_one _ (by omega)]; omega)
      rw [this, dec_one _ (by omega)]
      congr 1
      omega
theorem dec_ne (u : Nat) : Lib.decDigits u ≠ [] := by
  rw [Lib.decDigits]
  split <;> simp
theorem mag_dec (u : Nat) (hu : u < 1000000000000) : Lib.parseMag (Lib.decDigits u) = .ok u := by
  unfold Lib.parseMag
  rw [if_neg (dec_ne u)]
  exact pu_dec u hu
theorem atoi_itoa (v : Int) (h0 : -999999 ≤ v) (h1 : v ≤ 999999) : Lib.atoiAll (Lib.itoa v) = .ok v := by
  unfold Lib.itoa
  by_cases c : v < 0
  · rw [if_pos c, Lib.atoiAll_minus, mag_dec _ (by omega)]
    simp only [Lib.signed]
    rw [if_neg (by omega)]
    congr 1
    omega
  · rw [if_neg c]
    have hm := mag_dec v.toNat (by omega)
    cases hd : Lib.decDigits v.toNat with
    | nil => exact absurd hd (dec_ne _)
    | cons b r =>
      have hb := dec_digit v.toNat b (by rw [hd]; exact List.mem_cons_self ..)
      rw [hd] at hm
      rw [Lib.atoiAll_plain b r (by omega) (by omega), hm]
      simp only [Lib.signless]
      rw [if_neg (by omega)]
      congr 1
      omega
def IsNum (s : ByteArray) : Prop := ∃ v : Int, -999999 ≤ v ∧ v ≤ 999999 ∧ s = numB v
theorem parse_num {v : Int} (h0 : -999999 ≤ v) (h1 : v ≤ 999999) : parseE (numB v) = (v, true) := by
  unfold parseE
  have e : (numB v).data.toList = Lib.itoa v := by unfold numB; simp
  rw [e, atoi_itoa v h0 h1]
  exact if_pos ⟨⟨h0, h1⟩, rfl⟩
theorem parse_not {s : ByteArray} (h : ¬ IsNum s) : parseE s = (0, false) := by
  unfold parseE
  split
  · rename_i v hv
    split
    · rename_i hc
      refine absurd ⟨v, hc.1.1, hc.1.2, ?_⟩ h
      unfold numB
      rw [hc.2]
    · rfl
  · rfl
theorem bt_list (l : List UInt8) (i : Nat) (h : i < l.length) : bt ⟨l.toArray⟩ (i : Int) = ((l[i]).toNat : Int) := by
  unfold bt
  rw [Int.toNat_natCast]
  rw [dif_pos (show i < (⟨l.toArray⟩ : ByteArray).size from h)]
  rfl
def valT (t : ByteArray) : Nat → Int
  | 0 => 0
  | i + 1 => 10 * valT t i + (bt t (i : Int) - 48)
def digT (t : ByteArray) (i : Nat) : Bool := decide (48 ≤ bt t (i : Int) ∧ bt t (i : Int) ≤ 57)
theorem valT_bound (t : ByteArray) : ∀ i, i ≤ 6 → (∀ j, j < i → digT t j = true) → 0 ≤ valT t i ∧ valT t i < (10 ^ i : Nat)
  | 0, _, _ => by simp [valT]
  | i + 1, hi, h => by
    have h1 := valT_bound t i (by omega) (fun j hj => h j (by omega))
    have h2 := of_decide_eq_true (h i (by omega))
    simp only [valT]
    have : ((10 ^ (i + 1) : Nat) : Int) = 10 * ((10 ^ i : Nat) : Int) := by rw [Nat.pow_succ]; omega
    omega
theorem valT_list (l : List UInt8) : ∀ i, i ≤ l.length → valT ⟨l.toArray⟩ i = dv (l.take i)
  | 0, _ => by simp [valT, dv]
  | i + 1, h => by
    rw [valT, valT_list l i (by omega), bt_list l i (by omega), List.take_succ_eq_append_getElem (by omega), dv_snoc]
/-- What the reference's reading comes to, the sign taken off. -/
def readT (s t : ByteArray) : Int × Bool := if (1 ≤ (t.size : Int) ∧ (t.size : Int) ≤ 6) ∧ (List.range t.size).all (digT t) = true then (if t.size < s.size then (if (numB (-(valT t t.size))).toList = s.toList then (-(valT t t.size), true) else (0, false)) else (if (numB (valT t t.size)).toList = s.toList then (valT t t.size, true) else (0, false))) else (0, false)
theorem read1_ev (s t : ByteArray) : Ev (fun k => spec_l1Read.j1 k s t) (readT s t) := by
  have hin : ∀ a l h : Int, spec_l1In.f a l h = some (decide (l ≤ a ∧ a ≤ h)) := fun a l h => by
    unfold spec_l1In.f
    by_cases h1 : a ≥ l
    · rw [if_pos h1]; congr 1; simp [h1]
    · rw [if_neg h1]; congr 1; symm; simp; intro h2; omega
  refine Ev.step (fun k => rfl) (ev_bind0 (hin _ _ _) (ev_ite (fun c => ?_) (fun c => ev_now ?_)))
  case refine_2 =>
    unfold readT
    rw [decide_eq_true_eq] at c
    rw [if_neg (fun h => c h.1)]
  rw [decide_eq_true_eq] at c
  have h := ev_all (L := fun k (n : Int) i => spec_l1Read.l0 k s t n i) t.size (valT t) (digT t) (0, false) (if t.size < s.size then (if (numB (-(valT t t.size))).toList = s.toList then (-(valT t t.size), true) else (0, false)) else (if (numB (valT t t.size)).toList = s.toList then (valT t t.size, true) else (0, false))) ?h0 ?h1 ?h2
  case h0 =>
    intro hd
    have hb := valT_bound t t.size (by omega) hd
    have hp : ((10 ^ t.size : Nat) : Int) ≤ 1000000 := by
      have : 10 ^ t.size ≤ 10 ^ 6 := Nat.pow_le_pow_right (by omega) (by omega)
      omega
    refine Ev.step (fun k => rfl) (ev_neg (by omega) ?_)
    have hw : wrap64 (-(valT t t.size)) = -(valT t t.size) := wrap_id (by omega) (by omega)
    by_cases d : t.size < s.size
    · rw [if_pos d]
      refine ev_pos (by omega) ?_
      rw [hw]
      refine Ev.bind (l1Num_ev _ (by omega) (by omega)) (ev_ite (fun e => ev_now (by rw [if_pos e])) (fun e => ev_now (by rw [if_neg e])))
    · rw [if_neg d]
      exact ev_neg (by omega) (Ev.bind (l1Num_ev _ (by omega) (by omega)) (ev_ite (fun e => ev_now (by rw [if_pos e])) (fun e => ev_now (by rw [if_neg e]))))
  case h1 =>
    intro i hi hd hc y hy
    have hb := valT_bound t i (by omega) hd
    have hp : ((10 ^ i : Nat) : Int) ≤ 1000000 := by
      have : 10 ^ i ≤ 10 ^ 6 := Nat.pow_le_pow_right (by omega) (by omega)
      omega
    have hc' := of_decide_eq_true hc
    refine Ev.step (fun k => rfl) (ev_pos (by omega) (ev_pos (by omega) (ev_neg (by omega) (ev_neg (by omega) ?_))))
    rw [wrap_succ hi (by omega), show (bt t (i : Int) - 48) % 256 = bt t (i : Int) - 48 by omega, show wrap64 (10 * valT t i) = 10 * valT t i from wrap_id (by omega) (by omega), show wrap64 (10 * valT t i + (bt t (i : Int) - 48)) = valT t (i + 1) from wrap_id (by omega) (by omega)]
    exact hy
  case h2 =>
    intro i hi _ hc
    have hc' := of_decide_eq_false hc
    refine Ev.step (fun k => rfl) (ev_pos (by omega) (ev_pos (by omega) (ev_ite (fun _ => ev_now rfl) (fun h1 => ev_pos (by omega) (ev_now rfl)))))
  refine ev_cast h ?_
  unfold readT
  by_cases d : (List.range t.size).all (digT t) = true
  · rw [if_pos d]
    exact (if_pos ⟨c, d⟩).symm
  · rw [if_neg d, if_neg (fun h => d h.2)]
def tailOf (s : ByteArray) : ByteArray := if (s.size : Int) > 1 ∧ bt s 0 = 45 then s.extract 1 s.size else s
theorem read_ev0 (s : ByteArray) : Ev (fun k => spec_l1Read.f k s) (readT s (tailOf s)) := by
  unfold spec_l1Read.f tailOf
  by_cases c : (s.size : Int) > 1
  · refine ev_pos c (ev_pos (by omega) ?_)
    by_cases d : bt s 0 = 45
    · rw [if_pos ⟨c, d⟩, show (bt s 0 == 45) = true by simpa using d]
      exact Ev.step (fun k => rfl) (show Ev (fun k => if 1 ≤ (s.size : Int) then spec_l1Read.j1 k s (s.extract 1 s.size) else none) _ from ev_pos (by omega) (read1_ev s _))
    · rw [if_neg (fun h => d h.2), show (bt s 0 == 45) = false by simpa using d]
      exact Ev.step (fun k => rfl) (show Ev (fun k => spec_l1Read.j1 k s s) _ from read1_ev s s)
  · rw [if_neg (fun h => c h.1)]
    exact ev_neg c (Ev.step (fun k => rfl) (show Ev (fun k => spec_l1Read.j1 k s s) _ from read1_ev s s))
theorem digits_all (u : Nat) : (List.range (⟨(Lib.decDigits u).toArray⟩ : ByteArray).size).all (digT ⟨(Lib.decDigits u).toArray⟩) = true := by
  rw [all_range]
  intro i hi
  have hi' : i < (Lib.decDigits u).length := hi
  unfold digT
  rw [bt_list _ i hi']
  have := dec_digit u _ (List.getElem_mem hi')
  exact decide_eq_true (by omega)
theorem val_dec (u : Nat) : valT ⟨(Lib.decDigits u).toArray⟩ (⟨(Lib.decDigits u).toArray⟩ : ByteArray).size = (u : Int) := by
  have := valT_list (Lib.decDigits u) (Lib.decDigits u).length (Nat.le_refl _)
  rw [List.take_length, dv_dec] at this
  exact this
theorem ba_inj2 {a b : ByteArray} (h : a.toList = b.toList) : a = b := by
  rw [Lib.toList_data, Lib.toList_data] at h
  exact ByteArray.ext (Array.toList_inj.1 h)
theorem readT_eq (s : ByteArray) : readT s (tailOf s) = parseE s := by
  by_cases hn : IsNum s
  · obtain ⟨v, h0, h1, rfl⟩ := hn
    rw [parse_num h0 h1]
    by_cases c : v < 0
    · have e : numB v = ⟨(45 :: Lib.decDigits v.natAbs).toArray⟩ := by unfold numB Lib.itoa; rw [if_pos c]
      have hl := dec_len 5 v.natAbs (by omega)
      have hsz : (numB v).size = 1 + (Lib.decDigits v.natAbs).length := by rw [e]; show (45 :: Lib.decDigits v.natAbs).length = _; rw [List.length_cons]; omega
      have hb : bt (numB v) 0 = 45 := by rw [e]; exact bt_list (45 :: Lib.decDigits v.natAbs) 0 (by simp)
      have ht : tailOf (numB v) = ⟨(Lib.decDigits v.natAbs).toArray⟩ := by
        unfold tailOf
        rw [if_pos ⟨by omega, hb⟩, hsz, e]
        apply ByteArray.ext
        rw [ByteArray.data_extract]
        apply Array.toList_inj.1
        rw [Array.toList_extract]
        simp [List.extract]
      have hts : (⟨(Lib.decDigits v.natAbs).toArray⟩ : ByteArray).size = (Lib.decDigits v.natAbs).length := rfl
      unfold readT
      rw [ht, if_pos ⟨⟨by omega, by omega⟩, digits_all _⟩, if_pos (by omega), val_dec, show -((v.natAbs : Nat) : Int) = v by omega, if_pos rfl]
    · have e : numB v = ⟨(Lib.decDigits v.toNat).toArray⟩ := by unfold numB Lib.itoa; rw [if_neg c]
      have hl := dec_len 5 v.toNat (by omega)
      have hts : (⟨(Lib.decDigits v.toNat).toArray⟩ : ByteArray).size = (Lib.decDigits v.toNat).length := rfl
      have ht : tailOf (numB v) = numB v := by
        unfold tailOf
        rw [if_neg]
        rintro ⟨_, hb⟩
        rw [e, show (0 : Int) = ((0 : Nat) : Int) from rfl, bt_list _ 0 (by omega)] at hb
        have := dec_digit v.toNat _ (List.getElem_mem (show 0 < (Lib.decDigits v.toNat).length by omega))
        omega
      unfold readT
      rw [ht]
      have hval : valT (numB v) (numB v).size = v := by rw [e, val_dec]; omega
      have hsz : (numB v).size = (Lib.decDigits v.toNat).length := by rw [e]; rfl
      rw [if_pos ⟨⟨by omega, by omega⟩, by rw [e]; exact digits_all _⟩, if_neg (by omega), hval, if_pos rfl]
  · rw [parse_not hn]
    unfold readT
    split
    · rename_i hc
      have hb := valT_bound (tailOf s) (tailOf s).size (by omega) (fun j hj => all_range.1 hc.2 j hj)
      have hp : ((10 ^ (tailOf s).size : Nat) : Int) ≤ 1000000 := by
        have : 10 ^ (tailOf s).size ≤ 10 ^ 6 := Nat.pow_le_pow_right (by omega) (by omega)
        omega
      split
      · split
        · rename_i he; exact absurd ⟨_, by omega, by omega, (ba_inj2 he).symm⟩ hn
        · rfl
      · split
        · rename_i he; exact absurd ⟨_, by omega, by omega, (ba_inj2 he).symm⟩ hn
        · rfl
    · rfl
theorem l1Read_ev (s : ByteArray) : Ev (fun k => spec_l1Read.f k s) (parseE s) := ev_cast (read_ev0 s) (readT_eq s)
theorem parseInt_eq (s : ByteArray) (h : s.size ≤ 281474976710656) : impl_ParseInt.f s = some (parseE s) := by unfold impl_ParseInt.f; rw [if_pos h]
end Go.Proofs.YtfkaiiconllbhaaDoor.X
set_option linter.unusedVariables false
set_option linter.unusedSimpArgs false
namespace Go.Proofs.YtfkaiiconllbhaaDoor.X
open Go.RowKit Go.Proofs.YtfkaiiconllbhaaDoorW.PrintWords Go.Proofs.YtfkaiiconllbhaaDoor.E
def mkB (l : List UInt8) : ByteArray := ⟨l.toArray⟩
theorem mkB_list (l : List UInt8) : (mkB l).data.toList = l := by unfold mkB; simp
theorem mkB_eta (x : ByteArray) : mkB x.data.toList = x := by
  apply ByteArray.ext
  unfold mkB
  simp
theorem mkB_size (l : List UInt8) : (mkB l).size = l.length := rfl
theorem mkB_app (l m : List UInt8) : mkB l ++ mkB m = mkB (l ++ m) := ba_append l m
theorem mkB_inj {l m : List UInt8} (h : mkB l = mkB m) : l = m := by
  have := congrArg (fun x : ByteArray => x.data.toList) h
  simpa [mkB_list] using this
theorem mkB_extract (l : List UInt8) (a b : Nat) : (mkB l).extract a b = mkB ((l.drop a).take (b - a)) := by
  apply ByteArray.ext
  rw [ByteArray.data_extract]
  apply Array.toList_inj.1
  rw [Array.toList_extract]
  unfold mkB
  simp [List.extract]
def consH (b : UInt8) : List (List UInt8) → List (List UInt8)
  | [] => [[b]]
  | h :: t => (b :: h) :: t
def splitL (c : UInt8) : List UInt8 → List (List UInt8)
  | [] => [[]]
  | b :: r => if b = c then [] :: splitL c r else consH b (splitL c r)
def withH (p : List UInt8) : List (List UInt8) → List (List UInt8)
  | [] => [p]
  | h :: t => (p ++ h) :: t
theorem splitL_ne (c : UInt8) : ∀ l, splitL c l ≠ []
  | [] => by simp [splitL]
  | b :: r => by
    rw [splitL]
    split
    · simp
    · cases splitL c r <;> simp [consH]
theorem withH_nil {ls : List (List UInt8)} (h : ls ≠ []) : withH [] ls = ls := by
  cases ls with
  | nil => exact absurd rfl h
  | cons a t => rfl
theorem withH_cons (p : List UInt8) (b : UInt8) (ls : List (List UInt8)) : withH p (consH b ls) = withH (p ++ [b]) ls := by
  cases ls <;> simp [withH, consH]
theorem take_snoc (l : List UInt8) (s i : Nat) (hs : s ≤ i) (hi : i < l.length) : (l.drop s).take (i + 1 - s) = (l.drop s).take (i - s) ++ [l[i]] := by
  rw [show i + 1 - s = (i - s) + 1 by omega, List.take_succ_eq_append_getElem (by rw [List.length_drop]; omega), List.getElem_drop]
  congr 2
  simp only [show s + (i - s) = i by omega]
theorem split_go (l : List UInt8) (c : UInt8) (hl : l.length < 8796093022208) : ∀ (n i st : Nat) (out : List ByteArray), l.length - i = n → st ≤ i → i ≤ l.length → out.length ≤ st →
    Ev (fun k => spec_l1Split.l0 k (mkB l) (c.toNat : Int) out (st : Int) (i : Int)) (out ++ (withH ((l.drop st).take (i - st)) (splitL c (l.drop i))).map mkB) := by
  have hz := mkB_size l
  intro n
  induction n with
  | zero =>
    intro i st out hn hs hi ho
    obtain rfl : i = l.length := by omega
    refine Ev.step (fun k => rfl) (ev_neg (by omega) (ev_pos (by omega) (ev_pos (by omega) (ev_pos (by omega) (ev_now ?_)))))
    rw [Int.toNat_natCast, mkB_extract, hz, List.drop_length]
    simp [splitL, withH]
  | succ n ih =>
    intro i st out hn hs hi ho
    have hlt : i < l.length := by omega
    have hd : l.drop i = l[i] :: l.drop (i + 1) := List.drop_eq_getElem_cons hlt
    have hb : bt (mkB l) (i : Int) = ((l[i]).toNat : Int) := bt_list l i hlt
    rw [hd, splitL]
    by_cases hc : l[i] = c
    · rw [if_pos hc]
      have h := ih (i + 1) (i + 1) (out ++ [mkB ((l.drop st).take (i - st))]) (by omega) (Nat.le_refl _) (by omega) (by rw [List.length_append, List.length_singleton]; omega)
      rw [Nat.sub_self, List.take_zero, withH_nil (splitL_ne c _), List.append_assoc] at h
      refine Ev.step (fun k => rfl) (ev_pos (by omega) (ev_pos (by omega) (ev_pos (by rw [hb, hc]) (ev_pos (by omega) (ev_pos (by omega) (ev_pos (by omega) (ev_pos (by omega) ?_)))))))
      rw [Int.toNat_natCast, Int.toNat_natCast, mkB_extract, wrap_succ (show i < l.length by omega) (by omega)]
      simp only [withH, List.append_nil, List.map_cons]
      exact h
    · rw [if_neg hc, withH_cons, ← take_snoc l st i hs hlt]
      have h := ih (i + 1) st out (by omega) (by omega) (by omega) ho
      refine Ev.step (fun k => rfl) (ev_pos (by omega) (ev_pos (by omega) (ev_neg (by rw [hb]; intro e; exact hc (UInt8.toNat_inj.1 (by omega))) ?_)))
      rw [wrap_succ (show i < l.length by omega) (by omega)]
      exact h
theorem l1Split_ev (x : ByteArray) (c : UInt8) (hx : x.size < 8796093022208) (c' : Int) (hc : c' = (c.toNat : Int)) : Ev (fun k => spec_l1Split.f k x c') ((splitL c x.data.toList).map mkB) := by
  have h := split_go x.data.toList c (by rw [Array.length_toList]; exact hx) x.data.toList.length 0 0 [] (by omega) (by omega) (by omega) (by simp)
  rw [mkB_eta, List.drop_zero, Nat.sub_zero, List.take_zero, withH_nil (splitL_ne c _), List.nil_append] at h
  subst hc
  exact h
theorem splitL_no {c : UInt8} : ∀ {l : List UInt8}, c ∉ l → splitL c l = [l]
  | [], _ => rfl
  | b :: r, h => by
    rw [splitL, if_neg (fun e => h (by rw [← e]; exact List.mem_cons_self ..)), splitL_no (fun m => h (List.mem_cons_of_mem _ m))]
    rfl
theorem splitL_yes {c : UInt8} : ∀ {l : List UInt8} (r : List UInt8), c ∉ l → splitL c (l ++ c :: r) = l :: splitL c r
  | [], r, _ => by rw [List.nil_append, splitL, if_pos rfl]
  | b :: l, r, h => by
    rw [List.cons_append, splitL, if_neg (fun e => h (by rw [← e]; exact List.mem_cons_self ..)), splitL_yes r (fun m => h (List.mem_cons_of_mem _ m))]
    rfl
end Go.Proofs.YtfkaiiconllbhaaDoor.X
set_option linter.unusedVariables false
set_option linter.unusedSimpArgs false
namespace Go.Proofs.YtfkaiiconllbhaaDoor.X
open Go.RowKit Go.Proofs.YtfkaiiconllbhaaDoorW.PrintWords Go.Proofs.YtfkaiiconllbhaaDoor.E
theorem hasPre_yes (p t : ByteArray) : stringslite_HasPrefix.f (p ++ t) p = some true := by
  have hz : (p ++ t).size = p.size + t.size := ByteArray.size_append
  unfold stringslite_HasPrefix.f
  rw [if_pos (by omega), if_pos (by omega), if_pos (by omega), ByteArray.extract_append_eq_left rfl, beq_self_eq_true]
theorem hasPre_no (a p : ByteArray) (h : ∀ t, a ≠ p ++ t) : stringslite_HasPrefix.f a p = some false := by
  unfold stringslite_HasPrefix.f
  by_cases c : (a.size : Int) ≥ (p.size : Int)
  · rw [if_pos c, if_pos (by omega), if_pos (by omega)]
    congr 1
    rw [beq_eq_false_iff_ne]
    intro e
    have e2 : a.extract 0 p.size = p := ba_inj2 e
    refine h (a.extract p.size a.size) ?_
    have : a = a.extract 0 p.size ++ a.extract p.size a.size := by
      rw [ByteArray.extract_append_extract, Nat.min_eq_left (by omega), Nat.max_eq_right (by omega), ByteArray.extract_zero_size]
    rw [e2] at this
    exact this
  · rw [if_neg c]
theorem cutPre_yes (p t : ByteArray) : strings_CutPrefix.f (p ++ t) p = some (t, true) := by
  have hz : (p ++ t).size = p.size + t.size := ByteArray.size_append
  have h1 : stringslite_CutPrefix.f (p ++ t) p = some (t, true) := by
    unfold stringslite_CutPrefix.f
    rw [hasPre_yes, Option.bind_some, if_pos rfl, if_pos (by omega), if_pos (by omega), ByteArray.extract_append_eq_right rfl hz]
  unfold strings_CutPrefix.f
  rw [h1]
  rfl
theorem cutPre_no (a p : ByteArray) (h : ∀ t, a ≠ p ++ t) : strings_CutPrefix.f a p = some (a, false) := by
  have h1 : stringslite_CutPrefix.f a p = some (a, false) := by
    unfold stringslite_CutPrefix.f
    rw [hasPre_no a p h]
    rfl
  unfold strings_CutPrefix.f
  rw [h1]
  rfl
theorem cutPre_cases (a p : ByteArray) : (∃ t, a = p ++ t) ∨ ∀ t, a ≠ p ++ t := by
  by_cases h : ∃ t, a = p ++ t
  · exact .inl h
  · exact .inr fun t e => h ⟨t, e⟩
theorem trimSuf_yes (x p : ByteArray) (hx : x.size + p.size ≤ 4611686018427387904) : strings_TrimSuffix.f (x ++ p) p = some x := by
  have hz : (x ++ p).size = x.size + p.size := ByteArray.size_append
  have hw : wrap64 (((x ++ p).size : Int) - (p.size : Int)) = (x.size : Int) := by rw [hz, wrap_id (by omega) (by omega)]; omega
  have e1 : (x ++ p).extract x.size (x ++ p).size = p := ByteArray.extract_append_eq_right rfl hz
  have e2 : (x ++ p).extract 0 x.size = x := ByteArray.extract_append_eq_left rfl
  have h0 : stringslite_HasSuffix.f (x ++ p) p = some true := by
    unfold stringslite_HasSuffix.f
    rw [hw, if_pos (by omega), if_pos (by omega), if_pos (by omega), Int.toNat_natCast, e1, beq_self_eq_true]
  have h1 : stringslite_TrimSuffix.f (x ++ p) p = some x := by
    unfold stringslite_TrimSuffix.f
    rw [h0, Option.bind_some]
    rw [hw, if_pos rfl, if_pos (by omega), if_pos (by omega), Int.toNat_natCast, e2]
  unfold strings_TrimSuffix.f; rw [h1]; rfl
theorem trimSuf_any (a p : ByteArray) (ha : a.size ≤ 4611686018427387904) : ∃ t, strings_TrimSuffix.f a p = some t ∧ t.size ≤ a.size := by
  have h1 : ∃ t, stringslite_TrimSuffix.f a p = some t ∧ t.size ≤ a.size := by
    unfold stringslite_TrimSuffix.f stringslite_HasSuffix.f
    by_cases c : (a.size : Int) ≥ (p.size : Int)
    · have hw : wrap64 ((a.size : Int) - (p.size : Int)) = (a.size : Int) - (p.size : Int) := wrap_id (by omega) (by omega)
      rw [hw, if_pos c, if_pos (by omega), if_pos (by omega), Option.bind_some]
      split
      · rw [if_pos (by omega), if_pos (by omega)]
        exact ⟨_, rfl, by rw [ByteArray.size_extract]; omega⟩
      · exact ⟨_, rfl, Nat.le_refl _⟩
    · rw [if_neg c]
      exact ⟨_, rfl, Nat.le_refl _⟩
  obtain ⟨t, h, ht⟩ := h1
  refine ⟨t, ?_, ht⟩
  unfold strings_TrimSuffix.f
  rw [h]
  rfl
end Go.Proofs.YtfkaiiconllbhaaDoor.X
set_option linter.unusedVariables false
set_option linter.unusedSimpArgs false
namespace Go.Proofs.YtfkaiiconllbhaaDoor.X
open Go.RowKit Go.Proofs.YtfkaiiconllbhaaDoorW.PrintWords Go.Proofs.YtfkaiiconllbhaaDoor.E
theorem itoa_byte (v : Int) : ∀ c ∈ Lib.itoa v, c.toNat = 45 ∨ (48 ≤ c.toNat ∧ c.toNat ≤ 57) := by
  intro c hc
  unfold Lib.itoa at hc
  split at hc
  · rcases List.mem_cons.1 hc with rfl | h
    · exact .inl rfl
    · exact .inr (dec_digit _ c h)
  · exact .inr (dec_digit _ c hc)
theorem itoa_nosp (v : Int) : (32 : UInt8) ∉ Lib.itoa v := by
  intro h
  have := itoa_byte v _ h
  have h2 : (32 : UInt8).toNat = 32 := rfl
  omega
theorem yearB_pos {y : Int} (h : y > 0) : yearB y = mkB [65, 68, 32] ++ mkB (Lib.itoa y) := by unfold yearB; rw [if_pos h]; rfl
theorem yearB_neg {y : Int} (h : ¬ y > 0) : yearB y = mkB (Lib.itoa (1 - y)) ++ mkB [32, 66, 67] := by unfold yearB; rw [if_neg h]; rfl
theorem parseE_itoa {v : Int} (h0 : -999999 ≤ v) (h1 : v ≤ 999999) : parseE (mkB (Lib.itoa v)) = (v, true) := parse_num h0 h1
theorem neg_noAD {y : Int} (h : ¬ y > 0) (p : List UInt8) (t : ByteArray) : yearB y ≠ mkB (65 :: p) ++ t := by
  intro e
  rw [yearB_neg h, mkB_app, ← mkB_eta t, mkB_app] at e
  have e := mkB_inj e
  cases hi : Lib.itoa (1 - y) with
  | nil =>
    unfold Lib.itoa at hi
    split at hi
    · cases hi
    · exact absurd hi (dec_ne _)
  | cons b r =>
    rw [hi] at e
    simp only [List.cons_append] at e
    injection e with e1 _
    have := itoa_byte (1 - y) b (by rw [hi]; exact List.mem_cons_self ..)
    rw [e1] at this
    have h2 : (65 : UInt8).toNat = 65 := rfl
    omega
/-- The year that a text tells, and whether it tells one. -/
def IsYr (s : ByteArray) (y : Int) : Prop := yearOk y = true ∧ yearB y = s
theorem implYr_yes {s : ByteArray} {y : Int} (h : IsYr s y) : impl_EnglishToYear.f s = some (y, true) := by
  obtain ⟨hy, rfl⟩ := h
  have hr := of_decide_eq_true hy
  have hz := yearB_size y hr.1 hr.2
  have hE : impl_YearToEnglish.f y = some (yearB y, true) := by rw [implYear_eq]; unfold yearE; rw [if_pos hy]
  unfold impl_EnglishToYear.f
  by_cases c : y > 0
  · have hp : strings_CutPrefix.f (yearB y) (⟨#[65, 68, 32]⟩ : ByteArray) = some (mkB (Lib.itoa y), true) := by
      rw [yearB_pos c]; exact cutPre_yes _ _
    have hP : impl_ParseInt.f (mkB (Lib.itoa y)) = some (y, true) := by
      rw [parseInt_eq _ (by have := numB_size y (by omega) (by omega); unfold numB at this; unfold mkB; omega), parseE_itoa (by omega) (by omega)]
    rw [hp, Option.bind_some, if_pos rfl, hP, Option.bind_some, hE, Option.bind_some, if_pos rfl, if_pos rfl]
  · have hp : strings_CutPrefix.f (yearB y) (⟨#[65, 68, 32]⟩ : ByteArray) = some (yearB y, false) := cutPre_no _ _ (fun t => neg_noAD c [68, 32] t)
    have hsz := numB_size (1 - y) (by omega) (by omega)
    have ht : strings_TrimSuffix.f (yearB y) (⟨#[32, 66, 67]⟩ : ByteArray) = some (mkB (Lib.itoa (1 - y))) := by
      rw [yearB_neg c]; exact trimSuf_yes _ _ (by unfold numB at hsz; unfold mkB; have : (⟨[32, 66, 67].toArray⟩ : ByteArray).size = 3 := rfl; omega)
    have hP : impl_ParseInt.f (mkB (Lib.itoa (1 - y))) = some (1 - y, true) := by
      rw [parseInt_eq _ (by unfold numB at hsz; unfold mkB; omega), parseE_itoa (by omega) (by omega)]
    have hw : wrap64 (1 - (1 - y)) = y := by rw [wrap_id (by omega) (by omega)]; omega
    rw [hp, Option.bind_some, if_neg (by simp), ht, Option.bind_some, hP, Option.bind_some]
    simp only
    rw [hw, hE, Option.bind_some, if_pos rfl, if_pos rfl]
theorem implChk {s : ByteArray} (h : ∀ y, ¬ IsYr s y) (y : Int) : (impl_YearToEnglish.f y).bind (fun bt => if bt.2 = true then (if bt.1.toList = s.toList then some (y, true) else some (0, false)) else some (0, false)) = some ((0 : Int), false) := by
  rw [implYear_eq, Option.bind_some]
  unfold yearE
  by_cases c : yearOk y = true
  · rw [if_pos c, if_pos rfl, if_neg (fun e => h y ⟨c, ba_inj2 e⟩)]
  · rw [if_neg c, if_neg (by simp)]
theorem implYr_no {s : ByteArray} (hs : s.size ≤ 4194304) (h : ∀ y, ¬ IsYr s y) : impl_EnglishToYear.f s = some (0, false) := by
  unfold impl_EnglishToYear.f
  rcases cutPre_cases s (⟨#[65, 68, 32]⟩ : ByteArray) with ⟨t, e⟩ | hn
  · have hz : s.size = 3 + t.size := by rw [e, ByteArray.size_append]; rfl
    have hp : strings_CutPrefix.f s (⟨#[65, 68, 32]⟩ : ByteArray) = some (t, true) := by rw [e]; exact cutPre_yes _ _
    rw [hp, Option.bind_some, if_pos rfl, parseInt_eq _ (show t.size ≤ _ by omega), Option.bind_some]
    exact implChk h _
  · obtain ⟨t, ht, htz⟩ := trimSuf_any s (⟨#[32, 66, 67]⟩ : ByteArray) (by omega)
    rw [cutPre_no _ _ hn, Option.bind_some, if_neg (by simp), ht, Option.bind_some, parseInt_eq _ (by omega), Option.bind_some]
    exact implChk h _
theorem specJ_yes {s : ByteArray} {y : Int} (h : IsYr s y) : Ev (fun k => spec_l25ReadYear.j0 k s y) (y, true) := by
  obtain ⟨hy, rfl⟩ := h
  have hr := of_decide_eq_true hy
  exact Ev.step (fun k => rfl) (ev_bind0 (l9Year_eq y) (ev_pos hy (Ev.bind (l25Year_ev y hr.1 hr.2) (ev_pos rfl (ev_now rfl)))))
theorem specJ_no {s : ByteArray} (h : ∀ y, ¬ IsYr s y) (y : Int) : Ev (fun k => spec_l25ReadYear.j0 k s y) (0, false) := by
  refine Ev.step (fun k => rfl) (ev_bind0 (l9Year_eq y) (ev_ite (fun c => ?_) (fun c => ev_now rfl)))
  have hr := of_decide_eq_true c
  exact Ev.bind (l25Year_ev y hr.1 hr.2) (ev_neg (fun e => h y ⟨c, ba_inj2 e⟩) (ev_now rfl))
theorem mkB_toList (l : List UInt8) : (mkB l).toList = l := by rw [Lib.toList_data, mkB_list]
theorem specYr_yes {s : ByteArray} {y : Int} (h : IsYr s y) : Ev (fun k => spec_l25ReadYear.f k s) (y, true) := by
  have h' := h
  obtain ⟨hy, rfl⟩ := h
  have hr := of_decide_eq_true hy
  have hz := yearB_size y hr.1 hr.2
  unfold spec_l25ReadYear.f
  have hS := l1Split_ev (yearB y) 32 (by omega) 32 rfl
  by_cases c : y > 0
  · have e : splitL 32 (yearB y).data.toList = [[65, 68], Lib.itoa y] := by
      rw [yearB_pos c, mkB_app, mkB_list]
      show splitL 32 ([65, 68] ++ 32 :: Lib.itoa y) = _
      rw [splitL_yes _ (by decide), splitL_no (itoa_nosp y)]
    rw [e] at hS
    refine Ev.bind hS (ev_pos rfl (ev_pos (show (0 : Int) < ((2 : Nat) : Int) by decide) (ev_pos (by show (mkB [65, 68]).toList = _; rw [mkB_toList]) (ev_pos (show (1 : Int) < ((2 : Nat) : Int) by decide) ?_))))
    have hR := l1Read_ev (mkB (Lib.itoa y))
    rw [parseE_itoa (by omega) (by omega)] at hR
    exact Ev.bind hR (ev_pos rfl (specJ_yes h'))
  · have e : splitL 32 (yearB y).data.toList = [Lib.itoa (1 - y), [66, 67]] := by
      rw [yearB_neg c, mkB_app, mkB_list]
      show splitL 32 (Lib.itoa (1 - y) ++ 32 :: [66, 67]) = _
      rw [splitL_yes _ (itoa_nosp _), splitL_no (by decide)]
    rw [e] at hS
    refine Ev.bind hS (ev_pos rfl (ev_pos (show (0 : Int) < ((2 : Nat) : Int) by decide) (ev_neg ?_ ?_)))
    · show ¬ (mkB (Lib.itoa (1 - y))).toList = _
      rw [mkB_toList]
      intro e2
      have := itoa_byte (1 - y) 65 (by rw [e2]; decide)
      have h2 : (65 : UInt8).toNat = 65 := rfl
      omega
    · have hR := l1Read_ev (mkB (Lib.itoa (1 - y)))
      rw [parseE_itoa (by omega) (by omega)] at hR
      refine Ev.bind hR (ev_pos rfl ?_)
      have hw : wrap64 (1 - (1 - y)) = y := by rw [wrap_id (by omega) (by omega)]; omega
      rw [hw]
      exact specJ_yes h'
theorem specYr_no {s : ByteArray} (hs : s.size ≤ 4194304) (h : ∀ y, ¬ IsYr s y) : Ev (fun k => spec_l25ReadYear.f k s) (0, false) := by
  unfold spec_l25ReadYear.f
  refine Ev.bind (l1Split_ev s 32 (by omega) 32 rfl) ?_
  generalize (splitL 32 s.data.toList).map mkB = ws
  refine ev_ite (fun c => ev_pos (by omega) (ev_ite (fun d => ev_pos (by omega) ?_) (fun d => ?_))) (fun c => ev_now rfl)
  · exact Ev.bind (l1Read_ev _) (ev_ite (fun _ => specJ_no h _) (fun _ => ev_now rfl))
  · exact Ev.bind (l1Read_ev _) (ev_ite (fun _ => specJ_no h _) (fun _ => ev_now rfl))
/-- What both answer to a text. -/
theorem yr_both (s : ByteArray) (hs : s.size ≤ 4194304) : ∃ r : Int × Bool, (r = (0, false) ∨ ∃ y, IsYr s y ∧ r = (y, true)) ∧ Ev (fun k => spec_l25ReadYear.f k s) r ∧ impl_EnglishToYear.f s = some r := by
  by_cases h : ∃ y, IsYr s y
  · obtain ⟨y, hy⟩ := h
    exact ⟨(y, true), .inr ⟨y, hy, rfl⟩, specYr_yes hy, implYr_yes hy⟩
  · exact ⟨(0, false), .inl rfl, specYr_no hs (fun y hy => h ⟨y, hy⟩), implYr_no hs (fun y hy => h ⟨y, hy⟩)⟩
end Go.Proofs.YtfkaiiconllbhaaDoor.X
set_option linter.unusedVariables false
set_option linter.unusedSimpArgs false
namespace Go.Proofs.YtfkaiiconllbhaaDoor.X
open Go.RowKit Go.Proofs.YtfkaiiconllbhaaDoorW.PrintWords Go.Proofs.YtfkaiiconllbhaaDoor.E
/-- The two words of a year. -/
theorem year_words (y : Int) : ∃ u v : List UInt8, yearB y = mkB (u ++ 32 :: v) ∧ (32 : UInt8) ∉ u ∧ (32 : UInt8) ∉ v ∧ (97 : UInt8) ∉ u ++ 32 :: v := by
  have h97 : ∀ n, (97 : UInt8) ∉ Lib.itoa n := by
    intro n h
    have := itoa_byte n _ h
    have h2 : (97 : UInt8).toNat = 97 := rfl
    omega
  by_cases c : y > 0
  · refine ⟨[65, 68], Lib.itoa y, ?_, by decide, itoa_nosp y, ?_⟩
    · rw [yearB_pos c, mkB_app]; rfl
    · intro h
      rcases List.mem_append.1 h with h | h
      · revert h; decide
      · rcases List.mem_cons.1 h with h | h
        · revert h; decide
        · exact h97 y h
  · refine ⟨Lib.itoa (1 - y), [66, 67], ?_, itoa_nosp _, by decide, ?_⟩
    · rw [yearB_neg c, mkB_app]
    · intro h
      rcases List.mem_append.1 h with h | h
      · exact h97 _ h
      · revert h; decide
theorem iv_same (a : Int) : ivB a a = mkB [105, 110, 32] ++ yearB a := by unfold ivB; rw [if_pos rfl]; rfl
theorem iv_two {a b : Int} (h : ¬ a = b) : ivB a b = mkB [98, 101, 116, 119, 101, 101, 110, 32] ++ ((yearB a ++ mkB [32, 97, 110, 100, 32]) ++ yearB b) := by
  unfold ivB
  rw [if_neg h, ByteArray.append_assoc, ByteArray.append_assoc, ByteArray.append_assoc]
  rfl
theorem iv_noin {a b : Int} (h : ¬ a = b) (t : ByteArray) : ivB a b ≠ mkB [105, 110, 32] ++ t := by
  intro e
  rw [iv_two h, ← mkB_eta ((yearB a ++ mkB [32, 97, 110, 100, 32]) ++ yearB b), mkB_app, ← mkB_eta t, mkB_app] at e
  have e := mkB_inj e
  simp only [List.cons_append] at e
  injection e with e1 _
  revert e1
  decide
theorem trimPre_yes (p t : ByteArray) : strings_TrimPrefix.f (p ++ t) p = some t := by
  have hz : (p ++ t).size = p.size + t.size := ByteArray.size_append
  have h1 : stringslite_TrimPrefix.f (p ++ t) p = some t := by
    unfold stringslite_TrimPrefix.f
    rw [hasPre_yes, Option.bind_some, if_pos rfl, if_pos (by omega), if_pos (by omega), ByteArray.extract_append_eq_right rfl hz]
  unfold strings_TrimPrefix.f
  rw [h1]
  rfl
theorem trimPre_any (a p : ByteArray) : ∃ t, strings_TrimPrefix.f a p = some t ∧ t.size ≤ a.size := by
  rcases cutPre_cases a p with ⟨t, rfl⟩ | h
  · exact ⟨t, trimPre_yes p t, by rw [ByteArray.size_append]; omega⟩
  · have h1 : stringslite_TrimPrefix.f a p = some a := by
      unfold stringslite_TrimPrefix.f
      rw [hasPre_no a p h]
      rfl
    refine ⟨a, ?_, Nat.le_refl _⟩
    unfold strings_TrimPrefix.f
    rw [h1]
    rfl
theorem index_and (p q : List UInt8) (h : (97 : UInt8) ∉ p) : Lib.index ((p ++ [32, 97, 110, 100, 32]) ++ q) [32, 97, 110, 100, 32] = (p.length : Int) := by
  refine Lib.index_first (by simp) ?_ ?_
  · unfold Lib.occAt
    rw [List.append_assoc, List.drop_left]
    simp
  · intro j hj
    rw [Bool.eq_false_iff]
    intro ho
    have h1 := Lib.occAt_second (c0 := 32) (c1 := 97) (t := [110, 100, 32]) rfl ho
    by_cases c : j + 1 < p.length
    · rw [List.append_assoc, List.getElem?_append_left c] at h1
      exact h (List.mem_of_getElem? h1)
    · rw [List.append_assoc, List.getElem?_append_right (by omega), show j + 1 - p.length = 0 by omega] at h1
      revert h1
      simp
theorem cut_and (x y : ByteArray) (hx : (97 : UInt8) ∉ x.data.toList) (hs : x.size + y.size ≤ 1000) : strings_Cut.f ((x ++ mkB [32, 97, 110, 100, 32]) ++ y) (⟨#[32, 97, 110, 100, 32]⟩ : ByteArray) = some (x, y, true) := by
  have hz : ((x ++ mkB [32, 97, 110, 100, 32]) ++ y).size = x.size + 5 + y.size := by rw [ByteArray.size_append, ByteArray.size_append]; rfl
  have hl : ((x ++ mkB [32, 97, 110, 100, 32]) ++ y).data.toList = (x.data.toList ++ [32, 97, 110, 100, 32]) ++ y.data.toList := by
    rw [ByteArray.data_append, Array.toList_append, ByteArray.data_append, Array.toList_append, mkB_list]
  have hi := index_and x.data.toList y.data.toList hx
  unfold strings_Cut.f
  rw [if_pos (by omega), hl]
  have e : Lib.cut ((x.data.toList ++ [32, 97, 110, 100, 32]) ++ y.data.toList) [32, 97, 110, 100, 32] = (x.data.toList, y.data.toList, true) := by
    unfold Lib.cut
    rw [hi, if_pos (by omega), Int.toNat_natCast, List.append_assoc, List.take_left]
    rw [show x.data.toList.length + [32, 97, 110, 100, (32 : UInt8)].length = (x.data.toList ++ [32, 97, 110, 100, (32 : UInt8)]).length by rw [List.length_append], ← List.append_assoc, List.drop_left]
  show some ((⟨(Lib.cut _ [32, 97, 110, 100, 32]).1.toArray⟩ : ByteArray), (⟨(Lib.cut _ [32, 97, 110, 100, 32]).2.1.toArray⟩ : ByteArray), (Lib.cut _ [32, 97, 110, 100, 32]).2.2) = _
  rw [e]
theorem cut_any (s p : ByteArray) (hs : s.size ≤ 1048576) : ∃ x y b, strings_Cut.f s p = some (x, y, b) ∧ x.size ≤ s.size ∧ y.size ≤ s.size := by
  have hl : s.data.toList.length = s.size := by rw [Array.length_toList]; rfl
  unfold strings_Cut.f
  rw [if_pos (by omega)]
  refine ⟨_, _, _, rfl, ?_, ?_⟩
  · show (Lib.cut s.data.toList p.data.toList).1.length ≤ _
    unfold Lib.cut
    split
    · simp only [List.length_take]; omega
    · simp only; omega
  · show (Lib.cut s.data.toList p.data.toList).2.1.length ≤ _
    unfold Lib.cut
    split
    · simp only [List.length_drop]; omega
    · simp
def IsIv (s : ByteArray) (a b : Int) : Prop := ivOk a b = true ∧ ivB a b = s
theorem isYr_of {a : Int} (h : -20000 ≤ a ∧ a ≤ 2100) : IsYr (yearB a) a := ⟨decide_eq_true h, rfl⟩
theorem implIv_yes {s : ByteArray} {a b : Int} (h : IsIv s a b) : impl_EnglishToInterval.f s = some (a, b, true) := by
  obtain ⟨ho, rfl⟩ := h
  have hr := ivOk_iff ho
  have hE : impl_IntervalToEnglish.f a b = some (ivB a b, true) := by rw [implIv_eq]; unfold ivE; rw [if_pos ho]
  have sa := yearB_size a hr.1.1 hr.1.2
  have sb := yearB_size b hr.2.1.1 hr.2.1.2
  unfold impl_EnglishToInterval.f
  by_cases c : a = b
  · subst c
    have hp : strings_CutPrefix.f (ivB a a) (⟨#[105, 110, 32]⟩ : ByteArray) = some (yearB a, true) := by rw [iv_same]; exact cutPre_yes _ _
    rw [hp, Option.bind_some, if_pos rfl, implYr_yes (isYr_of hr.1), Option.bind_some, hE, Option.bind_some, if_pos rfl, if_pos rfl]
  · have hp : strings_CutPrefix.f (ivB a b) (⟨#[105, 110, 32]⟩ : ByteArray) = some (ivB a b, false) := cutPre_no _ _ (fun t => iv_noin c t)
    have ht : strings_TrimPrefix.f (ivB a b) (⟨#[98, 101, 116, 119, 101, 101, 110, 32]⟩ : ByteArray) = some ((yearB a ++ mkB [32, 97, 110, 100, 32]) ++ yearB b) := by rw [iv_two c]; exact trimPre_yes _ _
    obtain ⟨u, v, hy, _, _, h97⟩ := year_words a
    rw [hp, Option.bind_some, if_neg (by simp), ht, Option.bind_some, cut_and _ _ (by rw [hy, mkB_list]; exact h97) (by omega), Option.bind_some, implYr_yes (isYr_of hr.1), Option.bind_some, implYr_yes (isYr_of hr.2.1), Option.bind_some, hE, Option.bind_some, if_pos rfl, if_pos rfl]
theorem implIvChk {s : ByteArray} (h : ∀ a b, ¬ IsIv s a b) (a b : Int) : (impl_IntervalToEnglish.f a b).bind (fun bt => if bt.2 = true then (if bt.1.toList = s.toList then some (a, b, true) else some (0, 0, false)) else some (0, 0, false)) = some ((0 : Int), (0 : Int), false) := by
  rw [implIv_eq, Option.bind_some]
  unfold ivE
  by_cases c : ivOk a b = true
  · rw [if_pos c, if_pos rfl, if_neg (fun e => h a b ⟨c, ba_inj2 e⟩)]
  · rw [if_neg c, if_neg (by simp)]
theorem implIv_no {s : ByteArray} (hs : s.size ≤ 1048576) (h : ∀ a b, ¬ IsIv s a b) : impl_EnglishToInterval.f s = some (0, 0, false) := by
  unfold impl_EnglishToInterval.f
  rcases cutPre_cases s (⟨#[105, 110, 32]⟩ : ByteArray) with ⟨t, e⟩ | hn
  · have hz : s.size = 3 + t.size := by rw [e, ByteArray.size_append]; rfl
    have hp : strings_CutPrefix.f s (⟨#[105, 110, 32]⟩ : ByteArray) = some (t, true) := by rw [e]; exact cutPre_yes _ _
    obtain ⟨r, _, _, hr⟩ := yr_both t (by omega)
    rw [hp, Option.bind_some, if_pos rfl, hr, Option.bind_some]
    exact implIvChk h _ _
  · obtain ⟨t, ht, htz⟩ := trimPre_any s (⟨#[98, 101, 116, 119, 101, 101, 110, 32]⟩ : ByteArray)
    obtain ⟨x, y, b, hc, hx, hy⟩ := cut_any t (⟨#[32, 97, 110, 100, 32]⟩ : ByteArray) (by omega)
    obtain ⟨r, _, _, hr⟩ := yr_both x (by omega)
    obtain ⟨q, _, _, hq⟩ := yr_both y (by omega)
    rw [cutPre_no _ _ hn, Option.bind_some, if_neg (by simp), ht, Option.bind_some, hc, Option.bind_some, hr, Option.bind_some, hq, Option.bind_some]
    exact implIvChk h _ _
theorem words2_ev (ws : List ByteArray) (i : Nat) (a1 a2 : Int) (h1 : a1 = (i : Int)) (h2 : a2 = (i : Int) + 2) (hi : i + 2 ≤ ws.length) (hl : ws.length ≤ 1000000000) (hs : ∀ x ∈ ws, x.size ≤ 1048576) :
    Ev (fun k => spec_l25Words.f k ws a1 a2) ((ws.getD i ByteArray.empty ++ mkB [32]) ++ ws.getD (i + 1) ByteArray.empty) := by
  subst h1 h2
  have hA : (ws.getD i ByteArray.empty).size ≤ 1048576 := by rw [getD_in (by omega)]; exact hs _ (List.getElem_mem _)
  have hB : (ws.getD (i + 1) ByteArray.empty).size ≤ 1048576 := by rw [getD_in (by omega)]; exact hs _ (List.getElem_mem _)
  have r0 : rdOf ByteArray.empty ws (i : Int) = ws.getD i ByteArray.empty := by unfold rdOf; rw [Int.toNat_natCast]
  have r1 : rdOf ByteArray.empty ws ((i + 1 : Nat) : Int) = ws.getD (i + 1) ByteArray.empty := by unfold rdOf; rw [Int.toNat_natCast]
  have w0 : wrap64 ((i : Int) + 1) = ((i + 1 : Nat) : Int) := wrap_succ (show i < i + 1 by omega) (by omega)
  have w1 : wrap64 (((i + 1 : Nat) : Int) + 1) = ((i + 2 : Nat) : Int) := wrap_succ (show i + 1 < i + 2 by omega) (by omega)
  have e0 : (⟨#[]⟩ : ByteArray) ++ ws.getD i ByteArray.empty = ws.getD i ByteArray.empty := ByteArray.empty_append
  have z0 : (⟨#[]⟩ : ByteArray).size = 0 := rfl
  have z1 : (⟨#[32]⟩ : ByteArray).size = 1 := rfl
  refine Ev.step (fun k => rfl) (ev_pos (by omega) (ev_neg (by omega) (ev_pos (by omega) (ev_pos (by omega) (ev_pos (by rw [r0]; omega) ?_)))))
  rw [r0, w0, e0]
  refine Ev.step (fun k => rfl) (ev_pos (by omega) (ev_pos (by omega) (ev_pos (by omega) (ev_pos (by omega) (ev_pos (by omega) (ev_pos (by rw [r1, ByteArray.size_append]; omega) ?_))))))
  rw [r1, w1]
  exact Ev.step (fun k => rfl) (ev_neg (by omega) (ev_now rfl))
theorem splitL_le (c : UInt8) : ∀ (l : List UInt8), ∀ p ∈ splitL c l, p.length ≤ l.length
  | [], p, h => by simp [splitL] at h; simp [h]
  | b :: r, p, h => by
    rw [splitL] at h
    split at h
    · rcases List.mem_cons.1 h with rfl | h
      · simp
      · have := splitL_le c r p h
        simp only [List.length_cons]; omega
    · cases hq : splitL c r with
      | nil => exact absurd hq (splitL_ne c r)
      | cons a t =>
        have ih := splitL_le c r
        rw [hq] at h ih
        simp only [consH] at h
        rcases List.mem_cons.1 h with rfl | h
        · have := ih a (List.mem_cons_self ..)
          simp only [List.length_cons]; omega
        · have := ih p (List.mem_cons_of_mem _ h)
          simp only [List.length_cons]; omega
theorem splitL_count (c : UInt8) : ∀ (l : List UInt8), (splitL c l).length ≤ l.length + 1
  | [] => by simp [splitL]
  | b :: r => by
    have ih := splitL_count c r
    rw [splitL]
    split
    · simp only [List.length_cons]; omega
    · cases hq : splitL c r with
      | nil => simp [consH]
      | cons a t => rw [hq] at ih; simp only [consH, List.length_cons] at *; omega
theorem specIvJ_yes' {s : ByteArray} {a b : Int} {x y : Bool} (h : IsIv s a b) (hx : x = true) (hy : y = true) : Ev (fun k => spec_l25ReadInterval.j0 k s x y a b) (a, b, true) := by
  obtain ⟨ho, rfl⟩ := h
  have hr := ivOk_iff ho
  refine Ev.step (fun k => rfl) (ev_pos hx (ev_pos hy (ev_bind0 (l9Interval_eq a b) ?_)))
  exact ev_pos ho (Ev.bind (l25Interval_ev a b hr.1 hr.2.1) (ev_pos rfl (ev_now rfl)))
theorem specIvJ_yes {s : ByteArray} {a b : Int} (h : IsIv s a b) : Ev (fun k => spec_l25ReadInterval.j0 k s true true a b) (a, b, true) := specIvJ_yes' h rfl rfl
theorem specIvJ_no {s : ByteArray} (h : ∀ a b, ¬ IsIv s a b) (x y : Bool) (a b : Int) : Ev (fun k => spec_l25ReadInterval.j0 k s x y a b) (0, 0, false) := by
  refine Ev.step (fun k => rfl) (ev_ite (fun _ => ev_ite (fun _ => ev_bind0 (l9Interval_eq a b) (ev_ite (fun c => ?_) (fun _ => ev_now rfl))) (fun _ => ev_now rfl)) (fun _ => ev_now rfl))
  have hr := ivOk_iff c
  exact Ev.bind (l25Interval_ev a b hr.1 hr.2.1) (ev_neg (fun e => h a b ⟨c, ba_inj2 e⟩) (ev_now rfl))
theorem ws_small (s : ByteArray) (hs : s.size ≤ 1048576) : ((splitL 32 s.data.toList).map mkB).length ≤ 1000000000 ∧ ∀ x ∈ (splitL 32 s.data.toList).map mkB, x.size ≤ 1048576 := by
  have hl : s.data.toList.length = s.size := by rw [Array.length_toList]; rfl
  constructor
  · have := splitL_count 32 s.data.toList
    rw [List.length_map]; omega
  · intro x hx
    obtain ⟨p, hp, rfl⟩ := List.mem_map.1 hx
    have := splitL_le 32 _ p hp
    rw [mkB_size]; omega
theorem specIv_no {s : ByteArray} (hs : s.size ≤ 1048576) (h : ∀ a b, ¬ IsIv s a b) : Ev (fun k => spec_l25ReadInterval.f k s) (0, 0, false) := by
  unfold spec_l25ReadInterval.f
  obtain ⟨w1, w2⟩ := ws_small s hs
  refine Ev.bind (l1Split_ev s 32 (by omega) 32 rfl) ?_
  generalize (splitL 32 s.data.toList).map mkB = ws at *
  have two : ∀ i, i + 2 ≤ ws.length → ∃ r : Int × Bool, Ev (fun k => spec_l25ReadYear.f k ((ws.getD i ByteArray.empty ++ mkB [32]) ++ ws.getD (i + 1) ByteArray.empty)) r := by
    intro i hi
    have hA : (ws.getD i ByteArray.empty).size ≤ 1048576 := by rw [getD_in (by omega)]; exact w2 _ (List.getElem_mem _)
    have hB : (ws.getD (i + 1) ByteArray.empty).size ≤ 1048576 := by rw [getD_in (by omega)]; exact w2 _ (List.getElem_mem _)
    have hz : (mkB [32]).size = 1 := rfl
    obtain ⟨r, _, hr, _⟩ := yr_both ((ws.getD i ByteArray.empty ++ mkB [32]) ++ ws.getD (i + 1) ByteArray.empty) (by rw [ByteArray.size_append, ByteArray.size_append]; omega)
    exact ⟨r, hr⟩
  refine ev_ite (fun c => ?_) (fun _ => ev_ite (fun c => ?_) (fun _ => specIvJ_no h _ _ _ _))
  · obtain ⟨r, hr⟩ := two 1 (by omega)
    exact Ev.bind (words2_ev ws 1 1 3 rfl rfl (by omega) w1 w2) (Ev.bind hr (specIvJ_no h _ _ _ _))
  · obtain ⟨r, hr⟩ := two 1 (by omega)
    obtain ⟨q, hq⟩ := two 4 (by omega)
    exact Ev.bind (words2_ev ws 1 1 3 rfl rfl (by omega) w1 w2) (Ev.bind hr (Ev.bind (words2_ev ws 4 4 6 rfl rfl (by omega) w1 w2) (Ev.bind hq (specIvJ_no h _ _ _ _))))
theorem specIv_yes {s : ByteArray} {a b : Int} (hs : s.size ≤ 1048576) (h : IsIv s a b) : Ev (fun k => spec_l25ReadInterval.f k s) (a, b, true) := by
  have h' := h
  obtain ⟨ho, he⟩ := h
  have hr := ivOk_iff ho
  unfold spec_l25ReadInterval.f
  obtain ⟨w1, w2⟩ := ws_small s hs
  obtain ⟨u, v, hy, hu, hv, _⟩ := year_words a
  obtain ⟨u2, v2, hy2, hu2, hv2, _⟩ := year_words b
  refine Ev.bind (l1Split_ev s 32 (by omega) 32 rfl) ?_
  have hYa := specYr_yes (isYr_of hr.1)
  have hYb := specYr_yes (isYr_of hr.2.1)
  by_cases c : a = b
  · subst c
    have e : splitL 32 s.data.toList = [[105, 110], u, v] := by
      rw [← he, iv_same, hy, mkB_app, mkB_list]
      show splitL 32 ([105, 110] ++ 32 :: (u ++ 32 :: v)) = _
      rw [splitL_yes _ (by decide), splitL_yes _ hu, splitL_no hv]
    rw [e] at w1 w2 ⊢
    have hW := words2_ev _ 1 1 3 rfl rfl (by simp) w1 w2
    have ew : ([[105, 110], u, v].map mkB).getD 1 ByteArray.empty ++ mkB [32] ++ ([[105, 110], u, v].map mkB).getD (1 + 1) ByteArray.empty = yearB a := by
      show (mkB u ++ mkB [32]) ++ mkB v = _
      rw [mkB_app, mkB_app, hy, List.append_assoc]; rfl
    rw [ew] at hW
    exact ev_pos rfl (Ev.bind hW (Ev.bind hYa (specIvJ_yes h')))
  · have e : splitL 32 s.data.toList = [[98, 101, 116, 119, 101, 101, 110], u, v, [97, 110, 100], u2, v2] := by
      rw [← he, iv_two c, hy, hy2, mkB_app, mkB_app, mkB_app, mkB_list]
      have e2 : [98, 101, 116, 119, 101, 101, 110, 32] ++ ((u ++ 32 :: v) ++ [32, 97, 110, 100, 32] ++ (u2 ++ 32 :: v2)) = [98, 101, 116, 119, 101, 101, 110] ++ 32 :: (u ++ 32 :: (v ++ 32 :: ([97, 110, 100] ++ 32 :: (u2 ++ 32 :: v2)))) := by simp
      rw [e2, splitL_yes _ (by decide), splitL_yes _ hu, splitL_yes _ hv, splitL_yes _ (by decide), splitL_yes _ hu2, splitL_no hv2]
    rw [e] at w1 w2 ⊢
    have hW := words2_ev _ 1 1 3 rfl rfl (by simp) w1 w2
    have hW2 := words2_ev _ 4 4 6 rfl rfl (by simp) w1 w2
    generalize hws : [[98, 101, 116, 119, 101, 101, 110], u, v, [97, 110, 100], u2, v2].map mkB = ws at *
    have ew : ws.getD 1 ByteArray.empty ++ mkB [32] ++ ws.getD (1 + 1) ByteArray.empty = yearB a := by
      rw [← hws]
      show (mkB u ++ mkB [32]) ++ mkB v = _
      rw [mkB_app, mkB_app, hy, List.append_assoc]; rfl
    have ew2 : ws.getD 4 ByteArray.empty ++ mkB [32] ++ ws.getD (4 + 1) ByteArray.empty = yearB b := by
      rw [← hws]
      show (mkB u2 ++ mkB [32]) ++ mkB v2 = _
      rw [mkB_app, mkB_app, hy2, List.append_assoc]; rfl
    rw [ew] at hW
    rw [ew2] at hW2
    have hlen : (ws.length : Int) = 6 := by rw [← hws]; rfl
    exact ev_neg (by omega) (ev_pos hlen (Ev.bind hW (Ev.bind hYa (Ev.bind hW2 (Ev.bind hYb (specIvJ_yes h'))))))
theorem iv_both (s : ByteArray) (hs : s.size ≤ 1048576) : ∃ r : Int × Int × Bool, Ev (fun k => spec_l25ReadInterval.f k s) r ∧ impl_EnglishToInterval.f s = some r := by
  by_cases h : ∃ a b, IsIv s a b
  · obtain ⟨a, b, h⟩ := h
    exact ⟨(a, b, true), specIv_yes hs h, implIv_yes h⟩
  · exact ⟨(0, 0, false), specIv_no hs (fun a b hh => h ⟨a, b, hh⟩), implIv_no hs (fun a b hh => h ⟨a, b, hh⟩)⟩
end Go.Proofs.YtfkaiiconllbhaaDoor.X
set_option linter.unusedVariables false
set_option linter.unusedSimpArgs false
namespace Go.Proofs.YtfkaiiconllbhaaDoor.Pure
open Go.RowKit Go.Proofs.YtfkaiiconllbhaaDoor.X Go.Proofs.YtfkaiiconllbhaaDoorW.PrintWords Go.Proofs.YtfkaiiconllbhaaDoor.E
theorem eqInterval_same (a b : Int) : laws_eqInterval.f a b a b = some true := by
  unfold laws_eqInterval.f
  simp
theorem FnExactEnglishToInterval : PureFnExactEnglishToInterval := by
  intro s hs
  unfold laws_FnExactEnglishToInterval.f
  by_cases c : (s.size : Int) > 1048576
  · exact ev_get (ev_pos c (ev_now rfl))
  obtain ⟨r, h1, h2⟩ := iv_both s (by omega)
  exact ev_get (ev_neg c (Ev.bind (Ev.bind h1 (ev_now rfl)) (ev_bind0 h2 (ev_bind0 (eqInterval_same _ _) (ev_pos rfl (ev_neg (by simp) (ev_now rfl)))))))
end Go.Proofs.YtfkaiiconllbhaaDoor.Pure
namespace Go.Proofs.YtfkaiiconllbhaaDoor.fnExactEnglishToInterval
open Go.ChangeShapes Go.WideShapes Go.ChangeAt Go.RowKit Go.Joins Go.Proofs.YtfkaiiconllbhaaDoorW.PrintWords Go.Proofs.YtfkaiiconllbhaaDoor.Open Go.Proofs.YtfkaiiconllbhaaDoor.X
open Go.ChangeMaps (open_string shut_string)
set_option linter.unusedVariables false
theorem own : ownKnob Tryd.prog.godebug = none := by kernel_rfl
def laid : List (String × DataW Unit) := [("math/bits.deBruijn32tab", Rows.laid_math_bits_deBruijn32tab), ("math/bits.deBruijn64tab", Rows.laid_math_bits_deBruijn64tab), ("internal/strconv.uint64pow10", Rows.laid_internal_strconv_uint64pow10), ("strconv.ErrRange", Rows.laid_strconv_ErrRange), ("strconv.ErrSyntax", Rows.laid_strconv_ErrSyntax)]
theorem door_met (os : Os) (args : Array Value) : laidMetH Tryd.prog laid ((World.doorLaid Tryd.prog 62 os).forCall (fun _ _ => 0) ⟨#[], args, []⟩).memory :=
  laidMetH_of_parts3 (fuel := 8) (laidMet_of_run' 8 (by kernel_rfl) (by kernel_rfl)) (by kernel_rfl) (by kernel_rfl)
theorem gTab : Tryd.prog.globalNamed "internal/strconv.uint64pow10" = some 1 := by kernel_rfl
theorem gTabType : (Tryd.prog.globals[1]?).map (·.type) = some 145 := by kernel_rfl
theorem cellsT : Tryd.prog.cellsOf 145 = 20 := by kernel_rfl
theorem cellsE : Tryd.prog.cellsOf 123 = 1 := by kernel_rfl
theorem only : laid.filter (fun x => x.1 == "internal/strconv.uint64pow10") = [("internal/strconv.uint64pow10", Lib.tabData .u64 Lib.pow10Tab)] := by kernel_rfl
theorem tableT {W : World} (h : laidMetH Tryd.prog laid W) : GT W := by
  have h2 := h.filter (fun x => x.1 == "internal/strconv.uint64pow10")
  rw [only] at h2
  rw [MakeChecks.laidMetH_plain _ _ _ (by kernel_rfl)] at h2
  exact Lib.tabIs_of_head (rest := []) gTab gTabType Tryd.underlying145 Tryd.underlying123 cellsE cellsT h2
theorem star : "*" ++ "errors.errorString" = "*errors.errorString" := by decide
theorem rowE (u : TypeId) (h : Tryd.prog.typeName? 3 u = some "*errors.errorString") : u = 165 := typeName_ptr_named (nm := "errors.errorString") (by rw [star]; kernel_rfl) (by kernel_rfl) (by decide) u (by rw [star]; exact h)
theorem gErrSyntax : Tryd.prog.globalNamed "strconv.ErrSyntax" = some 2 := by kernel_rfl
theorem onlyErrSyntax : laid.filter (fun x => x.1 == "strconv.ErrSyntax") = [("strconv.ErrSyntax", Rows.laid_strconv_ErrSyntax)] := by kernel_rfl
theorem cellErrSyntax {W : World} (h : laidMetH Tryd.prog laid W) : ∃ t v, W.cell? ⟨2, 0, none⟩ = some (.iface t v) := by
  have h2 := h.filter (fun x => x.1 == "strconv.ErrSyntax")
  rw [onlyErrSyntax] at h2
  rw [MakeChecks.laidMetH_plain _ _ _ (by kernel_rfl)] at h2
  unfold Rows.laid_strconv_ErrSyntax at h2
  obtain ⟨a, s, hv, _, _, _⟩ := laid_sentinel h2 gErrSyntax (by kernel_rfl : (Tryd.prog.globals[2]?).map (·.type) = some 99) Tryd.underlying99 rowE Tryd.underlying165 Tryd.underlying167 rfl rfl Tryd.underlying9 (by kernel_rfl : Tryd.prog.cellsOf 167 = 1) (by kernel_rfl : Tryd.prog.cellsOf 9 = 1)
  exact ⟨_, _, World.var?_cell gErrSyntax hv 0⟩
theorem gErrRange : Tryd.prog.globalNamed "strconv.ErrRange" = some 3 := by kernel_rfl
theorem onlyErrRange : laid.filter (fun x => x.1 == "strconv.ErrRange") = [("strconv.ErrRange", Rows.laid_strconv_ErrRange)] := by kernel_rfl
theorem cellErrRange {W : World} (h : laidMetH Tryd.prog laid W) : ∃ t v, W.cell? ⟨3, 0, none⟩ = some (.iface t v) := by
  have h2 := h.filter (fun x => x.1 == "strconv.ErrRange")
  rw [onlyErrRange] at h2
  rw [MakeChecks.laidMetH_plain _ _ _ (by kernel_rfl)] at h2
  unfold Rows.laid_strconv_ErrRange at h2
  obtain ⟨a, s, hv, _, _, _⟩ := laid_sentinel h2 gErrRange (by kernel_rfl : (Tryd.prog.globals[3]?).map (·.type) = some 99) Tryd.underlying99 rowE Tryd.underlying165 Tryd.underlying167 rfl rfl Tryd.underlying9 (by kernel_rfl : Tryd.prog.cellsOf 167 = 1) (by kernel_rfl : Tryd.prog.cellsOf 9 = 1)
  exact ⟨_, _, World.var?_cell gErrRange hv 0⟩
theorem table {W : World} (h : laidMetH Tryd.prog laid W) (hsh : W.ShapedOpen Tryd.prog) : GE W := ⟨tableT h, cellErrSyntax h, cellErrRange h, Tryd.laysM145.s1_3 W hsh⟩
/-- The wrap of a row with a condition on the world, the world's shape kept for the walk. -/
theorem ret_and_shaped {H : Type} {enc : TypeId × Value → H} {a : Assume} {C : Checked} {os : Os} {f : FuncId} {fn : Func} {s : ChangeSpec} {conds : List PathCond} {apart fresh handsOn again : Bool} {X : World → Array Value → Prop}
    (hX : ∀ (w w' : World) (args : Array Value), w.heap = w'.heap → X w args → X w' args)
    (own : ownKnob C.prog.godebug = none) (started : os.Started) (noInit : C.prog.inits.idxOf? f = none) (hfn : C.prog.funcs[f]? = some fn)
    (witness : ∃ (w : World) (tape : Tape) (i : Input), w.os = os ∧ (w.forCall tape i).Shaped C.prog ∧ i.vars = [] ∧ Input.okWide C.prog (w.forCall tape i) .any w.heap.size f i ∧
      ((s.pre enc C.prog fn conds apart (w.forCall tape i).memory i.args ∧ X (w.forCall tape i).memory i.args) ∧ sizedMet enc C.prog fn (OpenSpec.ofChange s) apart (w.forCall tape i).memory i.args) ∧ a.holds C.prog (lone (Frame.enter C.prog f i.args .normal) [] (w.forCall tape i)))
    (contract : ∀ (W : World) (base : Nat) (args : Array Value) (ds gs : List (DataW H)) (before : List MemPlace),
      (∀ (j : Nat) t v, fn.params[j]? = some t → args[j]? = some v → Value.okWide C.prog W .any base t v) → DataW.Whole enc C.prog fn.params.toList s.vars apart W args.toList ds gs before →
      conds.all (PathCond.test C.prog ⟨fn.params.toList, ds, s.plain.varTypes C.prog, gs⟩) = true → (DataW.weightsEach C.prog (fn.params.toList ++ s.plain.varTypes C.prog) (ds ++ gs)).all (· ≤ reachBytes) = true → X W args →
      W.ShapedOpen C.prog → a.holds C.prog (lone (Frame.enter C.prog f args .normal) [] W) → Calls C.prog f args W fun e W' => ∃ v, e = .returned v ∧ s.post enc C.prog fn apart fresh handsOn again W args v W') :
    ReturnsInHanded a C os f .any (fun w args => (s.pre enc C.prog fn conds apart w args ∧ X w args) ∧ sizedMet enc C.prog fn (OpenSpec.ofChange s) apart w args) (s.post enc C.prog fn apart fresh handsOn again) := by
  refine returnsInHanded_of_calls own started noInit witness ?_
  intro w tape i _ hsh _ hok hpre hholds
  obtain ⟨_, _, _, fn', hfn', _, _, _, _, hval⟩ := hok
  have e : fn' = fn := Option.some.inj (hfn'.symm.trans hfn)
  subst e
  obtain ⟨⟨⟨ds, gs, before, hw, hc⟩, hx⟩, hz⟩ := hpre
  refine (contract (w.forCall tape i) w.heap.size i.args ds gs before hval (DataW.Whole.of_heap (w' := w.forCall tape i) (by rfl) hw) hc (hz.weights hw) (hX _ _ _ (by rfl) hx) hsh hholds).mono fun e W' ⟨v, he, hp⟩ => ?_
  subst he
  exact ChangeSpec.post_blind hp
set_option maxRecDepth 100000 in
theorem lifted (os : Os) (started : os.Started) (H : Type) (enc : TypeId × Value → H) :
    ReturnsInHanded {} Tryd.checked os 8 .any (fun w args => (Rows.fnExactEnglishToIntervalSpec.pre enc Tryd.prog Tryd.f8 [] false w args ∧ laidMetH Tryd.prog laid w) ∧ sizedMet enc Tryd.prog Tryd.f8 (OpenSpec.ofChange Rows.fnExactEnglishToIntervalSpec) false w args)
      (Rows.fnExactEnglishToIntervalSpec.post enc Tryd.prog Tryd.f8 false true false false) := by
  refine ret_and_shaped (C := Tryd.checked) (X := fun w _ => laidMetH Tryd.prog laid w) (fun _ _ _ hh h => h.of_heap hh) own started (by kernel_rfl) Tryd.func8
    (ChangeSpec.witness_shaped (enc := enc) (C := Tryd.checked) (os := os) (X := fun w _ => laidMetH Tryd.prog laid w) false (World.doorLaid Tryd.prog 62 os) #[.string ByteArray.empty] 8 rfl (World.shaped_of_RefB (by kernel_rfl) (by kernel_rfl)) (by kernel_rfl) (by kernel_rfl) (by kernel_rfl) (door_met os _)) ?_
  intro W base args ds gs before hval0 hW hcnd hsz0 hL hsh _
  have hval : ∀ (j : Nat) t v, Tryd.f8.params[j]? = some t → args[j]? = some v → Value.okWide Tryd.prog W .any base t v := hval0
  have hW' := hW
  obtain ⟨p, q, hA0, hV, rfl, hfz, hnd⟩ := hW
  have hA : DataW.TrodAll enc Tryd.prog W 0 (fun _ => true) true Tryd.f8.params.toList args.toList ds p := hA0
  rw [Tryd.params8] at hA hval
  obtain ⟨v0, vs0, d0, ds0, p0, q0, hargs, rfl, rfl, h0, r0⟩ := trodAll_cons hA
  obtain ⟨rfl, rfl, rfl⟩ := trodAll_nil r0
  obtain rfl : args = #[v0] := by cases args; simp_all
  obtain ⟨rfl, rfl⟩ := trodVars_none hV
  obtain ⟨a0, rfl, rfl, rfl, y0⟩ := open_string Tryd.underlying9 (hval 0 9 v0 rfl rfl) h0
  have w0 : a0.size ≤ 9223372036854775807 := by simpa [maxLen] using y0
  clear hA0 hval0 hsz0
  obtain ⟨k, hk⟩ := Pure.FnExactEnglishToInterval a0 w0
  refine (X.laws_FnExactEnglishToInterval.calls k a0 true W (table hL hsh) hk (Aside0.mk rfl)).mono ?_
  rintro e W' ⟨he, bel0⟩
  have bel : Below W.heap.size W W' := by first | exact bel0 | exact bel0.below
  subst he
  exact ⟨_, rfl, _, _, _, [], _, [], hW', trodAll_mk1 (shut_bool Tryd.underlying4 _), (trodAll_cons_mk (shut_string Tryd.underlying9 y0) trodAll_mk0), rfl, bel.frame _, fun h => by cases h⟩
theorem over : Rows.fnExactEnglishToIntervalRow.holds Tryd.pinned (OpenSpec.ofChange Rows.fnExactEnglishToIntervalSpec) :=
  OpenClaim.holds_of_wide 8 Tryd.f8 rfl rfl rfl rfl rfl rfl rfl ⟨rfl, rfl, rfl, rfl, rfl⟩ rfl rfl rfl rfl rfl (by kernel_rfl) Tryd.func8 (by kernel_rfl)
    (of_decide_eq_true (by kernel_rfl)) (by unfold Func.isWrapper; first | (rw [if_pos (by decide +kernel)]; kernel_rfl) | (rw [if_neg (by decide +kernel)]; exact ⟨rfl, rfl⟩))
    (fun os started H enc _ => lifted os started H enc)
theorem proved : Rows.FnExactEnglishToIntervalSaid := over
#print axioms proved
theorem plain (f : FuncId) (fn : Func) (hf : Tryd.pinned.checked.prog.funcNamed "loop.example/g00876/laws.FnExactEnglishToInterval" = some f) (hfn : Tryd.pinned.checked.prog.funcs[f]? = some fn) :
    true = Tryd.pinned.checked.prog.looks [] ∧ ∀ (j : Nat) t, fn.params[j]? = some t → Tryd.pinned.checked.prog.wantsStandIn t = false := by
  obtain rfl : f = 8 := Option.some.inj ((show Tryd.prog.funcNamed "loop.example/g00876/laws.FnExactEnglishToInterval" = some 8 by kernel_rfl).symm.trans hf) |>.symm
  obtain rfl : fn = Tryd.f8 := (Option.some.inj (Tryd.func8.symm.trans hfn)).symm
  refine ⟨by kernel_rfl, fun j t ht => ?_⟩
  rw [Tryd.params8] at ht
  have hm := Array.mem_of_getElem? ht
  simp only [List.mem_toArray, List.mem_cons, List.not_mem_nil, or_false] at hm
  rcases hm with rfl
  exact (show Tryd.prog.wantsStandIn 9 = false by kernel_rfl)
theorem card : Rows.FnExactEnglishToIntervalCardSaid :=
  Claim7.holds_tied_plain_at .later [] _ _ _ _ proved (fun _ h => by cases h) (by kernel_rfl) (fun _ h => by cases h) fnExactEnglishToInterval_row_tie rfl ⟨rfl, rfl⟩ (by kernel_rfl) rfl plain (by kernel_rfl)
#print axioms card
end Go.Proofs.YtfkaiiconllbhaaDoor.fnExactEnglishToInterval
namespace Go.Proofs.YtfkaiiconllbhaaDoor
/-- The row, under a short name, for the claim. -/
theorem fnExactEnglishToInterval_holds : Rows.FnExactEnglishToIntervalSaid := fnExactEnglishToInterval.proved
/-- The card, under a short name. -/
theorem fnExactEnglishToIntervalCard_holds : Rows.FnExactEnglishToIntervalCardSaid := fnExactEnglishToInterval.card
end Go.Proofs.YtfkaiiconllbhaaDoor
