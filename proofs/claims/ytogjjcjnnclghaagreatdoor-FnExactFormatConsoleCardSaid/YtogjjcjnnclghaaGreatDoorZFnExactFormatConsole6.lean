/- For every console the law FnExactFormatConsole answers true. No condition beyond what a reading tells.
This file (part 6 of 7) holds what the proof needs: plain functions with rounds and contracts written by programs of this work over the translation, and the lemmas. -/
import Derived.Test.YtogjjcjnnclghaaGreatDoorZFnExactFormatConsole2
import Derived.Test.YtogjjcjnnclghaaGreatDoorZFnExactFormatConsole5
import Derived.Test.YtogjjcjnnclghaaGreatDoorZFnExactFormatConsole3
import Derived.Test.YtogjjcjnnclghaaGreatDoorZFnExactFormatConsole1
import Derived.ChangeArms
import Derived.DataReads
import Derived.Deep.Slices
import Derived.ChangeOld
import Derived.OpenShut
import Derived.Test.YtogjjcjnnclghaaGreatDoorZFnExactFormatConsole4
import Derived.Lib.ItoaNum
import Derived.Lib.ItoaLen
import Derived.Lib.IndexAny
import Derived.Laws.Strings
namespace Go.Proofs.YtogjjcjnnclghaaGreatDoor.X
open Go.RowKit Go.Proofs.YtogjjcjnnclghaaGreatDoorW.PrintWords Go.Proofs.YtogjjcjnnclghaaGreatDoorW.PrintLast Go.Proofs.YtogjjcjnnclghaaGreatDoorW.PrintMore
attribute [local go_sem] max2_int min2_int max_two min_two max_three min_three max_four min_four   -- for this text's walks alone
set_option linter.unusedVariables false
set_option linter.unusedSimpArgs false
attribute [-simp] ByteArray.size_append ByteArray.size_extract
attribute [-go_sem] ByteArray.size_append'

/-! ### laws_toConsole: function 7 -/
def laws_toConsole.f (k : Nat) (l0_0 : List (S100)) (l0_1 : List (S102)) (l0_2 : List (S77)) (a0_3 : ByteArray) (a0_4 : ByteArray) (a0_5 : Int) : Option ((List (S79)) × (List (S82)) × (List (S57)) × ByteArray × ByteArray × Int) := (laws_toRecord.f k l0_0 l0_1).bind fun bt104 => ((laws_toDatedS.f k l0_2).bind fun t110 => ((laws_toLog.f a0_3 a0_4 a0_5).bind fun bt113 => (some (bt104.1, bt104.2, t110, bt113.1, bt113.2.1, bt113.2.2))))
set_option maxHeartbeats 8000000 in
set_option maxRecDepth 100000 in
theorem laws_toConsole.calls (k : Nat) (A0_0 : Option Addr) (c0_0 : Nat) (l0_0 : List (S100)) (A0_1 : Option Addr) (c0_1 : Nat) (l0_1 : List (S102)) (A0_2 : Option Addr) (c0_2 : Nat) (l0_2 : List (S77)) (a0_3 : ByteArray) (a0_4 : ByteArray) (a0_5 : Int) (r1 : List (S79)) (r2 : List (S82)) (r3 : List (S57)) (r4 : ByteArray) (r5 : ByteArray) (r6 : Int) (w : World) (hr0_0 : Kd.C k100 w A0_0 l0_0.length l0_0) (hc0_0 : l0_0.length ≤ c0_0) (hr0_1 : Kd.C k102 w A0_1 l0_1.length l0_1) (hc0_1 : l0_1.length ≤ c0_1) (hr0_2 : Kd.C k77 w A0_2 l0_2.length l0_2) (hc0_2 : l0_2.length ≤ c0_2) (h : laws_toConsole.f k l0_0 l0_1 l0_2 a0_3 a0_4 a0_5 = some (r1, r2, r3, r4, r5, r6)) :
  Calls Tryz.prog 7 #[.agg #[.slice A0_0 l0_0.length c0_0, .slice A0_1 l0_1.length c0_1, .slice A0_2 l0_2.length c0_2, .string a0_3, .string a0_4, .int .i64 a0_5]] w fun e w' => ∃ v0_ v1_ v2_ : Value, e = .returned (.agg #[v0_, v1_, v2_, .string r4, .string r5, .int .i64 r6]) ∧ Kd.R k79 79 w' w.heap.size (fun _ => True) v0_ r1 ∧ Kd.R k82 82 w' w.heap.size (fun _ => True) v1_ r2 ∧ Kd.R k57 57 w' w.heap.size (fun _ => True) v2_ r3 ∧ Below w.heap.size w w' := by
 (have hu30 := Tryz.underlying30); (have hu40 := Tryz.underlying40); (have hu25 := Tryz.underlying25); (have hu36 := Tryz.underlying36); (have hu28 := Tryz.underlying28); (have hu38 := Tryz.underlying38); (have HR0_0 := Aside0.mk hr0_0); (have HC0_0 := Aside0.mk hc0_0); clear hr0_0 hc0_0; (have HR0_1 := Aside0.mk hr0_1); (have HC0_1 := Aside0.mk hc0_1); clear hr0_1 hc0_1; (have HR0_2 := Aside0.mk hr0_2); (have HC0_2 := Aside0.mk hc0_2); clear hr0_2 hc0_2; (have HB := Aside0.mk (Below.refl w.heap.size w)); (unfold laws_toConsole.f at h); (have H := h); clear h; (replace H := Option.bind_eq_some_iff.mp H); (obtain ⟨⟨t104, t107⟩, A20, H⟩ := H); (replace H : ((laws_toDatedS.f k l0_2).bind fun t110 => ((laws_toLog.f a0_3 a0_4 a0_5).bind fun bt113 => (some (t104, t107, t110, bt113.1, bt113.2.1, bt113.2.2)))) = some (r1, r2, r3, r4, r5, r6) := H); (have A2 := Aside0.mk A20); clear A20; (replace H := Option.bind_eq_some_iff.mp H); (obtain ⟨t110, A30, H⟩ := H); (have A3 := Aside0.mk A30); clear A30; (replace H := Option.bind_eq_some_iff.mp H); (obtain ⟨⟨t113, t114, t115⟩, A40, H⟩ := H); (replace H : (some (t104, t107, t110, t113, t114, t115)) = some (r1, r2, r3, r4, r5, r6) := H); (have A4 := Aside0.mk A40); clear A40; (simp only [Option.some.injEq, Prod.mk.injEq] at H); (obtain ⟨rfl, rfl, rfl, rfl, rfl, rfl⟩ := H); (go_enter Tryz.func7, Tryz.ntmps7)
 go_wp2_with (first | ((with_reducible refine gate_dst (N := 1) rfl ?_); refine box_event ?hg (N := 1) ?hd (cs := #[.slice A0_0 l0_0.length c0_0, .slice A0_1 l0_1.length c0_1, .slice A0_2 l0_2.length c0_2, .string a0_3, .string a0_4, .int .i64 a0_5]) (t := 30) ?hr ?_; (case hd => rfl); (case hg => rfl); (case hr => first | (go_simp; done) | (go_simp; rfl)); intro gb101 hg w5 hbox hb; have hB_ := bz (by repeat (first | (with_reducible first | exact HB.out | apply bA | apply bN | apply bD) | exact HB.out)) hb; have n0_ := Aside0.mk (below_step hB_ hb); have n1_ := Aside0.mk (hbox); have n2_ := Aside0.mk ((by rw [hg]; exact (below_size hB_) : w.heap.size ≤ gb101)); have n3_ := n2_; clear HB; have HB := n0_; have BK101 := n1_; have GW101 := n2_; have GE101 := n3_; clear n0_ n1_ n2_ n3_ hB_ hb hbox hg) | ((with_reducible refine gate_dst (N := 2) rfl ?_); refine box_event ?hg (N := 2) ?hd (cs := #[.slice none 0 0, .slice none 0 0, .slice none 0 0, .string (⟨#[]⟩ : ByteArray), .string (⟨#[]⟩ : ByteArray), .int .i64 0]) (t := 40) ?hr ?_; (case hd => rfl); (case hg => rfl); (case hr => first | (go_simp; done) | (go_simp; rfl)); intro gb102 hg w6 hbox hb; have n0_ := Aside0.mk (blk_below (by (with_reducible repeat (first | refine kN ?_ _ | refine kD ?_ | refine kA ?_ _)); exact BK101.out) hb); have hB_ := bz (by repeat (first | (with_reducible first | exact HB.out | apply bA | apply bN | apply bD | refine below_set ?_ GE101.out) | exact HB.out)) hb; have n1_ := Aside0.mk (below_step hB_ hb); have n2_ := Aside0.mk (hbox); have n3_ := Aside0.mk ((by rw [hg]; exact (below_size hB_) : w.heap.size ≤ gb102)); have n4_ := n3_; have n5_ := Aside0.mk ((by rw [hg]; exact Nat.ne_of_lt (blk_lt (by (with_reducible repeat (first | refine kN ?_ _ | refine kD ?_ | refine kA ?_ _)); exact BK101.out)) : gb101 ≠ gb102)); have n6_ := Aside0.mk (Ne.symm n5_.out); clear BK101 HB; have BK101 := n0_; have HB := n1_; have BK102 := n2_; have GW102 := n3_; have GE102 := n4_; have NB101_102 := n5_; have NB102_101 := n6_; clear n0_ n1_ n2_ n3_ n4_ n5_ n6_ hB_ hb hbox hg) | ((with_reducible refine gate_dst (N := 3) rfl ?_); refine box_event ?hg (N := 3) ?hd (cs := #[.slice none 0 0, .slice none 0 0, .slice none 0 0, .string (⟨#[]⟩ : ByteArray), .string (⟨#[]⟩ : ByteArray), .int .i64 0]) (t := 40) ?hr ?_; (case hd => rfl); (case hg => rfl); (case hr => first | (go_simp; done) | (go_simp; rfl)); intro gb103 hg w7 hbox hb; have n0_ := Aside0.mk (blk_below (by (with_reducible repeat (first | refine kN ?_ _ | refine kD ?_ | refine kA ?_ _)); exact BK101.out) hb); have n1_ := Aside0.mk (blk_below (by (with_reducible repeat (first | refine kN ?_ _ | refine kD ?_ | refine kA ?_ _)); exact BK102.out) hb); have hB_ := bz (by repeat (first | (with_reducible first | exact HB.out | apply bA | apply bN | apply bD | refine below_set ?_ GE101.out | refine below_set ?_ GE102.out) | exact HB.out)) hb; have n2_ := Aside0.mk (below_step hB_ hb); have n3_ := Aside0.mk (hbox); have n4_ := Aside0.mk ((by rw [hg]; exact (below_size hB_) : w.heap.size ≤ gb103)); have n5_ := n4_; have n6_ := Aside0.mk ((by rw [hg]; exact Nat.ne_of_lt (blk_lt (by (with_reducible repeat (first | refine kN ?_ _ | refine kD ?_ | refine kA ?_ _)); exact BK101.out)) : gb101 ≠ gb103)); have n7_ := Aside0.mk (Ne.symm n6_.out); have n8_ := Aside0.mk ((by rw [hg]; exact Nat.ne_of_lt (blk_lt (by (with_reducible repeat (first | refine kN ?_ _ | refine kD ?_ | refine kA ?_ _)); exact BK102.out)) : gb102 ≠ gb103)); have n9_ := Aside0.mk (Ne.symm n8_.out); clear BK101 BK102 HB; have BK101 := n0_; have BK102 := n1_; have HB := n2_; have BK103 := n3_; have GW103 := n4_; have GE103 := n5_; have NB101_103 := n6_; have NB103_101 := n7_; have NB102_103 := n8_; have NB103_102 := n9_; clear n0_ n1_ n2_ n3_ n4_ n5_ n6_ n7_ n8_ n9_ hB_ hb hbox hg; have hnb8 := NB101_102.out; have hnc8 := NB102_101.out; have hnb9 := NB101_103.out; have hnc9 := NB103_101.out; have hcz10_0 := cz BK101.out 0; have hcz10_1 := cz BK101.out 1; have hcz10_2 := cz BK101.out 2; have hcz10_3 := cz BK101.out 3; have hcz10_4 := cz BK101.out 4; have hcz10_5 := cz BK101.out 5; have hfz10_0 := blk_frozen BK101.out 0; have hfz10_1 := blk_frozen BK101.out 1; have hfz10_2 := blk_frozen BK101.out 2; have hfz10_3 := blk_frozen BK101.out 3; have hfz10_4 := blk_frozen BK101.out 4; have hfz10_5 := blk_frozen BK101.out 5) | ((with_reducible refine gate_callee (f := 16) rfl ?_); refine gL (some 6) Tryz.func16 #[.agg #[.slice A0_0 l0_0.length c0_0, .slice A0_1 l0_1.length c0_1]] ?_; (with_reducible refine (laws_toRecord.calls k _ _ l0_0 _ _ l0_1 t104 t107 _ ?side1 ?side2 ?side3 ?side4 A2.out).mono ?_); (case side1 => repeat (first | exact (Kd.C_below HR0_0.out HB.out) | (with_reducible first | refine cA ?_ _ | refine cN ?_ _ | refine cD ?_))); (case side2 => exact HC0_0.out); (case side3 => repeat (first | exact (Kd.C_below HR0_1.out HB.out) | (with_reducible first | refine cA ?_ _ | refine cN ?_ _ | refine cD ?_))); (case side4 => exact HC0_1.out); rintro e w11 ⟨v105, v108, rfl, ho0, ho1, hb⟩; refine ⟨_, rfl, ?_⟩; have n0_ := Aside0.mk (Kd.R_lower ho0 (below_size (by repeat (first | (with_reducible first | exact HB.out | apply bA | apply bN | apply bD | refine below_set ?_ GE101.out | refine below_set ?_ GE102.out | refine below_set ?_ GE103.out) | exact HB.out)))); have n1_ := Aside0.mk (Kd.R_lower ho1 (below_size (by repeat (first | (with_reducible first | exact HB.out | apply bA | apply bN | apply bD | refine below_set ?_ GE101.out | refine below_set ?_ GE102.out | refine below_set ?_ GE103.out) | exact HB.out)))); have n2_ := Aside0.mk (blk_below (by (with_reducible repeat (first | refine kN ?_ _ | refine kD ?_ | refine kA ?_ _)); exact BK101.out) hb); have n3_ := Aside0.mk (blk_below (by (with_reducible repeat (first | refine kN ?_ _ | refine kD ?_ | refine kA ?_ _)); exact BK102.out) hb); have n4_ := Aside0.mk (blk_below (by (with_reducible repeat (first | refine kN ?_ _ | refine kD ?_ | refine kA ?_ _)); exact BK103.out) hb); have n5_ := Aside0.mk (below_step (by repeat (first | (with_reducible first | exact HB.out | apply bA | apply bN | apply bD | refine below_set ?_ GE101.out | refine below_set ?_ GE102.out | refine below_set ?_ GE103.out) | exact HB.out)) hb); clear BK101 BK102 BK103 HB; have HO106 := n0_; have HO109 := n1_; have BK101 := n2_; have BK102 := n3_; have BK103 := n4_; have HB := n5_; clear n0_ n1_ n2_ n3_ n4_ n5_; (try clear hb); (try clear hb2); (try clear hk); (try clear hi); (try clear ho0); (try clear ho1); obtain ⟨Ao12, co12, eo12⟩ := Kd.R_slice HO106.out; subst eo12; have hnb13 := NB103_102.out; have hnc13 := NB102_103.out; have hcz14_0 := cz BK103.out 0; have hcz14_1 := cz BK103.out 1; have hcz14_2 := cz BK103.out 2; have hcz14_3 := cz BK103.out 3; have hcz14_4 := cz BK103.out 4; have hcz14_5 := cz BK103.out 5; have hfz14_0 := blk_frozen BK103.out 0; have hfz14_1 := blk_frozen BK103.out 1; have hfz14_2 := blk_frozen BK103.out 2; have hfz14_3 := blk_frozen BK103.out 3; have hfz14_4 := blk_frozen BK103.out 4; have hfz14_5 := blk_frozen BK103.out 5; obtain ⟨Ao15, co15, eo15⟩ := Kd.R_slice HO109.out; subst eo15; have hcz16_0 := cz BK101.out 0; have hcz16_1 := cz BK101.out 1; have hcz16_2 := cz BK101.out 2; have hcz16_3 := cz BK101.out 3; have hcz16_4 := cz BK101.out 4; have hcz16_5 := cz BK101.out 5; have hfz16_0 := blk_frozen BK101.out 0; have hfz16_1 := blk_frozen BK101.out 1; have hfz16_2 := blk_frozen BK101.out 2; have hfz16_3 := blk_frozen BK101.out 3; have hfz16_4 := blk_frozen BK101.out 4; have hfz16_5 := blk_frozen BK101.out 5) | ((with_reducible refine gate_callee (f := 17) rfl ?_); refine gL (some 10) Tryz.func17 #[.slice A0_2 l0_2.length c0_2] ?_; (with_reducible refine (laws_toDatedS.calls k _ _ l0_2 t110 _ ?side1 ?side2 A3.out).mono ?_); (case side1 => exact Kd.C_below HR0_2.out (by repeat (first | (with_reducible first | exact HB.out | apply bA | apply bN | apply bD | refine below_set ?_ GE101.out | refine below_set ?_ GE102.out | refine below_set ?_ GE103.out) | exact HB.out))); (case side2 => exact HC0_2.out); rintro e w17 ⟨v111, rfl, ho0, hb⟩; refine ⟨_, rfl, ?_⟩; have n0_ := Aside0.mk (Kd.R_below (by (with_reducible repeat (first | apply rA | apply rN | apply rD)); exact (Kd.R_mono (Kd.R_far (p := ⟨gb103, 1, none⟩) (Kd.R_far (p := ⟨gb103, 0, none⟩) (Kd.R_types HO106.out BK103.out (by decide)) (fun _ hk => hk.2) (.slice Ao12 t104.length co12)) (fun _ hk => hk.2) (.slice Ao15 t107.length co15)) (fun _ h_ => h_.1))) hb); have n1_ := Aside0.mk (Kd.R_below (by (with_reducible repeat (first | apply rA | apply rN | apply rD)); exact (Kd.R_mono (Kd.R_far (p := ⟨gb103, 1, none⟩) (Kd.R_far (p := ⟨gb103, 0, none⟩) (Kd.R_types HO109.out BK103.out (by decide)) (fun _ hk => hk.2) (.slice Ao12 t104.length co12)) (fun _ hk => hk.2) (.slice Ao15 t107.length co15)) (fun _ h_ => h_.1))) hb); have n2_ := Aside0.mk (Kd.R_lower ho0 (below_size (by repeat (first | (with_reducible first | exact HB.out | apply bA | apply bN | apply bD | refine below_set ?_ GE101.out | refine below_set ?_ GE102.out | refine below_set ?_ GE103.out) | exact HB.out)))); have n3_ := Aside0.mk (blk_below (g := gb101) (o := .cells #[.slice A0_0 l0_0.length c0_0, .slice A0_1 l0_1.length c0_1, .slice A0_2 l0_2.length c0_2, .string a0_3, .string a0_4, .int .i64 a0_5] 30 (0, 0)) (by (with_reducible repeat (first | refine kN ?_ _ | refine kD ?_ | refine kA ?_ _)); refine blk_far ?_ NB101_103.out _; (with_reducible repeat (first | refine kN ?_ _ | refine kD ?_ | refine kA ?_ _)); refine blk_far ?_ NB101_103.out _; (with_reducible repeat (first | refine kN ?_ _ | refine kD ?_ | refine kA ?_ _)); exact BK101.out) hb); have n4_ := Aside0.mk (blk_below (g := gb102) (o := .cells #[.slice none 0 0, .slice none 0 0, .slice none 0 0, .string (⟨#[]⟩ : ByteArray), .string (⟨#[]⟩ : ByteArray), .int .i64 0] 40 (0, 0)) (by (with_reducible repeat (first | refine kN ?_ _ | refine kD ?_ | refine kA ?_ _)); refine blk_far ?_ NB102_103.out _; (with_reducible repeat (first | refine kN ?_ _ | refine kD ?_ | refine kA ?_ _)); refine blk_far ?_ NB102_103.out _; (with_reducible repeat (first | refine kN ?_ _ | refine kD ?_ | refine kA ?_ _)); exact BK102.out) hb); have n5_ := Aside0.mk (blk_below (g := gb103) (o := .cells #[.slice Ao12 t104.length co12, .slice Ao15 t107.length co15, .slice none 0 0, .string (⟨#[]⟩ : ByteArray), .string (⟨#[]⟩ : ByteArray), .int .i64 0] 40 (0, 0)) (by (with_reducible repeat (first | refine kN ?_ _ | refine kD ?_ | refine kA ?_ _)); refine blk_put (cs := #[.slice Ao12 t104.length co12, .slice none 0 0, .slice none 0 0, .string (⟨#[]⟩ : ByteArray), .string (⟨#[]⟩ : ByteArray), .int .i64 0]) ?_ 1 _ rfl; (with_reducible repeat (first | refine kN ?_ _ | refine kD ?_ | refine kA ?_ _)); refine blk_put (cs := #[.slice none 0 0, .slice none 0 0, .slice none 0 0, .string (⟨#[]⟩ : ByteArray), .string (⟨#[]⟩ : ByteArray), .int .i64 0]) ?_ 0 _ rfl; (with_reducible repeat (first | refine kN ?_ _ | refine kD ?_ | refine kA ?_ _)); exact BK103.out) hb); have n6_ := Aside0.mk (below_step (by repeat (first | (with_reducible first | exact HB.out | apply bA | apply bN | apply bD | refine below_set ?_ GE101.out | refine below_set ?_ GE102.out | refine below_set ?_ GE103.out) | exact HB.out)) hb); clear HO106 HO109 BK101 BK102 BK103 HB; have HO106 := n0_; have HO109 := n1_; have HO112 := n2_; have BK101 := n3_; have BK102 := n4_; have BK103 := n5_; have HB := n6_; clear n0_ n1_ n2_ n3_ n4_ n5_ n6_; (try clear hb); (try clear hb2); (try clear hk); (try clear hi); (try clear ho0); obtain ⟨Ao18, co18, eo18⟩ := Kd.R_slice HO112.out; subst eo18; have hcz19_0 := cz BK103.out 0; have hcz19_1 := cz BK103.out 1; have hcz19_2 := cz BK103.out 2; have hcz19_3 := cz BK103.out 3; have hcz19_4 := cz BK103.out 4; have hcz19_5 := cz BK103.out 5; have hfz19_0 := blk_frozen BK103.out 0; have hfz19_1 := blk_frozen BK103.out 1; have hfz19_2 := blk_frozen BK103.out 2; have hfz19_3 := blk_frozen BK103.out 3; have hfz19_4 := blk_frozen BK103.out 4; have hfz19_5 := blk_frozen BK103.out 5; have hcz20_0 := cz BK101.out 0; have hcz20_1 := cz BK101.out 1; have hcz20_2 := cz BK101.out 2; have hcz20_3 := cz BK101.out 3; have hcz20_4 := cz BK101.out 4; have hcz20_5 := cz BK101.out 5; have hfz20_0 := blk_frozen BK101.out 0; have hfz20_1 := blk_frozen BK101.out 1; have hfz20_2 := blk_frozen BK101.out 2; have hfz20_3 := blk_frozen BK101.out 3; have hfz20_4 := blk_frozen BK101.out 4; have hfz20_5 := blk_frozen BK101.out 5) | ((with_reducible refine gate_callee (f := 18) rfl ?_); refine gL (some 14) Tryz.func18 #[.agg #[.string a0_3, .string a0_4, .int .i64 a0_5]] ?_; (with_reducible refine (laws_toLog.calls a0_3 a0_4 a0_5 t113 t114 t115 _ A4.out).mono ?_); rintro e w21 ⟨rfl, hb⟩; refine ⟨_, rfl, ?_⟩; have n0_ := Aside0.mk (Kd.R_below (by (with_reducible repeat (first | apply rA | apply rN | apply rD)); exact (Kd.R_mono (Kd.R_far (p := ⟨gb103, 2, none⟩) (Kd.R_types HO106.out BK103.out (by decide)) (fun _ hk => hk.2) (.slice Ao18 t110.length co18)) (fun _ h_ => h_.1))) hb); have n1_ := Aside0.mk (Kd.R_below (by (with_reducible repeat (first | apply rA | apply rN | apply rD)); exact (Kd.R_mono (Kd.R_far (p := ⟨gb103, 2, none⟩) (Kd.R_types HO109.out BK103.out (by decide)) (fun _ hk => hk.2) (.slice Ao18 t110.length co18)) (fun _ h_ => h_.1))) hb); have n2_ := Aside0.mk (Kd.R_below (by (with_reducible repeat (first | apply rA | apply rN | apply rD)); exact (Kd.R_mono (Kd.R_far (p := ⟨gb103, 2, none⟩) (Kd.R_types HO112.out BK103.out (by decide)) (fun _ hk => hk.2) (.slice Ao18 t110.length co18)) (fun _ h_ => h_.1))) hb); have n3_ := Aside0.mk (blk_below (g := gb101) (o := .cells #[.slice A0_0 l0_0.length c0_0, .slice A0_1 l0_1.length c0_1, .slice A0_2 l0_2.length c0_2, .string a0_3, .string a0_4, .int .i64 a0_5] 30 (0, 0)) (by (with_reducible repeat (first | refine kN ?_ _ | refine kD ?_ | refine kA ?_ _)); refine blk_far ?_ NB101_103.out _; (with_reducible repeat (first | refine kN ?_ _ | refine kD ?_ | refine kA ?_ _)); exact BK101.out) hb); have n4_ := Aside0.mk (blk_below (g := gb102) (o := .cells #[.slice none 0 0, .slice none 0 0, .slice none 0 0, .string (⟨#[]⟩ : ByteArray), .string (⟨#[]⟩ : ByteArray), .int .i64 0] 40 (0, 0)) (by (with_reducible repeat (first | refine kN ?_ _ | refine kD ?_ | refine kA ?_ _)); refine blk_far ?_ NB102_103.out _; (with_reducible repeat (first | refine kN ?_ _ | refine kD ?_ | refine kA ?_ _)); exact BK102.out) hb); have n5_ := Aside0.mk (blk_below (g := gb103) (o := .cells #[.slice Ao12 t104.length co12, .slice Ao15 t107.length co15, .slice Ao18 t110.length co18, .string (⟨#[]⟩ : ByteArray), .string (⟨#[]⟩ : ByteArray), .int .i64 0] 40 (0, 0)) (by (with_reducible repeat (first | refine kN ?_ _ | refine kD ?_ | refine kA ?_ _)); refine blk_put (cs := #[.slice Ao12 t104.length co12, .slice Ao15 t107.length co15, .slice none 0 0, .string (⟨#[]⟩ : ByteArray), .string (⟨#[]⟩ : ByteArray), .int .i64 0]) ?_ 2 _ rfl; (with_reducible repeat (first | refine kN ?_ _ | refine kD ?_ | refine kA ?_ _)); exact BK103.out) hb); have n6_ := Aside0.mk (below_step (by repeat (first | (with_reducible first | exact HB.out | apply bA | apply bN | apply bD | refine below_set ?_ GE101.out | refine below_set ?_ GE102.out | refine below_set ?_ GE103.out) | exact HB.out)) hb); clear HO106 HO109 HO112 BK101 BK102 BK103 HB; have HO106 := n0_; have HO109 := n1_; have HO112 := n2_; have BK101 := n3_; have BK102 := n4_; have BK103 := n5_; have HB := n6_; clear n0_ n1_ n2_ n3_ n4_ n5_ n6_; (try clear hb); (try clear hb2); (try clear hk); (try clear hi); have hcz22_0 := cz BK103.out 0; have hcz22_1 := cz BK103.out 1; have hcz22_2 := cz BK103.out 2; have hcz22_3 := cz BK103.out 3; have hcz22_4 := cz BK103.out 4; have hcz22_5 := cz BK103.out 5; have hfz22_0 := blk_frozen BK103.out 0; have hfz22_1 := blk_frozen BK103.out 1; have hfz22_2 := blk_frozen BK103.out 2; have hfz22_3 := blk_frozen BK103.out 3; have hfz22_4 := blk_frozen BK103.out 4; have hfz22_5 := blk_frozen BK103.out 5; have hcz23_0 := cz BK102.out 0; have hcz23_1 := cz BK102.out 1; have hcz23_2 := cz BK102.out 2; have hcz23_3 := cz BK102.out 3; have hcz23_4 := cz BK102.out 4; have hcz23_5 := cz BK102.out 5; have hfz23_0 := blk_frozen BK102.out 0; have hfz23_1 := blk_frozen BK102.out 1; have hfz23_2 := blk_frozen BK102.out 2; have hfz23_3 := blk_frozen BK102.out 3; have hfz23_4 := blk_frozen BK102.out 4; have hfz23_5 := blk_frozen BK102.out 5))
 (refine bodyPost_ret (results_cell_row rfl _ _ gb102 40 #[.slice Ao12 t104.length co12, .slice Ao15 t107.length co15, .slice Ao18 t110.length co18, .string t113, .string t114, .int .i64 t115] (0, 0) _ rfl (by (with_reducible repeat (first | refine kN ?_ _ | refine kD ?_ | refine kA ?_ _)); refine blk_put (cs := #[.slice Ao12 t104.length co12, .slice Ao15 t107.length co15, .slice Ao18 t110.length co18, .string t113, .string t114, .int .i64 0]) ?_ 5 _ rfl; (with_reducible repeat (first | refine kN ?_ _ | refine kD ?_ | refine kA ?_ _)); refine blk_put (cs := #[.slice Ao12 t104.length co12, .slice Ao15 t107.length co15, .slice Ao18 t110.length co18, .string t113, .string (⟨#[]⟩ : ByteArray), .int .i64 0]) ?_ 4 _ rfl; (with_reducible repeat (first | refine kN ?_ _ | refine kD ?_ | refine kA ?_ _)); refine blk_put (cs := #[.slice Ao12 t104.length co12, .slice Ao15 t107.length co15, .slice Ao18 t110.length co18, .string (⟨#[]⟩ : ByteArray), .string (⟨#[]⟩ : ByteArray), .int .i64 0]) ?_ 3 _ rfl; (with_reducible repeat (first | refine kN ?_ _ | refine kD ?_ | refine kA ?_ _)); refine blk_put (cs := #[.slice Ao12 t104.length co12, .slice Ao15 t107.length co15, .slice none 0 0, .string (⟨#[]⟩ : ByteArray), .string (⟨#[]⟩ : ByteArray), .int .i64 0]) ?_ 2 _ rfl; (with_reducible repeat (first | refine kN ?_ _ | refine kD ?_ | refine kA ?_ _)); refine blk_put (cs := #[.slice Ao12 t104.length co12, .slice none 0 0, .slice none 0 0, .string (⟨#[]⟩ : ByteArray), .string (⟨#[]⟩ : ByteArray), .int .i64 0]) ?_ 1 _ rfl; (with_reducible repeat (first | refine kN ?_ _ | refine kD ?_ | refine kA ?_ _)); refine blk_put (cs := #[.slice none 0 0, .slice none 0 0, .slice none 0 0, .string (⟨#[]⟩ : ByteArray), .string (⟨#[]⟩ : ByteArray), .int .i64 0]) ?_ 0 _ rfl; (with_reducible repeat (first | refine kN ?_ _ | refine kD ?_ | refine kA ?_ _)); refine blk_far ?_ NB102_103.out _; (with_reducible repeat (first | refine kN ?_ _ | refine kD ?_ | refine kA ?_ _)); refine blk_far ?_ NB102_103.out _; (with_reducible repeat (first | refine kN ?_ _ | refine kD ?_ | refine kA ?_ _)); refine blk_far ?_ NB102_103.out _; (with_reducible repeat (first | refine kN ?_ _ | refine kD ?_ | refine kA ?_ _)); exact BK102.out) Tryz.underlying40 rfl (by kernel_rfl)) rfl ?_); (exact ⟨_, _, _, by first | rfl | (simp [errW_none, errW_some] <;> rfl) | (simp [*, errW_none, errW_some] <;> rfl), by (with_reducible repeat (first | apply rA | apply rN | apply rD)); exact Kd.R_mono (Kd.R_far (p := ⟨gb102, 5, none⟩) (Kd.R_far (p := ⟨gb102, 4, none⟩) (Kd.R_far (p := ⟨gb102, 3, none⟩) (Kd.R_far (p := ⟨gb102, 2, none⟩) (Kd.R_far (p := ⟨gb102, 1, none⟩) (Kd.R_far (p := ⟨gb102, 0, none⟩) (Kd.R_far (p := ⟨gb103, 5, none⟩) (Kd.R_far (p := ⟨gb103, 4, none⟩) (Kd.R_far (p := ⟨gb103, 3, none⟩) (Kd.R_types (Kd.R_types HO106.out BK103.out (by decide)) BK102.out (by decide)) (fun _ hk => hk.1.2) (.string t113)) (fun _ hk => hk.1.2) (.string t114)) (fun _ hk => hk.1.2) (.int .i64 t115)) (fun _ hk => hk.2) (.slice Ao12 t104.length co12)) (fun _ hk => hk.2) (.slice Ao15 t107.length co15)) (fun _ hk => hk.2) (.slice Ao18 t110.length co18)) (fun _ hk => hk.2) (.string t113)) (fun _ hk => hk.2) (.string t114)) (fun _ hk => hk.2) (.int .i64 t115)) (fun _ hk => trivial), by (with_reducible repeat (first | apply rA | apply rN | apply rD)); exact Kd.R_mono (Kd.R_far (p := ⟨gb102, 5, none⟩) (Kd.R_far (p := ⟨gb102, 4, none⟩) (Kd.R_far (p := ⟨gb102, 3, none⟩) (Kd.R_far (p := ⟨gb102, 2, none⟩) (Kd.R_far (p := ⟨gb102, 1, none⟩) (Kd.R_far (p := ⟨gb102, 0, none⟩) (Kd.R_far (p := ⟨gb103, 5, none⟩) (Kd.R_far (p := ⟨gb103, 4, none⟩) (Kd.R_far (p := ⟨gb103, 3, none⟩) (Kd.R_types (Kd.R_types HO109.out BK103.out (by decide)) BK102.out (by decide)) (fun _ hk => hk.1.2) (.string t113)) (fun _ hk => hk.1.2) (.string t114)) (fun _ hk => hk.1.2) (.int .i64 t115)) (fun _ hk => hk.2) (.slice Ao12 t104.length co12)) (fun _ hk => hk.2) (.slice Ao15 t107.length co15)) (fun _ hk => hk.2) (.slice Ao18 t110.length co18)) (fun _ hk => hk.2) (.string t113)) (fun _ hk => hk.2) (.string t114)) (fun _ hk => hk.2) (.int .i64 t115)) (fun _ hk => trivial), by (with_reducible repeat (first | apply rA | apply rN | apply rD)); exact Kd.R_mono (Kd.R_far (p := ⟨gb102, 5, none⟩) (Kd.R_far (p := ⟨gb102, 4, none⟩) (Kd.R_far (p := ⟨gb102, 3, none⟩) (Kd.R_far (p := ⟨gb102, 2, none⟩) (Kd.R_far (p := ⟨gb102, 1, none⟩) (Kd.R_far (p := ⟨gb102, 0, none⟩) (Kd.R_far (p := ⟨gb103, 5, none⟩) (Kd.R_far (p := ⟨gb103, 4, none⟩) (Kd.R_far (p := ⟨gb103, 3, none⟩) (Kd.R_types (Kd.R_types HO112.out BK103.out (by decide)) BK102.out (by decide)) (fun _ hk => hk.1.2) (.string t113)) (fun _ hk => hk.1.2) (.string t114)) (fun _ hk => hk.1.2) (.int .i64 t115)) (fun _ hk => hk.2) (.slice Ao12 t104.length co12)) (fun _ hk => hk.2) (.slice Ao15 t107.length co15)) (fun _ hk => hk.2) (.slice Ao18 t110.length co18)) (fun _ hk => hk.2) (.string t113)) (fun _ hk => hk.2) (.string t114)) (fun _ hk => hk.2) (.int .i64 t115)) (fun _ hk => trivial), by repeat (first | (with_reducible first | exact HB.out | apply bA | apply bN | apply bD | refine below_set ?_ GE101.out | refine below_set ?_ GE102.out | refine below_set ?_ GE103.out) | exact HB.out)⟩)
/-! ### laws_eqContext: function 67 -/
def laws_eqContext.f (a0_0 : Int) (a0_1 : Int) (a1_0 : Int) (a1_1 : Int) : Option (Bool) := if a0_0 = a1_0 then (if a0_1 = a1_1 then (some true) else (some false)) else (some false)
set_option maxHeartbeats 8000000 in
set_option maxRecDepth 100000 in
theorem laws_eqContext.calls (a0_0 : Int) (a0_1 : Int) (a1_0 : Int) (a1_1 : Int) (r : Bool) (w : World) (h : laws_eqContext.f a0_0 a0_1 a1_0 a1_1 = some r) (ht_ : Aside0 (r = true)) :
  Calls Tryz.prog 67 #[.agg #[.int .i64 a0_0, .int .i64 a0_1], .agg #[.int .i64 a1_0, .int .i64 a1_1]] w fun e w' => e = .returned (.bool r) ∧ Below w.heap.size w w' := by
 (have hu79 := Tryz.underlying79); (have HB := Aside0.mk (Below.refl w.heap.size w)); (unfold laws_eqContext.f at h); (have H := h); clear h; (by_cases c3 : a0_0 = a1_0)
 ·rw [if_pos c3] at H
  (have c3b0 : (a0_0 == a1_0) = true := beq_iff_eq.mpr c3); (have c3b1 : (a0_0 != a1_0) = false := bne_eq_false_iff_eq.mpr c3); clear c3; (by_cases c4 : a0_1 = a1_1); (· (rw [if_pos c4] at H); (have c4b0 : (a0_1 == a1_1) = true := beq_iff_eq.mpr c4); (have c4b1 : (a0_1 != a1_1) = false := bne_eq_false_iff_eq.mpr c4); clear c4; (obtain rfl := Option.some.inj H); (go_enter Tryz.func67, Tryz.ntmps67); (go_wp2_with (first | ((with_reducible refine gate_dst (N := 2) rfl ?_); refine box_event ?hg (N := 2) ?hd (cs := #[.int .i64 a0_0, .int .i64 a0_1]) (t := 79) ?hr ?_; (case hd => rfl); (case hg => rfl); (case hr => first | (go_simp; done) | (go_simp; rfl)); intro gb101 hg w5 hbox hb; have hB_ := zI hb HB; have n0_ := Aside0.mk (below_step hB_ hb); have n1_ := Aside0.mk (hbox); have n2_ := Aside0.mk (bx0 hg hB_); have n3_ := n2_; clear HB; have HB := n0_; have BK101 := n1_; have GW101 := n2_; have GE101 := n3_; clear n0_ n1_ n2_ n3_ hB_ hb hbox hg) | ((with_reducible refine gate_dst (N := 3) rfl ?_); refine box_event ?hg (N := 3) ?hd (cs := #[.int .i64 a1_0, .int .i64 a1_1]) (t := 79) ?hr ?_; (case hd => rfl); (case hg => rfl); (case hr => first | (go_simp; done) | (go_simp; rfl)); intro gb102 hg w6 hbox hb; have n0_ := Aside0.mk (kbI hb BK101); have hB_ := zI hb HB; have n1_ := Aside0.mk (below_step hB_ hb); have n2_ := Aside0.mk (hbox); have n3_ := Aside0.mk (bx0 hg hB_); have n4_ := n3_; have n5_ := Aside0.mk ((by rw [hg]; exact Nat.ne_of_lt (blk_lt (kI BK101)) : gb101 ≠ gb102)); have n6_ := Aside0.mk (Ne.symm n5_.out); clear BK101 HB; have BK101 := n0_; have HB := n1_; have BK102 := n2_; have GW102 := n3_; have GE102 := n4_; have NB101_102 := n5_; have NB102_101 := n6_; clear n0_ n1_ n2_ n3_ n4_ n5_ n6_ hB_ hb hbox hg; have hnb7 := NB101_102.out; have hnc7 := NB102_101.out; have hcz8_0 := cz BK101.out 0; have hcz8_1 := cz BK101.out 1; have hfz8_0 := blk_frozen BK101.out 0; have hfz8_1 := blk_frozen BK101.out 1; have hcz9_0 := cz BK102.out 0; have hcz9_1 := cz BK102.out 1; have hfz9_0 := blk_frozen BK102.out 0; have hfz9_1 := blk_frozen BK102.out 1))); go_ret; (exact ⟨rfl, eI HB⟩)); (· (rw [if_neg c4] at H); (have c4b0 : (a0_1 == a1_1) = false := beq_eq_false_iff_ne.mpr c4); (have c4b1 : (a0_1 != a1_1) = true := bne_iff_ne.mpr c4); (obtain rfl := Option.some.inj H); (exact absurd ht_.out (by decide)))
 ·rw [if_neg c3] at H
  (have c3b0 : (a0_0 == a1_0) = false := beq_eq_false_iff_ne.mpr c3); (have c3b1 : (a0_0 != a1_0) = true := bne_iff_ne.mpr c3); (obtain rfl := Option.some.inj H); (exact absurd ht_.out (by decide))
/-! ### laws_eqContextS: function 46 -/
def laws_eqContextS.l0 : Nat → List (S79) → List (S79) → Int → Option (Bool)
 | 0, _, _, _ => none
 | k + 1, x0, x1, x5 => if x5 < (x0.length : Int) then (if 0 ≤ x5 then (if x5 < (x1.length : Int) then ((laws_eqContext.f ((rd_T79 x0 x5).f0) ((rd_T79 x0 x5).f1) ((rd_T79 x1 x5).f0) ((rd_T79 x1 x5).f1)).bind fun t103 => (if t103 = true then (laws_eqContextS.l0 k x0 x1 (wrap64 (x5 + 1))) else (some false))) else (none)) else (none)) else (some true)
def laws_eqContextS.f (k : Nat) (l0 : List (S79)) (l1 : List (S79)) : Option (Bool) := if (l0.length : Int) = (l1.length : Int) then (laws_eqContextS.l0 k l0 l1 0) else (some false)
def laws_eqContextS.T6 : Bool × List (List Nat × List Nat) := (true, [([], []), ([], []), ([0, 1], [0, 1]), ([2], [2]), ([], []), ([], []), ([4, 5], [4, 5]), ([6], [6]), ([3, 7], [3, 7]), ([8], [8])])
def laws_eqContextS.B6 : List Nat := [0, 0, 3, 7, 0, 0, 48, 112, 255, 511]
theorem laws_eqContextS.tab6 : rtab .any (opsOf Tryz.f46 6) = laws_eqContextS.T6 := by kernel_rfl
theorem laws_eqContextS.bits6 : waitsOk laws_eqContextS.T6.2 laws_eqContextS.B6 = true := by kernel_rfl
set_option maxHeartbeats 8000000 in
set_option maxRecDepth 100000 in
theorem laws_eqContextS.calls (k : Nat) (A0 : Option Addr) (c0 : Nat) (l0 : List (S79)) (A1 : Option Addr) (c1 : Nat) (l1 : List (S79)) (r : Bool) (w : World) (hr0 : Kd.C k79 w A0 l0.length l0) (hc0 : l0.length ≤ c0) (hr1 : Kd.C k79 w A1 l1.length l1) (hc1 : l1.length ≤ c1) (h : laws_eqContextS.f k l0 l1 = some r) (ht_ : Aside0 (r = true)) :
  Calls Tryz.prog 46 #[.slice A0 l0.length c0, .slice A1 l1.length c1] w fun e w' => e = .returned (.bool r) ∧ Below w.heap.size w w' := by
 (have hu79 := Tryz.underlying79); (have HR0 := Aside0.mk hr0); (have HC0 := Aside0.mk hc0); clear hr0 hc0; (have HR1 := Aside0.mk hr1); (have HC1 := Aside0.mk hc1); clear hr1 hc1; (have HB := Aside0.mk (Below.refl w.heap.size w)); (unfold laws_eqContextS.f at h); (have H := h); clear h; (by_cases c3 : (l0.length : Int) = (l1.length : Int))
 ·rw [if_pos c3] at H
  (have c3b0 : ((l0.length : Int) == (l1.length : Int)) = true := beq_iff_eq.mpr c3); (have c3b1 : ((l0.length : Int) != (l1.length : Int)) = false := bne_eq_false_iff_eq.mpr c3); (have c3b2 : (l0.length == l1.length) = true := by first | simpa using c3 | (simp at c3 ⊢; omega)); clear c3; (have H' := Aside0.mk H); clear H; (go_enter Tryz.func46, Tryz.ntmps46); (go_wp2); (go_loopg [5] k (fun kq v5 w' => ∃ (x5_1 : Int), v5 = .int .i64 x5_1 ∧ Aside0 (laws_eqContextS.l0 kq l0 l1 x5_1 = some r) ∧ Aside0 (kq ≤ k) ∧ Aside0 (Below w.heap.size w w')))
  case atStart => exact ⟨(0), (by first | rfl | (simp; done) | (simp [*]; done)), H', ⟨Nat.le_refl _⟩, ⟨eI HB⟩⟩
  case round =>
   (clear H'); (try clear c1); (try clear p2); (try clear c3); (try clear c3b0); (try clear c3b1); (try clear c3b2); (obtain ⟨x5_1, rfl, HA, HK1, HB⟩ := hrel)
   cases gk with
   | zero => exact absurd HA.out (by simp [laws_eqContextS.l0])
   | succ k1 =>
    (have H := HA.out); clear HA; (simp only [laws_eqContextS.l0] at H); (by_cases c4 : x5_1 < (l0.length : Int))
    ·rw [if_pos c4] at H
     (have c4b0 := decide_eq_true c4); clear c4; (by_cases c5 : 0 ≤ x5_1)
     ·rw [if_pos c5] at H
      (have c5b0 := decide_eq_true c5); clear c5; (by_cases c6 : x5_1 < (l1.length : Int))
      ·rw [if_pos c6] at H
       (have c6b0 := decide_eq_true c6); clear c6; (obtain ⟨t103, A7, H⟩ := obS H); (by_cases c8 : t103 = true)
       ·subst c8
        (rw [if_pos rfl] at H); (have H' := Aside0.mk H); clear H; (try go_wp2); (have n0_ := Aside0.mk (below_drew1 HB.out)); clear HB; (have HB := n0_); clear n0_; (have p101 : 0 ≤ (x5_1 : Int) := odt); (have q101 : x5_1 < (l0.length : Int) := odt); (obtain ⟨ad101, e101, hx101_0, hx101_1⟩ := at_T79 HR0.out x5_1 p101 q101); (have hw101_1 := hx101_1); (have hw101_0 := hx101_0); (cases e101); (replace hx101_0 := hcI HB hx101_0); (replace hx101_1 := hcI HB hx101_1); (replace p101 := eq_true p101); (replace q101 := eq_true q101); (have p102 : 0 ≤ (x5_1 : Int) := odt); (have q102 : x5_1 < (l1.length : Int) := odt); (obtain ⟨ad102, e102, hx102_0, hx102_1⟩ := at_T79 HR1.out x5_1 p102 q102); (have hw102_1 := hx102_1); (have hw102_0 := hx102_0); (cases e102); (replace hx102_0 := hcI HB hx102_0); (replace hx102_1 := hcI HB hx102_1); (replace p102 := eq_true p102); (replace q102 := eq_true q102); (refine start_ (n := 10) (S := fun w' => w'.cell? (ad101.add ((x5_1).toNat * 2)) = some (.int .i64 ((rd_T79 l0 x5_1).f0)) ∧ w'.cell? ⟨(ad101.add ((x5_1).toNat * 2)).block, (ad101.add ((x5_1).toNat * 2)).off + 1, none⟩ = some (.int .i64 ((rd_T79 l0 x5_1).f1)) ∧ w'.cell? (ad102.add ((x5_1).toNat * 2)) = some (.int .i64 ((rd_T79 l1 x5_1).f0)) ∧ w'.cell? ⟨(ad102.add ((x5_1).toNat * 2)).block, (ad102.add ((x5_1).toNat * 2)).off + 1, none⟩ = some (.int .i64 ((rd_T79 l1 x5_1).f1))) (ds := []) (cn 10 0) (by kernel_rfl) rfl (by kernel_rfl) ⟨(hcI HB hw101_0), (hcI HB hw101_1), (hcI HB hw102_0), (hcI HB hw102_1)⟩ (fun hHeld => ?_); refine with_tabW laws_eqContextS.tab6 laws_eqContextS.bits6 (fun HT_ HW_ => ?_)); (generalize wr.drew = w9 at HB hx101_0 hx101_1 hx102_0 hx102_1 hHeld ⊢); (refine pB 0 (cn 10 1) (some 17) HT_ (h := ?_)); (refine pB 1 (cn 10 2) (some 18) HT_ (h := ?_)); (refine pB 2 (cn 10 3) (some 19) HT_ (h := ?_)); (refine pB 4 (cb 10 23) (some 21) HT_ (h := ?_)); (refine pB 5 (cb 10 55) (some 22) HT_ (h := ?_)); (refine pB 6 (cb 10 119) (some 23) HT_ (h := ?_)); (refine tB 3 (cn 10 7) (some 20) HT_ HW_ hHeld (h := ?_)); (refine tB 7 (cn 10 8) (some 24) HT_ HW_ hHeld (h := ?_)); (refine oN 8 (some 25) (cn 10 9) HT_ (fun K hK => ?_)); (refine gG Tryz.func67 #[.agg #[.int .i64 ((rd_T79 l0 x5_1).f0), .int .i64 ((rd_T79 l0 x5_1).f1)], .agg #[.int .i64 ((rd_T79 l1 x5_1).f0), .int .i64 ((rd_T79 l1 x5_1).f1)]] ?_); (with_reducible refine (laws_eqContext.calls ((rd_T79 l0 x5_1).f0) ((rd_T79 l0 x5_1).f1) ((rd_T79 l1 x5_1).f0) ((rd_T79 l1 x5_1).f1) true _ A7.out ⟨rfl⟩).mono ?_); (rintro e w10 ⟨rfl, hb⟩); (refine ⟨_, rfl, ?_⟩); (have n0_ := Aside0.mk (sI hb HB)); clear HB; (have HB := n0_); clear n0_; ((try clear hb)); ((try clear hb2)); ((try clear hk)); ((try clear hi))
        (refine hK.out _ _ ⟨(hcI HB hw101_0), (hcI HB hw101_1), (hcI HB hw102_0), (hcI HB hw102_1)⟩ (fun hHeld => ?_)); clear hK K; (refine nP (some 25) (h := ?_)); (refine pB 9 (cn 10 10) (some 26) HT_ (h := ?_)); (refine done_ (done_of HT_.out (by kernel_rfl)) ?_); (try go_wp2); go_roundg k1
        case measure => have := HK1.out; omega
        case rel => exact ⟨(wrap64 (x5_1 + 1)), (by first | rfl | (simp; done) | (simp [*]; done)), H', ⟨by have := HK1.out; omega⟩, ⟨eI HB⟩⟩
       ·replace c8 := Bool.eq_false_iff.mpr c8
        subst c8; (rw [if_neg (show ¬ (false = true) by decide)] at H); (obtain rfl := Option.some.inj H); (exact absurd ht_.out (by decide))
      ·rw [if_neg c6] at H
       exact absurd H (by simp)
     ·rw [if_neg c5] at H
      exact absurd H (by simp)
    ·rw [if_neg c4] at H
     (have c4b0 := decide_eq_false c4); clear c4; (obtain rfl := Option.some.inj H); (go_wp2); go_ret; (exact ⟨rfl, eI HB⟩)
 ·rw [if_neg c3] at H
  (have c3b0 : ((l0.length : Int) == (l1.length : Int)) = false := beq_eq_false_iff_ne.mpr c3); (have c3b1 : ((l0.length : Int) != (l1.length : Int)) = true := bne_iff_ne.mpr c3); (have c3b2 : (l0.length == l1.length) = false := by first | simpa using c3 | (simp at c3 ⊢; omega)); (obtain rfl := Option.some.inj H); (exact absurd ht_.out (by decide))
/-! ### laws_eqRelation: function 68 -/
def laws_eqRelation.f (a0_0 : Int) (a0_1 : Int) (a1_0 : Int) (a1_1 : Int) : Option (Bool) := if a0_0 = a1_0 then (if a0_1 = a1_1 then (some true) else (some false)) else (some false)
set_option maxHeartbeats 8000000 in
set_option maxRecDepth 100000 in
theorem laws_eqRelation.calls (a0_0 : Int) (a0_1 : Int) (a1_0 : Int) (a1_1 : Int) (r : Bool) (w : World) (h : laws_eqRelation.f a0_0 a0_1 a1_0 a1_1 = some r) (ht_ : Aside0 (r = true)) :
  Calls Tryz.prog 68 #[.agg #[.int .i64 a0_0, .int .i64 a0_1], .agg #[.int .i64 a1_0, .int .i64 a1_1]] w fun e w' => e = .returned (.bool r) ∧ Below w.heap.size w w' := by
 (have hu82 := Tryz.underlying82); (have HB := Aside0.mk (Below.refl w.heap.size w)); (unfold laws_eqRelation.f at h); (have H := h); clear h; (by_cases c3 : a0_0 = a1_0)
 ·rw [if_pos c3] at H
  (have c3b0 : (a0_0 == a1_0) = true := beq_iff_eq.mpr c3); (have c3b1 : (a0_0 != a1_0) = false := bne_eq_false_iff_eq.mpr c3); clear c3; (by_cases c4 : a0_1 = a1_1); (· (rw [if_pos c4] at H); (have c4b0 : (a0_1 == a1_1) = true := beq_iff_eq.mpr c4); (have c4b1 : (a0_1 != a1_1) = false := bne_eq_false_iff_eq.mpr c4); clear c4; (obtain rfl := Option.some.inj H); (go_enter Tryz.func68, Tryz.ntmps68); (go_wp2_with (first | ((with_reducible refine gate_dst (N := 2) rfl ?_); refine box_event ?hg (N := 2) ?hd (cs := #[.int .i64 a0_0, .int .i64 a0_1]) (t := 82) ?hr ?_; (case hd => rfl); (case hg => rfl); (case hr => first | (go_simp; done) | (go_simp; rfl)); intro gb101 hg w5 hbox hb; have hB_ := zI hb HB; have n0_ := Aside0.mk (below_step hB_ hb); have n1_ := Aside0.mk (hbox); have n2_ := Aside0.mk (bx0 hg hB_); have n3_ := n2_; clear HB; have HB := n0_; have BK101 := n1_; have GW101 := n2_; have GE101 := n3_; clear n0_ n1_ n2_ n3_ hB_ hb hbox hg) | ((with_reducible refine gate_dst (N := 3) rfl ?_); refine box_event ?hg (N := 3) ?hd (cs := #[.int .i64 a1_0, .int .i64 a1_1]) (t := 82) ?hr ?_; (case hd => rfl); (case hg => rfl); (case hr => first | (go_simp; done) | (go_simp; rfl)); intro gb102 hg w6 hbox hb; have n0_ := Aside0.mk (kbI hb BK101); have hB_ := zI hb HB; have n1_ := Aside0.mk (below_step hB_ hb); have n2_ := Aside0.mk (hbox); have n3_ := Aside0.mk (bx0 hg hB_); have n4_ := n3_; have n5_ := Aside0.mk ((by rw [hg]; exact Nat.ne_of_lt (blk_lt (kI BK101)) : gb101 ≠ gb102)); have n6_ := Aside0.mk (Ne.symm n5_.out); clear BK101 HB; have BK101 := n0_; have HB := n1_; have BK102 := n2_; have GW102 := n3_; have GE102 := n4_; have NB101_102 := n5_; have NB102_101 := n6_; clear n0_ n1_ n2_ n3_ n4_ n5_ n6_ hB_ hb hbox hg; have hnb7 := NB101_102.out; have hnc7 := NB102_101.out; have hcz8_0 := cz BK101.out 0; have hcz8_1 := cz BK101.out 1; have hfz8_0 := blk_frozen BK101.out 0; have hfz8_1 := blk_frozen BK101.out 1; have hcz9_0 := cz BK102.out 0; have hcz9_1 := cz BK102.out 1; have hfz9_0 := blk_frozen BK102.out 0; have hfz9_1 := blk_frozen BK102.out 1))); go_ret; (exact ⟨rfl, eI HB⟩)); (· (rw [if_neg c4] at H); (have c4b0 : (a0_1 == a1_1) = false := beq_eq_false_iff_ne.mpr c4); (have c4b1 : (a0_1 != a1_1) = true := bne_iff_ne.mpr c4); (obtain rfl := Option.some.inj H); (exact absurd ht_.out (by decide)))
 ·rw [if_neg c3] at H
  (have c3b0 : (a0_0 == a1_0) = false := beq_eq_false_iff_ne.mpr c3); (have c3b1 : (a0_0 != a1_0) = true := bne_iff_ne.mpr c3); (obtain rfl := Option.some.inj H); (exact absurd ht_.out (by decide))
/-! ### laws_eqRelationS: function 47 -/
def laws_eqRelationS.l0 : Nat → List (S82) → List (S82) → Int → Option (Bool)
 | 0, _, _, _ => none
 | k + 1, x0, x1, x5 => if x5 < (x0.length : Int) then (if 0 ≤ x5 then (if x5 < (x1.length : Int) then ((laws_eqRelation.f ((rd_T82 x0 x5).f0) ((rd_T82 x0 x5).f1) ((rd_T82 x1 x5).f0) ((rd_T82 x1 x5).f1)).bind fun t103 => (if t103 = true then (laws_eqRelationS.l0 k x0 x1 (wrap64 (x5 + 1))) else (some false))) else (none)) else (none)) else (some true)
def laws_eqRelationS.f (k : Nat) (l0 : List (S82)) (l1 : List (S82)) : Option (Bool) := if (l0.length : Int) = (l1.length : Int) then (laws_eqRelationS.l0 k l0 l1 0) else (some false)
def laws_eqRelationS.T6 : Bool × List (List Nat × List Nat) := (true, [([], []), ([], []), ([0, 1], [0, 1]), ([2], [2]), ([], []), ([], []), ([4, 5], [4, 5]), ([6], [6]), ([3, 7], [3, 7]), ([8], [8])])
def laws_eqRelationS.B6 : List Nat := [0, 0, 3, 7, 0, 0, 48, 112, 255, 511]
theorem laws_eqRelationS.tab6 : rtab .any (opsOf Tryz.f47 6) = laws_eqRelationS.T6 := by kernel_rfl
theorem laws_eqRelationS.bits6 : waitsOk laws_eqRelationS.T6.2 laws_eqRelationS.B6 = true := by kernel_rfl
set_option maxHeartbeats 8000000 in
set_option maxRecDepth 100000 in
theorem laws_eqRelationS.calls (k : Nat) (A0 : Option Addr) (c0 : Nat) (l0 : List (S82)) (A1 : Option Addr) (c1 : Nat) (l1 : List (S82)) (r : Bool) (w : World) (hr0 : Kd.C k82 w A0 l0.length l0) (hc0 : l0.length ≤ c0) (hr1 : Kd.C k82 w A1 l1.length l1) (hc1 : l1.length ≤ c1) (h : laws_eqRelationS.f k l0 l1 = some r) (ht_ : Aside0 (r = true)) :
  Calls Tryz.prog 47 #[.slice A0 l0.length c0, .slice A1 l1.length c1] w fun e w' => e = .returned (.bool r) ∧ Below w.heap.size w w' := by
 (have hu82 := Tryz.underlying82); (have HR0 := Aside0.mk hr0); (have HC0 := Aside0.mk hc0); clear hr0 hc0; (have HR1 := Aside0.mk hr1); (have HC1 := Aside0.mk hc1); clear hr1 hc1; (have HB := Aside0.mk (Below.refl w.heap.size w)); (unfold laws_eqRelationS.f at h); (have H := h); clear h; (by_cases c3 : (l0.length : Int) = (l1.length : Int))
 ·rw [if_pos c3] at H
  (have c3b0 : ((l0.length : Int) == (l1.length : Int)) = true := beq_iff_eq.mpr c3); (have c3b1 : ((l0.length : Int) != (l1.length : Int)) = false := bne_eq_false_iff_eq.mpr c3); (have c3b2 : (l0.length == l1.length) = true := by first | simpa using c3 | (simp at c3 ⊢; omega)); clear c3; (have H' := Aside0.mk H); clear H; (go_enter Tryz.func47, Tryz.ntmps47); (go_wp2); (go_loopg [5] k (fun kq v5 w' => ∃ (x5_1 : Int), v5 = .int .i64 x5_1 ∧ Aside0 (laws_eqRelationS.l0 kq l0 l1 x5_1 = some r) ∧ Aside0 (kq ≤ k) ∧ Aside0 (Below w.heap.size w w')))
  case atStart => exact ⟨(0), (by first | rfl | (simp; done) | (simp [*]; done)), H', ⟨Nat.le_refl _⟩, ⟨eI HB⟩⟩
  case round =>
   (clear H'); (try clear c1); (try clear p2); (try clear c3); (try clear c3b0); (try clear c3b1); (try clear c3b2); (obtain ⟨x5_1, rfl, HA, HK1, HB⟩ := hrel)
   cases gk with
   | zero => exact absurd HA.out (by simp [laws_eqRelationS.l0])
   | succ k1 =>
    (have H := HA.out); clear HA; (simp only [laws_eqRelationS.l0] at H); (by_cases c4 : x5_1 < (l0.length : Int))
    ·rw [if_pos c4] at H
     (have c4b0 := decide_eq_true c4); clear c4; (by_cases c5 : 0 ≤ x5_1)
     ·rw [if_pos c5] at H
      (have c5b0 := decide_eq_true c5); clear c5; (by_cases c6 : x5_1 < (l1.length : Int))
      ·rw [if_pos c6] at H
       (have c6b0 := decide_eq_true c6); clear c6; (obtain ⟨t103, A7, H⟩ := obS H); (by_cases c8 : t103 = true)
       ·subst c8
        (rw [if_pos rfl] at H); (have H' := Aside0.mk H); clear H; (try go_wp2); (have n0_ := Aside0.mk (below_drew1 HB.out)); clear HB; (have HB := n0_); clear n0_; (have p101 : 0 ≤ (x5_1 : Int) := odt); (have q101 : x5_1 < (l0.length : Int) := odt); (obtain ⟨ad101, e101, hx101_0, hx101_1⟩ := at_T82 HR0.out x5_1 p101 q101); (have hw101_1 := hx101_1); (have hw101_0 := hx101_0); (cases e101); (replace hx101_0 := hcI HB hx101_0); (replace hx101_1 := hcI HB hx101_1); (replace p101 := eq_true p101); (replace q101 := eq_true q101); (have p102 : 0 ≤ (x5_1 : Int) := odt); (have q102 : x5_1 < (l1.length : Int) := odt); (obtain ⟨ad102, e102, hx102_0, hx102_1⟩ := at_T82 HR1.out x5_1 p102 q102); (have hw102_1 := hx102_1); (have hw102_0 := hx102_0); (cases e102); (replace hx102_0 := hcI HB hx102_0); (replace hx102_1 := hcI HB hx102_1); (replace p102 := eq_true p102); (replace q102 := eq_true q102); (refine start_ (n := 10) (S := fun w' => w'.cell? (ad101.add ((x5_1).toNat * 2)) = some (.int .i64 ((rd_T82 l0 x5_1).f0)) ∧ w'.cell? ⟨(ad101.add ((x5_1).toNat * 2)).block, (ad101.add ((x5_1).toNat * 2)).off + 1, none⟩ = some (.int .i64 ((rd_T82 l0 x5_1).f1)) ∧ w'.cell? (ad102.add ((x5_1).toNat * 2)) = some (.int .i64 ((rd_T82 l1 x5_1).f0)) ∧ w'.cell? ⟨(ad102.add ((x5_1).toNat * 2)).block, (ad102.add ((x5_1).toNat * 2)).off + 1, none⟩ = some (.int .i64 ((rd_T82 l1 x5_1).f1))) (ds := []) (cn 10 0) (by kernel_rfl) rfl (by kernel_rfl) ⟨(hcI HB hw101_0), (hcI HB hw101_1), (hcI HB hw102_0), (hcI HB hw102_1)⟩ (fun hHeld => ?_); refine with_tabW laws_eqRelationS.tab6 laws_eqRelationS.bits6 (fun HT_ HW_ => ?_)); (generalize wr.drew = w9 at HB hx101_0 hx101_1 hx102_0 hx102_1 hHeld ⊢); (refine pB 0 (cn 10 1) (some 17) HT_ (h := ?_)); (refine pB 1 (cn 10 2) (some 18) HT_ (h := ?_)); (refine pB 2 (cn 10 3) (some 19) HT_ (h := ?_)); (refine pB 4 (cb 10 23) (some 21) HT_ (h := ?_)); (refine pB 5 (cb 10 55) (some 22) HT_ (h := ?_)); (refine pB 6 (cb 10 119) (some 23) HT_ (h := ?_)); (refine tB 3 (cn 10 7) (some 20) HT_ HW_ hHeld (h := ?_)); (refine tB 7 (cn 10 8) (some 24) HT_ HW_ hHeld (h := ?_)); (refine oN 8 (some 25) (cn 10 9) HT_ (fun K hK => ?_)); (refine gG Tryz.func68 #[.agg #[.int .i64 ((rd_T82 l0 x5_1).f0), .int .i64 ((rd_T82 l0 x5_1).f1)], .agg #[.int .i64 ((rd_T82 l1 x5_1).f0), .int .i64 ((rd_T82 l1 x5_1).f1)]] ?_); (with_reducible refine (laws_eqRelation.calls ((rd_T82 l0 x5_1).f0) ((rd_T82 l0 x5_1).f1) ((rd_T82 l1 x5_1).f0) ((rd_T82 l1 x5_1).f1) true _ A7.out ⟨rfl⟩).mono ?_); (rintro e w10 ⟨rfl, hb⟩); (refine ⟨_, rfl, ?_⟩); (have n0_ := Aside0.mk (sI hb HB)); clear HB; (have HB := n0_); clear n0_; ((try clear hb)); ((try clear hb2)); ((try clear hk)); ((try clear hi))
        (refine hK.out _ _ ⟨(hcI HB hw101_0), (hcI HB hw101_1), (hcI HB hw102_0), (hcI HB hw102_1)⟩ (fun hHeld => ?_)); clear hK K; (refine nP (some 25) (h := ?_)); (refine pB 9 (cn 10 10) (some 26) HT_ (h := ?_)); (refine done_ (done_of HT_.out (by kernel_rfl)) ?_); (try go_wp2); go_roundg k1
        case measure => have := HK1.out; omega
        case rel => exact ⟨(wrap64 (x5_1 + 1)), (by first | rfl | (simp; done) | (simp [*]; done)), H', ⟨by have := HK1.out; omega⟩, ⟨eI HB⟩⟩
       ·replace c8 := Bool.eq_false_iff.mpr c8
        subst c8; (rw [if_neg (show ¬ (false = true) by decide)] at H); (obtain rfl := Option.some.inj H); (exact absurd ht_.out (by decide))
      ·rw [if_neg c6] at H
       exact absurd H (by simp)
     ·rw [if_neg c5] at H
      exact absurd H (by simp)
    ·rw [if_neg c4] at H
     (have c4b0 := decide_eq_false c4); clear c4; (obtain rfl := Option.some.inj H); (go_wp2); go_ret; (exact ⟨rfl, eI HB⟩)
 ·rw [if_neg c3] at H
  (have c3b0 : ((l0.length : Int) == (l1.length : Int)) = false := beq_eq_false_iff_ne.mpr c3); (have c3b1 : ((l0.length : Int) != (l1.length : Int)) = true := bne_iff_ne.mpr c3); (have c3b2 : (l0.length == l1.length) = false := by first | simpa using c3 | (simp at c3 ⊢; omega)); (obtain rfl := Option.some.inj H); (exact absurd ht_.out (by decide))
/-! ### laws_eqRecord: function 23 -/
def laws_eqRecord.f (k : Nat) (l0_0 : List (S79)) (l0_1 : List (S82)) (l1_0 : List (S79)) (l1_1 : List (S82)) : Option (Bool) := (laws_eqContextS.f k l0_0 l1_0).bind fun t103 => (if t103 = true then ((laws_eqRelationS.f k l0_1 l1_1).bind fun t104 => (if t104 = true then (some true) else (some false))) else (some false))
set_option maxHeartbeats 8000000 in
set_option maxRecDepth 100000 in
theorem laws_eqRecord.calls (k : Nat) (A0_0 : Option Addr) (c0_0 : Nat) (l0_0 : List (S79)) (A0_1 : Option Addr) (c0_1 : Nat) (l0_1 : List (S82)) (A1_0 : Option Addr) (c1_0 : Nat) (l1_0 : List (S79)) (A1_1 : Option Addr) (c1_1 : Nat) (l1_1 : List (S82)) (r : Bool) (w : World) (hr0_0 : Kd.C k79 w A0_0 l0_0.length l0_0) (hc0_0 : l0_0.length ≤ c0_0) (hr0_1 : Kd.C k82 w A0_1 l0_1.length l0_1) (hc0_1 : l0_1.length ≤ c0_1) (hr1_0 : Kd.C k79 w A1_0 l1_0.length l1_0) (hc1_0 : l1_0.length ≤ c1_0) (hr1_1 : Kd.C k82 w A1_1 l1_1.length l1_1) (hc1_1 : l1_1.length ≤ c1_1) (h : laws_eqRecord.f k l0_0 l0_1 l1_0 l1_1 = some r) (ht_ : Aside0 (r = true)) :
  Calls Tryz.prog 23 #[.agg #[.slice A0_0 l0_0.length c0_0, .slice A0_1 l0_1.length c0_1], .agg #[.slice A1_0 l1_0.length c1_0, .slice A1_1 l1_1.length c1_1]] w fun e w' => e = .returned (.bool r) ∧ Below w.heap.size w w' := by
 (have hu36 := Tryz.underlying36); (have HR0_0 := Aside0.mk hr0_0); (have HC0_0 := Aside0.mk hc0_0); clear hr0_0 hc0_0; (have HR0_1 := Aside0.mk hr0_1); (have HC0_1 := Aside0.mk hc0_1); clear hr0_1 hc0_1; (have HR1_0 := Aside0.mk hr1_0); (have HC1_0 := Aside0.mk hc1_0); clear hr1_0 hc1_0; (have HR1_1 := Aside0.mk hr1_1); (have HC1_1 := Aside0.mk hc1_1); clear hr1_1 hc1_1; (have HB := Aside0.mk (Below.refl w.heap.size w)); (unfold laws_eqRecord.f at h); (have H := h); clear h; (obtain ⟨t103, A3, H⟩ := obS H); (by_cases c4 : t103 = true)
 ·subst c4
  (rw [if_pos rfl] at H); (obtain ⟨t104, A5, H⟩ := obS H); (by_cases c6 : t104 = true)
  ·subst c6
   (rw [if_pos rfl] at H); (obtain rfl := Option.some.inj H); (go_enter Tryz.func23, Tryz.ntmps23); (go_wp2_with (first | ((with_reducible refine gate_dst (N := 2) rfl ?_); refine box_event ?hg (N := 2) ?hd (cs := #[.slice A0_0 l0_0.length c0_0, .slice A0_1 l0_1.length c0_1]) (t := 36) ?hr ?_; (case hd => rfl); (case hg => rfl); (case hr => first | (go_simp; done) | (go_simp; rfl)); intro gb101 hg w7 hbox hb; have hB_ := zI hb HB; have n0_ := Aside0.mk (below_step hB_ hb); have n1_ := Aside0.mk (hbox); have n2_ := Aside0.mk (bx0 hg hB_); have n3_ := n2_; clear HB; have HB := n0_; have BK101 := n1_; have GW101 := n2_; have GE101 := n3_; clear n0_ n1_ n2_ n3_ hB_ hb hbox hg) | ((with_reducible refine gate_dst (N := 3) rfl ?_); refine box_event ?hg (N := 3) ?hd (cs := #[.slice A1_0 l1_0.length c1_0, .slice A1_1 l1_1.length c1_1]) (t := 36) ?hr ?_; (case hd => rfl); (case hg => rfl); (case hr => first | (go_simp; done) | (go_simp; rfl)); intro gb102 hg w8 hbox hb; have n0_ := Aside0.mk (kbI hb BK101); have hB_ := zI hb HB; have n1_ := Aside0.mk (below_step hB_ hb); have n2_ := Aside0.mk (hbox); have n3_ := Aside0.mk (bx0 hg hB_); have n4_ := n3_; have n5_ := Aside0.mk ((by rw [hg]; exact Nat.ne_of_lt (blk_lt (kI BK101)) : gb101 ≠ gb102)); have n6_ := Aside0.mk (Ne.symm n5_.out); clear BK101 HB; have BK101 := n0_; have HB := n1_; have BK102 := n2_; have GW102 := n3_; have GE102 := n4_; have NB101_102 := n5_; have NB102_101 := n6_; clear n0_ n1_ n2_ n3_ n4_ n5_ n6_ hB_ hb hbox hg; have hnb9 := NB101_102.out; have hnc9 := NB102_101.out; have hcz10_0 := cz BK101.out 0; have hcz10_1 := cz BK101.out 1; have hfz10_0 := blk_frozen BK101.out 0; have hfz10_1 := blk_frozen BK101.out 1; have hcz11_0 := cz BK102.out 0; have hcz11_1 := cz BK102.out 1; have hfz11_0 := blk_frozen BK102.out 0; have hfz11_1 := blk_frozen BK102.out 1) | ((with_reducible refine gate_callee (f := 46) rfl ?_); refine gL (some 9) Tryz.func46 #[.slice A0_0 l0_0.length c0_0, .slice A1_0 l1_0.length c1_0] ?_; (with_reducible refine (laws_eqContextS.calls k _ _ l0_0 _ _ l1_0 true _ ?side1 ?side2 ?side3 ?side4 A3.out ⟨rfl⟩).mono ?_); (case side1 => exact Kd.C_below HR0_0.out (eI HB)); (case side2 => exact HC0_0.out); (case side3 => exact Kd.C_below HR1_0.out (eI HB)); (case side4 => exact HC1_0.out); rintro e w12 ⟨rfl, hb⟩; refine ⟨_, rfl, ?_⟩; have n0_ := Aside0.mk (kbI hb BK101); have n1_ := Aside0.mk (kbI hb BK102); have n2_ := Aside0.mk (sI hb HB); clear BK101 BK102 HB; have BK101 := n0_; have BK102 := n1_; have HB := n2_; clear n0_ n1_ n2_; (try clear hb); (try clear hb2); (try clear hk); (try clear hi); have hcz13_0 := cz BK101.out 0; have hcz13_1 := cz BK101.out 1; have hfz13_0 := blk_frozen BK101.out 0; have hfz13_1 := blk_frozen BK101.out 1; have hcz14_0 := cz BK102.out 0; have hcz14_1 := cz BK102.out 1; have hfz14_0 := blk_frozen BK102.out 0; have hfz14_1 := blk_frozen BK102.out 1) | ((with_reducible refine gate_callee (f := 47) rfl ?_); refine gL (some 15) Tryz.func47 #[.slice A0_1 l0_1.length c0_1, .slice A1_1 l1_1.length c1_1] ?_; (with_reducible refine (laws_eqRelationS.calls k _ _ l0_1 _ _ l1_1 true _ ?side1 ?side2 ?side3 ?side4 A5.out ⟨rfl⟩).mono ?_); (case side1 => exact Kd.C_below HR0_1.out (eI HB)); (case side2 => exact HC0_1.out); (case side3 => exact Kd.C_below HR1_1.out (eI HB)); (case side4 => exact HC1_1.out); rintro e w15 ⟨rfl, hb⟩; refine ⟨_, rfl, ?_⟩; have n0_ := Aside0.mk (kbI hb BK101); have n1_ := Aside0.mk (kbI hb BK102); have n2_ := Aside0.mk (sI hb HB); clear BK101 BK102 HB; have BK101 := n0_; have BK102 := n1_; have HB := n2_; clear n0_ n1_ n2_; (try clear hb); (try clear hb2); (try clear hk); (try clear hi)))); go_ret
   exact ⟨rfl, eI HB⟩
  ·replace c6 := Bool.eq_false_iff.mpr c6
   subst c6; (rw [if_neg (show ¬ (false = true) by decide)] at H); (obtain rfl := Option.some.inj H); (exact absurd ht_.out (by decide))
 ·replace c4 := Bool.eq_false_iff.mpr c4
  subst c4; (rw [if_neg (show ¬ (false = true) by decide)] at H); (obtain rfl := Option.some.inj H); (exact absurd ht_.out (by decide))
/-! ### laws_eqInterval: function 69 -/
def laws_eqInterval.f (a0_0 : Int) (a0_1 : Int) (a1_0 : Int) (a1_1 : Int) : Option (Bool) := if a0_0 = a1_0 then (if a0_1 = a1_1 then (some true) else (some false)) else (some false)
set_option maxHeartbeats 8000000 in
set_option maxRecDepth 100000 in
theorem laws_eqInterval.calls (a0_0 : Int) (a0_1 : Int) (a1_0 : Int) (a1_1 : Int) (r : Bool) (w : World) (h : laws_eqInterval.f a0_0 a0_1 a1_0 a1_1 = some r) (ht_ : Aside0 (r = true)) :
  Calls Tryz.prog 69 #[.agg #[.int .i64 a0_0, .int .i64 a0_1], .agg #[.int .i64 a1_0, .int .i64 a1_1]] w fun e w' => e = .returned (.bool r) ∧ Below w.heap.size w w' := by
 (have hu55 := Tryz.underlying55); (have HB := Aside0.mk (Below.refl w.heap.size w)); (unfold laws_eqInterval.f at h); (have H := h); clear h; (by_cases c3 : a0_0 = a1_0)
 ·rw [if_pos c3] at H
  (have c3b0 : (a0_0 == a1_0) = true := beq_iff_eq.mpr c3); (have c3b1 : (a0_0 != a1_0) = false := bne_eq_false_iff_eq.mpr c3); clear c3; (by_cases c4 : a0_1 = a1_1); (· (rw [if_pos c4] at H); (have c4b0 : (a0_1 == a1_1) = true := beq_iff_eq.mpr c4); (have c4b1 : (a0_1 != a1_1) = false := bne_eq_false_iff_eq.mpr c4); clear c4; (obtain rfl := Option.some.inj H); (go_enter Tryz.func69, Tryz.ntmps69); (go_wp2_with (first | ((with_reducible refine gate_dst (N := 2) rfl ?_); refine box_event ?hg (N := 2) ?hd (cs := #[.int .i64 a0_0, .int .i64 a0_1]) (t := 55) ?hr ?_; (case hd => rfl); (case hg => rfl); (case hr => first | (go_simp; done) | (go_simp; rfl)); intro gb101 hg w5 hbox hb; have hB_ := zI hb HB; have n0_ := Aside0.mk (below_step hB_ hb); have n1_ := Aside0.mk (hbox); have n2_ := Aside0.mk (bx0 hg hB_); have n3_ := n2_; clear HB; have HB := n0_; have BK101 := n1_; have GW101 := n2_; have GE101 := n3_; clear n0_ n1_ n2_ n3_ hB_ hb hbox hg) | ((with_reducible refine gate_dst (N := 3) rfl ?_); refine box_event ?hg (N := 3) ?hd (cs := #[.int .i64 a1_0, .int .i64 a1_1]) (t := 55) ?hr ?_; (case hd => rfl); (case hg => rfl); (case hr => first | (go_simp; done) | (go_simp; rfl)); intro gb102 hg w6 hbox hb; have n0_ := Aside0.mk (kbI hb BK101); have hB_ := zI hb HB; have n1_ := Aside0.mk (below_step hB_ hb); have n2_ := Aside0.mk (hbox); have n3_ := Aside0.mk (bx0 hg hB_); have n4_ := n3_; have n5_ := Aside0.mk ((by rw [hg]; exact Nat.ne_of_lt (blk_lt (kI BK101)) : gb101 ≠ gb102)); have n6_ := Aside0.mk (Ne.symm n5_.out); clear BK101 HB; have BK101 := n0_; have HB := n1_; have BK102 := n2_; have GW102 := n3_; have GE102 := n4_; have NB101_102 := n5_; have NB102_101 := n6_; clear n0_ n1_ n2_ n3_ n4_ n5_ n6_ hB_ hb hbox hg; have hnb7 := NB101_102.out; have hnc7 := NB102_101.out; have hcz8_0 := cz BK101.out 0; have hcz8_1 := cz BK101.out 1; have hfz8_0 := blk_frozen BK101.out 0; have hfz8_1 := blk_frozen BK101.out 1; have hcz9_0 := cz BK102.out 0; have hcz9_1 := cz BK102.out 1; have hfz9_0 := blk_frozen BK102.out 0; have hfz9_1 := blk_frozen BK102.out 1))); go_ret; (exact ⟨rfl, eI HB⟩)); (· (rw [if_neg c4] at H); (have c4b0 : (a0_1 == a1_1) = false := beq_eq_false_iff_ne.mpr c4); (have c4b1 : (a0_1 != a1_1) = true := bne_iff_ne.mpr c4); (obtain rfl := Option.some.inj H); (exact absurd ht_.out (by decide)))
 ·rw [if_neg c3] at H
  (have c3b0 : (a0_0 == a1_0) = false := beq_eq_false_iff_ne.mpr c3); (have c3b1 : (a0_0 != a1_0) = true := bne_iff_ne.mpr c3); (obtain rfl := Option.some.inj H); (exact absurd ht_.out (by decide))
/-! ### laws_eqDated: function 48 -/
def laws_eqDated.f (a0_0 : Int) (a0_1 : Int) (a0_2 : Int) (a1_0 : Int) (a1_1 : Int) (a1_2 : Int) : Option (Bool) := if a0_0 = a1_0 then ((laws_eqInterval.f a0_1 a0_2 a1_1 a1_2).bind fun t103 => (if t103 = true then (some true) else (some false))) else (some false)
set_option maxHeartbeats 8000000 in
set_option maxRecDepth 100000 in
theorem laws_eqDated.calls (a0_0 : Int) (a0_1 : Int) (a0_2 : Int) (a1_0 : Int) (a1_1 : Int) (a1_2 : Int) (r : Bool) (w : World) (h : laws_eqDated.f a0_0 a0_1 a0_2 a1_0 a1_1 a1_2 = some r) (ht_ : Aside0 (r = true)) :
  Calls Tryz.prog 48 #[.agg #[.int .i64 a0_0, .int .i64 a0_1, .int .i64 a0_2], .agg #[.int .i64 a1_0, .int .i64 a1_1, .int .i64 a1_2]] w fun e w' => e = .returned (.bool r) ∧ Below w.heap.size w w' := by
 (have hu57 := Tryz.underlying57); (have hu55 := Tryz.underlying55); (have HB := Aside0.mk (Below.refl w.heap.size w)); (unfold laws_eqDated.f at h); (have H := h); clear h; (by_cases c3 : a0_0 = a1_0)
 ·rw [if_pos c3] at H
  (have c3b0 : (a0_0 == a1_0) = true := beq_iff_eq.mpr c3); (have c3b1 : (a0_0 != a1_0) = false := bne_eq_false_iff_eq.mpr c3); clear c3; (obtain ⟨t103, A4, H⟩ := obS H); (by_cases c5 : t103 = true); (· subst c5; (rw [if_pos rfl] at H); (obtain rfl := Option.some.inj H); (go_enter Tryz.func48, Tryz.ntmps48); (go_wp2_with (first | ((with_reducible refine gate_dst (N := 2) rfl ?_); refine box_event ?hg (N := 2) ?hd (cs := #[.int .i64 a0_0, .int .i64 a0_1, .int .i64 a0_2]) (t := 57) ?hr ?_; (case hd => rfl); (case hg => rfl); (case hr => first | (go_simp; done) | (go_simp; rfl)); intro gb101 hg w6 hbox hb; have hB_ := zI hb HB; have n0_ := Aside0.mk (below_step hB_ hb); have n1_ := Aside0.mk (hbox); have n2_ := Aside0.mk (bx0 hg hB_); have n3_ := n2_; clear HB; have HB := n0_; have BK101 := n1_; have GW101 := n2_; have GE101 := n3_; clear n0_ n1_ n2_ n3_ hB_ hb hbox hg) | ((with_reducible refine gate_dst (N := 3) rfl ?_); refine box_event ?hg (N := 3) ?hd (cs := #[.int .i64 a1_0, .int .i64 a1_1, .int .i64 a1_2]) (t := 57) ?hr ?_; (case hd => rfl); (case hg => rfl); (case hr => first | (go_simp; done) | (go_simp; rfl)); intro gb102 hg w7 hbox hb; have n0_ := Aside0.mk (kbI hb BK101); have hB_ := zI hb HB; have n1_ := Aside0.mk (below_step hB_ hb); have n2_ := Aside0.mk (hbox); have n3_ := Aside0.mk (bx0 hg hB_); have n4_ := n3_; have n5_ := Aside0.mk ((by rw [hg]; exact Nat.ne_of_lt (blk_lt (kI BK101)) : gb101 ≠ gb102)); have n6_ := Aside0.mk (Ne.symm n5_.out); clear BK101 HB; have BK101 := n0_; have HB := n1_; have BK102 := n2_; have GW102 := n3_; have GE102 := n4_; have NB101_102 := n5_; have NB102_101 := n6_; clear n0_ n1_ n2_ n3_ n4_ n5_ n6_ hB_ hb hbox hg; have hnb8 := NB101_102.out; have hnc8 := NB102_101.out; have hcz9_0 := cz BK101.out 0; have hcz9_1 := cz BK101.out 1; have hcz9_2 := cz BK101.out 2; have hfz9_0 := blk_frozen BK101.out 0; have hfz9_1 := blk_frozen BK101.out 1; have hfz9_2 := blk_frozen BK101.out 2; have hcz10_0 := cz BK102.out 0; have hcz10_1 := cz BK102.out 1; have hcz10_2 := cz BK102.out 2; have hfz10_0 := blk_frozen BK102.out 0; have hfz10_1 := blk_frozen BK102.out 1; have hfz10_2 := blk_frozen BK102.out 2) | ((with_reducible refine gate_callee (f := 69) rfl ?_); refine gL (some 14) Tryz.func69 #[.agg #[.int .i64 a0_1, .int .i64 a0_2], .agg #[.int .i64 a1_1, .int .i64 a1_2]] ?_; (with_reducible refine (laws_eqInterval.calls a0_1 a0_2 a1_1 a1_2 true _ A4.out ⟨rfl⟩).mono ?_); rintro e w11 ⟨rfl, hb⟩; refine ⟨_, rfl, ?_⟩; have n0_ := Aside0.mk (kbI hb BK101); have n1_ := Aside0.mk (kbI hb BK102); have n2_ := Aside0.mk (sI hb HB); clear BK101 BK102 HB; have BK101 := n0_; have BK102 := n1_; have HB := n2_; clear n0_ n1_ n2_; (try clear hb); (try clear hb2); (try clear hk); (try clear hi)))); go_ret; (exact ⟨rfl, eI HB⟩)); (· (replace c5 := Bool.eq_false_iff.mpr c5); subst c5; (rw [if_neg (show ¬ (false = true) by decide)] at H); (obtain rfl := Option.some.inj H); (exact absurd ht_.out (by decide)))
 ·rw [if_neg c3] at H
  (have c3b0 : (a0_0 == a1_0) = false := beq_eq_false_iff_ne.mpr c3); (have c3b1 : (a0_0 != a1_0) = true := bne_iff_ne.mpr c3); (obtain rfl := Option.some.inj H); (exact absurd ht_.out (by decide))
/-! ### laws_eqDatedS: function 24 -/
def laws_eqDatedS.l0 : Nat → List (S57) → List (S57) → Int → Option (Bool)
 | 0, _, _, _ => none
 | k + 1, x0, x1, x5 => if x5 < (x0.length : Int) then (if 0 ≤ x5 then (if x5 < (x1.length : Int) then ((laws_eqDated.f ((rd_T57 x0 x5).f0) ((rd_T57 x0 x5).f1.f0) ((rd_T57 x0 x5).f1.f1) ((rd_T57 x1 x5).f0) ((rd_T57 x1 x5).f1.f0) ((rd_T57 x1 x5).f1.f1)).bind fun t103 => (if t103 = true then (laws_eqDatedS.l0 k x0 x1 (wrap64 (x5 + 1))) else (some false))) else (none)) else (none)) else (some true)
def laws_eqDatedS.f (k : Nat) (l0 : List (S57)) (l1 : List (S57)) : Option (Bool) := if (l0.length : Int) = (l1.length : Int) then (laws_eqDatedS.l0 k l0 l1 0) else (some false)
def laws_eqDatedS.T6 : Bool × List (List Nat × List Nat) := (true, [([], []), ([], []), ([0, 1], [0, 1]), ([2], [2]), ([], []), ([], []), ([4, 5], [4, 5]), ([6], [6]), ([3, 7], [3, 7]), ([8], [8])])
def laws_eqDatedS.B6 : List Nat := [0, 0, 3, 7, 0, 0, 48, 112, 255, 511]
theorem laws_eqDatedS.tab6 : rtab .any (opsOf Tryz.f24 6) = laws_eqDatedS.T6 := by kernel_rfl
theorem laws_eqDatedS.bits6 : waitsOk laws_eqDatedS.T6.2 laws_eqDatedS.B6 = true := by kernel_rfl
set_option maxHeartbeats 8000000 in
set_option maxRecDepth 100000 in
theorem laws_eqDatedS.calls (k : Nat) (A0 : Option Addr) (c0 : Nat) (l0 : List (S57)) (A1 : Option Addr) (c1 : Nat) (l1 : List (S57)) (r : Bool) (w : World) (hr0 : Kd.C k57 w A0 l0.length l0) (hc0 : l0.length ≤ c0) (hr1 : Kd.C k57 w A1 l1.length l1) (hc1 : l1.length ≤ c1) (h : laws_eqDatedS.f k l0 l1 = some r) (ht_ : Aside0 (r = true)) :
  Calls Tryz.prog 24 #[.slice A0 l0.length c0, .slice A1 l1.length c1] w fun e w' => e = .returned (.bool r) ∧ Below w.heap.size w w' := by
 (have hu57 := Tryz.underlying57); (have HR0 := Aside0.mk hr0); (have HC0 := Aside0.mk hc0); clear hr0 hc0; (have HR1 := Aside0.mk hr1); (have HC1 := Aside0.mk hc1); clear hr1 hc1; (have HB := Aside0.mk (Below.refl w.heap.size w)); (unfold laws_eqDatedS.f at h); (have H := h); clear h; (by_cases c3 : (l0.length : Int) = (l1.length : Int))
 ·rw [if_pos c3] at H
  (have c3b0 : ((l0.length : Int) == (l1.length : Int)) = true := beq_iff_eq.mpr c3); (have c3b1 : ((l0.length : Int) != (l1.length : Int)) = false := bne_eq_false_iff_eq.mpr c3); (have c3b2 : (l0.length == l1.length) = true := by first | simpa using c3 | (simp at c3 ⊢; omega)); clear c3; (have H' := Aside0.mk H); clear H; (go_enter Tryz.func24, Tryz.ntmps24); (go_wp2); (go_loopg [5] k (fun kq v5 w' => ∃ (x5_1 : Int), v5 = .int .i64 x5_1 ∧ Aside0 (laws_eqDatedS.l0 kq l0 l1 x5_1 = some r) ∧ Aside0 (kq ≤ k) ∧ Aside0 (Below w.heap.size w w')))
  case atStart => exact ⟨(0), (by first | rfl | (simp; done) | (simp [*]; done)), H', ⟨Nat.le_refl _⟩, ⟨eI HB⟩⟩
  case round =>
   (clear H'); (try clear c1); (try clear c2); (try clear p2); (try clear c3); (try clear c3b0); (try clear c3b1); (try clear c3b2); (obtain ⟨x5_1, rfl, HA, HK1, HB⟩ := hrel)
   cases gk with
   | zero => exact absurd HA.out (by simp [laws_eqDatedS.l0])
   | succ k1 =>
    (have H := HA.out); clear HA; (simp only [laws_eqDatedS.l0] at H); (by_cases c4 : x5_1 < (l0.length : Int))
    ·rw [if_pos c4] at H
     (have c4b0 := decide_eq_true c4); clear c4; (by_cases c5 : 0 ≤ x5_1)
     ·rw [if_pos c5] at H
      (have c5b0 := decide_eq_true c5); clear c5; (by_cases c6 : x5_1 < (l1.length : Int))
      ·rw [if_pos c6] at H
       (have c6b0 := decide_eq_true c6); clear c6; (obtain ⟨t103, A7, H⟩ := obS H); (by_cases c8 : t103 = true)
       ·subst c8
        (rw [if_pos rfl] at H); (have H' := Aside0.mk H); clear H; (try go_wp2); (have n0_ := Aside0.mk (below_drew1 HB.out)); clear HB; (have HB := n0_); clear n0_; (have p101 : 0 ≤ (x5_1 : Int) := odt); (have q101 : x5_1 < (l0.length : Int) := odt); (obtain ⟨ad101, e101, hx101_0, hx101_1, hx101_2⟩ := at_T57 HR0.out x5_1 p101 q101); (have hw101_2 := hx101_2); (have hw101_1 := hx101_1); (have hw101_0 := hx101_0); (cases e101); (replace hx101_0 := hcI HB hx101_0); (replace hx101_1 := hcI HB hx101_1); (replace hx101_2 := hcI HB hx101_2); (replace p101 := eq_true p101); (replace q101 := eq_true q101); (have p102 : 0 ≤ (x5_1 : Int) := odt); (have q102 : x5_1 < (l1.length : Int) := odt); (obtain ⟨ad102, e102, hx102_0, hx102_1, hx102_2⟩ := at_T57 HR1.out x5_1 p102 q102); (have hw102_2 := hx102_2); (have hw102_1 := hx102_1); (have hw102_0 := hx102_0); (cases e102); (replace hx102_0 := hcI HB hx102_0); (replace hx102_1 := hcI HB hx102_1); (replace hx102_2 := hcI HB hx102_2); (replace p102 := eq_true p102); (replace q102 := eq_true q102); (refine start_ (n := 10) (S := fun w' => w'.cell? (ad101.add ((x5_1).toNat * 3)) = some (.int .i64 ((rd_T57 l0 x5_1).f0)) ∧ w'.cell? ⟨(ad101.add ((x5_1).toNat * 3)).block, (ad101.add ((x5_1).toNat * 3)).off + 1, none⟩ = some (.int .i64 ((rd_T57 l0 x5_1).f1.f0)) ∧ w'.cell? ⟨(ad101.add ((x5_1).toNat * 3)).block, (ad101.add ((x5_1).toNat * 3)).off + 2, none⟩ = some (.int .i64 ((rd_T57 l0 x5_1).f1.f1)) ∧ w'.cell? (ad102.add ((x5_1).toNat * 3)) = some (.int .i64 ((rd_T57 l1 x5_1).f0)) ∧ w'.cell? ⟨(ad102.add ((x5_1).toNat * 3)).block, (ad102.add ((x5_1).toNat * 3)).off + 1, none⟩ = some (.int .i64 ((rd_T57 l1 x5_1).f1.f0)) ∧ w'.cell? ⟨(ad102.add ((x5_1).toNat * 3)).block, (ad102.add ((x5_1).toNat * 3)).off + 2, none⟩ = some (.int .i64 ((rd_T57 l1 x5_1).f1.f1))) (ds := []) (cn 10 0) (by kernel_rfl) rfl (by kernel_rfl) ⟨(hcI HB hw101_0), (hcI HB hw101_1), (hcI HB hw101_2), (hcI HB hw102_0), (hcI HB hw102_1), (hcI HB hw102_2)⟩ (fun hHeld => ?_); refine with_tabW laws_eqDatedS.tab6 laws_eqDatedS.bits6 (fun HT_ HW_ => ?_)); (generalize wr.drew = w9 at HB hx101_0 hx101_1 hx101_2 hx102_0 hx102_1 hx102_2 hHeld ⊢); (refine pB 0 (cn 10 1) (some 17) HT_ (h := ?_)); (refine pB 1 (cn 10 2) (some 18) HT_ (h := ?_)); (refine pB 2 (cn 10 3) (some 19) HT_ (h := ?_)); (refine pB 4 (cb 10 23) (some 21) HT_ (h := ?_)); (refine pB 5 (cb 10 55) (some 22) HT_ (h := ?_)); (refine pB 6 (cb 10 119) (some 23) HT_ (h := ?_)); (refine tB 3 (cn 10 7) (some 20) HT_ HW_ hHeld (h := ?_)); (refine tB 7 (cn 10 8) (some 24) HT_ HW_ hHeld (h := ?_)); (refine oN 8 (some 25) (cn 10 9) HT_ (fun K hK => ?_))
        (refine gG Tryz.func48 #[.agg #[.int .i64 ((rd_T57 l0 x5_1).f0), .int .i64 ((rd_T57 l0 x5_1).f1.f0), .int .i64 ((rd_T57 l0 x5_1).f1.f1)], .agg #[.int .i64 ((rd_T57 l1 x5_1).f0), .int .i64 ((rd_T57 l1 x5_1).f1.f0), .int .i64 ((rd_T57 l1 x5_1).f1.f1)]] ?_); (with_reducible refine (laws_eqDated.calls ((rd_T57 l0 x5_1).f0) ((rd_T57 l0 x5_1).f1.f0) ((rd_T57 l0 x5_1).f1.f1) ((rd_T57 l1 x5_1).f0) ((rd_T57 l1 x5_1).f1.f0) ((rd_T57 l1 x5_1).f1.f1) true _ A7.out ⟨rfl⟩).mono ?_); (rintro e w10 ⟨rfl, hb⟩); (refine ⟨_, rfl, ?_⟩); (have n0_ := Aside0.mk (sI hb HB)); clear HB; (have HB := n0_); clear n0_; ((try clear hb)); ((try clear hb2)); ((try clear hk)); ((try clear hi)); (refine hK.out _ _ ⟨(hcI HB hw101_0), (hcI HB hw101_1), (hcI HB hw101_2), (hcI HB hw102_0), (hcI HB hw102_1), (hcI HB hw102_2)⟩ (fun hHeld => ?_)); clear hK K; (refine nP (some 25) (h := ?_)); (refine pB 9 (cn 10 10) (some 26) HT_ (h := ?_)); (refine done_ (done_of HT_.out (by kernel_rfl)) ?_); (try go_wp2); go_roundg k1
        case measure => have := HK1.out; omega
        case rel => exact ⟨(wrap64 (x5_1 + 1)), (by first | rfl | (simp; done) | (simp [*]; done)), H', ⟨by have := HK1.out; omega⟩, ⟨eI HB⟩⟩
       ·replace c8 := Bool.eq_false_iff.mpr c8
        subst c8; (rw [if_neg (show ¬ (false = true) by decide)] at H); (obtain rfl := Option.some.inj H); (exact absurd ht_.out (by decide))
      ·rw [if_neg c6] at H
       exact absurd H (by simp)
     ·rw [if_neg c5] at H
      exact absurd H (by simp)
    ·rw [if_neg c4] at H
     (have c4b0 := decide_eq_false c4); clear c4; (obtain rfl := Option.some.inj H); (go_wp2); go_ret; (exact ⟨rfl, eI HB⟩)
 ·rw [if_neg c3] at H
  (have c3b0 : ((l0.length : Int) == (l1.length : Int)) = false := beq_eq_false_iff_ne.mpr c3); (have c3b1 : ((l0.length : Int) != (l1.length : Int)) = true := bne_iff_ne.mpr c3); (have c3b2 : (l0.length == l1.length) = false := by first | simpa using c3 | (simp at c3 ⊢; omega)); (obtain rfl := Option.some.inj H); (exact absurd ht_.out (by decide))
/-! ### laws_eqLog: function 25 -/
def laws_eqLog.f (a0_0 : ByteArray) (a0_1 : ByteArray) (a0_2 : Int) (a1_0 : ByteArray) (a1_1 : ByteArray) (a1_2 : Int) : Option (Bool) := if a0_0.toList = a1_0.toList then (if a0_1.toList = a1_1.toList then (if a0_2 = a1_2 then (some true) else (some false)) else (some false)) else (some false)
set_option maxHeartbeats 8000000 in
set_option maxRecDepth 100000 in
theorem laws_eqLog.calls (a0_0 : ByteArray) (a0_1 : ByteArray) (a0_2 : Int) (a1_0 : ByteArray) (a1_1 : ByteArray) (a1_2 : Int) (r : Bool) (w : World) (h : laws_eqLog.f a0_0 a0_1 a0_2 a1_0 a1_1 a1_2 = some r) (ht_ : Aside0 (r = true)) :
  Calls Tryz.prog 25 #[.agg #[.string a0_0, .string a0_1, .int .i64 a0_2], .agg #[.string a1_0, .string a1_1, .int .i64 a1_2]] w fun e w' => e = .returned (.bool r) ∧ Below w.heap.size w w' := by
 (have hu38 := Tryz.underlying38); (have HB := Aside0.mk (Below.refl w.heap.size w)); (unfold laws_eqLog.f at h); (have H := h); clear h; (by_cases c3 : a0_0.toList = a1_0.toList)
 ·rw [if_pos c3] at H
  (have c3b0 : (a0_0.toList == a1_0.toList) = true := beq_iff_eq.mpr c3); (have c3b1 : (a0_0.toList != a1_0.toList) = false := bne_eq_false_iff_eq.mpr c3); clear c3; (by_cases c4 : a0_1.toList = a1_1.toList)
  ·rw [if_pos c4] at H
   (have c4b0 : (a0_1.toList == a1_1.toList) = true := beq_iff_eq.mpr c4); (have c4b1 : (a0_1.toList != a1_1.toList) = false := bne_eq_false_iff_eq.mpr c4); clear c4; (by_cases c5 : a0_2 = a1_2); (· (rw [if_pos c5] at H); (have c5b0 : (a0_2 == a1_2) = true := beq_iff_eq.mpr c5); (have c5b1 : (a0_2 != a1_2) = false := bne_eq_false_iff_eq.mpr c5); clear c5; (obtain rfl := Option.some.inj H); (go_enter Tryz.func25, Tryz.ntmps25); (go_wp2_with (first | ((with_reducible refine gate_dst (N := 2) rfl ?_); refine box_event ?hg (N := 2) ?hd (cs := #[.string a0_0, .string a0_1, .int .i64 a0_2]) (t := 38) ?hr ?_; (case hd => rfl); (case hg => rfl); (case hr => first | (go_simp; done) | (go_simp; rfl)); intro gb101 hg w6 hbox hb; have hB_ := zI hb HB; have n0_ := Aside0.mk (below_step hB_ hb); have n1_ := Aside0.mk (hbox); have n2_ := Aside0.mk (bx0 hg hB_); have n3_ := n2_; clear HB; have HB := n0_; have BK101 := n1_; have GW101 := n2_; have GE101 := n3_; clear n0_ n1_ n2_ n3_ hB_ hb hbox hg) | ((with_reducible refine gate_dst (N := 3) rfl ?_); refine box_event ?hg (N := 3) ?hd (cs := #[.string a1_0, .string a1_1, .int .i64 a1_2]) (t := 38) ?hr ?_; (case hd => rfl); (case hg => rfl); (case hr => first | (go_simp; done) | (go_simp; rfl)); intro gb102 hg w7 hbox hb; have n0_ := Aside0.mk (kbI hb BK101); have hB_ := zI hb HB; have n1_ := Aside0.mk (below_step hB_ hb); have n2_ := Aside0.mk (hbox); have n3_ := Aside0.mk (bx0 hg hB_); have n4_ := n3_; have n5_ := Aside0.mk ((by rw [hg]; exact Nat.ne_of_lt (blk_lt (kI BK101)) : gb101 ≠ gb102)); have n6_ := Aside0.mk (Ne.symm n5_.out); clear BK101 HB; have BK101 := n0_; have HB := n1_; have BK102 := n2_; have GW102 := n3_; have GE102 := n4_; have NB101_102 := n5_; have NB102_101 := n6_; clear n0_ n1_ n2_ n3_ n4_ n5_ n6_ hB_ hb hbox hg; have hnb8 := NB101_102.out; have hnc8 := NB102_101.out; have hcz9_0 := cz BK101.out 0; have hcz9_1 := cz BK101.out 1; have hcz9_2 := cz BK101.out 2; have hfz9_0 := blk_frozen BK101.out 0; have hfz9_1 := blk_frozen BK101.out 1; have hfz9_2 := blk_frozen BK101.out 2; have hcz10_0 := cz BK102.out 0; have hcz10_1 := cz BK102.out 1; have hcz10_2 := cz BK102.out 2; have hfz10_0 := blk_frozen BK102.out 0; have hfz10_1 := blk_frozen BK102.out 1; have hfz10_2 := blk_frozen BK102.out 2))); go_ret; (exact ⟨rfl, eI HB⟩)); (· (rw [if_neg c5] at H); (have c5b0 : (a0_2 == a1_2) = false := beq_eq_false_iff_ne.mpr c5); (have c5b1 : (a0_2 != a1_2) = true := bne_iff_ne.mpr c5); (obtain rfl := Option.some.inj H); (exact absurd ht_.out (by decide)))
  ·rw [if_neg c4] at H
   (have c4b0 : (a0_1.toList == a1_1.toList) = false := beq_eq_false_iff_ne.mpr c4); (have c4b1 : (a0_1.toList != a1_1.toList) = true := bne_iff_ne.mpr c4); (obtain rfl := Option.some.inj H); (exact absurd ht_.out (by decide))
 ·rw [if_neg c3] at H
  (have c3b0 : (a0_0.toList == a1_0.toList) = false := beq_eq_false_iff_ne.mpr c3); (have c3b1 : (a0_0.toList != a1_0.toList) = true := bne_iff_ne.mpr c3); (obtain rfl := Option.some.inj H); (exact absurd ht_.out (by decide))
/-! ### laws_eqConsole: function 9 -/
def laws_eqConsole.f (k : Nat) (l0_0 : List (S79)) (l0_1 : List (S82)) (l0_2 : List (S57)) (a0_3 : ByteArray) (a0_4 : ByteArray) (a0_5 : Int) (l1_0 : List (S79)) (l1_1 : List (S82)) (l1_2 : List (S57)) (a1_3 : ByteArray) (a1_4 : ByteArray) (a1_5 : Int) : Option (Bool) := (laws_eqRecord.f k l0_0 l0_1 l1_0 l1_1).bind fun t103 => (if t103 = true then ((laws_eqDatedS.f k l0_2 l1_2).bind fun t104 => (if t104 = true then ((laws_eqLog.f a0_3 a0_4 a0_5 a1_3 a1_4 a1_5).bind fun t105 => (if t105 = true then (some true) else (some false))) else (some false))) else (some false))
set_option maxHeartbeats 8000000 in
set_option maxRecDepth 100000 in
theorem laws_eqConsole.calls (k : Nat) (A0_0 : Option Addr) (c0_0 : Nat) (l0_0 : List (S79)) (A0_1 : Option Addr) (c0_1 : Nat) (l0_1 : List (S82)) (A0_2 : Option Addr) (c0_2 : Nat) (l0_2 : List (S57)) (a0_3 : ByteArray) (a0_4 : ByteArray) (a0_5 : Int) (A1_0 : Option Addr) (c1_0 : Nat) (l1_0 : List (S79)) (A1_1 : Option Addr) (c1_1 : Nat) (l1_1 : List (S82)) (A1_2 : Option Addr) (c1_2 : Nat) (l1_2 : List (S57)) (a1_3 : ByteArray) (a1_4 : ByteArray) (a1_5 : Int) (r : Bool) (w : World) (hr0_0 : Kd.C k79 w A0_0 l0_0.length l0_0) (hc0_0 : l0_0.length ≤ c0_0) (hr0_1 : Kd.C k82 w A0_1 l0_1.length l0_1) (hc0_1 : l0_1.length ≤ c0_1) (hr0_2 : Kd.C k57 w A0_2 l0_2.length l0_2) (hc0_2 : l0_2.length ≤ c0_2) (hr1_0 : Kd.C k79 w A1_0 l1_0.length l1_0) (hc1_0 : l1_0.length ≤ c1_0) (hr1_1 : Kd.C k82 w A1_1 l1_1.length l1_1) (hc1_1 : l1_1.length ≤ c1_1) (hr1_2 : Kd.C k57 w A1_2 l1_2.length l1_2) (hc1_2 : l1_2.length ≤ c1_2) (h : laws_eqConsole.f k l0_0 l0_1 l0_2 a0_3 a0_4 a0_5 l1_0 l1_1 l1_2 a1_3 a1_4 a1_5 = some r) (ht_ : Aside0 (r = true)) :
  Calls Tryz.prog 9 #[.agg #[.slice A0_0 l0_0.length c0_0, .slice A0_1 l0_1.length c0_1, .slice A0_2 l0_2.length c0_2, .string a0_3, .string a0_4, .int .i64 a0_5], .agg #[.slice A1_0 l1_0.length c1_0, .slice A1_1 l1_1.length c1_1, .slice A1_2 l1_2.length c1_2, .string a1_3, .string a1_4, .int .i64 a1_5]] w fun e w' => e = .returned (.bool r) ∧ Below w.heap.size w w' := by
 (have hu40 := Tryz.underlying40); (have hu36 := Tryz.underlying36); (have hu38 := Tryz.underlying38); (have HR0_0 := Aside0.mk hr0_0); (have HC0_0 := Aside0.mk hc0_0); clear hr0_0 hc0_0; (have HR0_1 := Aside0.mk hr0_1); (have HC0_1 := Aside0.mk hc0_1); clear hr0_1 hc0_1; (have HR0_2 := Aside0.mk hr0_2); (have HC0_2 := Aside0.mk hc0_2); clear hr0_2 hc0_2; (have HR1_0 := Aside0.mk hr1_0); (have HC1_0 := Aside0.mk hc1_0); clear hr1_0 hc1_0; (have HR1_1 := Aside0.mk hr1_1); (have HC1_1 := Aside0.mk hc1_1); clear hr1_1 hc1_1; (have HR1_2 := Aside0.mk hr1_2); (have HC1_2 := Aside0.mk hc1_2); clear hr1_2 hc1_2; (have HB := Aside0.mk (Below.refl w.heap.size w)); (unfold laws_eqConsole.f at h); (have H := h); clear h; (obtain ⟨t103, A3, H⟩ := obS H); (by_cases c4 : t103 = true)
 ·subst c4
  (rw [if_pos rfl] at H); (obtain ⟨t104, A5, H⟩ := obS H); (by_cases c6 : t104 = true)
  ·subst c6
   (rw [if_pos rfl] at H); (obtain ⟨t105, A7, H⟩ := obS H); (by_cases c8 : t105 = true)
   ·subst c8
    (rw [if_pos rfl] at H); (obtain rfl := Option.some.inj H); (go_enter Tryz.func9, Tryz.ntmps9)
    go_wp2_with (first | ((with_reducible refine gate_dst (N := 2) rfl ?_); refine box_event ?hg (N := 2) ?hd (cs := #[.slice A0_0 l0_0.length c0_0, .slice A0_1 l0_1.length c0_1, .slice A0_2 l0_2.length c0_2, .string a0_3, .string a0_4, .int .i64 a0_5]) (t := 40) ?hr ?_; (case hd => rfl); (case hg => rfl); (case hr => first | (go_simp; done) | (go_simp; rfl)); intro gb101 hg w9 hbox hb; have hB_ := zI hb HB; have n0_ := Aside0.mk (below_step hB_ hb); have n1_ := Aside0.mk (hbox); have n2_ := Aside0.mk (bx0 hg hB_); have n3_ := n2_; clear HB; have HB := n0_; have BK101 := n1_; have GW101 := n2_; have GE101 := n3_; clear n0_ n1_ n2_ n3_ hB_ hb hbox hg) | ((with_reducible refine gate_dst (N := 3) rfl ?_); refine box_event ?hg (N := 3) ?hd (cs := #[.slice A1_0 l1_0.length c1_0, .slice A1_1 l1_1.length c1_1, .slice A1_2 l1_2.length c1_2, .string a1_3, .string a1_4, .int .i64 a1_5]) (t := 40) ?hr ?_; (case hd => rfl); (case hg => rfl); (case hr => first | (go_simp; done) | (go_simp; rfl)); intro gb102 hg w10 hbox hb; have n0_ := Aside0.mk (kbI hb BK101); have hB_ := zI hb HB; have n1_ := Aside0.mk (below_step hB_ hb); have n2_ := Aside0.mk (hbox); have n3_ := Aside0.mk (bx0 hg hB_); have n4_ := n3_; have n5_ := Aside0.mk ((by rw [hg]; exact Nat.ne_of_lt (blk_lt (kI BK101)) : gb101 ≠ gb102)); have n6_ := Aside0.mk (Ne.symm n5_.out); clear BK101 HB; have BK101 := n0_; have HB := n1_; have BK102 := n2_; have GW102 := n3_; have GE102 := n4_; have NB101_102 := n5_; have NB102_101 := n6_; clear n0_ n1_ n2_ n3_ n4_ n5_ n6_ hB_ hb hbox hg; have hnb11 := NB101_102.out; have hnc11 := NB102_101.out; have hcz12_0 := cz BK101.out 0; have hcz12_1 := cz BK101.out 1; have hcz12_2 := cz BK101.out 2; have hcz12_3 := cz BK101.out 3; have hcz12_4 := cz BK101.out 4; have hcz12_5 := cz BK101.out 5; have hfz12_0 := blk_frozen BK101.out 0; have hfz12_1 := blk_frozen BK101.out 1; have hfz12_2 := blk_frozen BK101.out 2; have hfz12_3 := blk_frozen BK101.out 3; have hfz12_4 := blk_frozen BK101.out 4; have hfz12_5 := blk_frozen BK101.out 5; have hcz13_0 := cz BK102.out 0; have hcz13_1 := cz BK102.out 1; have hcz13_2 := cz BK102.out 2; have hcz13_3 := cz BK102.out 3; have hcz13_4 := cz BK102.out 4; have hcz13_5 := cz BK102.out 5; have hfz13_0 := blk_frozen BK102.out 0; have hfz13_1 := blk_frozen BK102.out 1; have hfz13_2 := blk_frozen BK102.out 2; have hfz13_3 := blk_frozen BK102.out 3; have hfz13_4 := blk_frozen BK102.out 4; have hfz13_5 := blk_frozen BK102.out 5) | ((with_reducible refine gate_callee (f := 23) rfl ?_); refine gL (some 9) Tryz.func23 #[.agg #[.slice A0_0 l0_0.length c0_0, .slice A0_1 l0_1.length c0_1], .agg #[.slice A1_0 l1_0.length c1_0, .slice A1_1 l1_1.length c1_1]] ?_; (with_reducible refine (laws_eqRecord.calls k _ _ l0_0 _ _ l0_1 _ _ l1_0 _ _ l1_1 true _ ?side1 ?side2 ?side3 ?side4 ?side5 ?side6 ?side7 ?side8 A3.out ⟨rfl⟩).mono ?_); (case side1 => exact Kd.C_below HR0_0.out (eI HB)); (case side2 => exact HC0_0.out); (case side3 => exact Kd.C_below HR0_1.out (eI HB)); (case side4 => exact HC0_1.out); (case side5 => exact Kd.C_below HR1_0.out (eI HB)); (case side6 => exact HC1_0.out); (case side7 => exact Kd.C_below HR1_1.out (eI HB)); (case side8 => exact HC1_1.out); rintro e w14 ⟨rfl, hb⟩; refine ⟨_, rfl, ?_⟩; have n0_ := Aside0.mk (kbI hb BK101); have n1_ := Aside0.mk (kbI hb BK102); have n2_ := Aside0.mk (sI hb HB); clear BK101 BK102 HB; have BK101 := n0_; have BK102 := n1_; have HB := n2_; clear n0_ n1_ n2_; (try clear hb); (try clear hb2); (try clear hk); (try clear hi); have hcz15_0 := cz BK101.out 0; have hcz15_1 := cz BK101.out 1; have hcz15_2 := cz BK101.out 2; have hcz15_3 := cz BK101.out 3; have hcz15_4 := cz BK101.out 4; have hcz15_5 := cz BK101.out 5; have hfz15_0 := blk_frozen BK101.out 0; have hfz15_1 := blk_frozen BK101.out 1; have hfz15_2 := blk_frozen BK101.out 2; have hfz15_3 := blk_frozen BK101.out 3; have hfz15_4 := blk_frozen BK101.out 4; have hfz15_5 := blk_frozen BK101.out 5; have hcz16_0 := cz BK102.out 0; have hcz16_1 := cz BK102.out 1; have hcz16_2 := cz BK102.out 2; have hcz16_3 := cz BK102.out 3; have hcz16_4 := cz BK102.out 4; have hcz16_5 := cz BK102.out 5; have hfz16_0 := blk_frozen BK102.out 0; have hfz16_1 := blk_frozen BK102.out 1; have hfz16_2 := blk_frozen BK102.out 2; have hfz16_3 := blk_frozen BK102.out 3; have hfz16_4 := blk_frozen BK102.out 4; have hfz16_5 := blk_frozen BK102.out 5) | ((with_reducible refine gate_callee (f := 24) rfl ?_); refine gL (some 15) Tryz.func24 #[.slice A0_2 l0_2.length c0_2, .slice A1_2 l1_2.length c1_2] ?_; (with_reducible refine (laws_eqDatedS.calls k _ _ l0_2 _ _ l1_2 true _ ?side1 ?side2 ?side3 ?side4 A5.out ⟨rfl⟩).mono ?_); (case side1 => exact Kd.C_below HR0_2.out (eI HB)); (case side2 => exact HC0_2.out); (case side3 => exact Kd.C_below HR1_2.out (eI HB)); (case side4 => exact HC1_2.out); rintro e w17 ⟨rfl, hb⟩; refine ⟨_, rfl, ?_⟩; have n0_ := Aside0.mk (kbI hb BK101); have n1_ := Aside0.mk (kbI hb BK102); have n2_ := Aside0.mk (sI hb HB); clear BK101 BK102 HB; have BK101 := n0_; have BK102 := n1_; have HB := n2_; clear n0_ n1_ n2_; (try clear hb); (try clear hb2); (try clear hk); (try clear hi); have hcz18_0 := cz BK101.out 0; have hcz18_1 := cz BK101.out 1; have hcz18_2 := cz BK101.out 2; have hcz18_3 := cz BK101.out 3; have hcz18_4 := cz BK101.out 4; have hcz18_5 := cz BK101.out 5; have hfz18_0 := blk_frozen BK101.out 0; have hfz18_1 := blk_frozen BK101.out 1; have hfz18_2 := blk_frozen BK101.out 2; have hfz18_3 := blk_frozen BK101.out 3; have hfz18_4 := blk_frozen BK101.out 4; have hfz18_5 := blk_frozen BK101.out 5; have hcz19_0 := cz BK102.out 0; have hcz19_1 := cz BK102.out 1; have hcz19_2 := cz BK102.out 2; have hcz19_3 := cz BK102.out 3; have hcz19_4 := cz BK102.out 4; have hcz19_5 := cz BK102.out 5; have hfz19_0 := blk_frozen BK102.out 0; have hfz19_1 := blk_frozen BK102.out 1; have hfz19_2 := blk_frozen BK102.out 2; have hfz19_3 := blk_frozen BK102.out 3; have hfz19_4 := blk_frozen BK102.out 4; have hfz19_5 := blk_frozen BK102.out 5) | ((with_reducible refine gate_callee (f := 25) rfl ?_); refine gL (some 21) Tryz.func25 #[.agg #[.string a0_3, .string a0_4, .int .i64 a0_5], .agg #[.string a1_3, .string a1_4, .int .i64 a1_5]] ?_; (with_reducible refine (laws_eqLog.calls a0_3 a0_4 a0_5 a1_3 a1_4 a1_5 true _ A7.out ⟨rfl⟩).mono ?_); rintro e w20 ⟨rfl, hb⟩; refine ⟨_, rfl, ?_⟩; have n0_ := Aside0.mk (kbI hb BK101); have n1_ := Aside0.mk (kbI hb BK102); have n2_ := Aside0.mk (sI hb HB); clear BK101 BK102 HB; have BK101 := n0_; have BK102 := n1_; have HB := n2_; clear n0_ n1_ n2_; (try clear hb); (try clear hb2); (try clear hk); (try clear hi)))
    go_ret; (exact ⟨rfl, eI HB⟩)
   ·replace c8 := Bool.eq_false_iff.mpr c8
    subst c8; (rw [if_neg (show ¬ (false = true) by decide)] at H); (obtain rfl := Option.some.inj H); (exact absurd ht_.out (by decide))
  ·replace c6 := Bool.eq_false_iff.mpr c6
   subst c6; (rw [if_neg (show ¬ (false = true) by decide)] at H); (obtain rfl := Option.some.inj H); (exact absurd ht_.out (by decide))
 ·replace c4 := Bool.eq_false_iff.mpr c4
  subst c4; (rw [if_neg (show ¬ (false = true) by decide)] at H); (obtain rfl := Option.some.inj H); (exact absurd ht_.out (by decide))
/-! ### laws_FnExactFormatConsole: function 4 -/
def laws_FnExactFormatConsole.j0 : Nat → Bool → List (S100) → List (S102) → List (S77) → ByteArray → ByteArray → Int → List (S79) → List (S82) → List (S57) → ByteArray → ByteArray → Int → Option (Bool)
 | 0, _, _, _, _, _, _, _, _, _, _, _, _, _ => none
 | k + 1, x34, x102000, x102001, x102002, x102003, x102004, x102005, x130000, x130001, x130002, x130003, x130004, x130005 => if x34 = true then (some false) else ((laws_toConsole.f k x102000 x102001 x102002 x102003 x102004 x102005).bind fun bt132 => ((laws_eqConsole.f k x130000 x130001 x130002 x130003 x130004 x130005 bt132.1 bt132.2.1 bt132.2.2.1 bt132.2.2.2.1 bt132.2.2.2.2.1 bt132.2.2.2.2.2).bind fun t144 => (if t144 = true then (some true) else (some false))))
def laws_FnExactFormatConsole.f (k : Nat) (l0_0 : List (S100)) (l0_1 : List (S102)) (l0_2 : List (S77)) (a0_3 : ByteArray) (a0_4 : ByteArray) (a0_5 : Int) : Option (Bool) := (laws_szConsole.f l0_0 l0_1 l0_2 a0_3 a0_4 a0_5 1048576).bind fun t102 => (if t102 < 0 then (some true) else ((laws_toConsole.f k l0_0 l0_1 l0_2 a0_3 a0_4 a0_5).bind fun bt103 => ((spec_FormatConsole.f k bt103.1 bt103.2.1 bt103.2.2.1 bt103.2.2.2.1 bt103.2.2.2.2.1 bt103.2.2.2.2.2).bind fun bt115 => ((laws_toConsole.f k l0_0 l0_1 l0_2 a0_3 a0_4 a0_5).bind fun bt117 => ((impl_FormatConsole.f k bt117.1 bt117.2.1 bt117.2.2.1 bt117.2.2.2.1 bt117.2.2.2.2.1 bt117.2.2.2.2.2).bind fun bt130 => (if bt130.1.toList = bt115.1.toList then (laws_FnExactFormatConsole.j0 k (bt130.2 != bt115.2) l0_0 l0_1 l0_2 a0_3 a0_4 a0_5 bt117.1 bt117.2.1 bt117.2.2.1 bt117.2.2.2.1 bt117.2.2.2.2.1 bt117.2.2.2.2.2) else (laws_FnExactFormatConsole.j0 k true l0_0 l0_1 l0_2 a0_3 a0_4 a0_5 bt117.1 bt117.2.1 bt117.2.2.1 bt117.2.2.2.1 bt117.2.2.2.2.1 bt117.2.2.2.2.2)))))))
set_option maxHeartbeats 8000000 in
set_option maxRecDepth 100000 in
theorem laws_FnExactFormatConsole.calls (k : Nat) (A0_0 : Option Addr) (c0_0 : Nat) (l0_0 : List (S100)) (A0_1 : Option Addr) (c0_1 : Nat) (l0_1 : List (S102)) (A0_2 : Option Addr) (c0_2 : Nat) (l0_2 : List (S77)) (a0_3 : ByteArray) (a0_4 : ByteArray) (a0_5 : Int) (r : Bool) (w : World) (hr0_0 : Kd.C k100 w A0_0 l0_0.length l0_0) (hc0_0 : l0_0.length ≤ c0_0) (hr0_1 : Kd.C k102 w A0_1 l0_1.length l0_1) (hc0_1 : l0_1.length ≤ c0_1) (hr0_2 : Kd.C k77 w A0_2 l0_2.length l0_2) (hc0_2 : l0_2.length ≤ c0_2) (hG : GT w) (h : laws_FnExactFormatConsole.f k l0_0 l0_1 l0_2 a0_3 a0_4 a0_5 = some r) (ht_ : Aside0 (r = true)) :
  Calls Tryz.prog 4 #[.agg #[.slice A0_0 l0_0.length c0_0, .slice A0_1 l0_1.length c0_1, .slice A0_2 l0_2.length c0_2, .string a0_3, .string a0_4, .int .i64 a0_5]] w fun e w' => e = .returned (.bool r) ∧ Below w.heap.size w w' := by
 (have hu30 := Tryz.underlying30); (have hu40 := Tryz.underlying40); (have HR0_0 := Aside0.mk hr0_0); (have HC0_0 := Aside0.mk hc0_0); clear hr0_0 hc0_0; (have HR0_1 := Aside0.mk hr0_1); (have HC0_1 := Aside0.mk hc0_1); clear hr0_1 hc0_1; (have HR0_2 := Aside0.mk hr0_2); (have HC0_2 := Aside0.mk hc0_2); clear hr0_2 hc0_2; (have HG := Aside0.mk hG); clear hG; (have HB := Aside0.mk (Below.refl w.heap.size w)); (unfold laws_FnExactFormatConsole.f at h); (have H := h); clear h; (obtain ⟨t102, A2, H⟩ := obS H); (by_cases c3 : t102 < 0); (· (rw [if_pos c3] at H); (have c3b0 := decide_eq_true c3); clear c3; (obtain rfl := Option.some.inj H); (go_enter Tryz.func4, Tryz.ntmps4); (go_wp2_with (first | ((with_reducible refine gate_dst (N := 1) rfl ?_); refine box_event ?hg (N := 1) ?hd (cs := #[.slice A0_0 l0_0.length c0_0, .slice A0_1 l0_1.length c0_1, .slice A0_2 l0_2.length c0_2, .string a0_3, .string a0_4, .int .i64 a0_5]) (t := 30) ?hr ?_; (case hd => rfl); (case hg => rfl); (case hr => first | (go_simp; done) | (go_simp; rfl)); intro gb101 hg w4 hbox hb; have hB_ := zI hb HB; have n0_ := Aside0.mk (below_step hB_ hb); have n1_ := Aside0.mk (hbox); have n2_ := Aside0.mk (bx0 hg hB_); have n3_ := n2_; clear HB; have HB := n0_; have BK101 := n1_; have GW101 := n2_; have GE101 := n3_; clear n0_ n1_ n2_ n3_ hB_ hb hbox hg; have hcz5_0 := cz BK101.out 0; have hcz5_1 := cz BK101.out 1; have hcz5_2 := cz BK101.out 2; have hcz5_3 := cz BK101.out 3; have hcz5_4 := cz BK101.out 4; have hcz5_5 := cz BK101.out 5; have hfz5_0 := blk_frozen BK101.out 0; have hfz5_1 := blk_frozen BK101.out 1; have hfz5_2 := blk_frozen BK101.out 2; have hfz5_3 := blk_frozen BK101.out 3; have hfz5_4 := blk_frozen BK101.out 4; have hfz5_5 := blk_frozen BK101.out 5) | ((with_reducible refine gate_callee (f := 5) rfl ?_); refine gL (some 11) Tryz.func5 #[.agg #[.slice A0_0 l0_0.length c0_0, .slice A0_1 l0_1.length c0_1, .slice A0_2 l0_2.length c0_2, .string a0_3, .string a0_4, .int .i64 a0_5], .int .i64 1048576] ?_; (with_reducible refine (laws_szConsole.calls _ _ l0_0 _ _ l0_1 _ _ l0_2 a0_3 a0_4 a0_5 1048576 t102 _ ?side1 ?side2 ?side3 ?side4 ?side5 ?side6 A2.out).mono ?_); (case side1 => exact Kd.C_below HR0_0.out (eI HB)); (case side2 => exact HC0_0.out); (case side3 => exact Kd.C_below HR0_1.out (eI HB)); (case side4 => exact HC0_1.out); (case side5 => exact Kd.C_below HR0_2.out (eI HB)); (case side6 => exact HC0_2.out); rintro e w6 ⟨rfl, hb⟩; refine ⟨_, rfl, ?_⟩; have n0_ := Aside0.mk (kbI hb BK101); have n1_ := Aside0.mk (sI hb HB); clear BK101 HB; have BK101 := n0_; have HB := n1_; clear n0_ n1_; (try clear hb); (try clear hb2); (try clear hk); (try clear hi)))); go_ret; (exact ⟨rfl, eI HB⟩))
 ·rw [if_neg c3] at H
  (have c3b0 := decide_eq_false c3); clear c3; (obtain ⟨⟨t103, t106, t109, t112, t113, t114⟩, A7, H⟩ := obS H); (replace H : ((spec_FormatConsole.f k t103 t106 t109 t112 t113 t114).bind fun bt115 => ((laws_toConsole.f k l0_0 l0_1 l0_2 a0_3 a0_4 a0_5).bind fun bt117 => ((impl_FormatConsole.f k bt117.1 bt117.2.1 bt117.2.2.1 bt117.2.2.2.1 bt117.2.2.2.2.1 bt117.2.2.2.2.2).bind fun bt130 => (if bt130.1.toList = bt115.1.toList then (laws_FnExactFormatConsole.j0 k (bt130.2 != bt115.2) l0_0 l0_1 l0_2 a0_3 a0_4 a0_5 bt117.1 bt117.2.1 bt117.2.2.1 bt117.2.2.2.1 bt117.2.2.2.2.1 bt117.2.2.2.2.2) else (laws_FnExactFormatConsole.j0 k true l0_0 l0_1 l0_2 a0_3 a0_4 a0_5 bt117.1 bt117.2.1 bt117.2.2.1 bt117.2.2.2.1 bt117.2.2.2.2.1 bt117.2.2.2.2.2))))) = some r := H); (obtain ⟨⟨t115, t116⟩, A8, H⟩ := obS H); (replace H : ((laws_toConsole.f k l0_0 l0_1 l0_2 a0_3 a0_4 a0_5).bind fun bt117 => ((impl_FormatConsole.f k bt117.1 bt117.2.1 bt117.2.2.1 bt117.2.2.2.1 bt117.2.2.2.2.1 bt117.2.2.2.2.2).bind fun bt130 => (if bt130.1.toList = t115.toList then (laws_FnExactFormatConsole.j0 k (bt130.2 != t116) l0_0 l0_1 l0_2 a0_3 a0_4 a0_5 bt117.1 bt117.2.1 bt117.2.2.1 bt117.2.2.2.1 bt117.2.2.2.2.1 bt117.2.2.2.2.2) else (laws_FnExactFormatConsole.j0 k true l0_0 l0_1 l0_2 a0_3 a0_4 a0_5 bt117.1 bt117.2.1 bt117.2.2.1 bt117.2.2.2.1 bt117.2.2.2.2.1 bt117.2.2.2.2.2)))) = some r := H); (obtain ⟨⟨t117, t120, t123, t126, t127, t128⟩, A9, H⟩ := obS H); (replace H : ((impl_FormatConsole.f k t117 t120 t123 t126 t127 t128).bind fun bt130 => (if bt130.1.toList = t115.toList then (laws_FnExactFormatConsole.j0 k (bt130.2 != t116) l0_0 l0_1 l0_2 a0_3 a0_4 a0_5 t117 t120 t123 t126 t127 t128) else (laws_FnExactFormatConsole.j0 k true l0_0 l0_1 l0_2 a0_3 a0_4 a0_5 t117 t120 t123 t126 t127 t128))) = some r := H); (obtain ⟨⟨t130, t131⟩, A10, H⟩ := obS H); (replace H : (if t130.toList = t115.toList then (laws_FnExactFormatConsole.j0 k (t131 != t116) l0_0 l0_1 l0_2 a0_3 a0_4 a0_5 t117 t120 t123 t126 t127 t128) else (laws_FnExactFormatConsole.j0 k true l0_0 l0_1 l0_2 a0_3 a0_4 a0_5 t117 t120 t123 t126 t127 t128)) = some r := H); (have HC11 := Aside0.mk H); clear H; (go_enter Tryz.func4, Tryz.ntmps4)
  go_upto_region 8 with (first | ((with_reducible refine gate_dst (N := 1) rfl ?_); refine box_event ?hg (N := 1) ?hd (cs := #[.slice A0_0 l0_0.length c0_0, .slice A0_1 l0_1.length c0_1, .slice A0_2 l0_2.length c0_2, .string a0_3, .string a0_4, .int .i64 a0_5]) (t := 30) ?hr ?_; (case hd => rfl); (case hg => rfl); (case hr => first | (go_simp; done) | (go_simp; rfl)); intro gb101 hg w12 hbox hb; have hB_ := bz (by repeat (first | (with_reducible first | exact HB.out | apply bA | apply bN | apply bD) | exact HB.out)) hb; have n0_ := Aside0.mk (below_step hB_ hb); have n1_ := Aside0.mk (hbox); have n2_ := Aside0.mk ((by rw [hg]; exact (below_size hB_) : w.heap.size ≤ gb101)); have n3_ := n2_; clear HB; have HB := n0_; have BK101 := n1_; have GW101 := n2_; have GE101 := n3_; clear n0_ n1_ n2_ n3_ hB_ hb hbox hg; have hcz13_0 := cz BK101.out 0; have hcz13_1 := cz BK101.out 1; have hcz13_2 := cz BK101.out 2; have hcz13_3 := cz BK101.out 3; have hcz13_4 := cz BK101.out 4; have hcz13_5 := cz BK101.out 5; have hfz13_0 := blk_frozen BK101.out 0; have hfz13_1 := blk_frozen BK101.out 1; have hfz13_2 := blk_frozen BK101.out 2; have hfz13_3 := blk_frozen BK101.out 3; have hfz13_4 := blk_frozen BK101.out 4; have hfz13_5 := blk_frozen BK101.out 5) | ((with_reducible refine gate_callee (f := 5) rfl ?_); refine gL (some 11) Tryz.func5 #[.agg #[.slice A0_0 l0_0.length c0_0, .slice A0_1 l0_1.length c0_1, .slice A0_2 l0_2.length c0_2, .string a0_3, .string a0_4, .int .i64 a0_5], .int .i64 1048576] ?_; (with_reducible refine (laws_szConsole.calls _ _ l0_0 _ _ l0_1 _ _ l0_2 a0_3 a0_4 a0_5 1048576 t102 _ ?side1 ?side2 ?side3 ?side4 ?side5 ?side6 A2.out).mono ?_); (case side1 => repeat (first | exact (Kd.C_below HR0_0.out HB.out) | (with_reducible first | refine cA ?_ _ | refine cN ?_ _ | refine cD ?_))); (case side2 => exact HC0_0.out); (case side3 => repeat (first | exact (Kd.C_below HR0_1.out HB.out) | (with_reducible first | refine cA ?_ _ | refine cN ?_ _ | refine cD ?_))); (case side4 => exact HC0_1.out); (case side5 => repeat (first | exact (Kd.C_below HR0_2.out HB.out) | (with_reducible first | refine cA ?_ _ | refine cN ?_ _ | refine cD ?_))); (case side6 => exact HC0_2.out); rintro e w14 ⟨rfl, hb⟩; refine ⟨_, rfl, ?_⟩; have n0_ := Aside0.mk (blk_below (by (with_reducible repeat (first | refine kN ?_ _ | refine kD ?_ | refine kA ?_ _)); exact BK101.out) hb); have n1_ := Aside0.mk (below_step (by repeat (first | (with_reducible first | exact HB.out | apply bA | apply bN | apply bD | refine below_set ?_ GE101.out) | exact HB.out)) hb); clear BK101 HB; have BK101 := n0_; have HB := n1_; clear n0_ n1_; (try clear hb); (try clear hb2); (try clear hk); (try clear hi); have hcz15_0 := cz BK101.out 0; have hcz15_1 := cz BK101.out 1; have hcz15_2 := cz BK101.out 2; have hcz15_3 := cz BK101.out 3; have hcz15_4 := cz BK101.out 4; have hcz15_5 := cz BK101.out 5; have hfz15_0 := blk_frozen BK101.out 0; have hfz15_1 := blk_frozen BK101.out 1; have hfz15_2 := blk_frozen BK101.out 2; have hfz15_3 := blk_frozen BK101.out 3; have hfz15_4 := blk_frozen BK101.out 4; have hfz15_5 := blk_frozen BK101.out 5) | ((with_reducible refine gate_callee (f := 7) rfl ?_); refine gL (some 16) Tryz.func7 #[.agg #[.slice A0_0 l0_0.length c0_0, .slice A0_1 l0_1.length c0_1, .slice A0_2 l0_2.length c0_2, .string a0_3, .string a0_4, .int .i64 a0_5]] ?_; (with_reducible refine (laws_toConsole.calls k _ _ l0_0 _ _ l0_1 _ _ l0_2 a0_3 a0_4 a0_5 t103 t106 t109 t112 t113 t114 _ ?side1 ?side2 ?side3 ?side4 ?side5 ?side6 A7.out).mono ?_); (case side1 => repeat (first | exact (Kd.C_below HR0_0.out HB.out) | (with_reducible first | refine cA ?_ _ | refine cN ?_ _ | refine cD ?_))); (case side2 => exact HC0_0.out); (case side3 => repeat (first | exact (Kd.C_below HR0_1.out HB.out) | (with_reducible first | refine cA ?_ _ | refine cN ?_ _ | refine cD ?_))); (case side4 => exact HC0_1.out); (case side5 => repeat (first | exact (Kd.C_below HR0_2.out HB.out) | (with_reducible first | refine cA ?_ _ | refine cN ?_ _ | refine cD ?_))); (case side6 => exact HC0_2.out); rintro e w16 ⟨v104, v107, v110, rfl, ho0, ho1, ho2, hb⟩; refine ⟨_, rfl, ?_⟩; have n0_ := Aside0.mk (Kd.R_lower ho0 (below_size (by repeat (first | (with_reducible first | exact HB.out | apply bA | apply bN | apply bD | refine below_set ?_ GE101.out) | exact HB.out)))); have n1_ := Aside0.mk (Kd.R_lower ho1 (below_size (by repeat (first | (with_reducible first | exact HB.out | apply bA | apply bN | apply bD | refine below_set ?_ GE101.out) | exact HB.out)))); have n2_ := Aside0.mk (Kd.R_lower ho2 (below_size (by repeat (first | (with_reducible first | exact HB.out | apply bA | apply bN | apply bD | refine below_set ?_ GE101.out) | exact HB.out)))); have n3_ := Aside0.mk (blk_below (by (with_reducible repeat (first | refine kN ?_ _ | refine kD ?_ | refine kA ?_ _)); exact BK101.out) hb); have n4_ := Aside0.mk (below_step (by repeat (first | (with_reducible first | exact HB.out | apply bA | apply bN | apply bD | refine below_set ?_ GE101.out) | exact HB.out)) hb); clear BK101 HB; have HO105 := n0_; have HO108 := n1_; have HO111 := n2_; have BK101 := n3_; have HB := n4_; clear n0_ n1_ n2_ n3_ n4_; (try clear hb); (try clear hb2); (try clear hk); (try clear hi); (try clear ho0); (try clear ho1); (try clear ho2); obtain ⟨Ao17, co17, eo17⟩ := Kd.R_slice HO105.out; subst eo17; obtain ⟨Ao18, co18, eo18⟩ := Kd.R_slice HO108.out; subst eo18; obtain ⟨Ao19, co19, eo19⟩ := Kd.R_slice HO111.out; subst eo19) | ((with_reducible refine gate_callee (f := 10) rfl ?_); refine gL (some 17) Tryz.func10 #[.agg #[.slice Ao17 t103.length co17, .slice Ao18 t106.length co18, .slice Ao19 t109.length co19, .string t112, .string t113, .int .i64 t114]] ?_; (with_reducible refine (spec_FormatConsole.calls k _ _ t103 _ _ t106 _ _ t109 t112 t113 t114 t115 t116 _ ?side1 ?side2 ?side3 ?side4 ?side5 ?side6 A8.out).mono ?_); (case side1 => repeat (first | exact (Kd.R_reads' HO105.out).2.2 | (with_reducible first | refine cA ?_ _ | refine cN ?_ _ | refine cD ?_))); (case side2 => exact (Kd.R_reads' HO105.out).2.1); (case side3 => repeat (first | exact (Kd.R_reads' HO108.out).2.2 | (with_reducible first | refine cA ?_ _ | refine cN ?_ _ | refine cD ?_))); (case side4 => exact (Kd.R_reads' HO108.out).2.1); (case side5 => repeat (first | exact (Kd.R_reads' HO111.out).2.2 | (with_reducible first | refine cA ?_ _ | refine cN ?_ _ | refine cD ?_))); (case side6 => exact (Kd.R_reads' HO111.out).2.1); rintro e w20 ⟨rfl, hb⟩; refine ⟨_, rfl, ?_⟩; have n0_ := Aside0.mk (Kd.R_below (by (with_reducible repeat (first | apply rA | apply rN | apply rD)); exact HO105.out) hb); have n1_ := Aside0.mk (Kd.R_below (by (with_reducible repeat (first | apply rA | apply rN | apply rD)); exact HO108.out) hb); have n2_ := Aside0.mk (Kd.R_below (by (with_reducible repeat (first | apply rA | apply rN | apply rD)); exact HO111.out) hb); have n3_ := Aside0.mk (blk_below (by (with_reducible repeat (first | refine kN ?_ _ | refine kD ?_ | refine kA ?_ _)); exact BK101.out) hb); have n4_ := Aside0.mk (below_step (by repeat (first | (with_reducible first | exact HB.out | apply bA | apply bN | apply bD | refine below_set ?_ GE101.out) | exact HB.out)) hb); clear HO105 HO108 HO111 BK101 HB; have HO105 := n0_; have HO108 := n1_; have HO111 := n2_; have BK101 := n3_; have HB := n4_; clear n0_ n1_ n2_ n3_ n4_; (try clear hb); (try clear hb2); (try clear hk); (try clear hi); have hcz21_0 := cz BK101.out 0; have hcz21_1 := cz BK101.out 1; have hcz21_2 := cz BK101.out 2; have hcz21_3 := cz BK101.out 3; have hcz21_4 := cz BK101.out 4; have hcz21_5 := cz BK101.out 5; have hfz21_0 := blk_frozen BK101.out 0; have hfz21_1 := blk_frozen BK101.out 1; have hfz21_2 := blk_frozen BK101.out 2; have hfz21_3 := blk_frozen BK101.out 3; have hfz21_4 := blk_frozen BK101.out 4; have hfz21_5 := blk_frozen BK101.out 5) | ((with_reducible refine gate_callee (f := 7) rfl ?_); refine gL (some 21) Tryz.func7 #[.agg #[.slice A0_0 l0_0.length c0_0, .slice A0_1 l0_1.length c0_1, .slice A0_2 l0_2.length c0_2, .string a0_3, .string a0_4, .int .i64 a0_5]] ?_; (with_reducible refine (laws_toConsole.calls k _ _ l0_0 _ _ l0_1 _ _ l0_2 a0_3 a0_4 a0_5 t117 t120 t123 t126 t127 t128 _ ?side1 ?side2 ?side3 ?side4 ?side5 ?side6 A9.out).mono ?_); (case side1 => repeat (first | exact (Kd.C_below HR0_0.out HB.out) | (with_reducible first | refine cA ?_ _ | refine cN ?_ _ | refine cD ?_))); (case side2 => exact HC0_0.out); (case side3 => repeat (first | exact (Kd.C_below HR0_1.out HB.out) | (with_reducible first | refine cA ?_ _ | refine cN ?_ _ | refine cD ?_))); (case side4 => exact HC0_1.out); (case side5 => repeat (first | exact (Kd.C_below HR0_2.out HB.out) | (with_reducible first | refine cA ?_ _ | refine cN ?_ _ | refine cD ?_))); (case side6 => exact HC0_2.out); rintro e w22 ⟨v118, v121, v124, rfl, ho0, ho1, ho2, hb⟩; refine ⟨_, rfl, ?_⟩; have n0_ := Aside0.mk (Kd.R_elder' (by (with_reducible repeat (first | apply rA | apply rN | apply rD)); exact HO105.out) (Kd.R_base ho0) hb); have n1_ := Aside0.mk (Kd.R_elder' (by (with_reducible repeat (first | apply rA | apply rN | apply rD)); exact HO108.out) (Kd.R_base ho1) hb); have n2_ := Aside0.mk (Kd.R_elder' (by (with_reducible repeat (first | apply rA | apply rN | apply rD)); exact HO111.out) (Kd.R_base ho2) hb); have n3_ := Aside0.mk (Kd.R_lower (Kd.R_new' ho0 (Kd.R_lt (by (with_reducible repeat (first | apply rA | apply rN | apply rD)); exact HO105.out))) (below_size (by repeat (first | (with_reducible first | exact HB.out | apply bA | apply bN | apply bD | refine below_set ?_ GE101.out) | exact HB.out)))); have n4_ := Aside0.mk (Kd.R_lower (Kd.R_new' ho1 (Kd.R_lt (by (with_reducible repeat (first | apply rA | apply rN | apply rD)); exact HO108.out))) (below_size (by repeat (first | (with_reducible first | exact HB.out | apply bA | apply bN | apply bD | refine below_set ?_ GE101.out) | exact HB.out)))); have n5_ := Aside0.mk (Kd.R_lower (Kd.R_new' ho2 (Kd.R_lt (by (with_reducible repeat (first | apply rA | apply rN | apply rD)); exact HO111.out))) (below_size (by repeat (first | (with_reducible first | exact HB.out | apply bA | apply bN | apply bD | refine below_set ?_ GE101.out) | exact HB.out)))); have n6_ := Aside0.mk (blk_below (by (with_reducible repeat (first | refine kN ?_ _ | refine kD ?_ | refine kA ?_ _)); exact BK101.out) hb); have n7_ := Aside0.mk (below_step (by repeat (first | (with_reducible first | exact HB.out | apply bA | apply bN | apply bD | refine below_set ?_ GE101.out) | exact HB.out)) hb); clear HO105 HO108 HO111 BK101 HB; have HO105 := n0_; have HO108 := n1_; have HO111 := n2_; have HO119 := n3_; have HO122 := n4_; have HO125 := n5_; have BK101 := n6_; have HB := n7_; clear n0_ n1_ n2_ n3_ n4_ n5_ n6_ n7_; (try clear hb); (try clear hb2); (try clear hk); (try clear hi); (try clear ho0); (try clear ho1); (try clear ho2)) | ((with_reducible refine gate_dst (N := 6) rfl ?_); refine box_event ?hg (N := 6) ?hd (cs := #[.slice none 0 0, .slice none 0 0, .slice none 0 0, .string (⟨#[]⟩ : ByteArray), .string (⟨#[]⟩ : ByteArray), .int .i64 0]) (t := 40) ?hr ?_; (case hd => rfl); (case hg => rfl); (case hr => first | (go_simp; done) | (go_simp; rfl)); intro gb129 hg w23 hbox hb; have n0_ := Aside0.mk (Kd.R_below (by (with_reducible repeat (first | apply rA | apply rN | apply rD)); exact HO105.out) hb); have n1_ := Aside0.mk (Kd.R_below (by (with_reducible repeat (first | apply rA | apply rN | apply rD)); exact HO108.out) hb); have n2_ := Aside0.mk (Kd.R_below (by (with_reducible repeat (first | apply rA | apply rN | apply rD)); exact HO111.out) hb); have n3_ := Aside0.mk (Kd.R_below (by (with_reducible repeat (first | apply rA | apply rN | apply rD)); exact HO119.out) hb); have n4_ := Aside0.mk (Kd.R_below (by (with_reducible repeat (first | apply rA | apply rN | apply rD)); exact HO122.out) hb); have n5_ := Aside0.mk (Kd.R_below (by (with_reducible repeat (first | apply rA | apply rN | apply rD)); exact HO125.out) hb); have n6_ := Aside0.mk (blk_below (by (with_reducible repeat (first | refine kN ?_ _ | refine kD ?_ | refine kA ?_ _)); exact BK101.out) hb); have hB_ := bz (by repeat (first | (with_reducible first | exact HB.out | apply bA | apply bN | apply bD | refine below_set ?_ GE101.out) | exact HB.out)) hb; have n7_ := Aside0.mk (below_step hB_ hb); have n8_ := Aside0.mk (hbox); have n9_ := Aside0.mk ((by rw [hg]; exact (below_size hB_) : w.heap.size ≤ gb129)); have n10_ := n9_; have n11_ := Aside0.mk ((by rw [hg]; exact Nat.ne_of_lt (blk_lt (by (with_reducible repeat (first | refine kN ?_ _ | refine kD ?_ | refine kA ?_ _)); exact BK101.out)) : gb101 ≠ gb129)); have n12_ := Aside0.mk (Ne.symm n11_.out); clear HO105 HO108 HO111 HO119 HO122 HO125 BK101 HB; have HO105 := n0_; have HO108 := n1_; have HO111 := n2_; have HO119 := n3_; have HO122 := n4_; have HO125 := n5_; have BK101 := n6_; have HB := n7_; have BK129 := n8_; have GW129 := n9_; have GE129 := n10_; have NB101_129 := n11_; have NB129_101 := n12_; clear n0_ n1_ n2_ n3_ n4_ n5_ n6_ n7_ n8_ n9_ n10_ n11_ n12_ hB_ hb hbox hg; obtain ⟨Ao24, co24, eo24⟩ := Kd.R_slice HO119.out; subst eo24; have hnb25 := NB129_101.out; have hnc25 := NB101_129.out; have hcz26_0 := cz BK129.out 0; have hcz26_1 := cz BK129.out 1; have hcz26_2 := cz BK129.out 2; have hcz26_3 := cz BK129.out 3; have hcz26_4 := cz BK129.out 4; have hcz26_5 := cz BK129.out 5; have hfz26_0 := blk_frozen BK129.out 0; have hfz26_1 := blk_frozen BK129.out 1; have hfz26_2 := blk_frozen BK129.out 2; have hfz26_3 := blk_frozen BK129.out 3; have hfz26_4 := blk_frozen BK129.out 4; have hfz26_5 := blk_frozen BK129.out 5; obtain ⟨Ao27, co27, eo27⟩ := Kd.R_slice HO122.out; subst eo27; obtain ⟨Ao28, co28, eo28⟩ := Kd.R_slice HO125.out; subst eo28) | ((with_reducible refine gate_callee (f := 11) rfl ?_); refine gL (some 24) Tryz.func11 #[.agg #[.slice Ao24 t117.length co24, .slice Ao27 t120.length co27, .slice Ao28 t123.length co28, .string t126, .string t127, .int .i64 t128]] ?_; (with_reducible refine (impl_FormatConsole.calls k _ _ t117 _ _ t120 _ _ t123 t126 t127 t128 t130 t131 _ ?side1 ?side2 ?side3 ?side4 ?side5 ?side6 ?side7 A10.out).mono ?_); (case side1 => refine (Kd.R_reads' (e := 79) (base := w.heap.size) (ok := fun k_ => (True ∧ some k_ ≠ (.slice Ao17 t103.length co17 : Value).ownBlock)) (n := t117.length) (c := co24) ?_).2.2; exact (by (with_reducible repeat (first | apply rA | apply rN | apply rD)); exact (Kd.R_mono (Kd.R_far (p := ⟨gb129, 5, none⟩) (Kd.R_far (p := ⟨gb129, 4, none⟩) (Kd.R_far (p := ⟨gb129, 3, none⟩) (Kd.R_far (p := ⟨gb129, 2, none⟩) (Kd.R_far (p := ⟨gb129, 1, none⟩) (Kd.R_far (p := ⟨gb129, 0, none⟩) (Kd.R_types HO119.out BK129.out (by decide)) (fun _ hk => hk.2) (.slice Ao24 t117.length co24)) (fun _ hk => hk.2) (.slice Ao27 t120.length co27)) (fun _ hk => hk.2) (.slice Ao28 t123.length co28)) (fun _ hk => hk.2) (.string t126)) (fun _ hk => hk.2) (.string t127)) (fun _ hk => hk.2) (.int .i64 t128)) (fun _ h_ => h_.1)))); (case side2 => exact (Kd.R_reads' HO119.out).2.1); (case side3 => refine (Kd.R_reads' (e := 82) (base := w.heap.size) (ok := fun k_ => (True ∧ some k_ ≠ (.slice Ao18 t106.length co18 : Value).ownBlock)) (n := t120.length) (c := co27) ?_).2.2; exact (by (with_reducible repeat (first | apply rA | apply rN | apply rD)); exact (Kd.R_mono (Kd.R_far (p := ⟨gb129, 5, none⟩) (Kd.R_far (p := ⟨gb129, 4, none⟩) (Kd.R_far (p := ⟨gb129, 3, none⟩) (Kd.R_far (p := ⟨gb129, 2, none⟩) (Kd.R_far (p := ⟨gb129, 1, none⟩) (Kd.R_far (p := ⟨gb129, 0, none⟩) (Kd.R_types HO122.out BK129.out (by decide)) (fun _ hk => hk.2) (.slice Ao24 t117.length co24)) (fun _ hk => hk.2) (.slice Ao27 t120.length co27)) (fun _ hk => hk.2) (.slice Ao28 t123.length co28)) (fun _ hk => hk.2) (.string t126)) (fun _ hk => hk.2) (.string t127)) (fun _ hk => hk.2) (.int .i64 t128)) (fun _ h_ => h_.1)))); (case side4 => exact (Kd.R_reads' HO122.out).2.1); (case side5 => refine (Kd.R_reads' (e := 57) (base := w.heap.size) (ok := fun k_ => (True ∧ some k_ ≠ (.slice Ao19 t109.length co19 : Value).ownBlock)) (n := t123.length) (c := co28) ?_).2.2; exact (by (with_reducible repeat (first | apply rA | apply rN | apply rD)); exact (Kd.R_mono (Kd.R_far (p := ⟨gb129, 5, none⟩) (Kd.R_far (p := ⟨gb129, 4, none⟩) (Kd.R_far (p := ⟨gb129, 3, none⟩) (Kd.R_far (p := ⟨gb129, 2, none⟩) (Kd.R_far (p := ⟨gb129, 1, none⟩) (Kd.R_far (p := ⟨gb129, 0, none⟩) (Kd.R_types HO125.out BK129.out (by decide)) (fun _ hk => hk.2) (.slice Ao24 t117.length co24)) (fun _ hk => hk.2) (.slice Ao27 t120.length co27)) (fun _ hk => hk.2) (.slice Ao28 t123.length co28)) (fun _ hk => hk.2) (.string t126)) (fun _ hk => hk.2) (.string t127)) (fun _ hk => hk.2) (.int .i64 t128)) (fun _ h_ => h_.1)))); (case side6 => exact (Kd.R_reads' HO125.out).2.1); (case side7 => first | exact GT.below HG.out (by repeat (first | (with_reducible first | exact HB.out | apply bA | apply bN | apply bD | refine below_set ?_ GE101.out | refine below_set ?_ GE129.out) | exact HB.out)) | (repeat (first | exact HG.out | (with_reducible first | apply GT.drewN | apply GT.drew | apply GT.alloc)))); rintro e w29 ⟨rfl, hb⟩; refine ⟨_, rfl, ?_⟩; have n0_ := Aside0.mk (Kd.R_below (by (with_reducible repeat (first | apply rA | apply rN | apply rD)); exact (Kd.R_mono (Kd.R_far (p := ⟨gb129, 5, none⟩) (Kd.R_far (p := ⟨gb129, 4, none⟩) (Kd.R_far (p := ⟨gb129, 3, none⟩) (Kd.R_far (p := ⟨gb129, 2, none⟩) (Kd.R_far (p := ⟨gb129, 1, none⟩) (Kd.R_far (p := ⟨gb129, 0, none⟩) (Kd.R_types HO105.out BK129.out (by decide)) (fun _ hk => hk.2) (.slice Ao24 t117.length co24)) (fun _ hk => hk.2) (.slice Ao27 t120.length co27)) (fun _ hk => hk.2) (.slice Ao28 t123.length co28)) (fun _ hk => hk.2) (.string t126)) (fun _ hk => hk.2) (.string t127)) (fun _ hk => hk.2) (.int .i64 t128)) (fun _ h_ => h_.1))) hb); have n1_ := Aside0.mk (Kd.R_below (by (with_reducible repeat (first | apply rA | apply rN | apply rD)); exact (Kd.R_mono (Kd.R_far (p := ⟨gb129, 5, none⟩) (Kd.R_far (p := ⟨gb129, 4, none⟩) (Kd.R_far (p := ⟨gb129, 3, none⟩) (Kd.R_far (p := ⟨gb129, 2, none⟩) (Kd.R_far (p := ⟨gb129, 1, none⟩) (Kd.R_far (p := ⟨gb129, 0, none⟩) (Kd.R_types HO108.out BK129.out (by decide)) (fun _ hk => hk.2) (.slice Ao24 t117.length co24)) (fun _ hk => hk.2) (.slice Ao27 t120.length co27)) (fun _ hk => hk.2) (.slice Ao28 t123.length co28)) (fun _ hk => hk.2) (.string t126)) (fun _ hk => hk.2) (.string t127)) (fun _ hk => hk.2) (.int .i64 t128)) (fun _ h_ => h_.1))) hb); have n2_ := Aside0.mk (Kd.R_below (by (with_reducible repeat (first | apply rA | apply rN | apply rD)); exact (Kd.R_mono (Kd.R_far (p := ⟨gb129, 5, none⟩) (Kd.R_far (p := ⟨gb129, 4, none⟩) (Kd.R_far (p := ⟨gb129, 3, none⟩) (Kd.R_far (p := ⟨gb129, 2, none⟩) (Kd.R_far (p := ⟨gb129, 1, none⟩) (Kd.R_far (p := ⟨gb129, 0, none⟩) (Kd.R_types HO111.out BK129.out (by decide)) (fun _ hk => hk.2) (.slice Ao24 t117.length co24)) (fun _ hk => hk.2) (.slice Ao27 t120.length co27)) (fun _ hk => hk.2) (.slice Ao28 t123.length co28)) (fun _ hk => hk.2) (.string t126)) (fun _ hk => hk.2) (.string t127)) (fun _ hk => hk.2) (.int .i64 t128)) (fun _ h_ => h_.1))) hb); have n3_ := Aside0.mk (Kd.R_below (by (with_reducible repeat (first | apply rA | apply rN | apply rD)); exact (Kd.R_mono (Kd.R_far (p := ⟨gb129, 5, none⟩) (Kd.R_far (p := ⟨gb129, 4, none⟩) (Kd.R_far (p := ⟨gb129, 3, none⟩) (Kd.R_far (p := ⟨gb129, 2, none⟩) (Kd.R_far (p := ⟨gb129, 1, none⟩) (Kd.R_far (p := ⟨gb129, 0, none⟩) (Kd.R_types HO119.out BK129.out (by decide)) (fun _ hk => hk.2) (.slice Ao24 t117.length co24)) (fun _ hk => hk.2) (.slice Ao27 t120.length co27)) (fun _ hk => hk.2) (.slice Ao28 t123.length co28)) (fun _ hk => hk.2) (.string t126)) (fun _ hk => hk.2) (.string t127)) (fun _ hk => hk.2) (.int .i64 t128)) (fun _ h_ => h_.1))) hb); have n4_ := Aside0.mk (Kd.R_below (by (with_reducible repeat (first | apply rA | apply rN | apply rD)); exact (Kd.R_mono (Kd.R_far (p := ⟨gb129, 5, none⟩) (Kd.R_far (p := ⟨gb129, 4, none⟩) (Kd.R_far (p := ⟨gb129, 3, none⟩) (Kd.R_far (p := ⟨gb129, 2, none⟩) (Kd.R_far (p := ⟨gb129, 1, none⟩) (Kd.R_far (p := ⟨gb129, 0, none⟩) (Kd.R_types HO122.out BK129.out (by decide)) (fun _ hk => hk.2) (.slice Ao24 t117.length co24)) (fun _ hk => hk.2) (.slice Ao27 t120.length co27)) (fun _ hk => hk.2) (.slice Ao28 t123.length co28)) (fun _ hk => hk.2) (.string t126)) (fun _ hk => hk.2) (.string t127)) (fun _ hk => hk.2) (.int .i64 t128)) (fun _ h_ => h_.1))) hb); have n5_ := Aside0.mk (Kd.R_below (by (with_reducible repeat (first | apply rA | apply rN | apply rD)); exact (Kd.R_mono (Kd.R_far (p := ⟨gb129, 5, none⟩) (Kd.R_far (p := ⟨gb129, 4, none⟩) (Kd.R_far (p := ⟨gb129, 3, none⟩) (Kd.R_far (p := ⟨gb129, 2, none⟩) (Kd.R_far (p := ⟨gb129, 1, none⟩) (Kd.R_far (p := ⟨gb129, 0, none⟩) (Kd.R_types HO125.out BK129.out (by decide)) (fun _ hk => hk.2) (.slice Ao24 t117.length co24)) (fun _ hk => hk.2) (.slice Ao27 t120.length co27)) (fun _ hk => hk.2) (.slice Ao28 t123.length co28)) (fun _ hk => hk.2) (.string t126)) (fun _ hk => hk.2) (.string t127)) (fun _ hk => hk.2) (.int .i64 t128)) (fun _ h_ => h_.1))) hb); have n6_ := Aside0.mk (blk_below (g := gb101) (o := .cells #[.slice A0_0 l0_0.length c0_0, .slice A0_1 l0_1.length c0_1, .slice A0_2 l0_2.length c0_2, .string a0_3, .string a0_4, .int .i64 a0_5] 30 (0, 0)) (by (with_reducible repeat (first | refine kN ?_ _ | refine kD ?_ | refine kA ?_ _)); refine blk_far ?_ NB101_129.out _; (with_reducible repeat (first | refine kN ?_ _ | refine kD ?_ | refine kA ?_ _)); refine blk_far ?_ NB101_129.out _; (with_reducible repeat (first | refine kN ?_ _ | refine kD ?_ | refine kA ?_ _)); refine blk_far ?_ NB101_129.out _; (with_reducible repeat (first | refine kN ?_ _ | refine kD ?_ | refine kA ?_ _)); refine blk_far ?_ NB101_129.out _; (with_reducible repeat (first | refine kN ?_ _ | refine kD ?_ | refine kA ?_ _)); refine blk_far ?_ NB101_129.out _; (with_reducible repeat (first | refine kN ?_ _ | refine kD ?_ | refine kA ?_ _)); refine blk_far ?_ NB101_129.out _; (with_reducible repeat (first | refine kN ?_ _ | refine kD ?_ | refine kA ?_ _)); exact BK101.out) hb); have n7_ := Aside0.mk (blk_below (g := gb129) (o := .cells #[.slice Ao24 t117.length co24, .slice Ao27 t120.length co27, .slice Ao28 t123.length co28, .string t126, .string t127, .int .i64 t128] 40 (0, 0)) (by (with_reducible repeat (first | refine kN ?_ _ | refine kD ?_ | refine kA ?_ _)); refine blk_put (cs := #[.slice Ao24 t117.length co24, .slice Ao27 t120.length co27, .slice Ao28 t123.length co28, .string t126, .string t127, .int .i64 0]) ?_ 5 _ rfl; (with_reducible repeat (first | refine kN ?_ _ | refine kD ?_ | refine kA ?_ _)); refine blk_put (cs := #[.slice Ao24 t117.length co24, .slice Ao27 t120.length co27, .slice Ao28 t123.length co28, .string t126, .string (⟨#[]⟩ : ByteArray), .int .i64 0]) ?_ 4 _ rfl; (with_reducible repeat (first | refine kN ?_ _ | refine kD ?_ | refine kA ?_ _)); refine blk_put (cs := #[.slice Ao24 t117.length co24, .slice Ao27 t120.length co27, .slice Ao28 t123.length co28, .string (⟨#[]⟩ : ByteArray), .string (⟨#[]⟩ : ByteArray), .int .i64 0]) ?_ 3 _ rfl; (with_reducible repeat (first | refine kN ?_ _ | refine kD ?_ | refine kA ?_ _)); refine blk_put (cs := #[.slice Ao24 t117.length co24, .slice Ao27 t120.length co27, .slice none 0 0, .string (⟨#[]⟩ : ByteArray), .string (⟨#[]⟩ : ByteArray), .int .i64 0]) ?_ 2 _ rfl; (with_reducible repeat (first | refine kN ?_ _ | refine kD ?_ | refine kA ?_ _)); refine blk_put (cs := #[.slice Ao24 t117.length co24, .slice none 0 0, .slice none 0 0, .string (⟨#[]⟩ : ByteArray), .string (⟨#[]⟩ : ByteArray), .int .i64 0]) ?_ 1 _ rfl; (with_reducible repeat (first | refine kN ?_ _ | refine kD ?_ | refine kA ?_ _)); refine blk_put (cs := #[.slice none 0 0, .slice none 0 0, .slice none 0 0, .string (⟨#[]⟩ : ByteArray), .string (⟨#[]⟩ : ByteArray), .int .i64 0]) ?_ 0 _ rfl; (with_reducible repeat (first | refine kN ?_ _ | refine kD ?_ | refine kA ?_ _)); exact BK129.out) hb); have n8_ := Aside0.mk (below_step (by repeat (first | (with_reducible first | exact HB.out | apply bA | apply bN | apply bD | refine below_set ?_ GE101.out | refine below_set ?_ GE129.out) | exact HB.out)) hb); clear HO105 HO108 HO111 HO119 HO122 HO125 BK101 BK129 HB; have HO105 := n0_; have HO108 := n1_; have HO111 := n2_; have HO119 := n3_; have HO122 := n4_; have HO125 := n5_; have BK101 := n6_; have BK129 := n7_; have HB := n8_; clear n0_ n1_ n2_ n3_ n4_ n5_ n6_ n7_ n8_; (try clear hb); (try clear hb2); (try clear hk); (try clear hi)))
  ((try simp only [Act.put, aS1, aS2, aS3])); (go_cut [34] (fun v34 wc => ∃ (kq : Nat) (x34_10 : Bool), v34 = .bool x34_10 ∧ Aside0 (laws_FnExactFormatConsole.j0 kq x34_10 l0_0 l0_1 l0_2 a0_3 a0_4 a0_5 t117 t120 t123 t126 t127 t128 = some r) ∧ Aside0 (kq ≤ k) ∧ Aside0 (Kd.R k79 79 wc w.heap.size (fun _ => True) (.slice Ao24 t117.length co24) t117) ∧ Aside0 (Kd.R k82 82 wc w.heap.size (fun _ => True) (.slice Ao27 t120.length co27) t120) ∧ Aside0 (Kd.R k57 57 wc w.heap.size (fun _ => True) (.slice Ao28 t123.length co28) t123) ∧ Aside0 (wc.heap[gb101]? = some (.cells #[(.slice A0_0 l0_0.length c0_0), (.slice A0_1 l0_1.length c0_1), (.slice A0_2 l0_2.length c0_2), .string a0_3, .string a0_4, .int .i64 a0_5] 30 (0, 0))) ∧ Aside0 (wc.heap[gb129]? = some (.cells #[(.slice Ao24 t117.length co24), (.slice Ao27 t120.length co27), (.slice Ao28 t123.length co28), .string t126, .string t127, .int .i64 t128] 40 (0, 0))) ∧ Aside0 (Below w.heap.size w wc)))
  case first =>
   (have H := HC11.out); clear HC11; (by_cases c30 : t130.toList = t115.toList)
   ·rw [if_pos c30] at H
    (have c30b0 : (t130.toList == t115.toList) = true := beq_iff_eq.mpr c30); (have c30b1 : (t130.toList != t115.toList) = false := bne_eq_false_iff_eq.mpr c30); clear c30; ((first | rw [c30b0] | (simp only [i64_w, i32_w]; rw [c30b0]) | skip)); (have H' := Aside0.mk H); clear H; (go_wp2); (go_meet)
    case rel => exact ⟨_, ((t131 != t116)), (by first | rfl | (simp; done) | (simp [*]; done)), H', ⟨by first | omega | exact Nat.le_refl _⟩, ⟨by (with_reducible repeat (first | apply rA | apply rN | apply rD)); exact Kd.R_mono HO119.out (fun _ hk => trivial)⟩, ⟨by (with_reducible repeat (first | apply rA | apply rN | apply rD)); exact Kd.R_mono HO122.out (fun _ hk => trivial)⟩, ⟨by (with_reducible repeat (first | apply rA | apply rN | apply rD)); exact Kd.R_mono HO125.out (fun _ hk => trivial)⟩, ⟨kI BK101⟩, ⟨kI BK129⟩, ⟨eI HB⟩⟩
   ·rw [if_neg c30] at H
    (have c30b0 : (t130.toList == t115.toList) = false := beq_eq_false_iff_ne.mpr c30); (have c30b1 : (t130.toList != t115.toList) = true := bne_iff_ne.mpr c30); ((first | rw [c30b0] | (simp only [i64_w, i32_w]; rw [c30b0]) | skip)); (have H' := Aside0.mk H); clear H; (go_wp2); (go_meet)
    case rel => exact ⟨_, (true), (by first | rfl | (simp; done) | (simp [*]; done)), H', ⟨by first | omega | exact Nat.le_refl _⟩, ⟨by (with_reducible repeat (first | apply rA | apply rN | apply rD)); exact Kd.R_mono HO119.out (fun _ hk => trivial)⟩, ⟨by (with_reducible repeat (first | apply rA | apply rN | apply rD)); exact Kd.R_mono HO122.out (fun _ hk => trivial)⟩, ⟨by (with_reducible repeat (first | apply rA | apply rN | apply rD)); exact Kd.R_mono HO125.out (fun _ hk => trivial)⟩, ⟨kI BK101⟩, ⟨kI BK129⟩, ⟨eI HB⟩⟩
  case rest =>
   clear HC11; (try clear c1); (try clear c2); (try clear p2); (try clear c3); (try clear c3b0); (try clear c4); (try clear c5); (try clear c7); (try clear c10); (try clear c11); (try clear c25); (try clear c30); (try clear c30b0); (try clear c30b1); (try clear hcz13_0); (try clear hcz13_1); (try clear hcz13_2); (try clear hcz13_3); (try clear hcz13_4); (try clear hcz13_5); (try clear hcz15_0); (try clear hcz15_1); (try clear hcz15_2); (try clear hcz15_3); (try clear hcz15_4); (try clear hcz15_5); (try clear hcz21_0); (try clear hcz21_1); (try clear hcz21_2); (try clear hcz21_3); (try clear hcz21_4); (try clear hcz21_5); (try clear hcz26_0); (try clear hcz26_1); (try clear hcz26_2); (try clear hcz26_3); (try clear hcz26_4); (try clear hcz26_5); (try clear hcz5_0); (try clear hcz5_1); (try clear hcz5_2); (try clear hcz5_3); (try clear hcz5_4); (try clear hcz5_5); (try clear hfz13_0); (try clear hfz13_1); (try clear hfz13_2); (try clear hfz13_3); (try clear hfz13_4); (try clear hfz13_5); (try clear hfz15_0); (try clear hfz15_1); (try clear hfz15_2); (try clear hfz15_3); (try clear hfz15_4); (try clear hfz15_5); (try clear hfz21_0); (try clear hfz21_1); (try clear hfz21_2); (try clear hfz21_3); (try clear hfz21_4); (try clear hfz21_5); (try clear hfz26_0); (try clear hfz26_1); (try clear hfz26_2); (try clear hfz26_3); (try clear hfz26_4); (try clear hfz26_5); (try clear hfz5_0); (try clear hfz5_1); (try clear hfz5_2); (try clear hfz5_3); (try clear hfz5_4); (try clear hfz5_5); (obtain ⟨kq, x34_10, rfl, HA, HJ10, HO_130000, HO_130001, HO_130002, BK101, BK129, HB⟩ := hcut)
   cases kq with
   | zero => exact absurd HA.out (by simp [laws_FnExactFormatConsole.j0])
   | succ kj10 =>
    (have H := HA.out); clear HA; (simp only [laws_FnExactFormatConsole.j0] at H); (by_cases c31 : x34_10 = true); (· subst c31; (rw [if_pos rfl] at H); (obtain rfl := Option.some.inj H); (exact absurd ht_.out (by decide)))
    ·replace c31 := Bool.eq_false_iff.mpr c31
     subst c31; (rw [if_neg (show ¬ (false = true) by decide)] at H); (obtain ⟨⟨t132, t135, t138, t141, t142, t143⟩, A32, H⟩ := obS H); (replace H : ((laws_eqConsole.f kj10 t117 t120 t123 t126 t127 t128 t132 t135 t138 t141 t142 t143).bind fun t144 => (if t144 = true then (some true) else (some false))) = some r := H); (obtain ⟨t144, A33, H⟩ := obS H); (by_cases c34 : t144 = true)
     ·subst c34
      (rw [if_pos rfl] at H); (obtain rfl := Option.some.inj H); (try go_wp2); (have n0_ := Aside0.mk (Kd.R_drew HO_130000.out)); (have n1_ := Aside0.mk (Kd.R_drew HO_130001.out)); (have n2_ := Aside0.mk (Kd.R_drew HO_130002.out)); (have n3_ := Aside0.mk (blk_drew BK101.out)); (have n4_ := Aside0.mk (blk_drew BK129.out)); (have n5_ := Aside0.mk (below_drew1 HB.out)); clear HO_130000 HO_130001 HO_130002 BK101 BK129 HB; (have HO_130000 := n0_); (have HO_130001 := n1_); (have HO_130002 := n2_); (have BK101 := n3_); (have BK129 := n4_); (have HB := n5_); clear n0_ n1_ n2_ n3_ n4_ n5_; (refine start_ (n := 5) (S := fun w' => w'.cell? ⟨gb129, 0, none⟩ = some (.slice Ao24 t117.length co24) ∧ w'.cell? ⟨gb129, 1, none⟩ = some (.slice Ao27 t120.length co27) ∧ w'.cell? ⟨gb129, 2, none⟩ = some (.slice Ao28 t123.length co28) ∧ w'.cell? ⟨gb129, 3, none⟩ = some (.string t126) ∧ w'.cell? ⟨gb129, 4, none⟩ = some (.string t127) ∧ w'.cell? ⟨gb129, 5, none⟩ = some (.int .i64 t128) ∧ w'.cell? ⟨gb101, 0, none⟩ = some (.slice A0_0 l0_0.length c0_0) ∧ w'.cell? ⟨gb101, 1, none⟩ = some (.slice A0_1 l0_1.length c0_1) ∧ w'.cell? ⟨gb101, 2, none⟩ = some (.slice A0_2 l0_2.length c0_2) ∧ w'.cell? ⟨gb101, 3, none⟩ = some (.string a0_3) ∧ w'.cell? ⟨gb101, 4, none⟩ = some (.string a0_4) ∧ w'.cell? ⟨gb101, 5, none⟩ = some (.int .i64 a0_5)) (ds := []) (cn 5 0) (by kernel_rfl) rfl (by kernel_rfl) ⟨cz BK129.out 0, cz BK129.out 1, cz BK129.out 2, cz BK129.out 3, cz BK129.out 4, cz BK129.out 5, cz BK101.out 0, cz BK101.out 1, cz BK101.out 2, cz BK101.out 3, cz BK101.out 4, cz BK101.out 5⟩ (fun hHeld => ?_)); (generalize wc.drew = w35 at HO_130000 HO_130001 HO_130002 BK101 BK129 HB hHeld ⊢); (refine take_ (i := 0) (N := some 35) (v := ?_) (a' := ?_) (cn 5 1) rfl rfl (by kernel_rfl) (fun _ _ _ h => h) (Or.inl ⟨by rfl, ?_⟩) hHeld ?_ ?_); rotate_left; (· (rintro w' ⟨s0, s1, s2, s3, s4, s5, s6, s7, s8, s9, s10, s11⟩); go_simp; with_reducible rfl); rotate_left; (· (simp only [Act.put, aS1, aS2, aS3, i64_w, i32_w]); rfl); (refine take_ (i := 1) (N := some 36) (v := ?_) (a' := ?_) (cn 5 2) rfl rfl (by kernel_rfl) (fun _ _ _ h => h) (Or.inl ⟨by rfl, ?_⟩) hHeld ?_ ?_); rotate_left; (· (rintro w' ⟨s0, s1, s2, s3, s4, s5, s6, s7, s8, s9, s10, s11⟩); go_simp; with_reducible rfl); rotate_left; (· (simp only [Act.put, aS1, aS2, aS3, i64_w, i32_w]); rfl); (refine one_ (i := 2) (N := some 37) (cn 5 3) rfl rfl (by kernel_rfl) (by decide) (fun K hK => ?_)); (refine gG Tryz.func7 #[.agg #[.slice A0_0 l0_0.length c0_0, .slice A0_1 l0_1.length c0_1, .slice A0_2 l0_2.length c0_2, .string a0_3, .string a0_4, .int .i64 a0_5]] ?_); (with_reducible refine (laws_toConsole.calls kj10 _ _ l0_0 _ _ l0_1 _ _ l0_2 a0_3 a0_4 a0_5 t132 t135 t138 t141 t142 t143 _ ?side1 ?side2 ?side3 ?side4 ?side5 ?side6 A32.out).mono ?_); ((case side1 => exact Kd.C_below HR0_0.out (eI HB))); ((case side2 => exact HC0_0.out)); ((case side3 => exact Kd.C_below HR0_1.out (eI HB))); ((case side4 => exact HC0_1.out)); ((case side5 => exact Kd.C_below HR0_2.out (eI HB))); ((case side6 => exact HC0_2.out)); (rintro e w36 ⟨v133, v136, v139, rfl, ho0, ho1, ho2, hb⟩); (refine ⟨_, rfl, ?_⟩); (have n0_ := Aside0.mk (Kd.R_elder' (rI HO_130000) (Kd.R_base ho0) hb)); (have n1_ := Aside0.mk (Kd.R_elder' (rI HO_130001) (Kd.R_base ho1) hb)); (have n2_ := Aside0.mk (Kd.R_elder' (rI HO_130002) (Kd.R_base ho2) hb)); (have n3_ := Aside0.mk (Kd.R_lower (Kd.R_new' ho0 (Kd.R_lt (rI HO_130000))) (below_size (eI HB)))); (have n4_ := Aside0.mk (Kd.R_lower (Kd.R_new' ho1 (Kd.R_lt (rI HO_130001))) (below_size (eI HB)))); (have n5_ := Aside0.mk (Kd.R_lower (Kd.R_new' ho2 (Kd.R_lt (rI HO_130002))) (below_size (eI HB)))); (have n6_ := Aside0.mk (kbI hb BK101))
      (have n7_ := Aside0.mk (kbI hb BK129)); (have n8_ := Aside0.mk (sI hb HB)); clear HO_130000 HO_130001 HO_130002 BK101 BK129 HB; (have HO_130000 := n0_); (have HO_130001 := n1_); (have HO_130002 := n2_); (have HO134 := n3_); (have HO137 := n4_); (have HO140 := n5_); (have BK101 := n6_); (have BK129 := n7_); (have HB := n8_); clear n0_ n1_ n2_ n3_ n4_ n5_ n6_ n7_ n8_; ((try clear hb)); ((try clear hb2)); ((try clear hk)); ((try clear hi)); ((try clear ho0)); ((try clear ho1)); ((try clear ho2)); (obtain ⟨Ao37, co37, eo37⟩ := Kd.R_slice HO134.out); ((first | subst eo37 | (injection eo37 with f1_ f2_ f3_; have f4_ := f1_.symm; have f5_ := f3_.symm; clear f1_ f2_ f3_; subst f4_; subst f5_))); (obtain ⟨Ao38, co38, eo38⟩ := Kd.R_slice HO137.out); ((first | subst eo38 | (injection eo38 with f1_ f2_ f3_; have f4_ := f1_.symm; have f5_ := f3_.symm; clear f1_ f2_ f3_; subst f4_; subst f5_))); (obtain ⟨Ao39, co39, eo39⟩ := Kd.R_slice HO140.out); ((first | subst eo39 | (injection eo39 with f1_ f2_ f3_; have f4_ := f1_.symm; have f5_ := f3_.symm; clear f1_ f2_ f3_; subst f4_; subst f5_))); (refine hK.out _ _ ⟨cz BK129.out 0, cz BK129.out 1, cz BK129.out 2, cz BK129.out 3, cz BK129.out 4, cz BK129.out 5, cz BK101.out 0, cz BK101.out 1, cz BK101.out 2, cz BK101.out 3, cz BK101.out 4, cz BK101.out 5⟩ (fun hHeld => ?_)); clear hK K; (refine nP (some 37) (h := ?_)); (refine one_ (i := 3) (N := some 38) (cn 5 4) rfl rfl (by kernel_rfl) (by decide) (fun K hK => ?_)); (refine gG Tryz.func9 #[.agg #[.slice Ao24 t117.length co24, .slice Ao27 t120.length co27, .slice Ao28 t123.length co28, .string t126, .string t127, .int .i64 t128], .agg #[.slice Ao37 t132.length co37, .slice Ao38 t135.length co38, .slice Ao39 t138.length co39, .string t141, .string t142, .int .i64 t143]] ?_); (with_reducible refine (laws_eqConsole.calls kj10 _ _ t117 _ _ t120 _ _ t123 t126 t127 t128 _ _ t132 _ _ t135 _ _ t138 t141 t142 t143 true _ ?side1 ?side2 ?side3 ?side4 ?side5 ?side6 ?side7 ?side8 ?side9 ?side10 ?side11 ?side12 A33.out ⟨rfl⟩).mono ?_); ((case side1 => repeat (first | exact (Kd.R_reads' HO_130000.out).2.2 | (with_reducible first | refine cA ?_ _ | refine cN ?_ _ | refine cD ?_)))); ((case side2 => exact (Kd.R_reads' HO_130000.out).2.1)); ((case side3 => repeat (first | exact (Kd.R_reads' HO_130001.out).2.2 | (with_reducible first | refine cA ?_ _ | refine cN ?_ _ | refine cD ?_)))); ((case side4 => exact (Kd.R_reads' HO_130001.out).2.1)); ((case side5 => repeat (first | exact (Kd.R_reads' HO_130002.out).2.2 | (with_reducible first | refine cA ?_ _ | refine cN ?_ _ | refine cD ?_)))); ((case side6 => exact (Kd.R_reads' HO_130002.out).2.1)); ((case side7 => repeat (first | exact (Kd.R_reads' HO134.out).2.2 | (with_reducible first | refine cA ?_ _ | refine cN ?_ _ | refine cD ?_)))); ((case side8 => exact (Kd.R_reads' HO134.out).2.1)); ((case side9 => repeat (first | exact (Kd.R_reads' HO137.out).2.2 | (with_reducible first | refine cA ?_ _ | refine cN ?_ _ | refine cD ?_)))); ((case side10 => exact (Kd.R_reads' HO137.out).2.1)); ((case side11 => repeat (first | exact (Kd.R_reads' HO140.out).2.2 | (with_reducible first | refine cA ?_ _ | refine cN ?_ _ | refine cD ?_)))); ((case side12 => exact (Kd.R_reads' HO140.out).2.1)); (rintro e w40 ⟨rfl, hb⟩); (refine ⟨_, rfl, ?_⟩); (have n0_ := Aside0.mk (rbI hb HO_130000)); (have n1_ := Aside0.mk (rbI hb HO_130001)); (have n2_ := Aside0.mk (rbI hb HO_130002)); (have n3_ := Aside0.mk (rbI hb HO134)); (have n4_ := Aside0.mk (rbI hb HO137)); (have n5_ := Aside0.mk (rbI hb HO140)); (have n6_ := Aside0.mk (kbI hb BK101)); (have n7_ := Aside0.mk (kbI hb BK129))
      (have n8_ := Aside0.mk (sI hb HB)); clear HO_130000 HO_130001 HO_130002 HO134 HO137 HO140 BK101 BK129 HB; (have HO_130000 := n0_); (have HO_130001 := n1_); (have HO_130002 := n2_); (have HO134 := n3_); (have HO137 := n4_); (have HO140 := n5_); (have BK101 := n6_); (have BK129 := n7_); (have HB := n8_); clear n0_ n1_ n2_ n3_ n4_ n5_ n6_ n7_ n8_; ((try clear hb)); ((try clear hb2)); ((try clear hk)); ((try clear hi)); (refine hK.out _ _ ⟨cz BK129.out 0, cz BK129.out 1, cz BK129.out 2, cz BK129.out 3, cz BK129.out 4, cz BK129.out 5, cz BK101.out 0, cz BK101.out 1, cz BK101.out 2, cz BK101.out 3, cz BK101.out 4, cz BK101.out 5⟩ (fun hHeld => ?_)); clear hK K; (refine nP (some 38) (h := ?_)); (refine pure_ (i := 4) (N := some 39) (v := ?_) (a' := ?_) (cn 5 5) rfl rfl (by kernel_rfl) (fun _ _ _ h => h) (Or.inl ⟨by rfl, ?_⟩) ?_ ?_); rotate_left; (· intro w'; go_simp; with_reducible rfl); rotate_left; (· (simp only [Act.put, aS1, aS2, aS3, i64_w, i32_w]); rfl); (refine done_ (by kernel_rfl) ?_); (try go_wp2); go_ret; (exact ⟨rfl, eI HB⟩)
     ·replace c34 := Bool.eq_false_iff.mpr c34
      subst c34; (rw [if_neg (show ¬ (false = true) by decide)] at H); (obtain rfl := Option.some.inj H); (exact absurd ht_.out (by decide))

end Go.Proofs.YtogjjcjnnclghaaGreatDoor.X
set_option linter.unusedVariables false
set_option linter.unusedSimpArgs false
namespace Go.Proofs.YtogjjcjnnclghaaGreatDoor.Open
open Go.RowKit Go.Proofs.YtogjjcjnnclghaaGreatDoorW.PrintWords

/-- What reads at type t is of kind d, and good. -/
def Opens (P : Program) (t : TypeId) {α : Type} (d : Kd α) (good : α → Prop) : Prop :=
  ∀ (H : Type) (enc : TypeId × Value → H) (w : World) (fuel : Nat) (cs : List Value) (x : DataW H × List MemPlace),
    DataW.trod enc P w 0 (fun _ => true) true fuel t cs = some x → ∃ a, d.K w a cs ∧ good a

theorem opens_int {P : Program} {t : TypeId} {k : IntKind} (ht : P.underlying t = some (.int k)) : Opens P t (Kd.int k) (fun n => (Lit.int k n).wf = true) := by
  intro H enc w fuel cs x hx
  obtain ⟨n, rfl, _, hw⟩ := DataW.trod_int ht hx
  exact ⟨n, rfl, hw⟩
theorem opens_string {P : Program} {t : TypeId} (ht : P.underlying t = some .string) : Opens P t Kd.string (fun s => s.size ≤ 9223372036854775807) := by
  intro H enc w fuel cs x hx
  obtain ⟨n, rfl, _, hw⟩ := DataW.trod_string ht hx
  exact ⟨n, rfl, by simpa [maxLen] using hw⟩

theorem cells_each {w : World} {a : Addr} {n : Nat} {cs : List Value} (h : w.cells? 0 a n = some cs) : cs.length = n ∧ ∀ i u, cs[i]? = some u → w.cell? (a.add i) = some u := by
  have h1 := World.cells?_some h
  refine ⟨h1.2.1, fun i u hu => ?_⟩
  have hi : i < n := by
    have := (List.getElem?_eq_some_iff.1 hu).1
    omega
  rw [h1.2.2 i hi, hu]

theorem opens_slice {P : Program} {t e : TypeId} {α : Type} {d : Kd α} {g : α → Prop} (ht : P.underlying t = some (.slice e)) (hsz : P.cellsOf e = d.sz) (h : Opens P e d g) :
    Opens P t (Kd.slice e d) (fun xs => xs.length ≤ 9223372036854775807 ∧ ∀ x ∈ xs, g x) := by
  intro H enc w fuel cs x hx
  rcases DataW.trod_slice ht hx with ⟨rfl, _⟩ | ⟨a, len, cap, elems, rest, n, rfl, rfl, _, _, hlc, hcap, hel, hget, _, _⟩
  · exact ⟨[], ⟨none, 0, rfl, Nat.le_refl _, Kd.C_nil d w⟩, by simp, by simp⟩
  · simp only [maxLen] at hcap
    have each : ∀ i, i < len → ∃ b : α, ∃ c : List Value, c.length = d.sz ∧ d.K w b c ∧ g b ∧ ∀ j u, c[j]? = some u → w.cell? (a.add (i * d.sz + j)) = some u := by
      intro i hi
      have h1 := hget i hi
      obtain ⟨y, hy⟩ : ∃ y, elems[i]? = some y := ⟨_, List.getElem?_eq_getElem (by omega)⟩
      rw [hy] at h1
      obtain ⟨c, hc, ht'⟩ := Option.bind_eq_some_iff.1 h1
      obtain ⟨b, hK, hg⟩ := h H enc w n c y ht'
      obtain ⟨hl, hcell⟩ := cells_each hc
      refine ⟨b, c, hl.trans hsz, hK, hg, fun j u hu => ?_⟩
      have := hcell j u hu
      rw [Deep.add_add, hsz] at this
      exact this
    have mk : ∀ m, m ≤ len → ∃ xs : List α, xs.length = m ∧ (∀ x ∈ xs, g x) ∧ ∀ j p, xs[j]? = some p → ∃ c, c.length = d.sz ∧ d.K w p c ∧ ∀ i u, c[i]? = some u → w.cell? (a.add (j * d.sz + i)) = some u := by
      intro m
      induction m with
      | zero => exact fun _ => ⟨[], rfl, by simp, by simp⟩
      | succ m ih =>
        intro hm
        obtain ⟨xs, hl, hg, hx⟩ := ih (by omega)
        obtain ⟨b, c, hc1, hc2, hc3, hc4⟩ := each m (by omega)
        refine ⟨xs ++ [b], by simp [hl], ?_, ?_⟩
        · intro x hx'
          rcases List.mem_append.1 hx' with hx' | hx'
          · exact hg x hx'
          · rw [List.mem_singleton.1 hx']; exact hc3
        · intro j p hj
          by_cases hjm : j < m
          · rw [List.getElem?_append_left (by omega)] at hj
            exact hx j p hj
          · have hlt := (List.getElem?_eq_some_iff.1 hj).1
            simp only [List.length_append, List.length_cons, List.length_nil] at hlt
            obtain rfl : j = m := by omega
            rw [List.getElem?_append_right (by omega), hl, Nat.sub_self] at hj
            simp only [List.getElem?_cons_zero, Option.some.injEq] at hj
            subst hj
            exact ⟨c, hc1, hc2, hc4⟩
    obtain ⟨ys, hl, hg, hy⟩ := mk len (Nat.le_refl _)
    subst hl
    exact ⟨ys, ⟨some a, cap, rfl, hlc, rfl, by omega, fun _ => ⟨a, rfl, hy⟩⟩, by omega, hg⟩

def offs (L : List (TypeId × Nat)) (i : Nat) : Nat := ((L.take i).map (·.2)).sum
def Sect (P : Program) (L : List (TypeId × Nat)) {α : Type} (d : Kd α) (good : α → Prop) : Prop :=
  ∀ (H : Type) (enc : TypeId × Value → H) (w : World) (n : Nat) (cs : List Value), cs.length = (L.map (·.2)).sum →
    (∀ i p, L[i]? = some p → ∃ y, DataW.trod enc P w 0 (fun _ => true) true n p.1 ((cs.drop (offs L i)).take p.2) = some y) → ∃ a, d.K w a cs ∧ good a
theorem sect_one {P : Program} {t : TypeId} {s : Nat} {α : Type} {d : Kd α} {g : α → Prop} (h : Opens P t d g) : Sect P [(t, s)] d g := by
  intro H enc w n cs hl hf
  obtain ⟨y, hy⟩ := hf 0 _ rfl
  simp only [offs, List.take_zero, List.map_nil, List.sum_nil, List.drop_zero] at hy
  rw [List.take_of_length_le (by simp at hl; omega)] at hy
  exact h H enc w n cs y hy
theorem sect_cons {P : Program} {t : TypeId} {s : Nat} {L : List (TypeId × Nat)} {α β : Type} {d : Kd α} {d' : Kd β} {g : α → Prop} {g' : β → Prop} (h : Opens P t d g) (h' : Sect P L d' g') :
    Sect P ((t, s) :: L) (Kd.pair d d') (fun x => g x.1 ∧ g' x.2) := by
  intro H enc w n cs hl hf
  obtain ⟨y, hy⟩ := hf 0 _ rfl
  simp only [offs, List.take_zero, List.map_nil, List.sum_nil, List.drop_zero] at hy
  obtain ⟨a, ha, hga⟩ := h H enc w n _ y hy
  obtain ⟨b, hb, hgb⟩ := h' H enc w n (cs.drop s) (by simp only [List.map_cons, List.sum_cons] at hl; rw [List.length_drop, hl]; omega) (by
    intro i p hp
    obtain ⟨z, hz⟩ := hf (i + 1) p (by simpa using hp)
    refine ⟨z, ?_⟩
    simp only [offs, List.take_succ_cons, List.map_cons, List.sum_cons] at hz
    rw [List.drop_drop]
    exact hz)
  exact ⟨(a, b), ⟨cs.take s, cs.drop s, (List.take_append_drop s cs).symm, ha, hb⟩, hga, hgb⟩
theorem opens_struct {P : Program} {t : TypeId} {fs : Array Field} {α β : Type} {d : Kd α} {g : α → Prop} (f : β → α) (k : α → β) (hk : ∀ x, f (k x) = x) (L : List (TypeId × Nat))
    (ht : P.underlying t = some (.struct fs)) (hL : L = fs.toList.map (fun f => (f.type, P.cellsOf f.type))) (ho : fs.toList.map (·.offset) = (List.range L.length).map (offs L)) (hc : P.cellsOf t = (L.map (·.2)).sum)
    (h : Sect P L d g) : Opens P t (Kd.iso d f) (fun x => g (f x)) := by
  intro H enc w fuel cs x hx
  obtain ⟨xs, n, rfl, rfl, hl, hxl, hf⟩ := DataW.trod_struct ht hx
  obtain ⟨a, ha, hg⟩ := h H enc w n cs (hl.trans hc) (by
    intro i p hp
    have hi : i < fs.size := by
      have := (List.getElem?_eq_some_iff.1 hp).1
      rw [hL] at this
      simpa using this
    have hfi : fs[i]? = some fs[i] := Array.getElem?_eq_getElem hi
    have h1 := hf i fs[i] hfi
    obtain ⟨y, hy⟩ : ∃ y, xs[i]? = some y := ⟨_, List.getElem?_eq_getElem (by omega)⟩
    rw [hy] at h1
    refine ⟨y, ?_⟩
    have hp' : p = (fs[i].type, P.cellsOf fs[i].type) := by
      rw [hL] at hp
      simp only [List.getElem?_map, Array.getElem?_toList, hfi, Option.map_some, Option.some.injEq] at hp
      exact hp.symm
    have hoi : fs[i].offset = offs L i := by
      have h2 : (fs.toList.map (·.offset))[i]? = ((List.range L.length).map (offs L))[i]? := by rw [ho]
      have hLl : L.length = fs.size := by rw [hL]; simp
      simp only [List.getElem?_map, Array.getElem?_toList, hfi, Option.map_some, List.getElem?_range (show i < L.length by omega)] at h2
      exact Option.some.inj h2
    rw [hp', ← hoi]
    exact h1)
  refine ⟨k a, ?_, ?_⟩
  · show d.K w (f (k a)) cs
    rw [hk]; exact ha
  · show g (f (k a))
    rw [hk]; exact hg

theorem arg_agg {P : Program} {W : World} {H : Type} {enc : TypeId × Value → H} {t : TypeId} {α : Type} {d : Kd α} {g : α → Prop} {v : Value} {x : DataW H} {p : List MemPlace} (h : Opens P t d g)
    (hs : ∃ cs, v = .agg cs) (hv : DataW.Trod enc P W 0 (fun _ => true) true t v x p) : ∃ a cs, v = .agg cs ∧ d.K W a cs.toList ∧ g a := by
  obtain ⟨cs, rfl⟩ := hs
  obtain ⟨fuel, hf⟩ := hv
  obtain ⟨a, hK, hg⟩ := h H enc W fuel _ _ hf
  exact ⟨a, cs, rfl, hK, hg⟩
end Go.Proofs.YtogjjcjnnclghaaGreatDoor.Open
set_option linter.unusedVariables false
namespace Go.Proofs.YtogjjcjnnclghaaGreatDoor.X
open Go.RowKit Go.Proofs.YtogjjcjnnclghaaGreatDoorW.PrintWords Go.Proofs.YtogjjcjnnclghaaGreatDoor.Open
theorem op3 : Opens Tryz.prog 3 (Kd.int .i64) (fun n => (Lit.int .i64 n).wf = true) := opens_int Tryz.underlying3
def good100 (x : S100) : Prop := (Lit.int .i64 x.f0).wf = true ∧ (Lit.int .i64 x.f1).wf = true
theorem op100 : Opens Tryz.prog 100 k100 good100 :=
  opens_struct (fun x : S100 => (x.f0, x.f1)) (fun p => ⟨p.1, p.2⟩) (fun _ => rfl) [(3, 1), (3, 1)] Tryz.underlying100 (by kernel_rfl) (by decide) (by kernel_rfl) (sect_cons op3 (sect_one op3))
theorem op22 : Opens Tryz.prog 22 (Kd.slice 100 k100) (fun xs => (xs.length ≤ 9223372036854775807 ∧ ∀ y ∈ xs, good100 y)) := opens_slice Tryz.underlying22 (by kernel_rfl) op100
def good102 (x : S102) : Prop := (Lit.int .i64 x.f0).wf = true ∧ (Lit.int .i64 x.f1).wf = true
theorem op102 : Opens Tryz.prog 102 k102 good102 :=
  opens_struct (fun x : S102 => (x.f0, x.f1)) (fun p => ⟨p.1, p.2⟩) (fun _ => rfl) [(3, 1), (3, 1)] Tryz.underlying102 (by kernel_rfl) (by decide) (by kernel_rfl) (sect_cons op3 (sect_one op3))
theorem op23 : Opens Tryz.prog 23 (Kd.slice 102 k102) (fun xs => (xs.length ≤ 9223372036854775807 ∧ ∀ y ∈ xs, good102 y)) := opens_slice Tryz.underlying23 (by kernel_rfl) op102
def good25 (x : S25) : Prop := (x.f0.length ≤ 9223372036854775807 ∧ ∀ y ∈ x.f0, good100 y) ∧ (x.f1.length ≤ 9223372036854775807 ∧ ∀ y ∈ x.f1, good102 y)
theorem op25 : Opens Tryz.prog 25 k25 good25 :=
  opens_struct (fun x : S25 => (x.f0, x.f1)) (fun p => ⟨p.1, p.2⟩) (fun _ => rfl) [(22, 1), (23, 1)] Tryz.underlying25 (by kernel_rfl) (by decide) (by kernel_rfl) (sect_cons op22 (sect_one op23))
def good75 (x : S75) : Prop := (Lit.int .i64 x.f0).wf = true ∧ (Lit.int .i64 x.f1).wf = true
theorem op75 : Opens Tryz.prog 75 k75 good75 :=
  opens_struct (fun x : S75 => (x.f0, x.f1)) (fun p => ⟨p.1, p.2⟩) (fun _ => rfl) [(3, 1), (3, 1)] Tryz.underlying75 (by kernel_rfl) (by decide) (by kernel_rfl) (sect_cons op3 (sect_one op3))
def good77 (x : S77) : Prop := (Lit.int .i64 x.f0).wf = true ∧ good75 x.f1
theorem op77 : Opens Tryz.prog 77 k77 good77 :=
  opens_struct (fun x : S77 => (x.f0, x.f1)) (fun p => ⟨p.1, p.2⟩) (fun _ => rfl) [(3, 1), (75, 2)] Tryz.underlying77 (by kernel_rfl) (by decide) (by kernel_rfl) (sect_cons op3 (sect_one op75))
theorem op26 : Opens Tryz.prog 26 (Kd.slice 77 k77) (fun xs => (xs.length ≤ 9223372036854775807 ∧ ∀ y ∈ xs, good77 y)) := opens_slice Tryz.underlying26 (by kernel_rfl) op77
theorem op9 : Opens Tryz.prog 9 Kd.string (fun s => s.size ≤ 9223372036854775807) := opens_string Tryz.underlying9
def good28 (x : S28) : Prop := x.f0.size ≤ 9223372036854775807 ∧ x.f1.size ≤ 9223372036854775807 ∧ (Lit.int .i64 x.f2).wf = true
theorem op28 : Opens Tryz.prog 28 k28 good28 :=
  opens_struct (fun x : S28 => (x.f0, x.f1, x.f2)) (fun p => ⟨p.1, p.2.1, p.2.2⟩) (fun _ => rfl) [(9, 1), (9, 1), (3, 1)] Tryz.underlying28 (by kernel_rfl) (by decide) (by kernel_rfl) (sect_cons op9 (sect_cons op9 (sect_one op3)))
def good30 (x : S30) : Prop := good25 x.f0 ∧ (x.f1.length ≤ 9223372036854775807 ∧ ∀ y ∈ x.f1, good77 y) ∧ good28 x.f2
theorem op30 : Opens Tryz.prog 30 k30 good30 :=
  opens_struct (fun x : S30 => (x.f0, x.f1, x.f2)) (fun p => ⟨p.1, p.2.1, p.2.2⟩) (fun _ => rfl) [(25, 2), (26, 1), (28, 3)] Tryz.underlying30 (by kernel_rfl) (by decide) (by kernel_rfl) (sect_cons op25 (sect_cons op26 (sect_one op28)))
end Go.Proofs.YtogjjcjnnclghaaGreatDoor.X
namespace Go.Proofs.YtogjjcjnnclghaaGreatDoor.X
open Go.RowKit Go.Proofs.YtogjjcjnnclghaaGreatDoorW.PrintWords
def PureFnExactFormatConsole : Prop := ∀ (a0 : S30), good30 a0 → ∃ k, laws_FnExactFormatConsole.f k (a0.f0.f0) (a0.f0.f1) (a0.f1) (a0.f2.f0) (a0.f2.f1) (a0.f2.f2) = some true
end Go.Proofs.YtogjjcjnnclghaaGreatDoor.X
set_option linter.unusedVariables false
set_option linter.unusedSimpArgs false
namespace Go.Proofs.YtogjjcjnnclghaaGreatDoor.X
open Go.RowKit Go.Proofs.YtogjjcjnnclghaaGreatDoorW.PrintWords Go.Proofs.YtogjjcjnnclghaaGreatDoor.E
theorem specIn_eq (a l h : Int) : spec_l1In.f a l h = some (decide (l ≤ a ∧ a ≤ h)) := by
  unfold spec_l1In.f
  by_cases h1 : a ≥ l
  · rw [if_pos h1]; congr 1; simp [h1]
  · rw [if_neg h1]; congr 1; symm; simp; intro h2; omega
theorem implIn_eq (a l h : Int) : impl_within.f a l h = some (decide (l ≤ a ∧ a ≤ h)) := by
  unfold impl_within.f
  by_cases h1 : a ≥ l
  · rw [if_pos h1]; congr 1; simp [h1]
  · rw [if_neg h1]; congr 1; symm; simp; intro h2; omega
theorem isNumber_eq (a : Int) : impl_isNumber.f a = some (decide (1 ≤ a ∧ a ≤ 999)) := by unfold impl_isNumber.f; rw [implIn_eq]; rfl
theorem isKind_eq (a : Int) : impl_isKind.f a = some (decide (1 ≤ a ∧ a ≤ 4)) := by unfold impl_isKind.f; rw [implIn_eq]; rfl
def findC (cs : List S79) (n : Int) : Int := idxG (fun x : S79 => x.f0 == n) 0 cs
theorem indexOf_eq (cs : List S79) (rs : List S82) (n : Int) : impl_indexOf.f cs rs n = some (findC cs n) := rfl
theorem l2Find_ev (cs : List S79) (rs : List S82) (n : Int) (hl : cs.length ≤ 9223372036854775807) : Ev (fun k => spec_l2Find.f k cs rs n) (findC cs n) := by
  have h := ev_walk (L := fun k i => spec_l2Find.l0 k n i cs rs) (G := fun i r => idxG (fun x : S79 => x.f0 == n) i r) cs (Ev.step (fun k => rfl) (ev_neg (by omega) (ev_now rfl))) ?step
  case step =>
    intro i x r hi hd hx hk
    refine Ev.step (fun k => rfl) (ev_pos (by omega) (ev_pos (by omega) ?_))
    simp only [rd_T79, Int.toNat_natCast, hx]
    by_cases c : x.f0 = n
    · exact ev_pos c (ev_now (by simp [idxG, c]))
    · refine ev_neg c ?_
      rw [wrap_succ hi hl]
      exact ev_cast hk (by simp [idxG, c])
  exact h
def CtxP (cs : List S79) (i : Nat) : Prop := (1 ≤ (rd_T79 cs i).f0 ∧ (rd_T79 cs i).f0 ≤ 999) ∧ (1 ≤ (rd_T79 cs i).f1 ∧ (rd_T79 cs i).f1 ≤ 4) ∧ (0 < i → (rd_T79 cs ((i - 1 : Nat) : Int)).f0 < (rd_T79 cs i).f0)
def befP (x y : S82) : Prop := x.f0 < y.f0 ∨ (x.f0 = y.f0 ∧ x.f1 < y.f1)
def RelP (cs : List S79) (rs : List S82) (i : Nat) : Prop := (rd_T82 rs i).f0 ≠ (rd_T82 rs i).f1 ∧ 0 ≤ findC cs (rd_T82 rs i).f0 ∧ 0 ≤ findC cs (rd_T82 rs i).f1 ∧ (0 < i → befP (rd_T82 rs ((i - 1 : Nat) : Int)) (rd_T82 rs i))
instance (x y : S82) : Decidable (befP x y) := by unfold befP; exact inferInstance
instance (cs : List S79) (i : Nat) : Decidable (CtxP cs i) := by unfold CtxP; exact inferInstance
instance (cs : List S79) (rs : List S82) (i : Nat) : Decidable (RelP cs rs i) := by unfold RelP; exact inferInstance
def relsB (cs : List S79) (rs : List S82) : Bool := (List.range rs.length).all (fun i => decide (RelP cs rs i))
def recOk (cs : List S79) (rs : List S82) : Bool := decide (cs.length ≤ 10 ∧ rs.length ≤ 24) && ((List.range cs.length).all (fun i => decide (CtxP cs i)) && relsB cs rs)
def sg (a b : Int) : Int := if a < b then -1 else if a > b then 1 else 0
theorem compare_eq (a b : Int) : cmp_Compare_int.f a b = some (sg a b) := by
  have hn : ∀ z : Int, cmp_isNaN_int.f z = some false := fun z => by unfold cmp_isNaN_int.f; simp
  unfold cmp_Compare_int.f sg
  rw [hn, hn]
  simp only [Option.bind_some, Bool.false_eq_true, if_false]
  by_cases h : a < b
  · rw [if_pos h, if_pos h]
  · rw [if_neg h, if_neg h]
    by_cases h2 : a > b
    · rw [if_pos h2, if_pos h2]
    · rw [if_neg h2, if_neg h2]
theorem or_ev (a b : Int) : Ev (fun k => cmp_Or_int.f k [a, b]) (if a = 0 then b else a) := by
  have r0 : rd [a, b] 0 = a := rfl
  have r1 : rd [a, b] 1 = b := rfl
  have w1 : wrap64 (0 + 1) = 1 := by rw [wrap_id (by omega) (by omega)]; rfl
  have w2 : wrap64 (1 + 1) = 2 := by rw [wrap_id (by omega) (by omega)]; rfl
  unfold cmp_Or_int.f
  refine Ev.step (fun k => rfl) (ev_pos (by simp) (ev_pos (by omega) (ev_pos (by simp) ?_)))
  rw [r0, w1]
  by_cases h : a = 0
  · rw [if_pos h]
    refine ev_pos h (Ev.step (fun k => rfl) (ev_pos (by simp) (ev_pos (by omega) (ev_pos (by simp) ?_))))
    rw [r1, w2]
    by_cases h2 : b = 0
    · exact ev_pos h2 (Ev.step (fun k => rfl) (ev_neg (by simp) (ev_now h2.symm)))
    · exact ev_neg h2 (ev_now rfl)
  · rw [if_neg h]
    exact ev_neg h (ev_now rfl)
theorem compareRel_ev (x y : S82) : ∃ c, Ev (fun k => impl_compareRelations.f k x.f0 x.f1 y.f0 y.f1) c ∧ (c ≥ 0 ↔ ¬ befP x y) := by
  refine ⟨if sg x.f0 y.f0 = 0 then sg x.f1 y.f1 else sg x.f0 y.f0, ?_, ?_⟩
  · unfold impl_compareRelations.f
    exact ev_bind0 (compare_eq _ _) (ev_bind0 (compare_eq _ _) (Ev.bind (or_ev _ _) (ev_now rfl)))
  · unfold sg befP
    repeat' split
    all_goals omega
theorem before_eq (x y : S82) : spec_l2Before.f x.f0 x.f1 y.f0 y.f1 = some (decide (befP x y)) := by
  have hb : befP x y ↔ (x.f0 < y.f0 ∨ (x.f0 = y.f0 ∧ x.f1 < y.f1)) := Iff.rfl
  unfold spec_l2Before.f
  by_cases h1 : x.f0 < y.f0
  · rw [if_pos h1, decide_eq_true (hb.2 (Or.inl h1))]
  · rw [if_neg h1]
    by_cases h2 : x.f0 = y.f0
    · rw [if_pos h2]; congr 1; rw [decide_eq_decide, hb]; omega
    · rw [if_neg h2, decide_eq_false (fun h => by have := hb.1 h; omega)]
theorem implRels_ev (cs : List S79) (rs : List S82) (hr : rs.length ≤ 24) : Ev (fun k => impl_IsValidRecord.l1 k rs (rs.length : Int) 0 cs rs) (relsB cs rs) := by
  have h := ev_all0 (L := fun k i => impl_IsValidRecord.l1 k rs (rs.length : Int) i cs rs) rs.length (fun i => decide (RelP cs rs i)) false true (fun _ => Ev.step (fun k => rfl) (ev_neg (by omega) (ev_now rfl))) ?h1 ?h2
  case h1 =>
    intro i hi _ hc y hy
    obtain ⟨c1, c2, c3, c4⟩ := of_decide_eq_true hc
    refine Ev.step (fun k => rfl) (ev_pos (by omega) (ev_pos (by omega) (ev_pos (by omega) (ev_neg c1 (ev_bind0 (indexOf_eq _ _ _) (ev_neg (by omega) (ev_bind0 (indexOf_eq _ _ _) (Ev.step (fun k => rfl) (ev_neg (by rw [decide_eq_true_eq]; omega) ?_)))))))))
    rw [wrap_succ hi (by omega)]
    rcases Nat.eq_zero_or_pos i with h0 | h0
    · exact ev_neg (by omega) hy
    · rw [wrap_pred h0 (by omega)]
      obtain ⟨c, hv, hcc⟩ := compareRel_ev (rd_T82 rs ((i - 1 : Nat) : Int)) (rd_T82 rs i)
      exact ev_pos (by omega) (ev_pos (by omega) (ev_pos (by omega) (Ev.bind hv (ev_neg (fun e => hcc.1 e (c4 h0)) hy))))
  case h2 =>
    intro i hi _ hc
    have hc' := of_decide_eq_false hc
    refine Ev.step (fun k => rfl) (ev_pos (by omega) (ev_pos (by omega) (ev_pos (by omega) (ev_ite (fun _ => Ev.step (fun k => rfl) (ev_now rfl)) (fun c1 => ev_bind0 (indexOf_eq _ _ _) (ev_ite (fun _ => Ev.step (fun k => rfl) (ev_now rfl)) (fun c2 => ev_bind0 (indexOf_eq _ _ _) (Ev.step (fun k => rfl) (ev_ite (fun _ => ev_now rfl) (fun c3 => ?_))))))))))
    rw [decide_eq_true_eq] at c3
    rcases Nat.eq_zero_or_pos i with h0 | h0
    · exact absurd ⟨c1, by omega, by omega, fun h => by omega⟩ hc'
    · rw [wrap_pred h0 (by omega)]
      obtain ⟨c, hv, hcc⟩ := compareRel_ev (rd_T82 rs ((i - 1 : Nat) : Int)) (rd_T82 rs i)
      exact ev_pos (by omega) (ev_pos (by omega) (ev_pos (by omega) (Ev.bind hv (ev_pos (hcc.2 (fun e => hc' ⟨c1, by omega, by omega, fun _ => e⟩)) (ev_now rfl)))))
  refine ev_cast h ?_
  unfold relsB
  cases (List.range rs.length).all (fun i => decide (RelP cs rs i)) <;> rfl
theorem specRels_ev (cs : List S79) (rs : List S82) (hcl : cs.length ≤ 10) (hr : rs.length ≤ 24) : Ev (fun k => spec_l2Good.l1 k 0 cs rs) (relsB cs rs) := by
  have hf : ∀ n, Ev (fun k => spec_l2Find.f k cs rs n) (findC cs n) := fun n => l2Find_ev cs rs n (by omega)
  have h := ev_all0 (L := fun k i => spec_l2Good.l1 k i cs rs) rs.length (fun i => decide (RelP cs rs i)) false true (fun _ => Ev.step (fun k => rfl) (ev_neg (by omega) (ev_now rfl))) ?h1 ?h2
  case h1 =>
    intro i hi _ hc y hy
    obtain ⟨c1, c2, c3, c4⟩ := of_decide_eq_true hc
    refine Ev.step (fun k => rfl) (ev_pos (by omega) (ev_pos (by omega) (ev_neg c1 (Ev.bind (hf _) (ev_neg (by omega) (Ev.bind (hf _) (ev_neg (by omega) ?_)))))))
    rw [wrap_succ hi (by omega)]
    rcases Nat.eq_zero_or_pos i with h0 | h0
    · exact ev_neg (by omega) hy
    · rw [wrap_pred h0 (by omega)]
      exact ev_pos (by omega) (ev_pos (by omega) (ev_pos (by omega) (ev_bind0 (before_eq _ _) (ev_pos (decide_eq_true (c4 h0)) hy))))
  case h2 =>
    intro i hi _ hc
    have hc' := of_decide_eq_false hc
    refine Ev.step (fun k => rfl) (ev_pos (by omega) (ev_pos (by omega) (ev_ite (fun _ => ev_now rfl) (fun c1 => Ev.bind (hf _) (ev_ite (fun _ => ev_now rfl) (fun c2 => Ev.bind (hf _) (ev_ite (fun _ => ev_now rfl) (fun c3 => ?_))))))))
    rcases Nat.eq_zero_or_pos i with h0 | h0
    · exact absurd ⟨c1, by omega, by omega, fun h => by omega⟩ hc'
    · rw [wrap_pred h0 (by omega)]
      exact ev_pos (by omega) (ev_pos (by omega) (ev_pos (by omega) (ev_bind0 (before_eq _ _) (ev_neg (fun e => hc' ⟨c1, by omega, by omega, fun _ => of_decide_eq_true e⟩) (ev_now rfl)))))
  refine ev_cast h ?_
  unfold relsB
  cases (List.range rs.length).all (fun i => decide (RelP cs rs i)) <;> rfl
theorem implRecord_ev (cs : List S79) (rs : List S82) : Ev (fun k => impl_IsValidRecord.f k cs rs) (recOk cs rs) := by
  unfold impl_IsValidRecord.f recOk
  refine ev_ite (fun c => ?_) (fun c => Ev.step (fun k => rfl) (ev_ite (fun d => ev_now ?_) (fun d => ?_)))
  · rw [decide_eq_false (by omega), Bool.false_and]
    exact Ev.step (fun k => rfl) (ev_now rfl)
  · rw [decide_eq_true_eq] at d
    rw [decide_eq_false (by omega), Bool.false_and]
  rw [decide_eq_true_eq] at d
  rw [decide_eq_true (by omega), Bool.true_and]
  have h := ev_all0 (L := fun k i => impl_IsValidRecord.l0 k cs (cs.length : Int) i cs rs) cs.length (fun i => decide (CtxP cs i)) false (relsB cs rs) (fun _ => Ev.step (fun k => rfl) (ev_neg (by omega) (implRels_ev cs rs (by omega)))) ?h1 ?h2
  case h1 =>
    intro i hi _ hc y hy
    obtain ⟨c1, c2, c3⟩ := of_decide_eq_true hc
    refine Ev.step (fun k => rfl) (ev_pos (by omega) (ev_pos (by omega) (ev_pos (by omega) (ev_bind0 (isNumber_eq _) (ev_pos (decide_eq_true c1) (ev_bind0 (isKind_eq _) (ev_pos (decide_eq_true c2) ?_)))))))
    rw [wrap_succ hi (by omega)]
    rcases Nat.eq_zero_or_pos i with h0 | h0
    · exact ev_neg (by omega) hy
    · rw [wrap_pred h0 (by omega)]
      exact ev_pos (by omega) (ev_pos (by omega) (ev_pos (by omega) (ev_neg (by have := c3 h0; omega) hy)))
  case h2 =>
    intro i hi _ hc
    have hc' := of_decide_eq_false hc
    refine Ev.step (fun k => rfl) (ev_pos (by omega) (ev_pos (by omega) (ev_pos (by omega) (ev_bind0 (isNumber_eq _) (ev_ite (fun c1 => ev_bind0 (isKind_eq _) (ev_ite (fun c2 => ?_) (fun _ => ev_now rfl))) (fun _ => ev_now rfl))))))
    rcases Nat.eq_zero_or_pos i with h0 | h0
    · exact absurd ⟨of_decide_eq_true c1, of_decide_eq_true c2, fun h => by omega⟩ hc'
    · rw [wrap_pred h0 (by omega)]
      exact ev_pos (by omega) (ev_pos (by omega) (ev_pos (by omega) (ev_pos (Classical.byContradiction fun e => hc' ⟨of_decide_eq_true c1, of_decide_eq_true c2, fun _ => by omega⟩) (ev_now rfl))))
  refine ev_cast h ?_
  cases (List.range cs.length).all (fun i => decide (CtxP cs i)) <;> simp
theorem specRecord_ev (cs : List S79) (rs : List S82) : Ev (fun k => spec_l2Good.f k cs rs) (recOk cs rs) := by
  unfold spec_l2Good.f recOk
  refine ev_ite (fun c => ?_) (fun c => Ev.step (fun k => rfl) (ev_ite (fun d => ev_now ?_) (fun d => ?_)))
  · rw [decide_eq_false (by omega), Bool.false_and]
    exact Ev.step (fun k => rfl) (ev_now rfl)
  · rw [decide_eq_true_eq] at d
    rw [decide_eq_false (by omega), Bool.false_and]
  rw [decide_eq_true_eq] at d
  rw [decide_eq_true (by omega), Bool.true_and]
  have h := ev_all0 (L := fun k i => spec_l2Good.l0 k i cs rs) cs.length (fun i => decide (CtxP cs i)) false (relsB cs rs) (fun _ => Ev.step (fun k => rfl) (ev_neg (by omega) (specRels_ev cs rs (by omega) (by omega)))) ?h1 ?h2
  case h1 =>
    intro i hi _ hc y hy
    obtain ⟨c1, c2, c3⟩ := of_decide_eq_true hc
    refine Ev.step (fun k => rfl) (ev_pos (by omega) (ev_pos (by omega) (ev_bind0 (specIn_eq _ _ _) (ev_pos (decide_eq_true c1) (ev_bind0 (specIn_eq _ _ _) (ev_pos (decide_eq_true c2) ?_))))))
    rw [wrap_succ hi (by omega)]
    rcases Nat.eq_zero_or_pos i with h0 | h0
    · exact ev_neg (by omega) hy
    · rw [wrap_pred h0 (by omega)]
      exact ev_pos (by omega) (ev_pos (by omega) (ev_pos (by omega) (ev_neg (by have := c3 h0; omega) hy)))
  case h2 =>
    intro i hi _ hc
    have hc' := of_decide_eq_false hc
    refine Ev.step (fun k => rfl) (ev_pos (by omega) (ev_pos (by omega) (ev_bind0 (specIn_eq _ _ _) (ev_ite (fun c1 => ev_bind0 (specIn_eq _ _ _) (ev_ite (fun c2 => ?_) (fun _ => ev_now rfl))) (fun _ => ev_now rfl)))))
    rcases Nat.eq_zero_or_pos i with h0 | h0
    · exact absurd ⟨of_decide_eq_true c1, of_decide_eq_true c2, fun h => by omega⟩ hc'
    · rw [wrap_pred h0 (by omega)]
      exact ev_pos (by omega) (ev_pos (by omega) (ev_pos (by omega) (ev_pos (Classical.byContradiction fun e => hc' ⟨of_decide_eq_true c1, of_decide_eq_true c2, fun _ => by omega⟩) (ev_now rfl))))
  refine ev_cast h ?_
  cases (List.range cs.length).all (fun i => decide (CtxP cs i)) <;> simp
end Go.Proofs.YtogjjcjnnclghaaGreatDoor.X
set_option linter.unusedVariables false
set_option linter.unusedSimpArgs false
namespace Go.Proofs.YtogjjcjnnclghaaGreatDoor.X
open Go.RowKit Go.Proofs.YtogjjcjnnclghaaGreatDoorW.PrintWords Go.Proofs.YtogjjcjnnclghaaGreatDoor.E
def numB (n : Int) : ByteArray := ⟨(Lib.itoa n).toArray⟩
def decB (u : Nat) : ByteArray := ⟨(Lib.decDigits u).toArray⟩
theorem digit_fin : ∀ i : Fin 10, (⟨#[48, 49, 50, 51, 52, 53, 54, 55, 56, 57]⟩ : ByteArray).extract i.val (i.val + 1) = ⟨#[UInt8.ofNat (48 + i.val)]⟩ := by decide +kernel
theorem digit_at (i : Int) (j : Int) (h0 : 0 ≤ i) (h1 : i < 10) (hj : j = i + 1) : (⟨#[48, 49, 50, 51, 52, 53, 54, 55, 56, 57]⟩ : ByteArray).extract i.toNat j.toNat = ⟨#[UInt8.ofNat (48 + i.toNat)]⟩ := by
  rw [show j.toNat = i.toNat + 1 by omega]
  exact digit_fin ⟨i.toNat, by omega⟩
theorem ba_append (l m : List UInt8) : (⟨l.toArray⟩ : ByteArray) ++ (⟨m.toArray⟩ : ByteArray) = ⟨(l ++ m).toArray⟩ := by
  apply ByteArray.ext
  rw [ByteArray.data_append]
  simp
theorem ba_size (l : List UInt8) : (⟨l.toArray⟩ : ByteArray).size = l.length := rfl
theorem decB_size (u : Nat) (h : u < 18446744073709551616) : (decB u).size ≤ 20 := by
  unfold decB
  rw [ba_size, Lib.decDigits_length]
  exact Lib.nDigits_le20 u h
theorem numB_size (n : Int) (h0 : -9223372036854775808 ≤ n) (h1 : n ≤ 9223372036854775807) : (numB n).size ≤ 21 := by
  unfold numB
  rw [ba_size]
  exact Lib.itoa_length_le n h0 h1
theorem l1Num_nat : ∀ (u : Nat), u ≤ 9223372036854775807 → Ev (fun k => spec_l1Num.f k (u : Int)) (decB u) := by
  intro u
  induction u using Nat.strongRecOn with
  | _ u ih =>
    intro hu
    refine Ev.step (fun k => rfl) (ev_neg (by omega) ?_)
    by_cases h : u < 10
    · have hw : wrap64 ((u : Int) + 1) = (u : Int) + 1 := wrap_id (by omega) (by omega)
      rw [hw]
      refine ev_pos (by omega) (ev_pos (by omega) (ev_pos (by omega) (ev_pos (by omega) (ev_now ?_))))
      rw [digit_at (u : Int) _ (by omega) (by omega) rfl]
      unfold decB
      rw [Lib.decDigits, dif_pos h, Int.toNat_natCast]
    · refine ev_neg (by omega) ?_
      have hd : Int.tdiv (u : Int) 10 = ((u / 10 : Nat) : Int) := by rw [Int.tdiv_eq_ediv_of_nonneg (by omega)]; omega
      have hm : Int.tmod (u : Int) 10 = ((u % 10 : Nat) : Int) := by rw [Int.tmod_eq_emod_of_nonneg (by omega)]; omega
      have hw : wrap64 ((u / 10 : Nat) : Int) = ((u / 10 : Nat) : Int) := wrap_id (by omega) (by omega)
      have hw2 : wrap64 (((u % 10 : Nat) : Int) + 1) = ((u % 10 : Nat) : Int) + 1 := wrap_id (by omega) (by omega)
      rw [hd, hw, hm, hw2]
      refine Ev.bind (ih (u / 10) (by omega) (by omega)) ?_
      rw [digit_at ((u % 10 : Nat) : Int) _ (by omega) (by omega) rfl]
      have hs := decB_size (u / 10) (by omega)
      have h1 : (⟨#[UInt8.ofNat (48 + ((u % 10 : Nat) : Int).toNat)]⟩ : ByteArray).size = 1 := rfl
      refine ev_pos (by omega) (ev_pos (by omega) (ev_pos (by omega) (ev_pos (by omega) (ev_now ?_))))
      unfold decB
      rw [show (⟨#[UInt8.ofNat (48 + ((u % 10 : Nat) : Int).toNat)]⟩ : ByteArray) = ⟨[UInt8.ofNat (48 + u % 10)].toArray⟩ by rw [Int.toNat_natCast], ba_append]
      conv => rhs; rw [Lib.decDigits, dif_neg h]
theorem l1Num_ev (n : Int) (h0 : -9223372036854775807 ≤ n) (h1 : n ≤ 9223372036854775807) : Ev (fun k => spec_l1Num.f k n) (numB n) := by
  by_cases hn : n < 0
  · have hw : wrap64 (-n) = ((n.natAbs : Nat) : Int) := by rw [wrap_id (by omega) (by omega)]; omega
    refine Ev.step (fun k => rfl) (ev_pos hn ?_)
    rw [hw]
    have hs := decB_size n.natAbs (by omega)
    refine Ev.bind (l1Num_nat _ (by omega)) (ev_pos (by omega) (ev_now ?_))
    unfold numB decB
    rw [show (⟨#[45]⟩ : ByteArray) = ⟨[45].toArray⟩ from rfl, ba_append, Lib.itoa, if_pos hn]
    rfl
  · obtain ⟨u, rfl⟩ : ∃ u : Nat, n = u := ⟨n.toNat, by omega⟩
    refine ev_cast (l1Num_nat u (by omega)) ?_
    unfold numB decB
    rw [Lib.itoa, if_neg hn, Int.toNat_natCast]
end Go.Proofs.YtogjjcjnnclghaaGreatDoor.X
set_option linter.unusedVariables false
set_option linter.unusedSimpArgs false
namespace Go.Proofs.YtogjjcjnnclghaaGreatDoor.X
open Go.RowKit Go.Proofs.YtogjjcjnnclghaaGreatDoorW.PrintWords Go.Proofs.YtogjjcjnnclghaaGreatDoor.E
theorem l1In_eq (a l h : Int) : spec_l1In.f a l h = some (decide (l ≤ a ∧ a ≤ h)) := by
  unfold spec_l1In.f
  by_cases h1 : a ≥ l
  · rw [if_pos h1]; congr 1; simp [h1]
  · rw [if_neg h1]; congr 1; symm; simp; intro h2; omega
theorem within_eq (a l h : Int) : impl_within.f a l h = some (decide (l ≤ a ∧ a ≤ h)) := by
  unfold impl_within.f
  by_cases h1 : a ≥ l
  · rw [if_pos h1]; congr 1; simp [h1]
  · rw [if_neg h1]; congr 1; symm; simp; intro h2; omega
def logAt (s : ByteArray) (i : Nat) : Bool := decide (32 ≤ bt s i ∧ bt s i ≤ 126 ∧ bt s i ≠ 35)
def logB (s : ByteArray) : Bool := (List.range s.size).all (logAt s)
def hasB (s : ByteArray) (c : Int) : Bool := !((List.range s.size).all (fun i => decide (bt s i ≠ c)))
theorem isLogText_ev (s : ByteArray) (hs : s.size ≤ 9223372036854775807) : Ev (fun k => impl_isLogText.f k s) (logB s) := by
  have h := ev_all0 (L := fun k i => impl_isLogText.l0 k s (s.size : Int) i) s.size (logAt s) false true (fun _ => Ev.step (fun k => rfl) (ev_neg (by omega) (ev_now rfl))) ?h1 ?h2
  case h1 =>
    intro i hi _ hc y hy
    simp only [logAt, decide_eq_true_eq] at hc
    refine Ev.step (fun k => rfl) (ev_pos (by omega) (ev_pos (by omega) (ev_pos (by omega) ?_)))
    rw [wrap_succ hi hs]
    exact ev_neg (by omega) (ev_neg (by omega) (ev_neg (by omega) hy))
  case h2 =>
    intro i hi _ hc
    simp only [logAt, decide_eq_false_iff_not] at hc
    refine Ev.step (fun k => rfl) (ev_pos (by omega) (ev_pos (by omega) (ev_pos (by omega) ?_)))
    refine ev_ite (fun _ => ev_now rfl) (fun _ => ev_ite (fun _ => ev_now rfl) (fun _ => ev_ite (fun _ => ev_now rfl) (fun _ => ?_)))
    exfalso; omega
  refine ev_cast h ?_
  unfold logB
  cases (List.range s.size).all (logAt s) <;> rfl
theorem l27Plain_ev (s : ByteArray) (hs : s.size ≤ 9223372036854775807) (n : Int) : Ev (fun k => spec_l27Plain.f k s n) (logB s && decide ((s.size : Int) ≤ n)) := by
  have hw : ∀ i : Nat, wrap64 (bt s i) = bt s i := fun i => wrap_id (by have := bt_range s i; omega) (by have := bt_range s i; omega)
  have h := ev_all0 (L := fun k i => spec_l27Plain.l0 k s n i) s.size (logAt s) false (decide ((s.size : Int) ≤ n)) (fun _ => Ev.step (fun k => rfl) (ev_neg (by omega) (ev_now rfl))) ?h1 ?h2
  case h1 =>
    intro i hi _ hc y hy
    simp only [logAt, decide_eq_true_eq] at hc
    refine Ev.step (fun k => rfl) (ev_pos (by omega) (ev_pos (by omega) ?_))
    rw [wrap_succ hi hs, hw]
    refine ev_bind0 (l1In_eq _ _ _) ?_
    exact ev_pos (decide_eq_true (by omega)) (ev_neg (by omega) hy)
  case h2 =>
    intro i hi _ hc
    simp only [logAt, decide_eq_false_iff_not] at hc
    refine Ev.step (fun k => rfl) (ev_pos (by omega) (ev_pos (by omega) ?_))
    rw [hw]
    refine ev_bind0 (l1In_eq _ _ _) ?_
    refine ev_ite (fun c => ?_) (fun _ => ev_now rfl)
    have c' := of_decide_eq_true c
    exact ev_pos (by omega) (ev_now rfl)
  refine ev_cast h ?_
  unfold logB
  cases (List.range s.size).all (logAt s) <;> simp
theorem l1Stands_ev (s : ByteArray) (hs : s.size ≤ 9223372036854775807) (c : Int) : Ev (fun k => spec_l1Stands.f k s c) (hasB s c) := by
  have h := ev_all0 (L := fun k i => spec_l1Stands.l0 k s c i) s.size (fun i => decide (bt s i ≠ c)) true false (fun _ => Ev.step (fun k => rfl) (ev_neg (by omega) (ev_now rfl))) ?h1 ?h2
  case h1 =>
    intro i hi _ hc y hy
    have hc' := of_decide_eq_true hc
    refine Ev.step (fun k => rfl) (ev_pos (by omega) (ev_pos (by omega) ?_))
    rw [wrap_succ hi hs]
    exact ev_neg hc' hy
  case h2 =>
    intro i hi _ hc
    have hc' := of_decide_eq_false hc
    refine Ev.step (fun k => rfl) (ev_pos (by omega) (ev_pos (by omega) ?_))
    exact ev_pos (by omega) (ev_now rfl)
  refine ev_cast h ?_
  unfold hasB
  cases (List.range s.size).all (fun i => decide (bt s i ≠ c)) <;> rfl
theorem bt_get (s : ByteArray) (i : Nat) (h : i < s.data.toList.length) : bt s i = ((s.data.toList[i]).toNat : Int) := by
  have h' : i < s.size := by rw [Array.length_toList] at h; exact h
  unfold bt
  rw [dif_pos (by rw [Int.toNat_natCast]; exact h')]
  simp only [Int.toNat_natCast]
  rfl
theorem contains_at (s : ByteArray) : strings_Contains.f s (⟨#[64]⟩ : ByteArray) = some (hasB s 64) := by
  show some (decide (0 ≤ Lib.indexByte s.data.toList 64)) = some (hasB s 64)
  rw [← Lib.contains_iff_indexByte]
  congr 1
  have hl : s.data.toList.length = s.size := by rw [Array.length_toList]; rfl
  rw [Bool.eq_iff_iff, List.contains_iff_mem]
  unfold hasB
  rw [Bool.not_eq_true', Bool.eq_false_iff, Ne, all_range]
  constructor
  · intro hm hall
    obtain ⟨i, hi, e⟩ := List.getElem_of_mem hm
    have := of_decide_eq_true (hall i (by omega))
    rw [bt_get s i hi, e] at this
    exact this rfl
  · intro hn
    refine Classical.byContradiction fun hm => hn fun i hi => decide_eq_true fun e => hm ?_
    have hi' : i < s.data.toList.length := by omega
    rw [bt_get s i hi'] at e
    have e2 : s.data.toList[i] = 64 := UInt8.toNat_inj.1 (by have : (s.data.toList[i]).toNat = 64 := by omega
                                                             rw [this]; rfl)
    exact e2 ▸ List.getElem_mem hi'
theorem empty_iff (s : ByteArray) : s.data.toList = [] ↔ s.size = 0 := by
  have hl : s.data.toList.length = s.size := by rw [Array.length_toList]; rfl
  rw [← hl, List.length_eq_zero_iff]
def cmdB (s : ByteArray) : Bool := decide (1 ≤ (s.size : Int) ∧ (s.size : Int) ≤ 160) && logB s && !(hasB s 64)
def recB (s r : ByteArray) : Bool := cmdB s && (logB r && decide ((r.size : Int) ≤ 200))
theorem isCommand_ev (s : ByteArray) (hs : s.size ≤ 9223372036854775807) : Ev (fun k => impl_isCommand.f k s) (cmdB s) := by
  unfold impl_isCommand.f cmdB
  refine ev_bind0 (within_eq _ _ _) ?_
  refine ev_ite (fun c => ?_) (fun c => ev_now ?_)
  case refine_2 => rw [Bool.not_eq_true] at c; rw [c]; rfl
  rw [c]
  refine Ev.bind (isLogText_ev s hs) ?_
  refine ev_ite (fun c => ?_) (fun c => ev_now ?_)
  case refine_2 => rw [Bool.not_eq_true] at c; rw [c]; rfl
  rw [c]
  exact ev_bind0 (contains_at s) (ev_now (by simp))
theorem implRec_ev (s r : ByteArray) (hs : s.size ≤ 9223372036854775807) (hr : r.size ≤ 9223372036854775807) : Ev (fun k => impl_IsValidLogRecord.f k s r) (recB s r) := by
  unfold impl_IsValidLogRecord.f recB
  refine Ev.bind (isCommand_ev s hs) ?_
  refine ev_ite (fun c => ?_) (fun c => ev_now ?_)
  case refine_2 => rw [Bool.not_eq_true] at c; rw [c]; rfl
  rw [c]
  refine ev_ite (fun c => ?_) (fun c => ev_now ?_)
  case refine_2 => rw [decide_eq_false c]; simp
  rw [decide_eq_true c]
  exact Ev.bind (isLogText_ev r hr) (ev_now (by simp))
theorem goodRec_ev (s r : ByteArray) (hs : s.size ≤ 9223372036854775807) (hr : r.size ≤ 9223372036854775807) : Ev (fun k => spec_l27Good.f k s r) (recB s r) := by
  unfold spec_l27Good.f recB cmdB
  refine ev_ite (fun c => ev_now ?_) (fun c => ?_)
  case refine_1 =>
    have c : s.size = 0 := (empty_iff s).1 (by rw [← ByteArray.toList_eq]; exact c)
    rw [decide_eq_false (by omega)]; rfl
  have c : 1 ≤ s.size := by
    rcases Nat.eq_zero_or_pos s.size with e | e
    · exact absurd (by rw [ByteArray.toList_eq]; exact (empty_iff s).2 e) c
    · exact e
  refine Ev.bind (l27Plain_ev s hs 160) ?_
  refine ev_ite (fun c => ?_) (fun c => ev_now ?_)
  case refine_2 =>
    have e : decide (1 ≤ (s.size : Int) ∧ (s.size : Int) ≤ 160) = decide ((s.size : Int) ≤ 160) := by rw [decide_eq_decide]; omega
    rw [e]
    revert c
    cases logB s <;> cases decide ((s.size : Int) ≤ 160) <;> simp
  rw [Bool.and_eq_true] at c
  have c2 := of_decide_eq_true c.2
  rw [c.1, decide_eq_true (show 1 ≤ (s.size : Int) ∧ (s.size : Int) ≤ 160 by omega)]
  refine Ev.bind (l1Stands_ev s hs 64) ?_
  refine ev_ite (fun c => ev_now ?_) (fun c => ?_)
  case refine_1 => rw [c]; rfl
  rw [Bool.not_eq_true] at c; rw [c]
  exact Ev.bind (l27Plain_ev r hr 200) (ev_now (by simp))
end Go.Proofs.YtogjjcjnnclghaaGreatDoor.X
set_option linter.unusedVariables false
set_option linter.unusedSimpArgs false
namespace Go.Proofs.YtogjjcjnnclghaaGreatDoor.X
open Go.RowKit Go.Proofs.YtogjjcjnnclghaaGreatDoorW.PrintWords Go.Proofs.YtogjjcjnnclghaaGreatDoor.E
theorem Itoa_eq (n : Int) (h0 : -9223372036854775808 ≤ n) (h1 : n ≤ 9223372036854775807) : strconv_Itoa.f n = some (numB n) := by unfold strconv_Itoa.f; rw [if_pos ⟨h0, h1⟩]; rfl
def sumStep (s : ByteArray) (h : Int) (i : Nat) : Int := Int.tmod (wrap64 ((wrap64 ((wrap64 (41 * h)) + (wrap64 (bt s i)))) + 1)) 999979
def sumB (s : ByteArray) : Int := (List.range s.size).foldl (sumStep s) 7
theorem sumStep_in (s : ByteArray) (h : Int) (i : Nat) (h0 : 0 ≤ h ∧ h < 999979) : 0 ≤ sumStep s h i ∧ sumStep s h i < 999979 := by
  have hb := bt_range s i
  have e1 : wrap64 (41 * h) = 41 * h := wrap_id (by omega) (by omega)
  have e2 : wrap64 (bt s i) = bt s i := wrap_id (by omega) (by omega)
  have e3 : wrap64 (41 * h + bt s i) = 41 * h + bt s i := wrap_id (by omega) (by omega)
  have e4 : wrap64 (41 * h + bt s i + 1) = 41 * h + bt s i + 1 := wrap_id (by omega) (by omega)
  unfold sumStep
  rw [e1, e2, e3, e4, Int.tmod_eq_emod_of_nonneg (by omega)]
  omega
theorem fold_in (s : ByteArray) : ∀ (l : List Nat) (h : Int), 0 ≤ h ∧ h < 999979 → 0 ≤ l.foldl (sumStep s) h ∧ l.foldl (sumStep s) h < 999979
  | [], h, hh => hh
  | i :: l, h, hh => fold_in s l _ (sumStep_in s h i hh)
theorem sumB_in (s : ByteArray) : 0 ≤ sumB s ∧ sumB s < 999979 := fold_in s _ 7 (by omega)
theorem implSum_ev (s : ByteArray) (hs : s.size ≤ 9223372036854775807) : Ev (fun k => impl_checksum.f k s) (sumB s) := by
  have h := ev_scan0 (L := fun k (h : Int) i => impl_checksum.l0 k s h (s.size : Int) i) (G := fun h i (r : List Nat) => r.foldl (sumStep s) h) (fun _ _ _ => True) (List.range s.size) 7 trivial ?h1 ?h2
  case h1 =>
    intro h _
    rw [List.length_range]
    exact Ev.step (fun k => rfl) (ev_neg (by omega) (ev_now rfl))
  case h2 =>
    intro h i x r _ hi hd hg hr
    rw [List.length_range] at hi
    obtain rfl : x = i := by rw [← hg 0, List.getD_eq_getElem?_getD, List.getElem?_range hi]; rfl
    refine Ev.step (fun k => rfl) (ev_pos (by omega) (ev_pos (by omega) (ev_pos (by omega) ?_)))
    rw [wrap_succ hi hs]
    exact hr (sumStep s h x) trivial
  exact h
theorem specSum_ev (s : ByteArray) (hs : s.size ≤ 9223372036854775807) : Ev (fun k => spec_l1Sum.f k s) (sumB s) := by
  have h := ev_scan0 (L := fun k (h : Int) i => spec_l1Sum.l0 k s h i) (G := fun h i (r : List Nat) => r.foldl (sumStep s) h) (fun _ _ _ => True) (List.range s.size) 7 trivial ?h1 ?h2
  case h1 =>
    intro h _
    rw [List.length_range]
    exact Ev.step (fun k => rfl) (ev_neg (by omega) (ev_now rfl))
  case h2 =>
    intro h i x r _ hi hd hg hr
    rw [List.length_range] at hi
    obtain rfl : x = i := by rw [← hg 0, List.getD_eq_getElem?_getD, List.getElem?_range hi]; rfl
    refine Ev.step (fun k => rfl) (ev_pos (by omega) (ev_pos (by omega) ?_))
    rw [wrap_succ hi hs]
    exact hr (sumStep s h x) trivial
  exact h
theorem szl (c : UInt8) : (⟨#[c]⟩ : ByteArray).size = 1 := rfl
def sealB (x : ByteArray) : ByteArray := (x ++ (⟨#[35]⟩ : ByteArray)) ++ numB (sumB x)
theorem sum_size (x : ByteArray) : (numB (sumB x)).size ≤ 21 := by have := sumB_in x; exact numB_size _ (by omega) (by omega)
theorem l1Seal_ev (x : ByteArray) (hx : x.size ≤ 4611686018427387904) : Ev (fun k => spec_l1Seal.f k x) (sealB x) := by
  unfold spec_l1Seal.f sealB
  have h1 := sumB_in x
  have h2 := sum_size x
  exact ev_pos (by omega) (Ev.bind (specSum_ev x (by omega)) (Ev.bind (l1Num_ev _ (by omega) (by omega)) (ev_pos (by simp only [ByteArray.size_append, szl]; omega) (ev_now rfl))))
theorem contains35 (s : ByteArray) : strings_Contains.f s (⟨#[35]⟩ : ByteArray) = some (s.data.toList.contains 35) := by
  show some (decide (0 ≤ Lib.indexByte s.data.toList 35)) = _
  rw [← Lib.contains_iff_indexByte]
def appB (x : ByteArray) : ByteArray × Bool := if (decide ((x.size : Int) > 4000) || x.data.toList.contains 35) = true then (⟨#[]⟩, false) else if ((sealB x).size : Int) > 4000 then (⟨#[]⟩, false) else (sealB x, true)
theorem appendChecksum_ev (x : ByteArray) (hx : x.size ≤ 4611686018427387904) : Ev (fun k => impl_AppendChecksum.f k x) (appB x) := by
  have stop : ∀ b : Bool, b = (decide ((x.size : Int) > 4000) || x.data.toList.contains 35) → Ev (fun k => impl_AppendChecksum.j0 k x b) (appB x) := by
    intro b hb
    refine Ev.step (fun k => rfl) (ev_ite (fun c => ev_now ?_) (fun c => ?_))
    · unfold appB; rw [← hb, if_pos c]
    unfold appB
    rw [← hb, if_neg c]
    have h1 := sumB_in x
    have h2 := sum_size x
    refine ev_pos (by omega) (Ev.bind (implSum_ev x (by omega)) (ev_bind0 (Itoa_eq _ (by omega) (by omega)) (ev_pos (by simp only [ByteArray.size_append, szl]; omega) ?_)))
    refine ev_ite (fun c => ev_now ?_) (fun c => ev_now ?_)
    · exact (if_pos c).symm
    · exact (if_neg c).symm
  unfold impl_AppendChecksum.f
  refine ev_ite (fun c => stop _ ?_) (fun c => ?_)
  · rw [decide_eq_true c]; rfl
  · refine ev_bind0 (contains35 x) (stop _ ?_)
    rw [decide_eq_false c]; rfl
def lineB (k : Int) (s r : ByteArray) : ByteArray := (((numB k ++ (⟨#[32]⟩ : ByteArray)) ++ s) ++ (⟨#[64]⟩ : ByteArray)) ++ r
theorem num_no35 (k : Int) (h0 : 0 ≤ k) (h1 : k ≤ 59) : (35 : UInt8) ∉ (numB k).data.toList := by
  have d10 : ∀ i : Fin 10, (35 : UInt8) ≠ UInt8.ofNat (48 + i.val) := by decide
  unfold numB
  obtain ⟨u, rfl⟩ : ∃ u : Nat, k = u := ⟨k.toNat, by omega⟩
  rw [Lib.itoa, if_neg (by omega), Int.toNat_natCast]
  by_cases hu : u < 10
  · rw [Lib.decDigits_one hu]
    simpa using d10 ⟨u, hu⟩
  · rw [Lib.decDigits_two hu (by omega)]
    have a := d10 ⟨u / 10, by omega⟩
    have b := d10 ⟨u % 10, by omega⟩
    intro hm
    have hm : (35 : UInt8) ∈ [UInt8.ofNat (48 + u / 10), UInt8.ofNat (48 + u % 10)] := hm
    rcases List.mem_cons.1 hm with h | h
    · exact a h
    · exact b (List.mem_singleton.1 h)
theorem log_no35 (s : ByteArray) (h : logB s = true) : (35 : UInt8) ∉ s.data.toList := by
  intro hm
  obtain ⟨i, hi, e⟩ := List.getElem_of_mem hm
  have hl : s.data.toList.length = s.size := by rw [Array.length_toList]; rfl
  have := all_range.1 h i (by omega)
  simp only [logAt, decide_eq_true_eq] at this
  rw [bt_get s i hi, e] at this
  exact this.2.2 rfl
theorem line_no35 (k : Int) (s r : ByteArray) (h0 : 0 ≤ k) (h1 : k ≤ 59) (hs : logB s = true) (hr : logB r = true) : (lineB k s r).data.toList.contains 35 = false := by
  rw [Bool.eq_false_iff, Ne, List.contains_iff_mem]
  unfold lineB
  simp only [ByteArray.data_append, Array.toList_append, List.mem_append]
  have a := num_no35 k h0 h1
  have b := log_no35 s hs
  have c := log_no35 r hr
  rintro ((((h | h) | h) | h) | h)
  · exact a h
  · revert h; decide
  · exact b h
  · revert h; decide
  · exact c h
def encOk (k : Int) (s r : ByteArray) : Bool := decide (0 ≤ k ∧ k ≤ 59) && recB s r
def encE (k : Int) (s r : ByteArray) : ByteArray × Bool := if encOk k s r = true then (sealB (lineB k s r) ++ (⟨#[10]⟩ : ByteArray), true) else (⟨#[]⟩, false)
theorem recB_iff {s r : ByteArray} (h : recB s r = true) : (1 ≤ s.size ∧ s.size ≤ 160) ∧ logB s = true ∧ logB r = true ∧ r.size ≤ 200 := by
  unfold recB cmdB at h
  simp only [Bool.and_eq_true, decide_eq_true_eq] at h
  obtain ⟨⟨⟨h1, h2⟩, _⟩, h3, h4⟩ := h
  exact ⟨by omega, h2, h3, by omega⟩
theorem line_size (k : Int) (s r : ByteArray) (h0 : 0 ≤ k) (h1 : k ≤ 59) (hs : s.size ≤ 160) (hr : r.size ≤ 200) : (lineB k s r).size ≤ 400 := by
  unfold lineB
  have := numB_size k (by omega) (by omega)
  simp only [ByteArray.size_append, szl]
  omega
theorem l27Line_ev (k : Int) (s r : ByteArray) (h0 : 0 ≤ k) (h1 : k ≤ 59) (hs : s.size ≤ 160) (hr : r.size ≤ 200) : Ev (fun q => spec_l27Line.f q k s r) (sealB (lineB k s r) ++ (⟨#[10]⟩ : ByteArray)) := by
  unfold spec_l27Line.f
  have hn := numB_size k (by omega) (by omega)
  have hl := line_size k s r h0 h1 hs hr
  have h2 := sum_size (lineB k s r)
  refine Ev.bind (l1Num_ev k (by omega) (by omega)) (ev_pos (by omega) (ev_pos (by simp only [ByteArray.size_append, szl]; omega) (ev_pos (by simp only [ByteArray.size_append, szl]; omega) (ev_pos (by simp only [ByteArray.size_append, szl]; omega) (Ev.bind (l1Seal_ev (lineB k s r) (by omega)) (ev_pos ?_ (ev_now rfl)))))))
  unfold sealB
  simp only [ByteArray.size_append, szl]
  omega
theorem app_line (k : Int) (s r : ByteArray) (h0 : 0 ≤ k) (h1 : k ≤ 59) (h : recB s r = true) : appB (lineB k s r) = (sealB (lineB k s r), true) := by
  obtain ⟨hs, hls, hlr, hr⟩ := recB_iff h
  have hl := line_size k s r h0 h1 hs.2 hr
  have h2 := sum_size (lineB k s r)
  unfold appB
  rw [line_no35 k s r h0 h1 hls hlr, decide_eq_false (by omega)]
  rw [if_neg (by simp)]
  refine if_neg ?_
  unfold sealB
  simp only [ByteArray.size_append, szl]
  omega
theorem implEnc_ev (k : Int) (s r : ByteArray) (hs : s.size ≤ 9223372036854775807) (hr : r.size ≤ 9223372036854775807) : Ev (fun q => impl_EncodeRecord.f q k s r) (encE k s r) := by
  have go : ∀ b : Bool, b = !(encOk k s r) → Ev (fun q => impl_EncodeRecord.j0 q k b s r) (encE k s r) := by
    intro b hb
    refine Ev.step (fun k => rfl) (ev_ite (fun c => ev_now ?_) (fun c => ?_))
    · unfold encE; rw [if_neg (by rw [c] at hb; simp at hb; rw [hb]; simp)]
    have hok : encOk k s r = true := by cases h : encOk k s r <;> simp_all
    unfold encE
    rw [if_pos hok]
    unfold encOk at hok
    rw [Bool.and_eq_true] at hok
    obtain ⟨h0, h1⟩ := of_decide_eq_true hok.1
    obtain ⟨hs1, hls, hlr, hr1⟩ := recB_iff hok.2
    have hn := numB_size k (by omega) (by omega)
    have hl := line_size k s r h0 h1 hs1.2 hr1
    have h2 := sum_size (lineB k s r)
    refine ev_bind0 (Itoa_eq k (by omega) (by omega)) (ev_pos (by omega) (ev_pos (by simp only [ByteArray.size_append, szl]; omega) (ev_pos (by simp only [ByteArray.size_append, szl]; omega) (ev_pos (by simp only [ByteArray.size_append, szl]; omega) (Ev.bind (appendChecksum_ev (lineB k s r) (by omega)) ?_)))))
    rw [app_line k s r h0 h1 hok.2]
    refine ev_pos ?_ (ev_now rfl)
    unfold sealB
    simp only [ByteArray.size_append, szl]
    omega
  unfold impl_EncodeRecord.f
  refine ev_bind0 (within_eq _ _ _) ?_
  refine ev_ite (fun c => ?_) (fun c => go _ ?_)
  · refine Ev.bind (implRec_ev s r hs hr) (go _ ?_)
    unfold encOk
    rw [c, Bool.true_and]
  · unfold encOk
    rw [Bool.not_eq_true] at c
    rw [c]; rfl
theorem l27Good_ev (s r : ByteArray) (hs : s.size ≤ 9223372036854775807) (hr : r.size ≤ 9223372036854775807) : Ev (fun k => spec_l27Good.f k s r) (recB s r) := goodRec_ev s r hs hr
end Go.Proofs.YtogjjcjnnclghaaGreatDoor.X
set_option linter.unusedVariables false
set_option linter.unusedSimpArgs false
namespace Go.Proofs.YtogjjcjnnclghaaGreatDoor.X
open Go.RowKit Go.Proofs.YtogjjcjnnclghaaGreatDoorW.PrintWords Go.Proofs.YtogjjcjnnclghaaGreatDoor.E
theorem l_len (s : ByteArray) : s.data.toList.length = s.size := by rw [Array.length_toList]; rfl
theorem ba_list {a b : ByteArray} (h : a.data.toList = b.data.toList) : a = b := ByteArray.ext (Array.toList_inj.1 h)
theorem ba_app (a b : ByteArray) : (a ++ b).data.toList = a.data.toList ++ b.data.toList := by rw [ByteArray.data_append, Array.toList_append]
theorem ba_cut {a a' b b' : ByteArray} (h : a ++ b = a' ++ b') (hs : a.size = a'.size) : a = a' ∧ b = b' := by
  have h1 := congrArg (fun x : ByteArray => x.data.toList) h
  simp only [ba_app] at h1
  obtain ⟨e1, e2⟩ := List.append_inj h1 (by rw [l_len, l_len, hs])
  exact ⟨ba_list e1, ba_list e2⟩
def one (c : UInt8) : ByteArray := ⟨#[c]⟩
def nob (c : UInt8) (a : ByteArray) : Prop := c ∉ a.data.toList
theorem one_size (c : UInt8) : (one c).size = 1 := rfl
theorem one_list (c : UInt8) : (one c).data.toList = [c] := rfl
def cat (a : ByteArray) (c : UInt8) (b : ByteArray) : ByteArray := (a ++ one c) ++ b
theorem cat_size (a : ByteArray) (c : UInt8) (b : ByteArray) : (cat a c b).size = a.size + 1 + b.size := by unfold cat; rw [ByteArray.size_append, ByteArray.size_append, one_size]
theorem cat_list (a : ByteArray) (c : UInt8) (b : ByteArray) : (cat a c b).data.toList = a.data.toList ++ c :: b.data.toList := by unfold cat; rw [ba_app, ba_app, one_list, List.append_assoc]; rfl
theorem split_or (c : UInt8) (x : ByteArray) : nob c x ∨ ∃ a b, x = cat a c b ∧ nob c a := by
  by_cases h : c ∈ x.data.toList
  · obtain ⟨a, b, e, hn⟩ := List.eq_append_cons_of_mem h
    refine Or.inr ⟨⟨a.toArray⟩, ⟨b.toArray⟩, ba_list ?_, hn⟩
    rw [cat_list, e]
  · exact Or.inl h
theorem idx_l0 : ∀ (l : List UInt8) (c : UInt8), c ∉ l → Lib.indexByte l c = -1
  | [], _, _ => rfl
  | b :: l, c, h => by
    have hb : (b == c) = false := by rw [beq_eq_false_iff_ne]; exact fun e => h (e ▸ List.mem_cons_self ..)
    rw [Lib.indexByte, hb, idx_l0 l c (fun m => h (List.mem_cons_of_mem _ m))]
    rfl
theorem idx_l1 : ∀ (l r : List UInt8) (c : UInt8), c ∉ l → Lib.indexByte (l ++ c :: r) c = (l.length : Int)
  | [], r, c, _ => by simp [Lib.indexByte]
  | b :: l, r, c, h => by
    have hb : (b == c) = false := by rw [beq_eq_false_iff_ne]; exact fun e => h (e ▸ List.mem_cons_self ..)
    rw [List.cons_append, Lib.indexByte, hb, idx_l1 l r c (fun m => h (List.mem_cons_of_mem _ m))]
    have : ((l.length : Int) == -1) = false := by rw [beq_eq_false_iff_ne]; omega
    rw [this]
    simp
theorem idx_no {c : UInt8} {x : ByteArray} (h : nob c x) : Lib.indexByte x.data.toList c = -1 := idx_l0 _ _ h
theorem idx_yes {c : UInt8} {a b : ByteArray} (h : nob c a) : Lib.indexByte (cat a c b).data.toList c = (a.size : Int) := by rw [cat_list, idx_l1 _ _ _ h, l_len]
theorem nob_cat {c d : UInt8} {a b : ByteArray} : nob c (cat a d b) ↔ nob c a ∧ c ≠ d ∧ nob c b := by unfold nob; rw [cat_list, List.mem_append, List.mem_cons]; constructor <;> (intro h; simp_all)
theorem split_uniq {c : UInt8} {a a' b b' : ByteArray} (h : cat a c b = cat a' c b') (ha : nob c a) (ha' : nob c a') : a = a' ∧ b = b' := by
  have h1 := idx_yes (b := b) ha
  rw [h, idx_yes ha'] at h1
  have hs : a.size = a'.size := by omega
  unfold cat at h
  have h2 := ba_cut h (by rw [ByteArray.size_append, ByteArray.size_append, hs])
  exact ⟨(ba_cut h2.1 hs).1, h2.2⟩
theorem not_nob (c : UInt8) (a b : ByteArray) : ¬ nob c (cat a c b) := fun h => (nob_cat.1 h).2.1 rfl
theorem cat_left (a : ByteArray) (c : UInt8) (b : ByteArray) : (cat a c b).extract 0 a.size = a := by unfold cat; rw [ByteArray.append_assoc]; exact ByteArray.extract_append_eq_left rfl
theorem cat_right (a : ByteArray) (c : UInt8) (b : ByteArray) : (cat a c b).extract (a.size + 1) (cat a c b).size = b := by
  rw [cat_size]; unfold cat; exact ByteArray.extract_append_eq_right (by rw [ByteArray.size_append, one_size]) (by rw [ByteArray.size_append, one_size])
theorem bt_no {c : UInt8} {x : ByteArray} (h : nob c x) (i : Nat) (hi : i < x.size) : bt x i ≠ (c.toNat : Int) := by
  have hi' : i < x.data.toList.length := by rw [l_len]; exact hi
  rw [bt_get x i hi']
  intro e
  have e2 : x.data.toList[i] = c := UInt8.toNat_inj.1 (by omega)
  exact h (e2 ▸ List.getElem_mem hi')
theorem bt_left {c : UInt8} {a b : ByteArray} (h : nob c a) (i : Nat) (hi : i < a.size) : bt (cat a c b) i ≠ (c.toNat : Int) := by
  have hl := l_len a
  have hi' : i < (cat a c b).data.toList.length := by rw [l_len, cat_size]; omega
  rw [bt_get _ i hi']
  have hh : (cat a c b).data.toList[i] = a.data.toList[i]'(by omega) := by
    have h1 : (cat a c b).data.toList[i]? = a.data.toList[i]? := by rw [cat_list, List.getElem?_append_left (by omega)]
    rw [List.getElem?_eq_getElem hi', List.getElem?_eq_getElem (by omega)] at h1
    exact Option.some.inj h1
  rw [hh]
  intro e
  have e2 : a.data.toList[i]'(by omega) = c := UInt8.toNat_inj.1 (by omega)
  exact h (e2 ▸ List.getElem_mem _)
theorem bt_at (a : ByteArray) (c : UInt8) (b : ByteArray) : bt (cat a c b) a.size = (c.toNat : Int) := by
  have hl := l_len a
  have hi' : a.size < (cat a c b).data.toList.length := by rw [l_len, cat_size]; omega
  rw [bt_get _ _ hi']
  have hh : (cat a c b).data.toList[a.size] = c := by
    have h1 : (cat a c b).data.toList[a.size]? = some c := by rw [cat_list, List.getElem?_append_right (by omega), hl, Nat.sub_self]; rfl
    rw [List.getElem?_eq_getElem hi'] at h1
    exact Option.some.inj h1
  rw [hh]
theorem split_any (x : ByteArray) (c : Int) (hx : x.size < 8796093022208) : ∀ (n i st : Nat) (out : List ByteArray), x.size - i = n → st ≤ i → i ≤ x.size → out.length ≤ st → ∃ y ys, Ev (fun k => spec_l1Split.l0 k x c out (st : Int) (i : Int)) (out ++ y :: ys) := by
  intro n
  induction n with
  | zero =>
    intro i st out hn hs hi ho
    exact ⟨x.extract ((st : Int)).toNat x.size, [], Ev.step (fun k => rfl) (ev_neg (by omega) (ev_pos (by omega) (ev_pos (by omega) (ev_pos (by omega) (ev_now rfl)))))⟩
  | succ n ih =>
    intro i st out hn hs hi ho
    by_cases hc : bt x i = c
    · obtain ⟨y, ys, h⟩ := ih (i + 1) (i + 1) (out ++ [x.extract ((st : Int)).toNat ((i : Int)).toNat]) (by omega) (Nat.le_refl _) (by omega) (by rw [List.length_append, List.length_singleton]; omega)
      refine ⟨x.extract ((st : Int)).toNat ((i : Int)).toNat, y :: ys, Ev.step (fun k => rfl) (ev_pos (by omega) (ev_pos (by omega) (ev_pos hc (ev_pos (by omega) (ev_pos (by omega) (ev_pos (by omega) (ev_pos (by omega) ?_)))))))⟩
      rw [wrap_succ (show i < x.size by omega) (by omega)]
      rw [List.append_assoc] at h
      exact h
    · obtain ⟨y, ys, h⟩ := ih (i + 1) st out (by omega) (by omega) (by omega) ho
      refine ⟨y, ys, Ev.step (fun k => rfl) (ev_pos (by omega) (ev_pos (by omega) (ev_neg hc ?_)))⟩
      rw [wrap_succ (show i < x.size by omega) (by omega)]
      exact h
theorem split_no {c : UInt8} {x : ByteArray} (h : nob c x) (hx : x.size < 8796093022208) (c' : Int) (hc : c' = (c.toNat : Int)) : Ev (fun k => spec_l1Split.f k x c') [x] := by
  have go : ∀ (n i : Nat), x.size - i = n → i ≤ x.size → Ev (fun k => spec_l1Split.l0 k x c' [] ((0 : Nat) : Int) (i : Int)) [x] := by
    intro n
    induction n with
    | zero =>
      intro i hn hi
      refine Ev.step (fun k => rfl) (ev_neg (by omega) (ev_pos (by omega) (ev_pos (by omega) (ev_pos (by simp) (ev_now ?_)))))
      rw [List.nil_append, Int.toNat_natCast, ByteArray.extract_zero_size]
    | succ n ih =>
      intro i hn hi
      refine Ev.step (fun k => rfl) (ev_pos (by omega) (ev_pos (by omega) (ev_neg (by rw [hc]; exact bt_no h i (by omega)) ?_)))
      rw [wrap_succ (show i < x.size by omega) (by omega)]
      exact ih (i + 1) (by omega) (by omega)
  exact go x.size 0 (by omega) (by omega)
theorem split_yes {c : UInt8} {a b : ByteArray} (h : nob c a) (hx : (cat a c b).size < 8796093022208) (c' : Int) (hc : c' = (c.toNat : Int)) : ∃ y ys, Ev (fun k => spec_l1Split.f k (cat a c b) c') (a :: y :: ys) := by
  have hz := cat_size a c b
  obtain ⟨y, ys, hA⟩ := split_any (cat a c b) c' hx ((cat a c b).size - (a.size + 1)) (a.size + 1) (a.size + 1) [a] rfl (Nat.le_refl _) (by omega) (by simp)
  refine ⟨y, ys, ?_⟩
  have go : ∀ (n i : Nat), a.size - i = n → i ≤ a.size → Ev (fun k => spec_l1Split.l0 k (cat a c b) c' [] ((0 : Nat) : Int) (i : Int)) (a :: y :: ys) := by
    intro n
    induction n with
    | zero =>
      intro i hn hi
      obtain rfl : i = a.size := by omega
      refine Ev.step (fun k => rfl) (ev_pos (by omega) (ev_pos (by omega) (ev_pos (by rw [hc]; exact bt_at a c b) (ev_pos (by omega) (ev_pos (by omega) (ev_pos (by omega) (ev_pos (by simp) ?_)))))))
      rw [wrap_succ (show a.size < (cat a c b).size by omega) (by omega), Int.toNat_natCast, Int.toNat_natCast, cat_left]
      exact hA
    | succ n ih =>
      intro i hn hi
      refine Ev.step (fun k => rfl) (ev_pos (by omega) (ev_pos (by omega) (ev_neg (by rw [hc]; exact bt_left h i (by omega)) ?_)))
      rw [wrap_succ (show i < (cat a c b).size by omega) (by omega)]
      exact ih (i + 1) (by omega) (by omega)
  exact go a.size 0 (by omega) (by omega)
theorem cut_no {c : UInt8} {x : ByteArray} (h : nob c x) : strings_Cut.f x (one c) = some (x, (⟨#[]⟩ : ByteArray), false) := by
  have h0 : stringslite_Index.f x (one c) = some (-1) := by show some (Lib.indexByte x.data.toList c) = _; rw [idx_no h]
  have h1 : stringslite_Cut.f x (one c) = some (x, (⟨#[]⟩ : ByteArray), false) := by unfold stringslite_Cut.f; rw [h0]; rfl
  unfold strings_Cut.f; rw [h1]; rfl
theorem cut_yes {c : UInt8} {a b : ByteArray} (h : nob c a) (hx : (cat a c b).size ≤ 4611686018427387904) : strings_Cut.f (cat a c b) (one c) = some (a, b, true) := by
  have hz := cat_size a c b
  have h0 : stringslite_Index.f (cat a c b) (one c) = some (a.size : Int) := by show some (Lib.indexByte (cat a c b).data.toList c) = _; rw [idx_yes h]
  have hw : wrap64 ((a.size : Int) + ((one c).size : Int)) = ((a.size + 1 : Nat) : Int) := by rw [one_size]; exact wrap_succ (show a.size < (cat a c b).size by omega) (by omega)
  have h1 : stringslite_Cut.f (cat a c b) (one c) = some (a, b, true) := by
    unfold stringslite_Cut.f
    rw [h0, Option.bind_some]
    rw [hw, if_pos (by omega), if_pos (by omega), if_pos (by omega), if_pos (by omega), if_pos (by omega), Int.toNat_natCast, Int.toNat_natCast, cat_left, cat_right]
  unfold strings_Cut.f; rw [h1]; rfl
theorem trim_yes (x : ByteArray) (c : UInt8) (hx : x.size ≤ 4611686018427387904) : strings_TrimSuffix.f (x ++ one c) (one c) = some x := by
  have hz : (x ++ one c).size = x.size + 1 := by rw [ByteArray.size_append]; rfl
  have hw : wrap64 (((x ++ one c).size : Int) - ((one c).size : Int)) = (x.size : Int) := by rw [hz, one_size, wrap_id (by omega) (by omega)]; omega
  have e1 : (x ++ one c).extract x.size (x ++ one c).size = one c := by rw [hz]; exact ByteArray.extract_append_eq_right rfl rfl
  have e2 : (x ++ one c).extract 0 x.size = x := ByteArray.extract_append_eq_left rfl
  have h0 : stringslite_HasSuffix.f (x ++ one c) (one c) = some true := by
    unfold stringslite_HasSuffix.f
    rw [hw, if_pos (by rw [hz, one_size]; omega), if_pos (by omega), if_pos (by omega), Int.toNat_natCast, e1, beq_self_eq_true]
  have h1 : stringslite_TrimSuffix.f (x ++ one c) (one c) = some x := by
    unfold stringslite_TrimSuffix.f
    rw [h0, Option.bind_some]
    rw [hw, if_pos rfl, if_pos (by omega), if_pos (by omega), Int.toNat_natCast, e2]
  unfold strings_TrimSuffix.f; rw [h1]; rfl
end Go.Proofs.YtogjjcjnnclghaaGreatDoor.X
set_option linter.unusedVariables false
set_option linter.unusedSimpArgs false
namespace Go.Proofs.YtogjjcjnnclghaaGreatDoor.X
open Go.RowKit Go.Proofs.YtogjjcjnnclghaaGreatDoorW.PrintWords Go.Proofs.YtogjjcjnnclghaaGreatDoor.E
theorem hasB_no (s : ByteArray) (h : hasB s 64 = false) : nob 64 s := by
  have h1 := contains_at s
  have h2 : strings_Contains.f s (⟨#[64]⟩ : ByteArray) = some (decide (0 ≤ Lib.indexByte s.data.toList 64)) := rfl
  rw [h1] at h2
  have h3 := Option.some.inj h2
  rw [← Lib.contains_iff_indexByte, h] at h3
  intro hm
  rw [List.contains_iff_mem.2 hm] at h3
  exact absurd h3 (by simp)
theorem rec_no64 {s r : ByteArray} (h : recB s r = true) : nob 64 s := by
  unfold recB cmdB at h
  simp only [Bool.and_eq_true, Bool.not_eq_true'] at h
  exact hasB_no s h.1.2
theorem num_no {c : UInt8} (hc : c.toNat < 48) (k : Int) (h0 : 0 ≤ k) (h1 : k ≤ 59) : nob c (numB k) := by
  have d : ∀ i : Fin 10, 48 ≤ (UInt8.ofNat (48 + i.val)).toNat := by decide
  have d10 : ∀ i : Fin 10, c ≠ UInt8.ofNat (48 + i.val) := fun i e => by have := d i; rw [← e] at this; omega
  unfold nob numB
  obtain ⟨u, rfl⟩ : ∃ u : Nat, k = u := ⟨k.toNat, by omega⟩
  rw [Lib.itoa, if_neg (by omega), Int.toNat_natCast]
  by_cases hu : u < 10
  · rw [Lib.decDigits_one hu]
    simpa using d10 ⟨u, hu⟩
  · rw [Lib.decDigits_two hu (by omega)]
    have a := d10 ⟨u / 10, by omega⟩
    have b := d10 ⟨u % 10, by omega⟩
    intro hm
    have hm : c ∈ [UInt8.ofNat (48 + u / 10), UInt8.ofNat (48 + u % 10)] := hm
    rcases List.mem_cons.1 hm with h | h
    · exact a h
    · exact b (List.mem_singleton.1 h)
theorem tl_inj {a b : ByteArray} : a.toList = b.toList ↔ a = b := ⟨fun h => ba_list (by rwa [ByteArray.toList_eq, ByteArray.toList_eq] at h), fun h => by rw [h]⟩
def Enc (k : Int) (x c r : ByteArray) : Prop := (0 ≤ k ∧ k ≤ 59) ∧ recB c r = true ∧ sealB (lineB k c r) = x
theorem line_cat (k : Int) (c r : ByteArray) : lineB k c r = cat (numB k) 32 (cat c 64 r) := by unfold lineB cat; simp only [ByteArray.append_assoc]; rfl
theorem line_pre (k : Int) (c r : ByteArray) : lineB k c r = (numB k ++ (⟨#[32]⟩ : ByteArray)) ++ cat c 64 r := by rw [line_cat]; rfl
theorem seal_cat (x : ByteArray) : sealB x = cat x 35 (numB (sumB x)) := rfl
theorem enc_nob {k : Int} {x c r : ByteArray} (h : Enc k x c r) : nob 35 (lineB k c r) := by
  obtain ⟨hs, hls, hlr, hr⟩ := recB_iff h.2.1
  have := line_no35 k c r h.1.1 h.1.2 hls hlr
  intro hm
  rw [List.contains_iff_mem.2 hm] at this
  exact absurd this (by simp)
theorem enc_has {k : Int} {x c r : ByteArray} (h : Enc k x c r) : ¬ nob 35 x := by rw [← h.2.2, seal_cat]; exact not_nob _ _ _
theorem enc_line {k : Int} {w z c r : ByteArray} (h : Enc k (cat w 35 z) c r) (hw : nob 35 w) : w = lineB k c r := by
  have e := h.2.2
  rw [seal_cat] at e
  exact (split_uniq e (enc_nob h) hw).1.symm
theorem enc_rest {k : Int} {c r a t : ByteArray} (e : lineB k c r = cat a 32 t) (h : nob 32 a) (hk : 0 ≤ k ∧ k ≤ 59) : t = cat c 64 r := by
  rw [line_cat] at e
  exact (split_uniq e (num_no (by decide) k hk.1 hk.2) h).2.symm
theorem enc_uniq {k : Int} {x c r c' r' : ByteArray} (h : Enc k x c r) (h' : Enc k x c' r') : c = c' ∧ r = r' := by
  have e := h.2.2.trans h'.2.2.symm
  rw [seal_cat, seal_cat] at e
  have e1 := (split_uniq e (enc_nob h) (enc_nob h')).1
  rw [line_cat, line_cat] at e1
  have n := num_no (c := 32) (by decide) k h.1.1 h.1.2
  exact split_uniq (split_uniq e1 n n).2 (rec_no64 h.2.1) (rec_no64 h'.2.1)
theorem idx35 (x : ByteArray) : strings_IndexByte.f x 35 = some (Lib.indexByte x.data.toList 35) := rfl
theorem verify_no {x : ByteArray} (h : nob 35 x) : Ev (fun k => impl_VerifyChecksum.f k x) ((⟨#[]⟩ : ByteArray), false) := by
  unfold impl_VerifyChecksum.f
  exact ev_bind0 ((idx35 x).trans (congrArg some (idx_no h))) (ev_pos (by omega) (ev_now rfl))
theorem verify_good {w z : ByteArray} (h : nob 35 w) (hx : (cat w 35 z).size ≤ 4194304) (ha : appB w = (cat w 35 z, true)) : Ev (fun k => impl_VerifyChecksum.f k (cat w 35 z)) (w, true) := by
  have hz := cat_size w 35 z
  unfold impl_VerifyChecksum.f
  refine ev_bind0 ((idx35 _).trans (congrArg some (idx_yes h))) (ev_neg (by omega) (ev_pos (by omega) (ev_pos (by omega) ?_)))
  rw [Int.toNat_natCast, cat_left]
  refine Ev.bind (appendChecksum_ev w (by omega)) ?_
  rw [ha]
  exact ev_pos rfl (ev_pos rfl (ev_now rfl))
theorem verify_bad {w z : ByteArray} (h : nob 35 w) (hx : (cat w 35 z).size ≤ 4194304) (ha : appB w ≠ (cat w 35 z, true)) : Ev (fun k => impl_VerifyChecksum.f k (cat w 35 z)) ((⟨#[]⟩ : ByteArray), false) := by
  have hz := cat_size w 35 z
  unfold impl_VerifyChecksum.f
  refine ev_bind0 ((idx35 _).trans (congrArg some (idx_yes h))) (ev_neg (by omega) (ev_pos (by omega) (ev_pos (by omega) ?_)))
  rw [Int.toNat_natCast, cat_left]
  refine Ev.bind (appendChecksum_ev w (by omega)) ?_
  exact ev_ite (fun c => ev_neg (fun e => ha (Prod.ext (tl_inj.1 e) c)) (ev_now rfl)) (fun _ => ev_now rfl)
theorem nob_nil (c : UInt8) : nob c (⟨#[]⟩ : ByteArray) := fun h => nomatch h
theorem dec_ev (k : Int) (x : ByteArray) (hx : x.size ≤ 4194304) : (∃ c r, Enc k x c r ∧ Ev (fun q => impl_decoded.f q k (x ++ one 10)) (c, r, true)) ∨ ((∀ c r, ¬ Enc k x c r) ∧ Ev (fun q => impl_decoded.f q k (x ++ one 10)) ((⟨#[]⟩ : ByteArray), (⟨#[]⟩ : ByteArray), false)) := by
  have htr := trim_yes x 10 (by omega)
  rcases split_or 35 x with h | ⟨w, z, rfl, hw⟩
  · refine Or.inr ⟨fun c r e => enc_has e h, ?_⟩
    unfold impl_decoded.f
    exact ev_bind0 htr (Ev.bind (verify_no h) (ev_neg (by simp) (ev_now rfl)))
  have hz := cat_size w 35 z
  by_cases ha : appB w = (cat w 35 z, true)
  case neg =>
    refine Or.inr ⟨fun c r e => ha ?_, ?_⟩
    · have h1 := app_line k c r e.1.1 e.1.2 e.2.1
      have h2 := e.2.2
      rw [← enc_line e hw] at h1 h2
      rw [h1, h2]
    · unfold impl_decoded.f
      exact ev_bind0 htr (Ev.bind (verify_bad hw hx ha) (ev_neg (by simp) (ev_now rfl)))
  obtain ⟨p, q, hp, hq, hcs, hrs, hun⟩ : ∃ p q : ByteArray × ByteArray × Bool, strings_Cut.f w (⟨#[32]⟩ : ByteArray) = some p ∧ strings_Cut.f p.2.1 (⟨#[64]⟩ : ByteArray) = some q ∧ q.1.size ≤ w.size ∧ q.2.1.size ≤ w.size ∧ ∀ c' r', lineB k c' r' = w → nob 64 c' → (0 ≤ k ∧ k ≤ 59) → c' = q.1 ∧ r' = q.2.1 := by
    rcases split_or 32 w with h32 | ⟨a, t, rfl, h32⟩
    · refine ⟨_, _, cut_no h32, cut_no (c := 64) (nob_nil 64), Nat.zero_le _, Nat.zero_le _, fun c' r' e _ _ => absurd h32 ?_⟩
      rw [← e, line_cat]; exact not_nob _ _ _
    · have hz2 := cat_size a 32 t
      rcases split_or 64 t with h64 | ⟨c, r, rfl, h64⟩
      · refine ⟨_, _, cut_yes h32 (by omega), cut_no (c := 64) h64, by show t.size ≤ _; omega, Nat.zero_le _, fun c' r' e _ hk => absurd h64 ?_⟩
        rw [enc_rest e h32 hk]; exact not_nob _ _ _
      · have hz3 := cat_size c 64 r
        refine ⟨_, _, cut_yes h32 (by omega), cut_yes (c := 64) h64 (by show (cat c 64 r).size ≤ _; omega), by show c.size ≤ _; omega, by show r.size ≤ _; omega, fun c' r' e h' hk => ?_⟩
        exact split_uniq (enc_rest e h32 hk).symm h' h64
  have henc := implEnc_ev k q.1 q.2.1 (by omega) (by omega)
  by_cases E : Enc k (cat w 35 z) q.1 q.2.1
  · refine Or.inl ⟨q.1, q.2.1, E, ?_⟩
    unfold impl_decoded.f
    refine ev_bind0 htr (Ev.bind (verify_good hw hx ha) (ev_pos rfl (ev_bind0 hp (ev_bind0 hq (Ev.bind henc ?_)))))
    have hok : encOk k q.1 q.2.1 = true := by unfold encOk; rw [decide_eq_true E.1, E.2.1]; rfl
    unfold encE
    rw [if_pos hok, E.2.2]
    exact ev_pos rfl (ev_pos rfl (ev_now rfl))
  · refine Or.inr ⟨fun c' r' e' => E ?_, ?_⟩
    · obtain ⟨e1, e2⟩ := hun c' r' (enc_line e' hw).symm (rec_no64 e'.2.1) e'.1
      rw [← e1, ← e2]; exact e'
    · unfold impl_decoded.f
      refine ev_bind0 htr (Ev.bind (verify_good hw hx ha) (ev_pos rfl (ev_bind0 hp (ev_bind0 hq (Ev.bind henc ?_)))))
      unfold encE
      by_cases hok : encOk k q.1 q.2.1 = true
      · rw [if_pos hok]
        refine ev_pos rfl (ev_neg (fun e => E ?_) (ev_now rfl))
        unfold encOk at hok
        rw [Bool.and_eq_true] at hok
        exact ⟨of_decide_eq_true hok.1, hok.2, (ba_cut (tl_inj.1 e) (by have := congrArg ByteArray.size (tl_inj.1 e); rw [ByteArray.size_append, ByteArray.size_append, one_size, szl] at this; omega)).1⟩
      · rw [if_neg hok]
        exact ev_neg (by simp) (ev_now rfl)
theorem ba_halves (t : ByteArray) (n : Nat) (hn : n ≤ t.size) : t = t.extract 0 n ++ t.extract n t.size := by
  apply ba_list
  have hl := l_len t
  rw [ba_app, ByteArray.data_extract, ByteArray.data_extract, Array.toList_extract, Array.toList_extract, List.extract_eq_take_drop, List.extract_eq_take_drop, List.drop_zero, Nat.sub_zero, List.take_of_length_le (l := List.drop n _) (by rw [List.length_drop]; omega), List.take_append_drop]
theorem read_ev (k : Int) (hk : 0 ≤ k ∧ k ≤ 59) (x : ByteArray) (hx : x.size ≤ 4194304) : (∃ c r, Enc k x c r ∧ Ev (fun q => spec_l27Read.f q x k) (c, r, true)) ∨ ((∀ c r, ¬ Enc k x c r) ∧ ∃ c r, Ev (fun q => spec_l27Read.f q x k) (c, r, false)) := by
  have hn := numB_size k (by omega) (by omega)
  obtain ⟨t, ts, hsp, hts, hE⟩ : ∃ t ts, Ev (fun q => spec_l1Split.f q x 35) (t :: ts) ∧ t.size ≤ x.size ∧ ∀ c r, Enc k x c r → t = lineB k c r := by
    rcases split_or 35 x with h | ⟨w, z, rfl, hw⟩
    · exact ⟨x, [], split_no h (by omega) 35 rfl, Nat.le_refl _, fun c r e => absurd h (enc_has e)⟩
    · obtain ⟨y, ys, hs⟩ := split_yes (b := z) hw (by omega) 35 rfl
      exact ⟨w, y :: ys, hs, by rw [cat_size]; omega, fun c r e => enc_line e hw⟩
  have hrd : rdOf ByteArray.empty (t :: ts) 0 = t := rfl
  have hah : (numB k ++ (⟨#[32]⟩ : ByteArray)).size = (numB k).size + 1 := by rw [ByteArray.size_append]; rfl
  have open_ : ∀ {r : ByteArray × ByteArray × Bool}, (((t.size : Int) < ((numB k ++ (⟨#[32]⟩ : ByteArray)).size : Int)) → Ev (fun q => spec_l27Read.j0 q x k (numB k ++ (⟨#[32]⟩ : ByteArray)) t true) r) → (¬ ((t.size : Int) < ((numB k ++ (⟨#[32]⟩ : ByteArray)).size : Int)) → Ev (fun q => spec_l27Read.j0 q x k (numB k ++ (⟨#[32]⟩ : ByteArray)) t ((t.extract 0 (numB k ++ (⟨#[32]⟩ : ByteArray)).size).toList != (numB k ++ (⟨#[32]⟩ : ByteArray)).toList)) r) → Ev (fun q => spec_l27Read.f q x k) r := by
    intro r h1 h2
    unfold spec_l27Read.f
    refine Ev.bind (l1Num_ev k (by omega) (by omega)) (ev_pos (by omega) (Ev.bind hsp (ev_pos (by simp) ?_)))
    rw [hrd]
    exact ev_ite h1 (fun c => ev_pos (by omega) (ev_pos (by omega) (h2 c)))
  by_cases hp : ∃ rest, t = (numB k ++ (⟨#[32]⟩ : ByteArray)) ++ rest
  case neg =>
    refine Or.inr ⟨fun c r e => hp ⟨cat c 64 r, by rw [hE c r e, line_pre]⟩, (⟨#[]⟩ : ByteArray), (⟨#[]⟩ : ByteArray), open_ (fun _ => Ev.step (fun k => rfl) (ev_now rfl)) (fun c => ?_)⟩
    refine Ev.step (fun k => rfl) (ev_pos ?_ (ev_now rfl))
    rw [bne_iff_ne]
    intro e
    refine hp ⟨t.extract (numB k ++ (⟨#[32]⟩ : ByteArray)).size t.size, ?_⟩
    conv => lhs; rw [ba_halves t (numB k ++ (⟨#[32]⟩ : ByteArray)).size (by omega)]
    rw [tl_inj.1 e]
  obtain ⟨rest, ht⟩ := hp
  have htz : t.size = (numB k ++ (⟨#[32]⟩ : ByteArray)).size + rest.size := by rw [ht, ByteArray.size_append]
  have e0 : t.extract 0 (numB k ++ (⟨#[32]⟩ : ByteArray)).size = numB k ++ (⟨#[32]⟩ : ByteArray) := by rw [ht]; exact ByteArray.extract_append_eq_left rfl
  have e1 : t.extract (numB k ++ (⟨#[32]⟩ : ByteArray)).size t.size = rest := by rw [htz, ht]; exact ByteArray.extract_append_eq_right rfl rfl
  have go : ∀ {r : ByteArray × ByteArray × Bool}, (∀ b, b = false → Ev (fun q => spec_l27Read.j0 q x k (numB k ++ (⟨#[32]⟩ : ByteArray)) t b) r) → Ev (fun q => spec_l27Read.f q x k) r := by
    intro r h
    refine open_ (fun c => absurd c (by omega)) (fun c => h _ ?_)
    rw [e0, bne_self_eq_false]
  have hrest : ∀ c r, Enc k x c r → rest = cat c 64 r := by
    intro c r e
    have h1 := hE c r e
    rw [ht, line_pre] at h1
    exact (ba_cut h1 rfl).2
  rcases split_or 64 rest with h64 | ⟨c, r, hc, h64⟩
  · refine Or.inr ⟨fun c r e => not_nob 64 c r (hrest c r e ▸ h64), (⟨#[]⟩ : ByteArray), (⟨#[]⟩ : ByteArray), go (fun bb hbb => ?_)⟩
    refine Ev.step (fun k => rfl) (ev_neg (by rw [hbb]; simp) (ev_pos (by omega) (ev_pos (by omega) ?_)))
    rw [e1]
    exact Ev.bind (split_no h64 (by omega) 64 rfl) (ev_pos (by simp) (ev_pos rfl (ev_now rfl)))
  have hcz := cat_size c 64 r
  rw [← hc] at hcz
  obtain ⟨y, ys, hs⟩ := split_yes (b := r) h64 (by rw [← hc]; omega) 64 rfl
  rw [← hc] at hs
  have hw : wrap64 ((c.size : Int) + 1) = ((c.size + 1 : Nat) : Int) := wrap_succ (show c.size < rest.size by omega) (by omega)
  have e2 : rest.extract (c.size + 1) rest.size = r := by rw [hc]; exact cat_right c 64 r
  have hrd2 : rdOf ByteArray.empty (c :: y :: ys) 0 = c := rfl
  have hgood := l27Good_ev c r (by omega) (by omega)
  have go2 : ∀ {o : ByteArray × ByteArray × Bool}, (recB c r = true → Ev (fun q => (spec_l27Line.f q k c r).bind fun t113 => if x.size + 1 ≤ 9223372036854775807 then some (c, r, t113.toList == (x ++ (⟨#[10]⟩ : ByteArray)).toList) else none) o) → (¬ recB c r = true → o = (c, r, false)) → Ev (fun q => spec_l27Read.f q x k) o := by
    intro o h1 h2
    refine go (fun bb hbb => Ev.step (fun k => rfl) (ev_neg (by rw [hbb]; simp) (ev_pos (by omega) (ev_pos (by omega) ?_))))
    rw [e1]
    refine Ev.bind hs ?_
    rw [hrd2, hw, Int.toNat_natCast, e2]
    refine ev_pos (by rw [List.length_cons]; omega) (ev_neg (by omega) (ev_pos (by omega) (ev_pos (by omega) (Ev.bind hgood (ev_ite h1 (fun c => ev_now (h2 c).symm))))))
  by_cases E : Enc k x c r
  · refine Or.inl ⟨c, r, E, go2 (fun h => ?_) (fun h => absurd E.2.1 h)⟩
    obtain ⟨hs1, hls, hlr, hr1⟩ := recB_iff h
    refine Ev.bind (l27Line_ev k c r hk.1 hk.2 hs1.2 hr1) (ev_pos (by omega) (ev_now ?_))
    rw [E.2.2, beq_self_eq_true]
  · refine Or.inr ⟨fun c' r' e' => E ?_, c, r, go2 (fun h => ?_) (fun _ => rfl)⟩
    · have h1 := hrest c' r' e'
      rw [hc] at h1
      obtain ⟨rfl, rfl⟩ := split_uniq h1 h64 (rec_no64 e'.2.1)
      exact e'
    · obtain ⟨hs1, hls, hlr, hr1⟩ := recB_iff h
      refine Ev.bind (l27Line_ev k c r hk.1 hk.2 hs1.2 hr1) (ev_pos (by omega) (ev_now ?_))
      have : ((sealB (lineB k c r) ++ (⟨#[10]⟩ : ByteArray)).toList == (x ++ (⟨#[10]⟩ : ByteArray)).toList) = false := by
        rw [beq_eq_false_iff_ne]
        intro e
        exact E ⟨hk, h, (ba_cut (tl_inj.1 e) (by have := congrArg ByteArray.size (tl_inj.1 e); rw [ByteArray.size_append, ByteArray.size_append, szl] at this; omega)).1⟩
      rw [this]
end Go.Proofs.YtogjjcjnnclghaaGreatDoor.X
set_option linter.unusedVariables false
set_option linter.unusedSimpArgs false
namespace Go.Proofs.YtogjjcjnnclghaaGreatDoor.X
open Go.RowKit Go.Proofs.YtogjjcjnnclghaaGreatDoorW.PrintWords Go.Proofs.YtogjjcjnnclghaaGreatDoor.E
def Stop (k : Nat) (t : ByteArray) : Prop := ∀ a b, t = cat a 10 b → nob 10 a → ∀ c r, ¬ Enc (k : Int) a c r
def Parse : Nat → ByteArray → List S113 → ByteArray → Prop
  | k, s, [], t => s = t ∧ Stop k t
  | k, s, e :: L, t => ∃ a b, s = cat a 10 b ∧ nob 10 a ∧ Enc (k : Int) a e.f0 e.f1 ∧ Parse (k + 1) b L t
theorem parse_ex : ∀ (n : Nat) (s : ByteArray) (k : Nat), s.size ≤ n → ∃ L t, Parse k s L t := by
  intro n
  induction n with
  | zero =>
    intro s k hs
    refine ⟨[], s, rfl, fun a b e _ => ?_⟩
    rw [e, cat_size] at hs; omega
  | succ n ih =>
    intro s k hs
    rcases split_or 10 s with h | ⟨a, b, rfl, ha⟩
    · exact ⟨[], s, rfl, fun a b e _ => absurd h (by rw [e]; exact not_nob _ _ _)⟩
    by_cases hE : ∃ c r, Enc (k : Int) a c r
    · obtain ⟨c, r, hE⟩ := hE
      rw [cat_size] at hs
      obtain ⟨L, t, h⟩ := ih b (k + 1) (by omega)
      exact ⟨⟨c, r⟩ :: L, t, a, b, rfl, ha, hE, h⟩
    · refine ⟨[], cat a 10 b, rfl, fun a' b' e ha' c r h => hE ⟨c, r, ?_⟩⟩
      rw [(split_uniq e ha ha').1]; exact h
theorem parse_uniq : ∀ (L L' : List S113) (k : Nat) (s t t' : ByteArray), Parse k s L t → Parse k s L' t' → L = L' ∧ t = t'
  | [], [], k, s, t, t', h, h' => ⟨rfl, h.1.symm.trans h'.1⟩
  | [], e :: L', k, s, t, t', h, h' => by
    obtain ⟨a, b, e1, e2, e3, _⟩ := h'
    exact absurd e3 (h.2 a b (h.1.symm.trans e1) e2 _ _)
  | e :: L, [], k, s, t, t', h, h' => by
    obtain ⟨a, b, e1, e2, e3, _⟩ := h
    exact absurd e3 (h'.2 a b (h'.1.symm.trans e1) e2 _ _)
  | e :: L, e' :: L', k, s, t, t', h, h' => by
    obtain ⟨a, b, e1, e2, e3, e4⟩ := h
    obtain ⟨a', b', f1, f2, f3, f4⟩ := h'
    obtain ⟨rfl, rfl⟩ := split_uniq (e1.symm.trans f1) e2 f2
    obtain ⟨g1, g2⟩ := enc_uniq e3 f3
    obtain ⟨rfl, rfl⟩ := parse_uniq L L' (k + 1) b t t' e4 f4
    obtain ⟨x0, x1⟩ := e
    obtain ⟨y0, y1⟩ := e'
    obtain rfl : x0 = y0 := g1
    obtain rfl : x1 = y1 := g2
    exact ⟨rfl, rfl⟩
def lsz (k : Nat) (e : S113) : Nat := (sealB (lineB (k : Int) e.f0 e.f1)).size + 1
def sizeL : Nat → List S113 → Nat
  | _, [] => 0
  | k, e :: L => lsz k e + sizeL (k + 1) L
def endsL : Nat → Nat → List S113 → List Int
  | _, _, [] => []
  | k, p, e :: L => ((p + lsz k e : Nat) : Int) :: endsL (k + 1) (p + lsz k e) L
theorem enc_lsz {k : Nat} {a : ByteArray} {e : S113} (h : Enc (k : Int) a e.f0 e.f1) : a.size + 1 = lsz k e := by unfold lsz; rw [h.2.2]
theorem enc_small {k : Nat} {a : ByteArray} {e : S113} (h : Enc (k : Int) a e.f0 e.f1) : lsz k e ≤ 425 ∧ k ≤ 59 := by
  obtain ⟨hs, hls, hlr, hr⟩ := recB_iff h.2.1
  have h1 := line_size k e.f0 e.f1 h.1.1 h.1.2 hs.2 hr
  have h2 := sum_size (lineB k e.f0 e.f1)
  have h3 := h.1.2
  refine ⟨?_, by omega⟩
  unfold lsz sealB
  rw [ByteArray.size_append, ByteArray.size_append, szl]
  omega
theorem parse_size : ∀ (L : List S113) (k : Nat) (s t : ByteArray), Parse k s L t → s.size = sizeL k L + t.size
  | [], k, s, t, h => by rw [h.1, sizeL, Nat.zero_add]
  | e :: L, k, s, t, h => by
    obtain ⟨a, b, e1, e2, e3, e4⟩ := h
    have := parse_size L (k + 1) b t e4
    rw [e1, cat_size, sizeL, ← enc_lsz e3]
    omega
theorem parse_len : ∀ (L : List S113) (k : Nat) (s t : ByteArray), Parse k s L t → k ≤ 60 → k + L.length ≤ 60 ∧ sizeL k L ≤ 425 * L.length
  | [], k, s, t, h, hk => ⟨hk, Nat.zero_le _⟩
  | e :: L, k, s, t, h, hk => by
    obtain ⟨a, b, e1, e2, e3, e4⟩ := h
    have h1 := enc_small e3
    have := parse_len L (k + 1) b t e4 (by omega)
    rw [sizeL, List.length_cons]
    omega
theorem ends_len : ∀ (L : List S113) (k p : Nat), (endsL k p L).length = L.length
  | [], _, _ => rfl
  | e :: L, k, p => by rw [endsL, List.length_cons, List.length_cons, ends_len L]
theorem ends_last : ∀ (L : List S113) (k p : Nat), L ≠ [] → (endsL k p L).getD (L.length - 1) 0 = ((p + sizeL k L : Nat) : Int)
  | [], _, _, h => absurd rfl h
  | [e], k, p, _ => rfl
  | e :: e' :: L, k, p, _ => by
    have := ends_last (e' :: L) (k + 1) (p + lsz k e) (by simp)
    rw [endsL, sizeL, ← Nat.add_assoc, ← this]
    rfl
theorem ext_mid (p m b : ByteArray) : ((p ++ m) ++ b).extract p.size (p.size + m.size) = m := by
  apply ba_list
  have h1 := l_len p
  have h2 := l_len m
  rw [ByteArray.data_extract, Array.toList_extract, List.extract_eq_take_drop, ba_app, ba_app, List.append_assoc, List.drop_left' h1, List.take_left' (by omega)]
theorem ext_end (p b : ByteArray) : (p ++ b).extract p.size (p ++ b).size = b := by rw [ByteArray.size_append]; exact ByteArray.extract_append_eq_right rfl rfl
theorem idx10 (x : ByteArray) : strings_IndexByte.f x 10 = some (Lib.indexByte x.data.toList 10) := rfl
theorem impl_loop : ∀ (L : List S113) (k : Nat) (b t : ByteArray), Parse k b L t → ∀ (x pre : ByteArray) (L0 : List S113) (E0 : List Int), x = pre ++ b → x.size ≤ 4194304 → L0.length = k → E0.length ≤ k → k ≤ 60 → Ev (fun q => impl_readRecords.l0 q x L0 E0 (pre.size : Int)) (L0 ++ L, E0 ++ endsL k pre.size L) := by
  have start : ∀ (a b x pre : ByteArray) (L0 : List S113) (E0 : List Int), nob 10 a → x = pre ++ cat a 10 b → x.size ≤ 4194304 → ∀ {o : List S113 × List Int}, Ev (fun q => (impl_decoded.f q (L0.length : Int) (a ++ one 10)).bind fun bt108 => (if bt108.2.2 = true then (if L0.length < 4398046511104 then (if E0.length < 17592186044416 then (impl_readRecords.l0 q x (L0 ++ [(⟨bt108.1, bt108.2.1⟩ : S113)]) (E0 ++ [((pre.size + (a.size + 1) : Nat) : Int)]) ((pre.size + (a.size + 1) : Nat) : Int)) else (none)) else (none)) else (some (L0, E0)))) o → Ev (fun q => impl_readRecords.l0 q x L0 E0 (pre.size : Int)) o := by
    intro a b x pre L0 E0 ha hx hs o h
    have hz : x.size = pre.size + (a.size + 1 + b.size) := by rw [hx, ByteArray.size_append, cat_size]
    have e1 : x.extract pre.size x.size = cat a 10 b := by rw [hx]; exact ext_end _ _
    have w1 : wrap64 ((pre.size : Int) + (a.size : Int)) = (pre.size : Int) + (a.size : Int) := wrap_id (by omega) (by omega)
    have w2 : wrap64 ((pre.size : Int) + (a.size : Int) + 1) = ((pre.size + (a.size + 1) : Nat) : Int) := by rw [wrap_id (by omega) (by omega)]; omega
    have w3 : wrap64 ((a.size : Int) + 1) = ((a.size + 1 : Nat) : Int) := wrap_succ (show a.size < x.size by omega) (by omega)
    have w4 : wrap64 ((pre.size : Int) + ((a.size + 1 : Nat) : Int)) = ((pre.size + (a.size + 1) : Nat) : Int) := by rw [wrap_id (by omega) (by omega)]; omega
    have e2 : x.extract pre.size (pre.size + (a.size + 1)) = a ++ one 10 := by
      rw [hx]
      have := ext_mid pre (a ++ one 10) b
      rw [ByteArray.append_assoc, ByteArray.size_append, one_size] at this
      exact this
    refine Ev.step (fun k => rfl) (ev_pos (by omega) (ev_pos (by omega) ?_))
    rw [Int.toNat_natCast, e1]
    refine ev_bind0 ((idx10 _).trans (congrArg some (idx_yes ha))) (ev_neg (by omega) ?_)
    rw [w1, w2, w3, w4]
    refine ev_pos (by omega) (ev_pos (by omega) ?_)
    rw [Int.toNat_natCast, e2]
    exact h
  intro L
  induction L with
  | nil =>
    intro k b t hP x pre L0 E0 hx hs hL hE hk
    obtain ⟨rfl, hst⟩ := hP
    rw [endsL, List.append_nil, List.append_nil]
    have hz : x.size = pre.size + b.size := by rw [hx, ByteArray.size_append]
    rcases split_or 10 b with h | ⟨a, b', rfl, ha⟩
    · have e1 : x.extract pre.size x.size = b := by rw [hx]; exact ext_end _ _
      refine Ev.step (fun k => rfl) (ev_pos (by omega) (ev_pos (by omega) ?_))
      rw [Int.toNat_natCast, e1]
      exact ev_bind0 ((idx10 _).trans (congrArg some (idx_no h))) (ev_pos (by omega) (ev_now rfl))
    · refine start a b' x pre L0 E0 ha hx hs ?_
      have hz2 := cat_size a 10 b'
      rcases dec_ev (L0.length : Int) a (by omega) with ⟨c, r, he, _⟩ | ⟨_, hv⟩
      · rw [hL] at he
        exact absurd he (hst a b' rfl ha c r)
      · exact Ev.bind hv (ev_neg (by simp) (ev_now rfl))
  | cons e L ih =>
    intro k b t hP x pre L0 E0 hx hs hL hE hk
    obtain ⟨a, b', rfl, ha, he, hP'⟩ := hP
    have hz2 := cat_size a 10 b'
    have hz : x.size = pre.size + (cat a 10 b').size := by rw [hx, ByteArray.size_append]
    have hsm := enc_small he
    refine start a b' x pre L0 E0 ha hx hs ?_
    rcases dec_ev (L0.length : Int) a (by omega) with ⟨c, r, he', hv⟩ | ⟨hno, _⟩
    · rw [hL] at he'
      obtain ⟨rfl, rfl⟩ := enc_uniq he' he
      refine Ev.bind hv (ev_pos rfl (ev_pos (by omega) (ev_pos (by omega) ?_)))
      have h := ih (k + 1) b' t hP' x (pre ++ (a ++ one 10)) (L0 ++ [e]) (E0 ++ [((pre.size + (a.size + 1) : Nat) : Int)]) (by rw [hx]; unfold cat; rw [ByteArray.append_assoc, ByteArray.append_assoc, ByteArray.append_assoc]) hs (by rw [List.length_append, hL]; rfl) (by rw [List.length_append, List.length_singleton]; omega) (by omega)
      have hps : (pre ++ (a ++ one 10)).size = pre.size + (a.size + 1) := by rw [ByteArray.size_append, ByteArray.size_append, one_size]
      rw [hps, List.append_assoc, List.append_assoc] at h
      rw [endsL, ← enc_lsz he]
      exact h
    · rw [hL] at hno
      exact absurd he (hno _ _)
theorem spec_loop : ∀ (L : List S113) (k : Nat) (b t : ByteArray), Parse k b L t → ∀ (x pre : ByteArray) (L0 : List S113), x = pre ++ b → x.size ≤ 4194304 → L0.length = k → k ≤ 60 → Ev (fun q => spec_l27Open.l0 q x L0 (pre.size : Int)) (L0 ++ L, ((pre.size + sizeL k L : Nat) : Int)) := by
  have stop : ∀ (x pre : ByteArray) (L0 : List S113), Ev (fun q => spec_l27Open.j1 q x L0 (pre.size : Int) false) (L0, (pre.size : Int)) := fun x pre L0 => Ev.step (fun k => rfl) (ev_now rfl)
  intro L
  induction L with
  | nil =>
    intro k b t hP x pre L0 hx hs hL hk
    obtain ⟨rfl, hst⟩ := hP
    rw [sizeL, List.append_nil, Nat.add_zero]
    have hz : x.size = pre.size + b.size := by rw [hx, ByteArray.size_append]
    have e1 : x.extract pre.size x.size = b := by rw [hx]; exact ext_end _ _
    refine Ev.step (fun k => rfl) (ev_ite (fun c => ?_) (fun _ => stop _ _ _))
    by_cases h60 : L0.length < 60
    case neg => rw [decide_eq_false (by omega)]; exact stop _ _ _
    refine Ev.step (fun k => rfl) (ev_pos (decide_eq_true (by omega)) (ev_pos (by omega) (ev_pos (by omega) ?_)))
    rw [Int.toNat_natCast, e1]
    rcases split_or 10 b with h | ⟨a, b', rfl, ha⟩
    · obtain ⟨c, r, o, hv⟩ : ∃ c r o, Ev (fun q => spec_l27Read.f q b (L0.length : Int)) (c, r, o) := by
        rcases read_ev (L0.length : Int) (by omega) b (by omega) with ⟨c, r, _, hv⟩ | ⟨_, c, r, hv⟩
        · exact ⟨c, r, _, hv⟩
        · exact ⟨c, r, _, hv⟩
      exact Ev.bind (split_no h (by omega) 10 rfl) (ev_pos (by simp) (Ev.bind hv (ev_pos (by simp) (ev_now rfl))))
    · have hz2 := cat_size a 10 b'
      obtain ⟨y, ys, hsp⟩ := split_yes (b := b') ha (by omega) 10 rfl
      refine Ev.bind hsp (ev_pos (by rw [List.length_cons]; omega) ?_)
      rcases read_ev (L0.length : Int) (by omega) a (by omega) with ⟨c, r, he, _⟩ | ⟨_, c, r, hv⟩
      · rw [hL] at he
        exact absurd he (hst a b' rfl ha c r)
      · exact Ev.bind hv (ev_neg (by rw [List.length_cons, List.length_cons]; omega) (ev_neg (by simp) (ev_now rfl)))
  | cons e L ih =>
    intro k b t hP x pre L0 hx hs hL hk
    obtain ⟨a, b', rfl, ha, he, hP'⟩ := hP
    have hz2 := cat_size a 10 b'
    have hz : x.size = pre.size + (cat a 10 b').size := by rw [hx, ByteArray.size_append]
    have e1 : x.extract pre.size x.size = cat a 10 b' := by rw [hx]; exact ext_end _ _
    have hsm := enc_small he
    have w1 : wrap64 ((pre.size : Int) + (a.size : Int)) = (pre.size : Int) + (a.size : Int) := wrap_id (by omega) (by omega)
    have w2 : wrap64 ((pre.size : Int) + (a.size : Int) + 1) = ((pre.size + (a.size + 1) : Nat) : Int) := by rw [wrap_id (by omega) (by omega)]; omega
    refine Ev.step (fun k => rfl) (ev_pos (by omega) ?_)
    refine Ev.step (fun k => rfl) (ev_pos (decide_eq_true (by omega)) (ev_pos (by omega) (ev_pos (by omega) ?_)))
    rw [Int.toNat_natCast, e1]
    obtain ⟨y, ys, hsp⟩ := split_yes (b := b') ha (by omega) 10 rfl
    have hrd : rdOf ByteArray.empty (a :: y :: ys) 0 = a := rfl
    refine Ev.bind hsp (ev_pos (by rw [List.length_cons]; omega) ?_)
    rw [hrd, w1, w2]
    rcases read_ev (L0.length : Int) (by omega) a (by omega) with ⟨c, r, he', hv⟩ | ⟨hno, _⟩
    · rw [hL] at he'
      obtain ⟨rfl, rfl⟩ := enc_uniq he' he
      refine Ev.bind hv (ev_neg (by rw [List.length_cons, List.length_cons]; omega) (ev_pos rfl (ev_pos (by omega) ?_)))
      have h := ih (k + 1) b' t hP' x (pre ++ (a ++ one 10)) (L0 ++ [e]) (by rw [hx]; unfold cat; rw [ByteArray.append_assoc, ByteArray.append_assoc, ByteArray.append_assoc]) hs (by rw [List.length_append, hL]; rfl) (by omega)
      have hps : (pre ++ (a ++ one 10)).size = pre.size + (a.size + 1) := by rw [ByteArray.size_append, ByteArray.size_append, one_size]
      rw [hps, List.append_assoc, Nat.add_assoc pre.size (a.size + 1)] at h
      rw [sizeL, ← enc_lsz he]
      exact h
    · rw [hL] at hno
      exact absurd he (hno _ _)
theorem nil_app (s : ByteArray) : s = (⟨#[]⟩ : ByteArray) ++ s := ba_list (by rw [ba_app]; rfl)
theorem implRead_ev (s : ByteArray) (L : List S113) (t : ByteArray) (h : Parse 0 s L t) (hs : s.size ≤ 4194304) : Ev (fun q => impl_readRecords.f q s) (L, endsL 0 0 L) := impl_loop L 0 s t h s (⟨#[]⟩ : ByteArray) [] [] (nil_app s) hs rfl (Nat.le_refl _) (by omega)
theorem specOpen_ev (s : ByteArray) (L : List S113) (t : ByteArray) (h : Parse 0 s L t) (hs : s.size ≤ 4194304) : Ev (fun q => spec_l27Open.f q s) (L, (sizeL 0 L : Int)) := by
  have h := spec_loop L 0 s t h s (⟨#[]⟩ : ByteArray) [] (nil_app s) hs rfl (by omega)
  rw [show (⟨#[]⟩ : ByteArray).size = 0 from rfl, Nat.zero_add, List.nil_append] at h
  exact h
end Go.Proofs.YtogjjcjnnclghaaGreatDoor.X
set_option linter.unusedVariables false
set_option linter.unusedSimpArgs false
namespace Go.Proofs.YtogjjcjnnclghaaGreatDoor.X
open Go.RowKit Go.Proofs.YtogjjcjnnclghaaGreatDoorW.PrintWords Go.Proofs.YtogjjcjnnclghaaGreatDoor.E
theorem app_cat (a : ByteArray) (c : UInt8) (b P : ByteArray) : cat a c b ++ P = cat a c (b ++ P) := by unfold cat; rw [ByteArray.append_assoc]
theorem stop_nil (k : Nat) : Stop k (⟨#[]⟩ : ByteArray) := by
  intro a b e _
  have := congrArg ByteArray.size e
  rw [cat_size, show (⟨#[]⟩ : ByteArray).size = 0 from rfl] at this
  omega
theorem size_nil {t : ByteArray} (h : t.size = 0) : t = (⟨#[]⟩ : ByteArray) := ba_list (by
  have := l_len t
  rw [List.eq_nil_of_length_eq_zero (by omega : t.data.toList.length = 0)])
theorem parse_app : ∀ (L1 : List S113) (k : Nat) (D P : ByteArray) (L2 : List S113) (t : ByteArray), Parse k D L1 (⟨#[]⟩ : ByteArray) → Parse (k + L1.length) P L2 t → Parse k (D ++ P) (L1 ++ L2) t
  | [], k, D, P, L2, t, h, h' => by rw [h.1, ← nil_app]; exact h'
  | e :: L1, k, D, P, L2, t, h, h' => by
    obtain ⟨a, b, e1, e2, e3, e4⟩ := h
    refine ⟨a, b ++ P, by rw [e1, app_cat], e2, e3, parse_app L1 (k + 1) b P L2 t e4 ?_⟩
    rw [List.length_cons] at h'
    rw [show k + 1 + L1.length = k + (L1.length + 1) by omega]
    exact h'
theorem ends_gt : ∀ (L : List S113) (k p : Nat) (x : Int), x ∈ endsL k p L → (p : Int) < x
  | [], _, _, x, h => nomatch h
  | e :: L, k, p, x, h => by
    rw [endsL] at h
    have hl : 0 < lsz k e := Nat.succ_pos _
    rcases List.mem_cons.1 h with rfl | h
    · omega
    · have := ends_gt L (k + 1) (p + lsz k e) x h
      omega
theorem ends_has : ∀ (L1 L2 : List S113) (k p : Nat), L1 ≠ [] → ((p + sizeL k L1 : Nat) : Int) ∈ endsL k p (L1 ++ L2)
  | [], _, _, _, h => absurd rfl h
  | [e], L2, k, p, _ => by
    rw [List.cons_append, endsL, sizeL, sizeL, Nat.add_zero]
    exact List.mem_cons_self ..
  | e :: e' :: L1, L2, k, p, _ => by
    have := ends_has (e' :: L1) L2 (k + 1) (p + lsz k e) (by simp)
    rw [List.cons_append, endsL, sizeL, ← Nat.add_assoc]
    exact List.mem_cons_of_mem _ this
theorem ends_cut : ∀ (L : List S113) (k p : Nat) (D P t : ByteArray), Parse k (D ++ P) L t → ((p + D.size : Nat) : Int) ∈ endsL k p L → ∃ L1, Parse k D L1 (⟨#[]⟩ : ByteArray)
  | [], _, _, _, _, _, _, h => nomatch h
  | e :: L, k, p, D, P, t, hP, h => by
    obtain ⟨a, b, e1, e2, e3, e4⟩ := hP
    have hz := enc_lsz e3
    have hsp : (a ++ one 10).size = a.size + 1 := by rw [ByteArray.size_append]; rfl
    rw [endsL] at h
    rcases List.mem_cons.1 h with h | h
    · have hD : D = a ++ one 10 := (ba_cut (b := P) (b' := b) e1 (by omega)).1
      refine ⟨[e], a, (⟨#[]⟩ : ByteArray), ?_, e2, e3, rfl, stop_nil _⟩
      rw [hD]; unfold cat; apply ba_list; rw [ba_app (a ++ one 10)]; simp
    · have h1 := ends_gt L (k + 1) (p + lsz k e) _ h
      have hh := ba_halves D (a.size + 1) (by omega)
      have hs1 : (D.extract 0 (a.size + 1)).size = a.size + 1 := by rw [ByteArray.size_extract]; omega
      have hs2 : (D.extract (a.size + 1) D.size).size = D.size - (a.size + 1) := by rw [ByteArray.size_extract]; omega
      have e5 : D.extract 0 (a.size + 1) ++ (D.extract (a.size + 1) D.size ++ P) = (a ++ one 10) ++ b := by
        rw [← ByteArray.append_assoc, ← hh]; exact e1
      obtain ⟨f1, f2⟩ := ba_cut e5 (by omega)
      rw [← f2] at e4
      obtain ⟨L1, hL⟩ := ends_cut L (k + 1) (p + lsz k e) (D.extract (a.size + 1) D.size) P t e4 (by
        rw [hs2, show p + lsz k e + (D.size - (a.size + 1)) = p + D.size by omega]; exact h)
      refine ⟨e :: L1, a, D.extract (a.size + 1) D.size, ?_, e2, e3, hL⟩
      unfold cat
      rw [← f1]; exact hh
def foldG (d : Int) (s : Bool × Int) (e : Int) : Bool × Int := (s.1 || e == d, e)
theorem fold1 (d : Int) : ∀ (r : List Int) (b : Bool) (v : Int), (r.foldl (foldG d) (b, v)).1 = (b || r.any (fun e => e == d))
  | [], b, v => by simp
  | e :: r, b, v => by
    rw [List.foldl_cons, foldG, fold1 d r, List.any_cons, Bool.or_assoc]
theorem fold2 (d : Int) : ∀ (r : List Int) (b : Bool) (v : Int), (r.foldl (foldG d) (b, v)).2 = r.getD (r.length - 1) v
  | [], b, v => rfl
  | [e], b, v => rfl
  | e :: e' :: r, b, v => by
    rw [List.foldl_cons, foldG, fold2 d (e' :: r)]
    show (e' :: r).getD r.length e = (e :: e' :: r).getD (r.length + 1) v
    rw [getD_in (by simp) e, getD_in (by simp) v]
    rfl
theorem readLoop (x4 : ByteArray) (x5 : List S113) (D P : ByteArray) (n : Int) (en : List Int) (hen : en.length ≤ 9223372036854775807) : ∀ (m i : Nat) (b : Bool) (v : Int), en.length - i = m → i ≤ en.length → Ev (fun q => impl_readLog.l0 q x4 x5 b v en (en.length : Int) (i : Int) D P n) (x5, ((en.drop i).foldl (foldG D.size) (b, v)).1 && (decide (((en.drop i).foldl (foldG D.size) (b, v)).2 = (x4.size : Int)) && ((x5.length : Int) == n))) := by
  intro m
  induction m with
  | zero =>
    intro i b v hm hi
    obtain rfl : i = en.length := by omega
    rw [List.drop_length, List.foldl_nil]
    refine Ev.step (fun k => rfl) (ev_neg (by omega) (ev_ite (fun c => ev_ite (fun d => ev_now ?_) (fun d => ev_now ?_)) (fun c => ev_now ?_)))
    · rw [c, decide_eq_true d]; rfl
    · rw [c, decide_eq_false d]; rfl
    · rw [Bool.not_eq_true] at c; rw [c]; rfl
  | succ m ih =>
    intro i b v hm hi
    have hlt : i < en.length := by omega
    have hrd : rd en (i : Int) = en[i] := by rw [rd_nat]; exact getD_in hlt 0
    rw [List.drop_eq_getElem_cons hlt, List.foldl_cons]
    have h1 := ih (i + 1) (b || en[i] == (D.size : Int)) en[i] (by omega) (by omega)
    refine Ev.step (fun k => rfl) (ev_pos (by omega) (ev_pos (by omega) (ev_pos (by omega) ?_)))
    rw [wrap_succ hlt hen, hrd]
    refine ev_ite (fun c => ?_) (fun c => ?_)
    · rw [c, Bool.true_or] at h1
      rw [foldG, c, Bool.true_or]
      exact h1
    · rw [Bool.not_eq_true] at c
      rw [c, Bool.false_or] at h1
      rw [foldG, c, Bool.false_or]
      exact h1
theorem log_ev (D P : ByteArray) (n : Int) (hs : D.size + P.size ≤ 4194304) : ∃ b L, Ev (fun k => spec_l27Log.f k D P n) b ∧ Ev (fun k => impl_readLog.f k D P n) (L, b) ∧ (b = true → Parse 0 (D ++ P) L (⟨#[]⟩ : ByteArray) ∧ (L.length : Int) = n) := by
  obtain ⟨L, t, hL⟩ := parse_ex (D ++ P).size (D ++ P) 0 (Nat.le_refl _)
  obtain ⟨L1, t1, hL1⟩ := parse_ex D.size D 0 (Nat.le_refl _)
  have hz : (D ++ P).size = D.size + P.size := ByteArray.size_append
  have hzL := parse_size L 0 _ t hL
  have hzL1 := parse_size L1 0 _ t1 hL1
  have hn := parse_len L 0 _ t hL (by omega)
  have hel := ends_len L 0 0
  have hw : wrap64 ((D.size : Int) + (P.size : Int)) = (D.size : Int) + (P.size : Int) := wrap_id (by omega) (by omega)
  have himpl : Ev (fun k => impl_readLog.f k D P n) (L, (((D.size : Int) == 0) || (endsL 0 0 L).any (fun e => e == (D.size : Int))) && (decide ((sizeL 0 L : Int) = ((D ++ P).size : Int)) && ((L.length : Int) == n))) := by
    unfold impl_readLog.f
    refine ev_pos (by omega) (Ev.bind (implRead_ev (D ++ P) L t hL (by omega)) ?_)
    have h := readLoop (D ++ P) L D P n (endsL 0 0 L) (by omega) _ 0 ((D.size : Int) == 0) 0 rfl (Nat.zero_le _)
    rw [List.drop_zero, fold1, fold2] at h
    have hl : (endsL 0 0 L).getD ((endsL 0 0 L).length - 1) 0 = (sizeL 0 L : Int) := by
      rcases L with _ | ⟨e, L⟩
      · rfl
      · rw [ends_len, ends_last _ 0 0 (by simp), Nat.zero_add]
    rw [hl] at h
    exact h
  by_cases hA : sizeL 0 L = D.size + P.size
  case neg =>
    refine ⟨false, L, ?_, ?_, fun h => nomatch h⟩
    · unfold spec_l27Log.f
      rw [hw]
      refine ev_ite (fun _ => ev_now rfl) (fun _ => ev_pos (by omega) (Ev.bind (specOpen_ev _ L t hL (by omega)) (Ev.bind (specOpen_ev _ L1 t1 hL1 (by omega)) (ev_neg (by omega) (ev_now rfl)))))
    · refine ev_cast himpl ?_
      rw [decide_eq_false (by omega)]; simp
  have ht : t = (⟨#[]⟩ : ByteArray) := size_nil (by omega)
  subst ht
  have key : sizeL 0 L1 = D.size ↔ (((D.size : Int) == 0) || (endsL 0 0 L).any (fun e => e == (D.size : Int))) = true := by
    rw [Bool.or_eq_true, beq_iff_eq, List.any_eq_true]
    constructor
    · intro h
      have ht1 : t1 = (⟨#[]⟩ : ByteArray) := size_nil (by omega)
      subst ht1
      obtain ⟨L2, t2, hL2⟩ := parse_ex P.size P (0 + L1.length) (Nat.le_refl _)
      have h3 := parse_app L1 0 D P L2 t2 hL1 hL2
      obtain ⟨rfl, _⟩ := parse_uniq _ _ 0 _ _ _ hL h3
      rcases L1 with _ | ⟨e, L1⟩
      · left
        rw [sizeL] at h
        omega
      · right
        have := ends_has (e :: L1) L2 0 0 (by simp)
        rw [h, Nat.zero_add] at this
        exact ⟨_, this, beq_self_eq_true _⟩
    · rintro (h | ⟨x, hx, e⟩)
      · have hD : D.size = 0 := by omega
        rw [hD] at hzL1
        omega
      · rw [beq_iff_eq] at e
        subst e
        obtain ⟨L3, h3⟩ := ends_cut L 0 0 D P _ hL (by rw [Nat.zero_add]; exact hx)
        obtain ⟨rfl, rfl⟩ := parse_uniq _ _ 0 _ _ _ hL1 h3
        rw [show (⟨#[]⟩ : ByteArray).size = 0 from rfl] at hzL1
        omega
  refine ⟨_, L, ?_, himpl, fun h => ⟨hL, ?_⟩⟩
  · unfold spec_l27Log.f
    rw [hw]
    refine ev_neg (by omega) (ev_pos (by omega) (Ev.bind (specOpen_ev _ L _ hL (by omega)) (Ev.bind (specOpen_ev _ L1 t1 hL1 (by omega)) (ev_pos (by omega) ?_))))
    rw [decide_eq_true (show (sizeL 0 L : Int) = ((D ++ P).size : Int) by omega), Bool.true_and]
    refine ev_ite (fun c => ev_now ?_) (fun c => ev_now ?_)
    · rw [key.1 (by omega), Bool.true_and]
    · have : (((D.size : Int) == 0) || (endsL 0 0 L).any (fun e => e == (D.size : Int))) = false := by
        rw [Bool.eq_false_iff]; intro h; have := key.2 h; omega
      rw [this]; rfl
  · rw [Bool.and_eq_true, Bool.and_eq_true] at h
    exact beq_iff_eq.1 h.2.2
end Go.Proofs.YtogjjcjnnclghaaGreatDoor.X
namespace Go.Proofs.YtogjjcjnnclghaaGreatDoor.X
open Go.RowKit Go.Proofs.YtogjjcjnnclghaaGreatDoorW.PrintWords Go.Proofs.YtogjjcjnnclghaaGreatDoorW.PrintLast Go.Proofs.YtogjjcjnnclghaaGreatDoorW.PrintMore
attribute [local go_sem] max2_int min2_int max_two min_two max_three min_three max_four min_four   -- for this text's walks alone
set_option linter.unusedVariables false
set_option linter.unusedSimpArgs false
attribute [-simp] ByteArray.size_append ByteArray.size_extract
attribute [-go_sem] ByteArray.size_append'

/-! ### spec_IsValidConsole: function 6 -/
def spec_IsValidConsole.f (k : Nat) (l0_0 : List (S79)) (l0_1 : List (S82)) (l0_2 : List (S57)) (a0_3 : ByteArray) (a0_4 : ByteArray) (a0_5 : Int) : Option (Bool) := (spec_l28Good.f k l0_0 l0_1 l0_2 a0_3 a0_4 a0_5).bind fun t102 => (some t102)
set_option maxHeartbeats 8000000 in
set_option maxRecDepth 100000 in
theorem spec_IsValidConsole.calls (k : Nat) (A0_0 : Option Addr) (c0_0 : Nat) (l0_0 : List (S79)) (A0_1 : Option Addr) (c0_1 : Nat) (l0_1 : List (S82)) (A0_2 : Option Addr) (c0_2 : Nat) (l0_2 : List (S57)) (a0_3 : ByteArray) (a0_4 : ByteArray) (a0_5 : Int) (r : Bool) (w : World) (hr0_0 : Kd.C k79 w A0_0 l0_0.length l0_0) (hc0_0 : l0_0.length ≤ c0_0) (hr0_1 : Kd.C k82 w A0_1 l0_1.length l0_1) (hc0_1 : l0_1.length ≤ c0_1) (hr0_2 : Kd.C k57 w A0_2 l0_2.length l0_2) (hc0_2 : l0_2.length ≤ c0_2) (h : spec_IsValidConsole.f k l0_0 l0_1 l0_2 a0_3 a0_4 a0_5 = some r) :
  Calls Tryz.prog 6 #[.agg #[.slice A0_0 l0_0.length c0_0, .slice A0_1 l0_1.length c0_1, .slice A0_2 l0_2.length c0_2, .string a0_3, .string a0_4, .int .i64 a0_5]] w fun e w' => e = .returned (.bool r) ∧ Below w.heap.size w w' := by
 (have hu40 := Tryz.underlying40); (have HR0_0 := Aside0.mk hr0_0); (have HC0_0 := Aside0.mk hc0_0); clear hr0_0 hc0_0; (have HR0_1 := Aside0.mk hr0_1); (have HC0_1 := Aside0.mk hc0_1); clear hr0_1 hc0_1; (have HR0_2 := Aside0.mk hr0_2); (have HC0_2 := Aside0.mk hc0_2); clear hr0_2 hc0_2; (have HB := Aside0.mk (Below.refl w.heap.size w)); (unfold spec_IsValidConsole.f at h); (have H := h); clear h; (obtain ⟨t102, A2, H⟩ := obS H); (obtain rfl := Option.some.inj H); (go_enter Tryz.func6, Tryz.ntmps6); (go_wp2_with (first | ((with_reducible refine gate_dst (N := 1) rfl ?_); refine box_event ?hg (N := 1) ?hd (cs := #[.slice A0_0 l0_0.length c0_0, .slice A0_1 l0_1.length c0_1, .slice A0_2 l0_2.length c0_2, .string a0_3, .string a0_4, .int .i64 a0_5]) (t := 40) ?hr ?_; (case hd => rfl); (case hg => rfl); (case hr => first | (go_simp; done) | (go_simp; rfl)); intro gb101 hg w3 hbox hb; have hB_ := zI hb HB; have n0_ := Aside0.mk (below_step hB_ hb); have n1_ := Aside0.mk (hbox); have n2_ := Aside0.mk (bx0 hg hB_); have n3_ := n2_; clear HB; have HB := n0_; have BK101 := n1_; have GW101 := n2_; have GE101 := n3_; clear n0_ n1_ n2_ n3_ hB_ hb hbox hg; have hcz4_0 := cz BK101.out 0; have hcz4_1 := cz BK101.out 1; have hcz4_2 := cz BK101.out 2; have hcz4_3 := cz BK101.out 3; have hcz4_4 := cz BK101.out 4; have hcz4_5 := cz BK101.out 5; have hfz4_0 := blk_frozen BK101.out 0; have hfz4_1 := blk_frozen BK101.out 1; have hfz4_2 := blk_frozen BK101.out 2; have hfz4_3 := blk_frozen BK101.out 3; have hfz4_4 := blk_frozen BK101.out 4; have hfz4_5 := blk_frozen BK101.out 5) | ((with_reducible refine gate_callee (f := 15) rfl ?_); refine gL (some 4) Tryz.func15 #[.agg #[.slice A0_0 l0_0.length c0_0, .slice A0_1 l0_1.length c0_1, .slice A0_2 l0_2.length c0_2, .string a0_3, .string a0_4, .int .i64 a0_5]] ?_; (with_reducible refine (spec_l28Good.calls k _ _ l0_0 _ _ l0_1 _ _ l0_2 a0_3 a0_4 a0_5 t102 _ ?side1 ?side2 ?side3 ?side4 ?side5 ?side6 A2.out).mono ?_); (case side1 => exact Kd.C_below HR0_0.out (eI HB)); (case side2 => exact HC0_0.out); (case side3 => exact Kd.C_below HR0_1.out (eI HB)); (case side4 => exact HC0_1.out); (case side5 => exact Kd.C_below HR0_2.out (eI HB)); (case side6 => exact HC0_2.out); rintro e w5 ⟨rfl, hb⟩; refine ⟨_, rfl, ?_⟩; have n0_ := Aside0.mk (kbI hb BK101); have n1_ := Aside0.mk (sI hb HB); clear BK101 HB; have BK101 := n0_; have HB := n1_; clear n0_ n1_; (try clear hb); (try clear hb2); (try clear hk); (try clear hi)))); go_ret; (exact ⟨rfl, eI HB⟩)

end Go.Proofs.YtogjjcjnnclghaaGreatDoor.X
set_option linter.unusedVariables false
set_option linter.unusedSimpArgs false
namespace Go.Proofs.YtogjjcjnnclghaaGreatDoor.X
open Go.RowKit Go.Proofs.YtogjjcjnnclghaaGreatDoorW.PrintWords Go.Proofs.YtogjjcjnnclghaaGreatDoor.E
theorem u64_pos (i : Nat) (h : i ≤ 10) : 0 ≤ IntKind.u64.wrap (i : Int) := by
  have d : ∀ j : Fin 11, 0 ≤ IntKind.u64.wrap ((j.val : Nat) : Int) := by decide +kernel
  exact d ⟨i, by omega⟩
theorem bit_zero (i : Nat) (h : i ≤ 10) : Go.bits .and .i64 (shr .i64 0 (IntKind.u64.wrap (i : Int))) 1 = 0 := by
  have d : ∀ j : Fin 11, Go.bits .and .i64 (shr .i64 0 (IntKind.u64.wrap ((j.val : Nat) : Int))) 1 = 0 := by decide +kernel
  exact d ⟨i, by omega⟩
theorem rd_zeros (n i : Nat) : rd (List.replicate n 0) (i : Int) = 0 := by
  rw [rd_nat, List.getD_eq_getElem?_getD, List.getElem?_replicate]
  split <;> rfl
theorem later1_ev (n : Nat) (hn : n ≤ 10) : ∀ (m i : Nat), n - i = m → i ≤ n → Ev (fun k => spec_l4Later.l1 k (List.replicate n 0) (i : Int)) (List.replicate n 0) := by
  have hl : (List.replicate n (0 : Int)).length = n := List.length_replicate
  intro m
  induction m with
  | zero =>
    intro i hm hi
    exact Ev.step (fun k => rfl) (ev_neg (by rw [hl]; omega) (ev_now rfl))
  | succ m ih =>
    intro i hm hi
    have h1 := ih (i + 1) (by omega) (by omega)
    refine Ev.step (fun k => rfl) (ev_pos (by rw [hl]; omega) ?_)
    have inner : ∀ (q j : Nat), n - j = q → j ≤ n → Ev (fun k => spec_l4Later.l2 k (List.replicate n 0) (i : Int) (j : Int)) (List.replicate n 0) := by
      intro q
      induction q with
      | zero =>
        intro j hq hj
        refine Ev.step (fun k => rfl) (ev_neg (by rw [hl]; omega) ?_)
        rw [wrap_succ (show i < n by omega) (by omega)]
        exact h1
      | succ q ih2 =>
        intro j hq hj
        refine Ev.step (fun k => rfl) (ev_pos (by rw [hl]; omega) (ev_pos (by omega) (ev_pos (u64_pos i (by omega)) (ev_neg (by rw [rd_zeros, bit_zero i (by omega)]; omega) ?_))))
        rw [wrap_succ (show j < n by omega) (by omega)]
        exact ih2 (j + 1) (by omega) (by omega)
    exact inner n 0 (by omega) (by omega)
theorem consistent_ev (cs : List S79) (h : cs.length ≤ 10) : Ev (fun k => spec_l4Consistent.f k cs []) true := by
  have hl : (List.replicate cs.length (0 : Int)).length = cs.length := List.length_replicate
  have hlater : Ev (fun k => spec_l4Later.f k cs []) (List.replicate cs.length 0) := by
    unfold spec_l4Later.f
    rw [Int.toNat_natCast]
    refine ev_pos (by omega) (ev_pos (by omega) (Ev.step (fun k => rfl) (ev_neg (by simp) ?_)))
    exact later1_ev cs.length h cs.length 0 (by omega) (by omega)
  unfold spec_l4Consistent.f
  refine Ev.bind hlater ?_
  refine ev_same (L := fun k i => spec_l4Consistent.l0 k (List.replicate cs.length 0) i) cs.length (Ev.step (fun k => rfl) (ev_neg (by rw [hl]; omega) (ev_now rfl))) (fun i hi hy => ?_)
  refine Ev.step (fun k => rfl) (ev_pos (by rw [hl]; omega) (ev_pos (by omega) (ev_bind0 (show spec_l4Bit.f (rd (List.replicate cs.length 0) (i : Int)) (i : Int) = some false from ?_) (ev_neg (by simp) ?_))))
  · unfold spec_l4Bit.f
    rw [if_pos (u64_pos i (by omega)), rd_zeros, bit_zero i (by omega)]
    rfl
  · rw [wrap_succ hi (by omega)]
    exact hy
def IvP (a b : Int) : Prop := (-20000 ≤ a ∧ a ≤ 2100) ∧ (-20000 ≤ b ∧ b ≤ 2100) ∧ a ≤ b
instance (a b : Int) : Decidable (IvP a b) := by unfold IvP; exact inferInstance
theorem iv_dec {a b : Int} {p q r : Prop} [Decidable p] [Decidable q] [Decidable r] (hp : p ↔ (-20000 ≤ a ∧ a ≤ 2100)) (hq : q ↔ (-20000 ≤ b ∧ b ≤ 2100)) (hr : r ↔ a ≤ b) : (if decide p = true then (if decide q = true then some (decide r) else some false) else some false) = some (decide (IvP a b)) := by
  by_cases c1 : p
  · rw [if_pos (decide_eq_true c1)]
    by_cases c2 : q
    · rw [if_pos (decide_eq_true c2)]
      congr 1
      rw [decide_eq_decide]
      exact ⟨fun h => ⟨hp.1 c1, hq.1 c2, hr.1 h⟩, fun h => hr.2 h.2.2⟩
    · rw [if_neg (by simpa using c2), decide_eq_false (fun h => c2 (hq.2 h.2.1))]
  · rw [if_neg (by simpa using c1), decide_eq_false (fun h => c1 (hp.2 h.1))]
theorem isInterval_eq (a b : Int) : impl_isInterval.f a b = some (decide (IvP a b)) := by
  have hy : ∀ z, impl_isYear.f z = some (decide (-20000 ≤ z ∧ z ≤ 2100)) := fun z => by unfold impl_isYear.f; rw [implIn_eq]; rfl
  unfold impl_isInterval.f
  rw [hy, Option.bind_some, hy, Option.bind_some]
  exact iv_dec Iff.rfl Iff.rfl Iff.rfl
theorem l9Interval_eq (a b : Int) : spec_l9Interval.f a b = some (decide (IvP a b)) := by
  have hy : ∀ z, spec_l9Year.f z = some (decide (-20000 ≤ z ∧ z ≤ 2100)) := fun z => by unfold spec_l9Year.f; rw [specIn_eq]; rfl
  unfold spec_l9Interval.f
  rw [hy, Option.bind_some, hy, Option.bind_some]
  exact iv_dec Iff.rfl Iff.rfl Iff.rfl
def DatP (cs : List S79) (l : List S57) (i : Nat) : Prop := 0 ≤ findC cs (rd_T57 l i).f0 ∧ IvP (rd_T57 l i).f1.f0 (rd_T57 l i).f1.f1 ∧ (0 < i → (rd_T57 l ((i - 1 : Nat) : Int)).f0 < (rd_T57 l i).f0)
instance (cs : List S79) (l : List S57) (i : Nat) : Decidable (DatP cs l i) := by unfold DatP; exact inferInstance
def evidB (cs : List S79) (l : List S57) : Bool := (List.range l.length).all (fun i => decide (DatP cs l i))
theorem implEvid_ev (cs : List S79) (rs : List S82) (l : List S57) (hl : l.length ≤ 9223372036854775807) (D P : ByteArray) (n : Int) : Ev (fun k => impl_IsValidConsole.l0 k l (l.length : Int) 0 cs rs l D P n) (evidB cs l) := by
  have h := ev_all0 (L := fun k i => impl_IsValidConsole.l0 k l (l.length : Int) i cs rs l D P n) l.length (fun i => decide (DatP cs l i)) false true (fun _ => Ev.step (fun k => rfl) (ev_neg (by omega) (ev_now rfl))) ?h1 ?h2
  case h1 =>
    intro i hi _ hc y hy
    obtain ⟨c1, c2, c3⟩ := of_decide_eq_true hc
    refine Ev.step (fun k => rfl) (ev_pos (by omega) (ev_pos (by omega) (ev_pos (by omega) (ev_bind0 (indexOf_eq _ _ _) (ev_neg (by omega) (ev_bind0 (isInterval_eq _ _) (ev_pos (decide_eq_true c2) ?_)))))))
    rw [wrap_succ hi hl]
    rcases Nat.eq_zero_or_pos i with h0 | h0
    · exact ev_neg (by omega) hy
    · rw [wrap_pred h0 (by omega)]
      exact ev_pos (by omega) (ev_pos (by omega) (ev_pos (by omega) (ev_neg (by have := c3 h0; omega) hy)))
  case h2 =>
    intro i hi _ hc
    have hc' := of_decide_eq_false hc
    refine Ev.step (fun k => rfl) (ev_pos (by omega) (ev_pos (by omega) (ev_pos (by omega) (ev_bind0 (indexOf_eq _ _ _) (ev_ite (fun _ => ev_now rfl) (fun c1 => ev_bind0 (isInterval_eq _ _) (ev_ite (fun c2 => ?_) (fun _ => ev_now rfl))))))))
    rcases Nat.eq_zero_or_pos i with h0 | h0
    · exact absurd ⟨by omega, of_decide_eq_true c2, fun h => by omega⟩ hc'
    · rw [wrap_pred h0 (by omega)]
      exact ev_pos (by omega) (ev_pos (by omega) (ev_pos (by omega) (ev_pos (Classical.byContradiction fun e => hc' ⟨by omega, of_decide_eq_true c2, fun _ => by omega⟩) (ev_now rfl))))
  refine ev_cast h ?_
  unfold evidB
  cases (List.range l.length).all (fun i => decide (DatP cs l i)) <;> rfl
theorem specEvid_ev (cs : List S79) (rs : List S82) (l : List S57) (hl : l.length ≤ 9223372036854775807) (hr : recOk cs rs = true) : Ev (fun k => spec_l28Evidence.f k cs rs l) (evidB cs l) := by
  have hcl : cs.length ≤ 10 := by
    unfold recOk at hr
    rw [Bool.and_eq_true] at hr
    exact (of_decide_eq_true hr.1).1
  have hr0 : recOk cs [] = true := by
    unfold recOk at hr ⊢
    rw [Bool.and_eq_true, Bool.and_eq_true] at hr
    rw [hr.2.1, decide_eq_true (show cs.length ≤ 10 ∧ ([] : List S82).length ≤ 24 from ⟨hcl, by simp⟩)]
    rfl
  have hf : ∀ n, Ev (fun k => spec_l2Find.f k cs [] n) (findC cs n) := fun n => l2Find_ev cs [] n (by omega)
  have h5 : Ev (fun k => spec_l5Good.f k cs []) true := by
    unfold spec_l5Good.f
    exact Ev.bind (specRecord_ev cs []) (ev_pos hr0 (Ev.bind (consistent_ev cs hcl) (ev_now rfl)))
  have h := ev_all0 (L := fun k i => spec_l9Good.l0 k l i cs []) l.length (fun i => decide (DatP cs l i)) false true (fun _ => Ev.step (fun k => rfl) (ev_neg (by omega) (ev_now rfl))) ?h1 ?h2
  case h1 =>
    intro i hi _ hc y hy
    obtain ⟨c1, c2, c3⟩ := of_decide_eq_true hc
    refine Ev.step (fun k => rfl) (ev_pos (by omega) (ev_pos (by omega) (Ev.bind (hf _) (ev_neg (by omega) (ev_bind0 (l9Interval_eq _ _) (ev_pos (decide_eq_true c2) ?_))))))
    rw [wrap_succ hi hl]
    rcases Nat.eq_zero_or_pos i with h0 | h0
    · exact ev_neg (by omega) hy
    · rw [wrap_pred h0 (by omega)]
      exact ev_pos (by omega) (ev_pos (by omega) (ev_pos (by omega) (ev_neg (by have := c3 h0; omega) hy)))
  case h2 =>
    intro i hi _ hc
    have hc' := of_decide_eq_false hc
    refine Ev.step (fun k => rfl) (ev_pos (by omega) (ev_pos (by omega) (Ev.bind (hf _) (ev_ite (fun _ => ev_now rfl) (fun c1 => ev_bind0 (l9Interval_eq _ _) (ev_ite (fun c2 => ?_) (fun _ => ev_now rfl)))))))
    rcases Nat.eq_zero_or_pos i with h0 | h0
    · exact absurd ⟨by omega, of_decide_eq_true c2, fun h => by omega⟩ hc'
    · rw [wrap_pred h0 (by omega)]
      exact ev_pos (by omega) (ev_pos (by omega) (ev_pos (by omega) (ev_pos (Classical.byContradiction fun e => hc' ⟨by omega, of_decide_eq_true c2, fun _ => by omega⟩) (ev_now rfl))))
  unfold spec_l28Evidence.f spec_l9Good.f
  refine Ev.bind (show Ev (fun k => (spec_l5Good.f k cs []).bind fun t102 => (if t102 = true then (spec_l9Good.l0 k l 0 cs []) else (some false))) (evidB cs l) from Ev.bind h5 (ev_pos rfl (ev_cast h ?_))) (ev_now rfl)
  unfold evidB
  cases (List.range l.length).all (fun i => decide (DatP cs l i)) <;> rfl
theorem cons_ev2 (cs : List S79) (rs : List S82) (l : List S57) (hl : l.length ≤ 9223372036854775807) (D P : ByteArray) (n : Int) (hs : D.size + P.size ≤ 4194304) : ∃ b, Ev (fun k => spec_l28Good.f k cs rs l D P n) b ∧ Ev (fun k => impl_IsValidConsole.f k cs rs l D P n) b ∧ (b = true → recOk cs rs = true ∧ evidB cs l = true) := by
  obtain ⟨b, L, h1, h2, h3⟩ := log_ev D P n hs
  refine ⟨recOk cs rs && (evidB cs l && b), ?_, ?_, fun h => by rw [Bool.and_eq_true, Bool.and_eq_true] at h; exact ⟨h.1, h.2.1⟩⟩
  · unfold spec_l28Good.f
    refine Ev.bind (specRecord_ev cs rs) (ev_ite (fun c => ?_) (fun c => ev_now ?_))
    · rw [c, Bool.true_and]
      refine Ev.bind (specEvid_ev cs rs l hl c) (ev_ite (fun d => ?_) (fun d => ev_now ?_))
      · rw [d, Bool.true_and]
        exact Ev.bind h1 (ev_now rfl)
      · rw [Bool.not_eq_true] at d; rw [d, Bool.false_and]
    · rw [Bool.not_eq_true] at c; rw [c, Bool.false_and]
  · unfold impl_IsValidConsole.f
    refine Ev.bind (implRecord_ev cs rs) (ev_ite (fun c => ?_) (fun c => ?_))
    · rw [c, Bool.true_and]
      refine Ev.bind (show Ev (fun k => impl_IsValidLog.f k D P n) b from Ev.bind h2 (ev_now rfl)) (Ev.step (fun k => rfl) (ev_ite (fun d => ev_now ?_) (fun d => ?_)))
      · rw [Bool.not_eq_true'] at d; rw [d, Bool.and_false]
      · have : b = true := by cases b <;> simp_all
        rw [this, Bool.and_true]
        exact implEvid_ev cs rs l hl D P n
    · rw [Bool.not_eq_true] at c; rw [c, Bool.false_and]
      exact Ev.step (fun k => rfl) (ev_now rfl)
end Go.Proofs.YtogjjcjnnclghaaGreatDoor.X
set_option linter.unusedVariables false
set_option linter.unusedSimpArgs false
namespace Go.Proofs.YtogjjcjnnclghaaGreatDoor.X
open Go.RowKit Go.Proofs.YtogjjcjnnclghaaGreatDoorW.PrintWords Go.Proofs.YtogjjcjnnclghaaGreatDoor.E
theorem itoaE (n : Int) (h0 : -9223372036854775808 ≤ n) (h1 : n ≤ 9223372036854775807) : strconv_Itoa.f n = some (numB n) := by unfold strconv_Itoa.f; rw [if_pos ⟨h0, h1⟩]; rfl
def eC : ByteArray := ⟨#[67, 111, 110, 116, 101, 120, 116, 32]⟩
def eIs : ByteArray := ⟨#[32, 105, 115, 32]⟩
def eLies : ByteArray := ⟨#[32, 108, 105, 101, 115, 32, 97, 98, 111, 118, 101, 32, 99, 111, 110, 116, 101, 120, 116, 32]⟩
def kT (k : Int) : ByteArray := if k = 1 then ⟨#[97, 32, 100, 101, 112, 111, 115, 105, 116]⟩ else if k = 2 then ⟨#[97, 32, 99, 117, 116]⟩ else if k = 3 then ⟨#[97, 32, 115, 116, 114, 117, 99, 116, 117, 114, 101]⟩ else ⟨#[110, 97, 116, 117, 114, 97, 108]⟩
def ctxLine (x : S79) : ByteArray := (((eC ++ numB x.f0) ++ eIs) ++ kT x.f1) ++ ⟨#[46]⟩
def relLine (x : S82) : ByteArray := (((eC ++ numB x.f0) ++ eLies) ++ numB x.f1) ++ ⟨#[46]⟩
def nlStep (s l : ByteArray) : ByteArray := s ++ (l ++ ⟨#[10]⟩)
def recText (cs : List S79) (rs : List S82) : ByteArray := (cs.map ctxLine ++ rs.map relLine).foldl nlStep ⟨#[]⟩
theorem kT_eq (k : Int) (h : 1 ≤ k ∧ k ≤ 4) : impl_kindText.f k = some (kT k) ∧ (⟨#[32]⟩ : ByteArray) ++ rdOf ByteArray.empty [(⟨#[]⟩ : ByteArray), (⟨#[105, 115, 32, 97, 32, 100, 101, 112, 111, 115, 105, 116, 46]⟩ : ByteArray), (⟨#[105, 115, 32, 97, 32, 99, 117, 116, 46]⟩ : ByteArray), (⟨#[105, 115, 32, 97, 32, 115, 116, 114, 117, 99, 116, 117, 114, 101, 46]⟩ : ByteArray), (⟨#[105, 115, 32, 110, 97, 116, 117, 114, 97, 108, 46]⟩ : ByteArray)] k = (eIs ++ kT k) ++ ⟨#[46]⟩ ∧ (kT k).size ≤ 11 ∧ (rdOf ByteArray.empty [(⟨#[]⟩ : ByteArray), (⟨#[105, 115, 32, 97, 32, 100, 101, 112, 111, 115, 105, 116, 46]⟩ : ByteArray), (⟨#[105, 115, 32, 97, 32, 99, 117, 116, 46]⟩ : ByteArray), (⟨#[105, 115, 32, 97, 32, 115, 116, 114, 117, 99, 116, 117, 114, 101, 46]⟩ : ByteArray), (⟨#[105, 115, 32, 110, 97, 116, 117, 114, 97, 108, 46]⟩ : ByteArray)] k).size ≤ 15 := by
  have hk : k = 1 ∨ k = 2 ∨ k = 3 ∨ k = 4 := by omega
  rcases hk with rfl | rfl | rfl | rfl <;> exact ⟨by decide +kernel, by decide +kernel, by decide +kernel, by decide +kernel⟩
theorem nl_size : ∀ (ls : List ByteArray) (s : ByteArray) (c : Nat), (∀ l ∈ ls, l.size ≤ c) → (ls.foldl nlStep s).size ≤ s.size + (c + 1) * ls.length
  | [], s, c, _ => Nat.le_refl _
  | l :: ls, s, c, h => by
    have h1 := nl_size ls (nlStep s l) c (fun x hx => h x (List.mem_cons_of_mem _ hx))
    have h2 := h l (List.mem_cons_self ..)
    have h3 : (nlStep s l).size = s.size + (l.size + 1) := by unfold nlStep; rw [ByteArray.size_append, ByteArray.size_append]; rfl
    rw [List.foldl_cons, List.length_cons, Nat.mul_succ]
    omega
theorem withNl_ev (ls : List ByteArray) (hb : ∀ l ∈ ls, l.size ≤ 1000) (hl : ls.length ≤ 4000000) : Ev (fun k => impl_withNewlines.f k ls) (ls.foldl nlStep ⟨#[]⟩) := by
  have h := ev_scan0 (L := fun k (s : ByteArray) i => impl_withNewlines.l0 k s ls (ls.length : Int) i) (G := fun s i (r : List ByteArray) => r.foldl nlStep s) (fun s i r => s.size ≤ 1001 * i) ls (⟨#[]⟩ : ByteArray) (Nat.le_refl _) ?h1 ?h2
  case h1 =>
    intro s _
    exact Ev.step (fun k => rfl) (ev_neg (by omega) (ev_now rfl))
  case h2 =>
    intro s i x r hI hi hd hg hr
    have hx : x.size ≤ 1000 := hb x (List.mem_of_mem_drop (hd ▸ List.mem_cons_self ..))
    have hrd : rdOf ByteArray.empty ls (i : Int) = x := by unfold rdOf; rw [Int.toNat_natCast]; exact hg _
    have hz : (x ++ (⟨#[10]⟩ : ByteArray)).size = x.size + 1 := by rw [ByteArray.size_append]; rfl
    refine Ev.step (fun k => rfl) (ev_pos (by omega) (ev_pos (by omega) (ev_pos (by omega) ?_)))
    rw [hrd, wrap_succ hi (by omega)]
    refine ev_pos (by omega) (ev_pos (by omega) ?_)
    exact hr (nlStep s x) (by unfold nlStep; rw [ByteArray.size_append, hz]; omega)
  exact h
def in64 (n : Int) : Prop := -9223372036854775808 ≤ n ∧ n ≤ 9223372036854775807
theorem sz8 : eC.size = 8 := rfl
theorem sz4 : eIs.size = 4 := rfl
theorem sz20 : eLies.size = 20 := rfl
theorem sz1 : (⟨#[46]⟩ : ByteArray).size = 1 := rfl
theorem relLine_size (x : S82) (h0 : in64 x.f0) (h1 : in64 x.f1) : (relLine x).size ≤ 71 := by
  have a := numB_size x.f0 h0.1 h0.2
  have b := numB_size x.f1 h1.1 h1.2
  unfold relLine
  simp only [ByteArray.size_append, sz8, sz20, sz1]
  omega
theorem ctxLine_size (x : S79) (h0 : in64 x.f0) (h1 : 1 ≤ x.f1 ∧ x.f1 ≤ 4) : (ctxLine x).size ≤ 45 := by
  have a := numB_size x.f0 h0.1 h0.2
  have b := (kT_eq x.f1 h1).2.2.1
  unfold ctxLine
  simp only [ByteArray.size_append, sz8, sz4, sz1]
  omega
theorem implRelText_ev (rs : List S82) (hr : ∀ x ∈ rs, in64 x.f0 ∧ in64 x.f1) (hl : rs.length ≤ 24) (out : List ByteArray) (ho : out.length ≤ 10) (hb : ∀ l ∈ out, l.size ≤ 1000) : Ev (fun k => impl_RecordToEnglish.l1 k out rs (rs.length : Int) 0) ((out ++ rs.map relLine).foldl nlStep ⟨#[]⟩, true) := by
  have h := ev_scan0 (L := fun k (o : List ByteArray) i => impl_RecordToEnglish.l1 k o rs (rs.length : Int) i) (G := fun o i (r : List S82) => ((o ++ r.map relLine).foldl nlStep ⟨#[]⟩, true)) (fun o i r => o.length ≤ 10 + i ∧ ∀ l ∈ o, l.size ≤ 1000) rs out ⟨by omega, hb⟩ ?h1 ?h2
  case h1 =>
    intro o ho
    rw [List.map_nil, List.append_nil]
    exact Ev.step (fun k => rfl) (ev_neg (by omega) (Ev.bind (withNl_ev o ho.2 (by omega)) (ev_now rfl)))
  case h2 =>
    intro o i x r hI hi hd hg hk
    have hx := hr x (List.mem_of_mem_drop (hd ▸ List.mem_cons_self ..))
    have a := numB_size x.f0 hx.1.1 hx.1.2
    have b := numB_size x.f1 hx.2.1 hx.2.2
    have hrd : rd_T82 rs (i : Int) = x := by unfold rd_T82; rw [Int.toNat_natCast]; exact hg _
    refine Ev.step (fun k => rfl) (ev_pos (by omega) (ev_pos (by omega) (ev_pos (by omega) ?_)))
    rw [hrd, wrap_succ hi (by omega)]
    refine ev_bind0 (itoaE x.f0 hx.1.1 hx.1.2) (ev_pos (by omega) (ev_pos ?_ (ev_bind0 (itoaE x.f1 hx.2.1 hx.2.2) (ev_pos ?_ (ev_pos ?_ (ev_pos (by omega) ?_))))))
    · show (eC ++ numB x.f0).size + 20 ≤ _
      rw [ByteArray.size_append, sz8]; omega
    · show ((eC ++ numB x.f0) ++ eLies).size + (numB x.f1).size ≤ _
      rw [ByteArray.size_append, ByteArray.size_append, sz8, sz20]; omega
    · show (((eC ++ numB x.f0) ++ eLies) ++ numB x.f1).size + 1 ≤ _
      rw [ByteArray.size_append, ByteArray.size_append, ByteArray.size_append, sz8, sz20]; omega
    · have h3 := hk (o ++ [relLine x]) ⟨by rw [List.length_append, List.length_singleton]; omega, fun l hl' => by
        rcases List.mem_append.1 hl' with h4 | h4
        · exact hI.2 l h4
        · have := relLine_size x hx.1 hx.2
          rw [List.mem_singleton.1 h4]; omega⟩
      rw [List.append_assoc] at h3
      exact h3
  exact h
theorem implCtxText_ev (cs : List S79) (rs : List S82) (hc : ∀ x ∈ cs, in64 x.f0 ∧ (1 ≤ x.f1 ∧ x.f1 ≤ 4)) (hcl : cs.length ≤ 10) (hr : ∀ x ∈ rs, in64 x.f0 ∧ in64 x.f1) (hl : rs.length ≤ 24) : Ev (fun k => impl_RecordToEnglish.l0 k [] cs (cs.length : Int) 0 cs rs) (recText cs rs, true) := by
  have h := ev_scan0 (L := fun k (o : List ByteArray) i => impl_RecordToEnglish.l0 k o cs (cs.length : Int) i cs rs) (G := fun o i (r : List S79) => ((o ++ (r.map ctxLine ++ rs.map relLine)).foldl nlStep ⟨#[]⟩, true)) (fun o i r => o.length ≤ i ∧ ∀ l ∈ o, l.size ≤ 1000) cs [] ⟨Nat.le_refl _, fun l hl => nomatch hl⟩ ?h1 ?h2
  case h1 =>
    intro o ho
    rw [List.map_nil, List.nil_append]
    exact Ev.step (fun k => rfl) (ev_neg (by omega) (implRelText_ev rs hr hl o (by omega) ho.2))
  case h2 =>
    intro o i x r hI hi hd hg hk
    have hx := hc x (List.mem_of_mem_drop (hd ▸ List.mem_cons_self ..))
    have a := numB_size x.f0 hx.1.1 hx.1.2
    have hkT := kT_eq x.f1 hx.2
    have hrd : rd_T79 cs (i : Int) = x := by unfold rd_T79; rw [Int.toNat_natCast]; exact hg _
    refine Ev.step (fun k => rfl) (ev_pos (by omega) (ev_pos (by omega) (ev_pos (by omega) ?_)))
    rw [hrd, wrap_succ hi (by omega)]
    refine ev_bind0 (itoaE x.f0 hx.1.1 hx.1.2) (ev_pos (by omega) (ev_pos ?_ (ev_bind0 hkT.1 (ev_pos ?_ (ev_pos ?_ (ev_pos (by omega) ?_))))))
    · show (eC ++ numB x.f0).size + 4 ≤ _
      rw [ByteArray.size_append, sz8]; omega
    · show ((eC ++ numB x.f0) ++ eIs).size + (kT x.f1).size ≤ _
      rw [ByteArray.size_append, ByteArray.size_append, sz8, sz4]; omega
    · show (((eC ++ numB x.f0) ++ eIs) ++ kT x.f1).size + 1 ≤ _
      rw [ByteArray.size_append, ByteArray.size_append, ByteArray.size_append, sz8, sz4]; omega
    · have h3 := hk (o ++ [ctxLine x]) ⟨by rw [List.length_append, List.length_singleton]; omega, fun l hl' => by
        rcases List.mem_append.1 hl' with h4 | h4
        · exact hI.2 l h4
        · have := ctxLine_size x hx.1 hx.2
          rw [List.mem_singleton.1 h4]; omega⟩
      rw [List.append_assoc] at h3
      exact h3
  exact h
end Go.Proofs.YtogjjcjnnclghaaGreatDoor.X
set_option linter.unusedVariables false
set_option linter.unusedSimpArgs false
namespace Go.Proofs.YtogjjcjnnclghaaGreatDoor.X
open Go.RowKit Go.Proofs.YtogjjcjnnclghaaGreatDoorW.PrintWords Go.Proofs.YtogjjcjnnclghaaGreatDoor.E
theorem rdC_mem {cs : List S79} {x : S79} (hx : x ∈ cs) : ∃ i, i < cs.length ∧ rd_T79 cs (i : Int) = x := by
  obtain ⟨i, hi, rfl⟩ := List.getElem_of_mem hx
  exact ⟨i, hi, by unfold rd_T79; rw [Int.toNat_natCast]; exact getD_in hi _⟩
theorem rdR_mem {rs : List S82} {x : S82} (hx : x ∈ rs) : ∃ i, i < rs.length ∧ rd_T82 rs (i : Int) = x := by
  obtain ⟨i, hi, rfl⟩ := List.getElem_of_mem hx
  exact ⟨i, hi, by unfold rd_T82; rw [Int.toNat_natCast]; exact getD_in hi _⟩
theorem findC_in {cs : List S79} (hc : ∀ x ∈ cs, (1 ≤ x.f0 ∧ x.f0 ≤ 999) ∧ (1 ≤ x.f1 ∧ x.f1 ≤ 4)) (n : Int) (hn : 0 ≤ findC cs n) : 1 ≤ n ∧ n ≤ 999 := by
  unfold findC at hn
  rcases idxG_spec (fun x : S79 => x.f0 == n) cs 0 with ⟨g, _⟩ | ⟨j, x, hj, g, g2, g3, _⟩
  · rw [g] at hn; omega
  · have e : x.f0 = n := by simpa using g3
    have := (hc x (List.mem_of_getElem? g2)).1
    omega
theorem recOk_spec {cs : List S79} {rs : List S82} (h : recOk cs rs = true) : cs.length ≤ 10 ∧ rs.length ≤ 24 ∧ (∀ x ∈ cs, (1 ≤ x.f0 ∧ x.f0 ≤ 999) ∧ (1 ≤ x.f1 ∧ x.f1 ≤ 4)) ∧ (∀ x ∈ rs, (1 ≤ x.f0 ∧ x.f0 ≤ 999) ∧ (1 ≤ x.f1 ∧ x.f1 ≤ 999)) := by
  unfold recOk relsB at h
  rw [Bool.and_eq_true, Bool.and_eq_true, decide_eq_true_eq, all_range, all_range] at h
  obtain ⟨⟨h1, h2⟩, h3, h4⟩ := h
  have hc : ∀ x ∈ cs, (1 ≤ x.f0 ∧ x.f0 ≤ 999) ∧ (1 ≤ x.f1 ∧ x.f1 ≤ 4) := by
    intro x hx
    obtain ⟨i, hi, e⟩ := rdC_mem hx
    obtain ⟨a, b, _⟩ := of_decide_eq_true (h3 i hi)
    rw [e] at a b
    exact ⟨a, b⟩
  have hf := fun n => findC_in hc n
  refine ⟨h1, h2, hc, fun x hx => ?_⟩
  obtain ⟨i, hi, e⟩ := rdR_mem hx
  obtain ⟨_, a, b, _⟩ := of_decide_eq_true (h4 i hi)
  rw [e] at a b
  exact ⟨hf _ a, hf _ b⟩
theorem ctxStep (s n t k : ByteArray) (h : (⟨#[32]⟩ : ByteArray) ++ t = (eIs ++ k) ++ ⟨#[46]⟩) : ((((s ++ eC) ++ n) ++ (⟨#[32]⟩ : ByteArray)) ++ t) ++ (⟨#[10]⟩ : ByteArray) = s ++ (((((eC ++ n) ++ eIs) ++ k) ++ (⟨#[46]⟩ : ByteArray)) ++ (⟨#[10]⟩ : ByteArray)) := by
  have e : ((((s ++ eC) ++ n) ++ (⟨#[32]⟩ : ByteArray)) ++ t) = ((s ++ eC) ++ n) ++ ((⟨#[32]⟩ : ByteArray) ++ t) := ByteArray.append_assoc
  rw [e, h]
  simp only [ByteArray.append_assoc]
theorem e2 : (⟨#[46, 10]⟩ : ByteArray) = (⟨#[46]⟩ : ByteArray) ++ (⟨#[10]⟩ : ByteArray) := by decide +kernel
theorem relStep (s n m : ByteArray) : ((((s ++ eC) ++ n) ++ eLies) ++ m) ++ (⟨#[46, 10]⟩ : ByteArray) = s ++ (((((eC ++ n) ++ eLies) ++ m) ++ (⟨#[46]⟩ : ByteArray)) ++ (⟨#[10]⟩ : ByteArray)) := by
  rw [e2]
  simp only [ByteArray.append_assoc]
theorem specRelText_ev (cs : List S79) (rs : List S82) (hr : ∀ x ∈ rs, (1 ≤ x.f0 ∧ x.f0 ≤ 999) ∧ (1 ≤ x.f1 ∧ x.f1 ≤ 999)) (hl : rs.length ≤ 24) (s : ByteArray) (hs : s.size ≤ 10000) : Ev (fun k => spec_l25Record.l1 k s 0 cs rs) ((rs.map relLine).foldl nlStep s) := by
  have h := ev_scan0 (L := fun k (s : ByteArray) i => spec_l25Record.l1 k s i cs rs) (G := fun s i (r : List S82) => (r.map relLine).foldl nlStep s) (fun s i r => s.size ≤ 10000 + 100 * i) rs s (by omega) ?h1 ?h2
  case h1 =>
    intro s _
    exact Ev.step (fun k => rfl) (ev_neg (by omega) (ev_now rfl))
  case h2 =>
    intro s i x r hI hi hd hg hk
    have hx := hr x (List.mem_of_mem_drop (hd ▸ List.mem_cons_self ..))
    have a := numB_size x.f0 (by omega) (by omega)
    have b := numB_size x.f1 (by omega) (by omega)
    have hrd : rd_T82 rs (i : Int) = x := by unfold rd_T82; rw [Int.toNat_natCast]; exact hg _
    refine Ev.step (fun k => rfl) (ev_pos (by omega) (ev_pos (by omega) (ev_pos (by omega) ?_)))
    rw [hrd, wrap_succ hi (by omega)]
    have z1 : ∀ t : ByteArray, (t ++ eC).size = t.size + 8 := fun t => by rw [ByteArray.size_append, sz8]
    have z2 : ∀ t : ByteArray, (t ++ eLies).size = t.size + 20 := fun t => by rw [ByteArray.size_append, sz20]
    refine Ev.bind (l1Num_ev x.f0 (by omega) (by omega)) (ev_pos ?_ (ev_pos ?_ (Ev.bind (l1Num_ev x.f1 (by omega) (by omega)) (ev_pos ?_ (ev_pos ?_ ?_)))))
    · show (s ++ eC).size + _ ≤ _
      rw [z1]; omega
    · show ((s ++ eC) ++ numB x.f0).size + _ ≤ _
      rw [ByteArray.size_append, z1]; omega
    · show (((s ++ eC) ++ numB x.f0) ++ eLies).size + _ ≤ _
      rw [z2, ByteArray.size_append, z1]; omega
    · show ((((s ++ eC) ++ numB x.f0) ++ eLies) ++ numB x.f1).size + _ ≤ _
      rw [ByteArray.size_append, z2, ByteArray.size_append, z1]; omega
    · have h3 := hk (nlStep s (relLine x)) (by
        have c := relLine_size x ⟨by omega, by omega⟩ ⟨by omega, by omega⟩
        unfold nlStep
        rw [ByteArray.size_append, ByteArray.size_append]
        have : (⟨#[10]⟩ : ByteArray).size = 1 := rfl
        omega)
      have e := relStep s (numB x.f0) (numB x.f1)
      rw [show nlStep s (relLine x) = _ from e.symm] at h3
      rw [List.map_cons, List.foldl_cons, show nlStep s (relLine x) = _ from e.symm]
      exact h3
  exact h
theorem specCtxText_ev (cs : List S79) (rs : List S82) (hc : ∀ x ∈ cs, (1 ≤ x.f0 ∧ x.f0 ≤ 999) ∧ (1 ≤ x.f1 ∧ x.f1 ≤ 4)) (hcl : cs.length ≤ 10) (hr : ∀ x ∈ rs, (1 ≤ x.f0 ∧ x.f0 ≤ 999) ∧ (1 ≤ x.f1 ∧ x.f1 ≤ 999)) (hl : rs.length ≤ 24) : Ev (fun k => spec_l25Record.f k cs rs) (recText cs rs) := by
  have h := ev_scan0 (L := fun k (s : ByteArray) i => spec_l25Record.l0 k s i cs rs) (G := fun s i (r : List S79) => (r.map ctxLine ++ rs.map relLine).foldl nlStep s) (fun s i r => s.size ≤ 100 * i) cs (⟨#[]⟩ : ByteArray) (Nat.le_refl _) ?h1 ?h2
  case h1 =>
    intro s hs
    rw [List.map_nil, List.nil_append]
    exact Ev.step (fun k => rfl) (ev_neg (by omega) (specRelText_ev cs rs hr hl s (by omega)))
  case h2 =>
    intro s i x r hI hi hd hg hk
    have hx := hc x (List.mem_of_mem_drop (hd ▸ List.mem_cons_self ..))
    have a := numB_size x.f0 (by omega) (by omega)
    obtain ⟨hk1, hk2, hk3, hk4⟩ := kT_eq x.f1 hx.2
    have hrd : rd_T79 cs (i : Int) = x := by unfold rd_T79; rw [Int.toNat_natCast]; exact hg _
    refine Ev.step (fun k => rfl) (ev_pos (by omega) (ev_pos (by omega) (ev_pos (by omega) ?_)))
    rw [hrd, wrap_succ hi (by omega)]
    have z1 : ∀ t : ByteArray, (t ++ eC).size = t.size + 8 := fun t => by rw [ByteArray.size_append, sz8]
    have z2 : ∀ t : ByteArray, (t ++ (⟨#[32]⟩ : ByteArray)).size = t.size + 1 := fun t => by rw [ByteArray.size_append]; rfl
    refine Ev.bind (l1Num_ev x.f0 (by omega) (by omega)) (ev_pos ?_ (ev_pos ?_ (ev_bind0 (show spec_l25Kinds.f = some _ from rfl) (ev_pos (by omega) (ev_pos ?_ (ev_pos ?_ (ev_pos ?_ ?_)))))))
    · show (s ++ eC).size + _ ≤ _
      rw [z1]; omega
    · show ((s ++ eC) ++ numB x.f0).size + _ ≤ _
      rw [ByteArray.size_append, z1]; omega
    · show x.f1 < (5 : Int)
      omega
    · show (((s ++ eC) ++ numB x.f0) ++ (⟨#[32]⟩ : ByteArray)).size + _ ≤ _
      rw [z2, ByteArray.size_append, z1]; omega
    · show ((((s ++ eC) ++ numB x.f0) ++ (⟨#[32]⟩ : ByteArray)) ++ rdOf ByteArray.empty _ x.f1).size + _ ≤ _
      rw [ByteArray.size_append, z2, ByteArray.size_append, z1]; omega
    · have h3 := hk (nlStep s (ctxLine x)) (by
        have c := ctxLine_size x ⟨by omega, by omega⟩ hx.2
        unfold nlStep
        rw [ByteArray.size_append, ByteArray.size_append]
        have : (⟨#[10]⟩ : ByteArray).size = 1 := rfl
        omega)
      have e := ctxStep s (numB x.f0) _ (kT x.f1) hk2
      rw [show nlStep s (ctxLine x) = _ from e.symm] at h3
      rw [List.map_cons, List.cons_append, List.foldl_cons, show nlStep s (ctxLine x) = _ from e.symm]
      exact h3
  exact h
end Go.Proofs.YtogjjcjnnclghaaGreatDoor.X
set_option linter.unusedVariables false
set_option linter.unusedSimpArgs false
namespace Go.Proofs.YtogjjcjnnclghaaGreatDoor.X
open Go.RowKit Go.Proofs.YtogjjcjnnclghaaGreatDoorW.PrintWords Go.Proofs.YtogjjcjnnclghaaGreatDoor.E
def yearB (y : Int) : ByteArray := if y > 0 then (⟨#[65, 68, 32]⟩ : ByteArray) ++ numB y else numB (1 - y) ++ (⟨#[32, 66, 67]⟩ : ByteArray)
theorem yearB_size (y : Int) (h0 : -20000 ≤ y) (h1 : y ≤ 2100) : (yearB y).size ≤ 24 := by
  unfold yearB
  split
  · rw [ByteArray.size_append]
    have := numB_size y (by omega) (by omega)
    have h3 : (⟨#[65, 68, 32]⟩ : ByteArray).size = 3 := rfl
    omega
  · rw [ByteArray.size_append]
    have := numB_size (1 - y) (by omega) (by omega)
    have h3 : (⟨#[32, 66, 67]⟩ : ByteArray).size = 3 := rfl
    omega
theorem yearText_eq (y : Int) (h0 : -20000 ≤ y) (h1 : y ≤ 2100) : impl_yearText.f y = some (yearB y) := by
  unfold impl_yearText.f yearB
  have e : wrap64 (1 - y) = 1 - y := wrap_id (by omega) (by omega)
  rw [e]
  by_cases c : y > 0
  · rw [if_pos c, if_pos c, itoaE _ (by omega) (by omega)]
    have := numB_size y (by omega) (by omega)
    exact if_pos (by omega)
  · rw [if_neg c, if_neg c, itoaE _ (by omega) (by omega)]
    have := numB_size (1 - y) (by omega) (by omega)
    exact if_pos (by omega)
theorem l25Year_ev (y : Int) (h0 : -20000 ≤ y) (h1 : y ≤ 2100) : Ev (fun k => spec_l25Year.f k y) (yearB y) := by
  unfold spec_l25Year.f yearB
  have e : wrap64 (1 - y) = 1 - y := wrap_id (by omega) (by omega)
  rw [e]
  by_cases c : y > 0
  · rw [if_pos c]
    have := numB_size y (by omega) (by omega)
    exact ev_pos c (Ev.bind (l1Num_ev _ (by omega) (by omega)) (ev_pos (by omega) (ev_now rfl)))
  · rw [if_neg c]
    have := numB_size (1 - y) (by omega) (by omega)
    exact ev_neg c (Ev.bind (l1Num_ev _ (by omega) (by omega)) (ev_pos (by omega) (ev_now rfl)))
def ivB (a b : Int) : ByteArray := if a = b then (⟨#[105, 110, 32]⟩ : ByteArray) ++ yearB a else (((⟨#[98, 101, 116, 119, 101, 101, 110, 32]⟩ : ByteArray) ++ yearB a) ++ (⟨#[32, 97, 110, 100, 32]⟩ : ByteArray)) ++ yearB b
theorem szB8 (x : ByteArray) : ((⟨#[98, 101, 116, 119, 101, 101, 110, 32]⟩ : ByteArray) ++ x).size = 8 + x.size := by rw [ByteArray.size_append]; rfl
theorem szB5 (x : ByteArray) : (x ++ (⟨#[32, 97, 110, 100, 32]⟩ : ByteArray)).size = x.size + 5 := by rw [ByteArray.size_append]; rfl
theorem ivB_size (a b : Int) (ha : -20000 ≤ a ∧ a ≤ 2100) (hb : -20000 ≤ b ∧ b ≤ 2100) : (ivB a b).size ≤ 61 := by
  have sa := yearB_size a ha.1 ha.2
  have sb := yearB_size b hb.1 hb.2
  unfold ivB
  split
  · rw [ByteArray.size_append]
    have h3 : (⟨#[105, 110, 32]⟩ : ByteArray).size = 3 := rfl
    omega
  · rw [ByteArray.size_append, szB5, szB8]
    omega
theorem intervalText_eq (a b : Int) (ha : -20000 ≤ a ∧ a ≤ 2100) (hb : -20000 ≤ b ∧ b ≤ 2100) : impl_intervalText.f a b = some (ivB a b) := by
  unfold impl_intervalText.f ivB
  have sa := yearB_size a ha.1 ha.2
  have sb := yearB_size b hb.1 hb.2
  rw [yearText_eq a ha.1 ha.2, yearText_eq b hb.1 hb.2]
  by_cases c : a = b
  · rw [if_pos c, if_pos c]
    exact if_pos (by omega)
  · rw [if_neg c, if_neg c]
    refine (if_pos (by omega)).trans ((if_pos (by rw [szB8]; omega)).trans (if_pos (by rw [szB5, szB8]; omega)))
theorem l25Interval_ev (a b : Int) (ha : -20000 ≤ a ∧ a ≤ 2100) (hb : -20000 ≤ b ∧ b ≤ 2100) : Ev (fun k => spec_l25Interval.f k a b) (ivB a b) := by
  unfold spec_l25Interval.f ivB
  have sa := yearB_size a ha.1 ha.2
  have sb := yearB_size b hb.1 hb.2
  by_cases c : a = b
  · rw [if_pos c]
    exact ev_pos c (Ev.bind (l25Year_ev a ha.1 ha.2) (ev_pos (by omega) (ev_now rfl)))
  · rw [if_neg c]
    exact ev_neg c (Ev.bind (l25Year_ev a ha.1 ha.2) (ev_pos (by omega) (ev_pos (by rw [szB8]; omega) (Ev.bind (l25Year_ev b hb.1 hb.2) (ev_pos (by rw [szB5, szB8]; omega) (ev_now rfl))))))
end Go.Proofs.YtogjjcjnnclghaaGreatDoor.X
set_option linter.unusedVariables false
set_option linter.unusedSimpArgs false
namespace Go.Proofs.YtogjjcjnnclghaaGreatDoor.X
open Go.RowKit Go.Proofs.YtogjjcjnnclghaaGreatDoorW.PrintWords Go.Proofs.YtogjjcjnnclghaaGreatDoor.E
def eWas : ByteArray := ⟨#[32, 119, 97, 115, 32, 102, 111, 114, 109, 101, 100, 32]⟩
theorem sz12 : eWas.size = 12 := rfl
def evLine (x : S57) : ByteArray := (((eC ++ numB x.f0) ++ eWas) ++ ivB x.f1.f0 x.f1.f1) ++ ⟨#[46]⟩
def evText (l : List S57) : ByteArray := (l.map evLine).foldl nlStep ⟨#[]⟩
def EvIn (l : List S57) : Prop := ∀ x ∈ l, (1 ≤ x.f0 ∧ x.f0 ≤ 999) ∧ (-20000 ≤ x.f1.f0 ∧ x.f1.f0 ≤ 2100) ∧ (-20000 ≤ x.f1.f1 ∧ x.f1.f1 ≤ 2100)
theorem evLine_size (x : S57) (h : (1 ≤ x.f0 ∧ x.f0 ≤ 999) ∧ (-20000 ≤ x.f1.f0 ∧ x.f1.f0 ≤ 2100) ∧ (-20000 ≤ x.f1.f1 ∧ x.f1.f1 ≤ 2100)) : (evLine x).size ≤ 103 := by
  have a := numB_size x.f0 (by omega) (by omega)
  have b := ivB_size x.f1.f0 x.f1.f1 h.2.1 h.2.2
  unfold evLine
  simp only [ByteArray.size_append, sz8, sz12, sz1]
  omega
theorem evText_size (l : List S57) (h : EvIn l) : (evText l).size ≤ 104 * l.length := by
  have := nl_size (l.map evLine) ⟨#[]⟩ 103 (fun y hy => by
    obtain ⟨x, hx, rfl⟩ := List.mem_map.1 hy
    exact evLine_size x (h x hx))
  rw [List.length_map] at this
  have h0 : (⟨#[]⟩ : ByteArray).size = 0 := rfl
  unfold evText
  omega
theorem implEvLines_ev (l : List S57) (h : EvIn l) (hl : l.length ≤ 2000000) : Ev (fun k => impl_evidenceLines.f k l) (l.map evLine) := by
  have h := ev_scan0 (L := fun k (o : List ByteArray) i => impl_evidenceLines.l0 k o l (l.length : Int) i) (G := fun o i (r : List S57) => o ++ r.map evLine) (fun o i r => o.length ≤ i) l [] (Nat.le_refl _) ?h1 ?h2
  case h1 =>
    intro o ho
    rw [List.map_nil, List.append_nil]
    exact Ev.step (fun k => rfl) (ev_neg (by omega) (ev_now rfl))
  case h2 =>
    intro o i x r hI hi hd hg hk
    have hx := h x (List.mem_of_mem_drop (hd ▸ List.mem_cons_self ..))
    have a := numB_size x.f0 (by omega) (by omega)
    have b := ivB_size x.f1.f0 x.f1.f1 hx.2.1 hx.2.2
    have hrd : rd_T57 l (i : Int) = x := by unfold rd_T57; rw [Int.toNat_natCast]; exact hg _
    refine Ev.step (fun k => rfl) (ev_pos (by omega) (ev_pos (by omega) (ev_pos (by omega) ?_)))
    rw [hrd, wrap_succ hi (by omega)]
    refine ev_bind0 (itoaE x.f0 (by omega) (by omega)) (ev_pos (by omega) (ev_pos ?_ (ev_bind0 (intervalText_eq _ _ hx.2.1 hx.2.2) (ev_pos ?_ (ev_pos ?_ (ev_pos (by omega) ?_))))))
    · show (eC ++ numB x.f0).size + 12 ≤ _
      rw [ByteArray.size_append, sz8]; omega
    · show ((eC ++ numB x.f0) ++ eWas).size + (ivB x.f1.f0 x.f1.f1).size ≤ _
      rw [ByteArray.size_append, ByteArray.size_append, sz8, sz12]; omega
    · show (((eC ++ numB x.f0) ++ eWas) ++ ivB x.f1.f0 x.f1.f1).size + 1 ≤ _
      rw [ByteArray.size_append, ByteArray.size_append, ByteArray.size_append, sz8, sz12]; omega
    · have h3 := hk (o ++ [evLine x]) (by rw [List.length_append, List.length_singleton]; omega)
      rw [List.append_assoc] at h3
      exact h3
  exact h
theorem implEvText_ev (l : List S57) (h : EvIn l) (hl : l.length ≤ 2000000) : Ev (fun k => impl_withNewlines.f k (l.map evLine)) (evText l) :=
  withNl_ev (l.map evLine) (fun y hy => by
    obtain ⟨x, hx, rfl⟩ := List.mem_map.1 hy
    have := evLine_size x (h x hx)
    omega) (by rw [List.length_map]; omega)
theorem evStep (s n m : ByteArray) : ((((s ++ eC) ++ n) ++ eWas) ++ m) ++ (⟨#[46, 10]⟩ : ByteArray) = s ++ (((((eC ++ n) ++ eWas) ++ m) ++ (⟨#[46]⟩ : ByteArray)) ++ (⟨#[10]⟩ : ByteArray)) := by
  rw [e2]
  simp only [ByteArray.append_assoc]
theorem specEvText_ev (l : List S57) (h : EvIn l) (hl : l.length ≤ 2000000) : Ev (fun k => spec_l25Evidence.f k l) (evText l) := by
  have h := ev_scan0 (L := fun k (s : ByteArray) i => spec_l25Evidence.l0 k l s i) (G := fun s i (r : List S57) => (r.map evLine).foldl nlStep s) (fun s i r => s.size ≤ 104 * i) l (⟨#[]⟩ : ByteArray) (Nat.le_refl _) ?h1 ?h2
  case h1 =>
    intro s _
    exact Ev.step (fun k => rfl) (ev_neg (by omega) (ev_now rfl))
  case h2 =>
    intro s i x r hI hi hd hg hk
    have hx := h x (List.mem_of_mem_drop (hd ▸ List.mem_cons_self ..))
    have a := numB_size x.f0 (by omega) (by omega)
    have b := ivB_size x.f1.f0 x.f1.f1 hx.2.1 hx.2.2
    have hrd : rd_T57 l (i : Int) = x := by unfold rd_T57; rw [Int.toNat_natCast]; exact hg _
    refine Ev.step (fun k => rfl) (ev_pos (by omega) (ev_pos (by omega) (ev_pos (by omega) ?_)))
    rw [hrd, wrap_succ hi (by omega)]
    have z1 : ∀ t : ByteArray, (t ++ eC).size = t.size + 8 := fun t => by rw [ByteArray.size_append, sz8]
    have z2 : ∀ t : ByteArray, (t ++ eWas).size = t.size + 12 := fun t => by rw [ByteArray.size_append, sz12]
    refine Ev.bind (l1Num_ev x.f0 (by omega) (by omega)) (ev_pos ?_ (ev_pos ?_ (Ev.bind (l25Interval_ev _ _ hx.2.1 hx.2.2) (ev_pos ?_ (ev_pos ?_ ?_)))))
    · show (s ++ eC).size + _ ≤ _
      rw [z1]; omega
    · show ((s ++ eC) ++ numB x.f0).size + _ ≤ _
      rw [ByteArray.size_append, z1]; omega
    · show (((s ++ eC) ++ numB x.f0) ++ eWas).size + _ ≤ _
      rw [z2, ByteArray.size_append, z1]; omega
    · show ((((s ++ eC) ++ numB x.f0) ++ eWas) ++ ivB x.f1.f0 x.f1.f1).size + _ ≤ _
      rw [ByteArray.size_append, z2, ByteArray.size_append, z1]; omega
    · have h3 := hk (nlStep s (evLine x)) (by
        have c := evLine_size x hx
        unfold nlStep
        rw [ByteArray.size_append, ByteArray.size_append]
        have : (⟨#[10]⟩ : ByteArray).size = 1 := rfl
        omega)
      have e := evStep s (numB x.f0) (ivB x.f1.f0 x.f1.f1)
      rw [show nlStep s (evLine x) = _ from e.symm] at h3
      rw [List.map_cons, List.foldl_cons, show nlStep s (evLine x) = _ from e.symm]
      exact h3
  exact h
end Go.Proofs.YtogjjcjnnclghaaGreatDoor.X
set_option linter.unusedVariables false
namespace Go.Proofs.YtogjjcjnnclghaaGreatDoor.X
open Go.RowKit Go.Proofs.YtogjjcjnnclghaaGreatDoorW.PrintWords Go.Proofs.YtogjjcjnnclghaaGreatDoor.E
def wt25 (x : S25) : Nat := x.f0.length + x.f1.length
def wt28 (x : S28) : Nat := x.f0.size + x.f1.size
def wt30 (x : S30) : Nat := (wt25 x.f0) + x.f1.length + (wt28 x.f2)
end Go.Proofs.YtogjjcjnnclghaaGreatDoor.X
set_option linter.unusedVariables false
namespace Go.Proofs.YtogjjcjnnclghaaGreatDoor.X
open Go.RowKit Go.Proofs.YtogjjcjnnclghaaGreatDoorW.PrintWords Go.Proofs.YtogjjcjnnclghaaGreatDoor.E
theorem laws_szContextS_ev (x : List (S100)) (g0 : x.length ≤ 9223372036854775807) (left : Int) (h0 : 0 ≤ left) (h1 : left ≤ 4611686018427387904) :
    Ev (fun k => laws_szContextS.f x left) (if ((x.length : Nat) : Int) ≤ left then left - ((x.length : Nat) : Int) else -1) := by
  unfold laws_szContextS.f
  have e0 : wrap64 (left - ((x.length : Nat) : Int)) = left - ((x.length : Nat) : Int) := wrap_id (by omega) (by omega)
  simp only [e0]
  by_cases c : ((x.length : Nat) : Int) ≤ left
  case neg => exact ev_pos (by omega) (ev_now (by first | rfl | rw [if_neg (by omega)]))
  refine ev_neg (by omega) ?_
  exact ev_now (by first | rfl | rw [if_pos (by omega)])
end Go.Proofs.YtogjjcjnnclghaaGreatDoor.X
set_option linter.unusedVariables false
namespace Go.Proofs.YtogjjcjnnclghaaGreatDoor.X
open Go.RowKit Go.Proofs.YtogjjcjnnclghaaGreatDoorW.PrintWords Go.Proofs.YtogjjcjnnclghaaGreatDoor.E
theorem laws_szRelationS_ev (x : List (S102)) (g0 : x.length ≤ 9223372036854775807) (left : Int) (h0 : 0 ≤ left) (h1 : left ≤ 4611686018427387904) :
    Ev (fun k => laws_szRelationS.f x left) (if ((x.length : Nat) : Int) ≤ left then left - ((x.length : Nat) : Int) else -1) := by
  unfold laws_szRelationS.f
  have e0 : wrap64 (left - ((x.length : Nat) : Int)) = left - ((x.length : Nat) : Int) := wrap_id (by omega) (by omega)
  simp only [e0]
  by_cases c : ((x.length : Nat) : Int) ≤ left
  case neg => exact ev_pos (by omega) (ev_now (by first | rfl | rw [if_neg (by omega)]))
  refine ev_neg (by omega) ?_
  exact ev_now (by first | rfl | rw [if_pos (by omega)])
end Go.Proofs.YtogjjcjnnclghaaGreatDoor.X
