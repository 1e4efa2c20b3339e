/- For every text the law FnExactEnglishToRecord answers true. No condition beyond what a reading tells.
This file (part 5 of 5) holds what the proof needs: plain functions with rounds and contracts written by programs of this work over the translation, and the lemmas. -/
import Derived.Test.YtdekadogbpkdoaaGreatDoorZFnExactEnglishToRecord2
import Derived.Test.YtdekadogbpkdoaaGreatDoorZFnExactEnglishToRecord4
import Derived.Test.YtdekadogbpkdoaaGreatDoorZFnExactEnglishToRecord3
import Derived.Test.YtdekadogbpkdoaaGreatDoorZFnExactEnglishToRecord1
import Derived.ChangeArms
import Derived.DataReads
import Derived.Deep.Slices
import Derived.ChangeOld
import Derived.OpenShut
import Derived.Lib.ItoaNum
import Derived.Lib.ItoaLen
import Derived.Lib.AtoiAllCases
import Derived.Lib.Strings
import Derived.Lib.SplitLaws
import Derived.Lib.IndexBytes
import Derived.Test.YtdekadogbpkdoaaGreatDoorTie
import Derived.Test.YtdekadogbpkdoaaGreatDoorCards
import Derived.Test.YtdekadogbpkdoaaGreatDoorRows
import Derived.WalkKit
import Derived.ProofKit
import Derived.ShutString
import Derived.Below
import Derived.SizedLaws
import Derived.Lib.SmallJoins
import Derived.LaidMore
import Derived.Stop.Joined
import Derived.Stop.LaidErr
import Derived.Lib.LaidTab
import Derived.LaidSub
import Derived.Handed
import Derived.SevenTiedAt
import Derived.Lay
namespace Go.Proofs.YtdekadogbpkdoaaGreatDoor.X
open Go.RowKit Go.Proofs.YtdekadogbpkdoaaGreatDoorW.PrintWords Go.Proofs.YtdekadogbpkdoaaGreatDoorW.PrintLast Go.Proofs.YtdekadogbpkdoaaGreatDoorW.PrintMore
attribute [local go_sem] max2_int min2_int max_two min_two max_three min_three max_four min_four   -- for this text's walks alone
set_option linter.unusedVariables false
set_option linter.unusedSimpArgs false
attribute [-simp] ByteArray.size_append ByteArray.size_extract
attribute [-go_sem] ByteArray.size_append'

/-! ### laws_heldRecord: function 8 -/
def laws_heldRecord.f (k : Nat) (l0_0 : List (S38)) (l0_1 : List (S40)) (a1 : Int) : Option (Int) := (laws_heldContextS.f k l0_0 a1).bind fun t102 => (if t102 < 0 then (some (-1)) else ((laws_heldRelationS.f k l0_1 t102).bind fun t103 => (if t103 < 0 then (some (-1)) else (some t103))))
set_option maxHeartbeats 8000000 in
set_option maxRecDepth 100000 in
theorem laws_heldRecord.calls (k : Nat) (A0_0 : Option Addr) (c0_0 : Nat) (l0_0 : List (S38)) (A0_1 : Option Addr) (c0_1 : Nat) (l0_1 : List (S40)) (a1 : Int) (r : Int) (w : World) (hr0_0 : Kd.C k38 w A0_0 l0_0.length l0_0) (hc0_0 : l0_0.length ≤ c0_0) (hr0_1 : Kd.C k40 w A0_1 l0_1.length l0_1) (hc0_1 : l0_1.length ≤ c0_1) (h : laws_heldRecord.f k l0_0 l0_1 a1 = some r) :
  Calls Tryz.prog 8 #[.agg #[.slice A0_0 l0_0.length c0_0, .slice A0_1 l0_1.length c0_1], .int .i64 a1] w fun e w' => e = .returned (.int .i64 r) ∧ Below w.heap.size w w' := by
 (have hu25 := Tryz.underlying25); (have HR0_0 := Aside0.mk hr0_0); (have HC0_0 := Aside0.mk hc0_0); clear hr0_0 hc0_0; (have HR0_1 := Aside0.mk hr0_1); (have HC0_1 := Aside0.mk hc0_1); clear hr0_1 hc0_1; (have HB := Aside0.mk (Below.refl w.heap.size w)); (unfold laws_heldRecord.f at h); (have H := h); clear h; (replace H := obS H); (obtain ⟨t102, A3, H⟩ := H); (by_cases c4 : t102 < 0); (· (rw [if_pos c4] at H); (have c4b0 := decide_eq_true c4); clear c4; (obtain rfl := Option.some.inj H); (go_enter Tryz.func8, Tryz.ntmps8); (go_wp2_with (first | ((with_reducible refine gate_dst (N := 2) rfl ?_); refine box_event ?hg (N := 2) ?hd (cs := #[.slice A0_0 l0_0.length c0_0, .slice A0_1 l0_1.length c0_1]) (t := 25) ?hr ?_; (case hd => rfl); (case hg => rfl); (case hr => first | (go_simp; done) | (go_simp; rfl)); intro gb101 hg w5 hbox hb; have hB_ := zI hb HB; have n0_ := Aside0.mk (below_step hB_ hb); have n1_ := Aside0.mk (hbox); have n2_ := Aside0.mk (bx0 hg hB_); have n3_ := n2_; clear HB; have HB := n0_; have BK101 := n1_; have GW101 := n2_; have GE101 := n3_; clear n0_ n1_ n2_ n3_ hB_ hb hbox hg; have hcz6_0 := cz BK101.out 0; have hcz6_1 := cz BK101.out 1; have hfz6_0 := blk_frozen BK101.out 0; have hfz6_1 := blk_frozen BK101.out 1) | ((with_reducible refine gate_callee (f := 25) rfl ?_); refine gL (some 8) Tryz.func25 #[.slice A0_0 l0_0.length c0_0, .int .i64 a1] ?_; (with_reducible refine (laws_heldContextS.calls k _ _ l0_0 a1 t102 _ ?side1 ?side2 A3.out).mono ?_); (case side1 => exact Kd.C_below HR0_0.out (eI HB)); (case side2 => exact HC0_0.out); rintro e w' ⟨rfl, ⟨nd, rfl⟩⟩; refine ⟨_, rfl, ?_⟩))); go_ret; (exact ⟨rfl, eI HB⟩))
 ·rw [if_neg c4] at H
  (have c4b0 := decide_eq_false c4); clear c4; (replace H := obS H); (obtain ⟨t103, A7, H⟩ := H); (by_cases c8 : t103 < 0); (· (rw [if_pos c8] at H); (have c8b0 := decide_eq_true c8); clear c8; (obtain rfl := Option.some.inj H); (go_enter Tryz.func8, Tryz.ntmps8); (go_wp2_with (first | ((with_reducible refine gate_dst (N := 2) rfl ?_); refine box_event ?hg (N := 2) ?hd (cs := #[.slice A0_0 l0_0.length c0_0, .slice A0_1 l0_1.length c0_1]) (t := 25) ?hr ?_; (case hd => rfl); (case hg => rfl); (case hr => first | (go_simp; done) | (go_simp; rfl)); intro gb101 hg w9 hbox hb; have hB_ := zI hb HB; have n0_ := Aside0.mk (below_step hB_ hb); have n1_ := Aside0.mk (hbox); have n2_ := Aside0.mk (bx0 hg hB_); have n3_ := n2_; clear HB; have HB := n0_; have BK101 := n1_; have GW101 := n2_; have GE101 := n3_; clear n0_ n1_ n2_ n3_ hB_ hb hbox hg; have hcz10_0 := cz BK101.out 0; have hcz10_1 := cz BK101.out 1; have hfz10_0 := blk_frozen BK101.out 0; have hfz10_1 := blk_frozen BK101.out 1) | ((with_reducible refine gate_callee (f := 25) rfl ?_); refine gL (some 8) Tryz.func25 #[.slice A0_0 l0_0.length c0_0, .int .i64 a1] ?_; (with_reducible refine (laws_heldContextS.calls k _ _ l0_0 a1 t102 _ ?side1 ?side2 A3.out).mono ?_); (case side1 => exact Kd.C_below HR0_0.out (eI HB)); (case side2 => exact HC0_0.out); rintro e w' ⟨rfl, ⟨nd, rfl⟩⟩; refine ⟨_, rfl, ?_⟩) | ((with_reducible refine gate_callee (f := 26) rfl ?_); refine gL (some 14) Tryz.func26 #[.slice A0_1 l0_1.length c0_1, .int .i64 t102] ?_; (with_reducible refine (laws_heldRelationS.calls k _ _ l0_1 t102 t103 _ ?side1 ?side2 A7.out).mono ?_); (case side1 => exact Kd.C_below HR0_1.out (eI HB)); (case side2 => exact HC0_1.out); rintro e w' ⟨rfl, ⟨nd, rfl⟩⟩; refine ⟨_, rfl, ?_⟩))); go_ret; (exact ⟨rfl, eI HB⟩)); (· (rw [if_neg c8] at H); (have c8b0 := decide_eq_false c8); clear c8; (obtain rfl := Option.some.inj H); (go_enter Tryz.func8, Tryz.ntmps8); (go_wp2_with (first | ((with_reducible refine gate_dst (N := 2) rfl ?_); refine box_event ?hg (N := 2) ?hd (cs := #[.slice A0_0 l0_0.length c0_0, .slice A0_1 l0_1.length c0_1]) (t := 25) ?hr ?_; (case hd => rfl); (case hg => rfl); (case hr => first | (go_simp; done) | (go_simp; rfl)); intro gb101 hg w11 hbox hb; have hB_ := zI hb HB; have n0_ := Aside0.mk (below_step hB_ hb); have n1_ := Aside0.mk (hbox); have n2_ := Aside0.mk (bx0 hg hB_); have n3_ := n2_; clear HB; have HB := n0_; have BK101 := n1_; have GW101 := n2_; have GE101 := n3_; clear n0_ n1_ n2_ n3_ hB_ hb hbox hg; have hcz12_0 := cz BK101.out 0; have hcz12_1 := cz BK101.out 1; have hfz12_0 := blk_frozen BK101.out 0; have hfz12_1 := blk_frozen BK101.out 1) | ((with_reducible refine gate_callee (f := 25) rfl ?_); refine gL (some 8) Tryz.func25 #[.slice A0_0 l0_0.length c0_0, .int .i64 a1] ?_; (with_reducible refine (laws_heldContextS.calls k _ _ l0_0 a1 t102 _ ?side1 ?side2 A3.out).mono ?_); (case side1 => exact Kd.C_below HR0_0.out (eI HB)); (case side2 => exact HC0_0.out); rintro e w' ⟨rfl, ⟨nd, rfl⟩⟩; refine ⟨_, rfl, ?_⟩) | ((with_reducible refine gate_callee (f := 26) rfl ?_); refine gL (some 14) Tryz.func26 #[.slice A0_1 l0_1.length c0_1, .int .i64 t102] ?_; (with_reducible refine (laws_heldRelationS.calls k _ _ l0_1 t102 t103 _ ?side1 ?side2 A7.out).mono ?_); (case side1 => exact Kd.C_below HR0_1.out (eI HB)); (case side2 => exact HC0_1.out); rintro e w' ⟨rfl, ⟨nd, rfl⟩⟩; refine ⟨_, rfl, ?_⟩))); go_ret; (exact ⟨rfl, eI HB⟩))
/-! ### laws_FnExactEnglishToRecord: function 3 -/
mutual
def laws_FnExactEnglishToRecord.j0 : Nat → ByteArray → Bool → Bool → List (S38) → List (S40) → List (S38) → List (S40) → Option (Bool)
 | 0, _, _, _, _, _, _, _ => none
 | k + 1, x0, x4, x32, x109000, x109001, x117000, x117001 => if x32 = true then (some false) else ((laws_markRecord.f k x117000 x117001 1).bind fun bt118 => ((laws_heldRecord.f k bt118.2.1 bt118.2.2 1).bind fun t121 => (if t121 < 0 then (some false) else (if t121 = bt118.1 then ((impl_EnglishToRecord.f k x0).bind fun bt122 => ((laws_eqRecord.f k bt122.1 bt122.2.1 x109000 x109001).bind fun t130 => (if t130 = true then (laws_FnExactEnglishToRecord.j1 k bt118.1 (bt122.2.2 != x4) bt118.2.1 bt118.2.2) else (laws_FnExactEnglishToRecord.j1 k bt118.1 true bt118.2.1 bt118.2.2)))) else (some false)))))
def laws_FnExactEnglishToRecord.j1 : Nat → Int → Bool → List (S38) → List (S40) → Option (Bool)
 | 0, _, _, _, _ => none
 | k + 1, x7, x57, x117000, x117001 => if x57 = true then (some false) else ((laws_heldRecord.f k x117000 x117001 1).bind fun t131 => (if t131 < 0 then (some false) else (if t131 = x7 then (some true) else (some false))))
end
def laws_FnExactEnglishToRecord.f (k : Nat) (a0 : ByteArray) : Option (Bool) := if (a0.size : Int) > 1048576 then (some true) else ((spec_EnglishToRecord.f k a0).bind fun bt101 => ((impl_EnglishToRecord.f k a0).bind fun bt109 => ((laws_eqRecord.f k bt109.1 bt109.2.1 bt101.1 bt101.2.1).bind fun t117 => (if t117 = true then (laws_FnExactEnglishToRecord.j0 k a0 bt101.2.2 (bt109.2.2 != bt101.2.2) bt101.1 bt101.2.1 bt109.1 bt109.2.1) else (laws_FnExactEnglishToRecord.j0 k a0 bt101.2.2 true bt101.1 bt101.2.1 bt109.1 bt109.2.1)))))
set_option maxHeartbeats 8000000 in
set_option maxRecDepth 100000 in
theorem laws_FnExactEnglishToRecord.calls (k : Nat) (a0 : ByteArray) (r : Bool) (w : World) (hG : GE w) (h : laws_FnExactEnglishToRecord.f k a0 = some r) (ht_ : Aside0 (r = true)) :
  Calls Tryz.prog 3 #[.string a0] w fun e w' => e = .returned (.bool r) ∧ Below w.heap.size w w' := by
 (have hu25 := Tryz.underlying25); (have HG := Aside0.mk hG); clear hG; (have HB := Aside0.mk (Below.refl w.heap.size w)); (unfold laws_FnExactEnglishToRecord.f at h); (have H := h); clear h; (by_cases c2 : (a0.size : Int) > 1048576); (· (rw [if_pos c2] at H); (have c2b0 : decide (1048576 < (a0.size : Int)) = true := decide_eq_true c2); (have c2b1 : decide (1048576 < a0.size) = true := decide_eq_true (by omega)); clear c2; (obtain rfl := Option.some.inj H); (go_enter Tryz.func3, Tryz.ntmps3); (go_wp2); go_ret; (exact ⟨rfl, eI HB⟩))
 ·rw [if_neg c2] at H
  (have c2b0 : decide (1048576 < (a0.size : Int)) = false := decide_eq_false c2); (have c2b1 : decide (1048576 < a0.size) = false := decide_eq_false (by omega)); clear c2; (replace H := Option.bind_eq_some_iff.mp H); (obtain ⟨⟨t101, t104, t107⟩, A30, H⟩ := H); (replace H : ((impl_EnglishToRecord.f k a0).bind fun bt109 => ((laws_eqRecord.f k bt109.1 bt109.2.1 t101 t104).bind fun t117 => (if t117 = true then (laws_FnExactEnglishToRecord.j0 k a0 t107 (bt109.2.2 != t107) t101 t104 bt109.1 bt109.2.1) else (laws_FnExactEnglishToRecord.j0 k a0 t107 true t101 t104 bt109.1 bt109.2.1)))) = some r := H); (have A3 := Aside0.mk A30); clear A30; (replace H := Option.bind_eq_some_iff.mp H); (obtain ⟨⟨t109, t112, t115⟩, A40, H⟩ := H); (replace H : ((laws_eqRecord.f k t109 t112 t101 t104).bind fun t117 => (if t117 = true then (laws_FnExactEnglishToRecord.j0 k a0 t107 (t115 != t107) t101 t104 t109 t112) else (laws_FnExactEnglishToRecord.j0 k a0 t107 true t101 t104 t109 t112))) = some r := H); (have A4 := Aside0.mk A40); clear A40; (have HC5 := Aside0.mk H); clear H; (go_enter Tryz.func3, Tryz.ntmps3)
  go_upto_region 5 with (first | ((with_reducible refine gate_callee (f := 4) rfl ?_); refine gL (some 16) Tryz.func4 #[.string a0] ?_; (with_reducible refine (spec_EnglishToRecord.calls k a0 t101 t104 t107 _ A3.out).mono ?_); rintro e w6 ⟨v102, v105, rfl, ho0, ho1, hb⟩; refine ⟨_, rfl, ?_⟩; have n0_ := Aside0.mk (Kd.R_lower ho0 (below_size (by repeat (first | (with_reducible first | exact HB.out | apply bA | apply bN | apply bD) | exact HB.out)))); have n1_ := Aside0.mk (Kd.R_lower ho1 (below_size (by repeat (first | (with_reducible first | exact HB.out | apply bA | apply bN | apply bD) | exact HB.out)))); have n2_ := Aside0.mk (below_step (by repeat (first | (with_reducible first | exact HB.out | apply bA | apply bN | apply bD) | exact HB.out)) hb); clear HB; have HO103 := n0_; have HO106 := n1_; have HB := n2_; clear n0_ n1_ n2_; (try clear hb); (try clear hb2); (try clear hk); (try clear hi); (try clear ho0); (try clear ho1)) | ((with_reducible refine gate_dst (N := 3) rfl ?_); refine box_event ?hg (N := 3) ?hd (cs := #[.slice none 0 0, .slice none 0 0]) (t := 25) ?hr ?_; (case hd => rfl); (case hg => rfl); (case hr => first | (go_simp; done) | (go_simp; rfl)); intro gb108 hg w7 hbox hb; have n0_ := Aside0.mk (Kd.R_below (by (with_reducible repeat (first | apply rA | apply rN | apply rD)); exact HO103.out) hb); have n1_ := Aside0.mk (Kd.R_below (by (with_reducible repeat (first | apply rA | apply rN | apply rD)); exact HO106.out) hb); have hB_ := bz (by repeat (first | (with_reducible first | exact HB.out | apply bA | apply bN | apply bD) | exact HB.out)) hb; have n2_ := Aside0.mk (below_step hB_ hb); have n3_ := Aside0.mk (hbox); have n4_ := Aside0.mk ((by rw [hg]; exact (below_size hB_) : w.heap.size ≤ gb108)); have n5_ := n4_; clear HO103 HO106 HB; have HO103 := n0_; have HO106 := n1_; have HB := n2_; have BK108 := n3_; have GW108 := n4_; have GE108 := n5_; clear n0_ n1_ n2_ n3_ n4_ n5_ hB_ hb hbox hg; obtain ⟨Ao8, co8, eo8⟩ := Kd.R_slice HO103.out; subst eo8; have hcz9_0 := cz BK108.out 0; have hcz9_1 := cz BK108.out 1; have hfz9_0 := blk_frozen BK108.out 0; have hfz9_1 := blk_frozen BK108.out 1; obtain ⟨Ao10, co10, eo10⟩ := Kd.R_slice HO106.out; subst eo10) | ((with_reducible refine gate_callee (f := 5) rfl ?_); refine gL (some 21) Tryz.func5 #[.string a0] ?_; (with_reducible refine (impl_EnglishToRecord.calls k a0 t109 t112 t115 _ ?side1 A4.out).mono ?_); (case side1 => first | exact GE.below HG.out (by repeat (first | (with_reducible first | exact HB.out | apply bA | apply bN | apply bD | refine below_set ?_ GE108.out) | exact HB.out)) | (repeat (first | exact HG.out | (with_reducible first | apply GE.drewN | apply GE.drew | apply GE.alloc)))); rintro e w11 ⟨v110, v113, rfl, ho0, ho1, hb⟩; refine ⟨_, rfl, ?_⟩; have n0_ := Aside0.mk (Kd.R_elder' (by (with_reducible repeat (first | apply rA | apply rN | apply rD)); exact (Kd.R_mono (Kd.R_far (p := ⟨gb108, 1, none⟩) (Kd.R_far (p := ⟨gb108, 0, none⟩) (Kd.R_types HO103.out BK108.out (by decide)) (fun _ hk => hk.2) (.slice Ao8 t101.length co8)) (fun _ hk => hk.2) (.slice Ao10 t104.length co10)) (fun _ h_ => h_.1))) (Kd.R_base ho0) hb); have n1_ := Aside0.mk (Kd.R_elder' (by (with_reducible repeat (first | apply rA | apply rN | apply rD)); exact (Kd.R_mono (Kd.R_far (p := ⟨gb108, 1, none⟩) (Kd.R_far (p := ⟨gb108, 0, none⟩) (Kd.R_types HO106.out BK108.out (by decide)) (fun _ hk => hk.2) (.slice Ao8 t101.length co8)) (fun _ hk => hk.2) (.slice Ao10 t104.length co10)) (fun _ h_ => h_.1))) (Kd.R_base ho1) hb); have n2_ := Aside0.mk (Kd.R_lower (Kd.R_new' ho0 (Kd.R_lt (by (with_reducible repeat (first | apply rA | apply rN | apply rD)); exact (Kd.R_mono (Kd.R_far (p := ⟨gb108, 1, none⟩) (Kd.R_far (p := ⟨gb108, 0, none⟩) (Kd.R_types HO103.out BK108.out (by decide)) (fun _ hk => hk.2) (.slice Ao8 t101.length co8)) (fun _ hk => hk.2) (.slice Ao10 t104.length co10)) (fun _ h_ => h_.1))))) (below_size (by repeat (first | (with_reducible first | exact HB.out | apply bA | apply bN | apply bD | refine below_set ?_ GE108.out) | exact HB.out)))); have n3_ := Aside0.mk (Kd.R_lower (Kd.R_new' ho1 (Kd.R_lt (by (with_reducible repeat (first | apply rA | apply rN | apply rD)); exact (Kd.R_mono (Kd.R_far (p := ⟨gb108, 1, none⟩) (Kd.R_far (p := ⟨gb108, 0, none⟩) (Kd.R_types HO106.out BK108.out (by decide)) (fun _ hk => hk.2) (.slice Ao8 t101.length co8)) (fun _ hk => hk.2) (.slice Ao10 t104.length co10)) (fun _ h_ => h_.1))))) (below_size (by repeat (first | (with_reducible first | exact HB.out | apply bA | apply bN | apply bD | refine below_set ?_ GE108.out) | exact HB.out)))); have n4_ := Aside0.mk (blk_below (g := gb108) (o := .cells #[.slice Ao8 t101.length co8, .slice Ao10 t104.length co10] 25 (0, 0)) (by (with_reducible repeat (first | refine kN ?_ _ | refine kD ?_ | refine kA ?_ _)); refine blk_put (cs := #[.slice Ao8 t101.length co8, .slice none 0 0]) ?_ 1 _ rfl; (with_reducible repeat (first | refine kN ?_ _ | refine kD ?_ | refine kA ?_ _)); refine blk_put (cs := #[.slice none 0 0, .slice none 0 0]) ?_ 0 _ rfl; (with_reducible repeat (first | refine kN ?_ _ | refine kD ?_ | refine kA ?_ _)); exact BK108.out) hb); have n5_ := Aside0.mk (below_step (by repeat (first | (with_reducible first | exact HB.out | apply bA | apply bN | apply bD | refine below_set ?_ GE108.out) | exact HB.out)) hb); clear HO103 HO106 BK108 HB; have HO103 := n0_; have HO106 := n1_; have HO111 := n2_; have HO114 := n3_; have BK108 := n4_; have HB := n5_; clear n0_ n1_ n2_ n3_ n4_ n5_; (try clear hb); (try clear hb2); (try clear hk); (try clear hi); (try clear ho0); (try clear ho1)) | ((with_reducible refine gate_dst (N := 5) rfl ?_); refine box_event ?hg (N := 5) ?hd (cs := #[.slice none 0 0, .slice none 0 0]) (t := 25) ?hr ?_; (case hd => rfl); (case hg => rfl); (case hr => first | (go_simp; done) | (go_simp; rfl)); intro gb116 hg w12 hbox hb; have n0_ := Aside0.mk (Kd.R_below (by (with_reducible repeat (first | apply rA | apply rN | apply rD)); exact HO103.out) hb); have n1_ := Aside0.mk (Kd.R_below (by (with_reducible repeat (first | apply rA | apply rN | apply rD)); exact HO106.out) hb); have n2_ := Aside0.mk (Kd.R_below (by (with_reducible repeat (first | apply rA | apply rN | apply rD)); exact HO111.out) hb); have n3_ := Aside0.mk (Kd.R_below (by (with_reducible repeat (first | apply rA | apply rN | apply rD)); exact HO114.out) hb); have n4_ := Aside0.mk (blk_below (by (with_reducible repeat (first | refine kN ?_ _ | refine kD ?_ | refine kA ?_ _)); exact BK108.out) hb); have hB_ := bz (by repeat (first | (with_reducible first | exact HB.out | apply bA | apply bN | apply bD | refine below_set ?_ GE108.out) | exact HB.out)) hb; have n5_ := Aside0.mk (below_step hB_ hb); have n6_ := Aside0.mk (hbox); have n7_ := Aside0.mk ((by rw [hg]; exact (below_size hB_) : w.heap.size ≤ gb116)); have n8_ := n7_; have n9_ := Aside0.mk ((by rw [hg]; exact Nat.ne_of_lt (blk_lt (by (with_reducible repeat (first | refine kN ?_ _ | refine kD ?_ | refine kA ?_ _)); exact BK108.out)) : gb108 ≠ gb116)); have n10_ := Aside0.mk (Ne.symm n9_.out); clear HO103 HO106 HO111 HO114 BK108 HB; have HO103 := n0_; have HO106 := n1_; have HO111 := n2_; have HO114 := n3_; have BK108 := n4_; have HB := n5_; have BK116 := n6_; have GW116 := n7_; have GE116 := n8_; have NB108_116 := n9_; have NB116_108 := n10_; clear n0_ n1_ n2_ n3_ n4_ n5_ n6_ n7_ n8_ n9_ n10_ hB_ hb hbox hg; obtain ⟨Ao13, co13, eo13⟩ := Kd.R_slice HO111.out; subst eo13; have hnb14 := NB116_108.out; have hnc14 := NB108_116.out; have hcz15_0 := cz BK116.out 0; have hcz15_1 := cz BK116.out 1; have hfz15_0 := blk_frozen BK116.out 0; have hfz15_1 := blk_frozen BK116.out 1; obtain ⟨Ao16, co16, eo16⟩ := Kd.R_slice HO114.out; subst eo16))
  ((try simp only [Act.put, aS1, aS2, aS3])); (go_cut [32] (fun v32 wc => ∃ (kq : Nat) (x32_4 : Bool), v32 = .bool x32_4 ∧ Aside0 (laws_FnExactEnglishToRecord.j0 kq a0 t107 x32_4 t101 t104 t109 t112 = some r) ∧ Aside0 (kq ≤ k) ∧ Aside0 (Kd.R k38 38 wc w.heap.size (fun k_ => some k_ ≠ ((.slice Ao13 t109.length co13) : Value).ownBlock) (.slice Ao8 t101.length co8) t101) ∧ Aside0 (Kd.R k40 40 wc w.heap.size (fun k_ => some k_ ≠ ((.slice Ao16 t112.length co16) : Value).ownBlock) (.slice Ao10 t104.length co10) t104) ∧ Aside0 (Kd.R k38 38 wc w.heap.size (fun k_ => some k_ ≠ ((.slice Ao8 t101.length co8) : Value).ownBlock) (.slice Ao13 t109.length co13) t109) ∧ Aside0 (Kd.R k40 40 wc w.heap.size (fun k_ => some k_ ≠ ((.slice Ao10 t104.length co10) : Value).ownBlock) (.slice Ao16 t112.length co16) t112) ∧ Aside0 (wc.heap[gb108]? = some (.cells #[(.slice Ao8 t101.length co8), (.slice Ao10 t104.length co10)] 25 (0, 0))) ∧ Aside0 (wc.heap[gb116]? = some (.cells #[(.slice Ao13 t109.length co13), (.slice Ao16 t112.length co16)] 25 (0, 0))) ∧ Aside0 (Below w.heap.size w wc)))
  case first =>
   (have H := HC5.out); clear HC5; (replace H := Option.bind_eq_some_iff.mp H); (obtain ⟨t117, A170, H⟩ := H); (have A17 := Aside0.mk A170); clear A170; (by_cases c18 : t117 = true)
   ·subst c18
    (rw [if_pos rfl] at H); (have H' := Aside0.mk H); clear H; (have hnb19 := NB116_108.out); (have hnc19 := NB108_116.out); (have hcz20_0 := cz BK116.out 0); (have hcz20_1 := cz BK116.out 1); (have hfz20_0 := blk_frozen BK116.out 0); (have hfz20_1 := blk_frozen BK116.out 1); (have hcz21_0 := cz BK108.out 0); (have hcz21_1 := cz BK108.out 1); (have hfz21_0 := blk_frozen BK108.out 0); (have hfz21_1 := blk_frozen BK108.out 1)
    go_wp2_with (first | ((with_reducible refine gate_callee (f := 6) rfl ?_); refine gL (some 26) Tryz.func6 #[.agg #[.slice Ao13 t109.length co13, .slice Ao16 t112.length co16], .agg #[.slice Ao8 t101.length co8, .slice Ao10 t104.length co10]] ?_; (with_reducible refine (laws_eqRecord.calls k _ _ t109 _ _ t112 _ _ t101 _ _ t104 true _ ?side1 ?side2 ?side3 ?side4 ?side5 ?side6 ?side7 ?side8 A17.out).mono ?_); (case side1 => refine (Kd.R_reads' (e := 38) (base := w.heap.size) (ok := fun k_ => (True ∧ some k_ ≠ (.slice Ao8 t101.length co8 : Value).ownBlock)) (n := t109.length) (c := co13) ?_).2.2; exact (by (with_reducible repeat (first | apply rA | apply rN | apply rD)); exact (Kd.R_mono (Kd.R_far (p := ⟨gb116, 1, none⟩) (Kd.R_far (p := ⟨gb116, 0, none⟩) (Kd.R_types HO111.out BK116.out (by decide)) (fun _ hk => hk.2) (.slice Ao13 t109.length co13)) (fun _ hk => hk.2) (.slice Ao16 t112.length co16)) (fun _ h_ => h_.1)))); (case side2 => exact (Kd.R_reads' HO111.out).2.1); (case side3 => refine (Kd.R_reads' (e := 40) (base := w.heap.size) (ok := fun k_ => (True ∧ some k_ ≠ (.slice Ao10 t104.length co10 : Value).ownBlock)) (n := t112.length) (c := co16) ?_).2.2; exact (by (with_reducible repeat (first | apply rA | apply rN | apply rD)); exact (Kd.R_mono (Kd.R_far (p := ⟨gb116, 1, none⟩) (Kd.R_far (p := ⟨gb116, 0, none⟩) (Kd.R_types HO114.out BK116.out (by decide)) (fun _ hk => hk.2) (.slice Ao13 t109.length co13)) (fun _ hk => hk.2) (.slice Ao16 t112.length co16)) (fun _ h_ => h_.1)))); (case side4 => exact (Kd.R_reads' HO114.out).2.1); (case side5 => refine (Kd.R_reads' (e := 38) (base := w.heap.size) (ok := fun k_ => (True ∧ some k_ ≠ (.slice Ao13 t109.length co13 : Value).ownBlock)) (n := t101.length) (c := co8) ?_).2.2; exact (by (with_reducible repeat (first | apply rA | apply rN | apply rD)); exact (Kd.R_mono (Kd.R_far (p := ⟨gb116, 1, none⟩) (Kd.R_far (p := ⟨gb116, 0, none⟩) (Kd.R_types HO103.out BK116.out (by decide)) (fun _ hk => hk.2) (.slice Ao13 t109.length co13)) (fun _ hk => hk.2) (.slice Ao16 t112.length co16)) (fun _ h_ => h_.1)))); (case side6 => exact (Kd.R_reads' HO103.out).2.1); (case side7 => refine (Kd.R_reads' (e := 40) (base := w.heap.size) (ok := fun k_ => (True ∧ some k_ ≠ (.slice Ao16 t112.length co16 : Value).ownBlock)) (n := t104.length) (c := co10) ?_).2.2; exact (by (with_reducible repeat (first | apply rA | apply rN | apply rD)); exact (Kd.R_mono (Kd.R_far (p := ⟨gb116, 1, none⟩) (Kd.R_far (p := ⟨gb116, 0, none⟩) (Kd.R_types HO106.out BK116.out (by decide)) (fun _ hk => hk.2) (.slice Ao13 t109.length co13)) (fun _ hk => hk.2) (.slice Ao16 t112.length co16)) (fun _ h_ => h_.1)))); (case side8 => exact (Kd.R_reads' HO106.out).2.1); rintro e w22 ⟨rfl, hb⟩; refine ⟨_, rfl, ?_⟩; have n0_ := Aside0.mk (Kd.R_below (by (with_reducible repeat (first | apply rA | apply rN | apply rD)); exact (Kd.R_mono (Kd.R_far (p := ⟨gb116, 1, none⟩) (Kd.R_far (p := ⟨gb116, 0, none⟩) (Kd.R_types HO103.out BK116.out (by decide)) (fun _ hk => hk.2) (.slice Ao13 t109.length co13)) (fun _ hk => hk.2) (.slice Ao16 t112.length co16)) (fun _ h_ => h_.1))) hb); have n1_ := Aside0.mk (Kd.R_below (by (with_reducible repeat (first | apply rA | apply rN | apply rD)); exact (Kd.R_mono (Kd.R_far (p := ⟨gb116, 1, none⟩) (Kd.R_far (p := ⟨gb116, 0, none⟩) (Kd.R_types HO106.out BK116.out (by decide)) (fun _ hk => hk.2) (.slice Ao13 t109.length co13)) (fun _ hk => hk.2) (.slice Ao16 t112.length co16)) (fun _ h_ => h_.1))) hb); have n2_ := Aside0.mk (Kd.R_below (by (with_reducible repeat (first | apply rA | apply rN | apply rD)); exact (Kd.R_mono (Kd.R_far (p := ⟨gb116, 1, none⟩) (Kd.R_far (p := ⟨gb116, 0, none⟩) (Kd.R_types HO111.out BK116.out (by decide)) (fun _ hk => hk.2) (.slice Ao13 t109.length co13)) (fun _ hk => hk.2) (.slice Ao16 t112.length co16)) (fun _ h_ => h_.1))) hb); have n3_ := Aside0.mk (Kd.R_below (by (with_reducible repeat (first | apply rA | apply rN | apply rD)); exact (Kd.R_mono (Kd.R_far (p := ⟨gb116, 1, none⟩) (Kd.R_far (p := ⟨gb116, 0, none⟩) (Kd.R_types HO114.out BK116.out (by decide)) (fun _ hk => hk.2) (.slice Ao13 t109.length co13)) (fun _ hk => hk.2) (.slice Ao16 t112.length co16)) (fun _ h_ => h_.1))) hb); have n4_ := Aside0.mk (blk_below (g := gb108) (o := .cells #[.slice Ao8 t101.length co8, .slice Ao10 t104.length co10] 25 (0, 0)) (by (with_reducible repeat (first | refine kN ?_ _ | refine kD ?_ | refine kA ?_ _)); refine blk_far ?_ NB108_116.out _; (with_reducible repeat (first | refine kN ?_ _ | refine kD ?_ | refine kA ?_ _)); refine blk_far ?_ NB108_116.out _; (with_reducible repeat (first | refine kN ?_ _ | refine kD ?_ | refine kA ?_ _)); exact BK108.out) hb); have n5_ := Aside0.mk (blk_below (g := gb116) (o := .cells #[.slice Ao13 t109.length co13, .slice Ao16 t112.length co16] 25 (0, 0)) (by (with_reducible repeat (first | refine kN ?_ _ | refine kD ?_ | refine kA ?_ _)); refine blk_put (cs := #[.slice Ao13 t109.length co13, .slice none 0 0]) ?_ 1 _ rfl; (with_reducible repeat (first | refine kN ?_ _ | refine kD ?_ | refine kA ?_ _)); refine blk_put (cs := #[.slice none 0 0, .slice none 0 0]) ?_ 0 _ rfl; (with_reducible repeat (first | refine kN ?_ _ | refine kD ?_ | refine kA ?_ _)); exact BK116.out) hb); have n6_ := Aside0.mk (below_step (by repeat (first | (with_reducible first | exact HB.out | apply bA | apply bN | apply bD | refine below_set ?_ GE108.out | refine below_set ?_ GE116.out) | exact HB.out)) hb); clear HO103 HO106 HO111 HO114 BK108 BK116 HB; have HO103 := n0_; have HO106 := n1_; have HO111 := n2_; have HO114 := n3_; have BK108 := n4_; have BK116 := n5_; have HB := n6_; clear n0_ n1_ n2_ n3_ n4_ n5_ n6_; (try clear hb); (try clear hb2); (try clear hk); (try clear hi)))
    go_meet
    case rel => exact ⟨_, ((t115 != t107)), (by first | rfl | (simp; done) | (simp [*]; done)), H', ⟨by first | omega | exact Nat.le_refl _⟩, ⟨by (with_reducible repeat (first | apply rA | apply rN | apply rD)); exact Kd.R_mono HO103.out (fun _ hk => hk.2)⟩, ⟨by (with_reducible repeat (first | apply rA | apply rN | apply rD)); exact Kd.R_mono HO106.out (fun _ hk => hk.2)⟩, ⟨by (with_reducible repeat (first | apply rA | apply rN | apply rD)); exact Kd.R_mono HO111.out (fun _ hk => hk.2)⟩, ⟨by (with_reducible repeat (first | apply rA | apply rN | apply rD)); exact Kd.R_mono HO114.out (fun _ hk => hk.2)⟩, ⟨by (with_reducible repeat (first | refine kN ?_ _ | refine kD ?_ | refine kA ?_ _)); exact BK108.out⟩, ⟨by (with_reducible repeat (first | refine kN ?_ _ | refine kD ?_ | refine kA ?_ _)); exact BK116.out⟩, ⟨by repeat (first | (with_reducible first | exact HB.out | apply bA | apply bN | apply bD | refine below_set ?_ GE108.out | refine below_set ?_ GE116.out) | exact HB.out)⟩⟩
   ·replace c18 := Bool.eq_false_iff.mpr c18
    subst c18; (rw [if_neg (show ¬ (false = true) by decide)] at H); (have H' := Aside0.mk H); clear H; (have hnb23 := NB116_108.out); (have hnc23 := NB108_116.out); (have hcz24_0 := cz BK116.out 0); (have hcz24_1 := cz BK116.out 1); (have hfz24_0 := blk_frozen BK116.out 0); (have hfz24_1 := blk_frozen BK116.out 1); (have hcz25_0 := cz BK108.out 0); (have hcz25_1 := cz BK108.out 1); (have hfz25_0 := blk_frozen BK108.out 0); (have hfz25_1 := blk_frozen BK108.out 1)
    go_wp2_with (first | ((with_reducible refine gate_callee (f := 6) rfl ?_); refine gL (some 26) Tryz.func6 #[.agg #[.slice Ao13 t109.length co13, .slice Ao16 t112.length co16], .agg #[.slice Ao8 t101.length co8, .slice Ao10 t104.length co10]] ?_; (with_reducible refine (laws_eqRecord.calls k _ _ t109 _ _ t112 _ _ t101 _ _ t104 false _ ?side1 ?side2 ?side3 ?side4 ?side5 ?side6 ?side7 ?side8 A17.out).mono ?_); (case side1 => refine (Kd.R_reads' (e := 38) (base := w.heap.size) (ok := fun k_ => (True ∧ some k_ ≠ (.slice Ao8 t101.length co8 : Value).ownBlock)) (n := t109.length) (c := co13) ?_).2.2; exact (by (with_reducible repeat (first | apply rA | apply rN | apply rD)); exact (Kd.R_mono (Kd.R_far (p := ⟨gb116, 1, none⟩) (Kd.R_far (p := ⟨gb116, 0, none⟩) (Kd.R_types HO111.out BK116.out (by decide)) (fun _ hk => hk.2) (.slice Ao13 t109.length co13)) (fun _ hk => hk.2) (.slice Ao16 t112.length co16)) (fun _ h_ => h_.1)))); (case side2 => exact (Kd.R_reads' HO111.out).2.1); (case side3 => refine (Kd.R_reads' (e := 40) (base := w.heap.size) (ok := fun k_ => (True ∧ some k_ ≠ (.slice Ao10 t104.length co10 : Value).ownBlock)) (n := t112.length) (c := co16) ?_).2.2; exact (by (with_reducible repeat (first | apply rA | apply rN | apply rD)); exact (Kd.R_mono (Kd.R_far (p := ⟨gb116, 1, none⟩) (Kd.R_far (p := ⟨gb116, 0, none⟩) (Kd.R_types HO114.out BK116.out (by decide)) (fun _ hk => hk.2) (.slice Ao13 t109.length co13)) (fun _ hk => hk.2) (.slice Ao16 t112.length co16)) (fun _ h_ => h_.1)))); (case side4 => exact (Kd.R_reads' HO114.out).2.1); (case side5 => refine (Kd.R_reads' (e := 38) (base := w.heap.size) (ok := fun k_ => (True ∧ some k_ ≠ (.slice Ao13 t109.length co13 : Value).ownBlock)) (n := t101.length) (c := co8) ?_).2.2; exact (by (with_reducible repeat (first | apply rA | apply rN | apply rD)); exact (Kd.R_mono (Kd.R_far (p := ⟨gb116, 1, none⟩) (Kd.R_far (p := ⟨gb116, 0, none⟩) (Kd.R_types HO103.out BK116.out (by decide)) (fun _ hk => hk.2) (.slice Ao13 t109.length co13)) (fun _ hk => hk.2) (.slice Ao16 t112.length co16)) (fun _ h_ => h_.1)))); (case side6 => exact (Kd.R_reads' HO103.out).2.1); (case side7 => refine (Kd.R_reads' (e := 40) (base := w.heap.size) (ok := fun k_ => (True ∧ some k_ ≠ (.slice Ao16 t112.length co16 : Value).ownBlock)) (n := t104.length) (c := co10) ?_).2.2; exact (by (with_reducible repeat (first | apply rA | apply rN | apply rD)); exact (Kd.R_mono (Kd.R_far (p := ⟨gb116, 1, none⟩) (Kd.R_far (p := ⟨gb116, 0, none⟩) (Kd.R_types HO106.out BK116.out (by decide)) (fun _ hk => hk.2) (.slice Ao13 t109.length co13)) (fun _ hk => hk.2) (.slice Ao16 t112.length co16)) (fun _ h_ => h_.1)))); (case side8 => exact (Kd.R_reads' HO106.out).2.1); rintro e w26 ⟨rfl, hb⟩; refine ⟨_, rfl, ?_⟩; have n0_ := Aside0.mk (Kd.R_below (by (with_reducible repeat (first | apply rA | apply rN | apply rD)); exact (Kd.R_mono (Kd.R_far (p := ⟨gb116, 1, none⟩) (Kd.R_far (p := ⟨gb116, 0, none⟩) (Kd.R_types HO103.out BK116.out (by decide)) (fun _ hk => hk.2) (.slice Ao13 t109.length co13)) (fun _ hk => hk.2) (.slice Ao16 t112.length co16)) (fun _ h_ => h_.1))) hb); have n1_ := Aside0.mk (Kd.R_below (by (with_reducible repeat (first | apply rA | apply rN | apply rD)); exact (Kd.R_mono (Kd.R_far (p := ⟨gb116, 1, none⟩) (Kd.R_far (p := ⟨gb116, 0, none⟩) (Kd.R_types HO106.out BK116.out (by decide)) (fun _ hk => hk.2) (.slice Ao13 t109.length co13)) (fun _ hk => hk.2) (.slice Ao16 t112.length co16)) (fun _ h_ => h_.1))) hb); have n2_ := Aside0.mk (Kd.R_below (by (with_reducible repeat (first | apply rA | apply rN | apply rD)); exact (Kd.R_mono (Kd.R_far (p := ⟨gb116, 1, none⟩) (Kd.R_far (p := ⟨gb116, 0, none⟩) (Kd.R_types HO111.out BK116.out (by decide)) (fun _ hk => hk.2) (.slice Ao13 t109.length co13)) (fun _ hk => hk.2) (.slice Ao16 t112.length co16)) (fun _ h_ => h_.1))) hb); have n3_ := Aside0.mk (Kd.R_below (by (with_reducible repeat (first | apply rA | apply rN | apply rD)); exact (Kd.R_mono (Kd.R_far (p := ⟨gb116, 1, none⟩) (Kd.R_far (p := ⟨gb116, 0, none⟩) (Kd.R_types HO114.out BK116.out (by decide)) (fun _ hk => hk.2) (.slice Ao13 t109.length co13)) (fun _ hk => hk.2) (.slice Ao16 t112.length co16)) (fun _ h_ => h_.1))) hb); have n4_ := Aside0.mk (blk_below (g := gb108) (o := .cells #[.slice Ao8 t101.length co8, .slice Ao10 t104.length co10] 25 (0, 0)) (by (with_reducible repeat (first | refine kN ?_ _ | refine kD ?_ | refine kA ?_ _)); refine blk_far ?_ NB108_116.out _; (with_reducible repeat (first | refine kN ?_ _ | refine kD ?_ | refine kA ?_ _)); refine blk_far ?_ NB108_116.out _; (with_reducible repeat (first | refine kN ?_ _ | refine kD ?_ | refine kA ?_ _)); exact BK108.out) hb); have n5_ := Aside0.mk (blk_below (g := gb116) (o := .cells #[.slice Ao13 t109.length co13, .slice Ao16 t112.length co16] 25 (0, 0)) (by (with_reducible repeat (first | refine kN ?_ _ | refine kD ?_ | refine kA ?_ _)); refine blk_put (cs := #[.slice Ao13 t109.length co13, .slice none 0 0]) ?_ 1 _ rfl; (with_reducible repeat (first | refine kN ?_ _ | refine kD ?_ | refine kA ?_ _)); refine blk_put (cs := #[.slice none 0 0, .slice none 0 0]) ?_ 0 _ rfl; (with_reducible repeat (first | refine kN ?_ _ | refine kD ?_ | refine kA ?_ _)); exact BK116.out) hb); have n6_ := Aside0.mk (below_step (by repeat (first | (with_reducible first | exact HB.out | apply bA | apply bN | apply bD | refine below_set ?_ GE108.out | refine below_set ?_ GE116.out) | exact HB.out)) hb); clear HO103 HO106 HO111 HO114 BK108 BK116 HB; have HO103 := n0_; have HO106 := n1_; have HO111 := n2_; have HO114 := n3_; have BK108 := n4_; have BK116 := n5_; have HB := n6_; clear n0_ n1_ n2_ n3_ n4_ n5_ n6_; (try clear hb); (try clear hb2); (try clear hk); (try clear hi)))
    go_meet
    case rel => exact ⟨_, (true), (by first | rfl | (simp; done) | (simp [*]; done)), H', ⟨by first | omega | exact Nat.le_refl _⟩, ⟨by (with_reducible repeat (first | apply rA | apply rN | apply rD)); exact Kd.R_mono HO103.out (fun _ hk => hk.2)⟩, ⟨by (with_reducible repeat (first | apply rA | apply rN | apply rD)); exact Kd.R_mono HO106.out (fun _ hk => hk.2)⟩, ⟨by (with_reducible repeat (first | apply rA | apply rN | apply rD)); exact Kd.R_mono HO111.out (fun _ hk => hk.2)⟩, ⟨by (with_reducible repeat (first | apply rA | apply rN | apply rD)); exact Kd.R_mono HO114.out (fun _ hk => hk.2)⟩, ⟨by (with_reducible repeat (first | refine kN ?_ _ | refine kD ?_ | refine kA ?_ _)); exact BK108.out⟩, ⟨by (with_reducible repeat (first | refine kN ?_ _ | refine kD ?_ | refine kA ?_ _)); exact BK116.out⟩, ⟨by repeat (first | (with_reducible first | exact HB.out | apply bA | apply bN | apply bD | refine below_set ?_ GE108.out | refine below_set ?_ GE116.out) | exact HB.out)⟩⟩
  case rest =>
   clear HC5; (try clear c1); (try clear c2); (try clear c2b0); (try clear c2b1); (try clear p2); (try clear c3); (try clear c4); (try clear c5); (try clear c6); (try clear c14); (try clear c18); (try clear c19); (try clear c23); (try clear hcz15_0); (try clear hcz15_1); (try clear hcz20_0); (try clear hcz20_1); (try clear hcz21_0); (try clear hcz21_1); (try clear hcz24_0); (try clear hcz24_1); (try clear hcz25_0); (try clear hcz25_1); (try clear hcz9_0); (try clear hcz9_1); (try clear hfz15_0); (try clear hfz15_1); (try clear hfz20_0); (try clear hfz20_1); (try clear hfz21_0); (try clear hfz21_1); (try clear hfz24_0); (try clear hfz24_1); (try clear hfz25_0); (try clear hfz25_1); (try clear hfz9_0); (try clear hfz9_1); (obtain ⟨kq, x32_4, rfl, HA, HJ4, HO_109000, HO_109001, HO_117000, HO_117001, BK108, BK116, HB⟩ := hcut)
   cases kq with
   | zero => exact absurd HA.out (by simp [laws_FnExactEnglishToRecord.j0])
   | succ kj4 =>
    (have H := HA.out); clear HA; (simp only [laws_FnExactEnglishToRecord.j0] at H); (by_cases c27 : x32_4 = true); (· subst c27; (rw [if_pos rfl] at H); (obtain rfl := Option.some.inj H); (exact absurd ht_.out (by decide)))
    ·replace c27 := Bool.eq_false_iff.mpr c27
     subst c27; (rw [if_neg (show ¬ (false = true) by decide)] at H); (replace H := obS H); (obtain ⟨⟨t118, t119, t120⟩, A28, H⟩ := H); (replace H : ((laws_heldRecord.f kj4 t119 t120 1).bind fun t121 => (if t121 < 0 then (some false) else (if t121 = t118 then ((impl_EnglishToRecord.f kj4 a0).bind fun bt122 => ((laws_eqRecord.f kj4 bt122.1 bt122.2.1 t101 t104).bind fun t130 => (if t130 = true then (laws_FnExactEnglishToRecord.j1 kj4 t118 (bt122.2.2 != t107) t119 t120) else (laws_FnExactEnglishToRecord.j1 kj4 t118 true t119 t120)))) else (some false)))) = some r := H); (replace H := obS H); (obtain ⟨t121, A29, H⟩ := H); (by_cases c30 : t121 < 0); (· (rw [if_pos c30] at H); (have c30b0 := decide_eq_true c30); clear c30; (obtain rfl := Option.some.inj H); (exact absurd ht_.out (by decide)))
     ·rw [if_neg c30] at H
      (have c30b0 := decide_eq_false c30); clear c30; (by_cases c36 : t121 = t118)
      ·rw [if_pos c36] at H
       (have c36b0 : (t121 == t118) = true := beq_iff_eq.mpr c36); (have c36b1 : (t121 != t118) = false := bne_eq_false_iff_eq.mpr c36); clear c36; (replace H := obS H); (obtain ⟨⟨t122, t125, t128⟩, A37, H⟩ := H); (replace H : ((laws_eqRecord.f kj4 t122 t125 t101 t104).bind fun t130 => (if t130 = true then (laws_FnExactEnglishToRecord.j1 kj4 t118 (t128 != t107) t119 t120) else (laws_FnExactEnglishToRecord.j1 kj4 t118 true t119 t120))) = some r := H); (have HC38 := Aside0.mk H); clear H; (have hnb39 := NB116_108.out); (have hnc39 := NB108_116.out); (have hcz40_0 := cz BK116.out 0); (have hcz40_1 := cz BK116.out 1); (have hfz40_0 := blk_frozen BK116.out 0); (have hfz40_1 := blk_frozen BK116.out 1)
       go_upto_region 16 with (first | ((with_reducible refine gate_callee (f := 7) rfl ?_); refine gL (some 35) Tryz.func7 #[.agg #[.slice Ao13 t109.length co13, .slice Ao16 t112.length co16], .int .i64 1] ?_; (with_reducible refine (laws_markRecord.calls kj4 (fun k_ => some k_ = (.slice Ao13 t109.length co13 : Value).ownBlock) (.slice Ao13 t109.length co13) t109 (fun k_ => some k_ = (.slice Ao16 t112.length co16 : Value).ownBlock) (.slice Ao16 t112.length co16) t112 1 t118 t119 t120 w _ ?side1 ?side2 ?side3 A28.out).mono ?_); (case side1 => repeat (first | (with_reducible first | exact HB.out | apply bA | apply bN | apply bD | refine below_set ?_ GE108.out | refine below_set ?_ GE116.out) | exact HB.out)); (case side2 => exact Kd.R_tight rfl HO_117000.out); (case side3 => exact Kd.R_tight rfl HO_117001.out); rintro e w41 ⟨rfl, hy0, hy1, hb, hkp⟩; refine ⟨_, rfl, ?_⟩; have n0_ := Aside0.mk (Kd.R_mono (ok' := fun k_ => some k_ ≠ (.slice Ao13 t109.length co13 : Value).ownBlock) (Kd.R_keptB ((Kd.R_apart' HO_109000.out (Kd.R_typed HO_117001.out) (by decide))) hkp (fun k_ hk_ hs_ => Or.elim hs_ (fun e_ => (hk_.1) e_) (fun e_ => (hk_.2) e_))) (fun k_ hk_ => hk_.1.1)); have n1_ := Aside0.mk (Kd.R_mono (ok' := fun k_ => some k_ ≠ (.slice Ao16 t112.length co16 : Value).ownBlock) (Kd.R_keptB ((Kd.R_apart' HO_109001.out (Kd.R_typed HO_117000.out) (by decide))) hkp (fun k_ hk_ hs_ => Or.elim hs_ (fun e_ => (hk_.2) e_) (fun e_ => (hk_.1) e_))) (fun k_ hk_ => hk_.1.1)); have n2_ := Aside0.mk (Kd.R_reok rfl hy0 (fun k_ e_ => HO_117000.out.1 k_ e_)); have n3_ := Aside0.mk (Kd.R_reok rfl hy1 (fun k_ e_ => HO_117001.out.1 k_ e_)); have n4_ := Aside0.mk (blk_kept (kI BK108) hkp (fun hs_ => Or.elim hs_ (fun e_ => (fun e_ => (Kd.R_ne HO_117000.out BK108.out (by decide)) e_) e_) (fun e_ => (fun e_ => (Kd.R_ne HO_117001.out BK108.out (by decide)) e_) e_))); have n5_ := Aside0.mk (blk_kept (kI BK116) hkp (fun hs_ => Or.elim hs_ (fun e_ => (fun e_ => (Kd.R_ne HO_117000.out BK116.out (by decide)) e_) e_) (fun e_ => (fun e_ => (Kd.R_ne HO_117001.out BK116.out (by decide)) e_) e_))); have n6_ := Aside0.mk (hb); clear HO_109000 HO_109001 HO_117000 HO_117001 BK108 BK116 HB; have HO_109000 := n0_; have HO_109001 := n1_; have HO_117000 := n2_; have HO_117001 := n3_; have BK108 := n4_; have BK116 := n5_; have HB := n6_; clear n0_ n1_ n2_ n3_ n4_ n5_ n6_; (try clear hb); (try clear hkp); (try clear hy0); (try clear hy1); have hcz42_0 := cz BK116.out 0; have hcz42_1 := cz BK116.out 1; have hfz42_0 := blk_frozen BK116.out 0; have hfz42_1 := blk_frozen BK116.out 1) | ((with_reducible refine gate_callee (f := 8) rfl ?_); refine goesL_ (some 38) rfl rfl Tryz.func8 (by kernel_rfl) rfl #[.agg #[.slice Ao13 t119.length co13, .slice Ao16 t120.length co16], .int .i64 1] rfl (by (try simp only [aM1, aM2, aM3]); first | done | (rw [show t119.length = t109.length from (Kd.R_reads' HO_117000.out).1.symm, show t120.length = t112.length from (Kd.R_reads' HO_117001.out).1.symm] <;> rfl) | rfl | (simp only [List.length_drop, List.length_take]; rfl)) ?_; (with_reducible refine (laws_heldRecord.calls kj4 _ _ t119 _ _ t120 1 t121 _ ?side1 ?side2 ?side3 ?side4 A29.out).mono ?_); (case side1 => repeat (first | exact (Kd.R_reads' HO_117000.out).2.2 | (with_reducible first | refine cA ?_ _ | refine cN ?_ _ | refine cD ?_))); (case side2 => rw [show t119.length = t109.length from (Kd.R_reads' HO_117000.out).1.symm]; exact (Kd.R_reads' HO_117000.out).2.1); (case side3 => repeat (first | exact (Kd.R_reads' HO_117001.out).2.2 | (with_reducible first | refine cA ?_ _ | refine cN ?_ _ | refine cD ?_))); (case side4 => rw [show t120.length = t112.length from (Kd.R_reads' HO_117001.out).1.symm]; exact (Kd.R_reads' HO_117001.out).2.1); rintro e w43 ⟨rfl, hb⟩; refine ⟨_, rfl, ?_⟩; have n0_ := Aside0.mk (rbI hb HO_109000); have n1_ := Aside0.mk (rbI hb HO_109001); have n2_ := Aside0.mk (rbI hb HO_117000); have n3_ := Aside0.mk (rbI hb HO_117001); have n4_ := Aside0.mk (kbI hb BK108); have n5_ := Aside0.mk (kbI hb BK116); have n6_ := Aside0.mk (sI hb HB); clear HO_109000 HO_109001 HO_117000 HO_117001 BK108 BK116 HB; have HO_109000 := n0_; have HO_109001 := n1_; have HO_117000 := n2_; have HO_117001 := n3_; have BK108 := n4_; have BK116 := n5_; have HB := n6_; clear n0_ n1_ n2_ n3_ n4_ n5_ n6_; (try clear hb); (try clear hb2); (try clear hk); (try clear hi)) | ((with_reducible refine gate_callee (f := 5) rfl ?_); refine gL (some 46) Tryz.func5 #[.string a0] ?_; (with_reducible refine (impl_EnglishToRecord.calls kj4 a0 t122 t125 t128 _ ?side1 A37.out).mono ?_); (case side1 => first | exact GE.below HG.out (eI HB) | (repeat (first | exact HG.out | (with_reducible first | apply GE.drewN | apply GE.drew | apply GE.alloc)))); rintro e w44 ⟨v123, v126, rfl, ho0, ho1, hb⟩; refine ⟨_, rfl, ?_⟩; have n0_ := Aside0.mk (Kd.R_elder' (rI HO_109000) (Kd.R_base ho0) hb); have n1_ := Aside0.mk (Kd.R_elder' (rI HO_109001) (Kd.R_base ho1) hb); have n2_ := Aside0.mk (Kd.R_elder' (rI HO_117000) (Kd.R_base ho0) hb); have n3_ := Aside0.mk (Kd.R_elder' (rI HO_117001) (Kd.R_base ho1) hb); have n4_ := Aside0.mk (Kd.R_lower (Kd.R_new' (Kd.R_new' ho0 (Kd.R_lt (rI HO_109000))) (Kd.R_lt (rI HO_117000))) (below_size (eI HB))); have n5_ := Aside0.mk (Kd.R_lower (Kd.R_new' (Kd.R_new' ho1 (Kd.R_lt (rI HO_109001))) (Kd.R_lt (rI HO_117001))) (below_size (eI HB))); have n6_ := Aside0.mk (kbI hb BK108); have n7_ := Aside0.mk (kbI hb BK116); have n8_ := Aside0.mk (sI hb HB); clear HO_109000 HO_109001 HO_117000 HO_117001 BK108 BK116 HB; have HO_109000 := n0_; have HO_109001 := n1_; have HO_117000 := n2_; have HO_117001 := n3_; have HO124 := n4_; have HO127 := n5_; have BK108 := n6_; have BK116 := n7_; have HB := n8_; clear n0_ n1_ n2_ n3_ n4_ n5_ n6_ n7_ n8_; (try clear hb); (try clear hb2); (try clear hk); (try clear hi); (try clear ho0); (try clear ho1)) | ((with_reducible refine gate_dst (N := 9) rfl ?_); refine box_event ?hg (N := 9) ?hd (cs := #[.slice none 0 0, .slice none 0 0]) (t := 25) ?hr ?_; (case hd => rfl); (case hg => rfl); (case hr => first | (go_simp; done) | (go_simp; rfl)); intro gb129 hg w45 hbox hb; have n0_ := Aside0.mk (rbI hb HO_109000); have n1_ := Aside0.mk (rbI hb HO_109001); have n2_ := Aside0.mk (rbI hb HO_117000); have n3_ := Aside0.mk (rbI hb HO_117001); have n4_ := Aside0.mk (rbI hb HO124); have n5_ := Aside0.mk (rbI hb HO127); have n6_ := Aside0.mk (kbI hb BK108); have n7_ := Aside0.mk (kbI hb BK116); have hB_ := zI hb HB; have n8_ := Aside0.mk (below_step hB_ hb); have n9_ := Aside0.mk (hbox); have n10_ := Aside0.mk (bx0 hg hB_); have n11_ := n10_; have n12_ := Aside0.mk ((by rw [hg]; exact Nat.ne_of_lt (blk_lt (kI BK108)) : gb108 ≠ gb129)); have n13_ := Aside0.mk (Ne.symm n12_.out); have n14_ := Aside0.mk ((by rw [hg]; exact Nat.ne_of_lt (blk_lt (kI BK116)) : gb116 ≠ gb129)); have n15_ := Aside0.mk (Ne.symm n14_.out); clear HO_109000 HO_109001 HO_117000 HO_117001 HO124 HO127 BK108 BK116 HB; have HO_109000 := n0_; have HO_109001 := n1_; have HO_117000 := n2_; have HO_117001 := n3_; have HO124 := n4_; have HO127 := n5_; have BK108 := n6_; have BK116 := n7_; have HB := n8_; have BK129 := n9_; have GW129 := n10_; have GE129 := n11_; have NB108_129 := n12_; have NB129_108 := n13_; have NB116_129 := n14_; have NB129_116 := n15_; clear n0_ n1_ n2_ n3_ n4_ n5_ n6_ n7_ n8_ n9_ n10_ n11_ n12_ n13_ n14_ n15_ hB_ hb hbox hg; obtain ⟨Ao46, co46, eo46⟩ := Kd.R_slice HO124.out; subst eo46; have hnb47 := NB129_108.out; have hnc47 := NB108_129.out; have hnb48 := NB129_116.out; have hnc48 := NB116_129.out; have hcz49_0 := cz BK129.out 0; have hcz49_1 := cz BK129.out 1; have hfz49_0 := blk_frozen BK129.out 0; have hfz49_1 := blk_frozen BK129.out 1; obtain ⟨Ao50, co50, eo50⟩ := Kd.R_slice HO127.out; subst eo50))
       ((try simp only [Act.put, aS1, aS2, aS3])); (go_cut [57] (fun v57 wc => ∃ (kq : Nat) (x57_37 : Bool), v57 = .bool x57_37 ∧ Aside0 (laws_FnExactEnglishToRecord.j1 kq t118 x57_37 t119 t120 = some r) ∧ Aside0 (kq ≤ kj4) ∧ Aside0 (Kd.R k38 38 wc w.heap.size (fun k_ => some k_ ≠ ((.slice Ao13 t109.length co13) : Value).ownBlock ∧ some k_ ≠ ((.slice Ao46 t122.length co46) : Value).ownBlock) (.slice Ao8 t101.length co8) t101) ∧ Aside0 (Kd.R k40 40 wc w.heap.size (fun k_ => some k_ ≠ ((.slice Ao16 t112.length co16) : Value).ownBlock ∧ some k_ ≠ ((.slice Ao50 t125.length co50) : Value).ownBlock) (.slice Ao10 t104.length co10) t104) ∧ Aside0 (Kd.R k38 38 wc w.heap.size (fun k_ => some k_ ≠ ((.slice Ao8 t101.length co8) : Value).ownBlock ∧ some k_ ≠ ((.slice Ao46 t122.length co46) : Value).ownBlock) (.slice Ao13 t109.length co13) t119) ∧ Aside0 (Kd.R k40 40 wc w.heap.size (fun k_ => some k_ ≠ ((.slice Ao10 t104.length co10) : Value).ownBlock ∧ some k_ ≠ ((.slice Ao50 t125.length co50) : Value).ownBlock) (.slice Ao16 t112.length co16) t120) ∧ Aside0 (Kd.R k38 38 wc w.heap.size (fun k_ => some k_ ≠ ((.slice Ao8 t101.length co8) : Value).ownBlock ∧ some k_ ≠ ((.slice Ao13 t109.length co13) : Value).ownBlock) (.slice Ao46 t122.length co46) t122) ∧ Aside0 (Kd.R k40 40 wc w.heap.size (fun k_ => some k_ ≠ ((.slice Ao10 t104.length co10) : Value).ownBlock ∧ some k_ ≠ ((.slice Ao16 t112.length co16) : Value).ownBlock) (.slice Ao50 t125.length co50) t125) ∧ Aside0 (wc.heap[gb108]? = some (.cells #[(.slice Ao8 t101.length co8), (.slice Ao10 t104.length co10)] 25 (0, 0))) ∧ Aside0 (wc.heap[gb116]? = some (.cells #[(.slice Ao13 t109.length co13), (.slice Ao16 t112.length co16)] 25 (0, 0))) ∧ Aside0 (wc.heap[gb129]? = some (.cells #[(.slice Ao46 t122.length co46), (.slice Ao50 t125.length co50)] 25 (0, 0))) ∧ Aside0 (Below w.heap.size w wc)))
       case first =>
        (have H := HC38.out); clear HC38; (replace H := obS H); (obtain ⟨t130, A51, H⟩ := H); (by_cases c52 : t130 = true)
        ·subst c52
         (rw [if_pos rfl] at H); (have H' := Aside0.mk H); clear H; (have hnb53 := NB129_108.out); (have hnc53 := NB108_129.out); (have hnb54 := NB129_116.out); (have hnc54 := NB116_129.out); (have hcz55_0 := cz BK129.out 0); (have hcz55_1 := cz BK129.out 1); (have hfz55_0 := blk_frozen BK129.out 0); (have hfz55_1 := blk_frozen BK129.out 1); (have hnb56 := NB108_116.out); (have hnc56 := NB116_108.out); (have hcz57_0 := cz BK108.out 0); (have hcz57_1 := cz BK108.out 1); (have hfz57_0 := blk_frozen BK108.out 0); (have hfz57_1 := blk_frozen BK108.out 1)
         go_wp2_with (first | ((with_reducible refine gate_callee (f := 6) rfl ?_); refine gL (some 51) Tryz.func6 #[.agg #[.slice Ao46 t122.length co46, .slice Ao50 t125.length co50], .agg #[.slice Ao8 t101.length co8, .slice Ao10 t104.length co10]] ?_; (with_reducible refine (laws_eqRecord.calls kj4 _ _ t122 _ _ t125 _ _ t101 _ _ t104 true _ ?side1 ?side2 ?side3 ?side4 ?side5 ?side6 ?side7 ?side8 A51.out).mono ?_); (case side1 => refine (Kd.R_reads' (e := 38) (base := w.heap.size) (ok := fun k_ => ((True ∧ some k_ ≠ (.slice Ao8 t101.length co8 : Value).ownBlock) ∧ some k_ ≠ (.slice Ao13 t109.length co13 : Value).ownBlock)) (n := t122.length) (c := co46) ?_).2.2; exact (by (with_reducible repeat (first | apply rA | apply rN | apply rD)); exact (Kd.R_mono (Kd.R_far (p := ⟨gb129, 1, none⟩) (Kd.R_far (p := ⟨gb129, 0, none⟩) (Kd.R_types HO124.out BK129.out (by decide)) (fun _ hk => hk.2) (.slice Ao46 t122.length co46)) (fun _ hk => hk.2) (.slice Ao50 t125.length co50)) (fun _ h_ => h_.1)))); (case side2 => exact (Kd.R_reads' HO124.out).2.1); (case side3 => refine (Kd.R_reads' (e := 40) (base := w.heap.size) (ok := fun k_ => ((True ∧ some k_ ≠ (.slice Ao10 t104.length co10 : Value).ownBlock) ∧ some k_ ≠ (.slice Ao16 t112.length co16 : Value).ownBlock)) (n := t125.length) (c := co50) ?_).2.2; exact (by (with_reducible repeat (first | apply rA | apply rN | apply rD)); exact (Kd.R_mono (Kd.R_far (p := ⟨gb129, 1, none⟩) (Kd.R_far (p := ⟨gb129, 0, none⟩) (Kd.R_types HO127.out BK129.out (by decide)) (fun _ hk => hk.2) (.slice Ao46 t122.length co46)) (fun _ hk => hk.2) (.slice Ao50 t125.length co50)) (fun _ h_ => h_.1)))); (case side4 => exact (Kd.R_reads' HO127.out).2.1); (case side5 => refine (Kd.R_reads' (e := 38) (base := w.heap.size) (ok := fun k_ => (some k_ ≠ (.slice Ao13 t109.length co13 : Value).ownBlock ∧ some k_ ≠ (.slice Ao46 t122.length co46 : Value).ownBlock)) (n := t101.length) (c := co8) ?_).2.2; exact (by (with_reducible repeat (first | apply rA | apply rN | apply rD)); exact (Kd.R_mono (Kd.R_far (p := ⟨gb129, 1, none⟩) (Kd.R_far (p := ⟨gb129, 0, none⟩) (Kd.R_types HO_109000.out BK129.out (by decide)) (fun _ hk => hk.2) (.slice Ao46 t122.length co46)) (fun _ hk => hk.2) (.slice Ao50 t125.length co50)) (fun _ h_ => h_.1)))); (case side6 => exact (Kd.R_reads' HO_109000.out).2.1); (case side7 => refine (Kd.R_reads' (e := 40) (base := w.heap.size) (ok := fun k_ => (some k_ ≠ (.slice Ao16 t112.length co16 : Value).ownBlock ∧ some k_ ≠ (.slice Ao50 t125.length co50 : Value).ownBlock)) (n := t104.length) (c := co10) ?_).2.2; exact (by (with_reducible repeat (first | apply rA | apply rN | apply rD)); exact (Kd.R_mono (Kd.R_far (p := ⟨gb129, 1, none⟩) (Kd.R_far (p := ⟨gb129, 0, none⟩) (Kd.R_types HO_109001.out BK129.out (by decide)) (fun _ hk => hk.2) (.slice Ao46 t122.length co46)) (fun _ hk => hk.2) (.slice Ao50 t125.length co50)) (fun _ h_ => h_.1)))); (case side8 => exact (Kd.R_reads' HO_109001.out).2.1); rintro e w58 ⟨rfl, hb⟩; refine ⟨_, rfl, ?_⟩; have n0_ := Aside0.mk (Kd.R_below (by (with_reducible repeat (first | apply rA | apply rN | apply rD)); exact (Kd.R_mono (Kd.R_far (p := ⟨gb129, 1, none⟩) (Kd.R_far (p := ⟨gb129, 0, none⟩) (Kd.R_types HO_109000.out BK129.out (by decide)) (fun _ hk => hk.2) (.slice Ao46 t122.length co46)) (fun _ hk => hk.2) (.slice Ao50 t125.length co50)) (fun _ h_ => h_.1))) hb); have n1_ := Aside0.mk (Kd.R_below (by (with_reducible repeat (first | apply rA | apply rN | apply rD)); exact (Kd.R_mono (Kd.R_far (p := ⟨gb129, 1, none⟩) (Kd.R_far (p := ⟨gb129, 0, none⟩) (Kd.R_types HO_109001.out BK129.out (by decide)) (fun _ hk => hk.2) (.slice Ao46 t122.length co46)) (fun _ hk => hk.2) (.slice Ao50 t125.length co50)) (fun _ h_ => h_.1))) hb); have n2_ := Aside0.mk (Kd.R_below (by (with_reducible repeat (first | apply rA | apply rN | apply rD)); exact (Kd.R_mono (Kd.R_far (p := ⟨gb129, 1, none⟩) (Kd.R_far (p := ⟨gb129, 0, none⟩) (Kd.R_types HO_117000.out BK129.out (by decide)) (fun _ hk => hk.2) (.slice Ao46 t122.length co46)) (fun _ hk => hk.2) (.slice Ao50 t125.length co50)) (fun _ h_ => h_.1))) hb); have n3_ := Aside0.mk (Kd.R_below (by (with_reducible repeat (first | apply rA | apply rN | apply rD)); exact (Kd.R_mono (Kd.R_far (p := ⟨gb129, 1, none⟩) (Kd.R_far (p := ⟨gb129, 0, none⟩) (Kd.R_types HO_117001.out BK129.out (by decide)) (fun _ hk => hk.2) (.slice Ao46 t122.length co46)) (fun _ hk => hk.2) (.slice Ao50 t125.length co50)) (fun _ h_ => h_.1))) hb); have n4_ := Aside0.mk (Kd.R_below (by (with_reducible repeat (first | apply rA | apply rN | apply rD)); exact (Kd.R_mono (Kd.R_far (p := ⟨gb129, 1, none⟩) (Kd.R_far (p := ⟨gb129, 0, none⟩) (Kd.R_types HO124.out BK129.out (by decide)) (fun _ hk => hk.2) (.slice Ao46 t122.length co46)) (fun _ hk => hk.2) (.slice Ao50 t125.length co50)) (fun _ h_ => h_.1))) hb); have n5_ := Aside0.mk (Kd.R_below (by (with_reducible repeat (first | apply rA | apply rN | apply rD)); exact (Kd.R_mono (Kd.R_far (p := ⟨gb129, 1, none⟩) (Kd.R_far (p := ⟨gb129, 0, none⟩) (Kd.R_types HO127.out BK129.out (by decide)) (fun _ hk => hk.2) (.slice Ao46 t122.length co46)) (fun _ hk => hk.2) (.slice Ao50 t125.length co50)) (fun _ h_ => h_.1))) hb); have n6_ := Aside0.mk (blk_below (g := gb108) (o := .cells #[.slice Ao8 t101.length co8, .slice Ao10 t104.length co10] 25 (0, 0)) (by (with_reducible repeat (first | refine kN ?_ _ | refine kD ?_ | refine kA ?_ _)); refine blk_far ?_ NB108_129.out _; (with_reducible repeat (first | refine kN ?_ _ | refine kD ?_ | refine kA ?_ _)); refine blk_far ?_ NB108_129.out _; (with_reducible repeat (first | refine kN ?_ _ | refine kD ?_ | refine kA ?_ _)); exact BK108.out) hb); have n7_ := Aside0.mk (blk_below (g := gb116) (o := .cells #[.slice Ao13 t109.length co13, .slice Ao16 t112.length co16] 25 (0, 0)) (by (with_reducible repeat (first | refine kN ?_ _ | refine kD ?_ | refine kA ?_ _)); refine blk_far ?_ NB116_129.out _; (with_reducible repeat (first | refine kN ?_ _ | refine kD ?_ | refine kA ?_ _)); refine blk_far ?_ NB116_129.out _; (with_reducible repeat (first | refine kN ?_ _ | refine kD ?_ | refine kA ?_ _)); exact BK116.out) hb); have n8_ := Aside0.mk (blk_below (g := gb129) (o := .cells #[.slice Ao46 t122.length co46, .slice Ao50 t125.length co50] 25 (0, 0)) (by (with_reducible repeat (first | refine kN ?_ _ | refine kD ?_ | refine kA ?_ _)); refine blk_put (cs := #[.slice Ao46 t122.length co46, .slice none 0 0]) ?_ 1 _ rfl; (with_reducible repeat (first | refine kN ?_ _ | refine kD ?_ | refine kA ?_ _)); refine blk_put (cs := #[.slice none 0 0, .slice none 0 0]) ?_ 0 _ rfl; (with_reducible repeat (first | refine kN ?_ _ | refine kD ?_ | refine kA ?_ _)); exact BK129.out) hb); have n9_ := Aside0.mk (below_step (by repeat (first | (with_reducible first | exact HB.out | apply bA | apply bN | apply bD | refine below_set ?_ GE108.out | refine below_set ?_ GE116.out | refine below_set ?_ GE129.out) | exact HB.out)) hb); clear HO_109000 HO_109001 HO_117000 HO_117001 HO124 HO127 BK108 BK116 BK129 HB; have HO_109000 := n0_; have HO_109001 := n1_; have HO_117000 := n2_; have HO_117001 := n3_; have HO124 := n4_; have HO127 := n5_; have BK108 := n6_; have BK116 := n7_; have BK129 := n8_; have HB := n9_; clear n0_ n1_ n2_ n3_ n4_ n5_ n6_ n7_ n8_ n9_; (try clear hb); (try clear hb2); (try clear hk); (try clear hi)))
         go_meet
         case rel => exact ⟨_, ((t128 != t107)), (by first | rfl | (simp; done) | (simp [*]; done)), H', ⟨by have := HJ4.out; first | omega | exact Nat.le_refl _⟩, ⟨by (with_reducible repeat (first | apply rA | apply rN | apply rD)); exact HO_109000.out⟩, ⟨by (with_reducible repeat (first | apply rA | apply rN | apply rD)); exact HO_109001.out⟩, ⟨by (with_reducible repeat (first | apply rA | apply rN | apply rD)); exact HO_117000.out⟩, ⟨by (with_reducible repeat (first | apply rA | apply rN | apply rD)); exact HO_117001.out⟩, ⟨by (with_reducible repeat (first | apply rA | apply rN | apply rD)); exact Kd.R_mono HO124.out (fun _ hk => ⟨hk.1.2, hk.2⟩)⟩, ⟨by (with_reducible repeat (first | apply rA | apply rN | apply rD)); exact Kd.R_mono HO127.out (fun _ hk => ⟨hk.1.2, hk.2⟩)⟩, ⟨by (with_reducible repeat (first | refine kN ?_ _ | refine kD ?_ | refine kA ?_ _)); exact BK108.out⟩, ⟨by (with_reducible repeat (first | refine kN ?_ _ | refine kD ?_ | refine kA ?_ _)); exact BK116.out⟩, ⟨by (with_reducible repeat (first | refine kN ?_ _ | refine kD ?_ | refine kA ?_ _)); exact BK129.out⟩, ⟨eI HB⟩⟩
        ·replace c52 := Bool.eq_false_iff.mpr c52
         subst c52; (rw [if_neg (show ¬ (false = true) by decide)] at H); (have H' := Aside0.mk H); clear H; (have hnb59 := NB129_108.out); (have hnc59 := NB108_129.out); (have hnb60 := NB129_116.out); (have hnc60 := NB116_129.out); (have hcz61_0 := cz BK129.out 0); (have hcz61_1 := cz BK129.out 1); (have hfz61_0 := blk_frozen BK129.out 0); (have hfz61_1 := blk_frozen BK129.out 1); (have hnb62 := NB108_116.out); (have hnc62 := NB116_108.out); (have hcz63_0 := cz BK108.out 0); (have hcz63_1 := cz BK108.out 1); (have hfz63_0 := blk_frozen BK108.out 0); (have hfz63_1 := blk_frozen BK108.out 1)
         go_wp2_with (first | ((with_reducible refine gate_callee (f := 6) rfl ?_); refine gL (some 51) Tryz.func6 #[.agg #[.slice Ao46 t122.length co46, .slice Ao50 t125.length co50], .agg #[.slice Ao8 t101.length co8, .slice Ao10 t104.length co10]] ?_; (with_reducible refine (laws_eqRecord.calls kj4 _ _ t122 _ _ t125 _ _ t101 _ _ t104 false _ ?side1 ?side2 ?side3 ?side4 ?side5 ?side6 ?side7 ?side8 A51.out).mono ?_); (case side1 => refine (Kd.R_reads' (e := 38) (base := w.heap.size) (ok := fun k_ => ((True ∧ some k_ ≠ (.slice Ao8 t101.length co8 : Value).ownBlock) ∧ some k_ ≠ (.slice Ao13 t109.length co13 : Value).ownBlock)) (n := t122.length) (c := co46) ?_).2.2; exact (by (with_reducible repeat (first | apply rA | apply rN | apply rD)); exact (Kd.R_mono (Kd.R_far (p := ⟨gb129, 1, none⟩) (Kd.R_far (p := ⟨gb129, 0, none⟩) (Kd.R_types HO124.out BK129.out (by decide)) (fun _ hk => hk.2) (.slice Ao46 t122.length co46)) (fun _ hk => hk.2) (.slice Ao50 t125.length co50)) (fun _ h_ => h_.1)))); (case side2 => exact (Kd.R_reads' HO124.out).2.1); (case side3 => refine (Kd.R_reads' (e := 40) (base := w.heap.size) (ok := fun k_ => ((True ∧ some k_ ≠ (.slice Ao10 t104.length co10 : Value).ownBlock) ∧ some k_ ≠ (.slice Ao16 t112.length co16 : Value).ownBlock)) (n := t125.length) (c := co50) ?_).2.2; exact (by (with_reducible repeat (first | apply rA | apply rN | apply rD)); exact (Kd.R_mono (Kd.R_far (p := ⟨gb129, 1, none⟩) (Kd.R_far (p := ⟨gb129, 0, none⟩) (Kd.R_types HO127.out BK129.out (by decide)) (fun _ hk => hk.2) (.slice Ao46 t122.length co46)) (fun _ hk => hk.2) (.slice Ao50 t125.length co50)) (fun _ h_ => h_.1)))); (case side4 => exact (Kd.R_reads' HO127.out).2.1); (case side5 => refine (Kd.R_reads' (e := 38) (base := w.heap.size) (ok := fun k_ => (some k_ ≠ (.slice Ao13 t109.length co13 : Value).ownBlock ∧ some k_ ≠ (.slice Ao46 t122.length co46 : Value).ownBlock)) (n := t101.length) (c := co8) ?_).2.2; exact (by (with_reducible repeat (first | apply rA | apply rN | apply rD)); exact (Kd.R_mono (Kd.R_far (p := ⟨gb129, 1, none⟩) (Kd.R_far (p := ⟨gb129, 0, none⟩) (Kd.R_types HO_109000.out BK129.out (by decide)) (fun _ hk => hk.2) (.slice Ao46 t122.length co46)) (fun _ hk => hk.2) (.slice Ao50 t125.length co50)) (fun _ h_ => h_.1)))); (case side6 => exact (Kd.R_reads' HO_109000.out).2.1); (case side7 => refine (Kd.R_reads' (e := 40) (base := w.heap.size) (ok := fun k_ => (some k_ ≠ (.slice Ao16 t112.length co16 : Value).ownBlock ∧ some k_ ≠ (.slice Ao50 t125.length co50 : Value).ownBlock)) (n := t104.length) (c := co10) ?_).2.2; exact (by (with_reducible repeat (first | apply rA | apply rN | apply rD)); exact (Kd.R_mono (Kd.R_far (p := ⟨gb129, 1, none⟩) (Kd.R_far (p := ⟨gb129, 0, none⟩) (Kd.R_types HO_109001.out BK129.out (by decide)) (fun _ hk => hk.2) (.slice Ao46 t122.length co46)) (fun _ hk => hk.2) (.slice Ao50 t125.length co50)) (fun _ h_ => h_.1)))); (case side8 => exact (Kd.R_reads' HO_109001.out).2.1); rintro e w64 ⟨rfl, hb⟩; refine ⟨_, rfl, ?_⟩; have n0_ := Aside0.mk (Kd.R_below (by (with_reducible repeat (first | apply rA | apply rN | apply rD)); exact (Kd.R_mono (Kd.R_far (p := ⟨gb129, 1, none⟩) (Kd.R_far (p := ⟨gb129, 0, none⟩) (Kd.R_types HO_109000.out BK129.out (by decide)) (fun _ hk => hk.2) (.slice Ao46 t122.length co46)) (fun _ hk => hk.2) (.slice Ao50 t125.length co50)) (fun _ h_ => h_.1))) hb); have n1_ := Aside0.mk (Kd.R_below (by (with_reducible repeat (first | apply rA | apply rN | apply rD)); exact (Kd.R_mono (Kd.R_far (p := ⟨gb129, 1, none⟩) (Kd.R_far (p := ⟨gb129, 0, none⟩) (Kd.R_types HO_109001.out BK129.out (by decide)) (fun _ hk => hk.2) (.slice Ao46 t122.length co46)) (fun _ hk => hk.2) (.slice Ao50 t125.length co50)) (fun _ h_ => h_.1))) hb); have n2_ := Aside0.mk (Kd.R_below (by (with_reducible repeat (first | apply rA | apply rN | apply rD)); exact (Kd.R_mono (Kd.R_far (p := ⟨gb129, 1, none⟩) (Kd.R_far (p := ⟨gb129, 0, none⟩) (Kd.R_types HO_117000.out BK129.out (by decide)) (fun _ hk => hk.2) (.slice Ao46 t122.length co46)) (fun _ hk => hk.2) (.slice Ao50 t125.length co50)) (fun _ h_ => h_.1))) hb); have n3_ := Aside0.mk (Kd.R_below (by (with_reducible repeat (first | apply rA | apply rN | apply rD)); exact (Kd.R_mono (Kd.R_far (p := ⟨gb129, 1, none⟩) (Kd.R_far (p := ⟨gb129, 0, none⟩) (Kd.R_types HO_117001.out BK129.out (by decide)) (fun _ hk => hk.2) (.slice Ao46 t122.length co46)) (fun _ hk => hk.2) (.slice Ao50 t125.length co50)) (fun _ h_ => h_.1))) hb); have n4_ := Aside0.mk (Kd.R_below (by (with_reducible repeat (first | apply rA | apply rN | apply rD)); exact (Kd.R_mono (Kd.R_far (p := ⟨gb129, 1, none⟩) (Kd.R_far (p := ⟨gb129, 0, none⟩) (Kd.R_types HO124.out BK129.out (by decide)) (fun _ hk => hk.2) (.slice Ao46 t122.length co46)) (fun _ hk => hk.2) (.slice Ao50 t125.length co50)) (fun _ h_ => h_.1))) hb); have n5_ := Aside0.mk (Kd.R_below (by (with_reducible repeat (first | apply rA | apply rN | apply rD)); exact (Kd.R_mono (Kd.R_far (p := ⟨gb129, 1, none⟩) (Kd.R_far (p := ⟨gb129, 0, none⟩) (Kd.R_types HO127.out BK129.out (by decide)) (fun _ hk => hk.2) (.slice Ao46 t122.length co46)) (fun _ hk => hk.2) (.slice Ao50 t125.length co50)) (fun _ h_ => h_.1))) hb); have n6_ := Aside0.mk (blk_below (g := gb108) (o := .cells #[.slice Ao8 t101.length co8, .slice Ao10 t104.length co10] 25 (0, 0)) (by (with_reducible repeat (first | refine kN ?_ _ | refine kD ?_ | refine kA ?_ _)); refine blk_far ?_ NB108_129.out _; (with_reducible repeat (first | refine kN ?_ _ | refine kD ?_ | refine kA ?_ _)); refine blk_far ?_ NB108_129.out _; (with_reducible repeat (first | refine kN ?_ _ | refine kD ?_ | refine kA ?_ _)); exact BK108.out) hb); have n7_ := Aside0.mk (blk_below (g := gb116) (o := .cells #[.slice Ao13 t109.length co13, .slice Ao16 t112.length co16] 25 (0, 0)) (by (with_reducible repeat (first | refine kN ?_ _ | refine kD ?_ | refine kA ?_ _)); refine blk_far ?_ NB116_129.out _; (with_reducible repeat (first | refine kN ?_ _ | refine kD ?_ | refine kA ?_ _)); refine blk_far ?_ NB116_129.out _; (with_reducible repeat (first | refine kN ?_ _ | refine kD ?_ | refine kA ?_ _)); exact BK116.out) hb); have n8_ := Aside0.mk (blk_below (g := gb129) (o := .cells #[.slice Ao46 t122.length co46, .slice Ao50 t125.length co50] 25 (0, 0)) (by (with_reducible repeat (first | refine kN ?_ _ | refine kD ?_ | refine kA ?_ _)); refine blk_put (cs := #[.slice Ao46 t122.length co46, .slice none 0 0]) ?_ 1 _ rfl; (with_reducible repeat (first | refine kN ?_ _ | refine kD ?_ | refine kA ?_ _)); refine blk_put (cs := #[.slice none 0 0, .slice none 0 0]) ?_ 0 _ rfl; (with_reducible repeat (first | refine kN ?_ _ | refine kD ?_ | refine kA ?_ _)); exact BK129.out) hb); have n9_ := Aside0.mk (below_step (by repeat (first | (with_reducible first | exact HB.out | apply bA | apply bN | apply bD | refine below_set ?_ GE108.out | refine below_set ?_ GE116.out | refine below_set ?_ GE129.out) | exact HB.out)) hb); clear HO_109000 HO_109001 HO_117000 HO_117001 HO124 HO127 BK108 BK116 BK129 HB; have HO_109000 := n0_; have HO_109001 := n1_; have HO_117000 := n2_; have HO_117001 := n3_; have HO124 := n4_; have HO127 := n5_; have BK108 := n6_; have BK116 := n7_; have BK129 := n8_; have HB := n9_; clear n0_ n1_ n2_ n3_ n4_ n5_ n6_ n7_ n8_ n9_; (try clear hb); (try clear hb2); (try clear hk); (try clear hi)))
         go_meet
         case rel => exact ⟨_, (true), (by first | rfl | (simp; done) | (simp [*]; done)), H', ⟨by have := HJ4.out; first | omega | exact Nat.le_refl _⟩, ⟨by (with_reducible repeat (first | apply rA | apply rN | apply rD)); exact HO_109000.out⟩, ⟨by (with_reducible repeat (first | apply rA | apply rN | apply rD)); exact HO_109001.out⟩, ⟨by (with_reducible repeat (first | apply rA | apply rN | apply rD)); exact HO_117000.out⟩, ⟨by (with_reducible repeat (first | apply rA | apply rN | apply rD)); exact HO_117001.out⟩, ⟨by (with_reducible repeat (first | apply rA | apply rN | apply rD)); exact Kd.R_mono HO124.out (fun _ hk => ⟨hk.1.2, hk.2⟩)⟩, ⟨by (with_reducible repeat (first | apply rA | apply rN | apply rD)); exact Kd.R_mono HO127.out (fun _ hk => ⟨hk.1.2, hk.2⟩)⟩, ⟨by (with_reducible repeat (first | refine kN ?_ _ | refine kD ?_ | refine kA ?_ _)); exact BK108.out⟩, ⟨by (with_reducible repeat (first | refine kN ?_ _ | refine kD ?_ | refine kA ?_ _)); exact BK116.out⟩, ⟨by (with_reducible repeat (first | refine kN ?_ _ | refine kD ?_ | refine kA ?_ _)); exact BK129.out⟩, ⟨eI HB⟩⟩
       case rest =>
        clear HC38; (try clear c1); (try clear c2); (try clear c2b0); (try clear c2b1); (try clear p2); (try clear c3); (try clear c4); (try clear c5); (try clear c6); (try clear c7); (try clear c8); (try clear c14); (try clear c18); (try clear c19); (try clear c23); (try clear c27); (try clear c30); (try clear c30b0); (try clear c31); (try clear c36); (try clear c36b0); (try clear c36b1); (try clear c39); (try clear c47); (try clear c48); (try clear c52); (try clear c53); (try clear c54); (try clear c56); (try clear c59); (try clear c60); (try clear c62); (try clear hcz15_0); (try clear hcz15_1); (try clear hcz20_0); (try clear hcz20_1); (try clear hcz21_0); (try clear hcz21_1); (try clear hcz24_0); (try clear hcz24_1); (try clear hcz25_0); (try clear hcz25_1); (try clear hcz32_0); (try clear hcz32_1); (try clear hcz34_0); (try clear hcz34_1); (try clear hcz40_0); (try clear hcz40_1); (try clear hcz42_0); (try clear hcz42_1); (try clear hcz49_0); (try clear hcz49_1); (try clear hcz55_0); (try clear hcz55_1); (try clear hcz57_0); (try clear hcz57_1); (try clear hcz61_0); (try clear hcz61_1); (try clear hcz63_0); (try clear hcz63_1); (try clear hcz9_0); (try clear hcz9_1); (try clear hfz15_0); (try clear hfz15_1); (try clear hfz20_0); (try clear hfz20_1); (try clear hfz21_0); (try clear hfz21_1); (try clear hfz24_0); (try clear hfz24_1); (try clear hfz25_0); (try clear hfz25_1); (try clear hfz32_0); (try clear hfz32_1); (try clear hfz34_0); (try clear hfz34_1); (try clear hfz40_0); (try clear hfz40_1); (try clear hfz42_0); (try clear hfz42_1); (try clear hfz49_0); (try clear hfz49_1); (try clear hfz55_0); (try clear hfz55_1); (try clear hfz57_0); (try clear hfz57_1); (try clear hfz61_0); (try clear hfz61_1); (try clear hfz63_0); (try clear hfz63_1); (try clear hfz9_0); (try clear hfz9_1); (try clear p2); (obtain ⟨kq, x57_37, rfl, HA, HJ37, HO_109000, HO_109001, HO_117000, HO_117001, HO_130000, HO_130001, BK108, BK116, BK129, HB⟩ := hcut); (have hl117000_37 := (Kd.R_reads' HO_117000.out).1); (rw [hl117000_37] at HO_117000); ((try simp only [hl117000_37])); ((try simp only [hl117000_37] at BK108)); ((try simp only [hl117000_37] at BK116)); ((try simp only [hl117000_37] at BK129)); ((try simp only [hl117000_37] at HO_109000)); ((try simp only [hl117000_37] at HO_109001)); ((try simp only [hl117000_37] at HO_117001)); ((try simp only [hl117000_37] at HO_130000)); ((try simp only [hl117000_37] at HO_130001)); (have hl117001_37 := (Kd.R_reads' HO_117001.out).1); (rw [hl117001_37] at HO_117001); ((try simp only [hl117001_37])); ((try simp only [hl117001_37] at BK108)); ((try simp only [hl117001_37] at BK116)); ((try simp only [hl117001_37] at BK129)); ((try simp only [hl117001_37] at HO_109000)); ((try simp only [hl117001_37] at HO_109001)); ((try simp only [hl117001_37] at HO_117000)); ((try simp only [hl117001_37] at HO_130000)); ((try simp only [hl117001_37] at HO_130001))
        cases kq with
        | zero => exact absurd HA.out (by simp [laws_FnExactEnglishToRecord.j1])
        | succ kj37 =>
         (have H := HA.out); clear HA; (simp only [laws_FnExactEnglishToRecord.j1] at H); (by_cases c65 : x57_37 = true); (· subst c65; (rw [if_pos rfl] at H); (obtain rfl := Option.some.inj H); (exact absurd ht_.out (by decide)))
         ·replace c65 := Bool.eq_false_iff.mpr c65
          subst c65; (rw [if_neg (show ¬ (false = true) by decide)] at H); (replace H := obS H); (obtain ⟨t131, A66, H⟩ := H); (by_cases c67 : t131 < 0); (· (rw [if_pos c67] at H); (have c67b0 := decide_eq_true c67); clear c67; (obtain rfl := Option.some.inj H); (exact absurd ht_.out (by decide)))
          ·rw [if_neg c67] at H
           (have c67b0 := decide_eq_false c67); clear c67; (by_cases c72 : t131 = t118)
           ·rw [if_pos c72] at H
            (have c72b0 : (t131 == t118) = true := beq_iff_eq.mpr c72); (have c72b1 : (t131 != t118) = false := bne_eq_false_iff_eq.mpr c72); clear c72; (obtain rfl := Option.some.inj H); (have hnb73 := NB116_108.out); (have hnc73 := NB108_116.out); (have hnb74 := NB116_129.out); (have hnc74 := NB129_116.out); (have hcz75_0 := cz BK116.out 0); (have hcz75_1 := cz BK116.out 1); (have hfz75_0 := blk_frozen BK116.out 0); (have hfz75_1 := blk_frozen BK116.out 1); (go_wp2_with (first | ((with_reducible refine gate_callee (f := 8) rfl ?_); refine gL (some 60) Tryz.func8 #[.agg #[.slice Ao13 t119.length co13, .slice Ao16 t120.length co16], .int .i64 1] ?_; (with_reducible refine (laws_heldRecord.calls kj37 _ _ t119 _ _ t120 1 t131 _ ?side1 ?side2 ?side3 ?side4 A66.out).mono ?_); (case side1 => repeat (first | exact (Kd.R_reads' HO_117000.out).2.2 | (with_reducible first | refine cA ?_ _ | refine cN ?_ _ | refine cD ?_))); (case side2 => exact (Kd.R_reads' HO_117000.out).2.1); (case side3 => repeat (first | exact (Kd.R_reads' HO_117001.out).2.2 | (with_reducible first | refine cA ?_ _ | refine cN ?_ _ | refine cD ?_))); (case side4 => exact (Kd.R_reads' HO_117001.out).2.1); rintro e w76 ⟨rfl, hb⟩; refine ⟨_, rfl, ?_⟩; have n0_ := Aside0.mk (rbI hb HO_109000); have n1_ := Aside0.mk (rbI hb HO_109001); have n2_ := Aside0.mk (rbI hb HO_117000); have n3_ := Aside0.mk (rbI hb HO_117001); have n4_ := Aside0.mk (rbI hb HO_130000); have n5_ := Aside0.mk (rbI hb HO_130001); have n6_ := Aside0.mk (kbI hb BK108); have n7_ := Aside0.mk (kbI hb BK116); have n8_ := Aside0.mk (kbI hb BK129); have n9_ := Aside0.mk (sI hb HB); clear HO_109000 HO_109001 HO_117000 HO_117001 HO_130000 HO_130001 BK108 BK116 BK129 HB; have HO_109000 := n0_; have HO_109001 := n1_; have HO_117000 := n2_; have HO_117001 := n3_; have HO_130000 := n4_; have HO_130001 := n5_; have BK108 := n6_; have BK116 := n7_; have BK129 := n8_; have HB := n9_; clear n0_ n1_ n2_ n3_ n4_ n5_ n6_ n7_ n8_ n9_; (try clear hb); (try clear hb2); (try clear hk); (try clear hi)))); go_ret; (exact ⟨rfl, eI HB⟩)
           ·rw [if_neg c72] at H
            (have c72b0 : (t131 == t118) = false := beq_eq_false_iff_ne.mpr c72); (have c72b1 : (t131 != t118) = true := bne_iff_ne.mpr c72); (obtain rfl := Option.some.inj H); (exact absurd ht_.out (by decide))
      ·rw [if_neg c36] at H
       (have c36b0 : (t121 == t118) = false := beq_eq_false_iff_ne.mpr c36); (have c36b1 : (t121 != t118) = true := bne_iff_ne.mpr c36); (obtain rfl := Option.some.inj H); (exact absurd ht_.out (by decide))

end Go.Proofs.YtdekadogbpkdoaaGreatDoor.X
set_option linter.unusedVariables false
set_option linter.unusedSimpArgs false
namespace Go.Proofs.YtdekadogbpkdoaaGreatDoor.Open
open Go.RowKit Go.Proofs.YtdekadogbpkdoaaGreatDoorW.PrintWords

end Go.Proofs.YtdekadogbpkdoaaGreatDoor.Open
set_option linter.unusedVariables false
namespace Go.Proofs.YtdekadogbpkdoaaGreatDoor.X
open Go.RowKit Go.Proofs.YtdekadogbpkdoaaGreatDoorW.PrintWords Go.Proofs.YtdekadogbpkdoaaGreatDoor.Open
end Go.Proofs.YtdekadogbpkdoaaGreatDoor.X
namespace Go.Proofs.YtdekadogbpkdoaaGreatDoor.X
open Go.RowKit Go.Proofs.YtdekadogbpkdoaaGreatDoorW.PrintWords
def PureFnExactEnglishToRecord : Prop := ∀ (a0 : ByteArray), a0.size ≤ 9223372036854775807 → ∃ k, laws_FnExactEnglishToRecord.f k a0 = some true
end Go.Proofs.YtdekadogbpkdoaaGreatDoor.X
set_option linter.unusedVariables false
set_option linter.unusedSimpArgs false
namespace Go.Proofs.YtdekadogbpkdoaaGreatDoor.X
open Go.RowKit Go.Proofs.YtdekadogbpkdoaaGreatDoorW.PrintWords Go.Proofs.YtdekadogbpkdoaaGreatDoor.E
theorem specIn_eq (a l h : Int) : spec_l1In.f a l h = some (decide (l ≤ a ∧ a ≤ h)) := by
  unfold spec_l1In.f
  by_cases h1 : a ≥ l
  · rw [if_pos h1]; congr 1; simp [h1]
  · rw [if_neg h1]; congr 1; symm; simp; intro h2; omega
theorem implIn_eq (a l h : Int) : impl_within.f a l h = some (decide (l ≤ a ∧ a ≤ h)) := by
  unfold impl_within.f
  by_cases h1 : a ≥ l
  · rw [if_pos h1]; congr 1; simp [h1]
  · rw [if_neg h1]; congr 1; symm; simp; intro h2; omega
theorem isNumber_eq (a : Int) : impl_isNumber.f a = some (decide (1 ≤ a ∧ a ≤ 999)) := by unfold impl_isNumber.f; rw [implIn_eq]; rfl
theorem isKind_eq (a : Int) : impl_isKind.f a = some (decide (1 ≤ a ∧ a ≤ 4)) := by unfold impl_isKind.f; rw [implIn_eq]; rfl
def findC (cs : List S38) (n : Int) : Int := idxG (fun x : S38 => x.f0 == n) 0 cs
theorem indexOf_eq (cs : List S38) (rs : List S40) (n : Int) : impl_indexOf.f cs rs n = some (findC cs n) := rfl
theorem l2Find_ev (cs : List S38) (rs : List S40) (n : Int) (hl : cs.length ≤ 9223372036854775807) : Ev (fun k => spec_l2Find.f k cs rs n) (findC cs n) := by
  have h := ev_walk (L := fun k i => spec_l2Find.l0 k n i cs rs) (G := fun i r => idxG (fun x : S38 => x.f0 == n) i r) cs (Ev.step (fun k => rfl) (ev_neg (by omega) (ev_now rfl))) ?step
  case step =>
    intro i x r hi hd hx hk
    refine Ev.step (fun k => rfl) (ev_pos (by omega) (ev_pos (by omega) ?_))
    simp only [rd_T38, Int.toNat_natCast, hx]
    by_cases c : x.f0 = n
    · exact ev_pos c (ev_now (by simp [idxG, c]))
    · refine ev_neg c ?_
      rw [wrap_succ hi hl]
      exact ev_cast hk (by simp [idxG, c])
  exact h
def CtxP (cs : List S38) (i : Nat) : Prop := (1 ≤ (rd_T38 cs i).f0 ∧ (rd_T38 cs i).f0 ≤ 999) ∧ (1 ≤ (rd_T38 cs i).f1 ∧ (rd_T38 cs i).f1 ≤ 4) ∧ (0 < i → (rd_T38 cs ((i - 1 : Nat) : Int)).f0 < (rd_T38 cs i).f0)
def befP (x y : S40) : Prop := x.f0 < y.f0 ∨ (x.f0 = y.f0 ∧ x.f1 < y.f1)
def RelP (cs : List S38) (rs : List S40) (i : Nat) : Prop := (rd_T40 rs i).f0 ≠ (rd_T40 rs i).f1 ∧ 0 ≤ findC cs (rd_T40 rs i).f0 ∧ 0 ≤ findC cs (rd_T40 rs i).f1 ∧ (0 < i → befP (rd_T40 rs ((i - 1 : Nat) : Int)) (rd_T40 rs i))
instance (x y : S40) : Decidable (befP x y) := by unfold befP; exact inferInstance
instance (cs : List S38) (i : Nat) : Decidable (CtxP cs i) := by unfold CtxP; exact inferInstance
instance (cs : List S38) (rs : List S40) (i : Nat) : Decidable (RelP cs rs i) := by unfold RelP; exact inferInstance
def relsB (cs : List S38) (rs : List S40) : Bool := (List.range rs.length).all (fun i => decide (RelP cs rs i))
def recOk (cs : List S38) (rs : List S40) : Bool := decide (cs.length ≤ 10 ∧ rs.length ≤ 24) && ((List.range cs.length).all (fun i => decide (CtxP cs i)) && relsB cs rs)
def sg (a b : Int) : Int := if a < b then -1 else if a > b then 1 else 0
theorem compare_eq (a b : Int) : cmp_Compare_int.f a b = some (sg a b) := by
  have hn : ∀ z : Int, cmp_isNaN_int.f z = some false := fun z => by unfold cmp_isNaN_int.f; simp
  unfold cmp_Compare_int.f sg
  rw [hn, hn]
  simp only [Option.bind_some, Bool.false_eq_true, if_false]
  by_cases h : a < b
  · rw [if_pos h, if_pos h]
  · rw [if_neg h, if_neg h]
    by_cases h2 : a > b
    · rw [if_pos h2, if_pos h2]
    · rw [if_neg h2, if_neg h2]
theorem or_ev (a b : Int) : Ev (fun k => cmp_Or_int.f k [a, b]) (if a = 0 then b else a) := by
  have r0 : rd [a, b] 0 = a := rfl
  have r1 : rd [a, b] 1 = b := rfl
  have w1 : wrap64 (0 + 1) = 1 := by rw [wrap_id (by omega) (by omega)]; rfl
  have w2 : wrap64 (1 + 1) = 2 := by rw [wrap_id (by omega) (by omega)]; rfl
  unfold cmp_Or_int.f
  refine Ev.step (fun k => rfl) (ev_pos (by simp) (ev_pos (by omega) (ev_pos (by simp) ?_)))
  rw [r0, w1]
  by_cases h : a = 0
  · rw [if_pos h]
    refine ev_pos h (Ev.step (fun k => rfl) (ev_pos (by simp) (ev_pos (by omega) (ev_pos (by simp) ?_))))
    rw [r1, w2]
    by_cases h2 : b = 0
    · exact ev_pos h2 (Ev.step (fun k => rfl) (ev_neg (by simp) (ev_now h2.symm)))
    · exact ev_neg h2 (ev_now rfl)
  · rw [if_neg h]
    exact ev_neg h (ev_now rfl)
theorem compareRel_ev (x y : S40) : ∃ c, Ev (fun k => impl_compareRelations.f k x.f0 x.f1 y.f0 y.f1) c ∧ (c ≥ 0 ↔ ¬ befP x y) := by
  refine ⟨if sg x.f0 y.f0 = 0 then sg x.f1 y.f1 else sg x.f0 y.f0, ?_, ?_⟩
  · unfold impl_compareRelations.f
    exact ev_bind0 (compare_eq _ _) (ev_bind0 (compare_eq _ _) (Ev.bind (or_ev _ _) (ev_now rfl)))
  · unfold sg befP
    repeat' split
    all_goals omega
theorem before_eq (x y : S40) : spec_l2Before.f x.f0 x.f1 y.f0 y.f1 = some (decide (befP x y)) := by
  have hb : befP x y ↔ (x.f0 < y.f0 ∨ (x.f0 = y.f0 ∧ x.f1 < y.f1)) := Iff.rfl
  unfold spec_l2Before.f
  by_cases h1 : x.f0 < y.f0
  · rw [if_pos h1, decide_eq_true (hb.2 (Or.inl h1))]
  · rw [if_neg h1]
    by_cases h2 : x.f0 = y.f0
    · rw [if_pos h2]; congr 1; rw [decide_eq_decide, hb]; omega
    · rw [if_neg h2, decide_eq_false (fun h => by have := hb.1 h; omega)]
theorem implRels_ev (cs : List S38) (rs : List S40) (hr : rs.length ≤ 24) : Ev (fun k => impl_IsValidRecord.l1 k rs (rs.length : Int) 0 cs rs) (relsB cs rs) := by
  have h := ev_all0 (L := fun k i => impl_IsValidRecord.l1 k rs (rs.length : Int) i cs rs) rs.length (fun i => decide (RelP cs rs i)) false true (fun _ => Ev.step (fun k => rfl) (ev_neg (by omega) (ev_now rfl))) ?h1 ?h2
  case h1 =>
    intro i hi _ hc y hy
    obtain ⟨c1, c2, c3, c4⟩ := of_decide_eq_true hc
    refine Ev.step (fun k => rfl) (ev_pos (by omega) (ev_pos (by omega) (ev_pos (by omega) (ev_neg c1 (ev_bind0 (indexOf_eq _ _ _) (ev_neg (by omega) (ev_bind0 (indexOf_eq _ _ _) (Ev.step (fun k => rfl) (ev_neg (by rw [decide_eq_true_eq]; omega) ?_)))))))))
    rw [wrap_succ hi (by omega)]
    rcases Nat.eq_zero_or_pos i with h0 | h0
    · exact ev_neg (by omega) hy
    · rw [wrap_pred h0 (by omega)]
      obtain ⟨c, hv, hcc⟩ := compareRel_ev (rd_T40 rs ((i - 1 : Nat) : Int)) (rd_T40 rs i)
      exact ev_pos (by omega) (ev_pos (by omega) (ev_pos (by omega) (Ev.bind hv (ev_neg (fun e => hcc.1 e (c4 h0)) hy))))
  case h2 =>
    intro i hi _ hc
    have hc' := of_decide_eq_false hc
    refine Ev.step (fun k => rfl) (ev_pos (by omega) (ev_pos (by omega) (ev_pos (by omega) (ev_ite (fun _ => Ev.step (fun k => rfl) (ev_now rfl)) (fun c1 => ev_bind0 (indexOf_eq _ _ _) (ev_ite (fun _ => Ev.step (fun k => rfl) (ev_now rfl)) (fun c2 => ev_bind0 (indexOf_eq _ _ _) (Ev.step (fun k => rfl) (ev_ite (fun _ => ev_now rfl) (fun c3 => ?_))))))))))
    rw [decide_eq_true_eq] at c3
    rcases Nat.eq_zero_or_pos i with h0 | h0
    · exact absurd ⟨c1, by omega, by omega, fun h => by omega⟩ hc'
    · rw [wrap_pred h0 (by omega)]
      obtain ⟨c, hv, hcc⟩ := compareRel_ev (rd_T40 rs ((i - 1 : Nat) : Int)) (rd_T40 rs i)
      exact ev_pos (by omega) (ev_pos (by omega) (ev_pos (by omega) (Ev.bind hv (ev_pos (hcc.2 (fun e => hc' ⟨c1, by omega, by omega, fun _ => e⟩)) (ev_now rfl)))))
  refine ev_cast h ?_
  unfold relsB
  cases (List.range rs.length).all (fun i => decide (RelP cs rs i)) <;> rfl
theorem specRels_ev (cs : List S38) (rs : List S40) (hcl : cs.length ≤ 10) (hr : rs.length ≤ 24) : Ev (fun k => spec_l2Good.l1 k 0 cs rs) (relsB cs rs) := by
  have hf : ∀ n, Ev (fun k => spec_l2Find.f k cs rs n) (findC cs n) := fun n => l2Find_ev cs rs n (by omega)
  have h := ev_all0 (L := fun k i => spec_l2Good.l1 k i cs rs) rs.length (fun i => decide (RelP cs rs i)) false true (fun _ => Ev.step (fun k => rfl) (ev_neg (by omega) (ev_now rfl))) ?h1 ?h2
  case h1 =>
    intro i hi _ hc y hy
    obtain ⟨c1, c2, c3, c4⟩ := of_decide_eq_true hc
    refine Ev.step (fun k => rfl) (ev_pos (by omega) (ev_pos (by omega) (ev_neg c1 (Ev.bind (hf _) (ev_neg (by omega) (Ev.bind (hf _) (ev_neg (by omega) ?_)))))))
    rw [wrap_succ hi (by omega)]
    rcases Nat.eq_zero_or_pos i with h0 | h0
    · exact ev_neg (by omega) hy
    · rw [wrap_pred h0 (by omega)]
      exact ev_pos (by omega) (ev_pos (by omega) (ev_pos (by omega) (ev_bind0 (before_eq _ _) (ev_pos (decide_eq_true (c4 h0)) hy))))
  case h2 =>
    intro i hi _ hc
    have hc' := of_decide_eq_false hc
    refine Ev.step (fun k => rfl) (ev_pos (by omega) (ev_pos (by omega) (ev_ite (fun _ => ev_now rfl) (fun c1 => Ev.bind (hf _) (ev_ite (fun _ => ev_now rfl) (fun c2 => Ev.bind (hf _) (ev_ite (fun _ => ev_now rfl) (fun c3 => ?_))))))))
    rcases Nat.eq_zero_or_pos i with h0 | h0
    · exact absurd ⟨c1, by omega, by omega, fun h => by omega⟩ hc'
    · rw [wrap_pred h0 (by omega)]
      exact ev_pos (by omega) (ev_pos (by omega) (ev_pos (by omega) (ev_bind0 (before_eq _ _) (ev_neg (fun e => hc' ⟨c1, by omega, by omega, fun _ => of_decide_eq_true e⟩) (ev_now rfl)))))
  refine ev_cast h ?_
  unfold relsB
  cases (List.range rs.length).all (fun i => decide (RelP cs rs i)) <;> rfl
theorem implRecord_ev (cs : List S38) (rs : List S40) : Ev (fun k => impl_IsValidRecord.f k cs rs) (recOk cs rs) := by
  unfold impl_IsValidRecord.f recOk
  refine ev_ite (fun c => ?_) (fun c => Ev.step (fun k => rfl) (ev_ite (fun d => ev_now ?_) (fun d => ?_)))
  · rw [decide_eq_false (by omega), Bool.false_and]
    exact Ev.step (fun k => rfl) (ev_now rfl)
  · rw [decide_eq_true_eq] at d
    rw [decide_eq_false (by omega), Bool.false_and]
  rw [decide_eq_true_eq] at d
  rw [decide_eq_true (by omega), Bool.true_and]
  have h := ev_all0 (L := fun k i => impl_IsValidRecord.l0 k cs (cs.length : Int) i cs rs) cs.length (fun i => decide (CtxP cs i)) false (relsB cs rs) (fun _ => Ev.step (fun k => rfl) (ev_neg (by omega) (implRels_ev cs rs (by omega)))) ?h1 ?h2
  case h1 =>
    intro i hi _ hc y hy
    obtain ⟨c1, c2, c3⟩ := of_decide_eq_true hc
    refine Ev.step (fun k => rfl) (ev_pos (by omega) (ev_pos (by omega) (ev_pos (by omega) (ev_bind0 (isNumber_eq _) (ev_pos (decide_eq_true c1) (ev_bind0 (isKind_eq _) (ev_pos (decide_eq_true c2) ?_)))))))
    rw [wrap_succ hi (by omega)]
    rcases Nat.eq_zero_or_pos i with h0 | h0
    · exact ev_neg (by omega) hy
    · rw [wrap_pred h0 (by omega)]
      exact ev_pos (by omega) (ev_pos (by omega) (ev_pos (by omega) (ev_neg (by have := c3 h0; omega) hy)))
  case h2 =>
    intro i hi _ hc
    have hc' := of_decide_eq_false hc
    refine Ev.step (fun k => rfl) (ev_pos (by omega) (ev_pos (by omega) (ev_pos (by omega) (ev_bind0 (isNumber_eq _) (ev_ite (fun c1 => ev_bind0 (isKind_eq _) (ev_ite (fun c2 => ?_) (fun _ => ev_now rfl))) (fun _ => ev_now rfl))))))
    rcases Nat.eq_zero_or_pos i with h0 | h0
    · exact absurd ⟨of_decide_eq_true c1, of_decide_eq_true c2, fun h => by omega⟩ hc'
    · rw [wrap_pred h0 (by omega)]
      exact ev_pos (by omega) (ev_pos (by omega) (ev_pos (by omega) (ev_pos (Classical.byContradiction fun e => hc' ⟨of_decide_eq_true c1, of_decide_eq_true c2, fun _ => by omega⟩) (ev_now rfl))))
  refine ev_cast h ?_
  cases (List.range cs.length).all (fun i => decide (CtxP cs i)) <;> simp
theorem specRecord_ev (cs : List S38) (rs : List S40) : Ev (fun k => spec_l2Good.f k cs rs) (recOk cs rs) := by
  unfold spec_l2Good.f recOk
  refine ev_ite (fun c => ?_) (fun c => Ev.step (fun k => rfl) (ev_ite (fun d => ev_now ?_) (fun d => ?_)))
  · rw [decide_eq_false (by omega), Bool.false_and]
    exact Ev.step (fun k => rfl) (ev_now rfl)
  · rw [decide_eq_true_eq] at d
    rw [decide_eq_false (by omega), Bool.false_and]
  rw [decide_eq_true_eq] at d
  rw [decide_eq_true (by omega), Bool.true_and]
  have h := ev_all0 (L := fun k i => spec_l2Good.l0 k i cs rs) cs.length (fun i => decide (CtxP cs i)) false (relsB cs rs) (fun _ => Ev.step (fun k => rfl) (ev_neg (by omega) (specRels_ev cs rs (by omega) (by omega)))) ?h1 ?h2
  case h1 =>
    intro i hi _ hc y hy
    obtain ⟨c1, c2, c3⟩ := of_decide_eq_true hc
    refine Ev.step (fun k => rfl) (ev_pos (by omega) (ev_pos (by omega) (ev_bind0 (specIn_eq _ _ _) (ev_pos (decide_eq_true c1) (ev_bind0 (specIn_eq _ _ _) (ev_pos (decide_eq_true c2) ?_))))))
    rw [wrap_succ hi (by omega)]
    rcases Nat.eq_zero_or_pos i with h0 | h0
    · exact ev_neg (by omega) hy
    · rw [wrap_pred h0 (by omega)]
      exact ev_pos (by omega) (ev_pos (by omega) (ev_pos (by omega) (ev_neg (by have := c3 h0; omega) hy)))
  case h2 =>
    intro i hi _ hc
    have hc' := of_decide_eq_false hc
    refine Ev.step (fun k => rfl) (ev_pos (by omega) (ev_pos (by omega) (ev_bind0 (specIn_eq _ _ _) (ev_ite (fun c1 => ev_bind0 (specIn_eq _ _ _) (ev_ite (fun c2 => ?_) (fun _ => ev_now rfl))) (fun _ => ev_now rfl)))))
    rcases Nat.eq_zero_or_pos i with h0 | h0
    · exact absurd ⟨of_decide_eq_true c1, of_decide_eq_true c2, fun h => by omega⟩ hc'
    · rw [wrap_pred h0 (by omega)]
      exact ev_pos (by omega) (ev_pos (by omega) (ev_pos (by omega) (ev_pos (Classical.byContradiction fun e => hc' ⟨of_decide_eq_true c1, of_decide_eq_true c2, fun _ => by omega⟩) (ev_now rfl))))
  refine ev_cast h ?_
  cases (List.range cs.length).all (fun i => decide (CtxP cs i)) <;> simp
end Go.Proofs.YtdekadogbpkdoaaGreatDoor.X
set_option linter.unusedVariables false
set_option linter.unusedSimpArgs false
namespace Go.Proofs.YtdekadogbpkdoaaGreatDoor.X
open Go.RowKit Go.Proofs.YtdekadogbpkdoaaGreatDoorW.PrintWords Go.Proofs.YtdekadogbpkdoaaGreatDoor.E
def numB (n : Int) : ByteArray := ⟨(Lib.itoa n).toArray⟩
def decB (u : Nat) : ByteArray := ⟨(Lib.decDigits u).toArray⟩
theorem digit_fin : ∀ i : Fin 10, (⟨#[48, 49, 50, 51, 52, 53, 54, 55, 56, 57]⟩ : ByteArray).extract i.val (i.val + 1) = ⟨#[UInt8.ofNat (48 + i.val)]⟩ := by decide +kernel
theorem digit_at (i : Int) (j : Int) (h0 : 0 ≤ i) (h1 : i < 10) (hj : j = i + 1) : (⟨#[48, 49, 50, 51, 52, 53, 54, 55, 56, 57]⟩ : ByteArray).extract i.toNat j.toNat = ⟨#[UInt8.ofNat (48 + i.toNat)]⟩ := by
  rw [show j.toNat = i.toNat + 1 by omega]
  exact digit_fin ⟨i.toNat, by omega⟩
theorem ba_append (l m : List UInt8) : (⟨l.toArray⟩ : ByteArray) ++ (⟨m.toArray⟩ : ByteArray) = ⟨(l ++ m).toArray⟩ := by
  apply ByteArray.ext
  rw [ByteArray.data_append]
  simp
theorem ba_size (l : List UInt8) : (⟨l.toArray⟩ : ByteArray).size = l.length := rfl
theorem decB_size (u : Nat) (h : u < 18446744073709551616) : (decB u).size ≤ 20 := by
  unfold decB
  rw [ba_size, Lib.decDigits_length]
  exact Lib.nDigits_le20 u h
theorem numB_size (n : Int) (h0 : -9223372036854775808 ≤ n) (h1 : n ≤ 9223372036854775807) : (numB n).size ≤ 21 := by
  unfold numB
  rw [ba_size]
  exact Lib.itoa_length_le n h0 h1
theorem l1Num_nat : ∀ (u : Nat), u ≤ 9223372036854775807 → Ev (fun k => spec_l1Num.f k (u : Int)) (decB u) := by
  intro u
  induction u using Nat.strongRecOn with
  | _ u ih =>
    intro hu
    refine Ev.step (fun k => rfl) (ev_neg (by omega) ?_)
    by_cases h : u < 10
    · have hw : wrap64 ((u : Int) + 1) = (u : Int) + 1 := wrap_id (by omega) (by omega)
      rw [hw]
      refine ev_pos (by omega) (ev_pos (by omega) (ev_pos (by omega) (ev_pos (by omega) (ev_now ?_))))
      rw [digit_at (u : Int) _ (by omega) (by omega) rfl]
      unfold decB
      rw [Lib.decDigits, dif_pos h, Int.toNat_natCast]
    · refine ev_neg (by omega) ?_
      have hd : Int.tdiv (u : Int) 10 = ((u / 10 : Nat) : Int) := by rw [Int.tdiv_eq_ediv_of_nonneg (by omega)]; omega
      have hm : Int.tmod (u : Int) 10 = ((u % 10 : Nat) : Int) := by rw [Int.tmod_eq_emod_of_nonneg (by omega)]; omega
      have hw : wrap64 ((u / 10 : Nat) : Int) = ((u / 10 : Nat) : Int) := wrap_id (by omega) (by omega)
      have hw2 : wrap64 (((u % 10 : Nat) : Int) + 1) = ((u % 10 : Nat) : Int) + 1 := wrap_id (by omega) (by omega)
      rw [hd, hw, hm, hw2]
      refine Ev.bind (ih (u / 10) (by omega) (by omega)) ?_
      rw [digit_at ((u % 10 : Nat) : Int) _ (by omega) (by omega) rfl]
      have hs := decB_size (u / 10) (by omega)
      have h1 : (⟨#[UInt8.ofNat (48 + ((u % 10 : Nat) : Int).toNat)]⟩ : ByteArray).size = 1 := rfl
      refine ev_pos (by omega) (ev_pos (by omega) (ev_pos (by omega) (ev_pos (by omega) (ev_now ?_))))
      unfold decB
      rw [show (⟨#[UInt8.ofNat (48 + ((u % 10 : Nat) : Int).toNat)]⟩ : ByteArray) = ⟨[UInt8.ofNat (48 + u % 10)].toArray⟩ by rw [Int.toNat_natCast], ba_append]
      conv => rhs; rw [Lib.decDigits, dif_neg h]
theorem l1Num_ev (n : Int) (h0 : -9223372036854775807 ≤ n) (h1 : n ≤ 9223372036854775807) : Ev (fun k => spec_l1Num.f k n) (numB n) := by
  by_cases hn : n < 0
  · have hw : wrap64 (-n) = ((n.natAbs : Nat) : Int) := by rw [wrap_id (by omega) (by omega)]; omega
    refine Ev.step (fun k => rfl) (ev_pos hn ?_)
    rw [hw]
    have hs := decB_size n.natAbs (by omega)
    refine Ev.bind (l1Num_nat _ (by omega)) (ev_pos (by omega) (ev_now ?_))
    unfold numB decB
    rw [show (⟨#[45]⟩ : ByteArray) = ⟨[45].toArray⟩ from rfl, ba_append, Lib.itoa, if_pos hn]
    rfl
  · obtain ⟨u, rfl⟩ : ∃ u : Nat, n = u := ⟨n.toNat, by omega⟩
    refine ev_cast (l1Num_nat u (by omega)) ?_
    unfold numB decB
    rw [Lib.itoa, if_neg hn, Int.toNat_natCast]
end Go.Proofs.YtdekadogbpkdoaaGreatDoor.X
set_option linter.unusedVariables false
set_option linter.unusedSimpArgs false
namespace Go.Proofs.YtdekadogbpkdoaaGreatDoor.X
open Go.RowKit Go.Proofs.YtdekadogbpkdoaaGreatDoorW.PrintWords Go.Proofs.YtdekadogbpkdoaaGreatDoor.E
theorem itoaE (n : Int) (h0 : -9223372036854775808 ≤ n) (h1 : n ≤ 9223372036854775807) : strconv_Itoa.f n = some (numB n) := by unfold strconv_Itoa.f; rw [if_pos ⟨h0, h1⟩]; rfl
def eC : ByteArray := ⟨#[67, 111, 110, 116, 101, 120, 116, 32]⟩
def eIs : ByteArray := ⟨#[32, 105, 115, 32]⟩
def eLies : ByteArray := ⟨#[32, 108, 105, 101, 115, 32, 97, 98, 111, 118, 101, 32, 99, 111, 110, 116, 101, 120, 116, 32]⟩
def kT (k : Int) : ByteArray := if k = 1 then ⟨#[97, 32, 100, 101, 112, 111, 115, 105, 116]⟩ else if k = 2 then ⟨#[97, 32, 99, 117, 116]⟩ else if k = 3 then ⟨#[97, 32, 115, 116, 114, 117, 99, 116, 117, 114, 101]⟩ else ⟨#[110, 97, 116, 117, 114, 97, 108]⟩
def ctxLine (x : S38) : ByteArray := (((eC ++ numB x.f0) ++ eIs) ++ kT x.f1) ++ ⟨#[46]⟩
def relLine (x : S40) : ByteArray := (((eC ++ numB x.f0) ++ eLies) ++ numB x.f1) ++ ⟨#[46]⟩
def nlStep (s l : ByteArray) : ByteArray := s ++ (l ++ ⟨#[10]⟩)
def recText (cs : List S38) (rs : List S40) : ByteArray := (cs.map ctxLine ++ rs.map relLine).foldl nlStep ⟨#[]⟩
theorem kT_eq (k : Int) (h : 1 ≤ k ∧ k ≤ 4) : impl_kindText.f k = some (kT k) ∧ (⟨#[32]⟩ : ByteArray) ++ rdOf ByteArray.empty [(⟨#[]⟩ : ByteArray), (⟨#[105, 115, 32, 97, 32, 100, 101, 112, 111, 115, 105, 116, 46]⟩ : ByteArray), (⟨#[105, 115, 32, 97, 32, 99, 117, 116, 46]⟩ : ByteArray), (⟨#[105, 115, 32, 97, 32, 115, 116, 114, 117, 99, 116, 117, 114, 101, 46]⟩ : ByteArray), (⟨#[105, 115, 32, 110, 97, 116, 117, 114, 97, 108, 46]⟩ : ByteArray)] k = (eIs ++ kT k) ++ ⟨#[46]⟩ ∧ (kT k).size ≤ 11 ∧ (rdOf ByteArray.empty [(⟨#[]⟩ : ByteArray), (⟨#[105, 115, 32, 97, 32, 100, 101, 112, 111, 115, 105, 116, 46]⟩ : ByteArray), (⟨#[105, 115, 32, 97, 32, 99, 117, 116, 46]⟩ : ByteArray), (⟨#[105, 115, 32, 97, 32, 115, 116, 114, 117, 99, 116, 117, 114, 101, 46]⟩ : ByteArray), (⟨#[105, 115, 32, 110, 97, 116, 117, 114, 97, 108, 46]⟩ : ByteArray)] k).size ≤ 15 := by
  have hk : k = 1 ∨ k = 2 ∨ k = 3 ∨ k = 4 := by omega
  rcases hk with rfl | rfl | rfl | rfl <;> exact ⟨by decide +kernel, by decide +kernel, by decide +kernel, by decide +kernel⟩
theorem nl_size : ∀ (ls : List ByteArray) (s : ByteArray) (c : Nat), (∀ l ∈ ls, l.size ≤ c) → (ls.foldl nlStep s).size ≤ s.size + (c + 1) * ls.length
  | [], s, c, _ => Nat.le_refl _
  | l :: ls, s, c, h => by
    have h1 := nl_size ls (nlStep s l) c (fun x hx => h x (List.mem_cons_of_mem _ hx))
    have h2 := h l (List.mem_cons_self ..)
    have h3 : (nlStep s l).size = s.size + (l.size + 1) := by unfold nlStep; rw [ByteArray.size_append, ByteArray.size_append]; rfl
    rw [List.foldl_cons, List.length_cons, Nat.mul_succ]
    omega
theorem withNl_ev (ls : List ByteArray) (hb : ∀ l ∈ ls, l.size ≤ 1000) (hl : ls.length ≤ 4000000) : Ev (fun k => impl_withNewlines.f k ls) (ls.foldl nlStep ⟨#[]⟩) := by
  have h := ev_scan0 (L := fun k (s : ByteArray) i => impl_withNewlines.l0 k s ls (ls.length : Int) i) (G := fun s i (r : List ByteArray) => r.foldl nlStep s) (fun s i r => s.size ≤ 1001 * i) ls (⟨#[]⟩ : ByteArray) (Nat.le_refl _) ?h1 ?h2
  case h1 =>
    intro s _
    exact Ev.step (fun k => rfl) (ev_neg (by omega) (ev_now rfl))
  case h2 =>
    intro s i x r hI hi hd hg hr
    have hx : x.size ≤ 1000 := hb x (List.mem_of_mem_drop (hd ▸ List.mem_cons_self ..))
    have hrd : rdOf ByteArray.empty ls (i : Int) = x := by unfold rdOf; rw [Int.toNat_natCast]; exact hg _
    have hz : (x ++ (⟨#[10]⟩ : ByteArray)).size = x.size + 1 := by rw [ByteArray.size_append]; rfl
    refine Ev.step (fun k => rfl) (ev_pos (by omega) (ev_pos (by omega) (ev_pos (by omega) ?_)))
    rw [hrd, wrap_succ hi (by omega)]
    refine ev_pos (by omega) (ev_pos (by omega) ?_)
    exact hr (nlStep s x) (by unfold nlStep; rw [ByteArray.size_append, hz]; omega)
  exact h
def in64 (n : Int) : Prop := -9223372036854775808 ≤ n ∧ n ≤ 9223372036854775807
theorem sz8 : eC.size = 8 := rfl
theorem sz4 : eIs.size = 4 := rfl
theorem sz20 : eLies.size = 20 := rfl
theorem sz1 : (⟨#[46]⟩ : ByteArray).size = 1 := rfl
theorem relLine_size (x : S40) (h0 : in64 x.f0) (h1 : in64 x.f1) : (relLine x).size ≤ 71 := by
  have a := numB_size x.f0 h0.1 h0.2
  have b := numB_size x.f1 h1.1 h1.2
  unfold relLine
  simp only [ByteArray.size_append, sz8, sz20, sz1]
  omega
theorem ctxLine_size (x : S38) (h0 : in64 x.f0) (h1 : 1 ≤ x.f1 ∧ x.f1 ≤ 4) : (ctxLine x).size ≤ 45 := by
  have a := numB_size x.f0 h0.1 h0.2
  have b := (kT_eq x.f1 h1).2.2.1
  unfold ctxLine
  simp only [ByteArray.size_append, sz8, sz4, sz1]
  omega
theorem implRelText_ev (rs : List S40) (hr : ∀ x ∈ rs, in64 x.f0 ∧ in64 x.f1) (hl : rs.length ≤ 24) (out : List ByteArray) (ho : out.length ≤ 10) (hb : ∀ l ∈ out, l.size ≤ 1000) : Ev (fun k => impl_RecordToEnglish.l1 k out rs (rs.length : Int) 0) ((out ++ rs.map relLine).foldl nlStep ⟨#[]⟩, true) := by
  have h := ev_scan0 (L := fun k (o : List ByteArray) i => impl_RecordToEnglish.l1 k o rs (rs.length : Int) i) (G := fun o i (r : List S40) => ((o ++ r.map relLine).foldl nlStep ⟨#[]⟩, true)) (fun o i r => o.length ≤ 10 + i ∧ ∀ l ∈ o, l.size ≤ 1000) rs out ⟨by omega, hb⟩ ?h1 ?h2
  case h1 =>
    intro o ho
    rw [List.map_nil, List.append_nil]
    exact Ev.step (fun k => rfl) (ev_neg (by omega) (Ev.bind (withNl_ev o ho.2 (by omega)) (ev_now rfl)))
  case h2 =>
    intro o i x r hI hi hd hg hk
    have hx := hr x (List.mem_of_mem_drop (hd ▸ List.mem_cons_self ..))
    have a := numB_size x.f0 hx.1.1 hx.1.2
    have b := numB_size x.f1 hx.2.1 hx.2.2
    have hrd : rd_T40 rs (i : Int) = x := by unfold rd_T40; rw [Int.toNat_natCast]; exact hg _
    refine Ev.step (fun k => rfl) (ev_pos (by omega) (ev_pos (by omega) (ev_pos (by omega) ?_)))
    rw [hrd, wrap_succ hi (by omega)]
    refine ev_bind0 (itoaE x.f0 hx.1.1 hx.1.2) (ev_pos (by omega) (ev_pos ?_ (ev_bind0 (itoaE x.f1 hx.2.1 hx.2.2) (ev_pos ?_ (ev_pos ?_ (ev_pos (by omega) ?_))))))
    · show (eC ++ numB x.f0).size + 20 ≤ _
      rw [ByteArray.size_append, sz8]; omega
    · show ((eC ++ numB x.f0) ++ eLies).size + (numB x.f1).size ≤ _
      rw [ByteArray.size_append, ByteArray.size_append, sz8, sz20]; omega
    · show (((eC ++ numB x.f0) ++ eLies) ++ numB x.f1).size + 1 ≤ _
      rw [ByteArray.size_append, ByteArray.size_append, ByteArray.size_append, sz8, sz20]; omega
    · have h3 := hk (o ++ [relLine x]) ⟨by rw [List.length_append, List.length_singleton]; omega, fun l hl' => by
        rcases List.mem_append.1 hl' with h4 | h4
        · exact hI.2 l h4
        · have := relLine_size x hx.1 hx.2
          rw [List.mem_singleton.1 h4]; omega⟩
      rw [List.append_assoc] at h3
      exact h3
  exact h
theorem implCtxText_ev (cs : List S38) (rs : List S40) (hc : ∀ x ∈ cs, in64 x.f0 ∧ (1 ≤ x.f1 ∧ x.f1 ≤ 4)) (hcl : cs.length ≤ 10) (hr : ∀ x ∈ rs, in64 x.f0 ∧ in64 x.f1) (hl : rs.length ≤ 24) : Ev (fun k => impl_RecordToEnglish.l0 k [] cs (cs.length : Int) 0 cs rs) (recText cs rs, true) := by
  have h := ev_scan0 (L := fun k (o : List ByteArray) i => impl_RecordToEnglish.l0 k o cs (cs.length : Int) i cs rs) (G := fun o i (r : List S38) => ((o ++ (r.map ctxLine ++ rs.map relLine)).foldl nlStep ⟨#[]⟩, true)) (fun o i r => o.length ≤ i ∧ ∀ l ∈ o, l.size ≤ 1000) cs [] ⟨Nat.le_refl _, fun l hl => nomatch hl⟩ ?h1 ?h2
  case h1 =>
    intro o ho
    rw [List.map_nil, List.nil_append]
    exact Ev.step (fun k => rfl) (ev_neg (by omega) (implRelText_ev rs hr hl o (by omega) ho.2))
  case h2 =>
    intro o i x r hI hi hd hg hk
    have hx := hc x (List.mem_of_mem_drop (hd ▸ List.mem_cons_self ..))
    have a := numB_size x.f0 hx.1.1 hx.1.2
    have hkT := kT_eq x.f1 hx.2
    have hrd : rd_T38 cs (i : Int) = x := by unfold rd_T38; rw [Int.toNat_natCast]; exact hg _
    refine Ev.step (fun k => rfl) (ev_pos (by omega) (ev_pos (by omega) (ev_pos (by omega) ?_)))
    rw [hrd, wrap_succ hi (by omega)]
    refine ev_bind0 (itoaE x.f0 hx.1.1 hx.1.2) (ev_pos (by omega) (ev_pos ?_ (ev_bind0 hkT.1 (ev_pos ?_ (ev_pos ?_ (ev_pos (by omega) ?_))))))
    · show (eC ++ numB x.f0).size + 4 ≤ _
      rw [ByteArray.size_append, sz8]; omega
    · show ((eC ++ numB x.f0) ++ eIs).size + (kT x.f1).size ≤ _
      rw [ByteArray.size_append, ByteArray.size_append, sz8, sz4]; omega
    · show (((eC ++ numB x.f0) ++ eIs) ++ kT x.f1).size + 1 ≤ _
      rw [ByteArray.size_append, ByteArray.size_append, ByteArray.size_append, sz8, sz4]; omega
    · have h3 := hk (o ++ [ctxLine x]) ⟨by rw [List.length_append, List.length_singleton]; omega, fun l hl' => by
        rcases List.mem_append.1 hl' with h4 | h4
        · exact hI.2 l h4
        · have := ctxLine_size x hx.1 hx.2
          rw [List.mem_singleton.1 h4]; omega⟩
      rw [List.append_assoc] at h3
      exact h3
  exact h
end Go.Proofs.YtdekadogbpkdoaaGreatDoor.X
set_option linter.unusedVariables false
set_option linter.unusedSimpArgs false
namespace Go.Proofs.YtdekadogbpkdoaaGreatDoor.X
open Go.RowKit Go.Proofs.YtdekadogbpkdoaaGreatDoorW.PrintWords Go.Proofs.YtdekadogbpkdoaaGreatDoor.E
theorem rdC_mem {cs : List S38} {x : S38} (hx : x ∈ cs) : ∃ i, i < cs.length ∧ rd_T38 cs (i : Int) = x := by
  obtain ⟨i, hi, rfl⟩ := List.getElem_of_mem hx
  exact ⟨i, hi, by unfold rd_T38; rw [Int.toNat_natCast]; exact getD_in hi _⟩
theorem rdR_mem {rs : List S40} {x : S40} (hx : x ∈ rs) : ∃ i, i < rs.length ∧ rd_T40 rs (i : Int) = x := by
  obtain ⟨i, hi, rfl⟩ := List.getElem_of_mem hx
  exact ⟨i, hi, by unfold rd_T40; rw [Int.toNat_natCast]; exact getD_in hi _⟩
theorem findC_in {cs : List S38} (hc : ∀ x ∈ cs, (1 ≤ x.f0 ∧ x.f0 ≤ 999) ∧ (1 ≤ x.f1 ∧ x.f1 ≤ 4)) (n : Int) (hn : 0 ≤ findC cs n) : 1 ≤ n ∧ n ≤ 999 := by
  unfold findC at hn
  rcases idxG_spec (fun x : S38 => x.f0 == n) cs 0 with ⟨g, _⟩ | ⟨j, x, hj, g, g2, g3, _⟩
  · rw [g] at hn; omega
  · have e : x.f0 = n := by simpa using g3
    have := (hc x (List.mem_of_getElem? g2)).1
    omega
theorem recOk_spec {cs : List S38} {rs : List S40} (h : recOk cs rs = true) : cs.length ≤ 10 ∧ rs.length ≤ 24 ∧ (∀ x ∈ cs, (1 ≤ x.f0 ∧ x.f0 ≤ 999) ∧ (1 ≤ x.f1 ∧ x.f1 ≤ 4)) ∧ (∀ x ∈ rs, (1 ≤ x.f0 ∧ x.f0 ≤ 999) ∧ (1 ≤ x.f1 ∧ x.f1 ≤ 999)) := by
  unfold recOk relsB at h
  rw [Bool.and_eq_true, Bool.and_eq_true, decide_eq_true_eq, all_range, all_range] at h
  obtain ⟨⟨h1, h2⟩, h3, h4⟩ := h
  have hc : ∀ x ∈ cs, (1 ≤ x.f0 ∧ x.f0 ≤ 999) ∧ (1 ≤ x.f1 ∧ x.f1 ≤ 4) := by
    intro x hx
    obtain ⟨i, hi, e⟩ := rdC_mem hx
    obtain ⟨a, b, _⟩ := of_decide_eq_true (h3 i hi)
    rw [e] at a b
    exact ⟨a, b⟩
  have hf := fun n => findC_in hc n
  refine ⟨h1, h2, hc, fun x hx => ?_⟩
  obtain ⟨i, hi, e⟩ := rdR_mem hx
  obtain ⟨_, a, b, _⟩ := of_decide_eq_true (h4 i hi)
  rw [e] at a b
  exact ⟨hf _ a, hf _ b⟩
theorem ctxStep (s n t k : ByteArray) (h : (⟨#[32]⟩ : ByteArray) ++ t = (eIs ++ k) ++ ⟨#[46]⟩) : ((((s ++ eC) ++ n) ++ (⟨#[32]⟩ : ByteArray)) ++ t) ++ (⟨#[10]⟩ : ByteArray) = s ++ (((((eC ++ n) ++ eIs) ++ k) ++ (⟨#[46]⟩ : ByteArray)) ++ (⟨#[10]⟩ : ByteArray)) := by
  have e : ((((s ++ eC) ++ n) ++ (⟨#[32]⟩ : ByteArray)) ++ t) = ((s ++ eC) ++ n) ++ ((⟨#[32]⟩ : ByteArray) ++ t) := ByteArray.append_assoc
  rw [e, h]
  simp only [ByteArray.append_assoc]
theorem e2 : (⟨#[46, 10]⟩ : ByteArray) = (⟨#[46]⟩ : ByteArray) ++ (⟨#[10]⟩ : ByteArray) := by decide +kernel
theorem relStep (s n m : ByteArray) : ((((s ++ eC) ++ n) ++ eLies) ++ m) ++ (⟨#[46, 10]⟩ : ByteArray) = s ++ (((((eC ++ n) ++ eLies) ++ m) ++ (⟨#[46]⟩ : ByteArray)) ++ (⟨#[10]⟩ : ByteArray)) := by
  rw [e2]
  simp only [ByteArray.append_assoc]
theorem specRelText_ev (cs : List S38) (rs : List S40) (hr : ∀ x ∈ rs, (1 ≤ x.f0 ∧ x.f0 ≤ 999) ∧ (1 ≤ x.f1 ∧ x.f1 ≤ 999)) (hl : rs.length ≤ 24) (s : ByteArray) (hs : s.size ≤ 10000) : Ev (fun k => spec_l25Record.l1 k s 0 cs rs) ((rs.map relLine).foldl nlStep s) := by
  have h := ev_scan0 (L := fun k (s : ByteArray) i => spec_l25Record.l1 k s i cs rs) (G := fun s i (r : List S40) => (r.map relLine).foldl nlStep s) (fun s i r => s.size ≤ 10000 + 100 * i) rs s (by omega) ?h1 ?h2
  case h1 =>
    intro s _
    exact Ev.step (fun k => rfl) (ev_neg (by omega) (ev_now rfl))
  case h2 =>
    intro s i x r hI hi hd hg hk
    have hx := hr x (List.mem_of_mem_drop (hd ▸ List.mem_cons_self ..))
    have a := numB_size x.f0 (by omega) (by omega)
    have b := numB_size x.f1 (by omega) (by omega)
    have hrd : rd_T40 rs (i : Int) = x := by unfold rd_T40; rw [Int.toNat_natCast]; exact hg _
    refine Ev.step (fun k => rfl) (ev_pos (by omega) (ev_pos (by omega) (ev_pos (by omega) ?_)))
    rw [hrd, wrap_succ hi (by omega)]
    have z1 : ∀ t : ByteArray, (t ++ eC).size = t.size + 8 := fun t => by rw [ByteArray.size_append, sz8]
    have z2 : ∀ t : ByteArray, (t ++ eLies).size = t.size + 20 := fun t => by rw [ByteArray.size_append, sz20]
    refine Ev.bind (l1Num_ev x.f0 (by omega) (by omega)) (ev_pos ?_ (ev_pos ?_ (Ev.bind (l1Num_ev x.f1 (by omega) (by omega)) (ev_pos ?_ (ev_pos ?_ ?_)))))
    · show (s ++ eC).size + _ ≤ _
      rw [z1]; omega
    · show ((s ++ eC) ++ numB x.f0).size + _ ≤ _
      rw [ByteArray.size_append, z1]; omega
    · show (((s ++ eC) ++ numB x.f0) ++ eLies).size + _ ≤ _
      rw [z2, ByteArray.size_append, z1]; omega
    · show ((((s ++ eC) ++ numB x.f0) ++ eLies) ++ numB x.f1).size + _ ≤ _
      rw [ByteArray.size_append, z2, ByteArray.size_append, z1]; omega
    · have h3 := hk (nlStep s (relLine x)) (by
        have c := relLine_size x ⟨by omega, by omega⟩ ⟨by omega, by omega⟩
        unfold nlStep
        rw [ByteArray.size_append, ByteArray.size_append]
        have : (⟨#[10]⟩ : ByteArray).size = 1 := rfl
        omega)
      have e := relStep s (numB x.f0) (numB x.f1)
      rw [show nlStep s (relLine x) = _ from e.symm] at h3
      rw [List.map_cons, List.foldl_cons, show nlStep s (relLine x) = _ from e.symm]
      exact h3
  exact h
theorem specCtxText_ev (cs : List S38) (rs : List S40) (hc : ∀ x ∈ cs, (1 ≤ x.f0 ∧ x.f0 ≤ 999) ∧ (1 ≤ x.f1 ∧ x.f1 ≤ 4)) (hcl : cs.length ≤ 10) (hr : ∀ x ∈ rs, (1 ≤ x.f0 ∧ x.f0 ≤ 999) ∧ (1 ≤ x.f1 ∧ x.f1 ≤ 999)) (hl : rs.length ≤ 24) : Ev (fun k => spec_l25Record.f k cs rs) (recText cs rs) := by
  have h := ev_scan0 (L := fun k (s : ByteArray) i => spec_l25Record.l0 k s i cs rs) (G := fun s i (r : List S38) => (r.map ctxLine ++ rs.map relLine).foldl nlStep s) (fun s i r => s.size ≤ 100 * i) cs (⟨#[]⟩ : ByteArray) (Nat.le_refl _) ?h1 ?h2
  case h1 =>
    intro s hs
    rw [List.map_nil, List.nil_append]
    exact Ev.step (fun k => rfl) (ev_neg (by omega) (specRelText_ev cs rs hr hl s (by omega)))
  case h2 =>
    intro s i x r hI hi hd hg hk
    have hx := hc x (List.mem_of_mem_drop (hd ▸ List.mem_cons_self ..))
    have a := numB_size x.f0 (by omega) (by omega)
    obtain ⟨hk1, hk2, hk3, hk4⟩ := kT_eq x.f1 hx.2
    have hrd : rd_T38 cs (i : Int) = x := by unfold rd_T38; rw [Int.toNat_natCast]; exact hg _
    refine Ev.step (fun k => rfl) (ev_pos (by omega) (ev_pos (by omega) (ev_pos (by omega) ?_)))
    rw [hrd, wrap_succ hi (by omega)]
    have z1 : ∀ t : ByteArray, (t ++ eC).size = t.size + 8 := fun t => by rw [ByteArray.size_append, sz8]
    have z2 : ∀ t : ByteArray, (t ++ (⟨#[32]⟩ : ByteArray)).size = t.size + 1 := fun t => by rw [ByteArray.size_append]; rfl
    refine Ev.bind (l1Num_ev x.f0 (by omega) (by omega)) (ev_pos ?_ (ev_pos ?_ (ev_bind0 (show spec_l25Kinds.f = some _ from rfl) (ev_pos (by omega) (ev_pos ?_ (ev_pos ?_ (ev_pos ?_ ?_)))))))
    · show (s ++ eC).size + _ ≤ _
      rw [z1]; omega
    · show ((s ++ eC) ++ numB x.f0).size + _ ≤ _
      rw [ByteArray.size_append, z1]; omega
    · show x.f1 < (5 : Int)
      omega
    · show (((s ++ eC) ++ numB x.f0) ++ (⟨#[32]⟩ : ByteArray)).size + _ ≤ _
      rw [z2, ByteArray.size_append, z1]; omega
    · show ((((s ++ eC) ++ numB x.f0) ++ (⟨#[32]⟩ : ByteArray)) ++ rdOf ByteArray.empty _ x.f1).size + _ ≤ _
      rw [ByteArray.size_append, z2, ByteArray.size_append, z1]; omega
    · have h3 := hk (nlStep s (ctxLine x)) (by
        have c := ctxLine_size x ⟨by omega, by omega⟩ hx.2
        unfold nlStep
        rw [ByteArray.size_append, ByteArray.size_append]
        have : (⟨#[10]⟩ : ByteArray).size = 1 := rfl
        omega)
      have e := ctxStep s (numB x.f0) _ (kT x.f1) hk2
      rw [show nlStep s (ctxLine x) = _ from e.symm] at h3
      rw [List.map_cons, List.cons_append, List.foldl_cons, show nlStep s (ctxLine x) = _ from e.symm]
      exact h3
  exact h
end Go.Proofs.YtdekadogbpkdoaaGreatDoor.X
set_option linter.unusedVariables false
set_option linter.unusedSimpArgs false
namespace Go.Proofs.YtdekadogbpkdoaaGreatDoor.X
open Go.RowKit Go.Proofs.YtdekadogbpkdoaaGreatDoorW.PrintWords Go.Proofs.YtdekadogbpkdoaaGreatDoor.E
end Go.Proofs.YtdekadogbpkdoaaGreatDoor.X
set_option linter.unusedVariables false
set_option linter.unusedSimpArgs false
namespace Go.Proofs.YtdekadogbpkdoaaGreatDoor.X
open Go.RowKit Go.Proofs.YtdekadogbpkdoaaGreatDoorW.PrintWords Go.Proofs.YtdekadogbpkdoaaGreatDoor.E
theorem dec_digit : ∀ (u : Nat), ∀ c ∈ Lib.decDigits u, 48 ≤ c.toNat ∧ c.toNat ≤ 57 := by
  intro u
  induction u using Nat.strongRecOn with
  | _ u ih =>
    intro c hc
    have one : ∀ d, d < 10 → 48 ≤ (UInt8.ofNat (48 + d)).toNat ∧ (UInt8.ofNat (48 + d)).toNat ≤ 57 := by
      intro d hd
      have : ∀ j : Fin 10, 48 ≤ (UInt8.ofNat (48 + j.val)).toNat ∧ (UInt8.ofNat (48 + j.val)).toNat ≤ 57 := by decide +kernel
      exact this ⟨d, hd⟩
    rw [Lib.decDigits] at hc
    split at hc
    · rw [List.mem_singleton.1 hc]; exact one u (by omega)
    · rcases List.mem_append.1 hc with h | h
      · exact ih (u / 10) (by omega) c h
      · rw [List.mem_singleton.1 h]; exact one _ (by omega)
theorem dec_one (d : Nat) (hd : d < 10) : (UInt8.ofNat (48 + d)).toNat = 48 + d := by
  have : ∀ j : Fin 10, (UInt8.ofNat (48 + j.val)).toNat = 48 + j.val := by decide +kernel
  exact this ⟨d, hd⟩
theorem dec_len : ∀ (k u : Nat), u < 10 ^ (k + 1) → 1 ≤ (Lib.decDigits u).length ∧ (Lib.decDigits u).length ≤ k + 1 := by
  intro k
  induction k with
  | zero =>
    intro u hu
    rw [Lib.decDigits, dif_pos (by simpa using hu)]
    simp
  | succ k ih =>
    intro u hu
    rw [Lib.decDigits]
    split
    · simp
    · have := ih (u / 10) (by rw [Nat.pow_succ] at hu; omega)
      rw [List.length_append, List.length_singleton]
      omega
def dv (l : List UInt8) : Int := l.foldl (fun a c => 10 * a + ((c.toNat : Int) - 48)) 0
theorem dv_snoc (l : List UInt8) (c : UInt8) : dv (l ++ [c]) = 10 * dv l + ((c.toNat : Int) - 48) := by unfold dv; rw [List.foldl_append]; rfl
theorem dv_dec : ∀ (u : Nat), dv (Lib.decDigits u) = (u : Int) := by
  intro u
  induction u using Nat.strongRecOn with
  | _ u ih =>
    rw [Lib.decDigits]
    split
    · rename_i h
      show dv ([] ++ [UInt8.ofNat (48 + u)]) = _
      rw [dv_snoc, dec_one u h]
      simp [dv]
      omega
    · rw [dv_snoc, ih (u / 10) (by omega), dec_one _ (by omega)]
      omega
theorem pu_snoc : ∀ (l : List UInt8) (acc m : Nat) (c : UInt8), Lib.parseUint10 acc l = .ok m → m < 1000000000000 → 48 ≤ c.toNat ∧ c.toNat ≤ 57 → Lib.parseUint10 acc (l ++ [c]) = .ok (m * 10 + (c.toNat - 48))
  | [], acc, m, c, h, hm, hc => by
    simp only [Lib.parseUint10] at h
    injection h with h
    subst h
    simp only [List.nil_append, Lib.parseUint10]
    rw [if_pos hc, if_neg (by omega), if_neg (by omega)]
  | b :: r, acc, m, c, h, hm, hc => by
    simp only [Lib.parseUint10] at h
    simp only [List.cons_append, Lib.parseUint10]
    split at h
    · rename_i h1
      rw [if_pos h1]
      split at h
      · cases h
      · rename_i h2
        rw [if_neg h2]
        split at h
        · cases h
        · rename_i h3
          rw [if_neg h3]
          exact pu_snoc r _ m c h hm hc
    · cases h
theorem pu_dec : ∀ (u : Nat), u < 1000000000000 → Lib.parseUint10 0 (Lib.decDigits u) = .ok u := by
  intro u
  induction u using Nat.strongRecOn with
  | _ u ih =>
    intro hu
    rw [Lib.decDigits]
    split
    · rename_i h
      have := pu_snoc [] 0 0 (UInt8.ofNat (48 + u)) rfl (by omega) (by rw [dec_one u h]; omega)
      rw [List.nil_append, dec_one u h] at this
      rw [this]
      congr 1
      omega
    · have := pu_snoc _ 0 (u / 10) (UInt8.ofNat (48 + u % 10)) (ih (u / 10) (by omega) (by omega)) (by omega) (by rw [dec_one _ (by omega)]; omega)
      rw [this, dec_one _ (by omega)]
      congr 1
      omega
theorem dec_ne (u : Nat) : Lib.decDigits u ≠ [] := by
  rw [Lib.decDigits]
  split <;> simp
theorem mag_dec (u : Nat) (hu : u < 1000000000000) : Lib.parseMag (Lib.decDigits u) = .ok u := by
  unfold Lib.parseMag
  rw [if_neg (dec_ne u)]
  exact pu_dec u hu
theorem atoi_itoa (v : Int) (h0 : -999999 ≤ v) (h1 : v ≤ 999999) : Lib.atoiAll (Lib.itoa v) = .ok v := by
  unfold Lib.itoa
  by_cases c : v < 0
  · rw [if_pos c, Lib.atoiAll_minus, mag_dec _ (by omega)]
    simp only [Lib.signed]
    rw [if_neg (by omega)]
    congr 1
    omega
  · rw [if_neg c]
    have hm := mag_dec v.toNat (by omega)
    cases hd : Lib.decDigits v.toNat with
    | nil => exact absurd hd (dec_ne _)
    | cons b r =>
      have hb := dec_digit v.toNat b (by rw [hd]; exact List.mem_cons_self ..)
      rw [hd] at hm
      rw [Lib.atoiAll_plain b r (by omega) (by omega), hm]
      simp only [Lib.signless]
      rw [if_neg (by omega)]
      congr 1
      omega
def IsNum (s : ByteArray) : Prop := ∃ v : Int, -999999 ≤ v ∧ v ≤ 999999 ∧ s = numB v
theorem parse_num {v : Int} (h0 : -999999 ≤ v) (h1 : v ≤ 999999) : parseE (numB v) = (v, true) := by
  unfold parseE
  have e : (numB v).data.toList = Lib.itoa v := by unfold numB; simp
  rw [e, atoi_itoa v h0 h1]
  exact if_pos ⟨⟨h0, h1⟩, rfl⟩
theorem parse_not {s : ByteArray} (h : ¬ IsNum s) : parseE s = (0, false) := by
  unfold parseE
  split
  · rename_i v hv
    split
    · rename_i hc
      refine absurd ⟨v, hc.1.1, hc.1.2, ?_⟩ h
      unfold numB
      rw [hc.2]
    · rfl
  · rfl
theorem bt_list (l : List UInt8) (i : Nat) (h : i < l.length) : bt ⟨l.toArray⟩ (i : Int) = ((l[i]).toNat : Int) := by
  unfold bt
  rw [Int.toNat_natCast]
  rw [dif_pos (show i < (⟨l.toArray⟩ : ByteArray).size from h)]
  rfl
def valT (t : ByteArray) : Nat → Int
  | 0 => 0
  | i + 1 => 10 * valT t i + (bt t (i : Int) - 48)
def digT (t : ByteArray) (i : Nat) : Bool := decide (48 ≤ bt t (i : Int) ∧ bt t (i : Int) ≤ 57)
theorem valT_bound (t : ByteArray) : ∀ i, i ≤ 6 → (∀ j, j < i → digT t j = true) → 0 ≤ valT t i ∧ valT t i < (10 ^ i : Nat)
  | 0, _, _ => by simp [valT]
  | i + 1, hi, h => by
    have h1 := valT_bound t i (by omega) (fun j hj => h j (by omega))
    have h2 := of_decide_eq_true (h i (by omega))
    simp only [valT]
    have : ((10 ^ (i + 1) : Nat) : Int) = 10 * ((10 ^ i : Nat) : Int) := by rw [Nat.pow_succ]; omega
    omega
theorem valT_list (l : List UInt8) : ∀ i, i ≤ l.length → valT ⟨l.toArray⟩ i = dv (l.take i)
  | 0, _ => by simp [valT, dv]
  | i + 1, h => by
    rw [valT, valT_list l i (by omega), bt_list l i (by omega), List.take_succ_eq_append_getElem (by omega), dv_snoc]
/-- What the reference's reading comes to, the sign taken off. -/
def readT (s t : ByteArray) : Int × Bool := if (1 ≤ (t.size : Int) ∧ (t.size : Int) ≤ 6) ∧ (List.range t.size).all (digT t) = true then (if t.size < s.size then (if (numB (-(valT t t.size))).toList = s.toList then (-(valT t t.size), true) else (0, false)) else (if (numB (valT t t.size)).toList = s.toList then (valT t t.size, true) else (0, false))) else (0, false)
theorem read1_ev (s t : ByteArray) : Ev (fun k => spec_l1Read.j1 k s t) (readT s t) := by
  have hin : ∀ a l h : Int, spec_l1In.f a l h = some (decide (l ≤ a ∧ a ≤ h)) := fun a l h => by
    unfold spec_l1In.f
    by_cases h1 : a ≥ l
    · rw [if_pos h1]; congr 1; simp [h1]
    · rw [if_neg h1]; congr 1; symm; simp; intro h2; omega
  refine Ev.step (fun k => rfl) (ev_bind0 (hin _ _ _) (ev_ite (fun c => ?_) (fun c => ev_now ?_)))
  case refine_2 =>
    unfold readT
    rw [decide_eq_true_eq] at c
    rw [if_neg (fun h => c h.1)]
  rw [decide_eq_true_eq] at c
  have h := ev_all (L := fun k (n : Int) i => spec_l1Read.l0 k s t n i) t.size (valT t) (digT t) (0, false) (if t.size < s.size then (if (numB (-(valT t t.size))).toList = s.toList then (-(valT t t.size), true) else (0, false)) else (if (numB (valT t t.size)).toList = s.toList then (valT t t.size, true) else (0, false))) ?h0 ?h1 ?h2
  case h0 =>
    intro hd
    have hb := valT_bound t t.size (by omega) hd
    have hp : ((10 ^ t.size : Nat) : Int) ≤ 1000000 := by
      have : 10 ^ t.size ≤ 10 ^ 6 := Nat.pow_le_pow_right (by omega) (by omega)
      omega
    refine Ev.step (fun k => rfl) (ev_neg (by omega) ?_)
    have hw : wrap64 (-(valT t t.size)) = -(valT t t.size) := wrap_id (by omega) (by omega)
    by_cases d : t.size < s.size
    · rw [if_pos d]
      refine ev_pos (by omega) ?_
      rw [hw]
      refine Ev.bind (l1Num_ev _ (by omega) (by omega)) (ev_ite (fun e => ev_now (by rw [if_pos e])) (fun e => ev_now (by rw [if_neg e])))
    · rw [if_neg d]
      exact ev_neg (by omega) (Ev.bind (l1Num_ev _ (by omega) (by omega)) (ev_ite (fun e => ev_now (by rw [if_pos e])) (fun e => ev_now (by rw [if_neg e]))))
  case h1 =>
    intro i hi hd hc y hy
    have hb := valT_bound t i (by omega) hd
    have hp : ((10 ^ i : Nat) : Int) ≤ 1000000 := by
      have : 10 ^ i ≤ 10 ^ 6 := Nat.pow_le_pow_right (by omega) (by omega)
      omega
    have hc' := of_decide_eq_true hc
    refine Ev.step (fun k => rfl) (ev_pos (by omega) (ev_pos (by omega) (ev_neg (by omega) (ev_neg (by omega) ?_))))
    rw [wrap_succ hi (by omega), show (bt t (i : Int) - 48) % 256 = bt t (i : Int) - 48 by omega, show wrap64 (10 * valT t i) = 10 * valT t i from wrap_id (by omega) (by omega), show wrap64 (10 * valT t i + (bt t (i : Int) - 48)) = valT t (i + 1) from wrap_id (by omega) (by omega)]
    exact hy
  case h2 =>
    intro i hi _ hc
    have hc' := of_decide_eq_false hc
    refine Ev.step (fun k => rfl) (ev_pos (by omega) (ev_pos (by omega) (ev_ite (fun _ => ev_now rfl) (fun h1 => ev_pos (by omega) (ev_now rfl)))))
  refine ev_cast h ?_
  unfold readT
  by_cases d : (List.range t.size).all (digT t) = true
  · rw [if_pos d]
    exact (if_pos ⟨c, d⟩).symm
  · rw [if_neg d, if_neg (fun h => d h.2)]
def tailOf (s : ByteArray) : ByteArray := if (s.size : Int) > 1 ∧ bt s 0 = 45 then s.extract 1 s.size else s
theorem read_ev0 (s : ByteArray) : Ev (fun k => spec_l1Read.f k s) (readT s (tailOf s)) := by
  unfold spec_l1Read.f tailOf
  by_cases c : (s.size : Int) > 1
  · refine ev_pos c (ev_pos (by omega) ?_)
    by_cases d : bt s 0 = 45
    · rw [if_pos ⟨c, d⟩, show (bt s 0 == 45) = true by simpa using d]
      exact Ev.step (fun k => rfl) (show Ev (fun k => if 1 ≤ (s.size : Int) then spec_l1Read.j1 k s (s.extract 1 s.size) else none) _ from ev_pos (by omega) (read1_ev s _))
    · rw [if_neg (fun h => d h.2), show (bt s 0 == 45) = false by simpa using d]
      exact Ev.step (fun k => rfl) (show Ev (fun k => spec_l1Read.j1 k s s) _ from read1_ev s s)
  · rw [if_neg (fun h => c h.1)]
    exact ev_neg c (Ev.step (fun k => rfl) (show Ev (fun k => spec_l1Read.j1 k s s) _ from read1_ev s s))
theorem digits_all (u : Nat) : (List.range (⟨(Lib.decDigits u).toArray⟩ : ByteArray).size).all (digT ⟨(Lib.decDigits u).toArray⟩) = true := by
  rw [all_range]
  intro i hi
  have hi' : i < (Lib.decDigits u).length := hi
  unfold digT
  rw [bt_list _ i hi']
  have := dec_digit u _ (List.getElem_mem hi')
  exact decide_eq_true (by omega)
theorem val_dec (u : Nat) : valT ⟨(Lib.decDigits u).toArray⟩ (⟨(Lib.decDigits u).toArray⟩ : ByteArray).size = (u : Int) := by
  have := valT_list (Lib.decDigits u) (Lib.decDigits u).length (Nat.le_refl _)
  rw [List.take_length, dv_dec] at this
  exact this
theorem ba_inj2 {a b : ByteArray} (h : a.toList = b.toList) : a = b := by
  rw [Lib.toList_data, Lib.toList_data] at h
  exact ByteArray.ext (Array.toList_inj.1 h)
theorem readT_eq (s : ByteArray) : readT s (tailOf s) = parseE s := by
  by_cases hn : IsNum s
  · obtain ⟨v, h0, h1, rfl⟩ := hn
    rw [parse_num h0 h1]
    by_cases c : v < 0
    · have e : numB v = ⟨(45 :: Lib.decDigits v.natAbs).toArray⟩ := by unfold numB Lib.itoa; rw [if_pos c]
      have hl := dec_len 5 v.natAbs (by omega)
      have hsz : (numB v).size = 1 + (Lib.decDigits v.natAbs).length := by rw [e]; show (45 :: Lib.decDigits v.natAbs).length = _; rw [List.length_cons]; omega
      have hb : bt (numB v) 0 = 45 := by rw [e]; exact bt_list (45 :: Lib.decDigits v.natAbs) 0 (by simp)
      have ht : tailOf (numB v) = ⟨(Lib.decDigits v.natAbs).toArray⟩ := by
        unfold tailOf
        rw [if_pos ⟨by omega, hb⟩, hsz, e]
        apply ByteArray.ext
        rw [ByteArray.data_extract]
        apply Array.toList_inj.1
        rw [Array.toList_extract]
        simp [List.extract]
      have hts : (⟨(Lib.decDigits v.natAbs).toArray⟩ : ByteArray).size = (Lib.decDigits v.natAbs).length := rfl
      unfold readT
      rw [ht, if_pos ⟨⟨by omega, by omega⟩, digits_all _⟩, if_pos (by omega), val_dec, show -((v.natAbs : Nat) : Int) = v by omega, if_pos rfl]
    · have e : numB v = ⟨(Lib.decDigits v.toNat).toArray⟩ := by unfold numB Lib.itoa; rw [if_neg c]
      have hl := dec_len 5 v.toNat (by omega)
      have hts : (⟨(Lib.decDigits v.toNat).toArray⟩ : ByteArray).size = (Lib.decDigits v.toNat).length := rfl
      have ht : tailOf (numB v) = numB v := by
        unfold tailOf
        rw [if_neg]
        rintro ⟨_, hb⟩
        rw [e, show (0 : Int) = ((0 : Nat) : Int) from rfl, bt_list _ 0 (by omega)] at hb
        have := dec_digit v.toNat _ (List.getElem_mem (show 0 < (Lib.decDigits v.toNat).length by omega))
        omega
      unfold readT
      rw [ht]
      have hval : valT (numB v) (numB v).size = v := by rw [e, val_dec]; omega
      have hsz : (numB v).size = (Lib.decDigits v.toNat).length := by rw [e]; rfl
      rw [if_pos ⟨⟨by omega, by omega⟩, by rw [e]; exact digits_all _⟩, if_neg (by omega), hval, if_pos rfl]
  · rw [parse_not hn]
    unfold readT
    split
    · rename_i hc
      have hb := valT_bound (tailOf s) (tailOf s).size (by omega) (fun j hj => all_range.1 hc.2 j hj)
      have hp : ((10 ^ (tailOf s).size : Nat) : Int) ≤ 1000000 := by
        have : 10 ^ (tailOf s).size ≤ 10 ^ 6 := Nat.pow_le_pow_right (by omega) (by omega)
        omega
      split
      · split
        · rename_i he; exact absurd ⟨_, by omega, by omega, (ba_inj2 he).symm⟩ hn
        · rfl
      · split
        · rename_i he; exact absurd ⟨_, by omega, by omega, (ba_inj2 he).symm⟩ hn
        · rfl
    · rfl
theorem l1Read_ev (s : ByteArray) : Ev (fun k => spec_l1Read.f k s) (parseE s) := ev_cast (read_ev0 s) (readT_eq s)
theorem parseInt_eq (s : ByteArray) (h : s.size ≤ 281474976710656) : impl_ParseInt.f s = some (parseE s) := by unfold impl_ParseInt.f; rw [if_pos h]
end Go.Proofs.YtdekadogbpkdoaaGreatDoor.X
set_option linter.unusedVariables false
set_option linter.unusedSimpArgs false
namespace Go.Proofs.YtdekadogbpkdoaaGreatDoor.X
open Go.RowKit Go.Proofs.YtdekadogbpkdoaaGreatDoorW.PrintWords Go.Proofs.YtdekadogbpkdoaaGreatDoor.E
def mkB (l : List UInt8) : ByteArray := ⟨l.toArray⟩
theorem mkB_list (l : List UInt8) : (mkB l).data.toList = l := by unfold mkB; simp
theorem mkB_eta (x : ByteArray) : mkB x.data.toList = x := by
  apply ByteArray.ext
  unfold mkB
  simp
theorem mkB_size (l : List UInt8) : (mkB l).size = l.length := rfl
theorem mkB_app (l m : List UInt8) : mkB l ++ mkB m = mkB (l ++ m) := ba_append l m
theorem mkB_extract (l : List UInt8) (a b : Nat) : (mkB l).extract a b = mkB ((l.drop a).take (b - a)) := by
  apply ByteArray.ext
  rw [ByteArray.data_extract]
  apply Array.toList_inj.1
  rw [Array.toList_extract]
  unfold mkB
  simp [List.extract]
def consH (b : UInt8) : List (List UInt8) → List (List UInt8)
  | [] => [[b]]
  | h :: t => (b :: h) :: t
def splitL (c : UInt8) : List UInt8 → List (List UInt8)
  | [] => [[]]
  | b :: r => if b = c then [] :: splitL c r else consH b (splitL c r)
def withH (p : List UInt8) : List (List UInt8) → List (List UInt8)
  | [] => [p]
  | h :: t => (p ++ h) :: t
theorem splitL_ne (c : UInt8) : ∀ l, splitL c l ≠ []
  | [] => by simp [splitL]
  | b :: r => by
    rw [splitL]
    split
    · simp
    · cases splitL c r <;> simp [consH]
theorem withH_nil {ls : List (List UInt8)} (h : ls ≠ []) : withH [] ls = ls := by
  cases ls with
  | nil => exact absurd rfl h
  | cons a t => rfl
theorem withH_cons (p : List UInt8) (b : UInt8) (ls : List (List UInt8)) : withH p (consH b ls) = withH (p ++ [b]) ls := by
  cases ls <;> simp [withH, consH]
theorem take_snoc (l : List UInt8) (s i : Nat) (hs : s ≤ i) (hi : i < l.length) : (l.drop s).take (i + 1 - s) = (l.drop s).take (i - s) ++ [l[i]] := by
  rw [show i + 1 - s = (i - s) + 1 by omega, List.take_succ_eq_append_getElem (by rw [List.length_drop]; omega), List.getElem_drop]
  congr 2
  simp only [show s + (i - s) = i by omega]
theorem split_go (l : List UInt8) (c : UInt8) (hl : l.length < 8796093022208) : ∀ (n i st : Nat) (out : List ByteArray), l.length - i = n → st ≤ i → i ≤ l.length → out.length ≤ st →
    Ev (fun k => spec_l1Split.l0 k (mkB l) (c.toNat : Int) out (st : Int) (i : Int)) (out ++ (withH ((l.drop st).take (i - st)) (splitL c (l.drop i))).map mkB) := by
  have hz := mkB_size l
  intro n
  induction n with
  | zero =>
    intro i st out hn hs hi ho
    obtain rfl : i = l.length := by omega
    refine Ev.step (fun k => rfl) (ev_neg (by omega) (ev_pos (by omega) (ev_pos (by omega) (ev_pos (by omega) (ev_now ?_)))))
    rw [Int.toNat_natCast, mkB_extract, hz, List.drop_length]
    simp [splitL, withH]
  | succ n ih =>
    intro i st out hn hs hi ho
    have hlt : i < l.length := by omega
    have hd : l.drop i = l[i] :: l.drop (i + 1) := List.drop_eq_getElem_cons hlt
    have hb : bt (mkB l) (i : Int) = ((l[i]).toNat : Int) := bt_list l i hlt
    rw [hd, splitL]
    by_cases hc : l[i] = c
    · rw [if_pos hc]
      have h := ih (i + 1) (i + 1) (out ++ [mkB ((l.drop st).take (i - st))]) (by omega) (Nat.le_refl _) (by omega) (by rw [List.length_append, List.length_singleton]; omega)
      rw [Nat.sub_self, List.take_zero, withH_nil (splitL_ne c _), List.append_assoc] at h
      refine Ev.step (fun k => rfl) (ev_pos (by omega) (ev_pos (by omega) (ev_pos (by rw [hb, hc]) (ev_pos (by omega) (ev_pos (by omega) (ev_pos (by omega) (ev_pos (by omega) ?_)))))))
      rw [Int.toNat_natCast, Int.toNat_natCast, mkB_extract, wrap_succ (show i < l.length by omega) (by omega)]
      simp only [withH, List.append_nil, List.map_cons]
      exact h
    · rw [if_neg hc, withH_cons, ← take_snoc l st i hs hlt]
      have h := ih (i + 1) st out (by omega) (by omega) (by omega) ho
      refine Ev.step (fun k => rfl) (ev_pos (by omega) (ev_pos (by omega) (ev_neg (by rw [hb]; intro e; exact hc (UInt8.toNat_inj.1 (by omega))) ?_)))
      rw [wrap_succ (show i < l.length by omega) (by omega)]
      exact h
theorem l1Split_ev (x : ByteArray) (c : UInt8) (hx : x.size < 8796093022208) (c' : Int) (hc : c' = (c.toNat : Int)) : Ev (fun k => spec_l1Split.f k x c') ((splitL c x.data.toList).map mkB) := by
  have h := split_go x.data.toList c (by rw [Array.length_toList]; exact hx) x.data.toList.length 0 0 [] (by omega) (by omega) (by omega) (by simp)
  rw [mkB_eta, List.drop_zero, Nat.sub_zero, List.take_zero, withH_nil (splitL_ne c _), List.nil_append] at h
  subst hc
  exact h
theorem splitL_no {c : UInt8} : ∀ {l : List UInt8}, c ∉ l → splitL c l = [l]
  | [], _ => rfl
  | b :: r, h => by
    rw [splitL, if_neg (fun e => h (by rw [← e]; exact List.mem_cons_self ..)), splitL_no (fun m => h (List.mem_cons_of_mem _ m))]
    rfl
theorem splitL_yes {c : UInt8} : ∀ {l : List UInt8} (r : List UInt8), c ∉ l → splitL c (l ++ c :: r) = l :: splitL c r
  | [], r, _ => by rw [List.nil_append, splitL, if_pos rfl]
  | b :: l, r, h => by
    rw [List.cons_append, splitL, if_neg (fun e => h (by rw [← e]; exact List.mem_cons_self ..)), splitL_yes r (fun m => h (List.mem_cons_of_mem _ m))]
    rfl
end Go.Proofs.YtdekadogbpkdoaaGreatDoor.X
set_option linter.unusedVariables false
set_option linter.unusedSimpArgs false
namespace Go.Proofs.YtdekadogbpkdoaaGreatDoor.X
open Go.RowKit Go.Proofs.YtdekadogbpkdoaaGreatDoorW.PrintWords Go.Proofs.YtdekadogbpkdoaaGreatDoor.E
def textL (ls : List (List UInt8)) : List UInt8 := (ls.map (fun l => l ++ [10])).flatten
theorem splitL_text : ∀ ls : List (List UInt8), (∀ l ∈ ls, (10 : UInt8) ∉ l) → splitL 10 (textL ls) = ls ++ [[]]
  | [], _ => rfl
  | l :: ls, h => by
    have ih := splitL_text ls (fun v hv => h v (List.mem_cons_of_mem _ hv))
    have e : textL (l :: ls) = l ++ 10 :: textL ls := by simp [textL]
    rw [e, splitL_yes _ (h l (List.mem_cons_self ..)), ih]
    rfl
end Go.Proofs.YtdekadogbpkdoaaGreatDoor.X
set_option linter.unusedVariables false
set_option linter.unusedSimpArgs false
namespace Go.Proofs.YtdekadogbpkdoaaGreatDoor.X
open Go.RowKit Go.Proofs.YtdekadogbpkdoaaGreatDoorW.PrintWords Go.Proofs.YtdekadogbpkdoaaGreatDoor.E
theorem itoa_byte (v : Int) : ∀ c ∈ Lib.itoa v, c.toNat = 45 ∨ (48 ≤ c.toNat ∧ c.toNat ≤ 57) := by
  intro c hc
  unfold Lib.itoa at hc
  split at hc
  · rcases List.mem_cons.1 hc with rfl | h
    · exact .inl rfl
    · exact .inr (dec_digit _ c h)
  · exact .inr (dec_digit _ c hc)
theorem itoa_nosp (v : Int) : (32 : UInt8) ∉ Lib.itoa v := by
  intro h
  have := itoa_byte v _ h
  have h2 : (32 : UInt8).toNat = 32 := rfl
  omega
def wC : List UInt8 := [67, 111, 110, 116, 101, 120, 116]
def tlK (k : Int) : List UInt8 := if k = 1 then [105, 115, 32, 97, 32, 100, 101, 112, 111, 115, 105, 116, 46] else if k = 2 then [105, 115, 32, 97, 32, 99, 117, 116, 46] else if k = 3 then [105, 115, 32, 97, 32, 115, 116, 114, 117, 99, 116, 117, 114, 101, 46] else [105, 115, 32, 110, 97, 116, 117, 114, 97, 108, 46]
def kwd (k : Int) : List (List UInt8) := if k = 1 then [[105, 115], [97], [100, 101, 112, 111, 115, 105, 116, 46]] else if k = 2 then [[105, 115], [97], [99, 117, 116, 46]] else if k = 3 then [[105, 115], [97], [115, 116, 114, 117, 99, 116, 117, 114, 101, 46]] else [[105, 115], [110, 97, 116, 117, 114, 97, 108, 46]]
def tlR (m : Int) : List UInt8 := [108, 105, 101, 115] ++ 32 :: ([97, 98, 111, 118, 101] ++ 32 :: ([99, 111, 110, 116, 101, 120, 116] ++ 32 :: (Lib.itoa m ++ [46])))
theorem k4 {k : Int} (h : 1 ≤ k ∧ k ≤ 4) : k = 1 ∨ k = 2 ∨ k = 3 ∨ k = 4 := by omega
theorem tlK_split {k : Int} (h : 1 ≤ k ∧ k ≤ 4) : splitL 32 (tlK k) = kwd k ∧ (10 : UInt8) ∉ tlK k := by
  rcases k4 h with rfl | rfl | rfl | rfl <;> exact ⟨by decide +kernel, by decide +kernel⟩
theorem ctx_mk (x : S38) (h : 1 ≤ x.f1 ∧ x.f1 ≤ 4) : ctxLine x = mkB (wC ++ 32 :: (Lib.itoa x.f0 ++ 32 :: tlK x.f1)) := by
  have hk : ∀ (K : List UInt8), kT x.f1 = mkB K → (((eC ++ numB x.f0) ++ eIs) ++ kT x.f1) ++ (⟨#[46]⟩ : ByteArray) = mkB (wC ++ 32 :: (Lib.itoa x.f0 ++ 32 :: ([105, 115, 32] ++ (K ++ [46])))) := by
    intro K hK
    rw [hK]
    show (((mkB [67, 111, 110, 116, 101, 120, 116, 32] ++ mkB (Lib.itoa x.f0)) ++ mkB [32, 105, 115, 32]) ++ mkB K) ++ mkB [46] = _
    rw [mkB_app, mkB_app, mkB_app, mkB_app]
    congr 1
    simp [wC]
  unfold ctxLine
  rcases k4 h with e | e | e | e
  · rw [hk [97, 32, 100, 101, 112, 111, 115, 105, 116] (by rw [e]; rfl), e]; rfl
  · rw [hk [97, 32, 99, 117, 116] (by rw [e]; rfl), e]; rfl
  · rw [hk [97, 32, 115, 116, 114, 117, 99, 116, 117, 114, 101] (by rw [e]; rfl), e]; rfl
  · rw [hk [110, 97, 116, 117, 114, 97, 108] (by rw [e]; rfl), e]; rfl
theorem rel_mk (x : S40) : relLine x = mkB (wC ++ 32 :: (Lib.itoa x.f0 ++ 32 :: tlR x.f1)) := by
  unfold relLine
  show (((mkB [67, 111, 110, 116, 101, 120, 116, 32] ++ mkB (Lib.itoa x.f0)) ++ mkB [32, 108, 105, 101, 115, 32, 97, 98, 111, 118, 101, 32, 99, 111, 110, 116, 101, 120, 116, 32]) ++ mkB (Lib.itoa x.f1)) ++ mkB [46] = _
  rw [mkB_app, mkB_app, mkB_app, mkB_app]
  congr 1
  simp [wC, tlR]
theorem itoa_nonl (v : Int) : (10 : UInt8) ∉ Lib.itoa v := by
  intro h
  rcases itoa_byte v _ h with h | h
  · exact absurd h (by decide)
  · exact absurd h.1 (by decide)
theorem line_split (n t : List UInt8) (h : (32 : UInt8) ∉ n) : splitL 32 (wC ++ 32 :: (n ++ 32 :: t)) = wC :: n :: splitL 32 t := by
  rw [splitL_yes _ (by decide), splitL_yes _ h]
theorem tlR_split (m : Int) : splitL 32 (tlR m) = [[108, 105, 101, 115], [97, 98, 111, 118, 101], [99, 111, 110, 116, 101, 120, 116], Lib.itoa m ++ [46]] := by
  unfold tlR
  rw [splitL_yes _ (by decide), splitL_yes _ (by decide), splitL_yes _ (by decide), splitL_no]
  intro h
  rcases List.mem_append.1 h with h | h
  · exact itoa_nosp m h
  · revert h; decide
theorem tlR_nonl (m : Int) : (10 : UInt8) ∉ tlR m := by
  unfold tlR
  have := itoa_nonl m
  simp [this]
theorem line_nonl (n t : List UInt8) (h : (10 : UInt8) ∉ n) (ht : (10 : UInt8) ∉ t) : (10 : UInt8) ∉ wC ++ 32 :: (n ++ 32 :: t) := by
  simp [wC, h, ht]
theorem nl_list : ∀ (ls : List ByteArray) (s : ByteArray), (ls.foldl nlStep s).data.toList = s.data.toList ++ textL (ls.map (·.data.toList))
  | [], s => by simp [textL]
  | l :: ls, s => by
    rw [List.foldl_cons, nl_list ls]
    unfold nlStep
    rw [ByteArray.data_append, Array.toList_append, ByteArray.data_append, Array.toList_append]
    simp [textL]
/-- The lines of a record's English. -/
def recLines (cs : List S38) (rs : List S40) : List ByteArray := cs.map ctxLine ++ rs.map relLine
theorem rec_pieces (cs : List S38) (rs : List S40) (hc : ∀ x ∈ cs, 1 ≤ x.f1 ∧ x.f1 ≤ 4) : (splitL 10 (recText cs rs).data.toList).map mkB = recLines cs rs ++ [mkB []] := by
  have h0 : (recText cs rs).data.toList = textL ((recLines cs rs).map (·.data.toList)) := by
    show ((recLines cs rs).foldl nlStep ⟨#[]⟩).data.toList = _
    rw [nl_list]
    rfl
  rw [h0, splitL_text, List.map_append, List.map_map]
  · congr 1
    exact (List.map_congr_left (g := id) (fun x _ => mkB_eta x)).trans (List.map_id _)
  · intro l hl
    obtain ⟨b, hb, rfl⟩ := List.mem_map.1 hl
    unfold recLines at hb
    rcases List.mem_append.1 hb with hb | hb
    · obtain ⟨x, hx, rfl⟩ := List.mem_map.1 hb
      rw [ctx_mk x (hc x hx), mkB_list]
      exact line_nonl _ _ (itoa_nonl _) (tlK_split (hc x hx)).2
    · obtain ⟨x, hx, rfl⟩ := List.mem_map.1 hb
      rw [rel_mk x, mkB_list]
      exact line_nonl _ _ (itoa_nonl _) (tlR_nonl _)
end Go.Proofs.YtdekadogbpkdoaaGreatDoor.X
set_option linter.unusedVariables false
set_option linter.unusedSimpArgs false
namespace Go.Proofs.YtdekadogbpkdoaaGreatDoor.X
open Go.RowKit Go.Proofs.YtdekadogbpkdoaaGreatDoorW.PrintWords Go.Proofs.YtdekadogbpkdoaaGreatDoor.E
theorem hasPre_yes (p t : ByteArray) : stringslite_HasPrefix.f (p ++ t) p = some true := by
  have hz : (p ++ t).size = p.size + t.size := ByteArray.size_append
  unfold stringslite_HasPrefix.f
  rw [if_pos (by omega), if_pos (by omega), if_pos (by omega), ByteArray.extract_append_eq_left rfl, beq_self_eq_true]
theorem hasPre_no (a p : ByteArray) (h : ∀ t, a ≠ p ++ t) : stringslite_HasPrefix.f a p = some false := by
  unfold stringslite_HasPrefix.f
  by_cases c : (a.size : Int) ≥ (p.size : Int)
  · rw [if_pos c, if_pos (by omega), if_pos (by omega)]
    congr 1
    rw [beq_eq_false_iff_ne]
    intro e
    have e2 : a.extract 0 p.size = p := ba_inj2 e
    refine h (a.extract p.size a.size) ?_
    have : a = a.extract 0 p.size ++ a.extract p.size a.size := by
      rw [ByteArray.extract_append_extract, Nat.min_eq_left (by omega), Nat.max_eq_right (by omega), ByteArray.extract_zero_size]
    rw [e2] at this
    exact this
  · rw [if_neg c]
theorem cutPre_yes (p t : ByteArray) : strings_CutPrefix.f (p ++ t) p = some (t, true) := by
  have hz : (p ++ t).size = p.size + t.size := ByteArray.size_append
  have h1 : stringslite_CutPrefix.f (p ++ t) p = some (t, true) := by
    unfold stringslite_CutPrefix.f
    rw [hasPre_yes, Option.bind_some, if_pos rfl, if_pos (by omega), if_pos (by omega), ByteArray.extract_append_eq_right rfl hz]
  unfold strings_CutPrefix.f
  rw [h1]
  rfl
theorem cutPre_no (a p : ByteArray) (h : ∀ t, a ≠ p ++ t) : strings_CutPrefix.f a p = some (a, false) := by
  have h1 : stringslite_CutPrefix.f a p = some (a, false) := by
    unfold stringslite_CutPrefix.f
    rw [hasPre_no a p h]
    rfl
  unfold strings_CutPrefix.f
  rw [h1]
  rfl
theorem cutPre_cases (a p : ByteArray) : (∃ t, a = p ++ t) ∨ ∀ t, a ≠ p ++ t := by
  by_cases h : ∃ t, a = p ++ t
  · exact .inl h
  · exact .inr fun t e => h ⟨t, e⟩
theorem trimSuf_yes (x p : ByteArray) (hx : x.size + p.size ≤ 4611686018427387904) : strings_TrimSuffix.f (x ++ p) p = some x := by
  have hz : (x ++ p).size = x.size + p.size := ByteArray.size_append
  have hw : wrap64 (((x ++ p).size : Int) - (p.size : Int)) = (x.size : Int) := by rw [hz, wrap_id (by omega) (by omega)]; omega
  have e1 : (x ++ p).extract x.size (x ++ p).size = p := ByteArray.extract_append_eq_right rfl hz
  have e2 : (x ++ p).extract 0 x.size = x := ByteArray.extract_append_eq_left rfl
  have h0 : stringslite_HasSuffix.f (x ++ p) p = some true := by
    unfold stringslite_HasSuffix.f
    rw [hw, if_pos (by omega), if_pos (by omega), if_pos (by omega), Int.toNat_natCast, e1, beq_self_eq_true]
  have h1 : stringslite_TrimSuffix.f (x ++ p) p = some x := by
    unfold stringslite_TrimSuffix.f
    rw [h0, Option.bind_some]
    rw [hw, if_pos rfl, if_pos (by omega), if_pos (by omega), Int.toNat_natCast, e2]
  unfold strings_TrimSuffix.f; rw [h1]; rfl
theorem trimSuf_any (a p : ByteArray) (ha : a.size ≤ 4611686018427387904) : ∃ t, strings_TrimSuffix.f a p = some t ∧ t.size ≤ a.size := by
  have h1 : ∃ t, stringslite_TrimSuffix.f a p = some t ∧ t.size ≤ a.size := by
    unfold stringslite_TrimSuffix.f stringslite_HasSuffix.f
    by_cases c : (a.size : Int) ≥ (p.size : Int)
    · have hw : wrap64 ((a.size : Int) - (p.size : Int)) = (a.size : Int) - (p.size : Int) := wrap_id (by omega) (by omega)
      rw [hw, if_pos c, if_pos (by omega), if_pos (by omega), Option.bind_some]
      split
      · rw [if_pos (by omega), if_pos (by omega)]
        exact ⟨_, rfl, by rw [ByteArray.size_extract]; omega⟩
      · exact ⟨_, rfl, Nat.le_refl _⟩
    · rw [if_neg c]
      exact ⟨_, rfl, Nat.le_refl _⟩
  obtain ⟨t, h, ht⟩ := h1
  refine ⟨t, ?_, ht⟩
  unfold strings_TrimSuffix.f
  rw [h]
  rfl
end Go.Proofs.YtdekadogbpkdoaaGreatDoor.X
set_option linter.unusedVariables false
set_option linter.unusedSimpArgs false
namespace Go.Proofs.YtdekadogbpkdoaaGreatDoor.X
open Go.RowKit Go.Proofs.YtdekadogbpkdoaaGreatDoorW.PrintWords Go.Proofs.YtdekadogbpkdoaaGreatDoor.E
theorem trimPre_yes (p t : ByteArray) : strings_TrimPrefix.f (p ++ t) p = some t := by
  have hz : (p ++ t).size = p.size + t.size := ByteArray.size_append
  have h1 : stringslite_TrimPrefix.f (p ++ t) p = some t := by
    unfold stringslite_TrimPrefix.f
    rw [hasPre_yes, Option.bind_some, if_pos rfl, if_pos (by omega), if_pos (by omega), ByteArray.extract_append_eq_right rfl hz]
  unfold strings_TrimPrefix.f
  rw [h1]
  rfl
theorem trimPre_any (a p : ByteArray) : ∃ t, strings_TrimPrefix.f a p = some t ∧ t.size ≤ a.size := by
  rcases cutPre_cases a p with ⟨t, rfl⟩ | h
  · exact ⟨t, trimPre_yes p t, by rw [ByteArray.size_append]; omega⟩
  · have h1 : stringslite_TrimPrefix.f a p = some a := by
      unfold stringslite_TrimPrefix.f
      rw [hasPre_no a p h]
      rfl
    refine ⟨a, ?_, Nat.le_refl _⟩
    unfold strings_TrimPrefix.f
    rw [h1]
    rfl
theorem cut_eq (s : ByteArray) (i : Int) (hI : Lib.index s.data.toList [32] = i) (hs : s.size ≤ 1048576) : strings_Cut.f s (⟨#[32]⟩ : ByteArray) = some (if i ≥ 0 then (s.extract 0 i.toNat, s.extract (i + 1).toNat s.size, true) else (s, (⟨#[]⟩ : ByteArray), false)) := by
  have hl : s.data.toList.length = s.size := by rw [Array.length_toList]; rfl
  have h0 : stringslite_Index.f s (⟨#[32]⟩ : ByteArray) = some i := by rw [← hI, Lib.index_one]; rfl
  have h1 : stringslite_Cut.f s (⟨#[32]⟩ : ByteArray) = some (if i ≥ 0 then (s.extract 0 i.toNat, s.extract (i + 1).toNat s.size, true) else (s, (⟨#[]⟩ : ByteArray), false)) := by
    unfold stringslite_Cut.f
    rw [h0, Option.bind_some]
    by_cases c : i ≥ 0
    · have hr := Lib.index_room s.data.toList [32] (by omega)
      rw [hI, hl] at hr
      have hr' : i + 1 ≤ (s.size : Int) := hr
      have hw : wrap64 (i + (((⟨#[32]⟩ : ByteArray).size : Nat) : Int)) = i + 1 := by
        show wrap64 (i + 1) = i + 1
        exact wrap_id (by omega) (by omega)
      rw [hw, if_pos c, if_pos c, if_pos (by omega), if_pos (by omega), if_pos (by omega), if_pos (by omega)]
    · rw [if_neg c, if_neg c]
  unfold strings_Cut.f
  rw [h1]
  rfl
theorem cut_any (s : ByteArray) (hs : s.size ≤ 1048576) : ∃ x y b, strings_Cut.f s (⟨#[32]⟩ : ByteArray) = some (x, y, b) ∧ x.size ≤ s.size ∧ y.size ≤ s.size := by
  have h := cut_eq s _ rfl hs
  by_cases c : Lib.index s.data.toList [32] ≥ 0
  · rw [if_pos c] at h
    exact ⟨_, _, _, h, by rw [ByteArray.size_extract]; omega, by rw [ByteArray.size_extract]; omega⟩
  · rw [if_neg c] at h
    exact ⟨_, _, _, h, by omega, Nat.zero_le _⟩
theorem trimPre_no (a p : ByteArray) (h : ∀ t, a ≠ p ++ t) : strings_TrimPrefix.f a p = some a := by
  have h1 : stringslite_TrimPrefix.f a p = some a := by
    unfold stringslite_TrimPrefix.f
    rw [hasPre_no a p h]
    rfl
  unfold strings_TrimPrefix.f
  rw [h1]
  rfl
theorem index_sp (p q : List UInt8) (h : (32 : UInt8) ∉ p) : Lib.index (p ++ 32 :: q) [32] = (p.length : Int) := by
  refine Lib.index_first (by simp) ?_ ?_
  · unfold Lib.occAt
    rw [List.drop_left]
    simp
  · intro j hj
    rw [Bool.eq_false_iff]
    intro ho
    unfold Lib.occAt at ho
    have h1 : (p ++ 32 :: q)[j]? = some 32 := by
      obtain ⟨t, ht⟩ := List.isPrefixOf_iff_prefix.1 ho
      have h2 : ((p ++ 32 :: q).drop j)[0]? = some 32 := by rw [← ht]; rfl
      rw [List.getElem?_drop] at h2
      exact h2
    rw [List.getElem?_append_left hj] at h1
    exact h (List.mem_of_getElem? h1)
theorem cut_sp (p q : List UInt8) (h : (32 : UInt8) ∉ p) (hs : p.length + q.length ≤ 1000) : strings_Cut.f (mkB (p ++ 32 :: q)) (⟨#[32]⟩ : ByteArray) = some (mkB p, mkB q, true) := by
  have hz : (mkB (p ++ 32 :: q)).size = p.length + (q.length + 1) := by rw [mkB_size, List.length_append, List.length_cons]
  rw [cut_eq (mkB (p ++ 32 :: q)) (p.length : Int) (by rw [mkB_list]; exact index_sp p q h) (by omega), if_pos (by omega)]
  have e1 : (mkB (p ++ 32 :: q)).extract 0 ((p.length : Int)).toNat = mkB p := by
    rw [Int.toNat_natCast, ← mkB_app]
    exact ByteArray.extract_append_eq_left (mkB_size p).symm
  have e2 : (mkB (p ++ 32 :: q)).extract ((p.length : Int) + 1).toNat (mkB (p ++ 32 :: q)).size = mkB q := by
    rw [show ((p.length : Int) + 1).toNat = (p ++ [(32 : UInt8)]).length by rw [List.length_append, List.length_singleton]; omega, show p ++ 32 :: q = (p ++ [32]) ++ q by simp, ← mkB_app]
    exact ByteArray.extract_append_eq_right (mkB_size _).symm (by rw [ByteArray.size_append])
  rw [e1, e2]
end Go.Proofs.YtdekadogbpkdoaaGreatDoor.X
set_option linter.unusedVariables false
set_option linter.unusedSimpArgs false
namespace Go.Proofs.YtdekadogbpkdoaaGreatDoor.X
open Go.RowKit Go.Proofs.YtdekadogbpkdoaaGreatDoorW.PrintWords Go.Proofs.YtdekadogbpkdoaaGreatDoor.E
abbrev Ctx := S38
abbrev Rel := S40
def pLies : ByteArray := ⟨#[108, 105, 101, 115, 32, 97, 98, 111, 118, 101, 32, 99, 111, 110, 116, 101, 120, 116, 32]⟩
/-- A line without its end and beginning, cut at a space: the number's text, the rest, and whether it begins and is cut. -/
def lineI (l : ByteArray) : Option (ByteArray × ByteArray × Bool × Bool) := (strings_TrimSuffix.f l (⟨#[46]⟩ : ByteArray)).bind fun t => (strings_CutPrefix.f t (⟨#[67, 111, 110, 116, 101, 120, 116, 32]⟩ : ByteArray)).bind fun p => (strings_Cut.f p.1 (⟨#[32]⟩ : ByteArray)).bind fun q => some (q.1, q.2.1, p.2, q.2.2)
theorem cutPre_any (a p : ByteArray) : ∃ t b, strings_CutPrefix.f a p = some (t, b) ∧ t.size ≤ a.size := by
  rcases cutPre_cases a p with ⟨t, rfl⟩ | h
  · exact ⟨t, true, cutPre_yes p t, by rw [ByteArray.size_append]; omega⟩
  · exact ⟨a, false, cutPre_no a p h, Nat.le_refl _⟩
theorem lineI_parts (l : ByteArray) (h : l.size ≤ 4000) : ∃ t p b1 f r b2, strings_TrimSuffix.f l (⟨#[46]⟩ : ByteArray) = some t ∧ strings_CutPrefix.f t (⟨#[67, 111, 110, 116, 101, 120, 116, 32]⟩ : ByteArray) = some (p, b1) ∧ strings_Cut.f p (⟨#[32]⟩ : ByteArray) = some (f, r, b2) ∧ f.size ≤ 4000 ∧ r.size ≤ 4000 ∧ lineI l = some (f, r, b1, b2) := by
  obtain ⟨t, ht, hts⟩ := trimSuf_any l (⟨#[46]⟩ : ByteArray) (by omega)
  obtain ⟨p, b1, hp, hps⟩ := cutPre_any t (⟨#[67, 111, 110, 116, 101, 120, 116, 32]⟩ : ByteArray)
  obtain ⟨f, r, b2, hq, hf, hr⟩ := cut_any p (by omega)
  refine ⟨t, p, b1, f, r, b2, ht, hp, hq, by omega, by omega, ?_⟩
  unfold lineI
  rw [ht, Option.bind_some, hp, Option.bind_some, hq, Option.bind_some]
def lnI (l : ByteArray) : ByteArray × ByteArray × Bool × Bool := (lineI l).getD (⟨#[]⟩, ⟨#[]⟩, false, false)
def okI (l : ByteArray) : Bool := (lnI l).2.2.1 && (lnI l).2.2.2
def numI (l : ByteArray) : Int := (parseE (lnI l).1).1
def restI (l : ByteArray) : ByteArray := (lnI l).2.1
theorem restI_size (l : ByteArray) (h : l.size ≤ 4000) : (restI l).size ≤ 4000 := by
  obtain ⟨t, p, b1, f, r, b2, _, _, _, _, hr, e⟩ := lineI_parts l h
  unfold restI lnI
  rw [e]
  exact hr
theorem sentLoop (M : List ByteArray) (hM : M.length ≤ 5000) (hs : ∀ l ∈ M, l.size ≤ 4000) : Ev (fun k => impl_sentences.l0 k ([] : List Int) ([] : List ByteArray) M (M.length : Int) 0) (if (List.range M.length).all (fun i => okI (M.getD i ByteArray.empty)) = true then (M.map numI, M.map restI, true) else ([], [], false)) := by
  have hat : ∀ i (hi : i < M.length), rdOf ByteArray.empty M (i : Int) = M[i] := by
    intro i hi
    unfold rdOf
    rw [Int.toNat_natCast, getD_in hi]
  refine ev_all (L := fun k (st : List Int × List ByteArray) i => impl_sentences.l0 k st.1 st.2 M (M.length : Int) i) M.length (fun i => ((M.take i).map numI, (M.take i).map restI)) (fun i => okI (M.getD i ByteArray.empty)) (([] : List Int), ([] : List ByteArray), false) (M.map numI, M.map restI, true) ?h0 ?h1 ?h2
  case h0 =>
    intro _
    refine Ev.step (fun k => rfl) (ev_neg (by omega) (ev_now ?_))
    rw [List.take_length]
  case h1 =>
    intro i hi _ hc y hy
    have hmem := List.getElem_mem hi
    obtain ⟨t, p, b1, f, r, b2, e1, e2, e3, hf, hr, e⟩ := lineI_parts _ (hs _ hmem)
    rw [getD_in hi] at hc
    have hln : lnI M[i] = (f, r, b1, b2) := by unfold lnI; rw [e]; rfl
    unfold okI at hc
    rw [hln] at hc
    obtain ⟨c1, c2⟩ := Bool.and_eq_true_iff.1 hc
    have hp : impl_ParseInt.f f = some (parseE f) := parseInt_eq _ (by omega)
    have l1 : ((M.take i).map numI).length = i := by rw [List.length_map, List.length_take]; omega
    have l2 : ((M.take i).map restI).length = i := by rw [List.length_map, List.length_take]; omega
    have s1 : (M.take (i + 1)).map numI = (M.take i).map numI ++ [(parseE f).1] := by
      rw [List.take_succ_eq_append_getElem hi, List.map_append]
      show _ ++ [numI M[i]] = _
      unfold numI
      rw [hln]
    have s2 : (M.take (i + 1)).map restI = (M.take i).map restI ++ [r] := by
      rw [List.take_succ_eq_append_getElem hi, List.map_append]
      show _ ++ [restI M[i]] = _
      unfold restI
      rw [hln]
    rw [s1, s2] at hy
    refine Ev.step (fun k => rfl) (ev_pos (by omega) (ev_pos (by omega) (ev_pos (by omega) (ev_bind0 (by rw [hat i hi]; exact e1) (ev_bind0 e2 (ev_bind0 e3 (ev_pos c1 (ev_pos c2 (ev_bind0 hp (ev_pos (by rw [l1]; omega) (ev_pos (by rw [l2]; omega) ?_)))))))))))
    rw [wrap_succ hi (by omega)]
    exact hy
  case h2 =>
    intro i hi _ hc
    have hmem := List.getElem_mem hi
    obtain ⟨t, p, b1, f, r, b2, e1, e2, e3, hf, hr, e⟩ := lineI_parts _ (hs _ hmem)
    rw [getD_in hi] at hc
    have hln : lnI M[i] = (f, r, b1, b2) := by unfold lnI; rw [e]; rfl
    unfold okI at hc
    rw [hln] at hc
    refine Ev.step (fun k => rfl) (ev_pos (by omega) (ev_pos (by omega) (ev_pos (by omega) (ev_bind0 (by rw [hat i hi]; exact e1) (ev_bind0 e2 (ev_bind0 e3 ?_))))))
    by_cases c1 : b1 = true
    · refine ev_pos c1 (ev_neg (fun c2 => ?_) (ev_now rfl))
      rw [show b1 = true from c1, show b2 = true from c2] at hc
      cases hc
    · exact ev_neg c1 (ev_now rfl)
def kindN (s : ByteArray) : Int := if s.toList = ([] : List UInt8) then 0 else if s.toList = ([100, 101, 112, 111, 115, 105, 116] : List UInt8) then 1 else if s.toList = ([99, 117, 116] : List UInt8) then 2 else if s.toList = ([115, 116, 114, 117, 99, 116, 117, 114, 101] : List UInt8) then 3 else if s.toList = ([110, 97, 116, 117, 114, 97, 108] : List UInt8) then 4 else 0
theorem lst (l : List UInt8) : (⟨l.toArray⟩ : ByteArray).toList = l := by rw [Lib.toList_data]
theorem parseKind_ev (s : ByteArray) : ∃ b, Ev (fun k => impl_ParseKind.f k s) (kindN s, b) := by
  have go : ∀ (K : List ByteArray), K = [(⟨#[]⟩ : ByteArray), (⟨#[100, 101, 112, 111, 115, 105, 116]⟩ : ByteArray), (⟨#[99, 117, 116]⟩ : ByteArray), (⟨#[115, 116, 114, 117, 99, 116, 117, 114, 101]⟩ : ByteArray), (⟨#[110, 97, 116, 117, 114, 97, 108]⟩ : ByteArray)] → ∃ v : Int, Ev (fun k => slices_Index_string_string.f k K s) v ∧ kindN s = (if v < 1 then 0 else v) := by
    intro K hK
    have hl : K.length = 5 := by rw [hK]; rfl
    have r0 : (rdOf ByteArray.empty K 0).toList = [] := by rw [hK]; exact lst []
    have r1 : (rdOf ByteArray.empty K 1).toList = [100, 101, 112, 111, 115, 105, 116] := by rw [hK]; exact lst _
    have r2 : (rdOf ByteArray.empty K 2).toList = [99, 117, 116] := by rw [hK]; exact lst _
    have r3 : (rdOf ByteArray.empty K 3).toList = [115, 116, 114, 117, 99, 116, 117, 114, 101] := by rw [hK]; exact lst _
    have r4 : (rdOf ByteArray.empty K 4).toList = [110, 97, 116, 117, 114, 97, 108] := by rw [hK]; exact lst _
    have w0 : wrap64 ((0 : Int) + 1) = 1 := by rw [wrap_id (by omega) (by omega)]; rfl
    have w1 : wrap64 ((1 : Int) + 1) = 2 := by rw [wrap_id (by omega) (by omega)]; rfl
    have w2 : wrap64 ((2 : Int) + 1) = 3 := by rw [wrap_id (by omega) (by omega)]; rfl
    have w3 : wrap64 ((3 : Int) + 1) = 4 := by rw [wrap_id (by omega) (by omega)]; rfl
    have w4 : wrap64 ((4 : Int) + 1) = 5 := by rw [wrap_id (by omega) (by omega)]; rfl
    unfold slices_Index_string_string.f kindN
    by_cases c0 : s.toList = ([] : List UInt8)
    · exact ⟨0, Ev.step (fun k => rfl) (ev_pos (by omega) (ev_pos (by omega) (ev_pos (by omega) (ev_pos (by rw [r0]; exact c0) (ev_now rfl))))), by rw [if_pos c0]; rfl⟩
    by_cases c1 : s.toList = ([100, 101, 112, 111, 115, 105, 116] : List UInt8)
    · refine ⟨1, Ev.step (fun k => rfl) (ev_pos (by omega) (ev_pos (by omega) (ev_pos (by omega) (ev_neg (by rw [r0]; exact c0) ?_)))), by rw [if_neg c0, if_pos c1]; rfl⟩
      rw [w0]
      exact Ev.step (fun k => rfl) (ev_pos (by omega) (ev_pos (by omega) (ev_pos (by omega) (ev_pos (by rw [r1]; exact c1) (ev_now rfl)))))
    by_cases c2 : s.toList = ([99, 117, 116] : List UInt8)
    · refine ⟨2, Ev.step (fun k => rfl) (ev_pos (by omega) (ev_pos (by omega) (ev_pos (by omega) (ev_neg (by rw [r0]; exact c0) ?_)))), by rw [if_neg c0, if_neg c1, if_pos c2]; rfl⟩
      rw [w0]
      refine Ev.step (fun k => rfl) (ev_pos (by omega) (ev_pos (by omega) (ev_pos (by omega) (ev_neg (by rw [r1]; exact c1) ?_))))
      rw [w1]
      exact Ev.step (fun k => rfl) (ev_pos (by omega) (ev_pos (by omega) (ev_pos (by omega) (ev_pos (by rw [r2]; exact c2) (ev_now rfl)))))
    by_cases c3 : s.toList = ([115, 116, 114, 117, 99, 116, 117, 114, 101] : List UInt8)
    · refine ⟨3, Ev.step (fun k => rfl) (ev_pos (by omega) (ev_pos (by omega) (ev_pos (by omega) (ev_neg (by rw [r0]; exact c0) ?_)))), by rw [if_neg c0, if_neg c1, if_neg c2, if_pos c3]; rfl⟩
      rw [w0]
      refine Ev.step (fun k => rfl) (ev_pos (by omega) (ev_pos (by omega) (ev_pos (by omega) (ev_neg (by rw [r1]; exact c1) ?_))))
      rw [w1]
      refine Ev.step (fun k => rfl) (ev_pos (by omega) (ev_pos (by omega) (ev_pos (by omega) (ev_neg (by rw [r2]; exact c2) ?_))))
      rw [w2]
      exact Ev.step (fun k => rfl) (ev_pos (by omega) (ev_pos (by omega) (ev_pos (by omega) (ev_pos (by rw [r3]; exact c3) (ev_now rfl)))))
    have step3 : ∀ v, Ev (fun k => slices_Index_string_string.l0 k K s (K.length : Int) 4) v → Ev (fun k => slices_Index_string_string.l0 k K s (K.length : Int) 0) v := by
      intro v hv
      refine Ev.step (fun k => rfl) (ev_pos (by omega) (ev_pos (by omega) (ev_pos (by omega) (ev_neg (by rw [r0]; exact c0) ?_))))
      rw [w0]
      refine Ev.step (fun k => rfl) (ev_pos (by omega) (ev_pos (by omega) (ev_pos (by omega) (ev_neg (by rw [r1]; exact c1) ?_))))
      rw [w1]
      refine Ev.step (fun k => rfl) (ev_pos (by omega) (ev_pos (by omega) (ev_pos (by omega) (ev_neg (by rw [r2]; exact c2) ?_))))
      rw [w2]
      refine Ev.step (fun k => rfl) (ev_pos (by omega) (ev_pos (by omega) (ev_pos (by omega) (ev_neg (by rw [r3]; exact c3) ?_))))
      rw [w3]
      exact hv
    by_cases c4 : s.toList = ([110, 97, 116, 117, 114, 97, 108] : List UInt8)
    · exact ⟨4, step3 _ (Ev.step (fun k => rfl) (ev_pos (by omega) (ev_pos (by omega) (ev_pos (by omega) (ev_pos (by rw [r4]; exact c4) (ev_now rfl)))))), by rw [if_neg c0, if_neg c1, if_neg c2, if_neg c3, if_pos c4]; rfl⟩
    · refine ⟨-1, step3 _ (Ev.step (fun k => rfl) (ev_pos (by omega) (ev_pos (by omega) (ev_pos (by omega) (ev_neg (by rw [r4]; exact c4) ?_))))), by rw [if_neg c0, if_neg c1, if_neg c2, if_neg c3, if_neg c4]; rfl⟩
      rw [w4]
      exact Ev.step (fun k => rfl) (ev_neg (by omega) (ev_now rfl))
  obtain ⟨v, h1, h2⟩ := go _ rfl
  rw [h2]
  unfold impl_ParseKind.f
  by_cases c : v < 1
  · rw [if_pos c]
    exact ⟨false, ev_bind0 rfl (Ev.bind h1 (ev_pos c (ev_now rfl)))⟩
  · rw [if_neg c]
    exact ⟨true, ev_bind0 rfl (Ev.bind h1 (ev_neg c (ev_now rfl)))⟩
def cpI (r : ByteArray) : ByteArray × Bool := (strings_CutPrefix.f r pLies).getD (⟨#[]⟩, false)
def wordI (r : ByteArray) : ByteArray := (((strings_TrimPrefix.f r (⟨#[105, 115, 32]⟩ : ByteArray)).bind fun t => strings_TrimPrefix.f t (⟨#[97, 32]⟩ : ByteArray))).getD ⟨#[]⟩
def addI (st : List Ctx × List Rel) (n : Int) (r : ByteArray) : List Ctx × List Rel := if (cpI r).2 = true then (st.1, st.2 ++ [⟨n, (parseE (cpI r).1).1⟩]) else (st.1 ++ [⟨n, kindN (wordI r)⟩], st.2)
def foldI (ns : List Int) (rs : List ByteArray) : Nat → List Ctx × List Rel
  | 0 => ([], [])
  | i + 1 => addI (foldI ns rs i) (ns.getD i 0) (rs.getD i ByteArray.empty)
theorem foldI_len (ns : List Int) (rs : List ByteArray) : ∀ i, (foldI ns rs i).1.length ≤ i ∧ (foldI ns rs i).2.length ≤ i
  | 0 => ⟨Nat.le_refl _, Nat.le_refl _⟩
  | i + 1 => by
    have h := foldI_len ns rs i
    unfold foldI addI
    split
    · exact ⟨by dsimp only; omega, by dsimp only; rw [List.length_append, List.length_singleton]; omega⟩
    · exact ⟨by dsimp only; rw [List.length_append, List.length_singleton]; omega, by dsimp only; omega⟩
def ToldR (cs : List Ctx) (rs : List Rel) (s : ByteArray) : Prop := recOk cs rs = true ∧ recText cs rs = s
theorem implRec_any (cs : List Ctx) (rs : List Rel) : ∃ t b, Ev (fun k => impl_RecordToEnglish.f k cs rs) (t, b) ∧ ∀ s, (b = true ∧ t = s) ↔ ToldR cs rs s := by
  have h2 := implRecord_ev cs rs
  cases hr : recOk cs rs
  · rw [hr] at h2
    exact ⟨⟨#[]⟩, false, Ev.bind h2 (ev_neg (by simp) (ev_now rfl)), fun s => ⟨fun e => absurd e.1 (by simp), fun e => absurd (hr ▸ e.1) (by simp)⟩⟩
  · rw [hr] at h2
    obtain ⟨a, b, c, d⟩ := recOk_spec hr
    exact ⟨recText cs rs, true, Ev.bind h2 (ev_pos rfl (implCtxText_ev cs rs (fun x hx => ⟨⟨by have := c x hx; omega, by have := c x hx; omega⟩, (c x hx).2⟩) a (fun x hx => ⟨⟨by have := d x hx; omega, by have := d x hx; omega⟩, ⟨by have := d x hx; omega, by have := d x hx; omega⟩⟩) b)), fun s => ⟨fun e => ⟨hr, e.2⟩, fun e => ⟨rfl, e.2⟩⟩⟩
theorem implRecLoop (s : ByteArray) (ns : List Int) (rs : List ByteArray) (hl : ns.length ≤ 5000) (hrl : rs.length = ns.length) (hs : ∀ r ∈ rs, r.size ≤ 4000) : ∃ b : Bool, Ev (fun k => impl_EnglishToRecord.l0 k s rs ns (ns.length : Int) 0 ([] : List Ctx) ([] : List Rel)) (if b = true then ((foldI ns rs ns.length).1, (foldI ns rs ns.length).2, true) else ([], [], false)) ∧ (b = true ↔ ToldR (foldI ns rs ns.length).1 (foldI ns rs ns.length).2 s) := by
  obtain ⟨t, b0, h1, h2⟩ := implRec_any (foldI ns rs ns.length).1 (foldI ns rs ns.length).2
  have hend : ∃ b : Bool, Ev (fun k => impl_EnglishToRecord.l0 k s rs ns (ns.length : Int) (ns.length : Int) (foldI ns rs ns.length).1 (foldI ns rs ns.length).2) (if b = true then ((foldI ns rs ns.length).1, (foldI ns rs ns.length).2, true) else ([], [], false)) ∧ (b = true ↔ ToldR (foldI ns rs ns.length).1 (foldI ns rs ns.length).2 s) := by
    by_cases c1 : b0 = true
    · by_cases c2 : t.toList = s.toList
      · exact ⟨true, Ev.step (fun k => rfl) (ev_neg (by omega) (Ev.bind h1 (ev_pos c1 (ev_pos c2 (ev_now rfl))))), ⟨fun _ => (h2 s).1 ⟨c1, ba_inj2 c2⟩, fun _ => rfl⟩⟩
      · exact ⟨false, Ev.step (fun k => rfl) (ev_neg (by omega) (Ev.bind h1 (ev_pos c1 (ev_neg c2 (ev_now rfl))))), ⟨fun e => (by cases e), fun e => absurd (by rw [((h2 s).2 e).2]) c2⟩⟩
    · exact ⟨false, Ev.step (fun k => rfl) (ev_neg (by omega) (Ev.bind h1 (ev_neg c1 (ev_now rfl)))), ⟨fun e => (by cases e), fun e => absurd ((h2 s).2 e).1 c1⟩⟩
  obtain ⟨b, g1, g2⟩ := hend
  refine ⟨b, ?_, g2⟩
  have h := ev_all (L := fun k (st : List Ctx × List Rel) i => impl_EnglishToRecord.l0 k s rs ns (ns.length : Int) i st.1 st.2) ns.length (foldI ns rs) (fun _ => true) (([] : List Ctx), ([] : List Rel), false) (if b = true then ((foldI ns rs ns.length).1, (foldI ns rs ns.length).2, true) else ([], [], false)) (fun _ => g1) ?h1 (fun i hi _ hc => nomatch hc)
  case h1 =>
    intro i hi _ _ y hy
    have hfl := foldI_len ns rs i
    have hi2 : i < rs.length := by omega
    have hr0 : rdOf ByteArray.empty rs (i : Int) = rs.getD i ByteArray.empty := by unfold rdOf; rw [Int.toNat_natCast]
    have hn0 : rd ns (i : Int) = ns.getD i 0 := rd_nat _ _
    have hrs : (rs.getD i ByteArray.empty).size ≤ 4000 := by rw [getD_in hi2]; exact hs _ (List.getElem_mem hi2)
    generalize hR : rs.getD i ByteArray.empty = R at hr0 hrs
    obtain ⟨t1, b1, e1, e1s⟩ := cutPre_any R pLies
    have hcp : cpI R = (t1, b1) := by unfold cpI; rw [e1]; rfl
    have hy2 : Ev (fun k => impl_EnglishToRecord.l0 k s rs ns (ns.length : Int) ((i + 1 : Nat) : Int) (addI (foldI ns rs i) (ns.getD i 0) R).1 (addI (foldI ns rs i) (ns.getD i 0) R).2) y := by
      have : foldI ns rs (i + 1) = addI (foldI ns rs i) (ns.getD i 0) R := by rw [foldI, hR]
      rw [← this]
      exact hy
    unfold addI at hy2
    rw [hcp] at hy2
    refine Ev.step (fun k => rfl) (ev_pos (by omega) (ev_pos (by omega) (ev_pos (by omega) (ev_pos (by omega) (ev_bind0 (by rw [hr0]; exact e1) ?_)))))
    by_cases c : b1 = true
    · rw [if_pos c] at hy2
      refine ev_pos c (ev_bind0 (parseInt_eq t1 (by omega)) (ev_pos (by omega) ?_))
      rw [wrap_succ hi (by omega), hn0]
      exact hy2
    · rw [if_neg c] at hy2
      obtain ⟨t2, e2, e2s⟩ := trimPre_any R (⟨#[105, 115, 32]⟩ : ByteArray)
      obtain ⟨t3, e3, e3s⟩ := trimPre_any t2 (⟨#[97, 32]⟩ : ByteArray)
      obtain ⟨b4, e4⟩ := parseKind_ev t3
      have hw : wordI R = t3 := by unfold wordI; rw [e2, Option.bind_some, e3]; rfl
      rw [hw] at hy2
      refine ev_neg c (ev_bind0 (by rw [hr0]; exact e2) (ev_bind0 e3 (Ev.bind e4 (ev_pos (by omega) ?_))))
      rw [wrap_succ hi (by omega), hn0]
      exact hy2
  rw [if_pos (by rw [all_range]; intro i hi; rfl)] at h
  exact h
end Go.Proofs.YtdekadogbpkdoaaGreatDoor.X
set_option linter.unusedVariables false
set_option linter.unusedSimpArgs false
namespace Go.Proofs.YtdekadogbpkdoaaGreatDoor.X
open Go.RowKit Go.Proofs.YtdekadogbpkdoaaGreatDoorW.PrintWords Go.Proofs.YtdekadogbpkdoaaGreatDoor.E
theorem ixb_no : ∀ (l : List UInt8) (c : UInt8), c ∉ l → Lib.indexByte l c = -1
  | [], _, _ => rfl
  | b :: l, c, h => by
    have hb : (b == c) = false := by rw [beq_eq_false_iff_ne]; intro e; subst e; exact h (List.mem_cons_self ..)
    rw [Lib.indexByte, hb, ixb_no l c (fun m => h (List.mem_cons_of_mem _ m))]
    rfl
theorem ixb_yes : ∀ (l r : List UInt8) (c : UInt8), c ∉ l → Lib.indexByte (l ++ c :: r) c = (l.length : Int)
  | [], r, c, _ => by simp [Lib.indexByte]
  | b :: l, r, c, h => by
    have hb : (b == c) = false := by rw [beq_eq_false_iff_ne]; intro e; subst e; exact h (List.mem_cons_self ..)
    rw [List.cons_append, Lib.indexByte, hb, ixb_yes l r c (fun m => h (List.mem_cons_of_mem _ m))]
    have : ((l.length : Int) == -1) = false := by rw [beq_eq_false_iff_ne]; omega
    rw [this]
    simp
theorem splitK_one (c : UInt8) : ∀ (k : Nat) (l : List UInt8), l.count c ≤ k → Lib.splitK [c] 0 k l = splitL c l := by
  intro k
  induction k with
  | zero =>
    intro l h
    have hn : c ∉ l := List.count_eq_zero.1 (by omega)
    rw [Lib.splitK, splitL_no hn]
  | succ k ih =>
    intro l h
    rw [Lib.splitK, Lib.index_one]
    by_cases hm : c ∈ l
    · obtain ⟨a, b, e, hn⟩ := List.eq_append_cons_of_mem hm
      subst e
      have hc : b.count c ≤ k := by
        rw [List.count_append, List.count_cons_self] at h
        omega
      have e0 : (((a.length : Int)) == -1) = false := by rw [beq_eq_false_iff_ne]; omega
      rw [ixb_yes a b c hn, e0, splitL_yes b hn, ← ih b hc]
      simp
    · rw [ixb_no l c hm, splitL_no hm]
      rfl
theorem splitB_one (s : ByteArray) (c : UInt8) : Lib.splitB (mkB [c]) 0 (Lib.countB s (mkB [c])) s = (splitL c s.data.toList).map mkB := by
  have h := Lib.splitB_data (mkB [c]) 0 (Lib.countB s (mkB [c])) s
  have hc : Lib.countB s (mkB [c]) = s.data.toList.count c := by
    show Lib.count s.data.toList (mkB [c]).data.toList = _
    rw [mkB_list, Lib.count_one]
  rw [mkB_list, hc, splitK_one c _ _ (Nat.le_refl _)] at h
  rw [← h, List.map_map, hc]
  symm
  exact (List.map_congr_left (g := id) (fun x _ => mkB_eta x)).trans (List.map_id _)
end Go.Proofs.YtdekadogbpkdoaaGreatDoor.X
set_option linter.unusedVariables false
set_option linter.unusedSimpArgs false
namespace Go.Proofs.YtdekadogbpkdoaaGreatDoor.X
open Go.RowKit Go.Proofs.YtdekadogbpkdoaaGreatDoorW.PrintWords Go.Proofs.YtdekadogbpkdoaaGreatDoor.E
theorem splitL_len (c : UInt8) : ∀ l : List UInt8, (splitL c l).length ≤ l.length + 1
  | [] => by simp [splitL]
  | b :: l => by
    have h := splitL_len c l
    have hn := splitL_ne c l
    unfold splitL
    split
    · simp only [List.length_cons]; omega
    · unfold consH
      split
      · simp
      · rename_i hd tl e
        rw [e] at h
        simp only [List.length_cons] at h ⊢
        omega
theorem splitL_mem (c : UInt8) : ∀ l : List UInt8, ∀ p ∈ splitL c l, p.length ≤ l.length
  | [], p, hp => by simp [splitL] at hp; simp [hp]
  | b :: l, p, hp => by
    have h := splitL_mem c l
    unfold splitL at hp
    split at hp
    · rcases List.mem_cons.1 hp with rfl | hp
      · simp
      · have := h p hp; rw [List.length_cons]; omega
    · unfold consH at hp
      split at hp
      · rcases List.mem_cons.1 hp with rfl | hp
        · simp
        · simp at hp
      · rename_i hd tl e
        rw [e] at h
        rcases List.mem_cons.1 hp with rfl | hp
        · have := h hd List.mem_cons_self; simp only [List.length_cons]; omega
        · have := h p (List.mem_cons_of_mem _ hp); rw [List.length_cons]; omega
def pieces (c : UInt8) (s : ByteArray) : List ByteArray := (splitL c s.data.toList).map mkB
theorem pieces_len (c : UInt8) (s : ByteArray) : (pieces c s).length ≤ s.size + 1 := by
  have hs : s.data.toList.length = s.size := Array.length_toList
  unfold pieces
  rw [List.length_map]
  have := splitL_len c s.data.toList
  omega
theorem pieces_mem (c : UInt8) (s : ByteArray) : ∀ w ∈ pieces c s, w.size ≤ s.size := by
  have hs : s.data.toList.length = s.size := Array.length_toList
  intro w hw
  unfold pieces at hw
  obtain ⟨p, hp, rfl⟩ := List.mem_map.1 hw
  have := splitL_mem c _ p hp
  rw [mkB_size]
  omega
theorem pieces_ne (c : UInt8) (s : ByteArray) : 1 ≤ (pieces c s).length := by
  unfold pieces
  rw [List.length_map]
  have := splitL_ne c s.data.toList
  rcases h : splitL c s.data.toList with _ | ⟨x, r⟩
  · exact absurd h this
  · simp
theorem split_f (s : ByteArray) (c : UInt8) (h : s.size ≤ 4000) : strings_Split.f s (mkB [c]) = some (pieces c s) := by
  have hc : Lib.countB s (mkB [c]) = s.data.toList.count c := by
    show Lib.count s.data.toList (mkB [c]).data.toList = _
    rw [mkB_list, Lib.count_one]
  have hl : s.data.toList.count c ≤ s.data.toList.length := List.count_le_length
  have hs : s.data.toList.length = s.size := Array.length_toList
  unfold strings_Split.f
  rw [if_pos ⟨⟨by omega, by rw [mkB_size]; simp⟩, by rw [hc]; omega⟩, splitB_one]
  rfl
end Go.Proofs.YtdekadogbpkdoaaGreatDoor.X
set_option linter.unusedVariables false
set_option linter.unusedSimpArgs false
namespace Go.Proofs.YtdekadogbpkdoaaGreatDoor.X
open Go.RowKit Go.Proofs.YtdekadogbpkdoaaGreatDoorW.PrintWords Go.Proofs.YtdekadogbpkdoaaGreatDoor.E
def jw (ws : List ByteArray) : Nat → ByteArray
  | 0 => (⟨#[]⟩ : ByteArray)
  | i + 1 => if i = 0 then jw ws i ++ ws.getD (2 + i) ByteArray.empty else (jw ws i ++ (⟨#[32]⟩ : ByteArray)) ++ ws.getD (2 + i) ByteArray.empty
theorem sp1 : (⟨#[32]⟩ : ByteArray).size = 1 := rfl
theorem jw_size (ws : List ByteArray) (hs : ∀ w ∈ ws, w.size ≤ 4000) : ∀ i, 2 + i ≤ ws.length → (jw ws i).size ≤ 4001 * i
  | 0, _ => Nat.zero_le _
  | i + 1, h => by
    have ih := jw_size ws hs i (by omega)
    have hw : (ws.getD (2 + i) ByteArray.empty).size ≤ 4000 := by rw [getD_in (by omega)]; exact hs _ (List.getElem_mem _)
    unfold jw
    split
    · rw [ByteArray.size_append]; omega
    · rw [ByteArray.size_append, ByteArray.size_append, sp1]; omega
theorem words_ev (ws : List ByteArray) (hl : 2 ≤ ws.length) (hl2 : ws.length ≤ 5000) (hs : ∀ w ∈ ws, w.size ≤ 4000) : Ev (fun k => spec_l25Words.f k ws 2 (ws.length : Int)) (jw ws (ws.length - 2)) := by
  have hat : ∀ i, rdOf ByteArray.empty ws ((i : Nat) : Int) = ws.getD i ByteArray.empty := by intro i; unfold rdOf; rw [Int.toNat_natCast]
  have go : ∀ (n i : Nat), ws.length - 2 - i = n → 2 + i ≤ ws.length → Ev (fun k => spec_l25Words.l0 k ws 2 (ws.length : Int) (jw ws i) ((2 + i : Nat) : Int)) (jw ws (ws.length - 2)) := by
    intro n
    induction n with
    | zero =>
      intro i hn hi
      obtain rfl : i = ws.length - 2 := by omega
      exact Ev.step (fun k => rfl) (ev_neg (by omega) (ev_now rfl))
    | succ n ih =>
      intro i hn hi
      have hz := jw_size ws hs i hi
      have hw : (ws.getD (2 + i) ByteArray.empty).size ≤ 4000 := by rw [getD_in (by omega)]; exact hs _ (List.getElem_mem _)
      have h := ih (i + 1) (by omega) (by omega)
      refine Ev.step (fun k => rfl) (ev_pos (by omega) ?_)
      by_cases c : i = 0
      · have e : jw ws (i + 1) = jw ws i ++ rdOf ByteArray.empty ws ((2 + i : Nat) : Int) := by rw [hat, jw, if_pos c]
        refine ev_neg (by omega) (ev_pos (by omega) (ev_pos (by omega) (ev_pos (by rw [hat]; omega) ?_)))
        rw [wrap_succ (show 2 + i < ws.length by omega) (by omega), ← e]
        exact h
      · have e : jw ws (i + 1) = (jw ws i ++ (⟨#[32]⟩ : ByteArray)) ++ rdOf ByteArray.empty ws ((2 + i : Nat) : Int) := by rw [hat, jw, if_neg c]
        refine ev_pos (by omega) (ev_pos (by omega) (ev_pos (by omega) (ev_pos (by omega) (ev_pos (by rw [hat, ByteArray.size_append, sp1]; omega) ?_))))
        rw [wrap_succ (show 2 + i < ws.length by omega) (by omega), ← e]
        exact h
  exact go _ 0 rfl hl
def kindS (t : ByteArray) : Int := if tlK 1 = t.toList then 1 else if tlK 2 = t.toList then 2 else if tlK 3 = t.toList then 3 else if tlK 4 = t.toList then 4 else 0
theorem kind_ev (t : ByteArray) : Ev (fun k => spec_l25Kind.f k t) (kindS t) := by
  have go : ∀ (K : List ByteArray), K = [(⟨#[]⟩ : ByteArray), (⟨#[105, 115, 32, 97, 32, 100, 101, 112, 111, 115, 105, 116, 46]⟩ : ByteArray), (⟨#[105, 115, 32, 97, 32, 99, 117, 116, 46]⟩ : ByteArray), (⟨#[105, 115, 32, 97, 32, 115, 116, 114, 117, 99, 116, 117, 114, 101, 46]⟩ : ByteArray), (⟨#[105, 115, 32, 110, 97, 116, 117, 114, 97, 108, 46]⟩ : ByteArray)] → Ev (fun k => spec_l25Kind.l0 k t K 1) (kindS t) := by
    intro K hK
    have hl : K.length = 5 := by rw [hK]; rfl
    have r1 : (rdOf ByteArray.empty K 1).toList = tlK 1 := by rw [hK]; exact lst _
    have r2 : (rdOf ByteArray.empty K 2).toList = tlK 2 := by rw [hK]; exact lst _
    have r3 : (rdOf ByteArray.empty K 3).toList = tlK 3 := by rw [hK]; exact lst _
    have r4 : (rdOf ByteArray.empty K 4).toList = tlK 4 := by rw [hK]; exact lst _
    have w1 : wrap64 ((1 : Int) + 1) = 2 := by rw [wrap_id (by omega) (by omega)]; rfl
    have w2 : wrap64 ((2 : Int) + 1) = 3 := by rw [wrap_id (by omega) (by omega)]; rfl
    have w3 : wrap64 ((3 : Int) + 1) = 4 := by rw [wrap_id (by omega) (by omega)]; rfl
    have w4 : wrap64 ((4 : Int) + 1) = 5 := by rw [wrap_id (by omega) (by omega)]; rfl
    unfold kindS
    by_cases c1 : tlK 1 = t.toList
    · rw [if_pos c1]
      exact Ev.step (fun k => rfl) (ev_pos (by omega) (ev_pos (by omega) (ev_pos (by rw [r1]; exact c1) (ev_now rfl))))
    rw [if_neg c1]
    refine Ev.step (fun k => rfl) (ev_pos (by omega) (ev_pos (by omega) (ev_neg (by rw [r1]; exact c1) ?_)))
    rw [w1]
    by_cases c2 : tlK 2 = t.toList
    · rw [if_pos c2]
      exact Ev.step (fun k => rfl) (ev_pos (by omega) (ev_pos (by omega) (ev_pos (by rw [r2]; exact c2) (ev_now rfl))))
    rw [if_neg c2]
    refine Ev.step (fun k => rfl) (ev_pos (by omega) (ev_pos (by omega) (ev_neg (by rw [r2]; exact c2) ?_)))
    rw [w2]
    by_cases c3 : tlK 3 = t.toList
    · rw [if_pos c3]
      exact Ev.step (fun k => rfl) (ev_pos (by omega) (ev_pos (by omega) (ev_pos (by rw [r3]; exact c3) (ev_now rfl))))
    rw [if_neg c3]
    refine Ev.step (fun k => rfl) (ev_pos (by omega) (ev_pos (by omega) (ev_neg (by rw [r3]; exact c3) ?_)))
    rw [w3]
    by_cases c4 : tlK 4 = t.toList
    · rw [if_pos c4]
      exact Ev.step (fun k => rfl) (ev_pos (by omega) (ev_pos (by omega) (ev_pos (by rw [r4]; exact c4) (ev_now rfl))))
    rw [if_neg c4]
    refine Ev.step (fun k => rfl) (ev_pos (by omega) (ev_pos (by omega) (ev_neg (by rw [r4]; exact c4) ?_)))
    rw [w4]
    exact Ev.step (fun k => rfl) (ev_neg (by omega) (ev_now rfl))
  unfold spec_l25Kind.f
  exact ev_bind0 rfl (go _ rfl)
def nS (l : ByteArray) : Int × Bool := parseE ((pieces 32 l).getD 1 ByteArray.empty)
def kS (l : ByteArray) : Int := kindS (jw (pieces 32 l) ((pieces 32 l).length - 2))
def lastS (l : ByteArray) : ByteArray := (pieces 32 l).getD ((pieces 32 l).length - 1) ByteArray.empty
def mS (l : ByteArray) : Int × Bool := parseE ((lastS l).extract 0 ((lastS l).size - 1))
def okS (l : ByteArray) : Bool := decide (4 ≤ (pieces 32 l).length) && ((nS l).2 && (decide (0 < kS l) || (decide ((lastS l).toList ≠ []) && (mS l).2)))
def addS (st : List Ctx × List Rel) (l : ByteArray) : List Ctx × List Rel := if 0 < kS l then (st.1 ++ [⟨(nS l).1, kS l⟩], st.2) else (st.1, st.2 ++ [⟨(nS l).1, (mS l).1⟩])
def foldS (P : List ByteArray) (i : Nat) : List Ctx × List Rel := (P.take i).foldl addS ([], [])
theorem foldS_succ (P : List ByteArray) (i : Nat) (hi : i < P.length) : foldS P (i + 1) = addS (foldS P i) P[i] := by
  unfold foldS
  rw [List.take_succ_eq_append_getElem hi, List.foldl_append]
  rfl
theorem foldS_len (P : List ByteArray) : ∀ i, i ≤ P.length → (foldS P i).1.length ≤ i ∧ (foldS P i).2.length ≤ i
  | 0, _ => ⟨Nat.le_refl _, Nat.le_refl _⟩
  | i + 1, hi => by
    have h := foldS_len P i (by omega)
    rw [foldS_succ P i (by omega)]
    unfold addS
    split
    · exact ⟨by dsimp only; rw [List.length_append, List.length_singleton]; omega, by dsimp only; omega⟩
    · exact ⟨by dsimp only; omega, by dsimp only; rw [List.length_append, List.length_singleton]; omega⟩
theorem specRecLoop (s : ByteArray) (P : List ByteArray) (h1 : 1 ≤ P.length) (hl : P.length ≤ 5000) (hs : ∀ l ∈ P, l.size ≤ 4000) : ∃ b : Bool, Ev (fun k => spec_EnglishToRecord.l0 k s P 0 ([] : List Ctx) ([] : List Rel)) (if b = true then ((foldS P (P.length - 1)).1, (foldS P (P.length - 1)).2, true) else ([], [], false)) ∧ (b = true ↔ ((∀ i, i < P.length - 1 → okS (P.getD i ByteArray.empty) = true) ∧ ToldR (foldS P (P.length - 1)).1 (foldS P (P.length - 1)).2 s)) := by
  have hw : wrap64 ((P.length : Int) - 1) = ((P.length - 1 : Nat) : Int) := wrap_pred (by omega) (by omega)
  have hend : ∃ b : Bool, Ev (fun k => spec_EnglishToRecord.l0 k s P ((P.length - 1 : Nat) : Int) (foldS P (P.length - 1)).1 (foldS P (P.length - 1)).2) (if b = true then ((foldS P (P.length - 1)).1, (foldS P (P.length - 1)).2, true) else ([], [], false)) ∧ (b = true ↔ ToldR (foldS P (P.length - 1)).1 (foldS P (P.length - 1)).2 s) := by
    generalize (foldS P (P.length - 1)).1 = cs
    generalize (foldS P (P.length - 1)).2 = rs
    have h2 := specRecord_ev cs rs
    cases hr : recOk cs rs
    · rw [hr] at h2
      exact ⟨false, Ev.step (fun k => rfl) (ev_neg (by rw [hw]; omega) (Ev.bind h2 (ev_neg (by simp) (ev_now rfl)))), ⟨fun e => (by cases e), fun e => absurd (hr ▸ e.1) (by simp)⟩⟩
    · rw [hr] at h2
      obtain ⟨a, b, c, d⟩ := recOk_spec hr
      have h3 := specCtxText_ev cs rs c a d b
      by_cases c2 : (recText cs rs).toList = s.toList
      · exact ⟨true, Ev.step (fun k => rfl) (ev_neg (by rw [hw]; omega) (Ev.bind h2 (ev_pos rfl (Ev.bind h3 (ev_pos c2 (ev_now rfl)))))), ⟨fun _ => ⟨hr, ba_inj2 c2⟩, fun _ => rfl⟩⟩
      · exact ⟨false, Ev.step (fun k => rfl) (ev_neg (by rw [hw]; omega) (Ev.bind h2 (ev_pos rfl (Ev.bind h3 (ev_neg c2 (ev_now rfl)))))), ⟨fun e => (by cases e), fun e => absurd (by rw [e.2]) c2⟩⟩
  obtain ⟨b, g1, g2⟩ := hend
  have key : ∀ i (hi : i < P.length - 1), ∃ (W : List ByteArray), W = pieces 32 P[i] ∧ Ev (fun k => spec_l1Split.f k (rdOf ByteArray.empty P (i : Int)) 32) W ∧ W.length ≤ 4001 ∧ ∀ w ∈ W, w.size ≤ 4000 := by
    intro i hi
    have hsz := hs _ (List.getElem_mem (show i < P.length by omega))
    have e : rdOf ByteArray.empty P (i : Int) = P[i] := by unfold rdOf; rw [Int.toNat_natCast, getD_in (by omega)]
    refine ⟨_, rfl, by rw [e]; exact l1Split_ev _ 32 (by omega) 32 rfl, ?_, ?_⟩
    · have := pieces_len 32 P[i]; omega
    · intro w hw
      have := pieces_mem 32 P[i] w hw
      omega
  have main := ev_all (L := fun k (st : List Ctx × List Rel) i => spec_EnglishToRecord.l0 k s P i st.1 st.2) (P.length - 1) (foldS P) (fun i => okS (P.getD i ByteArray.empty)) (([] : List Ctx), ([] : List Rel), false) (if b = true then ((foldS P (P.length - 1)).1, (foldS P (P.length - 1)).2, true) else ([], [], false)) (fun _ => g1) ?h1 ?h2
  case h1 =>
    intro i hi _ hc y hy
    have hfl := foldS_len P i (by omega)
    rw [foldS_succ P i (by omega)] at hy
    rw [getD_in (by omega)] at hc
    obtain ⟨W, hW, e1, hWl, hWs⟩ := key i hi
    unfold okS at hc
    simp only [Bool.and_eq_true, decide_eq_true_eq] at hc
    obtain ⟨c4, cn, ck⟩ := hc
    have hnS : nS P[i] = parseE (rdOf ByteArray.empty W 1) := by unfold nS; rw [← hW]; rfl
    have hkS : kS P[i] = kindS (jw W (W.length - 2)) := by unfold kS; rw [← hW]
    have hla : lastS P[i] = rdOf ByteArray.empty W ((W.length - 1 : Nat) : Int) := by unfold lastS rdOf; rw [← hW, Int.toNat_natCast]
    rw [← hW] at c4
    have hwl : wrap64 ((W.length : Int) - 1) = ((W.length - 1 : Nat) : Int) := wrap_pred (by omega) (by omega)
    refine Ev.step (fun k => rfl) (ev_pos (by rw [hw]; omega) (ev_pos (by omega) (ev_pos (by omega) (Ev.bind e1 (ev_neg (by omega) (ev_pos (by omega) (Ev.bind (l1Read_ev _) (Ev.bind (words_ev W (by omega) (by omega) hWs) (Ev.bind (kind_ev _) (ev_pos (by rw [← hnS]; exact cn) ?_))))))))))
    unfold addS at hy
    by_cases k0 : 0 < kS P[i]
    · rw [if_pos k0, hnS, hkS] at hy
      refine ev_pos (by rw [← hkS]; exact k0) (ev_pos (by omega) ?_)
      rw [wrap_succ (show i < P.length by omega) (by omega)]
      exact hy
    · rw [if_neg k0] at hy
      have ck2 : (lastS P[i]).toList ≠ [] ∧ (mS P[i]).2 = true := by
        rcases Bool.or_eq_true_iff.1 ck with h | h
        · exact absurd (of_decide_eq_true h) k0
        · rw [Bool.and_eq_true, decide_eq_true_eq] at h
          exact h
      have hlz : 1 ≤ (lastS P[i]).size := by
        rcases Nat.eq_zero_or_pos (lastS P[i]).size with h | h
        · exact absurd (by rw [Lib.toList_data]; exact List.eq_nil_of_length_eq_zero (by rw [Array.length_toList]; exact h)) ck2.1
        · exact h
      have hls : (lastS P[i]).size ≤ 4000 := by
        rw [hla]
        unfold rdOf
        rw [Int.toNat_natCast, getD_in (by omega)]
        exact hWs _ (List.getElem_mem _)
      have hwz : wrap64 (((lastS P[i]).size : Int) - 1) = (((lastS P[i]).size - 1 : Nat) : Int) := wrap_pred (by omega) (by omega)
      have hm : mS P[i] = parseE ((lastS P[i]).extract 0 (wrap64 (((lastS P[i]).size : Int) - 1)).toNat) := by unfold mS; rw [hwz, Int.toNat_natCast]
      rw [hnS, hm, hla, ← hwl] at hy
      rw [hm, hla, ← hwl] at ck2
      rw [hla, ← hwl] at hwz hlz hls
      refine ev_neg (by rw [← hkS]; exact k0) (ev_pos (by rw [hwl]; omega) (ev_pos (by rw [hwl]; omega) (ev_neg ck2.1 (ev_pos (by rw [hwz]; omega) (ev_pos (by rw [hwz]; omega) (Ev.bind (l1Read_ev _) (ev_pos ck2.2 (ev_pos (by omega) ?_))))))))
      rw [wrap_succ (show i < P.length by omega) (by omega)]
      exact hy
  case h2 =>
    intro i hi _ hc
    rw [getD_in (by omega)] at hc
    obtain ⟨W, hW, e1, hWl, hWs⟩ := key i hi
    have hnS : nS P[i] = parseE (rdOf ByteArray.empty W 1) := by unfold nS; rw [← hW]; rfl
    have hkS : kS P[i] = kindS (jw W (W.length - 2)) := by unfold kS; rw [← hW]
    have hla : lastS P[i] = rdOf ByteArray.empty W ((W.length - 1 : Nat) : Int) := by unfold lastS rdOf; rw [← hW, Int.toNat_natCast]
    refine Ev.step (fun k => rfl) (ev_pos (by rw [hw]; omega) (ev_pos (by omega) (ev_pos (by omega) (Ev.bind e1 ?_))))
    by_cases c4 : 4 ≤ W.length
    · have hwl : wrap64 ((W.length : Int) - 1) = ((W.length - 1 : Nat) : Int) := wrap_pred (by omega) (by omega)
      refine ev_neg (by omega) (ev_pos (by omega) (Ev.bind (l1Read_ev _) (Ev.bind (words_ev W (by omega) (by omega) hWs) (Ev.bind (kind_ev _) ?_))))
      by_cases cn : (nS P[i]).2 = true
      · refine ev_pos (by rw [← hnS]; exact cn) ?_
        have hc' : ¬ (0 < kS P[i]) ∧ ((lastS P[i]).toList = [] ∨ (mS P[i]).2 = false) := by
          unfold okS at hc
          rw [← hW, cn, Bool.true_and] at hc
          rw [show decide (4 ≤ W.length) = true from decide_eq_true c4, Bool.true_and, Bool.or_eq_false_iff, decide_eq_false_iff_not] at hc
          refine ⟨hc.1, ?_⟩
          rcases Bool.and_eq_false_iff.1 hc.2 with h | h
          · exact .inl (Decidable.not_not.1 (of_decide_eq_false h))
          · exact .inr h
        obtain ⟨k0, hlm⟩ := hc'
        refine ev_neg (by rw [← hkS]; exact k0) (ev_pos (by rw [hwl]; omega) (ev_pos (by rw [hwl]; omega) ?_))
        by_cases cl : (lastS P[i]).toList = []
        · exact ev_pos (by rw [hwl, ← hla]; exact cl) (ev_now rfl)
        · have hmf : (mS P[i]).2 = false := by
            rcases hlm with h | h
            · exact absurd h cl
            · exact h
          have hlz : 1 ≤ (lastS P[i]).size := by
            rcases Nat.eq_zero_or_pos (lastS P[i]).size with h | h
            · exact absurd (by rw [Lib.toList_data]; exact List.eq_nil_of_length_eq_zero (by rw [Array.length_toList]; exact h)) cl
            · exact h
          have hls : (lastS P[i]).size ≤ 4000 := by
            rw [hla]
            unfold rdOf
            rw [Int.toNat_natCast, getD_in (by omega)]
            exact hWs _ (List.getElem_mem _)
          have hwz : wrap64 (((lastS P[i]).size : Int) - 1) = (((lastS P[i]).size - 1 : Nat) : Int) := wrap_pred (by omega) (by omega)
          have hm : mS P[i] = parseE ((lastS P[i]).extract 0 (wrap64 (((lastS P[i]).size : Int) - 1)).toNat) := by unfold mS; rw [hwz, Int.toNat_natCast]
          rw [hm, hla, ← hwl] at hmf
          rw [hla, ← hwl] at hwz hlz hls cl
          exact ev_neg cl (ev_pos (by rw [hwz]; omega) (ev_pos (by rw [hwz]; omega) (Ev.bind (l1Read_ev _) (ev_neg (by rw [hmf]; simp) (ev_now rfl)))))
      · exact ev_neg (by rw [← hnS]; exact cn) (ev_now rfl)
    · exact ev_pos (by omega) (ev_now rfl)
  by_cases hall : (List.range (P.length - 1)).all (fun i => okS (P.getD i ByteArray.empty)) = true
  · rw [if_pos hall] at main
    exact ⟨b, main, ⟨fun e => ⟨fun i hi => all_range.1 hall i hi, g2.1 e⟩, fun e => g2.2 e.2⟩⟩
  · rw [if_neg hall] at main
    exact ⟨false, main, ⟨fun e => (by cases e), fun e => absurd (all_range.2 e.1) hall⟩⟩
end Go.Proofs.YtdekadogbpkdoaaGreatDoor.X
set_option linter.unusedVariables false
set_option linter.unusedSimpArgs false
namespace Go.Proofs.YtdekadogbpkdoaaGreatDoor.X
open Go.RowKit Go.Proofs.YtdekadogbpkdoaaGreatDoorW.PrintWords Go.Proofs.YtdekadogbpkdoaaGreatDoor.E
theorem mkB_lst (l : List UInt8) : (mkB l).toList = l := by rw [Lib.toList_data, mkB_list]
theorem lnI_mk (n t : List UInt8) (h : (32 : UInt8) ∉ n) (hs : n.length + t.length ≤ 900) : lnI (mkB (wC ++ 32 :: (n ++ 32 :: (t ++ [46])))) = (mkB n, mkB t, true, true) := by
  have e1 : mkB (wC ++ 32 :: (n ++ 32 :: (t ++ [46]))) = mkB (wC ++ 32 :: (n ++ 32 :: t)) ++ (⟨#[46]⟩ : ByteArray) := by
    show _ = mkB _ ++ mkB [46]
    rw [mkB_app]
    congr 1
    simp
  have e2 : mkB (wC ++ 32 :: (n ++ 32 :: t)) = (⟨#[67, 111, 110, 116, 101, 120, 116, 32]⟩ : ByteArray) ++ mkB (n ++ 32 :: t) := by
    show _ = mkB [67, 111, 110, 116, 101, 120, 116, 32] ++ mkB _
    rw [mkB_app]
    congr 1
  have hz : (mkB (wC ++ 32 :: (n ++ 32 :: t))).size + (⟨#[46]⟩ : ByteArray).size ≤ 4611686018427387904 := by
    rw [mkB_size, sz1]
    simp only [List.length_append, List.length_cons]
    have : wC.length = 7 := rfl
    omega
  have h1 : strings_TrimSuffix.f (mkB (wC ++ 32 :: (n ++ 32 :: (t ++ [46])))) (⟨#[46]⟩ : ByteArray) = some (mkB (wC ++ 32 :: (n ++ 32 :: t))) := by rw [e1]; exact trimSuf_yes _ _ hz
  have h2 : strings_CutPrefix.f (mkB (wC ++ 32 :: (n ++ 32 :: t))) (⟨#[67, 111, 110, 116, 101, 120, 116, 32]⟩ : ByteArray) = some (mkB (n ++ 32 :: t), true) := by rw [e2]; exact cutPre_yes _ _
  unfold lnI lineI
  rw [h1, Option.bind_some, h2, Option.bind_some, cut_sp n t h (by omega)]
  rfl
def tK (k : Int) : List UInt8 := if k = 1 then [105, 115, 32, 97, 32, 100, 101, 112, 111, 115, 105, 116] else if k = 2 then [105, 115, 32, 97, 32, 99, 117, 116] else if k = 3 then [105, 115, 32, 97, 32, 115, 116, 114, 117, 99, 116, 117, 114, 101] else [105, 115, 32, 110, 97, 116, 117, 114, 97, 108]
theorem tK_eq {k : Int} (h : 1 ≤ k ∧ k ≤ 4) : tlK k = tK k ++ [46] := by
  rcases k4 h with rfl | rfl | rfl | rfl <;> rfl
theorem tK_len (k : Int) : (tK k).length ≤ 14 := by
  unfold tK
  split
  · decide
  · split
    · decide
    · split
      · decide
      · decide
theorem tK_head (k : Int) : ∃ r, tK k = 105 :: r := by
  unfold tK
  split
  · exact ⟨_, rfl⟩
  · split
    · exact ⟨_, rfl⟩
    · split
      · exact ⟨_, rfl⟩
      · exact ⟨_, rfl⟩
theorem cpI_ctx (k : Int) : cpI (mkB (tK k)) = (mkB (tK k), false) := by
  have h : ∀ t, mkB (tK k) ≠ pLies ++ t := by
    intro t e
    obtain ⟨r, hr⟩ := tK_head k
    have e2 := congrArg (fun x : ByteArray => x.data.toList) e
    simp only [mkB_list, ByteArray.data_append, Array.toList_append] at e2
    rw [hr] at e2
    have := congrArg List.head? e2
    rw [List.head?_cons] at this
    exact absurd (Option.some.inj this) (by decide)
  unfold cpI
  rw [cutPre_no _ _ h]
  rfl
theorem wordI_ctx {k : Int} (h : 1 ≤ k ∧ k ≤ 4) : kindN (wordI (mkB (tK k))) = k := by
  have pre : ∀ (p q : List UInt8), strings_TrimPrefix.f (mkB (p ++ q)) (mkB p) = some (mkB q) := by
    intro p q
    rw [← mkB_app]
    exact trimPre_yes _ _
  have two : ∀ q : List UInt8, wordI (mkB ([105, 115, 32] ++ ([97, 32] ++ q))) = mkB q := by
    intro q
    unfold wordI
    have h1 := pre [105, 115, 32] ([97, 32] ++ q)
    have h2 := pre [97, 32] q
    rw [show (⟨#[105, 115, 32]⟩ : ByteArray) = mkB [105, 115, 32] from rfl, h1, Option.bind_some, show (⟨#[97, 32]⟩ : ByteArray) = mkB [97, 32] from rfl, h2]
    rfl
  rcases k4 h with rfl | rfl | rfl | rfl
  · rw [show tK 1 = [105, 115, 32] ++ ([97, 32] ++ [100, 101, 112, 111, 115, 105, 116]) from rfl, two]
    unfold kindN
    rw [mkB_lst]
    rfl
  · rw [show tK 2 = [105, 115, 32] ++ ([97, 32] ++ [99, 117, 116]) from rfl, two]
    unfold kindN
    rw [mkB_lst]
    rfl
  · rw [show tK 3 = [105, 115, 32] ++ ([97, 32] ++ [115, 116, 114, 117, 99, 116, 117, 114, 101]) from rfl, two]
    unfold kindN
    rw [mkB_lst]
    rfl
  · have h1 := pre [105, 115, 32] [110, 97, 116, 117, 114, 97, 108]
    have h2 : strings_TrimPrefix.f (mkB [110, 97, 116, 117, 114, 97, 108]) (⟨#[97, 32]⟩ : ByteArray) = some (mkB [110, 97, 116, 117, 114, 97, 108]) := by
      refine trimPre_no _ _ (fun t e => ?_)
      have e2 := congrArg (fun x : ByteArray => x.data.toList) e
      simp only [mkB_list, ByteArray.data_append, Array.toList_append] at e2
      have := congrArg List.head? e2
      exact absurd (Option.some.inj this) (by decide)
    have h3 : wordI (mkB (tK 4)) = mkB [110, 97, 116, 117, 114, 97, 108] := by
      unfold wordI
      rw [show tK 4 = [105, 115, 32] ++ [110, 97, 116, 117, 114, 97, 108] from rfl, show (⟨#[105, 115, 32]⟩ : ByteArray) = mkB [105, 115, 32] from rfl, h1, Option.bind_some, h2]
      rfl
    rw [h3]
    unfold kindN
    rw [mkB_lst]
    rfl
theorem itoa_len {v : Int} (h : 1 ≤ v ∧ v ≤ 999) : (Lib.itoa v).length ≤ 21 := numB_size v (by omega) (by omega)
theorem ctx_lnI (x : Ctx) (h0 : 1 ≤ x.f0 ∧ x.f0 ≤ 999) (h1 : 1 ≤ x.f1 ∧ x.f1 ≤ 4) : lnI (ctxLine x) = (numB x.f0, mkB (tK x.f1), true, true) := by
  have := itoa_len h0
  have := tK_len x.f1
  rw [ctx_mk x h1, tK_eq h1]
  exact lnI_mk _ _ (itoa_nosp _) (by omega)
def tR (m : Int) : List UInt8 := [108, 105, 101, 115, 32, 97, 98, 111, 118, 101, 32, 99, 111, 110, 116, 101, 120, 116, 32] ++ Lib.itoa m
theorem tR_eq (m : Int) : tlR m = tR m ++ [46] := by unfold tlR tR; simp
theorem rel_lnI (x : Rel) (h0 : 1 ≤ x.f0 ∧ x.f0 ≤ 999) (h1 : 1 ≤ x.f1 ∧ x.f1 ≤ 999) : lnI (relLine x) = (numB x.f0, mkB (tR x.f1), true, true) := by
  have := itoa_len h0
  have h2 := itoa_len h1
  have h3 : (tR x.f1).length ≤ 40 := by unfold tR; rw [List.length_append]; have : ([108, 105, 101, 115, 32, 97, 98, 111, 118, 101, 32, 99, 111, 110, 116, 101, 120, 116, 32] : List UInt8).length = 19 := rfl; omega
  rw [rel_mk x, tR_eq]
  exact lnI_mk _ _ (itoa_nosp _) (by omega)
theorem cpI_rel (m : Int) : cpI (mkB (tR m)) = (numB m, true) := by
  have e : mkB (tR m) = pLies ++ numB m := by
    show _ = mkB [108, 105, 101, 115, 32, 97, 98, 111, 118, 101, 32, 99, 111, 110, 116, 101, 120, 116, 32] ++ mkB (Lib.itoa m)
    rw [mkB_app]
    rfl
  unfold cpI
  rw [e, cutPre_yes]
  rfl
def addL (st : List Ctx × List Rel) (l : ByteArray) : List Ctx × List Rel := addI st (numI l) (restI l)
theorem addL_ctx (st : List Ctx × List Rel) (x : Ctx) (h0 : 1 ≤ x.f0 ∧ x.f0 ≤ 999) (h1 : 1 ≤ x.f1 ∧ x.f1 ≤ 4) : okI (ctxLine x) = true ∧ addL st (ctxLine x) = (st.1 ++ [x], st.2) := by
  have h := ctx_lnI x h0 h1
  refine ⟨by unfold okI; rw [h]; rfl, ?_⟩
  unfold addL addI numI restI
  rw [h]
  dsimp only
  rw [cpI_ctx, if_neg (by simp), parse_num (by omega) (by omega), wordI_ctx h1]
theorem addL_rel (st : List Ctx × List Rel) (x : Rel) (h0 : 1 ≤ x.f0 ∧ x.f0 ≤ 999) (h1 : 1 ≤ x.f1 ∧ x.f1 ≤ 999) : okI (relLine x) = true ∧ addL st (relLine x) = (st.1, st.2 ++ [x]) := by
  have h := rel_lnI x h0 h1
  refine ⟨by unfold okI; rw [h]; rfl, ?_⟩
  unfold addL addI numI restI
  rw [h]
  dsimp only
  rw [cpI_rel, if_pos rfl, parse_num (by omega) (by omega), parse_num (by omega) (by omega)]
theorem jw3 (a b x y z : ByteArray) : jw [a, b, x, y, z] 3 = (((((⟨#[]⟩ : ByteArray) ++ x) ++ (⟨#[32]⟩ : ByteArray)) ++ y) ++ (⟨#[32]⟩ : ByteArray)) ++ z := rfl
theorem jw2 (a b x y : ByteArray) : jw [a, b, x, y] 2 = (((⟨#[]⟩ : ByteArray) ++ x) ++ (⟨#[32]⟩ : ByteArray)) ++ y := rfl
theorem jw4 (a b x y z u : ByteArray) : jw [a, b, x, y, z, u] 4 = (((((((⟨#[]⟩ : ByteArray) ++ x) ++ (⟨#[32]⟩ : ByteArray)) ++ y) ++ (⟨#[32]⟩ : ByteArray)) ++ z) ++ (⟨#[32]⟩ : ByteArray)) ++ u := rfl
theorem mk3 (x y z : List UInt8) : (((((⟨#[]⟩ : ByteArray) ++ mkB x) ++ (⟨#[32]⟩ : ByteArray)) ++ mkB y) ++ (⟨#[32]⟩ : ByteArray)) ++ mkB z = mkB (((((([] : List UInt8) ++ x) ++ [32]) ++ y) ++ [32]) ++ z) := by
  show ((((mkB [] ++ mkB x) ++ mkB [32]) ++ mkB y) ++ mkB [32]) ++ mkB z = _
  rw [mkB_app, mkB_app, mkB_app, mkB_app, mkB_app]
theorem mk2 (x y : List UInt8) : (((⟨#[]⟩ : ByteArray) ++ mkB x) ++ (⟨#[32]⟩ : ByteArray)) ++ mkB y = mkB (((([] : List UInt8) ++ x) ++ [32]) ++ y) := by
  show ((mkB [] ++ mkB x) ++ mkB [32]) ++ mkB y = _
  rw [mkB_app, mkB_app, mkB_app]
theorem ctx_pieces (x : Ctx) (h1 : 1 ≤ x.f1 ∧ x.f1 ≤ 4) : pieces 32 (ctxLine x) = mkB wC :: numB x.f0 :: (kwd x.f1).map mkB := by
  unfold pieces
  rw [ctx_mk x h1, mkB_list, line_split _ _ (itoa_nosp _), (tlK_split h1).1]
  rfl
theorem kindS_tlK {k : Int} (h : 1 ≤ k ∧ k ≤ 4) : kindS (mkB (tlK k)) = k := by
  unfold kindS
  rw [mkB_lst]
  rcases k4 h with rfl | rfl | rfl | rfl
  · rfl
  · rfl
  · rfl
  · rfl
theorem jw_kwd (a b : ByteArray) {k : Int} (h : 1 ≤ k ∧ k ≤ 4) : jw (a :: b :: (kwd k).map mkB) ((a :: b :: (kwd k).map mkB).length - 2) = mkB (tlK k) ∧ 4 ≤ (a :: b :: (kwd k).map mkB).length := by
  rcases k4 h with rfl | rfl | rfl | rfl
  · exact ⟨(jw3 a b _ _ _).trans (mk3 _ _ _), Nat.le_of_ble_eq_true rfl⟩
  · exact ⟨(jw3 a b _ _ _).trans (mk3 _ _ _), Nat.le_of_ble_eq_true rfl⟩
  · exact ⟨(jw3 a b _ _ _).trans (mk3 _ _ _), Nat.le_of_ble_eq_true rfl⟩
  · exact ⟨(jw2 a b _ _).trans (mk2 _ _), Nat.le_of_ble_eq_true rfl⟩
theorem addS_ctx (st : List Ctx × List Rel) (x : Ctx) (h0 : 1 ≤ x.f0 ∧ x.f0 ≤ 999) (h1 : 1 ≤ x.f1 ∧ x.f1 ≤ 4) : okS (ctxLine x) = true ∧ addS st (ctxLine x) = (st.1 ++ [x], st.2) := by
  obtain ⟨hj, hlen⟩ := jw_kwd (mkB wC) (numB x.f0) h1
  have hp := ctx_pieces x h1
  have hn : nS (ctxLine x) = (x.f0, true) := by
    unfold nS
    rw [hp]
    exact parse_num (by omega) (by omega)
  have hk : kS (ctxLine x) = x.f1 := by
    unfold kS
    rw [hp, hj, kindS_tlK h1]
  refine ⟨?_, ?_⟩
  · unfold okS
    rw [hn, hk, hp, decide_eq_true hlen, decide_eq_true (show 0 < x.f1 by omega)]
    rfl
  · unfold addS
    rw [hk, hn, if_pos (by omega)]
theorem rel_pieces (x : Rel) : pieces 32 (relLine x) = [mkB wC, numB x.f0, mkB [108, 105, 101, 115], mkB [97, 98, 111, 118, 101], mkB [99, 111, 110, 116, 101, 120, 116], mkB (Lib.itoa x.f1 ++ [46])] := by
  unfold pieces
  rw [rel_mk x, mkB_list, line_split _ _ (itoa_nosp _), tlR_split]
  rfl
theorem addS_rel (st : List Ctx × List Rel) (x : Rel) (h0 : 1 ≤ x.f0 ∧ x.f0 ≤ 999) (h1 : 1 ≤ x.f1 ∧ x.f1 ≤ 999) : okS (relLine x) = true ∧ addS st (relLine x) = (st.1, st.2 ++ [x]) := by
  have hp := rel_pieces x
  have hn : nS (relLine x) = (x.f0, true) := by
    unfold nS
    rw [hp]
    exact parse_num (by omega) (by omega)
  have hk : kS (relLine x) = 0 := by
    unfold kS
    rw [hp]
    show kindS (jw [mkB wC, numB x.f0, mkB [108, 105, 101, 115], mkB [97, 98, 111, 118, 101], mkB [99, 111, 110, 116, 101, 120, 116], mkB (Lib.itoa x.f1 ++ [46])] 4) = 0
    rw [jw4, mk3]
    rw [show ∀ a : List UInt8, (mkB a ++ (⟨#[32]⟩ : ByteArray)) ++ mkB (Lib.itoa x.f1 ++ [46]) = mkB ((a ++ [32]) ++ (Lib.itoa x.f1 ++ [46])) from fun a => by show (mkB a ++ mkB [32]) ++ mkB _ = _; rw [mkB_app, mkB_app]]
    unfold kindS
    rw [mkB_lst]
    have no : ∀ k, 1 ≤ k ∧ k ≤ 4 → ¬ tlK k = (((((((([] : List UInt8) ++ [108, 105, 101, 115]) ++ [32]) ++ [97, 98, 111, 118, 101]) ++ [32]) ++ [99, 111, 110, 116, 101, 120, 116]) ++ [32]) ++ (Lib.itoa x.f1 ++ [46])) := by
      intro k hk e
      obtain ⟨r, hr⟩ := tK_head k
      rw [tK_eq hk, hr] at e
      have := congrArg List.head? e
      exact absurd (Option.some.inj this) (by decide)
    rw [if_neg (no 1 (by omega)), if_neg (no 2 (by omega)), if_neg (no 3 (by omega)), if_neg (no 4 (by omega))]
  have hl : lastS (relLine x) = mkB (Lib.itoa x.f1 ++ [46]) := by
    unfold lastS
    rw [hp]
    rfl
  have hm : mS (relLine x) = (x.f1, true) := by
    unfold mS
    rw [hl, mkB_extract, mkB_size, List.length_append, List.length_singleton, Nat.add_sub_cancel, List.drop_zero, Nat.sub_zero, List.take_left]
    exact parse_num (by omega) (by omega)
  refine ⟨?_, ?_⟩
  · unfold okS
    rw [hn, hk, hp, hm, hl, decide_eq_true (show (mkB (Lib.itoa x.f1 ++ [46])).toList ≠ [] by rw [mkB_lst]; simp)]
    rfl
  · unfold addS
    rw [hk, hn, hm, if_neg (by omega)]
theorem fold_lines (add : List Ctx × List Rel → ByteArray → List Ctx × List Rel) (cs : List Ctx) (rs : List Rel) (hc : ∀ x ∈ cs, ∀ st, add st (ctxLine x) = (st.1 ++ [x], st.2)) (hr : ∀ x ∈ rs, ∀ st, add st (relLine x) = (st.1, st.2 ++ [x])) : (recLines cs rs).foldl add ([], []) = (cs, rs) := by
  have g1 : ∀ (c : List Ctx) (a : List Ctx) (b : List Rel), (∀ x ∈ c, ∀ st, add st (ctxLine x) = (st.1 ++ [x], st.2)) → (c.map ctxLine).foldl add (a, b) = (a ++ c, b) := by
    intro c
    induction c with
    | nil => intro a b _; simp
    | cons y c ih =>
      intro a b h
      rw [List.map_cons, List.foldl_cons, h y List.mem_cons_self, ih _ _ (fun x hx => h x (List.mem_cons_of_mem _ hx))]
      simp
  have g2 : ∀ (c : List Rel) (a : List Ctx) (b : List Rel), (∀ x ∈ c, ∀ st, add st (relLine x) = (st.1, st.2 ++ [x])) → (c.map relLine).foldl add (a, b) = (a, b ++ c) := by
    intro c
    induction c with
    | nil => intro a b _; simp
    | cons y c ih =>
      intro a b h
      rw [List.map_cons, List.foldl_cons, h y List.mem_cons_self, ih _ _ (fun x hx => h x (List.mem_cons_of_mem _ hx))]
      simp
  unfold recLines
  rw [List.foldl_append, g1 cs [] [] hc, g2 rs _ [] hr]
  simp
theorem foldI_eq (M : List ByteArray) : ∀ i, i ≤ M.length → foldI (M.map numI) (M.map restI) i = (M.take i).foldl addL ([], [])
  | 0, _ => rfl
  | i + 1, hi => by
    have ih := foldI_eq M i (by omega)
    rw [foldI, ih, List.take_succ_eq_append_getElem (show i < M.length by omega), List.foldl_append, getD_in (by rw [List.length_map]; omega), getD_in (by rw [List.length_map]; omega), List.getElem_map, List.getElem_map]
    rfl
theorem told_valid {cs : List Ctx} {rs : List Rel} {s : ByteArray} (h : ToldR cs rs s) : (∀ x ∈ cs, (1 ≤ x.f0 ∧ x.f0 ≤ 999) ∧ (1 ≤ x.f1 ∧ x.f1 ≤ 4)) ∧ (∀ x ∈ rs, (1 ≤ x.f0 ∧ x.f0 ≤ 999) ∧ (1 ≤ x.f1 ∧ x.f1 ≤ 999)) ∧ cs.length ≤ 10 ∧ rs.length ≤ 24 := by
  obtain ⟨a, b, c, d⟩ := recOk_spec h.1
  exact ⟨c, d, a, b⟩
theorem told_pieces {cs : List Ctx} {rs : List Rel} {s : ByteArray} (h : ToldR cs rs s) : pieces 10 s = recLines cs rs ++ [mkB []] := by
  obtain ⟨c, d, _, _⟩ := told_valid h
  rw [← h.2]
  exact rec_pieces cs rs (fun x hx => (c x hx).2)
theorem told_size {cs : List Ctx} {rs : List Rel} {s : ByteArray} (h : ToldR cs rs s) : s.size ≤ 4000 := by
  obtain ⟨c, d, a, b⟩ := told_valid h
  rw [← h.2]
  have := nl_size (cs.map ctxLine ++ rs.map relLine) (⟨#[]⟩ : ByteArray) 71 (by
    intro l hl
    rcases List.mem_append.1 hl with hl | hl
    · obtain ⟨x, hx, rfl⟩ := List.mem_map.1 hl
      have := ctxLine_size x ⟨by have := c x hx; omega, by have := c x hx; omega⟩ (c x hx).2
      omega
    · obtain ⟨x, hx, rfl⟩ := List.mem_map.1 hl
      exact relLine_size x ⟨by have := d x hx; omega, by have := d x hx; omega⟩ ⟨by have := d x hx; omega, by have := d x hx; omega⟩)
  rw [List.length_append, List.length_map, List.length_map] at this
  have z : (⟨#[]⟩ : ByteArray).size = 0 := rfl
  unfold recText
  omega
/-- What a reading of English answers: a record that tells the text, or none. -/
def Answer (s : ByteArray) (v : List Ctx × List Rel × Bool) : Prop := (v = ([], [], false) ∧ ∀ cs rs, ¬ ToldR cs rs s) ∨ (∃ cs rs, v = (cs, rs, true) ∧ ToldR cs rs s ∧ ∀ cs' rs', ToldR cs' rs' s → cs' = cs ∧ rs' = rs)
theorem answer_eq {s : ByteArray} {v v' : List Ctx × List Rel × Bool} (h : Answer s v) (h' : Answer s v') : v = v' := by
  rcases h with ⟨rfl, hn⟩ | ⟨cs, rs, rfl, ht, hu⟩
  · rcases h' with ⟨rfl, _⟩ | ⟨cs', rs', _, ht', _⟩
    · rfl
    · exact absurd ht' (hn _ _)
  · rcases h' with ⟨_, hn⟩ | ⟨cs', rs', rfl, ht', _⟩
    · exact absurd ht (hn _ _)
    · obtain ⟨rfl, rfl⟩ := hu _ _ ht'
      rfl
theorem specAnswer (s : ByteArray) (hs : s.size ≤ 1048576) : ∃ v, Ev (fun k => spec_EnglishToRecord.f k s) v ∧ Answer s v := by
  have hsp := l1Split_ev s 10 (by omega) 10 rfl
  have hsp' : Ev (fun k => spec_l1Split.f k s 10) (pieces 10 s) := hsp
  have jt : ∀ (Q : List ByteArray) (b : Bool), b = true → Ev (fun k => spec_EnglishToRecord.j0 k s Q b) ([], [], false) := fun Q b hb => Ev.step (fun k => rfl) (ev_pos hb (ev_now rfl))
  by_cases h4 : (s.size : Int) > 4000
  · refine ⟨([], [], false), Ev.bind hsp' (ev_pos h4 (jt _ true rfl)), .inl ⟨rfl, fun cs rs ht => ?_⟩⟩
    have := told_size ht
    omega
  have hne := pieces_ne 10 s
  have hlen := pieces_len 10 s
  have hmem := pieces_mem 10 s
  generalize hP : pieces 10 s = P at hsp' hne hlen hmem
  have hwl : wrap64 ((P.length : Int) - 1) = ((P.length - 1 : Nat) : Int) := wrap_pred (by omega) (by omega)
  obtain ⟨b, e2, e3⟩ := specRecLoop s P (by omega) (by omega) (fun l hl => by have := hmem l hl; omega)
  have told : ∀ cs rs, ToldR cs rs s → P = recLines cs rs ++ [mkB []] ∧ foldS P (P.length - 1) = (cs, rs) ∧ ∀ i, i < P.length - 1 → okS (P.getD i ByteArray.empty) = true := by
    intro cs rs ht
    obtain ⟨c, d, _, _⟩ := told_valid ht
    have hp := told_pieces ht
    rw [hP] at hp
    have hl1 : P.length - 1 = (recLines cs rs).length := by rw [hp, List.length_append, List.length_singleton]; omega
    refine ⟨hp, ?_, ?_⟩
    · unfold foldS
      rw [hl1, hp, List.take_left]
      exact fold_lines addS cs rs (fun x hx st => (addS_ctx st x (c x hx).1 (c x hx).2).2) (fun x hx st => (addS_rel st x (d x hx).1 (d x hx).2).2)
    · intro i hi
      rw [hl1] at hi
      have : P.getD i ByteArray.empty = (recLines cs rs)[i] := by
        rw [hp, List.getD_eq_getElem?_getD, List.getElem?_append_left hi, List.getElem?_eq_getElem hi]
        rfl
      rw [this]
      have hmm := List.getElem_mem hi
      generalize (recLines cs rs)[i] = l at hmm
      rcases List.mem_append.1 hmm with hl | hl
      · obtain ⟨x, hx, rfl⟩ := List.mem_map.1 hl
        exact (addS_ctx ([], []) x (c x hx).1 (c x hx).2).1
      · obtain ⟨x, hx, rfl⟩ := List.mem_map.1 hl
        exact (addS_rel ([], []) x (d x hx).1 (d x hx).2).1
  by_cases hlast : (rdOf ByteArray.empty P (wrap64 ((P.length : Int) - 1))).toList = []
  · refine ⟨_, Ev.bind hsp' (ev_neg h4 (ev_pos (by omega) (ev_pos (by omega) (Ev.step (fun k => rfl) (ev_neg (by rw [hlast]; decide) e2))))), ?_⟩
    cases hb : b
    · rw [hb] at e3
      refine .inl ⟨rfl, fun cs rs ht => ?_⟩
      obtain ⟨_, hf, ho⟩ := told cs rs ht
      have := e3.2 ⟨ho, by rw [hf]; exact ht⟩
      cases this
    · rw [hb] at e3
      refine .inr ⟨_, _, rfl, (e3.1 rfl).2, fun cs' rs' ht => ?_⟩
      obtain ⟨_, hf, _⟩ := told cs' rs' ht
      rw [hf]
      exact ⟨rfl, rfl⟩
  · refine ⟨([], [], false), Ev.bind hsp' (ev_neg h4 (ev_pos (by omega) (ev_pos (by omega) (jt _ _ (bne_iff_ne.2 hlast))))), .inl ⟨rfl, fun cs rs ht => hlast ?_⟩⟩
    obtain ⟨hp, _, _⟩ := told cs rs ht
    rw [hwl]
    unfold rdOf
    rw [Int.toNat_natCast, hp, List.length_append, List.length_singleton, Nat.add_sub_cancel, List.getD_eq_getElem?_getD, List.getElem?_append_right (Nat.le_refl _), Nat.sub_self]
    exact mkB_lst []
theorem implAnswer (s : ByteArray) : ∃ v, Ev (fun k => impl_EnglishToRecord.f k s) v ∧ Answer s v := by
  by_cases h4 : (s.size : Int) > 4000
  · refine ⟨([], [], false), Ev.bind (a := (([] : List Int), ([] : List ByteArray), false)) (ev_pos h4 (ev_now rfl)) (ev_neg (by simp) (ev_now rfl)), .inl ⟨rfl, fun cs rs ht => ?_⟩⟩
    have := told_size ht
    omega
  have hsp' : strings_Split.f s (⟨#[10]⟩ : ByteArray) = some (pieces 10 s) := split_f s 10 (by omega)
  have hne := pieces_ne 10 s
  have hlen := pieces_len 10 s
  have hmem := pieces_mem 10 s
  generalize hP : pieces 10 s = P at hsp' hne hlen hmem
  have hwl : wrap64 ((P.length : Int) - 1) = ((P.length - 1 : Nat) : Int) := wrap_pred (by omega) (by omega)
  have hM : P.take (wrap64 ((P.length : Int) - 1)).toNat = P.take (P.length - 1) := by rw [hwl, Int.toNat_natCast]
  have hMl : (P.take (P.length - 1)).length = P.length - 1 := by rw [List.length_take]; omega
  have hMs : ∀ l ∈ P.take (P.length - 1), l.size ≤ 4000 := fun l hl => by have := hmem l (List.mem_of_mem_take hl); omega
  generalize hQ : P.take (P.length - 1) = M at hM hMl hMs
  have hsent := sentLoop M (by omega) hMs
  have hfirst : ∀ v, Ev (fun k => impl_sentences.l0 k ([] : List Int) ([] : List ByteArray) M (M.length : Int) 0) v → Ev (fun k => impl_sentences.f k s) v := by
    intro v hv
    refine ev_neg h4 (ev_bind0 hsp' (ev_pos (by omega) (ev_pos (by omega) ?_)))
    rw [hM]
    exact hv
  have told : ∀ cs rs, ToldR cs rs s → M = recLines cs rs := by
    intro cs rs ht
    have hp := told_pieces ht
    rw [hP] at hp
    have hl1 : P.length - 1 = (recLines cs rs).length := by rw [hp, List.length_append, List.length_singleton]; omega
    rw [← hQ, hl1, hp, List.take_left]
  have tok : ∀ cs rs, ToldR cs rs s → (List.range M.length).all (fun i => okI (M.getD i ByteArray.empty)) = true := by
    intro cs rs ht
    obtain ⟨c, d, _, _⟩ := told_valid ht
    rw [all_range]
    intro i hi
    rw [getD_in hi]
    have hmm := List.getElem_mem hi
    generalize M[i] = l at hmm
    rw [told cs rs ht] at hmm
    rcases List.mem_append.1 hmm with hl | hl
    · obtain ⟨x, hx, rfl⟩ := List.mem_map.1 hl
      exact (addL_ctx ([], []) x (c x hx).1 (c x hx).2).1
    · obtain ⟨x, hx, rfl⟩ := List.mem_map.1 hl
      exact (addL_rel ([], []) x (d x hx).1 (d x hx).2).1
  by_cases hall : (List.range M.length).all (fun i => okI (M.getD i ByteArray.empty)) = true
  · rw [if_pos hall] at hsent
    obtain ⟨b, e2, e3⟩ := implRecLoop s (M.map numI) (M.map restI) (by rw [List.length_map]; omega) (by rw [List.length_map, List.length_map]) (fun r hr => by
      obtain ⟨l, hl, rfl⟩ := List.mem_map.1 hr
      exact restI_size l (hMs l hl))
    have hfold : foldI (M.map numI) (M.map restI) (M.map numI).length = M.foldl addL ([], []) := by
      rw [List.length_map, foldI_eq M _ (Nat.le_refl _), List.take_length]
    have tfold : ∀ cs rs, ToldR cs rs s → foldI (M.map numI) (M.map restI) (M.map numI).length = (cs, rs) := by
      intro cs rs ht
      obtain ⟨c, d, _, _⟩ := told_valid ht
      rw [hfold, told cs rs ht]
      exact fold_lines addL cs rs (fun x hx st => (addL_ctx st x (c x hx).1 (c x hx).2).2) (fun x hx st => (addL_rel st x (d x hx).1 (d x hx).2).2)
    refine ⟨_, Ev.bind (hfirst _ hsent) (ev_pos rfl e2), ?_⟩
    cases hb : b
    · rw [hb] at e3
      refine .inl ⟨rfl, fun cs rs ht => ?_⟩
      have := e3.2 (by rw [tfold cs rs ht]; exact ht)
      cases this
    · rw [hb] at e3
      refine .inr ⟨_, _, rfl, e3.1 rfl, fun cs' rs' ht => ?_⟩
      rw [tfold cs' rs' ht]
      exact ⟨rfl, rfl⟩
  · rw [if_neg hall] at hsent
    exact ⟨([], [], false), Ev.bind (hfirst _ hsent) (ev_neg (by simp) (ev_now rfl)), .inl ⟨rfl, fun cs rs ht => hall (tok cs rs ht)⟩⟩
theorem answer_small {s : ByteArray} {v : List Ctx × List Rel × Bool} (h : Answer s v) : v.1.length ≤ 10 ∧ v.2.1.length ≤ 24 := by
  rcases h with ⟨rfl, _⟩ | ⟨cs, rs, rfl, ht, _⟩
  · exact ⟨Nat.zero_le _, Nat.zero_le _⟩
  · obtain ⟨_, _, a, b⟩ := told_valid ht
    exact ⟨a, b⟩
theorem record_both (s : ByteArray) (hs : s.size ≤ 1048576) : ∃ (cs : List Ctx) (rs : List Rel) (b : Bool), Ev (fun k => spec_EnglishToRecord.f k s) (cs, rs, b) ∧ Ev (fun k => impl_EnglishToRecord.f k s) (cs, rs, b) ∧ cs.length ≤ 10 ∧ rs.length ≤ 24 := by
  obtain ⟨v, h1, a1⟩ := specAnswer s hs
  obtain ⟨v', h2, a2⟩ := implAnswer s
  obtain rfl := answer_eq a1 a2
  have := answer_small a1
  exact ⟨_, _, _, h1, h2, this.1, this.2⟩
end Go.Proofs.YtdekadogbpkdoaaGreatDoor.X
set_option linter.unusedVariables false
set_option linter.unusedSimpArgs false
namespace Go.Proofs.YtdekadogbpkdoaaGreatDoor.X
open Go.RowKit Go.Proofs.YtdekadogbpkdoaaGreatDoorW.PrintWords Go.Proofs.YtdekadogbpkdoaaGreatDoor.E
def mkC (q : Int) (_ : S38) : S38 := ⟨q, q + 1⟩
def mkR (q : Int) (_ : S40) : S40 := ⟨q, q + 1⟩
theorem sum2 {α : Type} (L : List α) : (L.map (fun _ => 2)).sum = 2 * L.length := by
  induction L with
  | nil => rfl
  | cons e L ih => rw [List.map_cons, List.sum_cons, ih, List.length_cons]; omega
theorem markC (L : List S38) (q : Int) (h0 : 0 ≤ q) (hq : q ≤ 4294967296) (hL : L.length ≤ 1048576) : Ev (fun k => laws_markContextS.f k L q) (q + (2 * L.length : Nat), markAll mkC (fun _ => 2) q L) := by
  have h := ev_mark (L := fun k l q i => laws_markContextS.l0 k l q i) L mkC (fun _ => 2) (fun out q ho => Ev.step (fun k => rfl) (ev_neg (by omega) (ev_now rfl))) ?hs q h0 (by rw [sum2]; omega)
  case hs =>
    intro out q i x y hi ho hx hxm hg h0 hb h
    have hw1 : wrap64 (q + 1) = q + 1 := wrap_id (by omega) (by omega)
    have hw2 : wrap64 (q + 1 + 1) = q + (2 : Nat) := by rw [wrap_id (by omega) (by omega)]; omega
    refine Ev.step (fun k => rfl) (ev_pos (by omega) (ev_pos (by omega) (ev_some ?_)))
    rw [hw1, hw2, wrap_succ hi (by omega), Int.toNat_natCast, List.set_set, show (rd_T38 (out.set i (⟨q, (rd_T38 out i).f1⟩ : S38)) (i : Int)).f0 = q by unfold rd_T38; rw [Int.toNat_natCast, List.getD_eq_getElem?_getD, List.getElem?_set_self (by omega)]; rfl]
    exact h
  rw [sum2] at h
  exact h
theorem markR (L : List S40) (q : Int) (h0 : 0 ≤ q) (hq : q ≤ 4294967296) (hL : L.length ≤ 1048576) : Ev (fun k => laws_markRelationS.f k L q) (q + (2 * L.length : Nat), markAll mkR (fun _ => 2) q L) := by
  have h := ev_mark (L := fun k l q i => laws_markRelationS.l0 k l q i) L mkR (fun _ => 2) (fun out q ho => Ev.step (fun k => rfl) (ev_neg (by omega) (ev_now rfl))) ?hs q h0 (by rw [sum2]; omega)
  case hs =>
    intro out q i x y hi ho hx hxm hg h0 hb h
    have hw1 : wrap64 (q + 1) = q + 1 := wrap_id (by omega) (by omega)
    have hw2 : wrap64 (q + 1 + 1) = q + (2 : Nat) := by rw [wrap_id (by omega) (by omega)]; omega
    refine Ev.step (fun k => rfl) (ev_pos (by omega) (ev_pos (by omega) (ev_some ?_)))
    rw [hw1, hw2, wrap_succ hi (by omega), Int.toNat_natCast, List.set_set, show (rd_T40 (out.set i (⟨q, (rd_T40 out i).f1⟩ : S40)) (i : Int)).f0 = q by unfold rd_T40; rw [Int.toNat_natCast, List.getD_eq_getElem?_getD, List.getElem?_set_self (by omega)]; rfl]
    exact h
  rw [sum2] at h
  exact h
theorem markRec (M1 : List S38) (M2 : List S40) (h1 : M1.length ≤ 1048576) (h2 : M2.length ≤ 1048576) : Ev (fun k => laws_markRecord.f k M1 M2 1) (1 + (2 * M1.length : Nat) + (2 * M2.length : Nat), markAll mkC (fun _ => 2) 1 M1, markAll mkR (fun _ => 2) (1 + (2 * M1.length : Nat)) M2) := by
  unfold laws_markRecord.f
  exact Ev.bind (markC M1 1 (by omega) (by omega) h1) (Ev.bind (markR M2 _ (by omega) (by omega) h2) (ev_now rfl))
end Go.Proofs.YtdekadogbpkdoaaGreatDoor.X
set_option linter.unusedVariables false
set_option linter.unusedSimpArgs false
namespace Go.Proofs.YtdekadogbpkdoaaGreatDoor.X
open Go.RowKit Go.Proofs.YtdekadogbpkdoaaGreatDoorW.PrintWords Go.Proofs.YtdekadogbpkdoaaGreatDoor.E
theorem heldC (L : List S38) (q0 : Int) (h0 : 0 ≤ q0) (hq : q0 ≤ 4294967296) (hL : L.length ≤ 1048576) : Ev (fun k => laws_heldContextS.f k (markAll mkC (fun _ => 2) q0 L) q0) (q0 + (2 * L.length : Nat)) := by
  have hlen := markAll_length mkC (fun _ => 2) L q0
  have h := ev_held (H := fun k q i => laws_heldContextS.l0 k (markAll mkC (fun _ => 2) q0 L) q i) L (markAll mkC (fun _ => 2) q0 L) mkC (fun _ => 2) q0 rfl (fun q => Ev.step (fun k => rfl) (ev_neg (by omega) (ev_now rfl))) ?hs h0 (by rw [sum2]; omega)
  case hs =>
    intro q i x y hi hxm hx hg h0 hb h
    have hw1 : wrap64 (q + 1) = q + 1 := wrap_id (by omega) (by omega)
    have hw2 : wrap64 (q + 1 + 1) = q + (2 : Nat) := by rw [wrap_id (by omega) (by omega)]; omega
    have hr : rd_T38 (markAll mkC (fun _ => 2) q0 L) (i : Int) = mkC q x := by unfold rd_T38; rw [Int.toNat_natCast]; exact hg _
    refine Ev.step (fun k => rfl) (ev_pos (by omega) (ev_pos (by omega) ?_))
    rw [hr, hw1, hw2, wrap_succ hi (by omega)]
    exact ev_pos rfl (ev_pos rfl h)
  rw [sum2] at h
  exact h
theorem heldR (L : List S40) (q0 : Int) (h0 : 0 ≤ q0) (hq : q0 ≤ 4294967296) (hL : L.length ≤ 1048576) : Ev (fun k => laws_heldRelationS.f k (markAll mkR (fun _ => 2) q0 L) q0) (q0 + (2 * L.length : Nat)) := by
  have hlen := markAll_length mkR (fun _ => 2) L q0
  have h := ev_held (H := fun k q i => laws_heldRelationS.l0 k (markAll mkR (fun _ => 2) q0 L) q i) L (markAll mkR (fun _ => 2) q0 L) mkR (fun _ => 2) q0 rfl (fun q => Ev.step (fun k => rfl) (ev_neg (by omega) (ev_now rfl))) ?hs h0 (by rw [sum2]; omega)
  case hs =>
    intro q i x y hi hxm hx hg h0 hb h
    have hw1 : wrap64 (q + 1) = q + 1 := wrap_id (by omega) (by omega)
    have hw2 : wrap64 (q + 1 + 1) = q + (2 : Nat) := by rw [wrap_id (by omega) (by omega)]; omega
    have hr : rd_T40 (markAll mkR (fun _ => 2) q0 L) (i : Int) = mkR q x := by unfold rd_T40; rw [Int.toNat_natCast]; exact hg _
    refine Ev.step (fun k => rfl) (ev_pos (by omega) (ev_pos (by omega) ?_))
    rw [hr, hw1, hw2, wrap_succ hi (by omega)]
    exact ev_pos rfl (ev_pos rfl h)
  rw [sum2] at h
  exact h
theorem heldRec (M1 : List S38) (M2 : List S40) (h1 : M1.length ≤ 1048576) (h2 : M2.length ≤ 1048576) : Ev (fun k => laws_heldRecord.f k (markAll mkC (fun _ => 2) 1 M1) (markAll mkR (fun _ => 2) (1 + (2 * M1.length : Nat)) M2) 1) (1 + (2 * M1.length : Nat) + (2 * M2.length : Nat)) := by
  unfold laws_heldRecord.f
  exact Ev.bind (heldC M1 1 (by omega) (by omega) (by omega)) (ev_neg (by omega) (Ev.bind (heldR M2 _ (by omega) (by omega) (by omega)) (ev_neg (by omega) (ev_now rfl))))
end Go.Proofs.YtdekadogbpkdoaaGreatDoor.X
set_option linter.unusedVariables false
namespace Go.Proofs.YtdekadogbpkdoaaGreatDoor.X
open Go.RowKit Go.Proofs.YtdekadogbpkdoaaGreatDoorW.PrintWords Go.Proofs.YtdekadogbpkdoaaGreatDoor.E

end Go.Proofs.YtdekadogbpkdoaaGreatDoor.X
set_option linter.unusedVariables false
namespace Go.Proofs.YtdekadogbpkdoaaGreatDoor.X
open Go.RowKit Go.Proofs.YtdekadogbpkdoaaGreatDoorW.PrintWords Go.Proofs.YtdekadogbpkdoaaGreatDoor.E
theorem laws_eqContext_ev (x : S38) : Ev (fun k => laws_eqContext.f (x.f0) (x.f1) (x.f0) (x.f1)) true := by
  unfold laws_eqContext.f
  repeat' (first | exact ev_now rfl | refine ev_pos rfl ?_ | refine ev_neg (by simp) ?_)
end Go.Proofs.YtdekadogbpkdoaaGreatDoor.X
set_option linter.unusedVariables false
namespace Go.Proofs.YtdekadogbpkdoaaGreatDoor.X
open Go.RowKit Go.Proofs.YtdekadogbpkdoaaGreatDoorW.PrintWords Go.Proofs.YtdekadogbpkdoaaGreatDoor.E
theorem laws_eqContextS_ev (x : List (S38)) (hl0 : x.length ≤ 9223372036854775807) : Ev (fun k => laws_eqContextS.f k x x) true := by
  unfold laws_eqContextS.f
  refine ev_pos rfl ?_
  refine ev_same (L := fun k i => laws_eqContextS.l0 k x x i) x.length (Ev.step (fun k => rfl) (ev_neg (by omega) (ev_now rfl))) ?_
  intro i hi hk
  refine Ev.step (fun k => rfl) (ev_pos (by omega) (ev_pos (by omega) (ev_pos (by omega) ?_)))
  refine Ev.bind (laws_eqContext_ev _) ?_
  refine ev_pos rfl ?_
  rw [wrap_succ hi (by omega)]
  exact hk
end Go.Proofs.YtdekadogbpkdoaaGreatDoor.X
set_option linter.unusedVariables false
namespace Go.Proofs.YtdekadogbpkdoaaGreatDoor.X
open Go.RowKit Go.Proofs.YtdekadogbpkdoaaGreatDoorW.PrintWords Go.Proofs.YtdekadogbpkdoaaGreatDoor.E
theorem laws_eqRelation_ev (x : S40) : Ev (fun k => laws_eqRelation.f (x.f0) (x.f1) (x.f0) (x.f1)) true := by
  unfold laws_eqRelation.f
  repeat' (first | exact ev_now rfl | refine ev_pos rfl ?_ | refine ev_neg (by simp) ?_)
end Go.Proofs.YtdekadogbpkdoaaGreatDoor.X
set_option linter.unusedVariables false
namespace Go.Proofs.YtdekadogbpkdoaaGreatDoor.X
open Go.RowKit Go.Proofs.YtdekadogbpkdoaaGreatDoorW.PrintWords Go.Proofs.YtdekadogbpkdoaaGreatDoor.E
theorem laws_eqRelationS_ev (x : List (S40)) (hl0 : x.length ≤ 9223372036854775807) : Ev (fun k => laws_eqRelationS.f k x x) true := by
  unfold laws_eqRelationS.f
  refine ev_pos rfl ?_
  refine ev_same (L := fun k i => laws_eqRelationS.l0 k x x i) x.length (Ev.step (fun k => rfl) (ev_neg (by omega) (ev_now rfl))) ?_
  intro i hi hk
  refine Ev.step (fun k => rfl) (ev_pos (by omega) (ev_pos (by omega) (ev_pos (by omega) ?_)))
  refine Ev.bind (laws_eqRelation_ev _) ?_
  refine ev_pos rfl ?_
  rw [wrap_succ hi (by omega)]
  exact hk
end Go.Proofs.YtdekadogbpkdoaaGreatDoor.X
set_option linter.unusedVariables false
namespace Go.Proofs.YtdekadogbpkdoaaGreatDoor.X
open Go.RowKit Go.Proofs.YtdekadogbpkdoaaGreatDoorW.PrintWords Go.Proofs.YtdekadogbpkdoaaGreatDoor.E
theorem laws_eqRecord_ev (x : S25) (hl0 : x.f0.length ≤ 9223372036854775807) (hl1 : x.f1.length ≤ 9223372036854775807) : Ev (fun k => laws_eqRecord.f k (x.f0) (x.f1) (x.f0) (x.f1)) true := by
  unfold laws_eqRecord.f
  repeat' (first | exact ev_now rfl | refine ev_pos rfl ?_ | refine ev_neg (by simp) ?_ | refine Ev.bind (laws_eqContextS_ev _ (by assumption)) ?_ | refine Ev.bind (laws_eqRelationS_ev _ (by assumption)) ?_)
end Go.Proofs.YtdekadogbpkdoaaGreatDoor.X
set_option linter.unusedVariables false
set_option linter.unusedSimpArgs false
namespace Go.Proofs.YtdekadogbpkdoaaGreatDoor.Pure
open Go.RowKit Go.Proofs.YtdekadogbpkdoaaGreatDoor.X Go.Proofs.YtdekadogbpkdoaaGreatDoorW.PrintWords Go.Proofs.YtdekadogbpkdoaaGreatDoor.E
theorem FnExactEnglishToRecord : PureFnExactEnglishToRecord := by
  intro s hs
  unfold laws_FnExactEnglishToRecord.f
  by_cases c : (s.size : Int) > 1048576
  · exact ev_get (ev_pos c (ev_now rfl))
  obtain ⟨M1, M2, b, h1, h2, hl1, hl2⟩ := record_both s (by omega)
  have heq : Ev (fun k => laws_eqRecord.f k M1 M2 M1 M2) true := laws_eqRecord_ev (⟨M1, M2⟩ : S25) (by show M1.length ≤ _; omega) (by show M2.length ≤ _; omega)
  have hm := markRec M1 M2 (by omega) (by omega)
  have hh := heldRec M1 M2 (by omega) (by omega)
  have hb : ¬ ((b != b) = true) := by simp
  refine ev_get (ev_neg c (Ev.bind h1 (Ev.bind h2 (Ev.bind heq (ev_pos rfl ?_)))))
  refine Ev.step (fun k => rfl) (ev_neg hb (Ev.bind hm (Ev.bind hh (ev_neg (by omega) (ev_pos rfl (Ev.bind h2 (Ev.bind heq (ev_pos rfl ?_))))))))
  exact Ev.step (fun k => rfl) (ev_neg hb (Ev.bind hh (ev_neg (by omega) (ev_pos rfl (ev_now rfl)))))
end Go.Proofs.YtdekadogbpkdoaaGreatDoor.Pure
namespace Go.Proofs.YtdekadogbpkdoaaGreatDoor.fnExactEnglishToRecord
open Go.ChangeShapes Go.WideShapes Go.ChangeAt Go.RowKit Go.Joins Go.Proofs.YtdekadogbpkdoaaGreatDoorW.PrintWords Go.Proofs.YtdekadogbpkdoaaGreatDoor.Open Go.Proofs.YtdekadogbpkdoaaGreatDoor.X
open Go.ChangeMaps (open_string shut_string)
set_option linter.unusedVariables false
theorem own : ownKnob Tryz.prog.godebug = none := by kernel_rfl
def laid : List (String × DataW Unit) := [("math/bits.deBruijn32tab", Rows.laid_math_bits_deBruijn32tab), ("math/bits.deBruijn64tab", Rows.laid_math_bits_deBruijn64tab), ("internal/strconv.uint64pow10", Rows.laid_internal_strconv_uint64pow10), ("unicode/utf8.acceptRanges", Rows.laid_unicode_utf8_acceptRanges), ("strconv.ErrRange", Rows.laid_strconv_ErrRange), ("strconv.ErrSyntax", Rows.laid_strconv_ErrSyntax), ("unicode/utf8.first", Rows.laid_unicode_utf8_first)]
theorem door_met (os : Os) (args : Array Value) : laidMetH Tryz.prog laid ((World.laidAll Tryz.prog os laid).forCall (fun _ _ => 0) ⟨#[], args, []⟩).memory := by
  rw [MakeChecks.laidMetH_plain _ _ _ (by kernel_rfl)]; exact laidMet_laidAll _ (by kernel_rfl) (by kernel_rfl)
theorem gTab : Tryz.prog.globalNamed "internal/strconv.uint64pow10" = some 3 := by kernel_rfl
theorem gTabType : (Tryz.prog.globals[3]?).map (·.type) = some 113 := by kernel_rfl
theorem cellsT : Tryz.prog.cellsOf 113 = 20 := by kernel_rfl
theorem cellsE : Tryz.prog.cellsOf 92 = 1 := by kernel_rfl
theorem only : laid.filter (fun x => x.1 == "internal/strconv.uint64pow10") = [("internal/strconv.uint64pow10", Lib.tabData .u64 Lib.pow10Tab)] := by kernel_rfl
theorem tableT {W : World} (h : laidMetH Tryz.prog laid W) : GT W := by
  have h2 := h.filter (fun x => x.1 == "internal/strconv.uint64pow10")
  rw [only] at h2
  rw [MakeChecks.laidMetH_plain _ _ _ (by kernel_rfl)] at h2
  exact Lib.tabIs_of_head (rest := []) gTab gTabType Tryz.underlying113 Tryz.underlying92 cellsE cellsT h2
theorem star : "*" ++ "errors.errorString" = "*errors.errorString" := by decide
theorem rowE (u : TypeId) (h : Tryz.prog.typeName? 3 u = some "*errors.errorString") : u = 109 := typeName_ptr_named (nm := "errors.errorString") (by rw [star]; kernel_rfl) (by kernel_rfl) (by decide) u (by rw [star]; exact h)
theorem gErrSyntax : Tryz.prog.globalNamed "strconv.ErrSyntax" = some 1 := by kernel_rfl
theorem onlyErrSyntax : laid.filter (fun x => x.1 == "strconv.ErrSyntax") = [("strconv.ErrSyntax", Rows.laid_strconv_ErrSyntax)] := by kernel_rfl
theorem cellErrSyntax {W : World} (h : laidMetH Tryz.prog laid W) : ∃ t v, W.cell? ⟨1, 0, none⟩ = some (.iface t v) := by
  have h2 := h.filter (fun x => x.1 == "strconv.ErrSyntax")
  rw [onlyErrSyntax] at h2
  rw [MakeChecks.laidMetH_plain _ _ _ (by kernel_rfl)] at h2
  unfold Rows.laid_strconv_ErrSyntax at h2
  obtain ⟨a, s, hv, _, _, _⟩ := laid_sentinel h2 gErrSyntax (by kernel_rfl : (Tryz.prog.globals[1]?).map (·.type) = some 62) Tryz.underlying62 rowE Tryz.underlying109 Tryz.underlying111 rfl rfl Tryz.underlying9 (by kernel_rfl : Tryz.prog.cellsOf 111 = 1) (by kernel_rfl : Tryz.prog.cellsOf 9 = 1)
  exact ⟨_, _, World.var?_cell gErrSyntax hv 0⟩
theorem gErrRange : Tryz.prog.globalNamed "strconv.ErrRange" = some 2 := by kernel_rfl
theorem onlyErrRange : laid.filter (fun x => x.1 == "strconv.ErrRange") = [("strconv.ErrRange", Rows.laid_strconv_ErrRange)] := by kernel_rfl
theorem cellErrRange {W : World} (h : laidMetH Tryz.prog laid W) : ∃ t v, W.cell? ⟨2, 0, none⟩ = some (.iface t v) := by
  have h2 := h.filter (fun x => x.1 == "strconv.ErrRange")
  rw [onlyErrRange] at h2
  rw [MakeChecks.laidMetH_plain _ _ _ (by kernel_rfl)] at h2
  unfold Rows.laid_strconv_ErrRange at h2
  obtain ⟨a, s, hv, _, _, _⟩ := laid_sentinel h2 gErrRange (by kernel_rfl : (Tryz.prog.globals[2]?).map (·.type) = some 62) Tryz.underlying62 rowE Tryz.underlying109 Tryz.underlying111 rfl rfl Tryz.underlying9 (by kernel_rfl : Tryz.prog.cellsOf 111 = 1) (by kernel_rfl : Tryz.prog.cellsOf 9 = 1)
  exact ⟨_, _, World.var?_cell gErrRange hv 0⟩
theorem table {W : World} (h : laidMetH Tryz.prog laid W) (hsh : W.ShapedOpen Tryz.prog) : GE W := ⟨tableT h, cellErrSyntax h, cellErrRange h, Tryz.laysM145.s1_3 W hsh⟩
/-- The wrap of a row with a condition on the world, the world's shape kept for the walk. -/
theorem ret_and_shaped {H : Type} {enc : TypeId × Value → H} {a : Assume} {C : Checked} {os : Os} {f : FuncId} {fn : Func} {s : ChangeSpec} {conds : List PathCond} {apart fresh handsOn again : Bool} {X : World → Array Value → Prop}
    (hX : ∀ (w w' : World) (args : Array Value), w.heap = w'.heap → X w args → X w' args)
    (own : ownKnob C.prog.godebug = none) (started : os.Started) (noInit : C.prog.inits.idxOf? f = none) (hfn : C.prog.funcs[f]? = some fn)
    (witness : ∃ (w : World) (tape : Tape) (i : Input), w.os = os ∧ (w.forCall tape i).Shaped C.prog ∧ i.vars = [] ∧ Input.okWide C.prog (w.forCall tape i) .any w.heap.size f i ∧
      ((s.pre enc C.prog fn conds apart (w.forCall tape i).memory i.args ∧ X (w.forCall tape i).memory i.args) ∧ sizedMet enc C.prog fn (OpenSpec.ofChange s) apart (w.forCall tape i).memory i.args) ∧ a.holds C.prog (lone (Frame.enter C.prog f i.args .normal) [] (w.forCall tape i)))
    (contract : ∀ (W : World) (base : Nat) (args : Array Value) (ds gs : List (DataW H)) (before : List MemPlace),
      (∀ (j : Nat) t v, fn.params[j]? = some t → args[j]? = some v → Value.okWide C.prog W .any base t v) → DataW.Whole enc C.prog fn.params.toList s.vars apart W args.toList ds gs before →
      conds.all (PathCond.test C.prog ⟨fn.params.toList, ds, s.plain.varTypes C.prog, gs⟩) = true → (DataW.weightsEach C.prog (fn.params.toList ++ s.plain.varTypes C.prog) (ds ++ gs)).all (· ≤ reachBytes) = true → X W args →
      W.ShapedOpen C.prog → a.holds C.prog (lone (Frame.enter C.prog f args .normal) [] W) → Calls C.prog f args W fun e W' => ∃ v, e = .returned v ∧ s.post enc C.prog fn apart fresh handsOn again W args v W') :
    ReturnsInHanded a C os f .any (fun w args => (s.pre enc C.prog fn conds apart w args ∧ X w args) ∧ sizedMet enc C.prog fn (OpenSpec.ofChange s) apart w args) (s.post enc C.prog fn apart fresh handsOn again) := by
  refine returnsInHanded_of_calls own started noInit witness ?_
  intro w tape i _ hsh _ hok hpre hholds
  obtain ⟨_, _, _, fn', hfn', _, _, _, _, hval⟩ := hok
  have e : fn' = fn := Option.some.inj (hfn'.symm.trans hfn)
  subst e
  obtain ⟨⟨⟨ds, gs, before, hw, hc⟩, hx⟩, hz⟩ := hpre
  refine (contract (w.forCall tape i) w.heap.size i.args ds gs before hval (DataW.Whole.of_heap (w' := w.forCall tape i) (by rfl) hw) hc (hz.weights hw) (hX _ _ _ (by rfl) hx) hsh hholds).mono fun e W' ⟨v, he, hp⟩ => ?_
  subst he
  exact ChangeSpec.post_blind hp
set_option maxRecDepth 100000 in
theorem lifted (os : Os) (started : os.Started) (H : Type) (enc : TypeId × Value → H) :
    ReturnsInHanded {} Tryz.checked os 3 .any (fun w args => (Rows.fnExactEnglishToRecordSpec.pre enc Tryz.prog Tryz.f3 [] false w args ∧ laidMetH Tryz.prog laid w) ∧ sizedMet enc Tryz.prog Tryz.f3 (OpenSpec.ofChange Rows.fnExactEnglishToRecordSpec) false w args)
      (Rows.fnExactEnglishToRecordSpec.post enc Tryz.prog Tryz.f3 false true false false) := by
  refine ret_and_shaped (C := Tryz.checked) (X := fun w _ => laidMetH Tryz.prog laid w) (fun _ _ _ hh h => h.of_heap hh) own started (by kernel_rfl) Tryz.func3
    (ChangeSpec.witness_shaped (enc := enc) (C := Tryz.checked) (os := os) (X := fun w _ => laidMetH Tryz.prog laid w) false (World.laidAll Tryz.prog os laid) #[.string ByteArray.empty] 8 (World.laidAll_os _ _ _) (World.shaped_of_ZipB (by kernel_rfl) (by kernel_rfl)) (by kernel_rfl) (by kernel_rfl) (by kernel_rfl) (door_met os _)) ?_
  intro W base args ds gs before hval0 hW hcnd hsz0 hL hsh _
  have hval : ∀ (j : Nat) t v, Tryz.f3.params[j]? = some t → args[j]? = some v → Value.okWide Tryz.prog W .any base t v := hval0
  have hW' := hW
  obtain ⟨p, q, hA0, hV, rfl, hfz, hnd⟩ := hW
  have hA : DataW.TrodAll enc Tryz.prog W 0 (fun _ => true) true Tryz.f3.params.toList args.toList ds p := hA0
  rw [Tryz.params3] at hA hval
  obtain ⟨v0, vs0, d0, ds0, p0, q0, hargs, rfl, rfl, h0, r0⟩ := trodAll_cons hA
  obtain ⟨rfl, rfl, rfl⟩ := trodAll_nil r0
  obtain rfl : args = #[v0] := by cases args; simp_all
  obtain ⟨rfl, rfl⟩ := trodVars_none hV
  obtain ⟨a0, rfl, rfl, rfl, y0⟩ := open_string Tryz.underlying9 (hval 0 9 v0 rfl rfl) h0
  have w0 : a0.size ≤ 9223372036854775807 := by simpa [maxLen] using y0
  clear hA0 hval0 hsz0
  obtain ⟨k, hk⟩ := Pure.FnExactEnglishToRecord a0 w0
  refine (X.laws_FnExactEnglishToRecord.calls k a0 true W (table hL hsh) hk (Aside0.mk rfl)).mono ?_
  rintro e W' ⟨he, bel0⟩
  have bel : Below W.heap.size W W' := by first | exact bel0 | exact bel0.below
  subst he
  exact ⟨_, rfl, _, _, _, [], _, [], hW', trodAll_mk1 (shut_bool Tryz.underlying4 _), (trodAll_cons_mk (shut_string Tryz.underlying9 y0) trodAll_mk0), rfl, bel.frame _, fun h => by cases h⟩
theorem over : Rows.fnExactEnglishToRecordRow.holds Tryz.pinned (OpenSpec.ofChange Rows.fnExactEnglishToRecordSpec) :=
  OpenClaim.holds_of_wide 3 Tryz.f3 rfl rfl rfl rfl rfl rfl rfl ⟨rfl, rfl, rfl, rfl, rfl⟩ rfl rfl rfl rfl rfl (by kernel_rfl) Tryz.func3 (by kernel_rfl)
    (of_decide_eq_true (by kernel_rfl)) (by unfold Func.isWrapper; first | (rw [if_pos (by decide +kernel)]; kernel_rfl) | (rw [if_neg (by decide +kernel)]; exact ⟨rfl, rfl⟩))
    (fun os started H enc _ => lifted os started H enc)
theorem proved : Rows.FnExactEnglishToRecordSaid := over
#print axioms proved
theorem plain (f : FuncId) (fn : Func) (hf : Tryz.pinned.checked.prog.funcNamed "loop.example/g00876/laws.FnExactEnglishToRecord" = some f) (hfn : Tryz.pinned.checked.prog.funcs[f]? = some fn) :
    true = Tryz.pinned.checked.prog.looks [] ∧ ∀ (j : Nat) t, fn.params[j]? = some t → Tryz.pinned.checked.prog.wantsStandIn t = false := by
  obtain rfl : f = 3 := Option.some.inj ((show Tryz.prog.funcNamed "loop.example/g00876/laws.FnExactEnglishToRecord" = some 3 by kernel_rfl).symm.trans hf) |>.symm
  obtain rfl : fn = Tryz.f3 := (Option.some.inj (Tryz.func3.symm.trans hfn)).symm
  refine ⟨by kernel_rfl, fun j t ht => ?_⟩
  rw [Tryz.params3] at ht
  have hm := Array.mem_of_getElem? ht
  simp only [List.mem_toArray, List.mem_cons, List.not_mem_nil, or_false] at hm
  rcases hm with rfl
  exact (show Tryz.prog.wantsStandIn 9 = false by kernel_rfl)
theorem card : Rows.FnExactEnglishToRecordCardSaid :=
  Claim7.holds_tied_plain_at .later [] _ _ _ _ proved (fun _ h => by cases h) (by kernel_rfl) (fun _ h => by cases h) fnExactEnglishToRecord_row_tie rfl ⟨rfl, rfl⟩ (by kernel_rfl) rfl plain (by kernel_rfl)
#print axioms card
end Go.Proofs.YtdekadogbpkdoaaGreatDoor.fnExactEnglishToRecord
namespace Go.Proofs.YtdekadogbpkdoaaGreatDoor
/-- The row, under a short name, for the claim. -/
theorem fnExactEnglishToRecord_holds : Rows.FnExactEnglishToRecordSaid := fnExactEnglishToRecord.proved
/-- The card, under a short name. -/
theorem fnExactEnglishToRecordCard_holds : Rows.FnExactEnglishToRecordCardSaid := fnExactEnglishToRecord.card
end Go.Proofs.YtdekadogbpkdoaaGreatDoor
